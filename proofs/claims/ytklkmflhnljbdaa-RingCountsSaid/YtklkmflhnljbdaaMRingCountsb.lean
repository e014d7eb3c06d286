/- Own text: merged by wip/tools/pack.py out of what the law RingCounts reaches. -/
import Derived.Test.YtklkmflhnljbdaaProg
import Derived.Below
import Derived.Deep.Draws
import Derived.Deep.AppendLies
import Derived.Maps.AppendAt
import Derived.OwnWalk
import Derived.Laws.BytesArg
import Derived.Laws.MakeOwn
import Derived.Laws.OwnMore
import Derived.Deep.OwnRows
import Derived.Tactics
import Derived.Lib.ConvBytes
import Derived.Laws.Slices
import Derived.WalkKit
import Derived.KernelRfl
import Derived.RowKit3
import Derived.Deep.LoopGhost
import Derived.Deep.QuietTactic
import Derived.BigQuiet
import Derived.WideLaws
import Derived.Deep.DeepCutAuto
import Derived.Deep.CutBlock
import Derived.Deep.RegionHeld3
import Derived.Laws.Rows
import Derived.Lib.AppendStr
import Derived.ArgAppend
import Derived.Laws.IdiomCopy
import Derived.OrdersHeld
import Derived.Laws.BitsLemmas
import Derived.RowKit
import Derived.Test.YtklkmflhnljbdaaMRingCountsa
namespace Go.Proofs.Ytklkmflhnljbdaa.P
open Go.RowKit Go.Proofs.YtklkmflhnljbdaaW.PrintWords Go.Proofs.YtklkmflhnljbdaaW.PrintLast Go.Proofs.YtklkmflhnljbdaaW.PrintMore
attribute [local go_sem] z17 z19 z1m z1n zU zV z18 z1a   -- for this text's walks alone
set_option linter.unusedVariables false
set_option linter.unusedSimpArgs false
theorem zz88 {p : Prop} (h : p := by rfl) : p := h
theorem zz87 {p : Prop} (h : p := by simp) : p := h
theorem zz86 {p : Prop} (h : p := by omega) : p := h
theorem zz85 {p : Prop} (h : p := by decide) : p := h
theorem zz84 {p : Prop} (h : p := by kernel_rfl) : p := h
theorem zz83 {p : Prop} (h : p := by rw [e_];rfl) : p := h
theorem zz82 {p : Prop} (h : p := by go_simp;rfl) : p := h
theorem zz81 {p : Prop} (h : p := by first|rfl|(simp;done)|(simp [*];done)) : p := h
theorem zz80 {p : Prop} (h : p := by first|(with_reducible assumption)|assumption) : p := h
theorem zz79 {p : Prop} (h : p := by (try simp only [List.map_toArray,List.map_cons,List.map_nil]);first|done|rfl) : p := h
theorem zz78 {p : Prop} (h : p := by have h_:=Kd.z2H HO_6.out (fun _ hk=>hk);intro e_;exact h_ zz83) : p := h
theorem zz77 {p : Prop} (h : p := by have h_:=Kd.z2H HO_9.out (fun _ hk=>hk.2);intro e_;exact h_ zz83) : p := h
theorem zz76 {p : Prop} (h : p := by have h_:=Kd.z2H HO_1.out (fun _ hk=>hk.2.1);intro e_;exact h_ zz83) : p := h
theorem zz75 {p : Prop} (h : p := by have h_:=Kd.z2H HO_5.out (fun _ hk=>hk.1.1);intro e_;exact h_ zz83) : p := h
theorem zz74 {p : Prop} (h : p := by have h_:=Kd.z2H HO_1.out (fun _ hk=>hk.2.2.1);intro e_;exact h_ zz83) : p := h
theorem zz73 {p : Prop} (h : p := by have h_:=Kd.z2H HO_1.out (fun _ hk=>hk.2.2.2.2);intro e_;exact h_ zz83) : p := h
theorem zz72 {p : Prop} (h : p := by have h_:=Kd.z2H HO_1.out (fun _ hk=>hk.2.2.2.1);intro e_;exact h_ zz83) : p := h
theorem zz71 {p : Prop} (h : p := by (with_reducible repeat (first|apply Kd.zH|apply Kd.zI|apply Kd.zS));exact HO1.out) : p := h
theorem zz70 {p : Prop} (h : p := by (with_reducible repeat (first|apply Kd.zH|apply Kd.zI|apply Kd.zS));exact HO_1.out) : p := h
theorem zz69 {p : Prop} (h : p := by (with_reducible repeat (first|apply Kd.zH|apply Kd.zI|apply Kd.zS));exact HO_7.out) : p := h
theorem zz68 {p : Prop} (h : p := by (with_reducible repeat (first|apply Kd.zH|apply Kd.zI|apply Kd.zS));exact HO_6.out) : p := h
theorem zz67 {p : Prop} (h : p := by (with_reducible repeat (first|apply Kd.zH|apply Kd.zI|apply Kd.zS));exact HO_9.out) : p := h
theorem zz66 {p : Prop} (h : p := by (with_reducible repeat (first|apply Kd.zH|apply Kd.zI|apply Kd.zS));exact HO_8.out) : p := h
theorem zz65 {p : Prop} (h : p := by (with_reducible repeat (first|apply Kd.zH|apply Kd.zI|apply Kd.zS));exact HO_5.out) : p := h
theorem zz64 {p : Prop} (h : p := by (with_reducible repeat (first|apply Kd.zH|apply Kd.zI|apply Kd.zS));exact HO_17.out) : p := h
theorem zz63 {p : Prop} (h : p := by (with_reducible repeat (first|apply Kd.zH|apply Kd.zI|apply Kd.zS));exact HO_13.out) : p := h
theorem zz62 {p : Prop} (h : p := by (with_reducible repeat (first|apply Kd.zH|apply Kd.zI|apply Kd.zS));exact HO117.out) : p := h
theorem zz61 {p : Prop} (h : p := by (with_reducible repeat (first|apply Kd.zH|apply Kd.zI|apply Kd.zS));exact HO110.out) : p := h
theorem zz60 {p : Prop} (h : p := by (with_reducible repeat (first|apply Kd.zH|apply Kd.zI|apply Kd.zS));exact HO103.out) : p := h
theorem zz59 {p : Prop} (h : p := by (with_reducible repeat (first|apply Kd.zH|apply Kd.zI|apply Kd.zS));exact HO_27.out) : p := h
theorem zz58 {p : Prop} (h : p := by (with_reducible repeat (first|apply Kd.zH|apply Kd.zI|apply Kd.zS));exact HO_10.out) : p := h
theorem zz57 {p : Prop} (h : p := by (with_reducible repeat (first|apply Kd.zH|apply Kd.zI|apply Kd.zS));exact HO104.out) : p := h
theorem zz56 {p : Prop} (h : p := by (with_reducible repeat (first|apply Kd.zH|apply Kd.zI|apply Kd.zS));exact HO_39.out) : p := h
theorem zz55 {p : Prop} (h : p := by (with_reducible repeat (first|apply Kd.zH|apply Kd.zI|apply Kd.zS));exact HO106.out) : p := h
theorem zz54 {p : Prop} (h : p := by (with_reducible repeat (first|refine z8 ?_ _|refine zb ?_|refine z7 ?_ _));exact BK107.out) : p := h
theorem zz53 {p : Prop} (h : p := by (with_reducible repeat (first|refine z8 ?_ _|refine zb ?_|refine z7 ?_ _));exact BK104.out) : p := h
theorem zz52 {p : Prop} (h : p := by (with_reducible repeat (first|refine z8 ?_ _|refine zb ?_|refine z7 ?_ _));exact BK134.out) : p := h
theorem zz51 {p : Prop} (h : p := by (with_reducible repeat (first|refine z8 ?_ _|refine zb ?_|refine z7 ?_ _));exact BK106.out) : p := h
theorem zz50 {p : Prop} (h : p := by (with_reducible repeat (first|refine z8 ?_ _|refine zb ?_|refine z7 ?_ _));exact BK114.out) : p := h
theorem zz49 {p : Prop} (h : p := by (with_reducible repeat (first|refine z8 ?_ _|refine zb ?_|refine z7 ?_ _));exact BK109.out) : p := h
theorem zz48 {p : Prop} (h : p := by (with_reducible repeat (first|refine z8 ?_ _|refine zb ?_|refine z7 ?_ _));exact BK103.out) : p := h
theorem zz47 {p : Prop} (h : p := by (with_reducible repeat (first|refine z8 ?_ _|refine zb ?_|refine z7 ?_ _));exact BK102.out) : p := h
theorem zz46 {p : Prop} (h : p := by (with_reducible repeat (first|refine z8 ?_ _|refine zb ?_|refine z7 ?_ _));exact BK101.out) : p := h
theorem zz45 {p : Prop} (h : p := by repeat (first|(with_reducible first|exact HB.out|apply zg|apply z6|apply zc)|exact HB.out)) : p := h
theorem zz44 {p : Prop} (h : p := by (try simp only [List.map_toArray,List.map_cons,List.map_nil]);first|done|rfl|(simp only [List.length_drop,List.length_take];rfl)) : p := h
theorem zz43 {p : Prop} (h : p := by repeat (first|(with_reducible first|exact HB.out|apply zg|apply z6|apply zc|refine zd ?_ GE106.out)|exact HB.out)) : p := h
theorem zz42 {p : Prop} (h : p := by repeat (first|(with_reducible first|exact HB.out|apply zg|apply z6|apply zc|refine zd ?_ GE114.out)|exact HB.out)) : p := h
theorem zz41 {p : Prop} (h : p := by repeat (first|(with_reducible first|exact HB.out|apply zg|apply z6|apply zc|refine zd ?_ GE109.out)|exact HB.out)) : p := h
theorem zz40 {p : Prop} (h : p := by repeat (first|(with_reducible first|exact HB.out|apply zg|apply z6|apply zc|refine zd ?_ GE101.out)|exact HB.out)) : p := h
theorem zz39 {p : Prop} (h : p := by (try simp only [List.map_toArray,List.map_cons,List.map_nil]);first|done|(simp only [hji7];rfl)|rfl|(simp only [List.length_drop,List.length_take];rfl)) : p := h
theorem zz38 {p : Prop} (h : p := by repeat (first|(with_reducible first|exact HB.out|apply zg|apply z6|apply zc|refine zd ?_ GE101.out|refine zd ?_ GE104.out)|exact HB.out)) : p := h
theorem zz37 {p : Prop} (h : p := by repeat (first|(with_reducible first|exact HB.out|apply zg|apply z6|apply zc|refine zd ?_ GE101.out|refine zd ?_ GE105.out)|exact HB.out)) : p := h
theorem zz36 {p : Prop} (h : p := by repeat (first|(with_reducible first|exact HB.out|apply zg|apply z6|apply zc|refine zd ?_ GE101.out|refine zd ?_ GE134.out)|exact HB.out)) : p := h
theorem zz35 {p : Prop} (h : p := by repeat (first|(with_reducible first|exact HB.out|apply zg|apply z6|apply zc|refine zd ?_ GE109.out|refine zd ?_ GE113.out)|exact HB.out)) : p := h
theorem zz34 {p : Prop} (h : p := by repeat (first|(with_reducible first|exact HB.out|apply zg|apply z6|apply zc|refine zd ?_ GE109.out|refine zd ?_ GE114.out)|exact HB.out)) : p := h
theorem zz33 {p : Prop} (h : p := by repeat (first|(with_reducible first|exact HB.out|apply zg|apply z6|apply zc|refine zd ?_ GE101.out|refine zd ?_ GE102.out)|exact HB.out)) : p := h
theorem zz32 {p : Prop} (h : p := by repeat (first|(with_reducible first|exact HK.out|apply Kept.alloc|apply Kept.drewN|apply Kept.drew|refine Kept.setCell ?_ (.inr GW101.out) _|refine Kept.setCell ?_ (.inr GW102.out) _)|exact HK.out)) : p := h
theorem zz31 {p : Prop} (h : p := by repeat (first|(with_reducible first|exact HB.out|apply zg|apply z6|apply zc|refine zd ?_ GE101.out|refine zd ?_ GE102.out|refine zd ?_ GE104.out)|exact HB.out)) : p := h
theorem zz30 {p : Prop} (h : p := by repeat (first|(with_reducible first|exact HB.out|apply zg|apply z6|apply zc|refine zd ?_ GE101.out|refine zd ?_ GE102.out|refine zd ?_ GE103.out)|exact HB.out)) : p := h
theorem zz29 {p : Prop} (h : p := by repeat (first|(with_reducible first|exact HK.out|apply Kept.alloc|apply Kept.drewN|apply Kept.drew|refine Kept.setCell ?_ (.inr GW101.out) _|refine Kept.setCell ?_ (.inr GW102.out) _|refine Kept.setCell ?_ (.inr GW104.out) _)|exact HK.out)) : p := h
theorem zz28 {p : Prop} (h : p := by repeat (first|(with_reducible first|exact HB.out|apply zg|apply z6|apply zc|refine zd ?_ GE101.out|refine zd ?_ GE102.out|refine zd ?_ GE104.out|refine zd ?_ GE107.out)|exact HB.out)) : p := h
theorem zz27 {p : Prop} (h : p := by repeat (first|(with_reducible first|exact HB.out|apply zg|apply z6|apply zc|refine zd ?_ GE101.out|refine zd ?_ GE102.out|refine zd ?_ GE103.out|refine zd ?_ GE104.out)|exact HB.out)) : p := h
theorem zz26 {p : Prop} (h : p := by repeat (first|(with_reducible first|exact HB.out|apply zg|apply z6|apply zc|refine zd ?_ GE101.out|refine zd ?_ GE102.out|refine zd ?_ GE103.out|refine zd ?_ GE105.out)|exact HB.out)) : p := h
theorem zz25 {p : Prop} (h : p := by first|exact HK.out.1|exact (show Kept w _ (fun k_=>P1_ k_) from by repeat (first|(with_reducible first|exact HK.out|apply Kept.alloc|apply Kept.drewN|apply Kept.drew|refine Kept.setCell ?_ (.inr GW101.out) _|refine Kept.setCell ?_ (.inr GW102.out) _)|exact HK.out)).1) : p := h
theorem zz24 {p : Prop} (h : p := by repeat (first|(with_reducible first|exact HB.out|apply zg|apply z6|apply zc|refine zd ?_ GE101.out|refine zd ?_ GE102.out|refine zd ?_ GE103.out|refine zd ?_ GE104.out|refine zd ?_ GE106.out)|exact HB.out)) : p := h
theorem zz23 {p : Prop} (h : p := by repeat (first|(with_reducible first|exact HK.out|apply Kept.alloc|apply Kept.drewN|apply Kept.drew|refine Kept.setCell ?_ (.inr GW101.out) _|refine Kept.setCell ?_ (.inr GW102.out) _|refine Kept.setCell ?_ (.inr GW104.out) _|refine Kept.setCell ?_ (.inr GW107.out) _)|exact HK.out)) : p := h
theorem zz22 {p : Prop} (h : p := by (with_reducible repeat (first|apply Kd.zH|apply Kd.zI|apply Kd.zS));exact (Kd.z12 (Kd.z1O (p:=⟨gb114,1,none⟩) (Kd.z1O (p:=⟨gb114,0,none⟩) (Kd.z5G HO103.out BK114.out zz85) (fun _ hk=>hk.2) (.int .u64 t111)) (fun _ hk=>hk.2) (.int .u64 t112)) (fun _ h_=>h_.1))) : p := h
theorem zz21 {p : Prop} (h : p := by first|exact HK.out.1|exact (show Kept w _ (fun k_=>P1_ k_) from by repeat (first|(with_reducible first|exact HK.out|apply Kept.alloc|apply Kept.drewN|apply Kept.drew|refine Kept.setCell ?_ (.inr GW101.out) _|refine Kept.setCell ?_ (.inr GW102.out) _|refine Kept.setCell ?_ (.inr GW104.out) _)|exact HK.out)).1) : p := h
theorem zz20 {p : Prop} (h : p := by (with_reducible repeat (first|apply Kd.zH|apply Kd.zI|apply Kd.zS));exact (Kd.z12 (Kd.z1O (p:=⟨gb134,1,none⟩) (Kd.z1O (p:=⟨gb134,0,none⟩) (Kd.z12 HO_13.out (fun k_ hk=>(⟨hk,hk.2⟩ : _ ∧ k_ ≠ gb134))) (fun _ hk=>hk.2) (.int .u64 t131)) (fun _ hk=>hk.2) (.int .u64 t132)) (fun _ h_=>h_.1))) : p := h
theorem zz19 {p : Prop} (h : p := by (with_reducible repeat (first|apply Kd.zH|apply Kd.zI|apply Kd.zS));exact (Kd.z12 (Kd.z1O (p:=⟨gb114,1,none⟩) (Kd.z1O (p:=⟨gb114,0,none⟩) (Kd.z12 HO110.out (fun k_ hk=>(⟨hk,hk.2⟩ : _ ∧ k_ ≠ gb114))) (fun _ hk=>hk.2) (.int .u64 t111)) (fun _ hk=>hk.2) (.int .u64 t112)) (fun _ h_=>h_.1))) : p := h
theorem zz18 {p : Prop} (h : p := by (with_reducible repeat (first|apply Kd.zH|apply Kd.zI|apply Kd.zS));exact (Kd.z12 (Kd.z1O (p:=⟨gb114,1,none⟩) (Kd.z1O (p:=⟨gb114,0,none⟩) (Kd.z12 HO106.out (fun k_ hk=>(⟨hk,hk.2⟩ : _ ∧ k_ ≠ gb114))) (fun _ hk=>hk.2) (.int .u64 t111)) (fun _ hk=>hk.2) (.int .u64 t112)) (fun _ h_=>h_.1))) : p := h
theorem zz17 {p : Prop} (h : p := by (with_reducible repeat (first|apply Kd.zH|apply Kd.zI|apply Kd.zS));exact (Kd.z12 (Kd.z1O (p:=⟨gb104,1,none⟩) (Kd.z1O (p:=⟨gb104,0,none⟩) (Kd.z12 HO_1.out (fun k_ hk=>(⟨hk,hk.2⟩ : _ ∧ k_ ≠ gb104))) (fun _ hk=>hk.2) (.int .u64 ((rd_T37 l2 x17_1).f0))) (fun _ hk=>hk.2) (.int .u64 ((rd_T37 l2 x17_1).f1))) (fun _ h_=>h_.1))) : p := h
theorem zz16 {p : Prop} (h : p := by (with_reducible repeat (first|apply Kd.zH|apply Kd.zI|apply Kd.zS));exact (Kd.z12 (Kd.z1O (p:=⟨gb109,1,none⟩) (Kd.z1O (p:=⟨gb109,0,none⟩) (Kd.z12 HO_5.out (fun k_ hk=>(⟨hk,hk.2⟩ : _ ∧ k_ ≠ gb109))) (fun _ hk=>hk.2) (.int .u64 ((rd_T37 l1 x29_2).f0))) (fun _ hk=>hk.2) (.int .u64 ((rd_T37 l1 x29_2).f1))) (fun _ h_=>h_.1))) : p := h
theorem zz15 {p : Prop} (h : p := by (with_reducible repeat (first|apply Kd.zH|apply Kd.zI|apply Kd.zS));exact (Kd.z12 (Kd.z1O (p:=⟨gb109,1,none⟩) (Kd.z1O (p:=⟨gb109,0,none⟩) (Kd.z12 HO_9.out (fun k_ hk=>(⟨hk,hk.2⟩ : _ ∧ k_ ≠ gb109))) (fun _ hk=>hk.2) (.int .u64 ((rd_T37 t105 x29_1).f0))) (fun _ hk=>hk.2) (.int .u64 ((rd_T37 t105 x29_1).f1))) (fun _ h_=>h_.1))) : p := h
theorem zz14 {p : Prop} (h : p := by (with_reducible repeat (first|refine z8 ?_ _|refine zb ?_|refine z7 ?_ _));refine zW ?_ NB102_104.out _;(with_reducible repeat (first|refine z8 ?_ _|refine zb ?_|refine z7 ?_ _));refine zW ?_ NB102_104.out _;(with_reducible repeat (first|refine z8 ?_ _|refine zb ?_|refine z7 ?_ _));exact BK102.out) : p := h
theorem zz13 {p : Prop} (h : p := by (with_reducible repeat (first|refine z8 ?_ _|refine zb ?_|refine z7 ?_ _));refine zW ?_ NB101_104.out _;(with_reducible repeat (first|refine z8 ?_ _|refine zb ?_|refine z7 ?_ _));refine zW ?_ NB101_104.out _;(with_reducible repeat (first|refine z8 ?_ _|refine zb ?_|refine z7 ?_ _));exact BK101.out) : p := h
theorem zz12 {p : Prop} (h : p := by (with_reducible repeat (first|refine z8 ?_ _|refine zb ?_|refine z7 ?_ _));refine zW ?_ NB109_113.out _;(with_reducible repeat (first|refine z8 ?_ _|refine zb ?_|refine z7 ?_ _));refine zW ?_ NB109_113.out _;(with_reducible repeat (first|refine z8 ?_ _|refine zb ?_|refine z7 ?_ _));exact BK109.out) : p := h
theorem zz11 {p : Prop} (h : p := by (with_reducible repeat (first|refine z8 ?_ _|refine zb ?_|refine z7 ?_ _));refine zW ?_ NB103_105.out _;(with_reducible repeat (first|refine z8 ?_ _|refine zb ?_|refine z7 ?_ _));refine zW ?_ NB103_105.out _;(with_reducible repeat (first|refine z8 ?_ _|refine zb ?_|refine z7 ?_ _));exact BK103.out) : p := h
theorem zz10 {p : Prop} (h : p := by (with_reducible repeat (first|refine z8 ?_ _|refine zb ?_|refine z7 ?_ _));refine zW ?_ NB102_105.out _;(with_reducible repeat (first|refine z8 ?_ _|refine zb ?_|refine z7 ?_ _));refine zW ?_ NB102_105.out _;(with_reducible repeat (first|refine z8 ?_ _|refine zb ?_|refine z7 ?_ _));exact BK102.out) : p := h
theorem zz9 {p : Prop} (h : p := by (with_reducible repeat (first|refine z8 ?_ _|refine zb ?_|refine z7 ?_ _));refine zW ?_ NB101_105.out _;(with_reducible repeat (first|refine z8 ?_ _|refine zb ?_|refine z7 ?_ _));refine zW ?_ NB101_105.out _;(with_reducible repeat (first|refine z8 ?_ _|refine zb ?_|refine z7 ?_ _));exact BK101.out) : p := h
theorem zz8 {p : Prop} (h : p := by (with_reducible repeat (first|refine z8 ?_ _|refine zb ?_|refine z7 ?_ _));refine zX (cs:=#[.int .u64 0,.int .u64 0]) ?_ 1 _ rfl;(with_reducible repeat (first|refine z8 ?_ _|refine zb ?_|refine z7 ?_ _));refine zX (cs:=#[.int .u64 0,.int .u64 0]) ?_ 0 _ rfl;(with_reducible repeat (first|refine z8 ?_ _|refine zb ?_|refine z7 ?_ _));exact BK102.out) : p := h
theorem zz7 {p : Prop} (h : p := by (with_reducible repeat (first|refine z8 ?_ _|refine zb ?_|refine z7 ?_ _));refine zX (cs:=#[.int .u64 0,.int .u64 0]) ?_ 1 _ rfl;(with_reducible repeat (first|refine z8 ?_ _|refine zb ?_|refine z7 ?_ _));refine zX (cs:=#[.int .u64 0,.int .u64 0]) ?_ 0 _ rfl;(with_reducible repeat (first|refine z8 ?_ _|refine zb ?_|refine z7 ?_ _));exact BK101.out) : p := h
theorem zz6 {p : Prop} (h : p := by (with_reducible repeat (first|refine z8 ?_ _|refine zb ?_|refine z7 ?_ _));refine zX (cs:=#[.int .u64 0,.int .u64 0]) ?_ 1 _ rfl;(with_reducible repeat (first|refine z8 ?_ _|refine zb ?_|refine z7 ?_ _));refine zX (cs:=#[.int .u64 0,.int .u64 0]) ?_ 0 _ rfl;(with_reducible repeat (first|refine z8 ?_ _|refine zb ?_|refine z7 ?_ _));exact BK103.out) : p := h
theorem zz5 {p : Prop} (h : p := by (with_reducible repeat (first|refine z8 ?_ _|refine zb ?_|refine z7 ?_ _));refine zX (cs:=#[.int .u64 t111,.int .u64 0]) ?_ 1 _ rfl;(with_reducible repeat (first|refine z8 ?_ _|refine zb ?_|refine z7 ?_ _));refine zX (cs:=#[.int .u64 0,.int .u64 0]) ?_ 0 _ rfl;(with_reducible repeat (first|refine z8 ?_ _|refine zb ?_|refine z7 ?_ _));exact BK114.out) : p := h
theorem zz4 {p : Prop} (h : p := by (with_reducible repeat (first|refine z8 ?_ _|refine zb ?_|refine z7 ?_ _));refine zX (cs:=#[.int .u64 t110,.int .u64 0]) ?_ 1 _ rfl;(with_reducible repeat (first|refine z8 ?_ _|refine zb ?_|refine z7 ?_ _));refine zX (cs:=#[.int .u64 0,.int .u64 0]) ?_ 0 _ rfl;(with_reducible repeat (first|refine z8 ?_ _|refine zb ?_|refine z7 ?_ _));exact BK113.out) : p := h
theorem zz3 {p : Prop} (h : p := by (with_reducible repeat (first|refine z8 ?_ _|refine zb ?_|refine z7 ?_ _));refine zX (cs:=#[.int .u64 ((rd_T37 l2 x17_1).f0),.int .u64 0]) ?_ 1 _ rfl;(with_reducible repeat (first|refine z8 ?_ _|refine zb ?_|refine z7 ?_ _));refine zX (cs:=#[.int .u64 0,.int .u64 0]) ?_ 0 _ rfl;(with_reducible repeat (first|refine z8 ?_ _|refine zb ?_|refine z7 ?_ _));exact BK104.out) : p := h
theorem zz2 {p : Prop} (h : p := by (with_reducible repeat (first|refine z8 ?_ _|refine zb ?_|refine z7 ?_ _));refine zX (cs:=#[.int .u64 ((rd_T37 l0 x10_1).f0),.int .u64 0]) ?_ 1 _ rfl;(with_reducible repeat (first|refine z8 ?_ _|refine zb ?_|refine z7 ?_ _));refine zX (cs:=#[.int .u64 0,.int .u64 0]) ?_ 0 _ rfl;(with_reducible repeat (first|refine z8 ?_ _|refine zb ?_|refine z7 ?_ _));exact BK105.out) : p := h
theorem zz1 {p : Prop} (h : p := by (with_reducible repeat (first|refine z8 ?_ _|refine zb ?_|refine z7 ?_ _));refine zX (cs:=#[.int .u64 ((rd_T37 l1 x29_2).f0),.int .u64 0]) ?_ 1 _ rfl;(with_reducible repeat (first|refine z8 ?_ _|refine zb ?_|refine z7 ?_ _));refine zX (cs:=#[.int .u64 0,.int .u64 0]) ?_ 0 _ rfl;(with_reducible repeat (first|refine z8 ?_ _|refine zb ?_|refine z7 ?_ _));exact BK109.out) : p := h
theorem zz0 {p : Prop} (h : p := by (with_reducible repeat (first|refine z8 ?_ _|refine zb ?_|refine z7 ?_ _));refine zX (cs:=#[.int .u64 (Go.bits .xor .u64 a0_0 a1_0),.int .u64 0]) ?_ 1 _ rfl;(with_reducible repeat (first|refine z8 ?_ _|refine zb ?_|refine z7 ?_ _));refine zX (cs:=#[.int .u64 0,.int .u64 0]) ?_ 0 _ rfl;(with_reducible repeat (first|refine z8 ?_ _|refine zb ?_|refine z7 ?_ _));exact BK103.out) : p := h
def errW : Option Int → Value
 | none=>.nilIface
 | some c=>.iface 0 (.int .i64 c)
theorem zi : errW none = .nilIface:=rfl
theorem zj (c : Int) : errW (some c) = .iface 0 (.int .i64 c):=rfl
theorem info3 : (Try.prog.info? 3).map (fun i=>(i.zero,i.size,i.bytes)) = some (some (.int .i64 0),1,8):=by kernel_rfl
theorem info4 : (Try.prog.info? 4).map (fun i=>(i.zero,i.size,i.bytes)) = some (some (.bool false),1,1):=by kernel_rfl
theorem info23 : (Try.prog.info? 23).map (fun i=>(i.zero,i.size,i.bytes)) = some (some (.slice none 0 0),1,24):=by kernel_rfl
theorem info35 : (Try.prog.info? 35).map (fun i=>(i.zero,i.size,i.bytes)) = some (some (.int .u64 0),1,8):=by kernel_rfl
theorem info37 : (Try.prog.info? 37).map (fun i=>(i.zero,i.size,i.bytes)) = some (some (.agg #[(.int .u64 0),(.int .u64 0)]),2,16):=by kernel_rfl
theorem info48 : (Try.prog.info? 48).map (fun i=>(i.zero,i.size,i.bytes)) = some (some (.agg #[(.int .u64 0),(.int .u64 0)]),2,16):=by kernel_rfl
theorem info84 : (Try.prog.info? 84).map (fun i=>(i.zero,i.size,i.bytes)) = some (some (.agg #[(.int .i64 0),(.int .i64 0),(.int .i64 0),(.int .u64 0),(.int .u64 0)]),5,40):=by kernel_rfl
theorem info101 : (Try.prog.info? 101).map (fun i=>(i.zero,i.size,i.bytes)) = some (some (.slice none 0 0),1,24):=by kernel_rfl
-- the values' own types
structure S48 where
 f0 : Int
 f1 : Int
def z48 : S48:=⟨(0 : Int),(0 : Int)⟩
def k48 : Kd S48:=Kd.iso (Kd.pair (Kd.int .u64) (Kd.int .u64)) (fun x : S48=>(x.f0,x.f1))
theorem k48_heap : Kd.Heap k48:=Kd.z3o _ (Kd.z2d (Kd.z2p .u64) (Kd.z2p .u64))
theorem z66 {w : World} {x : S48} {cs : List Value} (h : k48.K w x cs) : cs = [.int .u64 x.f0,.int .u64 x.f1]:=by
 obtain ⟨_,_,rfl,rfl,rfl⟩:=h
 exact rfl
theorem z7h {w : World} {base : Nat} {ok : Nat → Prop} {x : S48} {cs : List Value} (h : k48.M w base ok x cs) : cs = [.int .u64 x.f0,.int .u64 x.f1]:=by
 obtain ⟨_,_,rfl,rfl,rfl⟩:=h
 exact rfl
theorem k48_mk (w : World) (x : S48)  : k48.K w x [.int .u64 x.f0,.int .u64 x.f1]:=⟨[.int .u64 x.f0],[.int .u64 x.f1],rfl,rfl,rfl⟩
theorem z7g (w : World) (base : Nat) (ok : Nat → Prop) (x : S48)  : k48.M w base ok x [.int .u64 x.f0,.int .u64 x.f1]:=⟨[.int .u64 x.f0],[.int .u64 x.f1],rfl,rfl,rfl⟩
theorem k48_mkF (W : World) (ok : Nat → Prop) (x : S48) : Kd.FK k48 W ok x [.int .u64 x.f0,.int .u64 x.f1]:=fun W2 _=>k48_mk W2 x
def z1A (xs : List S48) (i : Int) : S48:=xs.getD i.toNat z48
theorem z44 {w : World} {A : Option Addr} {n : Nat} {xs : List S48} (h : Kd.C k48 w A n xs) (i : Int) (h0 : 0 ≤ i) (h1 : i < n) : ∃ ad , A = some ad ∧ w.cell? (ad.add (i.toNat * 2)) = some (.int .u64 (z1A xs i).f0) ∧ w.cell? ⟨(ad.add (i.toNat * 2)).block,(ad.add (i.toNat * 2)).off + 1,none⟩ = some (.int .u64 (z1A xs i).f1):=by
 obtain ⟨ad,c,e,_,hK,hc0⟩:=Kd.z5D h z48 i h0 h1
 have hc : ∀ j u,c[j]? = some u → w.cell? (ad.add (i.toNat * 2 + j)) = some u:=hc0
 obtain rfl:=z66 hK
 exact ⟨ad,e,hc 0 _ rfl,by rw [← z24 _ _ 1 zz86];exact hc 1 _ rfl⟩
structure S37 where
 f0 : Int
 f1 : Int
def z37 : S37:=⟨(0 : Int),(0 : Int)⟩
def k37 : Kd S37:=Kd.iso (Kd.pair (Kd.int .u64) (Kd.int .u64)) (fun x : S37=>(x.f0,x.f1))
theorem z50 : Kd.Heap k37:=Kd.z3o _ (Kd.z2d (Kd.z2p .u64) (Kd.z2p .u64))
theorem z65 {w : World} {x : S37} {cs : List Value} (h : k37.K w x cs) : cs = [.int .u64 x.f0,.int .u64 x.f1]:=by
 obtain ⟨_,_,rfl,rfl,rfl⟩:=h
 exact rfl
theorem z22 {w : World} {base : Nat} {ok : Nat → Prop} {x : S37} {cs : List Value} (h : k37.M w base ok x cs) : cs = [.int .u64 x.f0,.int .u64 x.f1]:=by
 obtain ⟨_,_,rfl,rfl,rfl⟩:=h
 exact rfl
theorem k37_mk (w : World) (x : S37)  : k37.K w x [.int .u64 x.f0,.int .u64 x.f1]:=⟨[.int .u64 x.f0],[.int .u64 x.f1],rfl,rfl,rfl⟩
theorem z1K (w : World) (base : Nat) (ok : Nat → Prop) (x : S37)  : k37.M w base ok x [.int .u64 x.f0,.int .u64 x.f1]:=⟨[.int .u64 x.f0],[.int .u64 x.f1],rfl,rfl,rfl⟩
theorem k37_mkF (W : World) (ok : Nat → Prop) (x : S37) : Kd.FK k37 W ok x [.int .u64 x.f0,.int .u64 x.f1]:=fun W2 _=>k37_mk W2 x
def rd_T37 (xs : List S37) (i : Int) : S37:=xs.getD i.toNat z37
theorem z1Y {w : World} {A : Option Addr} {n : Nat} {xs : List S37} (h : Kd.C k37 w A n xs) (i : Int) (h0 : 0 ≤ i) (h1 : i < n) : ∃ ad , A = some ad ∧ w.cell? (ad.add (i.toNat * 2)) = some (.int .u64 (rd_T37 xs i).f0) ∧ w.cell? ⟨(ad.add (i.toNat * 2)).block,(ad.add (i.toNat * 2)).off + 1,none⟩ = some (.int .u64 (rd_T37 xs i).f1):=by
 obtain ⟨ad,c,e,_,hK,hc0⟩:=Kd.z5D h z37 i h0 h1
 have hc : ∀ j u,c[j]? = some u → w.cell? (ad.add (i.toNat * 2 + j)) = some u:=hc0
 obtain rfl:=z65 hK
 exact ⟨ad,e,hc 0 _ rfl,by rw [← z24 _ _ 1 zz86];exact hc 1 _ rfl⟩
def rd_L5 (xs : List (List Bool)) (i : Int) : (List Bool):=xs.getD i.toNat ([] : List Bool)
theorem at_L5 {w : World} {A : Option Addr} {n : Nat} {xs : List (List Bool)} (h : Kd.C (Kd.slice 4 Kd.bool) w A n xs) (i : Int) (h0 : 0 ≤ i) (h1 : i < n) : ∃ ad A0 c0,A = some ad ∧ w.cell? (ad.add i.toNat) = some (.slice A0 (rd_L5 xs i).length c0) ∧ (rd_L5 xs i).length ≤ c0 ∧ Kd.bool.C w A0 (rd_L5 xs i).length (rd_L5 xs i):=by
 obtain ⟨ad,c,e,_,hK,hc0⟩:=Kd.z5D h ([] : List Bool) i h0 h1
 have hc : ∀ j u,c[j]? = some u → w.cell? (ad.add (i.toNat * 1 + j)) = some u:=hc0
 obtain ⟨A0,c0,rfl,l0,g0⟩:=hK
 exact ⟨ad,A0,c0,e,by have hq:=hc 0 _ rfl;rwa [Nat.mul_one,Nat.add_zero] at hq,l0,g0⟩
def rd_L6 (xs : List (List S37)) (i : Int) : (List S37):=xs.getD i.toNat ([] : List S37)
theorem at_L6 {w : World} {A : Option Addr} {n : Nat} {xs : List (List S37)} (h : Kd.C (Kd.slice 37 k37) w A n xs) (i : Int) (h0 : 0 ≤ i) (h1 : i < n) : ∃ ad A0 c0,A = some ad ∧ w.cell? (ad.add i.toNat) = some (.slice A0 (rd_L6 xs i).length c0) ∧ (rd_L6 xs i).length ≤ c0 ∧ k37.C w A0 (rd_L6 xs i).length (rd_L6 xs i):=by
 obtain ⟨ad,c,e,_,hK,hc0⟩:=Kd.z5D h ([] : List S37) i h0 h1
 have hc : ∀ j u,c[j]? = some u → w.cell? (ad.add (i.toNat * 1 + j)) = some u:=hc0
 obtain ⟨A0,c0,rfl,l0,g0⟩:=hK
 exact ⟨ad,A0,c0,e,by have hq:=hc 0 _ rfl;rwa [Nat.mul_one,Nat.add_zero] at hq,l0,g0⟩
structure S25 where
 f0 : (List Bool)
 f1 : (List S37)
 f2 : (List S37)
def z25 : S25:=⟨([] : List Bool),([] : List S37),([] : List S37)⟩
def k25 : Kd S25:=Kd.iso (Kd.pair (Kd.slice 4 Kd.bool) (Kd.pair (Kd.slice 37 k37) (Kd.slice 37 k37))) (fun x : S25=>(x.f0,x.f1,x.f2))
theorem k25_heap : Kd.Heap k25:=Kd.z3o _ (Kd.z2d (Kd.z3D 4 Kd.z7a) (Kd.z2d (Kd.z3D 37 z50) (Kd.z3D 37 z50)))
theorem z3c {w : World} {x : S25} {cs : List Value} (h : k25.K w x cs) : ∃ A0 c0 A1 c1 A2 c2,cs = [.slice A0 x.f0.length c0,.slice A1 x.f1.length c1,.slice A2 x.f2.length c2] ∧ x.f0.length ≤ c0 ∧ Kd.bool.C w A0 x.f0.length x.f0 ∧ x.f1.length ≤ c1 ∧ k37.C w A1 x.f1.length x.f1 ∧ x.f2.length ≤ c2 ∧ k37.C w A2 x.f2.length x.f2:=by
 obtain ⟨_,_,rfl,⟨A0,c0,rfl,l0,g0⟩,⟨_,_,rfl,⟨A1,c1,rfl,l1,g1⟩,⟨A2,c2,rfl,l2,g2⟩⟩⟩:=h
 exact ⟨A0,c0,A1,c1,A2,c2,rfl,l0,g0,l1,g1,l2,g2⟩
theorem k25_openM {w : World} {base : Nat} {ok : Nat → Prop} {x : S25} {cs : List Value} (h : k25.M w base ok x cs) : ∃ v0 v1 v2,cs = [v0,v1,v2] ∧ Kd.bool.R 4 w base ok v0 x.f0 ∧ k37.R 37 w base ok v1 x.f1 ∧ k37.R 37 w base ok v2 x.f2:=by
 obtain ⟨_,_,rfl,⟨v0,rfl,g0⟩,⟨_,_,rfl,⟨v1,rfl,g1⟩,⟨v2,rfl,g2⟩⟩⟩:=h
 exact ⟨v0,v1,v2,rfl,g0,g1,g2⟩
theorem k25_mk (w : World) (x : S25) {A0 : Option Addr} {c0 : Nat} (l0 : x.f0.length ≤ c0) (g0 : Kd.bool.C w A0 x.f0.length x.f0) {A1 : Option Addr} {c1 : Nat} (l1 : x.f1.length ≤ c1) (g1 : k37.C w A1 x.f1.length x.f1) {A2 : Option Addr} {c2 : Nat} (l2 : x.f2.length ≤ c2) (g2 : k37.C w A2 x.f2.length x.f2) : k25.K w x [.slice A0 x.f0.length c0,.slice A1 x.f1.length c1,.slice A2 x.f2.length c2]:=⟨[.slice A0 x.f0.length c0],[.slice A1 x.f1.length c1,.slice A2 x.f2.length c2],rfl,⟨A0,c0,rfl,l0,g0⟩,⟨[.slice A1 x.f1.length c1],[.slice A2 x.f2.length c2],rfl,⟨A1,c1,rfl,l1,g1⟩,⟨A2,c2,rfl,l2,g2⟩⟩⟩
theorem k25_mkM (w : World) (base : Nat) (ok : Nat → Prop) (x : S25) {v0 : Value} (g0 : Kd.bool.R 4 w base ok v0 x.f0) {v1 : Value} (g1 : k37.R 37 w base ok v1 x.f1) {v2 : Value} (g2 : k37.R 37 w base ok v2 x.f2) : k25.M w base ok x [v0,v1,v2]:=⟨[v0],[v1,v2],rfl,⟨v0,rfl,g0⟩,⟨[v1],[v2],rfl,⟨v1,rfl,g1⟩,⟨v2,rfl,g2⟩⟩⟩
theorem k25_openF {W : World} {ok : Nat → Prop} {x : S25} {cs : List Value} (h : Kd.FK k25 W ok x cs) : ∃ A0 c0 A1 c1 A2 c2,cs = [.slice A0 x.f0.length c0,.slice A1 x.f1.length c1,.slice A2 x.f2.length c2] ∧ x.f0.length ≤ c0 ∧ Kd.F Kd.bool W ok A0 x.f0.length x.f0 ∧ x.f1.length ≤ c1 ∧ Kd.F k37 W ok A1 x.f1.length x.f1 ∧ x.f2.length ≤ c2 ∧ Kd.F k37 W ok A2 x.f2.length x.f2:=by
 obtain ⟨A0,c0,A1,c1,A2,c2,rfl,l0,_,l1,_,l2,_⟩:=z3c (Kd.FK_now h)
 exact ⟨A0,c0,A1,c1,A2,c2,rfl,l0,(fun W' hW=>by obtain ⟨A0_,c0_,A1_,c1_,A2_,c2_,he,l0_,g0_,l1_,g1_,l2_,g2_⟩:=z3c (h W' hW);injection (Option.some.inj (show some (Value.slice A0 x.f0.length c0) = some (Value.slice A0_ x.f0.length c0_) from congrArg (fun l=>l[0]?) he)) with ha_ _ _;rw [ha_];exact g0_),l1,(fun W' hW=>by obtain ⟨A0_,c0_,A1_,c1_,A2_,c2_,he,l0_,g0_,l1_,g1_,l2_,g2_⟩:=z3c (h W' hW);injection (Option.some.inj (show some (Value.slice A1 x.f1.length c1) = some (Value.slice A1_ x.f1.length c1_) from congrArg (fun l=>l[1]?) he)) with ha_ _ _;rw [ha_];exact g1_),l2,(fun W' hW=>by obtain ⟨A0_,c0_,A1_,c1_,A2_,c2_,he,l0_,g0_,l1_,g1_,l2_,g2_⟩:=z3c (h W' hW);injection (Option.some.inj (show some (Value.slice A2 x.f2.length c2) = some (Value.slice A2_ x.f2.length c2_) from congrArg (fun l=>l[2]?) he)) with ha_ _ _;rw [ha_];exact g2_)⟩
theorem k25_mkF (W : World) (ok : Nat → Prop) (x : S25) {A0 : Option Addr} {c0 : Nat} (l0 : x.f0.length ≤ c0) (g0 : Kd.F Kd.bool W ok A0 x.f0.length x.f0) {A1 : Option Addr} {c1 : Nat} (l1 : x.f1.length ≤ c1) (g1 : Kd.F k37 W ok A1 x.f1.length x.f1) {A2 : Option Addr} {c2 : Nat} (l2 : x.f2.length ≤ c2) (g2 : Kd.F k37 W ok A2 x.f2.length x.f2) : Kd.FK k25 W ok x [.slice A0 x.f0.length c0,.slice A1 x.f1.length c1,.slice A2 x.f2.length c2]:=fun W2 hW=>k25_mk W2 x l0 (g0 W2 hW) l1 (g1 W2 hW) l2 (g2 W2 hW)
def z2V (xs : List S25) (i : Int) : S25:=xs.getD i.toNat z25
theorem at_T25 {w : World} {A : Option Addr} {n : Nat} {xs : List S25} (h : Kd.C k25 w A n xs) (i : Int) (h0 : 0 ≤ i) (h1 : i < n) : ∃ ad A0 c0 A1 c1 A2 c2,A = some ad ∧ w.cell? (ad.add (i.toNat * 3)) = some (.slice A0 (z2V xs i).f0.length c0) ∧ w.cell? ⟨(ad.add (i.toNat * 3)).block,(ad.add (i.toNat * 3)).off + 1,none⟩ = some (.slice A1 (z2V xs i).f1.length c1) ∧ w.cell? ⟨(ad.add (i.toNat * 3)).block,(ad.add (i.toNat * 3)).off + 2,none⟩ = some (.slice A2 (z2V xs i).f2.length c2) ∧ (z2V xs i).f0.length ≤ c0 ∧ Kd.bool.C w A0 (z2V xs i).f0.length (z2V xs i).f0 ∧ (z2V xs i).f1.length ≤ c1 ∧ k37.C w A1 (z2V xs i).f1.length (z2V xs i).f1 ∧ (z2V xs i).f2.length ≤ c2 ∧ k37.C w A2 (z2V xs i).f2.length (z2V xs i).f2:=by
 obtain ⟨ad,c,e,_,hK,hc0⟩:=Kd.z5D h z25 i h0 h1
 have hc : ∀ j u,c[j]? = some u → w.cell? (ad.add (i.toNat * 3 + j)) = some u:=hc0
 obtain ⟨A0,c0,A1,c1,A2,c2,rfl,l0,g0,l1,g1,l2,g2⟩:=z3c hK
 exact ⟨ad,A0,c0,A1,c1,A2,c2,e,hc 0 _ rfl,by rw [← z24 _ _ 1 zz86];exact hc 1 _ rfl,by rw [← z24 _ _ 2 zz86];exact hc 2 _ rfl,l0,g0,l1,g1,l2,g2⟩
structure S78 where
 f0 : Int
 f1 : Int
 f2 : Int
 f3 : S37
def z78 : S78:=⟨(0 : Int),(0 : Int),(0 : Int),z37⟩
def k78 : Kd S78:=Kd.iso (Kd.pair (Kd.int .i64) (Kd.pair (Kd.int .i64) (Kd.pair (Kd.int .i64) k37))) (fun x : S78=>(x.f0,x.f1,x.f2,x.f3))
theorem k78_heap : Kd.Heap k78:=Kd.z3o _ (Kd.z2d (Kd.z2p .i64) (Kd.z2d (Kd.z2p .i64) (Kd.z2d (Kd.z2p .i64) z50)))
theorem k78_open {w : World} {x : S78} {cs : List Value} (h : k78.K w x cs) : cs = [.int .i64 x.f0,.int .i64 x.f1,.int .i64 x.f2,.int .u64 x.f3.f0,.int .u64 x.f3.f1]:=by
 obtain ⟨_,_,rfl,rfl,⟨_,_,rfl,rfl,⟨_,_,rfl,rfl,s3⟩⟩⟩:=h
 obtain rfl:=z65 s3
 exact rfl
theorem k78_openM {w : World} {base : Nat} {ok : Nat → Prop} {x : S78} {cs : List Value} (h : k78.M w base ok x cs) : cs = [.int .i64 x.f0,.int .i64 x.f1,.int .i64 x.f2,.int .u64 x.f3.f0,.int .u64 x.f3.f1]:=by
 obtain ⟨_,_,rfl,rfl,⟨_,_,rfl,rfl,⟨_,_,rfl,rfl,s3⟩⟩⟩:=h
 obtain rfl:=z22 s3
 exact rfl
theorem k78_mk (w : World) (x : S78)  : k78.K w x [.int .i64 x.f0,.int .i64 x.f1,.int .i64 x.f2,.int .u64 x.f3.f0,.int .u64 x.f3.f1]:=⟨[.int .i64 x.f0],[.int .i64 x.f1,.int .i64 x.f2,.int .u64 x.f3.f0,.int .u64 x.f3.f1],rfl,rfl,⟨[.int .i64 x.f1],[.int .i64 x.f2,.int .u64 x.f3.f0,.int .u64 x.f3.f1],rfl,rfl,⟨[.int .i64 x.f2],[.int .u64 x.f3.f0,.int .u64 x.f3.f1],rfl,rfl,(k37_mk w x.f3 )⟩⟩⟩
theorem k78_mkM (w : World) (base : Nat) (ok : Nat → Prop) (x : S78)  : k78.M w base ok x [.int .i64 x.f0,.int .i64 x.f1,.int .i64 x.f2,.int .u64 x.f3.f0,.int .u64 x.f3.f1]:=⟨[.int .i64 x.f0],[.int .i64 x.f1,.int .i64 x.f2,.int .u64 x.f3.f0,.int .u64 x.f3.f1],rfl,rfl,⟨[.int .i64 x.f1],[.int .i64 x.f2,.int .u64 x.f3.f0,.int .u64 x.f3.f1],rfl,rfl,⟨[.int .i64 x.f2],[.int .u64 x.f3.f0,.int .u64 x.f3.f1],rfl,rfl,(z1K w base ok x.f3 )⟩⟩⟩
theorem k78_mkF (W : World) (ok : Nat → Prop) (x : S78) : Kd.FK k78 W ok x [.int .i64 x.f0,.int .i64 x.f1,.int .i64 x.f2,.int .u64 x.f3.f0,.int .u64 x.f3.f1]:=fun W2 _=>k78_mk W2 x
def z5v (xs : List S78) (i : Int) : S78:=xs.getD i.toNat z78
theorem at_T78 {w : World} {A : Option Addr} {n : Nat} {xs : List S78} (h : Kd.C k78 w A n xs) (i : Int) (h0 : 0 ≤ i) (h1 : i < n) : ∃ ad , A = some ad ∧ w.cell? (ad.add (i.toNat * 5)) = some (.int .i64 (z5v xs i).f0) ∧ w.cell? ⟨(ad.add (i.toNat * 5)).block,(ad.add (i.toNat * 5)).off + 1,none⟩ = some (.int .i64 (z5v xs i).f1) ∧ w.cell? ⟨(ad.add (i.toNat * 5)).block,(ad.add (i.toNat * 5)).off + 2,none⟩ = some (.int .i64 (z5v xs i).f2) ∧ w.cell? ⟨(ad.add (i.toNat * 5)).block,(ad.add (i.toNat * 5)).off + 3,none⟩ = some (.int .u64 (z5v xs i).f3.f0) ∧ w.cell? ⟨(ad.add (i.toNat * 5)).block,(ad.add (i.toNat * 5)).off + 4,none⟩ = some (.int .u64 (z5v xs i).f3.f1):=by
 obtain ⟨ad,c,e,_,hK,hc0⟩:=Kd.z5D h z78 i h0 h1
 have hc : ∀ j u,c[j]? = some u → w.cell? (ad.add (i.toNat * 5 + j)) = some u:=hc0
 obtain rfl:=k78_open hK
 exact ⟨ad,e,hc 0 _ rfl,by rw [← z24 _ _ 1 zz86];exact hc 1 _ rfl,by rw [← z24 _ _ 2 zz86];exact hc 2 _ rfl,by rw [← z24 _ _ 3 zz86];exact hc 3 _ rfl,by rw [← z24 _ _ 4 zz86];exact hc 4 _ rfl⟩
structure S84 where
 f0 : Int
 f1 : Int
 f2 : Int
 f3 : S48
def z84 : S84:=⟨(0 : Int),(0 : Int),(0 : Int),z48⟩
def k84 : Kd S84:=Kd.iso (Kd.pair (Kd.int .i64) (Kd.pair (Kd.int .i64) (Kd.pair (Kd.int .i64) k48))) (fun x : S84=>(x.f0,x.f1,x.f2,x.f3))
theorem k84_heap : Kd.Heap k84:=Kd.z3o _ (Kd.z2d (Kd.z2p .i64) (Kd.z2d (Kd.z2p .i64) (Kd.z2d (Kd.z2p .i64) k48_heap)))
theorem k84_open {w : World} {x : S84} {cs : List Value} (h : k84.K w x cs) : cs = [.int .i64 x.f0,.int .i64 x.f1,.int .i64 x.f2,.int .u64 x.f3.f0,.int .u64 x.f3.f1]:=by
 obtain ⟨_,_,rfl,rfl,⟨_,_,rfl,rfl,⟨_,_,rfl,rfl,s3⟩⟩⟩:=h
 obtain rfl:=z66 s3
 exact rfl
theorem k84_openM {w : World} {base : Nat} {ok : Nat → Prop} {x : S84} {cs : List Value} (h : k84.M w base ok x cs) : cs = [.int .i64 x.f0,.int .i64 x.f1,.int .i64 x.f2,.int .u64 x.f3.f0,.int .u64 x.f3.f1]:=by
 obtain ⟨_,_,rfl,rfl,⟨_,_,rfl,rfl,⟨_,_,rfl,rfl,s3⟩⟩⟩:=h
 obtain rfl:=z7h s3
 exact rfl
theorem k84_mk (w : World) (x : S84)  : k84.K w x [.int .i64 x.f0,.int .i64 x.f1,.int .i64 x.f2,.int .u64 x.f3.f0,.int .u64 x.f3.f1]:=⟨[.int .i64 x.f0],[.int .i64 x.f1,.int .i64 x.f2,.int .u64 x.f3.f0,.int .u64 x.f3.f1],rfl,rfl,⟨[.int .i64 x.f1],[.int .i64 x.f2,.int .u64 x.f3.f0,.int .u64 x.f3.f1],rfl,rfl,⟨[.int .i64 x.f2],[.int .u64 x.f3.f0,.int .u64 x.f3.f1],rfl,rfl,(k48_mk w x.f3 )⟩⟩⟩
theorem k84_mkM (w : World) (base : Nat) (ok : Nat → Prop) (x : S84)  : k84.M w base ok x [.int .i64 x.f0,.int .i64 x.f1,.int .i64 x.f2,.int .u64 x.f3.f0,.int .u64 x.f3.f1]:=⟨[.int .i64 x.f0],[.int .i64 x.f1,.int .i64 x.f2,.int .u64 x.f3.f0,.int .u64 x.f3.f1],rfl,rfl,⟨[.int .i64 x.f1],[.int .i64 x.f2,.int .u64 x.f3.f0,.int .u64 x.f3.f1],rfl,rfl,⟨[.int .i64 x.f2],[.int .u64 x.f3.f0,.int .u64 x.f3.f1],rfl,rfl,(z7g w base ok x.f3 )⟩⟩⟩
theorem k84_mkF (W : World) (ok : Nat → Prop) (x : S84) : Kd.FK k84 W ok x [.int .i64 x.f0,.int .i64 x.f1,.int .i64 x.f2,.int .u64 x.f3.f0,.int .u64 x.f3.f1]:=fun W2 _=>k84_mk W2 x
def z5w (xs : List S84) (i : Int) : S84:=xs.getD i.toNat z84
theorem at_T84 {w : World} {A : Option Addr} {n : Nat} {xs : List S84} (h : Kd.C k84 w A n xs) (i : Int) (h0 : 0 ≤ i) (h1 : i < n) : ∃ ad , A = some ad ∧ w.cell? (ad.add (i.toNat * 5)) = some (.int .i64 (z5w xs i).f0) ∧ w.cell? ⟨(ad.add (i.toNat * 5)).block,(ad.add (i.toNat * 5)).off + 1,none⟩ = some (.int .i64 (z5w xs i).f1) ∧ w.cell? ⟨(ad.add (i.toNat * 5)).block,(ad.add (i.toNat * 5)).off + 2,none⟩ = some (.int .i64 (z5w xs i).f2) ∧ w.cell? ⟨(ad.add (i.toNat * 5)).block,(ad.add (i.toNat * 5)).off + 3,none⟩ = some (.int .u64 (z5w xs i).f3.f0) ∧ w.cell? ⟨(ad.add (i.toNat * 5)).block,(ad.add (i.toNat * 5)).off + 4,none⟩ = some (.int .u64 (z5w xs i).f3.f1):=by
 obtain ⟨ad,c,e,_,hK,hc0⟩:=Kd.z5D h z84 i h0 h1
 have hc : ∀ j u,c[j]? = some u → w.cell? (ad.add (i.toNat * 5 + j)) = some u:=hc0
 obtain rfl:=k84_open hK
 exact ⟨ad,e,hc 0 _ rfl,by rw [← z24 _ _ 1 zz86];exact hc 1 _ rfl,by rw [← z24 _ _ 2 zz86];exact hc 2 _ rfl,by rw [← z24 _ _ 3 zz86];exact hc 3 _ rfl,by rw [← z24 _ _ 4 zz86];exact hc 4 _ rfl⟩
end Go.Proofs.Ytklkmflhnljbdaa.P
namespace Go.Proofs.Ytklkmflhnljbdaa.P
open Go.RowKit Go.Proofs.YtklkmflhnljbdaaW.PrintWords Go.Proofs.YtklkmflhnljbdaaW.PrintLast Go.Proofs.YtklkmflhnljbdaaW.PrintMore
attribute [local go_sem] z17 z19 z1m z1n zU zV z18 z1a   -- for this text's walks alone
set_option linter.unusedVariables false
set_option linter.unusedSimpArgs false
theorem eqA37 (d : Nat) (w : World) (x0 y0 : Int) (x1 y1 : Int) :
 (Op.equalIn (d + 2) 37 (.agg #[.int .u64 x0,.int .u64 x1]) (.agg #[.int .u64 y0,.int .u64 y1])).run Try.prog w = .ok (x0 == y0 && (x1 == y1)) w:=by
 refine eqA_of Try.underlying37 zz84 ?_
 refine z60 zz88 zz82 zz82 (by go_simp) ?_
 exact z61 zz88 zz82 zz82 (by go_simp)
end Go.Proofs.Ytklkmflhnljbdaa.P
namespace Go.Proofs.Ytklkmflhnljbdaa.P
open Go.RowKit Go.Proofs.YtklkmflhnljbdaaW.PrintWords Go.Proofs.YtklkmflhnljbdaaW.PrintLast Go.Proofs.YtklkmflhnljbdaaW.PrintMore
attribute [local go_sem] z17 z19 z1m z1n zU zV z18 z1a   -- for this text's walks alone
set_option linter.unusedVariables false
set_option linter.unusedSimpArgs false
def z1T.f (a0_0 : Int) (a0_1 : Int) (a1 : Int) : Option (Int):=if a1 ≥ 64 then (if 0 ≤ (IntKind.u64.wrap (wrap64 (a1 - 64))) then (some (Go.bits .and .u64 (shr .u64 a0_0 (IntKind.u64.wrap (wrap64 (a1 - 64)))) 1)) else (none)) else (if 0 ≤ (IntKind.u64.wrap (a1)) then (some (Go.bits .and .u64 (shr .u64 a0_1 (IntKind.u64.wrap (a1))) 1)) else (none))
set_option maxHeartbeats 8000000 in
set_option maxRecDepth 100000 in
theorem z1T.calls (a0_0 : Int) (a0_1 : Int) (a1 : Int) (r : Int) (w : World) (h : z1T.f a0_0 a0_1 a1 = some r) :
 Calls Try.prog 87 #[.agg #[.int .u64 a0_0,.int .u64 a0_1],.int .i64 a1] w fun e w'=>e = .returned (.int .u64 r) ∧ Below w.heap.size w w':=by
 have hu48:=Try.underlying48
 have HB:=z4.mk (Below.refl w.heap.size w)
 have H : (if a1 ≥ 64 then (if 0 ≤ (IntKind.u64.wrap (wrap64 (a1 - 64))) then (some (Go.bits .and .u64 (shr .u64 a0_0 (IntKind.u64.wrap (wrap64 (a1 - 64)))) 1)) else (none)) else (if 0 ≤ (IntKind.u64.wrap (a1)) then (some (Go.bits .and .u64 (shr .u64 a0_1 (IntKind.u64.wrap (a1))) 1)) else (none))) = some r:=h
 clear h
 by_cases c3 : a1 ≥ 64
 · rw [if_pos c3] at H
   have c3b0 : decide (64 ≤ a1) = true:=decide_eq_true c3
   clear c3
   obtain ⟨ji4,hji4⟩ : ∃ j_ : Int,(IntKind.u64.wrap (wrap64 (a1 - 64))) = j_:=⟨_,rfl⟩
   replace H : (if 0 ≤ (ji4) then (some (Go.bits .and .u64 (shr .u64 a0_0 (ji4)) 1)) else (none)) = some r:=by first|(rw [hji4] at H;exact H)|(simp only [hji4] at H ⊢;exact H)
   by_cases c5 : 0 ≤ (ji4)
   rotate_left
   · rw [if_neg c5] at H
     exact absurd H zz87
   rw [if_pos c5] at H
   have c5b0:=eq_true c5
   have c5b1 : decide (0 ≤ (ji4)) = true:=decide_eq_true c5
   clear c5
   obtain ⟨ji6,hji6⟩ : ∃ j_ : Int,(shr .u64 a0_0 (ji4)) = j_:=⟨_,rfl⟩
   replace H : (some (Go.bits .and .u64 (ji6) 1)) = some r:=by first|(rw [hji6] at H;exact H)|(simp only [hji6] at H ⊢;exact H)
   have hji6_ : (a0_0 / 2 ^ min (ji4).toNat 64) = ji6:=hji6
   have hji6z : (ji4) ≤ 64 → (a0_0 / 2 ^ (ji4).toNat) = ji6:=z2K hji6
   obtain rfl:=Option.some.inj H
   go_enter Try.func87,Try.ntmps87
   go_wp2_with (first|((with_reducible refine zr (N:=2) rfl ?_);refine zy ?hg (N:=2) ?hd (cs:=#[.int .u64 a0_0,.int .u64 a0_1]) (t:=48) ?hr ?_;(case hd=>rfl);(case hg=>rfl);(case hr=>first|(go_simp;done)|(go_simp;rfl));intro gb101 hg w7 hbox hb;have n0_:=z4.mk (z9 zz45 hb);have n1_:=z4.mk (hbox);have n2_:=z4.mk ((by rw [hg];exact (ze zz45) : w.heap.size ≤ gb101));have n3_:=z4.mk ((by rw [hg];exact (ze zz45) : w.heap.size ≤ gb101));clear HB;have HB:=n0_;have BK101:=n1_;have GW101:=n2_;have GE101:=n3_;clear n0_ n1_ n2_ n3_;clear hb hbox hg;have hcz8_0 : w7.cell? ⟨gb101,0,none⟩ = some (.int .u64 a0_0):=(zf BK101.out 0).trans rfl;have hcz8_1 : w7.cell? ⟨gb101,1,none⟩ = some (.int .u64 a0_1):=(zf BK101.out 1).trans rfl;have hfz8_0:=za BK101.out 0;have hfz8_1:=za BK101.out 1))
   go_ret
   exact ⟨by first|rfl|(simp [zi,zj] <;> rfl)|(simp only [← hji4,← hji6];first|rfl|(simp [zi,zj] <;> rfl))|(simp [*,zi,zj] <;> rfl),by repeat (first|(with_reducible first|exact HB.out|apply zg|apply z6|apply zc|refine zd ?_ GE101.out)|exact HB.out)⟩
 rw [if_neg c3] at H
 have c3b0 : decide (64 ≤ a1) = false:=decide_eq_false c3
 clear c3
 obtain ⟨ji9,hji9⟩ : ∃ j_ : Int,(IntKind.u64.wrap (a1)) = j_:=⟨_,rfl⟩
 replace H : (if 0 ≤ (ji9) then (some (Go.bits .and .u64 (shr .u64 a0_1 (ji9)) 1)) else (none)) = some r:=by first|(rw [hji9] at H;exact H)|(simp only [hji9] at H ⊢;exact H)
 by_cases c10 : 0 ≤ (ji9)
 rotate_left
 · rw [if_neg c10] at H
   exact absurd H zz87
 rw [if_pos c10] at H
 have c10b0:=eq_true c10
 have c10b1 : decide (0 ≤ (ji9)) = true:=decide_eq_true c10
 clear c10
 obtain ⟨ji11,hji11⟩ : ∃ j_ : Int,(shr .u64 a0_1 (ji9)) = j_:=⟨_,rfl⟩
 replace H : (some (Go.bits .and .u64 (ji11) 1)) = some r:=by first|(rw [hji11] at H;exact H)|(simp only [hji11] at H ⊢;exact H)
 have hji11_ : (a0_1 / 2 ^ min (ji9).toNat 64) = ji11:=hji11
 have hji11z : (ji9) ≤ 64 → (a0_1 / 2 ^ (ji9).toNat) = ji11:=z2K hji11
 obtain rfl:=Option.some.inj H
 go_enter Try.func87,Try.ntmps87
 go_wp2_with (first|((with_reducible refine zr (N:=2) rfl ?_);refine zy ?hg (N:=2) ?hd (cs:=#[.int .u64 a0_0,.int .u64 a0_1]) (t:=48) ?hr ?_;(case hd=>rfl);(case hg=>rfl);(case hr=>first|(go_simp;done)|(go_simp;rfl));intro gb101 hg w12 hbox hb;have n0_:=z4.mk (z9 zz45 hb);have n1_:=z4.mk (hbox);have n2_:=z4.mk ((by rw [hg];exact (ze zz45) : w.heap.size ≤ gb101));have n3_:=z4.mk ((by rw [hg];exact (ze zz45) : w.heap.size ≤ gb101));clear HB;have HB:=n0_;have BK101:=n1_;have GW101:=n2_;have GE101:=n3_;clear n0_ n1_ n2_ n3_;clear hb hbox hg;have hcz13_0 : w12.cell? ⟨gb101,0,none⟩ = some (.int .u64 a0_0):=(zf BK101.out 0).trans rfl;have hcz13_1 : w12.cell? ⟨gb101,1,none⟩ = some (.int .u64 a0_1):=(zf BK101.out 1).trans rfl;have hfz13_0:=za BK101.out 0;have hfz13_1:=za BK101.out 1))
 go_ret
 exact ⟨by first|rfl|(simp [zi,zj] <;> rfl)|(simp only [← hji9,← hji11];first|rfl|(simp [zi,zj] <;> rfl))|(simp [*,zi,zj] <;> rfl),by repeat (first|(with_reducible first|exact HB.out|apply zg|apply z6|apply zc|refine zd ?_ GE101.out)|exact HB.out)⟩
end Go.Proofs.Ytklkmflhnljbdaa.P
namespace Go.Proofs.Ytklkmflhnljbdaa.P
open Go.RowKit Go.Proofs.YtklkmflhnljbdaaW.PrintWords Go.Proofs.YtklkmflhnljbdaaW.PrintLast Go.Proofs.YtklkmflhnljbdaaW.PrintMore
attribute [local go_sem] z17 z19 z1m z1n zU zV z18 z1a   -- for this text's walks alone
set_option linter.unusedVariables false
set_option linter.unusedSimpArgs false
mutual
def zw.j0 : Nat → Int → List Int → Bool → Int → Int → Option (Bool)
 | 0,_,_,_,_,_=>none
 | k + 1,x0,x5,x13,x102000,x102001=>if x13 = true then (some false) else (if 0 ≤ x0 then (if x0 < (x5.length : Int) then (zw.l0 k (rd x5 x0) x102000 x102001) else (none)) else (none))
def zw.l0 : Nat → Int → Int → Int → Option (Bool)
 | 0,_,_,_=>none
 | k + 1,x6,x102000,x102001=>if x6 < 128 then ((z1T.f x102000 x102001 x6).bind fun t106=>(if t106 = 1 then (some false) else (zw.l0 k (wrap64 (x6 + 1)) x102000 x102001))) else (some true)
end
def zw.f (k : Nat) (a0 : Int) (a1_0 : Int) (a1_1 : Int) : Option (Bool):=(some (([1,2,4,8,16,32,64,128] : List Int) : List Int)).bind fun y102=>(if a0 < 0 then (zw.j0 k a0 y102 true a1_0 a1_1) else (zw.j0 k a0 y102 (decide (a0 > 7)) a1_0 a1_1))
theorem zw.z1b : ∀ k,(∀ y0 y1 y2 y3 y4,LeO (zw.j0 k y0 y1 y2 y3 y4) (zw.j0 (k + 1) y0 y1 y2 y3 y4)) ∧ (∀ y0 y1 y2,LeO (zw.l0 k y0 y1 y2) (zw.l0 (k + 1) y0 y1 y2))
 | 0=>⟨fun _ _ _ _ _ r h=>by simp [zw.j0] at h,fun _ _ _ r h=>by simp [zw.l0] at h⟩
 | k + 1=>by
  obtain ⟨ih0,ih1⟩:=zw.z1b k
  refine ⟨?_,?_⟩
  · intro y0 y1 y2 y3 y4
    unfold zw.j0
    repeat' first
    | (with_reducible exact ih0 _ _ _ _ _)
    | (with_reducible exact ih1 _ _ _)
    | (with_reducible exact LeO.refl _)
    | (with_reducible exact LeO.none _)
    | (with_reducible refine LeO.ite ?_ ?_)
    | (with_reducible refine LeO.bind ?_ (fun _=>?_))
    | exact ih0 _ _ _ _ _
    | exact ih1 _ _ _
    | exact LeO.none _
    | refine LeO.ite ?_ ?_
    | refine LeO.bind ?_ (fun _=>?_)
  · intro y0 y1 y2
    unfold zw.l0
    repeat' first
    | (with_reducible exact ih0 _ _ _ _ _)
    | (with_reducible exact ih1 _ _ _)
    | (with_reducible exact LeO.refl _)
    | (with_reducible exact LeO.none _)
    | (with_reducible refine LeO.ite ?_ ?_)
    | (with_reducible refine LeO.bind ?_ (fun _=>?_))
    | exact ih0 _ _ _ _ _
    | exact ih1 _ _ _
    | exact LeO.none _
    | refine LeO.ite ?_ ?_
    | refine LeO.bind ?_ (fun _=>?_)
theorem zw.mono : ∀ a0 a1 a2 k,LeO (zw.f k a0 a1 a2) (zw.f (k + 1) a0 a1 a2):=by
 intro a0 a1 a2 k
 obtain ⟨ih0,ih1⟩:=zw.z1b k
 unfold zw.f
 repeat' first
  | (with_reducible exact ih0 _ _ _ _ _)
  | (with_reducible exact ih1 _ _ _)
  | (with_reducible exact LeO.refl _)
  | (with_reducible exact LeO.none _)
  | (with_reducible refine LeO.ite ?_ ?_)
  | (with_reducible refine LeO.bind ?_ (fun _=>?_))
  | exact ih0 _ _ _ _ _
  | exact ih1 _ _ _
  | exact LeO.none _
  | refine LeO.ite ?_ ?_
  | refine LeO.bind ?_ (fun _=>?_)
set_option maxHeartbeats 8000000 in
set_option maxRecDepth 100000 in
theorem zw.calls (k : Nat) (a0 : Int) (a1_0 : Int) (a1_1 : Int) (r : Bool) (w : World) (h : zw.f k a0 a1_0 a1_1 = some r) :
 Calls Try.prog 46 #[.int .i64 a0,.agg #[.int .u64 a1_0,.int .u64 a1_1]] w fun e w'=>e = .returned (.bool r) ∧ Below w.heap.size w w':=by
 have hu48:=Try.underlying48
 have HB:=z4.mk (Below.refl w.heap.size w)
 have H : ((some (([1,2,4,8,16,32,64,128] : List Int) : List Int)).bind fun y102=>(if a0 < 0 then (zw.j0 k a0 y102 true a1_0 a1_1) else (zw.j0 k a0 y102 (decide (a0 > 7)) a1_0 a1_1))) = some r:=h
 clear h
 obtain ⟨y102,hy102⟩ : ∃ y_ : List Int,y_ = (([1,2,4,8,16,32,64,128] : List Int)):=⟨_,rfl⟩
 replace H : (if a0 < 0 then (zw.j0 k a0 y102 true a1_0 a1_1) else (zw.j0 k a0 y102 (decide (a0 > 7)) a1_0 a1_1)) = some r:=by first|(rw [hy102];with_reducible exact H)|(have H2_:=(Option.bind_some _ _).symm.trans H;rw [hy102];with_reducible exact H2_)|(have H2_:=(Option.bind_some _ _).symm.trans H;with_reducible exact H2_)|with_reducible exact H|(rw [hy102];exact H)|exact H
 have Ny102:=z4.mk hy102
 clear hy102
 have HC3:=z4.mk H
 clear H
 go_enter Try.func46,Try.ntmps46
 go_upto_region 2 with (first|((with_reducible refine zr (N:=3) rfl ?_);refine zy ?hg (N:=3) ?hd (cs:=#[.int .u64 a1_0,.int .u64 a1_1]) (t:=48) ?hr ?_;(case hd=>rfl);(case hg=>rfl);(case hr=>first|(go_simp;done)|(go_simp;rfl));intro gb101 hg w4 hbox hb;have n0_:=z4.mk (z9 zz45 hb);have n1_:=z4.mk (hbox);have n2_:=z4.mk ((by rw [hg];exact (ze zz45) : w.heap.size ≤ gb101));have n3_:=z4.mk ((by rw [hg];exact (ze zz45) : w.heap.size ≤ gb101));clear HB;have HB:=n0_;have BK101:=n1_;have GW101:=n2_;have GE101:=n3_;clear n0_ n1_ n2_ n3_;clear hb hbox hg)|((with_reducible refine zr (N:=7) rfl ?_);refine Kd.z2b (Kd.int .i64) _ 3 ?hg (N:=7) ?hd (xs:=([1,2,4,8,16,32,64,128] : List Int)) (inner:=[.int .i64 1,.int .i64 2,.int .i64 4,.int .i64 8,.int .i64 16,.int .i64 32,.int .i64 64,.int .i64 128]) (ok:=fun _=>True) (okp:=fun _=>True) ?hr ?hp (fun _ hk=>hk) trivial (Below.refl _ _) (Nat.le_refl _) zz87 ?_;(case hd=>rfl);(case hg=>rfl);(case hr=>first|(go_simp;done)|(go_simp;rfl));(case hp=>exact (Reps.one (show Kd.M (Kd.int .i64) _ _ _ 1 [.int .i64 1] from rfl) (Reps.one (show Kd.M (Kd.int .i64) _ _ _ 2 [.int .i64 2] from rfl) (Reps.one (show Kd.M (Kd.int .i64) _ _ _ 4 [.int .i64 4] from rfl) (Reps.one (show Kd.M (Kd.int .i64) _ _ _ 8 [.int .i64 8] from rfl) (Reps.one (show Kd.M (Kd.int .i64) _ _ _ 16 [.int .i64 16] from rfl) (Reps.one (show Kd.M (Kd.int .i64) _ _ _ 32 [.int .i64 32] from rfl) (Reps.one (show Kd.M (Kd.int .i64) _ _ _ 64 [.int .i64 64] from rfl) (Reps.one (show Kd.M (Kd.int .i64) _ _ _ 128 [.int .i64 128] from rfl) (Reps.none _ _))))))))));intro v103 w5 ho6 hb hg_ hnew_;clear hg_ hnew_;(first|rw [← Ny102.out] at ho6|(simp only [Int.reduceToNat] at ho6;rw [← Ny102.out] at ho6));have n0_:=z4.mk (Kd.z1e ho6 (ze zz40));have n1_:=z4.mk (zh (g:=gb101) (o:=.cells #[.int .u64 a1_0,.int .u64 a1_1] 48 (0,0)) zz46 hb);have n2_:=z4.mk (z9 zz40 hb);clear BK101;clear HB;have HO104:=n0_;have BK101:=n1_;have HB:=n2_;clear n0_ n1_ n2_;clear hb ho6))
 (try simp only [Act.put,List.setIfInBounds_toArray,List.set_cons_zero,List.set_cons_succ])
 go_cut [13] (fun v13 wc=>∃ (kq : Nat) (x13_2 : Bool),v13 = .bool x13_2 ∧ z4 (zw.j0 kq a0 y102 x13_2 a1_0 a1_1 = some r) ∧ z4 (kq ≤ k) ∧ z4 (Kd.R (Kd.int .i64) 3 wc w.heap.size (fun _=>True) v103 y102) ∧ z4 (wc.heap[gb101]? = some (.cells #[.int .u64 a1_0,.int .u64 a1_1] 48 (0,0))) ∧ z4 (Below w.heap.size w wc))
 case first =>
  have H:=HC3.out
  clear HC3
  by_cases c7 : a0 < 0
  rotate_left
  · rw [if_neg c7] at H
    have c7b0 : decide (a0 < 0) = false:=decide_eq_false c7
    clear c7
    (first|rw [c7b0]|(simp only [zY,z16];rw [c7b0])|skip)
    have H':=z4.mk H
    clear H
    go_wp2
    go_meet
    case rel=>exact ⟨_,(decide (a0 > 7)),zz81,H',⟨by first|omega|exact Nat.le_refl _⟩,⟨by (with_reducible repeat (first|apply Kd.zH|apply Kd.zI|apply Kd.zS));exact HO104.out⟩,⟨by (with_reducible repeat (first|refine z8 ?_ _|refine zb ?_|refine z7 ?_ _));exact BK101.out⟩,⟨by repeat (first|(with_reducible first|exact HB.out|apply zg|apply z6|apply zc|refine zd ?_ GE101.out)|exact HB.out)⟩⟩
  rw [if_pos c7] at H
  have c7b0 : decide (a0 < 0) = true:=decide_eq_true c7
  clear c7
  (first|rw [c7b0]|(simp only [zY,z16];rw [c7b0])|skip)
  have H':=z4.mk H
  clear H
  go_wp2
  go_meet
  case rel=>exact ⟨_,(true),zz81,H',⟨by first|omega|exact Nat.le_refl _⟩,⟨by (with_reducible repeat (first|apply Kd.zH|apply Kd.zI|apply Kd.zS));exact HO104.out⟩,⟨by (with_reducible repeat (first|refine z8 ?_ _|refine zb ?_|refine z7 ?_ _));exact BK101.out⟩,⟨by repeat (first|(with_reducible first|exact HB.out|apply zg|apply z6|apply zc|refine zd ?_ GE101.out)|exact HB.out)⟩⟩
 case rest =>
  clear HC3
  (try clear p2);(try clear c4);(try clear c7);(try clear c7b0)
  obtain ⟨kq,x13_2,rfl,HA,HJ2,HO_5,BK101,HB⟩:=hcut
  cases kq with
  | zero=>exact absurd HA.out (by simp [zw.j0])
  | succ kj2 =>
   have H:=HA.out
   clear HA
   simp only [zw.j0] at H
   by_cases c8 : x13_2 = true
   · subst c8
     have H1 : (some false) = some r:=by rw [if_pos rfl] at H;exact H
     clear H
     have H:=H1
     clear H1
     obtain rfl:=Option.some.inj H
     go_wp2
     go_ret
     exact ⟨by first|rfl|(simp [zi,zj] <;> rfl)|(simp [*,zi,zj] <;> rfl),by repeat (first|(with_reducible first|exact HB.out|apply zg|apply z6|apply zc|refine zd ?_ GE101.out)|exact HB.out)⟩
   replace c8:=Bool.eq_false_iff.mpr c8
   subst c8
   have H1 : (if 0 ≤ a0 then (if a0 < (y102.length : Int) then (zw.l0 kj2 (rd y102 a0) a1_0 a1_1) else (none)) else (none)) = some r:=by rw [if_neg (show ¬ (false = true) by decide)] at H;exact H
   clear H
   have H:=H1
   clear H1
   by_cases c9 : 0 ≤ a0
   rotate_left
   · rw [if_neg c9] at H
     exact absurd H zz87
   rw [if_pos c9] at H
   have c9b0 : decide (0 ≤ a0) = true:=decide_eq_true c9
   clear c9
   by_cases c10 : a0 < (y102.length : Int)
   rotate_left
   · rw [if_neg c10] at H
     exact absurd H zz87
   rw [if_pos c10] at H
   have c10b0 : decide (a0 < (y102.length : Int)) = true:=decide_eq_true c10
   clear c10
   have H':=z4.mk H
   clear H
   obtain ⟨Ao11,co11,eo11⟩:=Kd.z1j HO_5.out
   subst eo11
   have p105 : 0 ≤ (a0 : Int):=of_decide_eq_true zz80
   have q105 : a0 < (y102.length : Int):=of_decide_eq_true zz80
   obtain ⟨ad105,e105,hx105_0⟩:=Kd.z5g (Kd.zv HO_5.out).2.2 a0 p105 q105
   cases e105
   replace p105:=eq_true p105
   replace q105:=eq_true q105
   go_wp2
   go_loopg [6] kj2 (fun kq v6 w'=>∃ (x6_2 : Int),v6 = .int .i64 x6_2 ∧ z4 (zw.l0 kq x6_2 a1_0 a1_1 = some r) ∧ z4 (kq ≤ kj2) ∧ z4 (w'.heap[gb101]? = some (.cells #[.int .u64 a1_0,.int .u64 a1_1] 48 (0,0))) ∧ z4 (Below w.heap.size w w'))
   case atStart=>exact ⟨(rd y102 a0),zz81,H',⟨Nat.le_refl _⟩,⟨by (with_reducible repeat (first|refine z8 ?_ _|refine zb ?_|refine z7 ?_ _));exact BK101.out⟩,⟨by repeat (first|(with_reducible first|exact HB.out|apply zg|apply z6|apply zc|refine zd ?_ GE101.out)|exact HB.out)⟩⟩
   case round =>
    clear H'
    (try clear c1);(try clear p1);(try clear q1);(try clear hx1);(try clear p2);(try clear c4);(try clear c7);(try clear c7b0);(try clear c8);(try clear c9);(try clear c9b0);(try clear c10);(try clear c10b0);(try clear p10);(try clear q10);(try clear hx10);(try clear hx105_0);(try clear p105);(try clear p2);(try clear q105)
    obtain ⟨x6_2,rfl,HA,HK2,BK101,HB⟩:=hrel
    cases gk with
    | zero=>exact absurd HA.out (by simp [zw.l0])
    | succ k2 =>
     have H:=HA.out
     clear HA
     simp only [zw.l0] at H
     by_cases c12 : x6_2 < 128
     rotate_left
     · rw [if_neg c12] at H
       have c12b0 : decide (x6_2 < 128) = false:=decide_eq_false c12
       clear c12
       obtain rfl:=Option.some.inj H
       go_wp2
       go_ret
       exact ⟨by first|rfl|(simp [zi,zj] <;> rfl)|(simp [*,zi,zj] <;> rfl),by repeat (first|(with_reducible first|exact HB.out|apply zg|apply z6|apply zc|refine zd ?_ GE101.out)|exact HB.out)⟩
     rw [if_pos c12] at H
     have c12b0 : decide (x6_2 < 128) = true:=decide_eq_true c12
     clear c12
     replace H:=Option.bind_eq_some_iff.mp H
     obtain ⟨t106,A130,H⟩:=H
     replace H : (if t106 = 1 then (some false) else (zw.l0 k2 (wrap64 (x6_2 + 1)) a1_0 a1_1)) = some r:=H
     have A13:=z4.mk A130
     clear A130
     by_cases c14 : t106 = 1
     · rw [if_pos c14] at H
       have c14b0 : (t106 == 1) = true:=beq_iff_eq.mpr c14
       have c14b1 : (t106 != 1) = false:=bne_eq_false_iff_eq.mpr c14
       clear c14
       obtain rfl:=Option.some.inj H
       have hcz15_0 : wr.cell? ⟨gb101,0,none⟩ = some (.int .u64 a1_0):=(zf BK101.out 0).trans rfl
       have hcz15_1 : wr.cell? ⟨gb101,1,none⟩ = some (.int .u64 a1_1):=(zf BK101.out 1).trans rfl
       have hfz15_0:=za BK101.out 0
       have hfz15_1:=za BK101.out 1
       go_wp2_with (first|((with_reducible refine zl (f:=87) rfl ?_);refine goesL_ (some 24) rfl rfl Try.func87 zz84 rfl #[.agg #[.int .u64 a1_0,.int .u64 a1_1],.int .i64 x6_2] rfl zz44 ?_;(with_reducible refine (z1T.calls a1_0 a1_1 x6_2 t106 _ A13.out).mono ?_);rintro e w16 ⟨rfl,hb⟩;refine ⟨_,rfl,?_⟩;have n0_:=z4.mk (zh (g:=gb101) (o:=.cells #[.int .u64 a1_0,.int .u64 a1_1] 48 (0,0)) zz46 hb);have n1_:=z4.mk (z9 zz40 hb);clear BK101;clear HB;have BK101:=n0_;have HB:=n1_;clear n0_ n1_;(try clear hb);(try clear hb2);(try clear hk);(try clear hi)))
       go_ret
       exact ⟨by first|rfl|(simp [zi,zj] <;> rfl)|(simp [*,zi,zj] <;> rfl),by repeat (first|(with_reducible first|exact HB.out|apply zg|apply z6|apply zc|refine zd ?_ GE101.out)|exact HB.out)⟩
     rw [if_neg c14] at H
     have c14b0 : (t106 == 1) = false:=beq_eq_false_iff_ne.mpr c14
     have c14b1 : (t106 != 1) = true:=bne_iff_ne.mpr c14
     have H':=z4.mk H
     clear H
     have hcz17_0 : wr.cell? ⟨gb101,0,none⟩ = some (.int .u64 a1_0):=(zf BK101.out 0).trans rfl
     have hcz17_1 : wr.cell? ⟨gb101,1,none⟩ = some (.int .u64 a1_1):=(zf BK101.out 1).trans rfl
     have hfz17_0:=za BK101.out 0
     have hfz17_1:=za BK101.out 1
     go_wp2_with (first|((with_reducible refine zl (f:=87) rfl ?_);refine goesL_ (some 24) rfl rfl Try.func87 zz84 rfl #[.agg #[.int .u64 a1_0,.int .u64 a1_1],.int .i64 x6_2] rfl zz44 ?_;(with_reducible refine (z1T.calls a1_0 a1_1 x6_2 t106 _ A13.out).mono ?_);rintro e w18 ⟨rfl,hb⟩;refine ⟨_,rfl,?_⟩;have n0_:=z4.mk (zh (g:=gb101) (o:=.cells #[.int .u64 a1_0,.int .u64 a1_1] 48 (0,0)) zz46 hb);have n1_:=z4.mk (z9 zz40 hb);clear BK101;clear HB;have BK101:=n0_;have HB:=n1_;clear n0_ n1_;(try clear hb);(try clear hb2);(try clear hk);(try clear hi)))
     go_roundg k2
     case measure=>have:=HJ2.out;have:=HK2.out;omega
     case rel=>exact ⟨(wrap64 (x6_2 + 1)),zz81,H',⟨by have:=HJ2.out;have:=HK2.out;omega⟩,⟨by (with_reducible repeat (first|refine z8 ?_ _|refine zb ?_|refine z7 ?_ _));exact BK101.out⟩,⟨by repeat (first|(with_reducible first|exact HB.out|apply zg|apply z6|apply zc|refine zd ?_ GE101.out)|exact HB.out)⟩⟩
end Go.Proofs.Ytklkmflhnljbdaa.P
namespace Go.Proofs.Ytklkmflhnljbdaa.P
open Go.RowKit Go.Proofs.YtklkmflhnljbdaaW.PrintWords Go.Proofs.YtklkmflhnljbdaaW.PrintLast Go.Proofs.YtklkmflhnljbdaaW.PrintMore
attribute [local go_sem] z17 z19 z1m z1n zU zV z18 z1a   -- for this text's walks alone
set_option linter.unusedVariables false
set_option linter.unusedSimpArgs false
def zn.l0 : Nat → Int → List (S48) → Int → Option (Bool)
 | 0,_,_,_=>none
 | k + 1,x0,x1,x5=>if x5 < (x1.length : Int) then (if 0 ≤ x5 then ((zw.f k x0 ((z1A x1 x5).f0) ((z1A x1 x5).f1)).bind fun t102=>(if t102 = true then (zn.l0 k x0 x1 (wrap64 (x5 + 1))) else (some false))) else (none)) else (some true)
def zn.f (k : Nat) (a0 : Int) (l1 : List (S48)) : Option (Bool):=zn.l0 k a0 l1 0
theorem zn.z1b : ∀ k,(∀ y0 y1 y2,LeO (zn.l0 k y0 y1 y2) (zn.l0 (k + 1) y0 y1 y2))
 | 0=>fun _ _ _ r h=>by simp [zn.l0] at h
 | k + 1=>by
  have ih0:=zn.z1b k
  · intro y0 y1 y2
    unfold zn.l0
    repeat' first
    | (with_reducible exact ih0 _ _ _)
    | (with_reducible exact zw.mono _ _ _ _)
    | (with_reducible exact LeO.refl _)
    | (with_reducible exact LeO.none _)
    | (with_reducible refine LeO.ite ?_ ?_)
    | (with_reducible refine LeO.bind ?_ (fun _=>?_))
    | exact ih0 _ _ _
    | exact zw.mono _ _ _ _
    | exact LeO.none _
    | refine LeO.ite ?_ ?_
    | refine LeO.bind ?_ (fun _=>?_)
theorem zn.mono : ∀ a0 a1 k,LeO (zn.f k a0 a1) (zn.f (k + 1) a0 a1):=by
 intro a0 a1 k
 have ih0:=zn.z1b k
 unfold zn.f
 repeat' first
  | (with_reducible exact ih0 _ _ _)
  | (with_reducible exact zw.mono _ _ _ _)
  | (with_reducible exact LeO.refl _)
  | (with_reducible exact LeO.none _)
  | (with_reducible refine LeO.ite ?_ ?_)
  | (with_reducible refine LeO.bind ?_ (fun _=>?_))
  | exact ih0 _ _ _
  | exact zw.mono _ _ _ _
  | exact LeO.none _
  | refine LeO.ite ?_ ?_
  | refine LeO.bind ?_ (fun _=>?_)
set_option maxHeartbeats 8000000 in
set_option maxRecDepth 100000 in
theorem zn.calls (k : Nat) (a0 : Int) (A1 : Option Addr) (c1 : Nat) (l1 : List (S48)) (r : Bool) (w : World) (hr1 : Kd.C k48 w A1 l1.length l1) (hc1 : l1.length ≤ c1) (h : zn.f k a0 l1 = some r) :
 Calls Try.prog 13 #[.int .i64 a0,.slice A1 l1.length c1] w fun e w'=>e = .returned (.bool r) ∧ Below w.heap.size w w':=by
 have hu48:=Try.underlying48
 have HR1:=z4.mk hr1
 have HC1:=z4.mk hc1
 clear hr1 hc1
 have HB:=z4.mk (Below.refl w.heap.size w)
 have H : (zn.l0 k a0 l1 0) = some r:=h
 clear h
 have H':=z4.mk H
 clear H
 go_enter Try.func13,Try.ntmps13
 go_wp2
 go_loopg [5] k (fun kq v5 w'=>∃ (x5_1 : Int),v5 = .int .i64 x5_1 ∧ z4 (zn.l0 kq a0 l1 x5_1 = some r) ∧ z4 (kq ≤ k) ∧ z4 (Below w.heap.size w w'))
 case atStart=>exact ⟨(0),zz81,H',⟨Nat.le_refl _⟩,⟨by repeat (first|(with_reducible first|exact HB.out|apply zg|apply z6|apply zc)|exact HB.out)⟩⟩
 case round =>
  clear H'
  (try clear c1);(try clear p2)
  obtain ⟨x5_1,rfl,HA,HK1,HB⟩:=hrel
  cases gk with
  | zero=>exact absurd HA.out (by simp [zn.l0])
  | succ k1 =>
   have H:=HA.out
   clear HA
   simp only [zn.l0] at H
   by_cases c3 : x5_1 < (l1.length : Int)
   rotate_left
   · rw [if_neg c3] at H
     have c3b0 : decide (x5_1 < (l1.length : Int)) = false:=decide_eq_false c3
     clear c3
     obtain rfl:=Option.some.inj H
     go_wp2
     go_ret
     exact ⟨by first|rfl|(simp [zi,zj] <;> rfl)|(simp [*,zi,zj] <;> rfl),by repeat (first|(with_reducible first|exact HB.out|apply zg|apply z6|apply zc)|exact HB.out)⟩
   rw [if_pos c3] at H
   have c3b0 : decide (x5_1 < (l1.length : Int)) = true:=decide_eq_true c3
   clear c3
   by_cases c4 : 0 ≤ x5_1
   rotate_left
   · rw [if_neg c4] at H
     exact absurd H zz87
   rw [if_pos c4] at H
   have c4b0 : decide (0 ≤ x5_1) = true:=decide_eq_true c4
   clear c4
   replace H:=Option.bind_eq_some_iff.mp H
   obtain ⟨t102,A50,H⟩:=H
   replace H : (if t102 = true then (zn.l0 k1 a0 l1 (wrap64 (x5_1 + 1))) else (some false)) = some r:=H
   have A5:=z4.mk A50
   clear A50
   by_cases c6 : t102 = true
   rotate_left
   · replace c6:=Bool.eq_false_iff.mpr c6
     subst c6
     have H1 : (some false) = some r:=by rw [if_neg (show ¬ (false = true) by decide)] at H;exact H
     clear H
     have H:=H1
     clear H1
     obtain rfl:=Option.some.inj H
     have p101 : 0 ≤ (x5_1 : Int):=of_decide_eq_true zz80
     have q101 : x5_1 < (l1.length : Int):=of_decide_eq_true zz80
     obtain ⟨ad101,e101,hx101_0,hx101_1⟩:=z44 HR1.out x5_1 p101 q101
     cases e101
     replace hx101_0:=(HB.out.cell (World.block_lt_of_cell? w _ hx101_0)).trans hx101_0
     replace hx101_1:=(HB.out.cell (World.block_lt_of_cell? w _ hx101_1)).trans hx101_1
     replace p101:=eq_true p101
     replace q101:=eq_true q101
     go_wp2_with (first|((with_reducible refine zl (f:=46) rfl ?_);refine goesL_ (some 17) rfl rfl Try.func46 zz84 rfl #[.int .i64 a0,.agg #[.int .u64 ((z1A l1 x5_1).f0),.int .u64 ((z1A l1 x5_1).f1)]] rfl zz44 ?_;(with_reducible refine (zw.calls k1 a0 ((z1A l1 x5_1).f0) ((z1A l1 x5_1).f1) false _ A5.out).mono ?_);rintro e w8 ⟨rfl,hb⟩;refine ⟨_,rfl,?_⟩;have n0_:=z4.mk (z9 zz45 hb);clear HB;have HB:=n0_;clear n0_;(try clear hb);(try clear hb2);(try clear hk);(try clear hi)))
     go_ret
     exact ⟨by first|rfl|(simp [zi,zj] <;> rfl)|(simp [*,zi,zj] <;> rfl),by repeat (first|(with_reducible first|exact HB.out|apply zg|apply z6|apply zc)|exact HB.out)⟩
   subst c6
   have H1 : (zn.l0 k1 a0 l1 (wrap64 (x5_1 + 1))) = some r:=by rw [if_pos rfl] at H;exact H
   clear H
   have H:=H1
   clear H1
   have H':=z4.mk H
   clear H
   have p101 : 0 ≤ (x5_1 : Int):=of_decide_eq_true zz80
   have q101 : x5_1 < (l1.length : Int):=of_decide_eq_true zz80
   obtain ⟨ad101,e101,hx101_0,hx101_1⟩:=z44 HR1.out x5_1 p101 q101
   cases e101
   replace hx101_0:=(HB.out.cell (World.block_lt_of_cell? w _ hx101_0)).trans hx101_0
   replace hx101_1:=(HB.out.cell (World.block_lt_of_cell? w _ hx101_1)).trans hx101_1
   replace p101:=eq_true p101
   replace q101:=eq_true q101
   go_wp2_with (first|((with_reducible refine zl (f:=46) rfl ?_);refine goesL_ (some 17) rfl rfl Try.func46 zz84 rfl #[.int .i64 a0,.agg #[.int .u64 ((z1A l1 x5_1).f0),.int .u64 ((z1A l1 x5_1).f1)]] rfl zz44 ?_;(with_reducible refine (zw.calls k1 a0 ((z1A l1 x5_1).f0) ((z1A l1 x5_1).f1) true _ A5.out).mono ?_);rintro e w7 ⟨rfl,hb⟩;refine ⟨_,rfl,?_⟩;have n0_:=z4.mk (z9 zz45 hb);clear HB;have HB:=n0_;clear n0_;(try clear hb);(try clear hb2);(try clear hk);(try clear hi)))
   go_roundg k1
   case measure=>have:=HK1.out;omega
   case rel=>exact ⟨(wrap64 (x5_1 + 1)),zz81,H',⟨by have:=HK1.out;omega⟩,⟨by repeat (first|(with_reducible first|exact HB.out|apply zg|apply z6|apply zc)|exact HB.out)⟩⟩
end Go.Proofs.Ytklkmflhnljbdaa.P
namespace Go.Proofs.Ytklkmflhnljbdaa.P
open Go.RowKit Go.Proofs.YtklkmflhnljbdaaW.PrintWords Go.Proofs.YtklkmflhnljbdaaW.PrintLast Go.Proofs.YtklkmflhnljbdaaW.PrintMore
attribute [local go_sem] z17 z19 z1m z1n zU zV z18 z1a   -- for this text's walks alone
set_option linter.unusedVariables false
set_option linter.unusedSimpArgs false
def zu.l0 : Nat → List (S37) → List (S48) → Int → Option ((List (S48)))
 | 0,_,_,_=>none
 | k + 1,x0,x3,x4=>if x4 < (x0.length : Int) then (if 0 ≤ x4 then (if x3.length < 8796093022208 then (zu.l0 k x0 (x3 ++ [(⟨(rd_T37 x0 x4).f0,(rd_T37 x0 x4).f1⟩ : S48)]) (wrap64 (x4 + 1))) else (none)) else (none)) else (some x3)
def zu.f (k : Nat) (l0 : List (S37)) : Option ((List (S48))):=zu.l0 k l0 ([] : List (S48)) 0
theorem zu.z1b : ∀ k,(∀ y0 y1 y2,LeO (zu.l0 k y0 y1 y2) (zu.l0 (k + 1) y0 y1 y2))
 | 0=>fun _ _ _ r h=>by simp [zu.l0] at h
 | k + 1=>by
  have ih0:=zu.z1b k
  · intro y0 y1 y2
    unfold zu.l0
    repeat' first
    | (with_reducible exact ih0 _ _ _)
    | (with_reducible exact LeO.refl _)
    | (with_reducible exact LeO.none _)
    | (with_reducible refine LeO.ite ?_ ?_)
    | (with_reducible refine LeO.bind ?_ (fun _=>?_))
    | exact ih0 _ _ _
    | exact LeO.none _
    | refine LeO.ite ?_ ?_
    | refine LeO.bind ?_ (fun _=>?_)
theorem zu.mono : ∀ a0 k,LeO (zu.f k a0) (zu.f (k + 1) a0):=by
 intro a0 k
 have ih0:=zu.z1b k
 unfold zu.f
 repeat' first
  | (with_reducible exact ih0 _ _ _)
  | (with_reducible exact LeO.refl _)
  | (with_reducible exact LeO.none _)
  | (with_reducible refine LeO.ite ?_ ?_)
  | (with_reducible refine LeO.bind ?_ (fun _=>?_))
  | exact ih0 _ _ _
  | exact LeO.none _
  | refine LeO.ite ?_ ?_
  | refine LeO.bind ?_ (fun _=>?_)
set_option maxHeartbeats 8000000 in
set_option maxRecDepth 100000 in
theorem zu.calls (k : Nat) (A0 : Option Addr) (c0 : Nat) (l0 : List (S37)) (r : List (S48)) (w : World) (hr0 : Kd.C k37 w A0 l0.length l0) (hc0 : l0.length ≤ c0) (h : zu.f k l0 = some r) :
 Calls Try.prog 14 #[.slice A0 l0.length c0] w fun e w'=>∃ v0_ : Value,e = .returned (v0_) ∧ Kd.R k48 48 w' w.heap.size (fun _=>True) v0_ r ∧ Below w.heap.size w w':=by
 have hu37:=Try.underlying37
 have HR0:=z4.mk hr0
 have HC0:=z4.mk hc0
 clear hr0 hc0
 have HB:=z4.mk (Below.refl w.heap.size w)
 have H : (zu.l0 k l0 ([] : List (S48)) 0) = some r:=h
 clear h
 have H':=z4.mk H
 clear H
 go_enter Try.func14,Try.ntmps14
 go_wp2
 go_loopg [3,4] k (fun kq v3 v4 w'=>∃ (x3_1 : List (S48)) (x4_1 : Int),v4 = .int .i64 x4_1 ∧ z4 (zu.l0 kq l0 x3_1 x4_1 = some r) ∧ z4 (kq ≤ k) ∧ z4 (Kd.R k48 48 w' w.heap.size (fun _=>True) v3 x3_1) ∧ z4 (Below w.heap.size w w'))
 case atStart=>exact ⟨(([] : List (S48))),(0),zz81,H',⟨Nat.le_refl _⟩,⟨by first|exact Kd.z3e _ _ _ _ _|exact Kd.z3N _ _ _ _ _|exact Kd.z3Q _ _ _ _ _|exact Kd.z3O _ _ _ _ _|exact Kd.z3P _ _ _ _ _⟩,⟨by repeat (first|(with_reducible first|exact HB.out|apply zg|apply z6|apply zc)|exact HB.out)⟩⟩
 case round =>
  clear H'
  (try clear c1)
  obtain ⟨x3_1,x4_1,rfl,HA,HK1,HO_3,HB⟩:=hrel
  cases gk with
  | zero=>exact absurd HA.out (by simp [zu.l0])
  | succ k1 =>
   have H:=HA.out
   clear HA
   simp only [zu.l0] at H
   by_cases c2 : x4_1 < (l0.length : Int)
   rotate_left
   · rw [if_neg c2] at H
     have c2b0 : decide (x4_1 < (l0.length : Int)) = false:=decide_eq_false c2
     clear c2
     obtain rfl:=Option.some.inj H
     go_wp2
     go_ret
     exact ⟨_,by first|rfl|(simp [zi,zj] <;> rfl)|(simp [*,zi,zj] <;> rfl),by (with_reducible repeat (first|apply Kd.zH|apply Kd.zI|apply Kd.zS));exact HO_3.out,by repeat (first|(with_reducible first|exact HB.out|apply zg|apply z6|apply zc)|exact HB.out)⟩
   rw [if_pos c2] at H
   have c2b0 : decide (x4_1 < (l0.length : Int)) = true:=decide_eq_true c2
   clear c2
   by_cases c3 : 0 ≤ x4_1
   rotate_left
   · rw [if_neg c3] at H
     exact absurd H zz87
   rw [if_pos c3] at H
   have c3b0 : decide (0 ≤ x4_1) = true:=decide_eq_true c3
   clear c3
   by_cases c4 : x3_1.length < 8796093022208
   rotate_left
   · rw [if_neg c4] at H
     exact absurd H zz87
   rw [if_pos c4] at H
   have LMc4:=z4.mk c4
   clear c4
   obtain ⟨y102,hy102⟩ : ∃ y_ : List (S48),y_ = (x3_1 ++ [(⟨(rd_T37 l0 x4_1).f0,(rd_T37 l0 x4_1).f1⟩ : S48)]):=⟨_,rfl⟩
   replace H : (zu.l0 k1 l0 y102 (wrap64 (x4_1 + 1))) = some r:=by first|(rw [hy102];with_reducible exact H)|(have H2_:=(Option.bind_some _ _).symm.trans H;rw [hy102];with_reducible exact H2_)|(have H2_:=(Option.bind_some _ _).symm.trans H;with_reducible exact H2_)|with_reducible exact H|(rw [hy102];exact H)|exact H
   have Ny102:=z4.mk hy102
   clear hy102
   have H':=z4.mk H
   clear H
   have p101 : 0 ≤ (x4_1 : Int):=of_decide_eq_true zz80
   have q101 : x4_1 < (l0.length : Int):=of_decide_eq_true zz80
   obtain ⟨ad101,e101,hx101_0,hx101_1⟩:=z1Y HR0.out x4_1 p101 q101
   cases e101
   replace hx101_0:=(HB.out.cell (World.block_lt_of_cell? w _ hx101_0)).trans hx101_0
   replace hx101_1:=(HB.out.cell (World.block_lt_of_cell? w _ hx101_1)).trans hx101_1
   replace p101:=eq_true p101
   replace q101:=eq_true q101
   go_wp2_with (first|((with_reducible refine z2q (b:=.append) (xs:=#[.tmp 11,.tmp 16]) rfl ?_);at_builtin;refine Kd.z3R k48 (w0:=w) w.heap.size rfl (.tmp 11) (.tmp 16) 28 48 (.agg #[(.int .u64 0),(.int .u64 0)]) 16 rfl Try.underlying28 info48 rfl zz85 zz86 u3 x3_1 (⟨(rd_T37 l0 x4_1).f0,(rd_T37 l0 x4_1).f1⟩ : S48) [.int .u64 ((rd_T37 l0 x4_1).f0),.int .u64 ((rd_T37 l0 x4_1).f1)] (fun _=>True) (fun _=>False) rfl rfl ?aP (fun _ hk=>hk.elim) ?aF ?aO ?aB ?aS ?aL ?_;(case aP=>exact z7g _ _ _ (⟨(rd_T37 l0 x4_1).f0,(rd_T37 l0 x4_1).f1⟩ : S48));(case aB=>exact zz45);(case aF=>exact (fun _ _=>trivial));(case aO=>exact (by (with_reducible repeat (first|apply Kd.zH|apply Kd.zI|apply Kd.zS));exact HO_3.out));(case aS=>exact (ze zz45));(case aL=>have:=LMc4.out;omega);intro v103 w5 ho hb hg hat;rw [← Ny102.out] at ho;have n0_:=z4.mk (hb);have n1_:=z4.mk (ho);clear HB;clear HO_3;have HB:=n0_;have HO104:=n1_;clear n0_ n1_;clear ho hb hg hat))
   go_roundg k1
   case measure=>have:=HK1.out;omega
   case rel=>exact ⟨(y102),(wrap64 (x4_1 + 1)),zz81,H',⟨by have:=HK1.out;omega⟩,⟨by (with_reducible repeat (first|apply Kd.zH|apply Kd.zI|apply Kd.zS));exact HO104.out⟩,⟨by repeat (first|(with_reducible first|exact HB.out|apply zg|apply z6|apply zc)|exact HB.out)⟩⟩
end Go.Proofs.Ytklkmflhnljbdaa.P
namespace Go.Proofs.Ytklkmflhnljbdaa.P
open Go.RowKit Go.Proofs.YtklkmflhnljbdaaW.PrintWords Go.Proofs.YtklkmflhnljbdaaW.PrintLast Go.Proofs.YtklkmflhnljbdaaW.PrintMore
attribute [local go_sem] z17 z19 z1m z1n zU zV z18 z1a   -- for this text's walks alone
set_option linter.unusedVariables false
set_option linter.unusedSimpArgs false
def z1l.l0 : Nat → Int → Int → Option (Int)
 | 0,_,_=>none
 | k + 1,x0,x4=>if x4 < 17 then (if 0 ≤ x4 then (if x0 = (shl .i64 1 x4) then (some x4) else (z1l.l0 k x0 (wrap64 (x4 + 1)))) else (none)) else (some (-1))
def z1l.f (k : Nat) (a0 : Int) : Option (Int):=z1l.l0 k a0 0
theorem z1l.z1b : ∀ k,(∀ y0 y1,LeO (z1l.l0 k y0 y1) (z1l.l0 (k + 1) y0 y1))
 | 0=>fun _ _ r h=>by simp [z1l.l0] at h
 | k + 1=>by
  have ih0:=z1l.z1b k
  · intro y0 y1
    unfold z1l.l0
    repeat' first
    | (with_reducible exact ih0 _ _)
    | (with_reducible exact LeO.refl _)
    | (with_reducible exact LeO.none _)
    | (with_reducible refine LeO.ite ?_ ?_)
    | (with_reducible refine LeO.bind ?_ (fun _=>?_))
    | exact ih0 _ _
    | exact LeO.none _
    | refine LeO.ite ?_ ?_
    | refine LeO.bind ?_ (fun _=>?_)
theorem z1l.mono : ∀ a0 k,LeO (z1l.f k a0) (z1l.f (k + 1) a0):=by
 intro a0 k
 have ih0:=z1l.z1b k
 unfold z1l.f
 repeat' first
  | (with_reducible exact ih0 _ _)
  | (with_reducible exact LeO.refl _)
  | (with_reducible exact LeO.none _)
  | (with_reducible refine LeO.ite ?_ ?_)
  | (with_reducible refine LeO.bind ?_ (fun _=>?_))
  | exact ih0 _ _
  | exact LeO.none _
  | refine LeO.ite ?_ ?_
  | refine LeO.bind ?_ (fun _=>?_)
set_option maxHeartbeats 8000000 in
set_option maxRecDepth 100000 in
theorem z1l.calls (k : Nat) (a0 : Int) (r : Int) (w : World) (h : z1l.f k a0 = some r) :
 Calls Try.prog 57 #[.int .i64 a0] w fun e w'=>e = .returned (.int .i64 r) ∧ Drawn0 w w':=by
 have H : (z1l.l0 k a0 0) = some r:=h
 clear h
 have H':=z4.mk H
 clear H
 go_enter Try.func57,Try.ntmps57
 go_wp2
 go_loopg [4] k (fun kq v4 w'=>∃ (x4_1 : Int),v4 = .int .i64 x4_1 ∧ z4 (z1l.l0 kq a0 x4_1 = some r) ∧ z4 (kq ≤ k) ∧ Drawn0 w w')
 case atStart=>exact ⟨(0),zz81,H',⟨Nat.le_refl _⟩,by repeat (first|exact Drawn0.refl _|apply Drawn0.step)⟩
 case round =>
  clear H'
  obtain ⟨x4_1,rfl,HA,HK1,⟨m1,rfl⟩⟩:=hrel
  cases gk with
  | zero=>exact absurd HA.out (by simp [z1l.l0])
  | succ k1 =>
   have H:=HA.out
   clear HA
   simp only [z1l.l0] at H
   by_cases c2 : x4_1 < 17
   rotate_left
   · rw [if_neg c2] at H
     have c2b0 : decide (x4_1 < 17) = false:=decide_eq_false c2
     clear c2
     obtain rfl:=Option.some.inj H
     go_wp2
     go_ret
     exact ⟨by first|rfl|(simp;done)|(simp [*];done),by repeat (first|exact Drawn0.refl _|apply Drawn0.step)⟩
   rw [if_pos c2] at H
   have c2b0 : decide (x4_1 < 17) = true:=decide_eq_true c2
   clear c2
   by_cases c3 : 0 ≤ x4_1
   rotate_left
   · rw [if_neg c3] at H
     exact absurd H zz87
   rw [if_pos c3] at H
   have c3b0:=eq_true c3
   have c3b1 : decide (0 ≤ x4_1) = true:=decide_eq_true c3
   clear c3
   obtain ⟨ji4,hji4⟩ : ∃ j_ : Int,(shl .i64 1 x4_1) = j_:=⟨_,rfl⟩
   replace H : (if a0 = (ji4) then (some x4_1) else (z1l.l0 k1 a0 (wrap64 (x4_1 + 1)))) = some r:=by first|(rw [hji4] at H;exact H)|(simp only [hji4] at H ⊢;exact H)
   have hji4_ : (IntKind.i64.wrap (1 * 2 ^ min x4_1.toNat 64)) = ji4:=hji4
   have hji4z : x4_1 ≤ 64 → (IntKind.i64.wrap (1 * 2 ^ x4_1.toNat)) = ji4:=z1L hji4
   have hji4u : (IntKind.i64.wrap (2 ^ min x4_1.toNat 64)) = ji4:=by have h_:=hji4_;rw [Int.one_mul] at h_;exact h_
   have hji4v : x4_1 ≤ 64 → (IntKind.i64.wrap (2 ^ x4_1.toNat)) = ji4:=fun hle_=>by have h_:=hji4z hle_;rw [Int.one_mul] at h_;exact h_
   have hji4y : (wrap64 (1 * 2 ^ min x4_1.toNat 64)) = ji4:=(zY _).symm.trans hji4_
   have hji4x : x4_1 ≤ 64 → (wrap64 (1 * 2 ^ x4_1.toNat)) = ji4:=fun h_=>(zY _).symm.trans (hji4z h_)
   by_cases c5 : a0 = (ji4)
   · rw [if_pos c5] at H
     have c5b0 : (a0 == (ji4)) = true:=beq_iff_eq.mpr c5
     have c5b1 : (a0 != (ji4)) = false:=bne_eq_false_iff_eq.mpr c5
     clear c5
     obtain rfl:=Option.some.inj H
     go_wp2
     go_ret
     exact ⟨by first|rfl|(simp;done)|(simp only [← hji4] <;> (first|rfl|simp))|(simp [*];done),by repeat (first|exact Drawn0.refl _|apply Drawn0.step)⟩
   rw [if_neg c5] at H
   have c5b0 : (a0 == (ji4)) = false:=beq_eq_false_iff_ne.mpr c5
   have c5b1 : (a0 != (ji4)) = true:=bne_iff_ne.mpr c5
   have H':=z4.mk H
   clear H
   go_wp2
   go_roundg k1
   case measure=>have:=HK1.out;omega
   case rel=>exact ⟨(wrap64 (x4_1 + 1)),zz81,H',⟨by have:=HK1.out;omega⟩,by repeat (first|exact Drawn0.refl _|apply Drawn0.step)⟩
end Go.Proofs.Ytklkmflhnljbdaa.P
namespace Go.Proofs.Ytklkmflhnljbdaa.P
open Go.RowKit Go.Proofs.YtklkmflhnljbdaaW.PrintWords Go.Proofs.YtklkmflhnljbdaaW.PrintLast Go.Proofs.YtklkmflhnljbdaaW.PrintMore
attribute [local go_sem] z17 z19 z1m z1n zU zV z18 z1a   -- for this text's walks alone
set_option linter.unusedVariables false
set_option linter.unusedSimpArgs false
def zC.j0 : Nat → Int → Bool → Option (Int)
 | 0,_,_=>none
 | k + 1,x0,x3=>if x3 = true then (some 0) else (if x0 ≤ 3 then (some 1) else (if 0 ≤ (wrap64 (x0 - 3)) then (some (shl .i64 1 (wrap64 (x0 - 3)))) else (none)))
def zC.f (k : Nat) (a0 : Int) : Option (Int):=if a0 < 0 then (zC.j0 k a0 true) else (zC.j0 k a0 (decide (a0 > 7)))
theorem zC.z1b : ∀ k,(∀ y0 y1,LeO (zC.j0 k y0 y1) (zC.j0 (k + 1) y0 y1))
 | 0=>fun _ _ r h=>by simp [zC.j0] at h
 | k + 1=>by
  have ih0:=zC.z1b k
  · intro y0 y1
    unfold zC.j0
    repeat' first
    | (with_reducible exact ih0 _ _)
    | (with_reducible exact LeO.refl _)
    | (with_reducible exact LeO.none _)
    | (with_reducible refine LeO.ite ?_ ?_)
    | (with_reducible refine LeO.bind ?_ (fun _=>?_))
    | exact ih0 _ _
    | exact LeO.none _
    | refine LeO.ite ?_ ?_
    | refine LeO.bind ?_ (fun _=>?_)
theorem zC.mono : ∀ a0 k,LeO (zC.f k a0) (zC.f (k + 1) a0):=by
 intro a0 k
 have ih0:=zC.z1b k
 unfold zC.f
 repeat' first
  | (with_reducible exact ih0 _ _)
  | (with_reducible exact LeO.refl _)
  | (with_reducible exact LeO.none _)
  | (with_reducible refine LeO.ite ?_ ?_)
  | (with_reducible refine LeO.bind ?_ (fun _=>?_))
  | exact ih0 _ _
  | exact LeO.none _
  | refine LeO.ite ?_ ?_
  | refine LeO.bind ?_ (fun _=>?_)
set_option maxHeartbeats 8000000 in
set_option maxRecDepth 100000 in
theorem zC.calls (k : Nat) (a0 : Int) (r : Int) (w : World) (h : zC.f k a0 = some r) :
 Calls Try.prog 75 #[.int .i64 a0] w fun e w'=>e = .returned (.int .i64 r) ∧ Drawn0 w w':=by
 have H : (if a0 < 0 then (zC.j0 k a0 true) else (zC.j0 k a0 (decide (a0 > 7)))) = some r:=h
 clear h
 have HC2:=z4.mk H
 clear H
 go_enter Try.func75,Try.ntmps75
 go_upto_region 1 with (fail)
 go_cut [3] (fun v3 wc=>∃ (kq : Nat) (x3_1 : Bool),v3 = .bool x3_1 ∧ z4 (zC.j0 kq a0 x3_1 = some r) ∧ z4 (kq ≤ k) ∧ Drawn0 w wc)
 case first =>
  have H:=HC2.out
  clear HC2
  by_cases c3 : a0 < 0
  rotate_left
  · rw [if_neg c3] at H
    have c3b0 : decide (a0 < 0) = false:=decide_eq_false c3
    clear c3
    (first|rw [c3b0]|(simp only [zY,z16];rw [c3b0])|skip)
    have H':=z4.mk H
    clear H
    go_wp2
    go_meet
    case rel=>exact ⟨_,(decide (a0 > 7)),zz81,H',⟨by first|omega|exact Nat.le_refl _⟩,by repeat (first|exact Drawn0.refl _|apply Drawn0.step)⟩
  rw [if_pos c3] at H
  have c3b0 : decide (a0 < 0) = true:=decide_eq_true c3
  clear c3
  (first|rw [c3b0]|(simp only [zY,z16];rw [c3b0])|skip)
  have H':=z4.mk H
  clear H
  go_wp2
  go_meet
  case rel=>exact ⟨_,(true),zz81,H',⟨by first|omega|exact Nat.le_refl _⟩,by repeat (first|exact Drawn0.refl _|apply Drawn0.step)⟩
 case rest =>
  clear HC2
  (try clear p2);(try clear c3);(try clear c3b0)
  obtain ⟨kq,x3_1,rfl,HA,HJ1,⟨mc1,rfl⟩⟩:=hcut
  cases kq with
  | zero=>exact absurd HA.out (by simp [zC.j0])
  | succ kj1 =>
   have H:=HA.out
   clear HA
   simp only [zC.j0] at H
   by_cases c4 : x3_1 = true
   · subst c4
     have H1 : (some 0) = some r:=by rw [if_pos rfl] at H;exact H
     clear H
     have H:=H1
     clear H1
     obtain rfl:=Option.some.inj H
     go_wp2
     go_ret
     exact ⟨by first|rfl|(simp;done)|(simp [*];done),by repeat (first|exact Drawn0.refl _|apply Drawn0.step)⟩
   replace c4:=Bool.eq_false_iff.mpr c4
   subst c4
   have H1 : (if a0 ≤ 3 then (some 1) else (if 0 ≤ (wrap64 (a0 - 3)) then (some (shl .i64 1 (wrap64 (a0 - 3)))) else (none))) = some r:=by rw [if_neg (show ¬ (false = true) by decide)] at H;exact H
   clear H
   have H:=H1
   clear H1
   by_cases c5 : a0 ≤ 3
   · rw [if_pos c5] at H
     have c5b0 : decide (a0 ≤ 3) = true:=decide_eq_true c5
     clear c5
     obtain rfl:=Option.some.inj H
     go_wp2
     go_ret
     exact ⟨by first|rfl|(simp;done)|(simp [*];done),by repeat (first|exact Drawn0.refl _|apply Drawn0.step)⟩
   rw [if_neg c5] at H
   have c5b0 : decide (a0 ≤ 3) = false:=decide_eq_false c5
   clear c5
   obtain ⟨ji6,hji6⟩ : ∃ j_ : Int,(wrap64 (a0 - 3)) = j_:=⟨_,rfl⟩
   replace H : (if 0 ≤ (ji6) then (some (shl .i64 1 (ji6))) else (none)) = some r:=by first|(rw [hji6] at H;exact H)|(simp only [hji6] at H ⊢;exact H)
   have hji6w : (IntKind.i64.wrap (a0 - 3)) = ji6:=(zY _).trans hji6
   by_cases c7 : 0 ≤ (ji6)
   rotate_left
   · rw [if_neg c7] at H
     exact absurd H zz87
   rw [if_pos c7] at H
   have c7b0:=eq_true c7
   have c7b1 : decide (0 ≤ (ji6)) = true:=decide_eq_true c7
   clear c7
   obtain ⟨ji8,hji8⟩ : ∃ j_ : Int,(shl .i64 1 (ji6)) = j_:=⟨_,rfl⟩
   replace H : (some ji8) = some r:=by first|(rw [hji8] at H;exact H)|(simp only [hji8] at H ⊢;exact H)
   have hji8_ : (IntKind.i64.wrap (1 * 2 ^ min (ji6).toNat 64)) = ji8:=hji8
   have hji8z : (ji6) ≤ 64 → (IntKind.i64.wrap (1 * 2 ^ (ji6).toNat)) = ji8:=z1L hji8
   have hji8u : (IntKind.i64.wrap (2 ^ min (ji6).toNat 64)) = ji8:=by have h_:=hji8_;rw [Int.one_mul] at h_;exact h_
   have hji8v : (ji6) ≤ 64 → (IntKind.i64.wrap (2 ^ (ji6).toNat)) = ji8:=fun hle_=>by have h_:=hji8z hle_;rw [Int.one_mul] at h_;exact h_
   have hji8y : (wrap64 (1 * 2 ^ min (ji6).toNat 64)) = ji8:=(zY _).symm.trans hji8_
   have hji8x : (ji6) ≤ 64 → (wrap64 (1 * 2 ^ (ji6).toNat)) = ji8:=fun h_=>(zY _).symm.trans (hji8z h_)
   obtain rfl:=Option.some.inj H
   go_wp2
   go_ret
   exact ⟨by first|rfl|(simp;done)|(simp only [← hji6,← hji8] <;> (first|rfl|simp))|(simp [*];done),by repeat (first|exact Drawn0.refl _|apply Drawn0.step)⟩
end Go.Proofs.Ytklkmflhnljbdaa.P
namespace Go.Proofs.Ytklkmflhnljbdaa.P
open Go.RowKit Go.Proofs.YtklkmflhnljbdaaW.PrintWords Go.Proofs.YtklkmflhnljbdaaW.PrintLast Go.Proofs.YtklkmflhnljbdaaW.PrintMore
attribute [local go_sem] z17 z19 z1m z1n zU zV z18 z1a   -- for this text's walks alone
set_option linter.unusedVariables false
set_option linter.unusedSimpArgs false
def z1R.f (k : Nat) (a0 : Int) (l1 : List Bool) : Option (Int):=(zC.f k a0).bind fun t101=>(if t101 = 0 then (some 1) else ((z1l.f k (l1.length : Int)).bind fun t102=>(if t102 < a0 then (some 6) else (if t102 > 12 then (some 6) else (some 0)))))
theorem z1R.mono : ∀ a0 a1 k,LeO (z1R.f k a0 a1) (z1R.f (k + 1) a0 a1):=by
 intro a0 a1 k
 unfold z1R.f
 repeat' first
  | (with_reducible exact z1l.mono _ _)
  | (with_reducible exact zC.mono _ _)
  | (with_reducible exact LeO.refl _)
  | (with_reducible exact LeO.none _)
  | (with_reducible refine LeO.ite ?_ ?_)
  | (with_reducible refine LeO.bind ?_ (fun _=>?_))
  | exact z1l.mono _ _
  | exact zC.mono _ _
  | exact LeO.none _
  | refine LeO.ite ?_ ?_
  | refine LeO.bind ?_ (fun _=>?_)
set_option maxHeartbeats 8000000 in
set_option maxRecDepth 100000 in
theorem z1R.calls (k : Nat) (a0 : Int) (A1 : Option Addr) (c1 : Nat) (l1 : List Bool) (r : Int) (w : World) (hr1 : Kd.C Kd.bool w A1 l1.length l1) (hc1 : l1.length ≤ c1) (h : z1R.f k a0 l1 = some r) :
 Calls Try.prog 56 #[.int .i64 a0,.slice A1 l1.length c1] w fun e w'=>e = .returned (.int .i64 r) ∧ Drawn0 w w':=by
 have HR1:=z4.mk hr1
 have HC1:=z4.mk hc1
 clear hr1 hc1
 have H : ((zC.f k a0).bind fun t101=>(if t101 = 0 then (some 1) else ((z1l.f k (l1.length : Int)).bind fun t102=>(if t102 < a0 then (some 6) else (if t102 > 12 then (some 6) else (some 0)))))) = some r:=h
 clear h
 replace H:=Option.bind_eq_some_iff.mp H
 obtain ⟨t101,A30,H⟩:=H
 replace H : (if t101 = 0 then (some 1) else ((z1l.f k (l1.length : Int)).bind fun t102=>(if t102 < a0 then (some 6) else (if t102 > 12 then (some 6) else (some 0))))) = some r:=H
 have A3:=z4.mk A30
 clear A30
 by_cases c4 : t101 = 0
 · rw [if_pos c4] at H
   have c4b0 : (t101 == 0) = true:=beq_iff_eq.mpr c4
   have c4b1 : (t101 != 0) = false:=bne_eq_false_iff_eq.mpr c4
   clear c4
   obtain rfl:=Option.some.inj H
   go_enter Try.func56,Try.ntmps56
   go_wp2_with (first|((with_reducible refine zl (f:=75) rfl ?_);refine goesL_ (some 7) rfl rfl Try.func75 zz84 rfl #[.int .i64 a0] rfl zz44 ?_;(with_reducible refine (zC.calls k a0 t101 _ A3.out).mono ?_);rintro e w' ⟨rfl,⟨nd,rfl⟩⟩;refine ⟨_,rfl,?_⟩))
   go_ret
   exact ⟨by first|rfl|(simp;done)|(simp [*];done),by repeat (first|exact Drawn0.refl _|apply Drawn0.step)⟩
 rw [if_neg c4] at H
 have c4b0 : (t101 == 0) = false:=beq_eq_false_iff_ne.mpr c4
 have c4b1 : (t101 != 0) = true:=bne_iff_ne.mpr c4
 replace H:=Option.bind_eq_some_iff.mp H
 obtain ⟨t102,A50,H⟩:=H
 replace H : (if t102 < a0 then (some 6) else (if t102 > 12 then (some 6) else (some 0))) = some r:=H
 have A5:=z4.mk A50
 clear A50
 by_cases c6 : t102 < a0
 · rw [if_pos c6] at H
   have c6b0 : decide (t102 < a0) = true:=decide_eq_true c6
   clear c6
   obtain rfl:=Option.some.inj H
   go_enter Try.func56,Try.ntmps56
   go_wp2_with (first|((with_reducible refine zl (f:=75) rfl ?_);refine goesL_ (some 7) rfl rfl Try.func75 zz84 rfl #[.int .i64 a0] rfl zz44 ?_;(with_reducible refine (zC.calls k a0 t101 _ A3.out).mono ?_);rintro e w' ⟨rfl,⟨nd,rfl⟩⟩;refine ⟨_,rfl,?_⟩)|((with_reducible refine zl (f:=57) rfl ?_);refine goesL_ (some 11) rfl rfl Try.func57 zz84 rfl #[.int .i64 (l1.length : Int)] rfl zz44 ?_;(with_reducible refine (z1l.calls k (l1.length : Int) t102 _ A5.out).mono ?_);rintro e w' ⟨rfl,⟨nd,rfl⟩⟩;refine ⟨_,rfl,?_⟩))
   go_ret
   exact ⟨by first|rfl|(simp;done)|(simp [*];done),by repeat (first|exact Drawn0.refl _|apply Drawn0.step)⟩
 rw [if_neg c6] at H
 have c6b0 : decide (t102 < a0) = false:=decide_eq_false c6
 clear c6
 by_cases c7 : t102 > 12
 · rw [if_pos c7] at H
   have c7b0 : decide (12 < t102) = true:=decide_eq_true c7
   clear c7
   obtain rfl:=Option.some.inj H
   go_enter Try.func56,Try.ntmps56
   go_wp2_with (first|((with_reducible refine zl (f:=75) rfl ?_);refine goesL_ (some 7) rfl rfl Try.func75 zz84 rfl #[.int .i64 a0] rfl zz44 ?_;(with_reducible refine (zC.calls k a0 t101 _ A3.out).mono ?_);rintro e w' ⟨rfl,⟨nd,rfl⟩⟩;refine ⟨_,rfl,?_⟩)|((with_reducible refine zl (f:=57) rfl ?_);refine goesL_ (some 11) rfl rfl Try.func57 zz84 rfl #[.int .i64 (l1.length : Int)] rfl zz44 ?_;(with_reducible refine (z1l.calls k (l1.length : Int) t102 _ A5.out).mono ?_);rintro e w' ⟨rfl,⟨nd,rfl⟩⟩;refine ⟨_,rfl,?_⟩))
   go_ret
   exact ⟨by first|rfl|(simp;done)|(simp [*];done),by repeat (first|exact Drawn0.refl _|apply Drawn0.step)⟩
 rw [if_neg c7] at H
 have c7b0 : decide (12 < t102) = false:=decide_eq_false c7
 clear c7
 obtain rfl:=Option.some.inj H
 go_enter Try.func56,Try.ntmps56
 go_wp2_with (first|((with_reducible refine zl (f:=75) rfl ?_);refine goesL_ (some 7) rfl rfl Try.func75 zz84 rfl #[.int .i64 a0] rfl zz44 ?_;(with_reducible refine (zC.calls k a0 t101 _ A3.out).mono ?_);rintro e w' ⟨rfl,⟨nd,rfl⟩⟩;refine ⟨_,rfl,?_⟩)|((with_reducible refine zl (f:=57) rfl ?_);refine goesL_ (some 11) rfl rfl Try.func57 zz84 rfl #[.int .i64 (l1.length : Int)] rfl zz44 ?_;(with_reducible refine (z1l.calls k (l1.length : Int) t102 _ A5.out).mono ?_);rintro e w' ⟨rfl,⟨nd,rfl⟩⟩;refine ⟨_,rfl,?_⟩))
 go_ret
 exact ⟨by first|rfl|(simp;done)|(simp [*];done),by repeat (first|exact Drawn0.refl _|apply Drawn0.step)⟩
end Go.Proofs.Ytklkmflhnljbdaa.P
namespace Go.Proofs.Ytklkmflhnljbdaa.P
open Go.RowKit Go.Proofs.YtklkmflhnljbdaaW.PrintWords Go.Proofs.YtklkmflhnljbdaaW.PrintLast Go.Proofs.YtklkmflhnljbdaaW.PrintMore
attribute [local go_sem] z17 z19 z1m z1n zU zV z18 z1a   -- for this text's walks alone
set_option linter.unusedVariables false
set_option linter.unusedSimpArgs false
def zJ.j0 : Nat → Int → Bool → Int → Int → Option (Bool)
 | 0,_,_,_,_=>none
 | k + 1,x0,x5,x102000,x102001=>if x5 = true then (some false) else (if x0 = 7 then (some true) else (if x0 = 6 then (some (x102000 == 0)) else (if x102000 = 0 then (if 0 ≤ x0 then (some ((shr .u64 x102001 (shl .u64 1 x0)) == 0)) else (none)) else (some false))))
def zJ.f (k : Nat) (a0 : Int) (a1_0 : Int) (a1_1 : Int) : Option (Bool):=if a0 < 0 then (zJ.j0 k a0 true a1_0 a1_1) else (zJ.j0 k a0 (decide (a0 > 7)) a1_0 a1_1)
theorem zJ.z1b : ∀ k,(∀ y0 y1 y2 y3,LeO (zJ.j0 k y0 y1 y2 y3) (zJ.j0 (k + 1) y0 y1 y2 y3))
 | 0=>fun _ _ _ _ r h=>by simp [zJ.j0] at h
 | k + 1=>by
  have ih0:=zJ.z1b k
  · intro y0 y1 y2 y3
    unfold zJ.j0
    repeat' first
    | (with_reducible exact ih0 _ _ _ _)
    | (with_reducible exact LeO.refl _)
    | (with_reducible exact LeO.none _)
    | (with_reducible refine LeO.ite ?_ ?_)
    | (with_reducible refine LeO.bind ?_ (fun _=>?_))
    | exact ih0 _ _ _ _
    | exact LeO.none _
    | refine LeO.ite ?_ ?_
    | refine LeO.bind ?_ (fun _=>?_)
theorem zJ.mono : ∀ a0 a1 a2 k,LeO (zJ.f k a0 a1 a2) (zJ.f (k + 1) a0 a1 a2):=by
 intro a0 a1 a2 k
 have ih0:=zJ.z1b k
 unfold zJ.f
 repeat' first
  | (with_reducible exact ih0 _ _ _ _)
  | (with_reducible exact LeO.refl _)
  | (with_reducible exact LeO.none _)
  | (with_reducible refine LeO.ite ?_ ?_)
  | (with_reducible refine LeO.bind ?_ (fun _=>?_))
  | exact ih0 _ _ _ _
  | exact LeO.none _
  | refine LeO.ite ?_ ?_
  | refine LeO.bind ?_ (fun _=>?_)
set_option maxHeartbeats 8000000 in
set_option maxRecDepth 100000 in
theorem zJ.calls (k : Nat) (a0 : Int) (a1_0 : Int) (a1_1 : Int) (r : Bool) (w : World) (h : zJ.f k a0 a1_0 a1_1 = some r) :
 Calls Try.prog 82 #[.int .i64 a0,.agg #[.int .u64 a1_0,.int .u64 a1_1]] w fun e w'=>e = .returned (.bool r) ∧ Below w.heap.size w w':=by
 have hu37:=Try.underlying37
 have HB:=z4.mk (Below.refl w.heap.size w)
 have H : (if a0 < 0 then (zJ.j0 k a0 true a1_0 a1_1) else (zJ.j0 k a0 (decide (a0 > 7)) a1_0 a1_1)) = some r:=h
 clear h
 have HC3:=z4.mk H
 clear H
 go_enter Try.func82,Try.ntmps82
 go_upto_region 1 with (first|((with_reducible refine zr (N:=3) rfl ?_);refine zy ?hg (N:=3) ?hd (cs:=#[.int .u64 a1_0,.int .u64 a1_1]) (t:=37) ?hr ?_;(case hd=>rfl);(case hg=>rfl);(case hr=>first|(go_simp;done)|(go_simp;rfl));intro gb101 hg w4 hbox hb;have n0_:=z4.mk (z9 zz45 hb);have n1_:=z4.mk (hbox);have n2_:=z4.mk ((by rw [hg];exact (ze zz45) : w.heap.size ≤ gb101));have n3_:=z4.mk ((by rw [hg];exact (ze zz45) : w.heap.size ≤ gb101));clear HB;have HB:=n0_;have BK101:=n1_;have GW101:=n2_;have GE101:=n3_;clear n0_ n1_ n2_ n3_;clear hb hbox hg))
 repeat (go_quiet (first|((with_reducible refine zr (N:=3) rfl ?_);refine zy ?hg (N:=3) ?hd (cs:=#[.int .u64 a1_0,.int .u64 a1_1]) (t:=37) ?hr ?_;(case hd=>rfl);(case hg=>rfl);(case hr=>first|(go_simp;done)|(go_simp;rfl));intro gb101 hg w4 hbox hb;have n0_:=z4.mk (z9 zz45 hb);have n1_:=z4.mk (hbox);have n2_:=z4.mk ((by rw [hg];exact (ze zz45) : w.heap.size ≤ gb101));have n3_:=z4.mk ((by rw [hg];exact (ze zz45) : w.heap.size ≤ gb101));clear HB;have HB:=n0_;have BK101:=n1_;have GW101:=n2_;have GE101:=n3_;clear n0_ n1_ n2_ n3_;clear hb hbox hg));go_upto_region 1 with (first|((with_reducible refine zr (N:=3) rfl ?_);refine zy ?hg (N:=3) ?hd (cs:=#[.int .u64 a1_0,.int .u64 a1_1]) (t:=37) ?hr ?_;(case hd=>rfl);(case hg=>rfl);(case hr=>first|(go_simp;done)|(go_simp;rfl));intro gb101 hg w4 hbox hb;have n0_:=z4.mk (z9 zz45 hb);have n1_:=z4.mk (hbox);have n2_:=z4.mk ((by rw [hg];exact (ze zz45) : w.heap.size ≤ gb101));have n3_:=z4.mk ((by rw [hg];exact (ze zz45) : w.heap.size ≤ gb101));clear HB;have HB:=n0_;have BK101:=n1_;have GW101:=n2_;have GE101:=n3_;clear n0_ n1_ n2_ n3_;clear hb hbox hg)))
 (try simp only [Act.put,List.setIfInBounds_toArray,List.set_cons_zero,List.set_cons_succ])
 go_cut [5] (fun v5 wc=>∃ (kq : Nat) (x5_2 : Bool),v5 = .bool x5_2 ∧ z4 (zJ.j0 kq a0 x5_2 a1_0 a1_1 = some r) ∧ z4 (kq ≤ k) ∧ z4 (wc.heap[gb101]? = some (.cells #[.int .u64 a1_0,.int .u64 a1_1] 37 (0,0))) ∧ z4 (Below w.heap.size w wc))
 case first =>
  have H:=HC3.out
  clear HC3
  by_cases c5 : a0 < 0
  rotate_left
  · rw [if_neg c5] at H
    have c5b0 : decide (a0 < 0) = false:=decide_eq_false c5
    clear c5
    (first|rw [c5b0]|(simp only [zY,z16];rw [c5b0])|skip)
    have H':=z4.mk H
    clear H
    go_wp2
    repeat (go_quiet (fail);try go_wp2)
    go_meet
    case rel=>exact ⟨_,(decide (a0 > 7)),zz81,H',⟨by first|omega|exact Nat.le_refl _⟩,⟨by (with_reducible repeat (first|refine z8 ?_ _|refine zb ?_|refine z7 ?_ _));exact BK101.out⟩,⟨by repeat (first|(with_reducible first|exact HB.out|apply zg|apply z6|apply zc|refine zd ?_ GE101.out)|exact HB.out)⟩⟩
  rw [if_pos c5] at H
  have c5b0 : decide (a0 < 0) = true:=decide_eq_true c5
  clear c5
  (first|rw [c5b0]|(simp only [zY,z16];rw [c5b0])|skip)
  have H':=z4.mk H
  clear H
  go_wp2
  repeat (go_quiet (fail);try go_wp2)
  go_meet
  case rel=>exact ⟨_,(true),zz81,H',⟨by first|omega|exact Nat.le_refl _⟩,⟨by (with_reducible repeat (first|refine z8 ?_ _|refine zb ?_|refine z7 ?_ _));exact BK101.out⟩,⟨by repeat (first|(with_reducible first|exact HB.out|apply zg|apply z6|apply zc|refine zd ?_ GE101.out)|exact HB.out)⟩⟩
 case rest =>
  clear HC3
  (try clear p2);(try clear c5);(try clear c5b0)
  obtain ⟨kq,x5_2,rfl,HA,HJ2,BK101,HB⟩:=hcut
  cases kq with
  | zero=>exact absurd HA.out (by simp [zJ.j0])
  | succ kj2 =>
   have H:=HA.out
   clear HA
   simp only [zJ.j0] at H
   by_cases c6 : x5_2 = true
   · subst c6
     have H1 : (some false) = some r:=by rw [if_pos rfl] at H;exact H
     clear H
     have H:=H1
     clear H1
     obtain rfl:=Option.some.inj H
     go_wp2
     repeat (go_quiet (fail);try go_wp2)
     go_ret
     exact ⟨by first|rfl|(simp [zi,zj] <;> rfl)|(simp [*,zi,zj] <;> rfl),by repeat (first|(with_reducible first|exact HB.out|apply zg|apply z6|apply zc|refine zd ?_ GE101.out)|exact HB.out)⟩
   replace c6:=Bool.eq_false_iff.mpr c6
   subst c6
   have H1 : (if a0 = 7 then (some true) else (if a0 = 6 then (some (a1_0 == 0)) else (if a1_0 = 0 then (if 0 ≤ a0 then (some ((shr .u64 a1_1 (shl .u64 1 a0)) == 0)) else (none)) else (some false)))) = some r:=by rw [if_neg (show ¬ (false = true) by decide)] at H;exact H
   clear H
   have H:=H1
   clear H1
   by_cases c7 : a0 = 7
   · rw [if_pos c7] at H
     have c7b0 : (a0 == 7) = true:=beq_iff_eq.mpr c7
     have c7b1 : (a0 != 7) = false:=bne_eq_false_iff_eq.mpr c7
     clear c7
     obtain rfl:=Option.some.inj H
     go_wp2
     repeat (go_quiet (fail);try go_wp2)
     go_ret
     exact ⟨by first|rfl|(simp [zi,zj] <;> rfl)|(simp [*,zi,zj] <;> rfl),by repeat (first|(with_reducible first|exact HB.out|apply zg|apply z6|apply zc|refine zd ?_ GE101.out)|exact HB.out)⟩
   rw [if_neg c7] at H
   have c7b0 : (a0 == 7) = false:=beq_eq_false_iff_ne.mpr c7
   have c7b1 : (a0 != 7) = true:=bne_iff_ne.mpr c7
   by_cases c8 : a0 = 6
   · rw [if_pos c8] at H
     have c8b0 : (a0 == 6) = true:=beq_iff_eq.mpr c8
     have c8b1 : (a0 != 6) = false:=bne_eq_false_iff_eq.mpr c8
     clear c8
     obtain rfl:=Option.some.inj H
     have hcz9_0 : wc.cell? ⟨gb101,0,none⟩ = some (.int .u64 a1_0):=(zf BK101.out 0).trans rfl
     have hcz9_1 : wc.cell? ⟨gb101,1,none⟩ = some (.int .u64 a1_1):=(zf BK101.out 1).trans rfl
     have hfz9_0:=za BK101.out 0
     have hfz9_1:=za BK101.out 1
     go_wp2
     repeat (go_quiet (fail);try go_wp2)
     go_ret
     exact ⟨by first|rfl|(simp [zi,zj] <;> rfl)|(simp [*,zi,zj] <;> rfl),by repeat (first|(with_reducible first|exact HB.out|apply zg|apply z6|apply zc|refine zd ?_ GE101.out)|exact HB.out)⟩
   rw [if_neg c8] at H
   have c8b0 : (a0 == 6) = false:=beq_eq_false_iff_ne.mpr c8
   have c8b1 : (a0 != 6) = true:=bne_iff_ne.mpr c8
   by_cases c10 : a1_0 = 0
   rotate_left
   · rw [if_neg c10] at H
     have c10b0 : (a1_0 == 0) = false:=beq_eq_false_iff_ne.mpr c10
     have c10b1 : (a1_0 != 0) = true:=bne_iff_ne.mpr c10
     obtain rfl:=Option.some.inj H
     have hcz15_0 : wc.cell? ⟨gb101,0,none⟩ = some (.int .u64 a1_0):=(zf BK101.out 0).trans rfl
     have hcz15_1 : wc.cell? ⟨gb101,1,none⟩ = some (.int .u64 a1_1):=(zf BK101.out 1).trans rfl
     have hfz15_0:=za BK101.out 0
     have hfz15_1:=za BK101.out 1
     go_wp2
     repeat (go_quiet (fail);try go_wp2)
     go_ret
     exact ⟨by first|rfl|(simp [zi,zj] <;> rfl)|(simp [*,zi,zj] <;> rfl),by repeat (first|(with_reducible first|exact HB.out|apply zg|apply z6|apply zc|refine zd ?_ GE101.out)|exact HB.out)⟩
   rw [if_pos c10] at H
   have c10b0 : (a1_0 == 0) = true:=beq_iff_eq.mpr c10
   have c10b1 : (a1_0 != 0) = false:=bne_eq_false_iff_eq.mpr c10
   clear c10
   by_cases c11 : 0 ≤ a0
   rotate_left
   · rw [if_neg c11] at H
     exact absurd H zz87
   rw [if_pos c11] at H
   have c11b0:=eq_true c11
   have c11b1 : decide (0 ≤ a0) = true:=decide_eq_true c11
   clear c11
   obtain ⟨ji12,hji12⟩ : ∃ j_ : Int,(shl .u64 1 a0) = j_:=⟨_,rfl⟩
   replace H : (some ((shr .u64 a1_1 (ji12)) == 0)) = some r:=by first|(rw [hji12] at H;exact H)|(simp only [hji12] at H ⊢;exact H)
   have hji12_ : (IntKind.u64.wrap (1 * 2 ^ min a0.toNat 64)) = ji12:=hji12
   have hji12z : a0 ≤ 64 → (IntKind.u64.wrap (1 * 2 ^ a0.toNat)) = ji12:=z1L hji12
   have hji12n0 : 0 ≤ ji12:=by rw [← hji12];exact Int.emod_nonneg _ zz85
   have hji12n1 : decide (0 ≤ ji12) = true:=decide_eq_true hji12n0
   replace hji12n0:=eq_true hji12n0
   have hji12u : (IntKind.u64.wrap (2 ^ min a0.toNat 64)) = ji12:=by have h_:=hji12_;rw [Int.one_mul] at h_;exact h_
   have hji12v : a0 ≤ 64 → (IntKind.u64.wrap (2 ^ a0.toNat)) = ji12:=fun hle_=>by have h_:=hji12z hle_;rw [Int.one_mul] at h_;exact h_
   obtain ⟨ji13,hji13⟩ : ∃ j_ : Int,(shr .u64 a1_1 (ji12)) = j_:=⟨_,rfl⟩
   replace H : (some ((ji13) == 0)) = some r:=by first|(rw [hji13] at H;exact H)|(simp only [hji13] at H ⊢;exact H)
   have hji13_ : (a1_1 / 2 ^ min (ji12).toNat 64) = ji13:=hji13
   have hji13z : (ji12) ≤ 64 → (a1_1 / 2 ^ (ji12).toNat) = ji13:=z2K hji13
   obtain rfl:=Option.some.inj H
   have hcz14_0 : wc.cell? ⟨gb101,0,none⟩ = some (.int .u64 a1_0):=(zf BK101.out 0).trans rfl
   have hcz14_1 : wc.cell? ⟨gb101,1,none⟩ = some (.int .u64 a1_1):=(zf BK101.out 1).trans rfl
   have hfz14_0:=za BK101.out 0
   have hfz14_1:=za BK101.out 1
   go_wp2
   repeat (go_quiet (fail);try go_wp2)
   go_ret
   exact ⟨by first|rfl|(simp [zi,zj] <;> rfl)|(simp only [← hji12,← hji13];first|rfl|(simp [zi,zj] <;> rfl))|(simp [*,zi,zj] <;> rfl),by repeat (first|(with_reducible first|exact HB.out|apply zg|apply z6|apply zc|refine zd ?_ GE101.out)|exact HB.out)⟩
end Go.Proofs.Ytklkmflhnljbdaa.P
namespace Go.Proofs.Ytklkmflhnljbdaa.P
open Go.RowKit Go.Proofs.YtklkmflhnljbdaaW.PrintWords Go.Proofs.YtklkmflhnljbdaaW.PrintLast Go.Proofs.YtklkmflhnljbdaaW.PrintMore
attribute [local go_sem] z17 z19 z1m z1n zU zV z18 z1a   -- for this text's walks alone
set_option linter.unusedVariables false
set_option linter.unusedSimpArgs false
set_option maxHeartbeats 800000 in
set_option maxRecDepth 100000 in
theorem z14.clo (k : Nat) (a0 : Int) (x : S37) (g : Nat) (r : Bool) (w : World) (hg : w.heap[g]? = some (.cells #[.int .i64 a0] 3 (0,0))) (h : zJ.f k a0 x.f0 x.f1 = some r) :
 Calls Try.prog 91 #[.agg #[.int .u64 x.f0,.int .u64 x.f1],.pointer (some ⟨g,0,none⟩)] w fun e w'=>e = .returned (.bool (!r)) ∧ Below w.heap.size w w':=by
 have hu37:=Try.underlying37
 have HB:=z4.mk (Below.refl w.heap.size w)
 have HG:=z4.mk hg
 have A8:=z4.mk h
 clear hg h
 go_enter Try.func91,Try.ntmps91
 go_wp2_with (first
  | ((with_reducible refine zr (N:=2) rfl ?_);refine zy ?hg (N:=2) ?hd (cs:=#[.int .u64 x.f0,.int .u64 x.f1]) (t:=37) ?hr ?_;(case hd=>rfl);(case hg=>rfl);(case hr=>first|(go_simp;done)|(go_simp;rfl));intro gb hgb w1_ hbox hb;have n0_:=z4.mk (z9 HB.out hb);have hG1:=zh (g:=g) (o:=.cells #[.int .i64 a0] 3 (0,0)) HG.out hb;have hc0 : w1_.cell? ⟨g,0,none⟩ = some (.int .i64 a0):=(zf hG1 0).trans rfl;have hcx0 : w1_.cell? ⟨gb,0,none⟩ = some (.int .u64 x.f0):=(zf hbox 0).trans rfl;have hcx1 : w1_.cell? ⟨gb,1,none⟩ = some (.int .u64 x.f1):=(zf hbox 1).trans rfl;clear HB hG1 hbox hb hgb;have HB:=n0_;clear n0_)
  | ((with_reducible refine zl (f:=82) rfl ?_);refine goesL_ (some 6) rfl rfl Try.func82 zz84 rfl #[.int .i64 a0,.agg #[.int .u64 x.f0,.int .u64 x.f1]] rfl zz79 ?_;(with_reducible refine (zJ.calls k a0 x.f0 x.f1 r _ A8.out).mono ?_);rintro e w2_ ⟨rfl,hb2⟩;refine ⟨_,rfl,?_⟩;have n0_:=z4.mk (z9 HB.out hb2);clear HB hb2;have HB:=n0_;clear n0_))
 go_ret
 exact ⟨rfl,HB.out⟩
def z14.all (k : Nat) (a0 : Int) : List S37 → Option Bool
 | []=>some true
 | x :: xs=>(zJ.f k a0 x.f0 x.f1).bind fun b=>if b = true then z14.all k a0 xs else some false
theorem z14.z2w (a0 : Int) : ∀ (l : List S37) (k : Nat),LeO (z14.all k a0 l) (z14.all (k + 1) a0 l)
 | [],k=>LeO.refl _
 | x :: xs,k=>LeO.bind (zJ.mono a0 x.f0 x.f1 k) (fun b=>LeO.ite (z14.z2w a0 xs k) (LeO.refl _))
theorem z14.z3k (k : Nat) (a0 : Int) (l : List S37) (i : Nat) (h : i < l.length) : z14.all k a0 (l.drop i) = (zJ.f k a0 (rd_T37 l (i : Int)).f0 (rd_T37 l (i : Int)).f1).bind fun b=>if b = true then z14.all k a0 (l.drop (i + 1)) else some false:=by
 rw [List.drop_eq_getElem_cons h]
 have e : rd_T37 l (i : Int) = l[i]:=by unfold rd_T37;rw [Int.toNat_natCast,List.getD_eq_getElem?_getD,List.getElem?_eq_getElem h];rfl
 rw [e];rfl
set_option maxHeartbeats 800000 in
set_option maxRecDepth 100000 in
theorem z14.idx (k : Nat) (a0 : Int) (A_ : Option Addr) (c : Nat) (l : List S37) (g : Nat) (r : Bool) (w : World) (hr : Kd.C k37 w A_ l.length l) (hg : w.heap[g]? = some (.cells #[.int .i64 a0] 3 (0,0))) (h : z14.all k a0 l = some r) :
 Calls Try.prog 115 #[.slice A_ l.length c,.func (.func 91) #[] #[.pointer (some ⟨g,0,none⟩)]] w fun e w'=>(∃ i : Int,e = .returned (.int .i64 i) ∧ decide (i ≥ 0) = !r) ∧ Below w.heap.size w w':=by
 have hu37:=Try.underlying37
 have HB:=z4.mk (Below.refl w.heap.size w)
 have HG:=z4.mk hg
 have HR:=z4.mk hr
 have HA:=z4.mk h
 have HM:=z4.mk (Kd.C_max hr)
 clear hg h hr
 go_enter Try.func115,Try.ntmps115
 go_wp2
 go_loopg [8] l.length (fun kq v8 w'=>∃ (i : Nat),v8 = .int .i64 i ∧ z4 (i + kq = l.length) ∧ z4 (z14.all k a0 (l.drop i) = some r) ∧ z4 (w'.heap[g]? = some (.cells #[.int .i64 a0] 3 (0,0))) ∧ z4 (Below w.heap.size w w'))
 case atStart=>exact ⟨0,rfl,⟨by omega⟩,HA,HG,HB⟩
 case round =>
  obtain ⟨i,rfl,HK,HAi,HGi,HBi⟩:=hrel
  clear HG HB HA
  by_cases hlt : i < l.length
  rotate_left
  · have p0 : decide (i < l.length) = false:=decide_eq_false hlt
    have p1 : decide ((i : Int) < (l.length : Int)) = false:=decide_eq_false zz86
    have hr : r = true:=by
     have h1:=HAi.out
     rw [List.drop_eq_nil_of_le zz86] at h1
     exact (Option.some.inj h1).symm
    clear hlt HAi
    subst hr
    go_wp2
    go_ret
    exact ⟨⟨-1,rfl,by decide⟩,HBi.out⟩
  have hd:=z14.z3k k a0 l i hlt
  have e1:=HAi.out
  rw [hd] at e1
  obtain ⟨b,hb,e2⟩:=Option.bind_eq_some_iff.mp e1
  clear e1 hd
  have HE:=z4.mk e2
  have HF:=z4.mk hb
  clear e2 hb
  obtain ⟨ad,e205,hx0,hx1⟩:=z1Y HR.out (i : Int) zz86 zz86
  cases e205
  rw [Int.toNat_natCast] at hx0 hx1
  replace hx0:=(HBi.out.cell (World.block_lt_of_cell? w _ hx0)).trans hx0
  replace hx1:=(HBi.out.cell (World.block_lt_of_cell? w _ hx1)).trans hx1
  have p0 : decide (i < l.length) = true:=decide_eq_true hlt
  have p1 : decide ((i : Int) < (l.length : Int)) = true:=decide_eq_true zz86
  have p2 : (0 ≤ (i : Int)) = True:=eq_true zz86
  have p3 : ((i : Int) < (l.length : Int)) = True:=eq_true zz86
  clear hlt
  go_wp2_with fail
  refine (z14.clo k a0 (rd_T37 l (i : Int)) g b _ HGi.out HF.out).mono ?_
  rintro e w1 ⟨rfl,hb1⟩
  have n0_:=z4.mk (z9 HBi.out hb1)
  have n1_:=z4.mk (zh (g:=g) (o:=.cells #[.int .i64 a0] 3 (0,0)) HGi.out hb1)
  clear HBi HGi hb1 hx0 hx1
  cases b with
  | true =>
   rw [if_pos rfl] at HE
   simp only [Bool.not_true]
   go_wp2
   have hi : wrap64 ((i : Int) + 1) = ((i + 1 : Nat) : Int):=by
    have:=HM.out;have:=HK.out;have h9:=of_decide_eq_true p0;unfold wrap64;omega
   go_roundg (l.length - i - 1)
   case measure=>have:=HK.out;have h9:=of_decide_eq_true p0;omega
   case rel=>exact ⟨i + 1,congrArg (Value.int .i64) hi,⟨by have:=HK.out;have h9:=of_decide_eq_true p0;omega⟩,HE,n1_,n0_⟩
  | false =>
   have hr : r = false:=by
    have:=HE.out
    simp at this
    exact this
   subst hr
   simp only [Bool.not_false]
   go_wp2
   go_ret
   exact ⟨⟨(i : Int),rfl,by simp⟩,n0_.out⟩
set_option maxHeartbeats 800000 in
set_option maxRecDepth 100000 in
theorem z14.cont (k : Nat) (a0 : Int) (A_ : Option Addr) (c : Nat) (l : List S37) (g : Nat) (r : Bool) (w : World) (hr : Kd.C k37 w A_ l.length l) (hg : w.heap[g]? = some (.cells #[.int .i64 a0] 3 (0,0))) (h : z14.all k a0 l = some r) :
 Calls Try.prog 90 #[.slice A_ l.length c,.func (.func 91) #[] #[.pointer (some ⟨g,0,none⟩)]] w fun e w'=>e = .returned (.bool (!r)) ∧ Below w.heap.size w w':=by
 have HB:=z4.mk (Below.refl w.heap.size w)
 have HG:=z4.mk hg
 have HR:=z4.mk hr
 have HA:=z4.mk h
 clear hg h hr
 go_enter Try.func90,Try.ntmps90
 go_wp2_with fail
 refine (z14.idx k a0 A_ c l g r _ HR.out HG.out HA.out).mono ?_
 rintro e w1 ⟨⟨i,rfl,hi⟩,hb1⟩
 have hb:=z4.mk hb1
 have hj:=z4.mk hi
 clear hb1 hi
 go_wp2
 go_ret
 exact ⟨by rw [← hj.out];rfl,hb.out⟩
def z14.f (k : Nat) (a0 : Int) (l1 : List S37) : Option Bool:=z14.all k a0 l1
theorem z14.mono : ∀ a0 a1 k,LeO (z14.f k a0 a1) (z14.f (k + 1) a0 a1):=fun a0 l k=>z14.z2w a0 l k
set_option maxHeartbeats 800000 in
set_option maxRecDepth 100000 in
theorem z14.calls (k : Nat) (a0 : Int) (A1 : Option Addr) (c1 : Nat) (l1 : List S37) (r : Bool) (w : World) (hr1 : Kd.C k37 w A1 l1.length l1) (hc1 : l1.length ≤ c1) (h : z14.f k a0 l1 = some r) :
 Calls Try.prog 58 #[.int .i64 a0,.slice A1 l1.length c1] w fun e w'=>e = .returned (.bool r) ∧ Below w.heap.size w w':=by
 have hmf : ∀ (fn : Fn) (first cap : Array Value) (w : World),(Instr.makeFunc fn first cap).run Try.prog w = .ok (.func fn first cap) w:=fun _ _ _ _=>rfl
 have HB:=z4.mk (Below.refl w.heap.size w)
 have HR:=z4.mk hr1
 have HA:=z4.mk (show z14.all k a0 l1 = some r from h)
 clear h hr1
 go_enter Try.func58,Try.ntmps58
 go_wp2_with (first
  | ((with_reducible refine zr (N:=2) rfl ?_);refine zy ?hg (N:=2) ?hd (cs:=#[.int .i64 a0]) (t:=3) ?hr ?_;(case hd=>rfl);(case hg=>rfl);(case hr=>first|(go_simp;done)|(go_simp;rfl));intro gb hgb w1_ hbox hb;have n0_:=z4.mk (z9 HB.out hb);have n1_:=z4.mk hbox;have n2_:=z4.mk (Kd.z1s HR.out hb);clear HB HR hbox hb hgb;have HB:=n0_;have HG:=n1_;have HR:=n2_;clear n0_ n1_ n2_)
  | ((with_reducible refine zl (f:=90) rfl ?_);refine goesL_ (some 7) rfl rfl Try.func90 zz84 rfl #[.slice A1 l1.length c1,.func (.func 91) #[] #[.pointer (some ⟨gb,0,none⟩)]] rfl zz79 ?_;(with_reducible refine (z14.cont k a0 _ _ l1 gb r _ HR.out HG.out HA.out).mono ?_);rintro e w2_ ⟨rfl,hb2⟩;refine ⟨_,rfl,?_⟩;have n0_:=z4.mk (z9 HB.out hb2);clear HB hb2;have HB:=n0_;clear n0_))
 go_ret
 exact ⟨by simp,HB.out⟩
end Go.Proofs.Ytklkmflhnljbdaa.P
namespace Go.Proofs.Ytklkmflhnljbdaa.P
open Go.RowKit Go.Proofs.YtklkmflhnljbdaaW.PrintWords Go.Proofs.YtklkmflhnljbdaaW.PrintLast Go.Proofs.YtklkmflhnljbdaaW.PrintMore
attribute [local go_sem] z17 z19 z1m z1n zU zV z18 z1a   -- for this text's walks alone
set_option linter.unusedVariables false
set_option linter.unusedSimpArgs false
def z1t.f (a0_0 : Int) (a0_1 : Int) (a1_0 : Int) (a1_1 : Int) : Option (Int × Int):=some (Go.bits .xor .u64 a0_0 a1_0,Go.bits .xor .u64 a0_1 a1_1)
set_option maxHeartbeats 8000000 in
set_option maxRecDepth 100000 in
theorem z1t.calls (a0_0 : Int) (a0_1 : Int) (a1_0 : Int) (a1_1 : Int) (r1 : Int) (r2 : Int) (w : World) (h : z1t.f a0_0 a0_1 a1_0 a1_1 = some (r1,r2)) :
 Calls Try.prog 60 #[.agg #[.int .u64 a0_0,.int .u64 a0_1],.agg #[.int .u64 a1_0,.int .u64 a1_1]] w fun e w'=>e = .returned (.agg #[.int .u64 r1,.int .u64 r2]) ∧ Below w.heap.size w w':=by
 have hu37:=Try.underlying37
 have HB:=z4.mk (Below.refl w.heap.size w)
 have H : (some (Go.bits .xor .u64 a0_0 a1_0,Go.bits .xor .u64 a0_1 a1_1)) = some (r1,r2):=h
 clear h
 simp only [Option.some.injEq,Prod.mk.injEq] at H
 obtain ⟨rfl,rfl⟩:=H
 go_enter Try.func60,Try.ntmps60
 go_wp2_with (first|((with_reducible refine zr (N:=2) rfl ?_);refine zy ?hg (N:=2) ?hd (cs:=#[.int .u64 a0_0,.int .u64 a0_1]) (t:=37) ?hr ?_;(case hd=>rfl);(case hg=>rfl);(case hr=>first|(go_simp;done)|(go_simp;rfl));intro gb101 hg w3 hbox hb;have n0_:=z4.mk (z9 zz45 hb);have n1_:=z4.mk (hbox);have n2_:=z4.mk ((by rw [hg];exact (ze zz45) : w.heap.size ≤ gb101));have n3_:=z4.mk ((by rw [hg];exact (ze zz45) : w.heap.size ≤ gb101));clear HB;have HB:=n0_;have BK101:=n1_;have GW101:=n2_;have GE101:=n3_;clear n0_ n1_ n2_ n3_;clear hb hbox hg)|((with_reducible refine zr (N:=3) rfl ?_);refine zy ?hg (N:=3) ?hd (cs:=#[.int .u64 a1_0,.int .u64 a1_1]) (t:=37) ?hr ?_;(case hd=>rfl);(case hg=>rfl);(case hr=>first|(go_simp;done)|(go_simp;rfl));intro gb102 hg w4 hbox hb;have n0_:=z4.mk (zh (g:=gb101) (o:=.cells #[.int .u64 a0_0,.int .u64 a0_1] 37 (0,0)) zz46 hb);have n1_:=z4.mk (z9 zz40 hb);have n2_:=z4.mk (hbox);have n3_:=z4.mk ((by rw [hg];exact (ze zz40) : w.heap.size ≤ gb102));have n4_:=z4.mk ((by rw [hg];exact (ze zz40) : w.heap.size ≤ gb102));have n5_:=z4.mk ((by rw [hg];exact Nat.ne_of_lt (zO (g:=gb101) (o:=.cells #[.int .u64 a0_0,.int .u64 a0_1] 37 (0,0)) zz46) : gb101 ≠ gb102));have n6_:=z4.mk ((by rw [hg];exact Nat.ne_of_gt (zO (g:=gb101) (o:=.cells #[.int .u64 a0_0,.int .u64 a0_1] 37 (0,0)) zz46) : gb102 ≠ gb101));clear BK101;clear HB;have BK101:=n0_;have HB:=n1_;have BK102:=n2_;have GW102:=n3_;have GE102:=n4_;have NB101_102:=n5_;have NB102_101:=n6_;clear n0_ n1_ n2_ n3_ n4_ n5_ n6_;clear hb hbox hg)|((with_reducible refine zr (N:=4) rfl ?_);refine zy ?hg (N:=4) ?hd (cs:=#[.int .u64 0,.int .u64 0]) (t:=37) ?hr ?_;(case hd=>rfl);(case hg=>rfl);(case hr=>first|(go_simp;done)|(go_simp;rfl));intro gb103 hg w5 hbox hb;have n0_:=z4.mk (zh (g:=gb101) (o:=.cells #[.int .u64 a0_0,.int .u64 a0_1] 37 (0,0)) zz46 hb);have n1_:=z4.mk (zh (g:=gb102) (o:=.cells #[.int .u64 a1_0,.int .u64 a1_1] 37 (0,0)) zz47 hb);have n2_:=z4.mk (z9 zz33 hb);have n3_:=z4.mk (hbox);have n4_:=z4.mk ((by rw [hg];exact (ze zz33) : w.heap.size ≤ gb103));have n5_:=z4.mk ((by rw [hg];exact (ze zz33) : w.heap.size ≤ gb103));have n6_:=z4.mk ((by rw [hg];exact Nat.ne_of_lt (zO (g:=gb101) (o:=.cells #[.int .u64 a0_0,.int .u64 a0_1] 37 (0,0)) zz46) : gb101 ≠ gb103));have n7_:=z4.mk ((by rw [hg];exact Nat.ne_of_gt (zO (g:=gb101) (o:=.cells #[.int .u64 a0_0,.int .u64 a0_1] 37 (0,0)) zz46) : gb103 ≠ gb101));have n8_:=z4.mk ((by rw [hg];exact Nat.ne_of_lt (zO (g:=gb102) (o:=.cells #[.int .u64 a1_0,.int .u64 a1_1] 37 (0,0)) zz47) : gb102 ≠ gb103));have n9_:=z4.mk ((by rw [hg];exact Nat.ne_of_gt (zO (g:=gb102) (o:=.cells #[.int .u64 a1_0,.int .u64 a1_1] 37 (0,0)) zz47) : gb103 ≠ gb102));clear BK101;clear BK102;clear HB;have BK101:=n0_;have BK102:=n1_;have HB:=n2_;have BK103:=n3_;have GW103:=n4_;have GE103:=n5_;have NB101_103:=n6_;have NB103_101:=n7_;have NB102_103:=n8_;have NB103_102:=n9_;clear n0_ n1_ n2_ n3_ n4_ n5_ n6_ n7_ n8_ n9_;clear hb hbox hg;have hnb6:=NB101_102.out;have hnc6:=NB102_101.out;have hnb7:=NB101_103.out;have hnc7:=NB103_101.out;have hcz8_0 : w5.cell? ⟨gb101,0,none⟩ = some (.int .u64 a0_0):=(zf BK101.out 0).trans rfl;have hcz8_1 : w5.cell? ⟨gb101,1,none⟩ = some (.int .u64 a0_1):=(zf BK101.out 1).trans rfl;have hfz8_0:=za BK101.out 0;have hfz8_1:=za BK101.out 1;have hnb9:=NB102_103.out;have hnc9:=NB103_102.out;have hcz10_0 : w5.cell? ⟨gb102,0,none⟩ = some (.int .u64 a1_0):=(zf BK102.out 0).trans rfl;have hcz10_1 : w5.cell? ⟨gb102,1,none⟩ = some (.int .u64 a1_1):=(zf BK102.out 1).trans rfl;have hfz10_0:=za BK102.out 0;have hfz10_1:=za BK102.out 1;have hcz11_0 : w5.cell? ⟨gb103,0,none⟩ = some (.int .u64 0):=(zf BK103.out 0).trans rfl;have hcz11_1 : w5.cell? ⟨gb103,1,none⟩ = some (.int .u64 0):=(zf BK103.out 1).trans rfl;have hfz11_0:=za BK103.out 0;have hfz11_1:=za BK103.out 1))
 refine bodyPost_ret (results_cell_row rfl _ _ gb103 37 #[.int .u64 (Go.bits .xor .u64 a0_0 a1_0),.int .u64 (Go.bits .xor .u64 a0_1 a1_1)] (0,0) _ rfl zz0 Try.underlying37 rfl zz84) rfl ?_
 exact ⟨by first|rfl|(simp [zi,zj] <;> rfl)|(simp [*,zi,zj] <;> rfl),by repeat (first|(with_reducible first|exact HB.out|apply zg|apply z6|apply zc|refine zd ?_ GE101.out|refine zd ?_ GE102.out|refine zd ?_ GE103.out)|exact HB.out)⟩
end Go.Proofs.Ytklkmflhnljbdaa.P
namespace Go.Proofs.Ytklkmflhnljbdaa.P
open Go.RowKit Go.Proofs.YtklkmflhnljbdaaW.PrintWords Go.Proofs.YtklkmflhnljbdaaW.PrintLast Go.Proofs.YtklkmflhnljbdaaW.PrintMore
attribute [local go_sem] z17 z19 z1m z1n zU zV z18 z1a   -- for this text's walks alone
set_option linter.unusedVariables false
set_option linter.unusedSimpArgs false
def z1E.f (a0 : Int) (a1 : Int) : Option (Int × Int):=if 0 ≤ (wrap64 (a0 - 1)) then (if 0 ≤ (shl .i64 1 (wrap64 (a0 - 1))) then (some (shr .u64 a1 (shl .i64 1 (wrap64 (a0 - 1))),Go.bits .and .u64 a1 (IntKind.u64.wrap ((shl .u64 1 (shl .i64 1 (wrap64 (a0 - 1)))) - 1)))) else (none)) else (none)
set_option maxHeartbeats 8000000 in
set_option maxRecDepth 100000 in
theorem z1E.calls (a0 : Int) (a1 : Int) (r1 : Int) (r2 : Int) (w : World) (h : z1E.f a0 a1 = some (r1,r2)) :
 Calls Try.prog 128 #[.int .i64 a0,.int .u64 a1] w fun e w'=>e = .returned (.tuple #[.int .u64 r1,.int .u64 r2]) ∧ Drawn0 w w':=by
 have H : (if 0 ≤ (wrap64 (a0 - 1)) then (if 0 ≤ (shl .i64 1 (wrap64 (a0 - 1))) then (some (shr .u64 a1 (shl .i64 1 (wrap64 (a0 - 1))),Go.bits .and .u64 a1 (IntKind.u64.wrap ((shl .u64 1 (shl .i64 1 (wrap64 (a0 - 1)))) - 1)))) else (none)) else (none)) = some (r1,r2):=h
 clear h
 obtain ⟨ji3,hji3⟩ : ∃ j_ : Int,(wrap64 (a0 - 1)) = j_:=⟨_,rfl⟩
 replace H : (if 0 ≤ (ji3) then (if 0 ≤ (shl .i64 1 (ji3)) then (some (shr .u64 a1 (shl .i64 1 (ji3)),Go.bits .and .u64 a1 (IntKind.u64.wrap ((shl .u64 1 (shl .i64 1 (ji3))) - 1)))) else (none)) else (none)) = some (r1,r2):=by first|(rw [hji3] at H;exact H)|(simp only [hji3] at H ⊢;exact H)
 have hji3w : (IntKind.i64.wrap (a0 - 1)) = ji3:=(zY _).trans hji3
 by_cases c4 : 0 ≤ (ji3)
 rotate_left
 · rw [if_neg c4] at H
   exact absurd H zz87
 rw [if_pos c4] at H
 have c4b0:=eq_true c4
 have c4b1 : decide (0 ≤ (ji3)) = true:=decide_eq_true c4
 clear c4
 obtain ⟨ji5,hji5⟩ : ∃ j_ : Int,(shl .i64 1 (ji3)) = j_:=⟨_,rfl⟩
 replace H : (if 0 ≤ (ji5) then (some (shr .u64 a1 (ji5),Go.bits .and .u64 a1 (IntKind.u64.wrap ((shl .u64 1 (ji5)) - 1)))) else (none)) = some (r1,r2):=by first|(rw [hji5] at H;exact H)|(simp only [hji5] at H ⊢;exact H)
 have hji5_ : (IntKind.i64.wrap (1 * 2 ^ min (ji3).toNat 64)) = ji5:=hji5
 have hji5z : (ji3) ≤ 64 → (IntKind.i64.wrap (1 * 2 ^ (ji3).toNat)) = ji5:=z1L hji5
 have hji5u : (IntKind.i64.wrap (2 ^ min (ji3).toNat 64)) = ji5:=by have h_:=hji5_;rw [Int.one_mul] at h_;exact h_
 have hji5v : (ji3) ≤ 64 → (IntKind.i64.wrap (2 ^ (ji3).toNat)) = ji5:=fun hle_=>by have h_:=hji5z hle_;rw [Int.one_mul] at h_;exact h_
 have hji5y : (wrap64 (1 * 2 ^ min (ji3).toNat 64)) = ji5:=(zY _).symm.trans hji5_
 have hji5x : (ji3) ≤ 64 → (wrap64 (1 * 2 ^ (ji3).toNat)) = ji5:=fun h_=>(zY _).symm.trans (hji5z h_)
 by_cases c6 : 0 ≤ (ji5)
 rotate_left
 · rw [if_neg c6] at H
   exact absurd H zz87
 rw [if_pos c6] at H
 have c6b0:=eq_true c6
 have c6b1 : decide (0 ≤ (ji5)) = true:=decide_eq_true c6
 clear c6
 obtain ⟨ji7,hji7⟩ : ∃ j_ : Int,(shr .u64 a1 (ji5)) = j_:=⟨_,rfl⟩
 replace H : (some (ji7,Go.bits .and .u64 a1 (IntKind.u64.wrap ((shl .u64 1 (ji5)) - 1)))) = some (r1,r2):=by first|(rw [hji7] at H;exact H)|(simp only [hji7] at H ⊢;exact H)
 have hji7_ : (a1 / 2 ^ min (ji5).toNat 64) = ji7:=hji7
 have hji7z : (ji5) ≤ 64 → (a1 / 2 ^ (ji5).toNat) = ji7:=z2K hji7
 have c8b0:=eq_true (of_decide_eq_true zz80 : 0 ≤ (ji5))
 obtain ⟨ji9,hji9⟩ : ∃ j_ : Int,(shl .u64 1 (ji5)) = j_:=⟨_,rfl⟩
 replace H : (some (ji7,Go.bits .and .u64 a1 (IntKind.u64.wrap ((ji9) - 1)))) = some (r1,r2):=by first|(rw [hji9] at H;exact H)|(simp only [hji9] at H ⊢;exact H)
 have hji9_ : (IntKind.u64.wrap (1 * 2 ^ min (ji5).toNat 64)) = ji9:=hji9
 have hji9z : (ji5) ≤ 64 → (IntKind.u64.wrap (1 * 2 ^ (ji5).toNat)) = ji9:=z1L hji9
 have hji9n0 : 0 ≤ ji9:=by rw [← hji9];exact Int.emod_nonneg _ zz85
 have hji9n1 : decide (0 ≤ ji9) = true:=decide_eq_true hji9n0
 replace hji9n0:=eq_true hji9n0
 have hji9u : (IntKind.u64.wrap (2 ^ min (ji5).toNat 64)) = ji9:=by have h_:=hji9_;rw [Int.one_mul] at h_;exact h_
 have hji9v : (ji5) ≤ 64 → (IntKind.u64.wrap (2 ^ (ji5).toNat)) = ji9:=fun hle_=>by have h_:=hji9z hle_;rw [Int.one_mul] at h_;exact h_
 simp only [Option.some.injEq,Prod.mk.injEq] at H
 obtain ⟨rfl,rfl⟩:=H
 go_enter Try.func128,Try.ntmps128
 go_wp2
 repeat (go_quiet (fail);try go_wp2)
 go_ret2
 exact ⟨by first|rfl|(simp;done)|(simp only [← hji3,← hji5,← hji7,← hji9] <;> (first|rfl|simp))|(simp [*];done),by repeat (first|exact Drawn0.refl _|apply Drawn0.step)⟩
end Go.Proofs.Ytklkmflhnljbdaa.P
namespace Go.Proofs.Ytklkmflhnljbdaa.P
open Go.RowKit Go.Proofs.YtklkmflhnljbdaaW.PrintWords Go.Proofs.YtklkmflhnljbdaaW.PrintLast Go.Proofs.YtklkmflhnljbdaaW.PrintMore
attribute [local go_sem] z17 z19 z1m z1n zU zV z18 z1a   -- for this text's walks alone
set_option linter.unusedVariables false
set_option linter.unusedSimpArgs false
def z1H.f (a0 : Int) (a1 : Int) (a2 : Int) : Option (Int):=if 0 ≤ (wrap64 (a0 - 1)) then (some (Go.bits .or .u64 (shl .u64 a1 (shl .u64 1 (wrap64 (a0 - 1)))) a2)) else (none)
set_option maxHeartbeats 8000000 in
set_option maxRecDepth 100000 in
theorem z1H.calls (a0 : Int) (a1 : Int) (a2 : Int) (r : Int) (w : World) (h : z1H.f a0 a1 a2 = some r) :
 Calls Try.prog 129 #[.int .i64 a0,.int .u64 a1,.int .u64 a2] w fun e w'=>e = .returned (.int .u64 r) ∧ Drawn0 w w':=by
 have H : (if 0 ≤ (wrap64 (a0 - 1)) then (some (Go.bits .or .u64 (shl .u64 a1 (shl .u64 1 (wrap64 (a0 - 1)))) a2)) else (none)) = some r:=h
 clear h
 obtain ⟨ji4,hji4⟩ : ∃ j_ : Int,(wrap64 (a0 - 1)) = j_:=⟨_,rfl⟩
 replace H : (if 0 ≤ (ji4) then (some (Go.bits .or .u64 (shl .u64 a1 (shl .u64 1 (ji4))) a2)) else (none)) = some r:=by first|(rw [hji4] at H;exact H)|(simp only [hji4] at H ⊢;exact H)
 have hji4w : (IntKind.i64.wrap (a0 - 1)) = ji4:=(zY _).trans hji4
 by_cases c5 : 0 ≤ (ji4)
 rotate_left
 · rw [if_neg c5] at H
   exact absurd H zz87
 rw [if_pos c5] at H
 have c5b0:=eq_true c5
 have c5b1 : decide (0 ≤ (ji4)) = true:=decide_eq_true c5
 clear c5
 obtain ⟨ji6,hji6⟩ : ∃ j_ : Int,(shl .u64 1 (ji4)) = j_:=⟨_,rfl⟩
 replace H : (some (Go.bits .or .u64 (shl .u64 a1 (ji6)) a2)) = some r:=by first|(rw [hji6] at H;exact H)|(simp only [hji6] at H ⊢;exact H)
 have hji6_ : (IntKind.u64.wrap (1 * 2 ^ min (ji4).toNat 64)) = ji6:=hji6
 have hji6z : (ji4) ≤ 64 → (IntKind.u64.wrap (1 * 2 ^ (ji4).toNat)) = ji6:=z1L hji6
 have hji6n0 : 0 ≤ ji6:=by rw [← hji6];exact Int.emod_nonneg _ zz85
 have hji6n1 : decide (0 ≤ ji6) = true:=decide_eq_true hji6n0
 replace hji6n0:=eq_true hji6n0
 have hji6u : (IntKind.u64.wrap (2 ^ min (ji4).toNat 64)) = ji6:=by have h_:=hji6_;rw [Int.one_mul] at h_;exact h_
 have hji6v : (ji4) ≤ 64 → (IntKind.u64.wrap (2 ^ (ji4).toNat)) = ji6:=fun hle_=>by have h_:=hji6z hle_;rw [Int.one_mul] at h_;exact h_
 obtain ⟨ji7,hji7⟩ : ∃ j_ : Int,(shl .u64 a1 (ji6)) = j_:=⟨_,rfl⟩
 replace H : (some (Go.bits .or .u64 (ji7) a2)) = some r:=by first|(rw [hji7] at H;exact H)|(simp only [hji7] at H ⊢;exact H)
 have hji7_ : (IntKind.u64.wrap (a1 * 2 ^ min (ji6).toNat 64)) = ji7:=hji7
 have hji7z : (ji6) ≤ 64 → (IntKind.u64.wrap (a1 * 2 ^ (ji6).toNat)) = ji7:=z1L hji7
 have hji7n0 : 0 ≤ ji7:=by rw [← hji7];exact Int.emod_nonneg _ zz85
 have hji7n1 : decide (0 ≤ ji7) = true:=decide_eq_true hji7n0
 replace hji7n0:=eq_true hji7n0
 obtain rfl:=Option.some.inj H
 go_enter Try.func129,Try.ntmps129
 go_wp2
 go_ret
 exact ⟨by first|rfl|(simp;done)|(simp only [← hji4,← hji6,← hji7] <;> (first|rfl|simp))|(simp [*];done),by repeat (first|exact Drawn0.refl _|apply Drawn0.step)⟩
end Go.Proofs.Ytklkmflhnljbdaa.P
namespace Go.Proofs.Ytklkmflhnljbdaa.P
open Go.RowKit Go.Proofs.YtklkmflhnljbdaaW.PrintWords Go.Proofs.YtklkmflhnljbdaaW.PrintLast Go.Proofs.YtklkmflhnljbdaaW.PrintMore
attribute [local go_sem] z17 z19 z1m z1n zU zV z18 z1a   -- for this text's walks alone
set_option linter.unusedVariables false
set_option linter.unusedSimpArgs false
def z10.f : Nat → Int → Int → Option (Int)
 | 0,_,_=>none
 | k + 1,a0,a1=>if a0 = 0 then (some a1) else ((z1E.f a0 a1).bind fun bt101=>((z10.f k (wrap64 (a0 - 1)) bt101.1).bind fun t103=>((z1H.f a0 (Go.bits .xor .u64 bt101.2 t103) bt101.1).bind fun t104=>(some t104))))
theorem z10.z1b : ∀ k,(∀ y0 y1,LeO (z10.f k y0 y1) (z10.f (k + 1) y0 y1))
 | 0=>fun _ _ r h=>by simp [z10.f] at h
 | k + 1=>by
  have ih0:=z10.z1b k
  · intro y0 y1
    unfold z10.f
    repeat' first
    | (with_reducible exact ih0 _ _)
    | (with_reducible exact LeO.refl _)
    | (with_reducible exact LeO.none _)
    | (with_reducible refine LeO.ite ?_ ?_)
    | (with_reducible refine LeO.bind ?_ (fun _=>?_))
    | exact ih0 _ _
    | exact LeO.none _
    | refine LeO.ite ?_ ?_
    | refine LeO.bind ?_ (fun _=>?_)
theorem z10.mono : ∀ a0 a1 k,LeO (z10.f k a0 a1) (z10.f (k + 1) a0 a1):=by
 intro a0 a1 k
 have ih0:=z10.z1b k
 exact ih0 a0 a1
set_option maxHeartbeats 8000000 in
set_option maxRecDepth 100000 in
theorem z10.calls (k : Nat) : ∀ (a0 : Int) (a1 : Int) (r : Int) (w : World) (h : z10.f k a0 a1 = some r),
 Calls Try.prog 113 #[.int .i64 a0,.int .u64 a1] w fun e w'=>e = .returned (.int .u64 r) ∧ Drawn0 w w':=by
 induction k using Nat.strongRecOn with
 | _ k ih =>
 intro a0 a1 r w h
 cases k with
 | zero=>exact absurd h (by simp [z10.f])
 | succ k =>
 simp only [z10.f] at h
 have H : (if a0 = 0 then (some a1) else ((z1E.f a0 a1).bind fun bt101=>((z10.f k (wrap64 (a0 - 1)) bt101.1).bind fun t103=>((z1H.f a0 (Go.bits .xor .u64 bt101.2 t103) bt101.1).bind fun t104=>(some t104))))) = some r:=h
 clear h
 by_cases c3 : a0 = 0
 · rw [if_pos c3] at H
   have c3b0 : (a0 == 0) = true:=beq_iff_eq.mpr c3
   have c3b1 : (a0 != 0) = false:=bne_eq_false_iff_eq.mpr c3
   clear c3
   obtain rfl:=Option.some.inj H
   go_enter Try.func113,Try.ntmps113
   go_wp2
   go_ret
   exact ⟨by first|rfl|(simp;done)|(simp [*];done),by repeat (first|exact Drawn0.refl _|apply Drawn0.step)⟩
 rw [if_neg c3] at H
 have c3b0 : (a0 == 0) = false:=beq_eq_false_iff_ne.mpr c3
 have c3b1 : (a0 != 0) = true:=bne_iff_ne.mpr c3
 replace H:=Option.bind_eq_some_iff.mp H
 obtain ⟨⟨t101,t102⟩,A40,H⟩:=H
 replace H : ((z10.f k (wrap64 (a0 - 1)) t101).bind fun t103=>((z1H.f a0 (Go.bits .xor .u64 t102 t103) t101).bind fun t104=>(some t104))) = some r:=H
 have A4:=z4.mk A40
 clear A40
 replace H:=Option.bind_eq_some_iff.mp H
 obtain ⟨t103,A50,H⟩:=H
 replace H : ((z1H.f a0 (Go.bits .xor .u64 t102 t103) t101).bind fun t104=>(some t104)) = some r:=H
 have A5:=z4.mk A50
 clear A50
 replace H:=Option.bind_eq_some_iff.mp H
 obtain ⟨t104,A60,H⟩:=H
 replace H : (some t104) = some r:=H
 have A6:=z4.mk A60
 clear A60
 obtain rfl:=Option.some.inj H
 go_enter Try.func113,Try.ntmps113
 go_wp2_with (first|((with_reducible refine zl (f:=128) rfl ?_);refine goesL_ (some 13) rfl rfl Try.func128 zz84 rfl #[.int .i64 a0,.int .u64 a1] rfl zz44 ?_;(with_reducible refine (z1E.calls a0 a1 t101 t102 _ A4.out).mono ?_);rintro e w' ⟨rfl,⟨nd,rfl⟩⟩;refine ⟨_,rfl,?_⟩)|((with_reducible refine zl (f:=113) rfl ?_);refine goesL_ (some 21) rfl rfl Try.func113 zz84 rfl #[.int .i64 (wrap64 (a0 - 1)),.int .u64 t101] rfl zz44 ?_;(with_reducible refine (ih k zz86 (wrap64 (a0 - 1)) t101 t103 _ A5.out).mono ?_);rintro e w' ⟨rfl,⟨nd,rfl⟩⟩;refine ⟨_,rfl,?_⟩)|((with_reducible refine zl (f:=129) rfl ?_);refine goesL_ (some 24) rfl rfl Try.func129 zz84 rfl #[.int .i64 a0,.int .u64 (Go.bits .xor .u64 t102 t103),.int .u64 t101] rfl zz44 ?_;(with_reducible refine (z1H.calls a0 (Go.bits .xor .u64 t102 t103) t101 t104 _ A6.out).mono ?_);rintro e w' ⟨rfl,⟨nd,rfl⟩⟩;refine ⟨_,rfl,?_⟩))
 go_ret
 exact ⟨by first|rfl|(simp;done)|(simp [*];done),by repeat (first|exact Drawn0.refl _|apply Drawn0.step)⟩
end Go.Proofs.Ytklkmflhnljbdaa.P
namespace Go.Proofs.Ytklkmflhnljbdaa.P
open Go.RowKit Go.Proofs.YtklkmflhnljbdaaW.PrintWords Go.Proofs.YtklkmflhnljbdaaW.PrintLast Go.Proofs.YtklkmflhnljbdaaW.PrintMore
attribute [local go_sem] z17 z19 z1m z1n zU zV z18 z1a   -- for this text's walks alone
set_option linter.unusedVariables false
set_option linter.unusedSimpArgs false
mutual
def zF.j0 : Nat → Int → Int → Int → Bool → Option (Int)
 | 0,_,_,_,_=>none
 | k + 1,x0,x1,x2,x23=>if x23 = true then (some (Go.bits .and .u64 (Go.bits .and .u64 x1 x2) 1)) else ((z1E.f x0 x1).bind fun bt101=>((z1E.f x0 x2).bind fun bt103=>((zF.f k (wrap64 (x0 - 1)) bt101.1 bt103.1).bind fun t105=>((zF.f k (wrap64 (x0 - 1)) bt101.2 bt103.2).bind fun t106=>((zF.f k (wrap64 (x0 - 1)) (Go.bits .xor .u64 bt101.1 bt101.2) (Go.bits .xor .u64 bt103.1 bt103.2)).bind fun t107=>((z10.f k (wrap64 (x0 - 1)) t105).bind fun t108=>((z1H.f x0 (Go.bits .xor .u64 (Go.bits .xor .u64 (Go.bits .xor .u64 t107 t105) t106) t108) (Go.bits .xor .u64 t106 t105)).bind fun t109=>(some t109))))))))
def zF.f : Nat → Int → Int → Int → Option (Int)
 | 0,_,_,_=>none
 | k + 1,a0,a1,a2=>if a0 = 0 then (zF.j0 k a0 a1 a2 true) else (if a1 = 0 then (zF.j0 k a0 a1 a2 true) else (zF.j0 k a0 a1 a2 (a2 == 0)))
end
theorem zF.z1b : ∀ k,(∀ y0 y1 y2,LeO (zF.f k y0 y1 y2) (zF.f (k + 1) y0 y1 y2)) ∧ (∀ y0 y1 y2 y3,LeO (zF.j0 k y0 y1 y2 y3) (zF.j0 (k + 1) y0 y1 y2 y3))
 | 0=>⟨fun _ _ _ r h=>by simp [zF.f] at h,fun _ _ _ _ r h=>by simp [zF.j0] at h⟩
 | k + 1=>by
  obtain ⟨ih0,ih1⟩:=zF.z1b k
  refine ⟨?_,?_⟩
  · intro y0 y1 y2
    unfold zF.f
    repeat' first
    | (with_reducible exact ih0 _ _ _)
    | (with_reducible exact ih1 _ _ _ _)
    | (with_reducible exact z10.mono _ _ _)
    | (with_reducible exact LeO.refl _)
    | (with_reducible exact LeO.none _)
    | (with_reducible refine LeO.ite ?_ ?_)
    | (with_reducible refine LeO.bind ?_ (fun _=>?_))
    | exact ih0 _ _ _
    | exact ih1 _ _ _ _
    | exact z10.mono _ _ _
    | exact LeO.none _
    | refine LeO.ite ?_ ?_
    | refine LeO.bind ?_ (fun _=>?_)
  · intro y0 y1 y2 y3
    unfold zF.j0
    repeat' first
    | (with_reducible exact ih0 _ _ _)
    | (with_reducible exact ih1 _ _ _ _)
    | (with_reducible exact z10.mono _ _ _)
    | (with_reducible exact LeO.refl _)
    | (with_reducible exact LeO.none _)
    | (with_reducible refine LeO.ite ?_ ?_)
    | (with_reducible refine LeO.bind ?_ (fun _=>?_))
    | exact ih0 _ _ _
    | exact ih1 _ _ _ _
    | exact z10.mono _ _ _
    | exact LeO.none _
    | refine LeO.ite ?_ ?_
    | refine LeO.bind ?_ (fun _=>?_)
theorem zF.mono : ∀ a0 a1 a2 k,LeO (zF.f k a0 a1 a2) (zF.f (k + 1) a0 a1 a2):=by
 intro a0 a1 a2 k
 obtain ⟨ih0,ih1⟩:=zF.z1b k
 exact ih0 a0 a1 a2
set_option maxHeartbeats 8000000 in
set_option maxRecDepth 100000 in
theorem zF.calls (k : Nat) : ∀ (a0 : Int) (a1 : Int) (a2 : Int) (r : Int) (w : World) (h : zF.f k a0 a1 a2 = some r),
 Calls Try.prog 112 #[.int .i64 a0,.int .u64 a1,.int .u64 a2] w fun e w'=>e = .returned (.int .u64 r) ∧ Drawn0 w w':=by
 induction k using Nat.strongRecOn with
 | _ k ih =>
 intro a0 a1 a2 r w h
 cases k with
 | zero=>exact absurd h (by simp [zF.f])
 | succ k =>
 simp only [zF.f] at h
 have H : (if a0 = 0 then (zF.j0 k a0 a1 a2 true) else (if a1 = 0 then (zF.j0 k a0 a1 a2 true) else (zF.j0 k a0 a1 a2 (a2 == 0)))) = some r:=h
 clear h
 have HC4:=z4.mk H
 clear H
 go_enter Try.func112,Try.ntmps112
 go_upto_region 1 with (fail)
 go_cut [23] (fun v23 wc=>∃ (kq : Nat) (x23_3 : Bool),v23 = .bool x23_3 ∧ z4 (zF.j0 kq a0 a1 a2 x23_3 = some r) ∧ z4 (kq ≤ k) ∧ Drawn0 w wc)
 case first =>
  have H:=HC4.out
  clear HC4
  by_cases c5 : a0 = 0
  · rw [if_pos c5] at H
    have c5b0 : (a0 == 0) = true:=beq_iff_eq.mpr c5
    have c5b1 : (a0 != 0) = false:=bne_eq_false_iff_eq.mpr c5
    clear c5
    (first|rw [c5b0]|(simp only [zY,z16];rw [c5b0])|skip)
    have H':=z4.mk H
    clear H
    go_wp2
    go_meet
    case rel=>exact ⟨_,(true),zz81,H',⟨by first|omega|exact Nat.le_refl _⟩,by repeat (first|exact Drawn0.refl _|apply Drawn0.step)⟩
  rw [if_neg c5] at H
  have c5b0 : (a0 == 0) = false:=beq_eq_false_iff_ne.mpr c5
  have c5b1 : (a0 != 0) = true:=bne_iff_ne.mpr c5
  (first|rw [c5b0]|(simp only [zY,z16];rw [c5b0])|skip)
  by_cases c6 : a1 = 0
  rotate_left
  · rw [if_neg c6] at H
    have c6b0 : (a1 == 0) = false:=beq_eq_false_iff_ne.mpr c6
    have c6b1 : (a1 != 0) = true:=bne_iff_ne.mpr c6
    have H':=z4.mk H
    clear H
    go_wp2
    go_meet
    case rel=>exact ⟨_,((a2 == 0)),zz81,H',⟨by first|omega|exact Nat.le_refl _⟩,by repeat (first|exact Drawn0.refl _|apply Drawn0.step)⟩
  rw [if_pos c6] at H
  have c6b0 : (a1 == 0) = true:=beq_iff_eq.mpr c6
  have c6b1 : (a1 != 0) = false:=bne_eq_false_iff_eq.mpr c6
  clear c6
  have H':=z4.mk H
  clear H
  go_wp2
  go_meet
  case rel=>exact ⟨_,(true),zz81,H',⟨by first|omega|exact Nat.le_refl _⟩,by repeat (first|exact Drawn0.refl _|apply Drawn0.step)⟩
 case rest =>
  clear HC4
  (try clear c1);(try clear p2);(try clear c5);(try clear c5b0);(try clear c5b1);(try clear c6);(try clear c6b0);(try clear c6b1)
  obtain ⟨kq,x23_3,rfl,HA,HJ3,⟨mc3,rfl⟩⟩:=hcut
  cases kq with
  | zero=>exact absurd HA.out (by simp [zF.j0])
  | succ kj3 =>
   have H:=HA.out
   clear HA
   simp only [zF.j0] at H
   by_cases c7 : x23_3 = true
   · subst c7
     have H1 : (some (Go.bits .and .u64 (Go.bits .and .u64 a1 a2) 1)) = some r:=by rw [if_pos rfl] at H;exact H
     clear H
     have H:=H1
     clear H1
     obtain rfl:=Option.some.inj H
     go_wp2
     go_ret
     exact ⟨by first|rfl|(simp;done)|(simp [*];done),by repeat (first|exact Drawn0.refl _|apply Drawn0.step)⟩
   replace c7:=Bool.eq_false_iff.mpr c7
   subst c7
   have H1 : ((z1E.f a0 a1).bind fun bt101=>((z1E.f a0 a2).bind fun bt103=>((zF.f kj3 (wrap64 (a0 - 1)) bt101.1 bt103.1).bind fun t105=>((zF.f kj3 (wrap64 (a0 - 1)) bt101.2 bt103.2).bind fun t106=>((zF.f kj3 (wrap64 (a0 - 1)) (Go.bits .xor .u64 bt101.1 bt101.2) (Go.bits .xor .u64 bt103.1 bt103.2)).bind fun t107=>((z10.f kj3 (wrap64 (a0 - 1)) t105).bind fun t108=>((z1H.f a0 (Go.bits .xor .u64 (Go.bits .xor .u64 (Go.bits .xor .u64 t107 t105) t106) t108) (Go.bits .xor .u64 t106 t105)).bind fun t109=>(some t109)))))))) = some r:=by rw [if_neg (show ¬ (false = true) by decide)] at H;exact H
   clear H
   have H:=H1
   clear H1
   replace H:=Option.bind_eq_some_iff.mp H
   obtain ⟨⟨t101,t102⟩,A80,H⟩:=H
   replace H : ((z1E.f a0 a2).bind fun bt103=>((zF.f kj3 (wrap64 (a0 - 1)) t101 bt103.1).bind fun t105=>((zF.f kj3 (wrap64 (a0 - 1)) t102 bt103.2).bind fun t106=>((zF.f kj3 (wrap64 (a0 - 1)) (Go.bits .xor .u64 t101 t102) (Go.bits .xor .u64 bt103.1 bt103.2)).bind fun t107=>((z10.f kj3 (wrap64 (a0 - 1)) t105).bind fun t108=>((z1H.f a0 (Go.bits .xor .u64 (Go.bits .xor .u64 (Go.bits .xor .u64 t107 t105) t106) t108) (Go.bits .xor .u64 t106 t105)).bind fun t109=>(some t109))))))) = some r:=H
   have A8:=z4.mk A80
   clear A80
   replace H:=Option.bind_eq_some_iff.mp H
   obtain ⟨⟨t103,t104⟩,A90,H⟩:=H
   replace H : ((zF.f kj3 (wrap64 (a0 - 1)) t101 t103).bind fun t105=>((zF.f kj3 (wrap64 (a0 - 1)) t102 t104).bind fun t106=>((zF.f kj3 (wrap64 (a0 - 1)) (Go.bits .xor .u64 t101 t102) (Go.bits .xor .u64 t103 t104)).bind fun t107=>((z10.f kj3 (wrap64 (a0 - 1)) t105).bind fun t108=>((z1H.f a0 (Go.bits .xor .u64 (Go.bits .xor .u64 (Go.bits .xor .u64 t107 t105) t106) t108) (Go.bits .xor .u64 t106 t105)).bind fun t109=>(some t109)))))) = some r:=H
   have A9:=z4.mk A90
   clear A90
   replace H:=Option.bind_eq_some_iff.mp H
   obtain ⟨t105,A100,H⟩:=H
   replace H : ((zF.f kj3 (wrap64 (a0 - 1)) t102 t104).bind fun t106=>((zF.f kj3 (wrap64 (a0 - 1)) (Go.bits .xor .u64 t101 t102) (Go.bits .xor .u64 t103 t104)).bind fun t107=>((z10.f kj3 (wrap64 (a0 - 1)) t105).bind fun t108=>((z1H.f a0 (Go.bits .xor .u64 (Go.bits .xor .u64 (Go.bits .xor .u64 t107 t105) t106) t108) (Go.bits .xor .u64 t106 t105)).bind fun t109=>(some t109))))) = some r:=H
   have A10:=z4.mk A100
   clear A100
   replace H:=Option.bind_eq_some_iff.mp H
   obtain ⟨t106,A110,H⟩:=H
   replace H : ((zF.f kj3 (wrap64 (a0 - 1)) (Go.bits .xor .u64 t101 t102) (Go.bits .xor .u64 t103 t104)).bind fun t107=>((z10.f kj3 (wrap64 (a0 - 1)) t105).bind fun t108=>((z1H.f a0 (Go.bits .xor .u64 (Go.bits .xor .u64 (Go.bits .xor .u64 t107 t105) t106) t108) (Go.bits .xor .u64 t106 t105)).bind fun t109=>(some t109)))) = some r:=H
   have A11:=z4.mk A110
   clear A110
   replace H:=Option.bind_eq_some_iff.mp H
   obtain ⟨t107,A120,H⟩:=H
   replace H : ((z10.f kj3 (wrap64 (a0 - 1)) t105).bind fun t108=>((z1H.f a0 (Go.bits .xor .u64 (Go.bits .xor .u64 (Go.bits .xor .u64 t107 t105) t106) t108) (Go.bits .xor .u64 t106 t105)).bind fun t109=>(some t109))) = some r:=H
   have A12:=z4.mk A120
   clear A120
   replace H:=Option.bind_eq_some_iff.mp H
   obtain ⟨t108,A130,H⟩:=H
   replace H : ((z1H.f a0 (Go.bits .xor .u64 (Go.bits .xor .u64 (Go.bits .xor .u64 t107 t105) t106) t108) (Go.bits .xor .u64 t106 t105)).bind fun t109=>(some t109)) = some r:=H
   have A13:=z4.mk A130
   clear A130
   replace H:=Option.bind_eq_some_iff.mp H
   obtain ⟨t109,A140,H⟩:=H
   replace H : (some t109) = some r:=H
   have A14:=z4.mk A140
   clear A140
   obtain rfl:=Option.some.inj H
   go_wp2_with (first|((with_reducible refine zl (f:=128) rfl ?_);refine goesL_ (some 31) rfl rfl Try.func128 zz84 rfl #[.int .i64 a0,.int .u64 a1] rfl zz44 ?_;(with_reducible refine (z1E.calls a0 a1 t101 t102 _ A8.out).mono ?_);rintro e w' ⟨rfl,⟨nd,rfl⟩⟩;refine ⟨_,rfl,?_⟩)|((with_reducible refine zl (f:=128) rfl ?_);refine goesL_ (some 37) rfl rfl Try.func128 zz84 rfl #[.int .i64 a0,.int .u64 a2] rfl zz44 ?_;(with_reducible refine (z1E.calls a0 a2 t103 t104 _ A9.out).mono ?_);rintro e w' ⟨rfl,⟨nd,rfl⟩⟩;refine ⟨_,rfl,?_⟩)|((with_reducible refine zl (f:=112) rfl ?_);refine goesL_ (some 44) rfl rfl Try.func112 zz84 rfl #[.int .i64 (wrap64 (a0 - 1)),.int .u64 t101,.int .u64 t103] rfl zz44 ?_;(with_reducible refine (ih kj3 (by have:=HJ3.out;omega) (wrap64 (a0 - 1)) t101 t103 t105 _ A10.out).mono ?_);rintro e w' ⟨rfl,⟨nd,rfl⟩⟩;refine ⟨_,rfl,?_⟩)|((with_reducible refine zl (f:=112) rfl ?_);refine goesL_ (some 49) rfl rfl Try.func112 zz84 rfl #[.int .i64 (wrap64 (a0 - 1)),.int .u64 t102,.int .u64 t104] rfl zz44 ?_;(with_reducible refine (ih kj3 (by have:=HJ3.out;omega) (wrap64 (a0 - 1)) t102 t104 t106 _ A11.out).mono ?_);rintro e w' ⟨rfl,⟨nd,rfl⟩⟩;refine ⟨_,rfl,?_⟩)|((with_reducible refine zl (f:=112) rfl ?_);refine goesL_ (some 58) rfl rfl Try.func112 zz84 rfl #[.int .i64 (wrap64 (a0 - 1)),.int .u64 (Go.bits .xor .u64 t101 t102),.int .u64 (Go.bits .xor .u64 t103 t104)] rfl zz44 ?_;(with_reducible refine (ih kj3 (by have:=HJ3.out;omega) (wrap64 (a0 - 1)) (Go.bits .xor .u64 t101 t102) (Go.bits .xor .u64 t103 t104) t107 _ A12.out).mono ?_);rintro e w' ⟨rfl,⟨nd,rfl⟩⟩;refine ⟨_,rfl,?_⟩)|((with_reducible refine zl (f:=113) rfl ?_);refine goesL_ (some 68) rfl rfl Try.func113 zz84 rfl #[.int .i64 (wrap64 (a0 - 1)),.int .u64 t105] rfl zz44 ?_;(with_reducible refine (z10.calls kj3 (wrap64 (a0 - 1)) t105 t108 _ A13.out).mono ?_);rintro e w' ⟨rfl,⟨nd,rfl⟩⟩;refine ⟨_,rfl,?_⟩)|((with_reducible refine zl (f:=129) rfl ?_);refine goesL_ (some 73) rfl rfl Try.func129 zz84 rfl #[.int .i64 a0,.int .u64 (Go.bits .xor .u64 (Go.bits .xor .u64 (Go.bits .xor .u64 t107 t105) t106) t108),.int .u64 (Go.bits .xor .u64 t106 t105)] rfl zz44 ?_;(with_reducible refine (z1H.calls a0 (Go.bits .xor .u64 (Go.bits .xor .u64 (Go.bits .xor .u64 t107 t105) t106) t108) (Go.bits .xor .u64 t106 t105) t109 _ A14.out).mono ?_);rintro e w' ⟨rfl,⟨nd,rfl⟩⟩;refine ⟨_,rfl,?_⟩))
   go_ret
   exact ⟨by first|rfl|(simp;done)|(simp [*];done),by repeat (first|exact Drawn0.refl _|apply Drawn0.step)⟩
end Go.Proofs.Ytklkmflhnljbdaa.P
namespace Go.Proofs.Ytklkmflhnljbdaa.P
open Go.RowKit Go.Proofs.YtklkmflhnljbdaaW.PrintWords Go.Proofs.YtklkmflhnljbdaaW.PrintLast Go.Proofs.YtklkmflhnljbdaaW.PrintMore
attribute [local go_sem] z17 z19 z1m z1n zU zV z18 z1a   -- for this text's walks alone
set_option linter.unusedVariables false
set_option linter.unusedSimpArgs false
def zM.j0 : Nat → Int → Bool → Int → Int → Int → Int → Option (Int × Int)
 | 0,_,_,_,_,_,_=>none
 | k + 1,x0,x10,x102000,x102001,x103000,x103001=>if x10 = true then (some (0,0)) else (if x0 ≤ 6 then ((zF.f k x0 x102001 x103001).bind fun t106=>(some (0,t106))) else ((zF.f k 6 x102000 x103000).bind fun t107=>((zF.f k 6 x102001 x103001).bind fun t108=>((zF.f k 6 (Go.bits .xor .u64 x102000 x102001) (Go.bits .xor .u64 x103000 x103001)).bind fun t109=>((z10.f k 6 t107).bind fun t110=>(some (Go.bits .xor .u64 (Go.bits .xor .u64 (Go.bits .xor .u64 t109 t107) t108) t110,Go.bits .xor .u64 t108 t107)))))))
def zM.f (k : Nat) (a0 : Int) (a1_0 : Int) (a1_1 : Int) (a2_0 : Int) (a2_1 : Int) : Option (Int × Int):=(zJ.f k a0 a1_0 a1_1).bind fun t104=>(if t104 = true then ((zJ.f k a0 a2_0 a2_1).bind fun t105=>(zM.j0 k a0 (!t105) a1_0 a1_1 a2_0 a2_1)) else (zM.j0 k a0 true a1_0 a1_1 a2_0 a2_1))
theorem zM.z1b : ∀ k,(∀ y0 y1 y2 y3 y4 y5,LeO (zM.j0 k y0 y1 y2 y3 y4 y5) (zM.j0 (k + 1) y0 y1 y2 y3 y4 y5))
 | 0=>fun _ _ _ _ _ _ r h=>by simp [zM.j0] at h
 | k + 1=>by
  have ih0:=zM.z1b k
  · intro y0 y1 y2 y3 y4 y5
    unfold zM.j0
    repeat' first
    | (with_reducible exact ih0 _ _ _ _ _ _)
    | (with_reducible exact zJ.mono _ _ _ _)
    | (with_reducible exact zF.mono _ _ _ _)
    | (with_reducible exact z10.mono _ _ _)
    | (with_reducible exact LeO.refl _)
    | (with_reducible exact LeO.none _)
    | (with_reducible refine LeO.ite ?_ ?_)
    | (with_reducible refine LeO.bind ?_ (fun _=>?_))
    | exact ih0 _ _ _ _ _ _
    | exact zJ.mono _ _ _ _
    | exact zF.mono _ _ _ _
    | exact z10.mono _ _ _
    | exact LeO.none _
    | refine LeO.ite ?_ ?_
    | refine LeO.bind ?_ (fun _=>?_)
theorem zM.mono : ∀ a0 a1 a2 a3 a4 k,LeO (zM.f k a0 a1 a2 a3 a4) (zM.f (k + 1) a0 a1 a2 a3 a4):=by
 intro a0 a1 a2 a3 a4 k
 have ih0:=zM.z1b k
 unfold zM.f
 repeat' first
  | (with_reducible exact ih0 _ _ _ _ _ _)
  | (with_reducible exact zJ.mono _ _ _ _)
  | (with_reducible exact zF.mono _ _ _ _)
  | (with_reducible exact z10.mono _ _ _)
  | (with_reducible exact LeO.refl _)
  | (with_reducible exact LeO.none _)
  | (with_reducible refine LeO.ite ?_ ?_)
  | (with_reducible refine LeO.bind ?_ (fun _=>?_))
  | exact ih0 _ _ _ _ _ _
  | exact zJ.mono _ _ _ _
  | exact zF.mono _ _ _ _
  | exact z10.mono _ _ _
  | exact LeO.none _
  | refine LeO.ite ?_ ?_
  | refine LeO.bind ?_ (fun _=>?_)
set_option maxHeartbeats 8000000 in
set_option maxRecDepth 100000 in
theorem zM.calls (k : Nat) (a0 : Int) (a1_0 : Int) (a1_1 : Int) (a2_0 : Int) (a2_1 : Int) (r1 : Int) (r2 : Int) (w : World) (h : zM.f k a0 a1_0 a1_1 a2_0 a2_1 = some (r1,r2)) :
 Calls Try.prog 86 #[.int .i64 a0,.agg #[.int .u64 a1_0,.int .u64 a1_1],.agg #[.int .u64 a2_0,.int .u64 a2_1]] w fun e w'=>e = .returned (.agg #[.int .u64 r1,.int .u64 r2]) ∧ Below w.heap.size w w':=by
 have hu37:=Try.underlying37
 have HB:=z4.mk (Below.refl w.heap.size w)
 have H : ((zJ.f k a0 a1_0 a1_1).bind fun t104=>(if t104 = true then ((zJ.f k a0 a2_0 a2_1).bind fun t105=>(zM.j0 k a0 (!t105) a1_0 a1_1 a2_0 a2_1)) else (zM.j0 k a0 true a1_0 a1_1 a2_0 a2_1))) = some (r1,r2):=h
 clear h
 have HC4:=z4.mk H
 clear H
 go_enter Try.func86,Try.ntmps86
 go_upto_region 1 with (first|((with_reducible refine zr (N:=4) rfl ?_);refine zy ?hg (N:=4) ?hd (cs:=#[.int .u64 a1_0,.int .u64 a1_1]) (t:=37) ?hr ?_;(case hd=>rfl);(case hg=>rfl);(case hr=>first|(go_simp;done)|(go_simp;rfl));intro gb101 hg w5 hbox hb;have n0_:=z4.mk (z9 zz45 hb);have n1_:=z4.mk (hbox);have n2_:=z4.mk ((by rw [hg];exact (ze zz45) : w.heap.size ≤ gb101));have n3_:=z4.mk ((by rw [hg];exact (ze zz45) : w.heap.size ≤ gb101));clear HB;have HB:=n0_;have BK101:=n1_;have GW101:=n2_;have GE101:=n3_;clear n0_ n1_ n2_ n3_;clear hb hbox hg)|((with_reducible refine zr (N:=5) rfl ?_);refine zy ?hg (N:=5) ?hd (cs:=#[.int .u64 a2_0,.int .u64 a2_1]) (t:=37) ?hr ?_;(case hd=>rfl);(case hg=>rfl);(case hr=>first|(go_simp;done)|(go_simp;rfl));intro gb102 hg w6 hbox hb;have n0_:=z4.mk (zh (g:=gb101) (o:=.cells #[.int .u64 a1_0,.int .u64 a1_1] 37 (0,0)) zz46 hb);have n1_:=z4.mk (z9 zz40 hb);have n2_:=z4.mk (hbox);have n3_:=z4.mk ((by rw [hg];exact (ze zz40) : w.heap.size ≤ gb102));have n4_:=z4.mk ((by rw [hg];exact (ze zz40) : w.heap.size ≤ gb102));have n5_:=z4.mk ((by rw [hg];exact Nat.ne_of_lt (zO (g:=gb101) (o:=.cells #[.int .u64 a1_0,.int .u64 a1_1] 37 (0,0)) zz46) : gb101 ≠ gb102));have n6_:=z4.mk ((by rw [hg];exact Nat.ne_of_gt (zO (g:=gb101) (o:=.cells #[.int .u64 a1_0,.int .u64 a1_1] 37 (0,0)) zz46) : gb102 ≠ gb101));clear BK101;clear HB;have BK101:=n0_;have HB:=n1_;have BK102:=n2_;have GW102:=n3_;have GE102:=n4_;have NB101_102:=n5_;have NB102_101:=n6_;clear n0_ n1_ n2_ n3_ n4_ n5_ n6_;clear hb hbox hg)|((with_reducible refine zr (N:=6) rfl ?_);refine zy ?hg (N:=6) ?hd (cs:=#[.int .u64 0,.int .u64 0]) (t:=37) ?hr ?_;(case hd=>rfl);(case hg=>rfl);(case hr=>first|(go_simp;done)|(go_simp;rfl));intro gb103 hg w7 hbox hb;have n0_:=z4.mk (zh (g:=gb101) (o:=.cells #[.int .u64 a1_0,.int .u64 a1_1] 37 (0,0)) zz46 hb);have n1_:=z4.mk (zh (g:=gb102) (o:=.cells #[.int .u64 a2_0,.int .u64 a2_1] 37 (0,0)) zz47 hb);have n2_:=z4.mk (z9 zz33 hb);have n3_:=z4.mk (hbox);have n4_:=z4.mk ((by rw [hg];exact (ze zz33) : w.heap.size ≤ gb103));have n5_:=z4.mk ((by rw [hg];exact (ze zz33) : w.heap.size ≤ gb103));have n6_:=z4.mk ((by rw [hg];exact Nat.ne_of_lt (zO (g:=gb101) (o:=.cells #[.int .u64 a1_0,.int .u64 a1_1] 37 (0,0)) zz46) : gb101 ≠ gb103));have n7_:=z4.mk ((by rw [hg];exact Nat.ne_of_gt (zO (g:=gb101) (o:=.cells #[.int .u64 a1_0,.int .u64 a1_1] 37 (0,0)) zz46) : gb103 ≠ gb101));have n8_:=z4.mk ((by rw [hg];exact Nat.ne_of_lt (zO (g:=gb102) (o:=.cells #[.int .u64 a2_0,.int .u64 a2_1] 37 (0,0)) zz47) : gb102 ≠ gb103));have n9_:=z4.mk ((by rw [hg];exact Nat.ne_of_gt (zO (g:=gb102) (o:=.cells #[.int .u64 a2_0,.int .u64 a2_1] 37 (0,0)) zz47) : gb103 ≠ gb102));clear BK101;clear BK102;clear HB;have BK101:=n0_;have BK102:=n1_;have HB:=n2_;have BK103:=n3_;have GW103:=n4_;have GE103:=n5_;have NB101_103:=n6_;have NB103_101:=n7_;have NB102_103:=n8_;have NB103_102:=n9_;clear n0_ n1_ n2_ n3_ n4_ n5_ n6_ n7_ n8_ n9_;clear hb hbox hg))
 repeat (go_quiet (first|((with_reducible refine zr (N:=4) rfl ?_);refine zy ?hg (N:=4) ?hd (cs:=#[.int .u64 a1_0,.int .u64 a1_1]) (t:=37) ?hr ?_;(case hd=>rfl);(case hg=>rfl);(case hr=>first|(go_simp;done)|(go_simp;rfl));intro gb101 hg w5 hbox hb;have n0_:=z4.mk (z9 zz45 hb);have n1_:=z4.mk (hbox);have n2_:=z4.mk ((by rw [hg];exact (ze zz45) : w.heap.size ≤ gb101));have n3_:=z4.mk ((by rw [hg];exact (ze zz45) : w.heap.size ≤ gb101));clear HB;have HB:=n0_;have BK101:=n1_;have GW101:=n2_;have GE101:=n3_;clear n0_ n1_ n2_ n3_;clear hb hbox hg)|((with_reducible refine zr (N:=5) rfl ?_);refine zy ?hg (N:=5) ?hd (cs:=#[.int .u64 a2_0,.int .u64 a2_1]) (t:=37) ?hr ?_;(case hd=>rfl);(case hg=>rfl);(case hr=>first|(go_simp;done)|(go_simp;rfl));intro gb102 hg w6 hbox hb;have n0_:=z4.mk (zh (g:=gb101) (o:=.cells #[.int .u64 a1_0,.int .u64 a1_1] 37 (0,0)) zz46 hb);have n1_:=z4.mk (z9 zz40 hb);have n2_:=z4.mk (hbox);have n3_:=z4.mk ((by rw [hg];exact (ze zz40) : w.heap.size ≤ gb102));have n4_:=z4.mk ((by rw [hg];exact (ze zz40) : w.heap.size ≤ gb102));have n5_:=z4.mk ((by rw [hg];exact Nat.ne_of_lt (zO (g:=gb101) (o:=.cells #[.int .u64 a1_0,.int .u64 a1_1] 37 (0,0)) zz46) : gb101 ≠ gb102));have n6_:=z4.mk ((by rw [hg];exact Nat.ne_of_gt (zO (g:=gb101) (o:=.cells #[.int .u64 a1_0,.int .u64 a1_1] 37 (0,0)) zz46) : gb102 ≠ gb101));clear BK101;clear HB;have BK101:=n0_;have HB:=n1_;have BK102:=n2_;have GW102:=n3_;have GE102:=n4_;have NB101_102:=n5_;have NB102_101:=n6_;clear n0_ n1_ n2_ n3_ n4_ n5_ n6_;clear hb hbox hg)|((with_reducible refine zr (N:=6) rfl ?_);refine zy ?hg (N:=6) ?hd (cs:=#[.int .u64 0,.int .u64 0]) (t:=37) ?hr ?_;(case hd=>rfl);(case hg=>rfl);(case hr=>first|(go_simp;done)|(go_simp;rfl));intro gb103 hg w7 hbox hb;have n0_:=z4.mk (zh (g:=gb101) (o:=.cells #[.int .u64 a1_0,.int .u64 a1_1] 37 (0,0)) zz46 hb);have n1_:=z4.mk (zh (g:=gb102) (o:=.cells #[.int .u64 a2_0,.int .u64 a2_1] 37 (0,0)) zz47 hb);have n2_:=z4.mk (z9 zz33 hb);have n3_:=z4.mk (hbox);have n4_:=z4.mk ((by rw [hg];exact (ze zz33) : w.heap.size ≤ gb103));have n5_:=z4.mk ((by rw [hg];exact (ze zz33) : w.heap.size ≤ gb103));have n6_:=z4.mk ((by rw [hg];exact Nat.ne_of_lt (zO (g:=gb101) (o:=.cells #[.int .u64 a1_0,.int .u64 a1_1] 37 (0,0)) zz46) : gb101 ≠ gb103));have n7_:=z4.mk ((by rw [hg];exact Nat.ne_of_gt (zO (g:=gb101) (o:=.cells #[.int .u64 a1_0,.int .u64 a1_1] 37 (0,0)) zz46) : gb103 ≠ gb101));have n8_:=z4.mk ((by rw [hg];exact Nat.ne_of_lt (zO (g:=gb102) (o:=.cells #[.int .u64 a2_0,.int .u64 a2_1] 37 (0,0)) zz47) : gb102 ≠ gb103));have n9_:=z4.mk ((by rw [hg];exact Nat.ne_of_gt (zO (g:=gb102) (o:=.cells #[.int .u64 a2_0,.int .u64 a2_1] 37 (0,0)) zz47) : gb103 ≠ gb102));clear BK101;clear BK102;clear HB;have BK101:=n0_;have BK102:=n1_;have HB:=n2_;have BK103:=n3_;have GW103:=n4_;have GE103:=n5_;have NB101_103:=n6_;have NB103_101:=n7_;have NB102_103:=n8_;have NB103_102:=n9_;clear n0_ n1_ n2_ n3_ n4_ n5_ n6_ n7_ n8_ n9_;clear hb hbox hg));go_upto_region 1 with (first|((with_reducible refine zr (N:=4) rfl ?_);refine zy ?hg (N:=4) ?hd (cs:=#[.int .u64 a1_0,.int .u64 a1_1]) (t:=37) ?hr ?_;(case hd=>rfl);(case hg=>rfl);(case hr=>first|(go_simp;done)|(go_simp;rfl));intro gb101 hg w5 hbox hb;have n0_:=z4.mk (z9 zz45 hb);have n1_:=z4.mk (hbox);have n2_:=z4.mk ((by rw [hg];exact (ze zz45) : w.heap.size ≤ gb101));have n3_:=z4.mk ((by rw [hg];exact (ze zz45) : w.heap.size ≤ gb101));clear HB;have HB:=n0_;have BK101:=n1_;have GW101:=n2_;have GE101:=n3_;clear n0_ n1_ n2_ n3_;clear hb hbox hg)|((with_reducible refine zr (N:=5) rfl ?_);refine zy ?hg (N:=5) ?hd (cs:=#[.int .u64 a2_0,.int .u64 a2_1]) (t:=37) ?hr ?_;(case hd=>rfl);(case hg=>rfl);(case hr=>first|(go_simp;done)|(go_simp;rfl));intro gb102 hg w6 hbox hb;have n0_:=z4.mk (zh (g:=gb101) (o:=.cells #[.int .u64 a1_0,.int .u64 a1_1] 37 (0,0)) zz46 hb);have n1_:=z4.mk (z9 zz40 hb);have n2_:=z4.mk (hbox);have n3_:=z4.mk ((by rw [hg];exact (ze zz40) : w.heap.size ≤ gb102));have n4_:=z4.mk ((by rw [hg];exact (ze zz40) : w.heap.size ≤ gb102));have n5_:=z4.mk ((by rw [hg];exact Nat.ne_of_lt (zO (g:=gb101) (o:=.cells #[.int .u64 a1_0,.int .u64 a1_1] 37 (0,0)) zz46) : gb101 ≠ gb102));have n6_:=z4.mk ((by rw [hg];exact Nat.ne_of_gt (zO (g:=gb101) (o:=.cells #[.int .u64 a1_0,.int .u64 a1_1] 37 (0,0)) zz46) : gb102 ≠ gb101));clear BK101;clear HB;have BK101:=n0_;have HB:=n1_;have BK102:=n2_;have GW102:=n3_;have GE102:=n4_;have NB101_102:=n5_;have NB102_101:=n6_;clear n0_ n1_ n2_ n3_ n4_ n5_ n6_;clear hb hbox hg)|((with_reducible refine zr (N:=6) rfl ?_);refine zy ?hg (N:=6) ?hd (cs:=#[.int .u64 0,.int .u64 0]) (t:=37) ?hr ?_;(case hd=>rfl);(case hg=>rfl);(case hr=>first|(go_simp;done)|(go_simp;rfl));intro gb103 hg w7 hbox hb;have n0_:=z4.mk (zh (g:=gb101) (o:=.cells #[.int .u64 a1_0,.int .u64 a1_1] 37 (0,0)) zz46 hb);have n1_:=z4.mk (zh (g:=gb102) (o:=.cells #[.int .u64 a2_0,.int .u64 a2_1] 37 (0,0)) zz47 hb);have n2_:=z4.mk (z9 zz33 hb);have n3_:=z4.mk (hbox);have n4_:=z4.mk ((by rw [hg];exact (ze zz33) : w.heap.size ≤ gb103));have n5_:=z4.mk ((by rw [hg];exact (ze zz33) : w.heap.size ≤ gb103));have n6_:=z4.mk ((by rw [hg];exact Nat.ne_of_lt (zO (g:=gb101) (o:=.cells #[.int .u64 a1_0,.int .u64 a1_1] 37 (0,0)) zz46) : gb101 ≠ gb103));have n7_:=z4.mk ((by rw [hg];exact Nat.ne_of_gt (zO (g:=gb101) (o:=.cells #[.int .u64 a1_0,.int .u64 a1_1] 37 (0,0)) zz46) : gb103 ≠ gb101));have n8_:=z4.mk ((by rw [hg];exact Nat.ne_of_lt (zO (g:=gb102) (o:=.cells #[.int .u64 a2_0,.int .u64 a2_1] 37 (0,0)) zz47) : gb102 ≠ gb103));have n9_:=z4.mk ((by rw [hg];exact Nat.ne_of_gt (zO (g:=gb102) (o:=.cells #[.int .u64 a2_0,.int .u64 a2_1] 37 (0,0)) zz47) : gb103 ≠ gb102));clear BK101;clear BK102;clear HB;have BK101:=n0_;have BK102:=n1_;have HB:=n2_;have BK103:=n3_;have GW103:=n4_;have GE103:=n5_;have NB101_103:=n6_;have NB103_101:=n7_;have NB102_103:=n8_;have NB103_102:=n9_;clear n0_ n1_ n2_ n3_ n4_ n5_ n6_ n7_ n8_ n9_;clear hb hbox hg)))
 (try simp only [Act.put,List.setIfInBounds_toArray,List.set_cons_zero,List.set_cons_succ])
 go_cut [10] (fun v10 wc=>∃ (kq : Nat) (x10_3 : Bool),v10 = .bool x10_3 ∧ z4 (zM.j0 kq a0 x10_3 a1_0 a1_1 a2_0 a2_1 = some (r1,r2)) ∧ z4 (kq ≤ k) ∧ z4 (wc.heap[gb101]? = some (.cells #[.int .u64 a1_0,.int .u64 a1_1] 37 (0,0))) ∧ z4 (wc.heap[gb102]? = some (.cells #[.int .u64 a2_0,.int .u64 a2_1] 37 (0,0))) ∧ z4 (wc.heap[gb103]? = some (.cells #[.int .u64 0,.int .u64 0] 37 (0,0))) ∧ z4 (Below w.heap.size w wc))
 case first =>
  have H:=HC4.out
  clear HC4
  replace H:=Option.bind_eq_some_iff.mp H
  obtain ⟨t104,A80,H⟩:=H
  replace H : (if t104 = true then ((zJ.f k a0 a2_0 a2_1).bind fun t105=>(zM.j0 k a0 (!t105) a1_0 a1_1 a2_0 a2_1)) else (zM.j0 k a0 true a1_0 a1_1 a2_0 a2_1)) = some (r1,r2):=H
  have A8:=z4.mk A80
  clear A80
  by_cases c9 : t104 = true
  rotate_left
  · replace c9:=Bool.eq_false_iff.mpr c9
    subst c9
    have H1 : (zM.j0 k a0 true a1_0 a1_1 a2_0 a2_1) = some (r1,r2):=by rw [if_neg (show ¬ (false = true) by decide)] at H;exact H
    clear H
    have H:=H1
    clear H1
    have H':=z4.mk H
    clear H
    have hnb18:=NB101_102.out
    have hnc18:=NB102_101.out
    have hnb19:=NB101_103.out
    have hnc19:=NB103_101.out
    have hcz20_0 : w7.cell? ⟨gb101,0,none⟩ = some (.int .u64 a1_0):=(zf BK101.out 0).trans rfl
    have hcz20_1 : w7.cell? ⟨gb101,1,none⟩ = some (.int .u64 a1_1):=(zf BK101.out 1).trans rfl
    have hfz20_0:=za BK101.out 0
    have hfz20_1:=za BK101.out 1
    go_wp2_with (first|(go_at_call 82;(with_reducible refine (zJ.calls k a0 a1_0 a1_1 false _ A8.out).mono ?_);rintro e w21 ⟨rfl,hb⟩;have n0_:=z4.mk (zh (g:=gb101) (o:=.cells #[.int .u64 a1_0,.int .u64 a1_1] 37 (0,0)) zz46 hb);have n1_:=z4.mk (zh (g:=gb102) (o:=.cells #[.int .u64 a2_0,.int .u64 a2_1] 37 (0,0)) zz47 hb);have n2_:=z4.mk (zh (g:=gb103) (o:=.cells #[.int .u64 0,.int .u64 0] 37 (0,0)) zz48 hb);have n3_:=z4.mk (z9 zz30 hb);clear BK101;clear BK102;clear BK103;clear HB;have BK101:=n0_;have BK102:=n1_;have BK103:=n2_;have HB:=n3_;clear n0_ n1_ n2_ n3_;(try clear hb);(try clear hb2);(try clear hk);(try clear hi)))
    repeat (go_quiet (first|(go_at_call 82;(with_reducible refine (zJ.calls k a0 a1_0 a1_1 false _ A8.out).mono ?_);rintro e w21 ⟨rfl,hb⟩;have n0_:=z4.mk (zh (g:=gb101) (o:=.cells #[.int .u64 a1_0,.int .u64 a1_1] 37 (0,0)) zz46 hb);have n1_:=z4.mk (zh (g:=gb102) (o:=.cells #[.int .u64 a2_0,.int .u64 a2_1] 37 (0,0)) zz47 hb);have n2_:=z4.mk (zh (g:=gb103) (o:=.cells #[.int .u64 0,.int .u64 0] 37 (0,0)) zz48 hb);have n3_:=z4.mk (z9 zz30 hb);clear BK101;clear BK102;clear BK103;clear HB;have BK101:=n0_;have BK102:=n1_;have BK103:=n2_;have HB:=n3_;clear n0_ n1_ n2_ n3_;(try clear hb);(try clear hb2);(try clear hk);(try clear hi)));try go_wp2_with (first|(go_at_call 82;(with_reducible refine (zJ.calls k a0 a1_0 a1_1 false _ A8.out).mono ?_);rintro e w21 ⟨rfl,hb⟩;have n0_:=z4.mk (zh (g:=gb101) (o:=.cells #[.int .u64 a1_0,.int .u64 a1_1] 37 (0,0)) zz46 hb);have n1_:=z4.mk (zh (g:=gb102) (o:=.cells #[.int .u64 a2_0,.int .u64 a2_1] 37 (0,0)) zz47 hb);have n2_:=z4.mk (zh (g:=gb103) (o:=.cells #[.int .u64 0,.int .u64 0] 37 (0,0)) zz48 hb);have n3_:=z4.mk (z9 zz30 hb);clear BK101;clear BK102;clear BK103;clear HB;have BK101:=n0_;have BK102:=n1_;have BK103:=n2_;have HB:=n3_;clear n0_ n1_ n2_ n3_;(try clear hb);(try clear hb2);(try clear hk);(try clear hi))))
    go_meet
    case rel=>exact ⟨_,(true),zz81,H',⟨by first|omega|exact Nat.le_refl _⟩,⟨by (with_reducible repeat (first|refine z8 ?_ _|refine zb ?_|refine z7 ?_ _));exact BK101.out⟩,⟨by (with_reducible repeat (first|refine z8 ?_ _|refine zb ?_|refine z7 ?_ _));exact BK102.out⟩,⟨by (with_reducible repeat (first|refine z8 ?_ _|refine zb ?_|refine z7 ?_ _));exact BK103.out⟩,⟨by repeat (first|(with_reducible first|exact HB.out|apply zg|apply z6|apply zc|refine zd ?_ GE101.out|refine zd ?_ GE102.out|refine zd ?_ GE103.out)|exact HB.out)⟩⟩
  subst c9
  have H1 : ((zJ.f k a0 a2_0 a2_1).bind fun t105=>(zM.j0 k a0 (!t105) a1_0 a1_1 a2_0 a2_1)) = some (r1,r2):=by rw [if_pos rfl] at H;exact H
  clear H
  have H:=H1
  clear H1
  replace H:=Option.bind_eq_some_iff.mp H
  obtain ⟨t105,A100,H⟩:=H
  replace H : (zM.j0 k a0 (!t105) a1_0 a1_1 a2_0 a2_1) = some (r1,r2):=H
  have A10:=z4.mk A100
  clear A100
  have H':=z4.mk H
  clear H
  have hnb11:=NB101_102.out
  have hnc11:=NB102_101.out
  have hnb12:=NB101_103.out
  have hnc12:=NB103_101.out
  have hcz13_0 : w7.cell? ⟨gb101,0,none⟩ = some (.int .u64 a1_0):=(zf BK101.out 0).trans rfl
  have hcz13_1 : w7.cell? ⟨gb101,1,none⟩ = some (.int .u64 a1_1):=(zf BK101.out 1).trans rfl
  have hfz13_0:=za BK101.out 0
  have hfz13_1:=za BK101.out 1
  go_wp2_with (first|(go_at_call 82;(with_reducible refine (zJ.calls k a0 a1_0 a1_1 true _ A8.out).mono ?_);rintro e w14 ⟨rfl,hb⟩;have n0_:=z4.mk (zh (g:=gb101) (o:=.cells #[.int .u64 a1_0,.int .u64 a1_1] 37 (0,0)) zz46 hb);have n1_:=z4.mk (zh (g:=gb102) (o:=.cells #[.int .u64 a2_0,.int .u64 a2_1] 37 (0,0)) zz47 hb);have n2_:=z4.mk (zh (g:=gb103) (o:=.cells #[.int .u64 0,.int .u64 0] 37 (0,0)) zz48 hb);have n3_:=z4.mk (z9 zz30 hb);clear BK101;clear BK102;clear BK103;clear HB;have BK101:=n0_;have BK102:=n1_;have BK103:=n2_;have HB:=n3_;clear n0_ n1_ n2_ n3_;(try clear hb);(try clear hb2);(try clear hk);(try clear hi);have hnb15:=NB102_103.out;have hnc15:=NB103_102.out;have hcz16_0 : w14.cell? ⟨gb102,0,none⟩ = some (.int .u64 a2_0):=(zf BK102.out 0).trans rfl;have hcz16_1 : w14.cell? ⟨gb102,1,none⟩ = some (.int .u64 a2_1):=(zf BK102.out 1).trans rfl;have hfz16_0:=za BK102.out 0;have hfz16_1:=za BK102.out 1)|(go_at_call 82;(with_reducible refine (zJ.calls k a0 a2_0 a2_1 t105 _ A10.out).mono ?_);rintro e w17 ⟨rfl,hb⟩;have n0_:=z4.mk (zh (g:=gb101) (o:=.cells #[.int .u64 a1_0,.int .u64 a1_1] 37 (0,0)) zz46 hb);have n1_:=z4.mk (zh (g:=gb102) (o:=.cells #[.int .u64 a2_0,.int .u64 a2_1] 37 (0,0)) zz47 hb);have n2_:=z4.mk (zh (g:=gb103) (o:=.cells #[.int .u64 0,.int .u64 0] 37 (0,0)) zz48 hb);have n3_:=z4.mk (z9 zz30 hb);clear BK101;clear BK102;clear BK103;clear HB;have BK101:=n0_;have BK102:=n1_;have BK103:=n2_;have HB:=n3_;clear n0_ n1_ n2_ n3_;(try clear hb);(try clear hb2);(try clear hk);(try clear hi)))
  repeat (go_quiet (first|(go_at_call 82;(with_reducible refine (zJ.calls k a0 a1_0 a1_1 true _ A8.out).mono ?_);rintro e w14 ⟨rfl,hb⟩;have n0_:=z4.mk (zh (g:=gb101) (o:=.cells #[.int .u64 a1_0,.int .u64 a1_1] 37 (0,0)) zz46 hb);have n1_:=z4.mk (zh (g:=gb102) (o:=.cells #[.int .u64 a2_0,.int .u64 a2_1] 37 (0,0)) zz47 hb);have n2_:=z4.mk (zh (g:=gb103) (o:=.cells #[.int .u64 0,.int .u64 0] 37 (0,0)) zz48 hb);have n3_:=z4.mk (z9 zz30 hb);clear BK101;clear BK102;clear BK103;clear HB;have BK101:=n0_;have BK102:=n1_;have BK103:=n2_;have HB:=n3_;clear n0_ n1_ n2_ n3_;(try clear hb);(try clear hb2);(try clear hk);(try clear hi);have hnb15:=NB102_103.out;have hnc15:=NB103_102.out;have hcz16_0 : w14.cell? ⟨gb102,0,none⟩ = some (.int .u64 a2_0):=(zf BK102.out 0).trans rfl;have hcz16_1 : w14.cell? ⟨gb102,1,none⟩ = some (.int .u64 a2_1):=(zf BK102.out 1).trans rfl;have hfz16_0:=za BK102.out 0;have hfz16_1:=za BK102.out 1)|(go_at_call 82;(with_reducible refine (zJ.calls k a0 a2_0 a2_1 t105 _ A10.out).mono ?_);rintro e w17 ⟨rfl,hb⟩;have n0_:=z4.mk (zh (g:=gb101) (o:=.cells #[.int .u64 a1_0,.int .u64 a1_1] 37 (0,0)) zz46 hb);have n1_:=z4.mk (zh (g:=gb102) (o:=.cells #[.int .u64 a2_0,.int .u64 a2_1] 37 (0,0)) zz47 hb);have n2_:=z4.mk (zh (g:=gb103) (o:=.cells #[.int .u64 0,.int .u64 0] 37 (0,0)) zz48 hb);have n3_:=z4.mk (z9 zz30 hb);clear BK101;clear BK102;clear BK103;clear HB;have BK101:=n0_;have BK102:=n1_;have BK103:=n2_;have HB:=n3_;clear n0_ n1_ n2_ n3_;(try clear hb);(try clear hb2);(try clear hk);(try clear hi)));try go_wp2_with (first|(go_at_call 82;(with_reducible refine (zJ.calls k a0 a1_0 a1_1 true _ A8.out).mono ?_);rintro e w14 ⟨rfl,hb⟩;have n0_:=z4.mk (zh (g:=gb101) (o:=.cells #[.int .u64 a1_0,.int .u64 a1_1] 37 (0,0)) zz46 hb);have n1_:=z4.mk (zh (g:=gb102) (o:=.cells #[.int .u64 a2_0,.int .u64 a2_1] 37 (0,0)) zz47 hb);have n2_:=z4.mk (zh (g:=gb103) (o:=.cells #[.int .u64 0,.int .u64 0] 37 (0,0)) zz48 hb);have n3_:=z4.mk (z9 zz30 hb);clear BK101;clear BK102;clear BK103;clear HB;have BK101:=n0_;have BK102:=n1_;have BK103:=n2_;have HB:=n3_;clear n0_ n1_ n2_ n3_;(try clear hb);(try clear hb2);(try clear hk);(try clear hi);have hnb15:=NB102_103.out;have hnc15:=NB103_102.out;have hcz16_0 : w14.cell? ⟨gb102,0,none⟩ = some (.int .u64 a2_0):=(zf BK102.out 0).trans rfl;have hcz16_1 : w14.cell? ⟨gb102,1,none⟩ = some (.int .u64 a2_1):=(zf BK102.out 1).trans rfl;have hfz16_0:=za BK102.out 0;have hfz16_1:=za BK102.out 1)|(go_at_call 82;(with_reducible refine (zJ.calls k a0 a2_0 a2_1 t105 _ A10.out).mono ?_);rintro e w17 ⟨rfl,hb⟩;have n0_:=z4.mk (zh (g:=gb101) (o:=.cells #[.int .u64 a1_0,.int .u64 a1_1] 37 (0,0)) zz46 hb);have n1_:=z4.mk (zh (g:=gb102) (o:=.cells #[.int .u64 a2_0,.int .u64 a2_1] 37 (0,0)) zz47 hb);have n2_:=z4.mk (zh (g:=gb103) (o:=.cells #[.int .u64 0,.int .u64 0] 37 (0,0)) zz48 hb);have n3_:=z4.mk (z9 zz30 hb);clear BK101;clear BK102;clear BK103;clear HB;have BK101:=n0_;have BK102:=n1_;have BK103:=n2_;have HB:=n3_;clear n0_ n1_ n2_ n3_;(try clear hb);(try clear hb2);(try clear hk);(try clear hi))))
  go_meet
  case rel=>exact ⟨_,(!t105),zz81,H',⟨by first|omega|exact Nat.le_refl _⟩,⟨by (with_reducible repeat (first|refine z8 ?_ _|refine zb ?_|refine z7 ?_ _));exact BK101.out⟩,⟨by (with_reducible repeat (first|refine z8 ?_ _|refine zb ?_|refine z7 ?_ _));exact BK102.out⟩,⟨by (with_reducible repeat (first|refine z8 ?_ _|refine zb ?_|refine z7 ?_ _));exact BK103.out⟩,⟨by repeat (first|(with_reducible first|exact HB.out|apply zg|apply z6|apply zc|refine zd ?_ GE101.out|refine zd ?_ GE102.out|refine zd ?_ GE103.out)|exact HB.out)⟩⟩
 case rest =>
  clear HC4
  (try clear c1);(try clear p2);(try clear c8);(try clear c9);(try clear c11);(try clear c12);(try clear c15);(try clear c18);(try clear c19);(try clear hcz13_0);(try clear hcz13_1);(try clear hcz16_0);(try clear hcz16_1);(try clear hcz20_0);(try clear hcz20_1);(try clear hfz13_0);(try clear hfz13_1);(try clear hfz16_0);(try clear hfz16_1);(try clear hfz20_0);(try clear hfz20_1)
  obtain ⟨kq,x10_3,rfl,HA,HJ3,BK101,BK102,BK103,HB⟩:=hcut
  cases kq with
  | zero=>exact absurd HA.out (by simp [zM.j0])
  | succ kj3 =>
   have H:=HA.out
   clear HA
   simp only [zM.j0] at H
   by_cases c22 : x10_3 = true
   · subst c22
     have H1 : (some (0,0)) = some (r1,r2):=by rw [if_pos rfl] at H;exact H
     clear H
     have H:=H1
     clear H1
     simp only [Option.some.injEq,Prod.mk.injEq] at H
     obtain ⟨rfl,rfl⟩:=H
     have hnb23:=NB103_101.out
     have hnc23:=NB101_103.out
     have hnb24:=NB103_102.out
     have hnc24:=NB102_103.out
     have hcz25_0 : wc.cell? ⟨gb103,0,none⟩ = some (.int .u64 0):=(zf BK103.out 0).trans rfl
     have hcz25_1 : wc.cell? ⟨gb103,1,none⟩ = some (.int .u64 0):=(zf BK103.out 1).trans rfl
     have hfz25_0:=za BK103.out 0
     have hfz25_1:=za BK103.out 1
     go_wp2
     repeat (go_quiet (fail);try go_wp2)
     refine bodyPost_ret (results_cell_row rfl _ _ gb103 37 #[.int .u64 0,.int .u64 0] (0,0) _ rfl zz6 Try.underlying37 rfl zz84) rfl ?_
     exact ⟨by first|rfl|(simp [zi,zj] <;> rfl)|(simp [*,zi,zj] <;> rfl),by repeat (first|(with_reducible first|exact HB.out|apply zg|apply z6|apply zc|refine zd ?_ GE101.out|refine zd ?_ GE102.out|refine zd ?_ GE103.out)|exact HB.out)⟩
   replace c22:=Bool.eq_false_iff.mpr c22
   subst c22
   have H1 : (if a0 ≤ 6 then ((zF.f kj3 a0 a1_1 a2_1).bind fun t106=>(some (0,t106))) else ((zF.f kj3 6 a1_0 a2_0).bind fun t107=>((zF.f kj3 6 a1_1 a2_1).bind fun t108=>((zF.f kj3 6 (Go.bits .xor .u64 a1_0 a1_1) (Go.bits .xor .u64 a2_0 a2_1)).bind fun t109=>((z10.f kj3 6 t107).bind fun t110=>(some (Go.bits .xor .u64 (Go.bits .xor .u64 (Go.bits .xor .u64 t109 t107) t108) t110,Go.bits .xor .u64 t108 t107))))))) = some (r1,r2):=by rw [if_neg (show ¬ (false = true) by decide)] at H;exact H
   clear H
   have H:=H1
   clear H1
   by_cases c26 : a0 ≤ 6
   · rw [if_pos c26] at H
     have c26b0 : decide (a0 ≤ 6) = true:=decide_eq_true c26
     clear c26
     replace H:=Option.bind_eq_some_iff.mp H
     obtain ⟨t106,A270,H⟩:=H
     replace H : (some (0,t106)) = some (r1,r2):=H
     have A27:=z4.mk A270
     clear A270
     simp only [Option.some.injEq,Prod.mk.injEq] at H
     obtain ⟨rfl,rfl⟩:=H
     have hnb28:=NB101_102.out
     have hnc28:=NB102_101.out
     have hnb29:=NB101_103.out
     have hnc29:=NB103_101.out
     have hcz30_0 : wc.cell? ⟨gb101,0,none⟩ = some (.int .u64 a1_0):=(zf BK101.out 0).trans rfl
     have hcz30_1 : wc.cell? ⟨gb101,1,none⟩ = some (.int .u64 a1_1):=(zf BK101.out 1).trans rfl
     have hfz30_0:=za BK101.out 0
     have hfz30_1:=za BK101.out 1
     have hnb31:=NB102_103.out
     have hnc31:=NB103_102.out
     have hcz32_0 : wc.cell? ⟨gb102,0,none⟩ = some (.int .u64 a2_0):=(zf BK102.out 0).trans rfl
     have hcz32_1 : wc.cell? ⟨gb102,1,none⟩ = some (.int .u64 a2_1):=(zf BK102.out 1).trans rfl
     have hfz32_0:=za BK102.out 0
     have hfz32_1:=za BK102.out 1
     go_wp2_with (first|(go_at_call 112;(with_reducible refine (zF.calls kj3 a0 a1_1 a2_1 t106 _ A27.out).mono ?_);rintro e w' ⟨rfl,⟨nd,rfl⟩⟩;(try first|exact ⟨rfl,_,World.drewN_drewN _ _ _⟩|exact ⟨rfl,_,Eq.trans (World.drewN_drewN _ _ _) (congrArg (World.drewN _) (Nat.add_assoc _ _ _))⟩);have hcz33_0 : wc.cell? ⟨gb103,0,none⟩ = some (.int .u64 0):=(zf BK103.out 0).trans rfl;have hcz33_1 : wc.cell? ⟨gb103,1,none⟩ = some (.int .u64 0):=(zf BK103.out 1).trans rfl;have hfz33_0:=za BK103.out 0;have hfz33_1:=za BK103.out 1))
     repeat (go_quiet (first|(go_at_call 112;(with_reducible refine (zF.calls kj3 a0 a1_1 a2_1 t106 _ A27.out).mono ?_);rintro e w' ⟨rfl,⟨nd,rfl⟩⟩;(try first|exact ⟨rfl,_,World.drewN_drewN _ _ _⟩|exact ⟨rfl,_,Eq.trans (World.drewN_drewN _ _ _) (congrArg (World.drewN _) (Nat.add_assoc _ _ _))⟩);have hcz33_0 : wc.cell? ⟨gb103,0,none⟩ = some (.int .u64 0):=(zf BK103.out 0).trans rfl;have hcz33_1 : wc.cell? ⟨gb103,1,none⟩ = some (.int .u64 0):=(zf BK103.out 1).trans rfl;have hfz33_0:=za BK103.out 0;have hfz33_1:=za BK103.out 1));try go_wp2_with (first|(go_at_call 112;(with_reducible refine (zF.calls kj3 a0 a1_1 a2_1 t106 _ A27.out).mono ?_);rintro e w' ⟨rfl,⟨nd,rfl⟩⟩;(try first|exact ⟨rfl,_,World.drewN_drewN _ _ _⟩|exact ⟨rfl,_,Eq.trans (World.drewN_drewN _ _ _) (congrArg (World.drewN _) (Nat.add_assoc _ _ _))⟩);have hcz33_0 : wc.cell? ⟨gb103,0,none⟩ = some (.int .u64 0):=(zf BK103.out 0).trans rfl;have hcz33_1 : wc.cell? ⟨gb103,1,none⟩ = some (.int .u64 0):=(zf BK103.out 1).trans rfl;have hfz33_0:=za BK103.out 0;have hfz33_1:=za BK103.out 1)))
     refine bodyPost_ret (results_cell_row rfl _ _ gb103 37 #[.int .u64 0,.int .u64 t106] (0,0) _ rfl zz6 Try.underlying37 rfl zz84) rfl ?_
     exact ⟨by first|rfl|(simp [zi,zj] <;> rfl)|(simp [*,zi,zj] <;> rfl),by repeat (first|(with_reducible first|exact HB.out|apply zg|apply z6|apply zc|refine zd ?_ GE101.out|refine zd ?_ GE102.out|refine zd ?_ GE103.out)|exact HB.out)⟩
   rw [if_neg c26] at H
   have c26b0 : decide (a0 ≤ 6) = false:=decide_eq_false c26
   clear c26
   replace H:=Option.bind_eq_some_iff.mp H
   obtain ⟨t107,A340,H⟩:=H
   replace H : ((zF.f kj3 6 a1_1 a2_1).bind fun t108=>((zF.f kj3 6 (Go.bits .xor .u64 a1_0 a1_1) (Go.bits .xor .u64 a2_0 a2_1)).bind fun t109=>((z10.f kj3 6 t107).bind fun t110=>(some (Go.bits .xor .u64 (Go.bits .xor .u64 (Go.bits .xor .u64 t109 t107) t108) t110,Go.bits .xor .u64 t108 t107))))) = some (r1,r2):=H
   have A34:=z4.mk A340
   clear A340
   replace H:=Option.bind_eq_some_iff.mp H
   obtain ⟨t108,A350,H⟩:=H
   replace H : ((zF.f kj3 6 (Go.bits .xor .u64 a1_0 a1_1) (Go.bits .xor .u64 a2_0 a2_1)).bind fun t109=>((z10.f kj3 6 t107).bind fun t110=>(some (Go.bits .xor .u64 (Go.bits .xor .u64 (Go.bits .xor .u64 t109 t107) t108) t110,Go.bits .xor .u64 t108 t107)))) = some (r1,r2):=H
   have A35:=z4.mk A350
   clear A350
   replace H:=Option.bind_eq_some_iff.mp H
   obtain ⟨t109,A360,H⟩:=H
   replace H : ((z10.f kj3 6 t107).bind fun t110=>(some (Go.bits .xor .u64 (Go.bits .xor .u64 (Go.bits .xor .u64 t109 t107) t108) t110,Go.bits .xor .u64 t108 t107))) = some (r1,r2):=H
   have A36:=z4.mk A360
   clear A360
   replace H:=Option.bind_eq_some_iff.mp H
   obtain ⟨t110,A370,H⟩:=H
   replace H : (some (Go.bits .xor .u64 (Go.bits .xor .u64 (Go.bits .xor .u64 t109 t107) t108) t110,Go.bits .xor .u64 t108 t107)) = some (r1,r2):=H
   have A37:=z4.mk A370
   clear A370
   simp only [Option.some.injEq,Prod.mk.injEq] at H
   obtain ⟨rfl,rfl⟩:=H
   have hnb38:=NB101_102.out
   have hnc38:=NB102_101.out
   have hnb39:=NB101_103.out
   have hnc39:=NB103_101.out
   have hcz40_0 : wc.cell? ⟨gb101,0,none⟩ = some (.int .u64 a1_0):=(zf BK101.out 0).trans rfl
   have hcz40_1 : wc.cell? ⟨gb101,1,none⟩ = some (.int .u64 a1_1):=(zf BK101.out 1).trans rfl
   have hfz40_0:=za BK101.out 0
   have hfz40_1:=za BK101.out 1
   have hnb41:=NB102_103.out
   have hnc41:=NB103_102.out
   have hcz42_0 : wc.cell? ⟨gb102,0,none⟩ = some (.int .u64 a2_0):=(zf BK102.out 0).trans rfl
   have hcz42_1 : wc.cell? ⟨gb102,1,none⟩ = some (.int .u64 a2_1):=(zf BK102.out 1).trans rfl
   have hfz42_0:=za BK102.out 0
   have hfz42_1:=za BK102.out 1
   go_wp2_with (first|(go_at_call 112;(with_reducible refine (zF.calls kj3 6 a1_0 a2_0 t107 _ A34.out).mono ?_);rintro e w' ⟨rfl,⟨nd,rfl⟩⟩;(try first|exact ⟨rfl,_,World.drewN_drewN _ _ _⟩|exact ⟨rfl,_,Eq.trans (World.drewN_drewN _ _ _) (congrArg (World.drewN _) (Nat.add_assoc _ _ _))⟩))|(go_at_call 112;(with_reducible refine (zF.calls kj3 6 a1_1 a2_1 t108 _ A35.out).mono ?_);rintro e w' ⟨rfl,⟨nd,rfl⟩⟩;(try first|exact ⟨rfl,_,World.drewN_drewN _ _ _⟩|exact ⟨rfl,_,Eq.trans (World.drewN_drewN _ _ _) (congrArg (World.drewN _) (Nat.add_assoc _ _ _))⟩))|(go_at_call 112;(with_reducible refine (zF.calls kj3 6 (Go.bits .xor .u64 a1_0 a1_1) (Go.bits .xor .u64 a2_0 a2_1) t109 _ A36.out).mono ?_);rintro e w' ⟨rfl,⟨nd,rfl⟩⟩;(try first|exact ⟨rfl,_,World.drewN_drewN _ _ _⟩|exact ⟨rfl,_,Eq.trans (World.drewN_drewN _ _ _) (congrArg (World.drewN _) (Nat.add_assoc _ _ _))⟩))|(go_at_call 113;(with_reducible refine (z10.calls kj3 6 t107 t110 _ A37.out).mono ?_);rintro e w' ⟨rfl,⟨nd,rfl⟩⟩;(try first|exact ⟨rfl,_,World.drewN_drewN _ _ _⟩|exact ⟨rfl,_,Eq.trans (World.drewN_drewN _ _ _) (congrArg (World.drewN _) (Nat.add_assoc _ _ _))⟩);have hcz43_0 : wc.cell? ⟨gb103,0,none⟩ = some (.int .u64 0):=(zf BK103.out 0).trans rfl;have hcz43_1 : wc.cell? ⟨gb103,1,none⟩ = some (.int .u64 0):=(zf BK103.out 1).trans rfl;have hfz43_0:=za BK103.out 0;have hfz43_1:=za BK103.out 1))
   repeat (go_quiet (first|(go_at_call 112;(with_reducible refine (zF.calls kj3 6 a1_0 a2_0 t107 _ A34.out).mono ?_);rintro e w' ⟨rfl,⟨nd,rfl⟩⟩;(try first|exact ⟨rfl,_,World.drewN_drewN _ _ _⟩|exact ⟨rfl,_,Eq.trans (World.drewN_drewN _ _ _) (congrArg (World.drewN _) (Nat.add_assoc _ _ _))⟩))|(go_at_call 112;(with_reducible refine (zF.calls kj3 6 a1_1 a2_1 t108 _ A35.out).mono ?_);rintro e w' ⟨rfl,⟨nd,rfl⟩⟩;(try first|exact ⟨rfl,_,World.drewN_drewN _ _ _⟩|exact ⟨rfl,_,Eq.trans (World.drewN_drewN _ _ _) (congrArg (World.drewN _) (Nat.add_assoc _ _ _))⟩))|(go_at_call 112;(with_reducible refine (zF.calls kj3 6 (Go.bits .xor .u64 a1_0 a1_1) (Go.bits .xor .u64 a2_0 a2_1) t109 _ A36.out).mono ?_);rintro e w' ⟨rfl,⟨nd,rfl⟩⟩;(try first|exact ⟨rfl,_,World.drewN_drewN _ _ _⟩|exact ⟨rfl,_,Eq.trans (World.drewN_drewN _ _ _) (congrArg (World.drewN _) (Nat.add_assoc _ _ _))⟩))|(go_at_call 113;(with_reducible refine (z10.calls kj3 6 t107 t110 _ A37.out).mono ?_);rintro e w' ⟨rfl,⟨nd,rfl⟩⟩;(try first|exact ⟨rfl,_,World.drewN_drewN _ _ _⟩|exact ⟨rfl,_,Eq.trans (World.drewN_drewN _ _ _) (congrArg (World.drewN _) (Nat.add_assoc _ _ _))⟩);have hcz43_0 : wc.cell? ⟨gb103,0,none⟩ = some (.int .u64 0):=(zf BK103.out 0).trans rfl;have hcz43_1 : wc.cell? ⟨gb103,1,none⟩ = some (.int .u64 0):=(zf BK103.out 1).trans rfl;have hfz43_0:=za BK103.out 0;have hfz43_1:=za BK103.out 1));try go_wp2_with (first|(go_at_call 112;(with_reducible refine (zF.calls kj3 6 a1_0 a2_0 t107 _ A34.out).mono ?_);rintro e w' ⟨rfl,⟨nd,rfl⟩⟩;(try first|exact ⟨rfl,_,World.drewN_drewN _ _ _⟩|exact ⟨rfl,_,Eq.trans (World.drewN_drewN _ _ _) (congrArg (World.drewN _) (Nat.add_assoc _ _ _))⟩))|(go_at_call 112;(with_reducible refine (zF.calls kj3 6 a1_1 a2_1 t108 _ A35.out).mono ?_);rintro e w' ⟨rfl,⟨nd,rfl⟩⟩;(try first|exact ⟨rfl,_,World.drewN_drewN _ _ _⟩|exact ⟨rfl,_,Eq.trans (World.drewN_drewN _ _ _) (congrArg (World.drewN _) (Nat.add_assoc _ _ _))⟩))|(go_at_call 112;(with_reducible refine (zF.calls kj3 6 (Go.bits .xor .u64 a1_0 a1_1) (Go.bits .xor .u64 a2_0 a2_1) t109 _ A36.out).mono ?_);rintro e w' ⟨rfl,⟨nd,rfl⟩⟩;(try first|exact ⟨rfl,_,World.drewN_drewN _ _ _⟩|exact ⟨rfl,_,Eq.trans (World.drewN_drewN _ _ _) (congrArg (World.drewN _) (Nat.add_assoc _ _ _))⟩))|(go_at_call 113;(with_reducible refine (z10.calls kj3 6 t107 t110 _ A37.out).mono ?_);rintro e w' ⟨rfl,⟨nd,rfl⟩⟩;(try first|exact ⟨rfl,_,World.drewN_drewN _ _ _⟩|exact ⟨rfl,_,Eq.trans (World.drewN_drewN _ _ _) (congrArg (World.drewN _) (Nat.add_assoc _ _ _))⟩);have hcz43_0 : wc.cell? ⟨gb103,0,none⟩ = some (.int .u64 0):=(zf BK103.out 0).trans rfl;have hcz43_1 : wc.cell? ⟨gb103,1,none⟩ = some (.int .u64 0):=(zf BK103.out 1).trans rfl;have hfz43_0:=za BK103.out 0;have hfz43_1:=za BK103.out 1)))
   refine bodyPost_ret (results_cell_row rfl _ _ gb103 37 #[.int .u64 (Go.bits .xor .u64 (Go.bits .xor .u64 (Go.bits .xor .u64 t109 t107) t108) t110),.int .u64 (Go.bits .xor .u64 t108 t107)] (0,0) _ rfl (by (with_reducible repeat (first|refine z8 ?_ _|refine zb ?_|refine z7 ?_ _));refine zX (cs:=#[.int .u64 (Go.bits .xor .u64 (Go.bits .xor .u64 (Go.bits .xor .u64 t109 t107) t108) t110),.int .u64 0]) ?_ 1 _ rfl;(with_reducible repeat (first|refine z8 ?_ _|refine zb ?_|refine z7 ?_ _));refine zX (cs:=#[.int .u64 0,.int .u64 0]) ?_ 0 _ rfl;(with_reducible repeat (first|refine z8 ?_ _|refine zb ?_|refine z7 ?_ _));exact BK103.out) Try.underlying37 rfl zz84) rfl ?_
   exact ⟨by first|rfl|(simp [zi,zj] <;> rfl)|(simp [*,zi,zj] <;> rfl),by repeat (first|(with_reducible first|exact HB.out|apply zg|apply z6|apply zc|refine zd ?_ GE101.out|refine zd ?_ GE102.out|refine zd ?_ GE103.out)|exact HB.out)⟩
end Go.Proofs.Ytklkmflhnljbdaa.P
namespace Go.Proofs.Ytklkmflhnljbdaa.P
open Go.RowKit Go.Proofs.YtklkmflhnljbdaaW.PrintWords Go.Proofs.YtklkmflhnljbdaaW.PrintLast Go.Proofs.YtklkmflhnljbdaaW.PrintMore
attribute [local go_sem] z17 z19 z1m z1n zU zV z18 z1a   -- for this text's walks alone
set_option linter.unusedVariables false
set_option linter.unusedSimpArgs false
set_option maxHeartbeats 800000 in
set_option maxRecDepth 100000 in
theorem z1w.clo (k : Nat) (a0 : Int) (x : S37) (g : Nat) (r : Bool) (w : World) (hg : w.heap[g]? = some (.cells #[.int .i64 a0] 3 (0,0))) (h : zJ.f k a0 x.f0 x.f1 = some r) :
 Calls Try.prog 116 #[.agg #[.int .u64 x.f0,.int .u64 x.f1],.pointer (some ⟨g,0,none⟩)] w fun e w'=>e = .returned (.bool (!r)) ∧ Below w.heap.size w w':=by
 have hu37:=Try.underlying37
 have HB:=z4.mk (Below.refl w.heap.size w)
 have HG:=z4.mk hg
 have A8:=z4.mk h
 clear hg h
 go_enter Try.func116,Try.ntmps116
 go_wp2_with (first
  | ((with_reducible refine zr (N:=2) rfl ?_);refine zy ?hg (N:=2) ?hd (cs:=#[.int .u64 x.f0,.int .u64 x.f1]) (t:=37) ?hr ?_;(case hd=>rfl);(case hg=>rfl);(case hr=>first|(go_simp;done)|(go_simp;rfl));intro gb hgb w1_ hbox hb;have n0_:=z4.mk (z9 HB.out hb);have hG1:=zh (g:=g) (o:=.cells #[.int .i64 a0] 3 (0,0)) HG.out hb;have hc0 : w1_.cell? ⟨g,0,none⟩ = some (.int .i64 a0):=(zf hG1 0).trans rfl;have hcx0 : w1_.cell? ⟨gb,0,none⟩ = some (.int .u64 x.f0):=(zf hbox 0).trans rfl;have hcx1 : w1_.cell? ⟨gb,1,none⟩ = some (.int .u64 x.f1):=(zf hbox 1).trans rfl;clear HB hG1 hbox hb hgb;have HB:=n0_;clear n0_)
  | ((with_reducible refine zl (f:=82) rfl ?_);refine goesL_ (some 6) rfl rfl Try.func82 zz84 rfl #[.int .i64 a0,.agg #[.int .u64 x.f0,.int .u64 x.f1]] rfl zz79 ?_;(with_reducible refine (zJ.calls k a0 x.f0 x.f1 r _ A8.out).mono ?_);rintro e w2_ ⟨rfl,hb2⟩;refine ⟨_,rfl,?_⟩;have n0_:=z4.mk (z9 HB.out hb2);clear HB hb2;have HB:=n0_;clear n0_))
 go_ret
 exact ⟨rfl,HB.out⟩
def z1w.all (k : Nat) (a0 : Int) : List S37 → Option Bool
 | []=>some true
 | x :: xs=>(zJ.f k a0 x.f0 x.f1).bind fun b=>if b = true then z1w.all k a0 xs else some false
theorem z1w.z2w (a0 : Int) : ∀ (l : List S37) (k : Nat),LeO (z1w.all k a0 l) (z1w.all (k + 1) a0 l)
 | [],k=>LeO.refl _
 | x :: xs,k=>LeO.bind (zJ.mono a0 x.f0 x.f1 k) (fun b=>LeO.ite (z1w.z2w a0 xs k) (LeO.refl _))
theorem z1w.z3k (k : Nat) (a0 : Int) (l : List S37) (i : Nat) (h : i < l.length) : z1w.all k a0 (l.drop i) = (zJ.f k a0 (rd_T37 l (i : Int)).f0 (rd_T37 l (i : Int)).f1).bind fun b=>if b = true then z1w.all k a0 (l.drop (i + 1)) else some false:=by
 rw [List.drop_eq_getElem_cons h]
 have e : rd_T37 l (i : Int) = l[i]:=by unfold rd_T37;rw [Int.toNat_natCast,List.getD_eq_getElem?_getD,List.getElem?_eq_getElem h];rfl
 rw [e];rfl
set_option maxHeartbeats 800000 in
set_option maxRecDepth 100000 in
theorem z1w.idx (k : Nat) (a0 : Int) (A_ : Option Addr) (c : Nat) (l : List S37) (g : Nat) (r : Bool) (w : World) (hr : Kd.C k37 w A_ l.length l) (hg : w.heap[g]? = some (.cells #[.int .i64 a0] 3 (0,0))) (h : z1w.all k a0 l = some r) :
 Calls Try.prog 115 #[.slice A_ l.length c,.func (.func 116) #[] #[.pointer (some ⟨g,0,none⟩)]] w fun e w'=>(∃ i : Int,e = .returned (.int .i64 i) ∧ decide (i ≥ 0) = !r) ∧ Below w.heap.size w w':=by
 have hu37:=Try.underlying37
 have HB:=z4.mk (Below.refl w.heap.size w)
 have HG:=z4.mk hg
 have HR:=z4.mk hr
 have HA:=z4.mk h
 have HM:=z4.mk (Kd.C_max hr)
 clear hg h hr
 go_enter Try.func115,Try.ntmps115
 go_wp2
 go_loopg [8] l.length (fun kq v8 w'=>∃ (i : Nat),v8 = .int .i64 i ∧ z4 (i + kq = l.length) ∧ z4 (z1w.all k a0 (l.drop i) = some r) ∧ z4 (w'.heap[g]? = some (.cells #[.int .i64 a0] 3 (0,0))) ∧ z4 (Below w.heap.size w w'))
 case atStart=>exact ⟨0,rfl,⟨by omega⟩,HA,HG,HB⟩
 case round =>
  obtain ⟨i,rfl,HK,HAi,HGi,HBi⟩:=hrel
  clear HG HB HA
  by_cases hlt : i < l.length
  rotate_left
  · have p0 : decide (i < l.length) = false:=decide_eq_false hlt
    have p1 : decide ((i : Int) < (l.length : Int)) = false:=decide_eq_false zz86
    have hr : r = true:=by
     have h1:=HAi.out
     rw [List.drop_eq_nil_of_le zz86] at h1
     exact (Option.some.inj h1).symm
    clear hlt HAi
    subst hr
    go_wp2
    go_ret
    exact ⟨⟨-1,rfl,by decide⟩,HBi.out⟩
  have hd:=z1w.z3k k a0 l i hlt
  have e1:=HAi.out
  rw [hd] at e1
  obtain ⟨b,hb,e2⟩:=Option.bind_eq_some_iff.mp e1
  clear e1 hd
  have HE:=z4.mk e2
  have HF:=z4.mk hb
  clear e2 hb
  obtain ⟨ad,e205,hx0,hx1⟩:=z1Y HR.out (i : Int) zz86 zz86
  cases e205
  rw [Int.toNat_natCast] at hx0 hx1
  replace hx0:=(HBi.out.cell (World.block_lt_of_cell? w _ hx0)).trans hx0
  replace hx1:=(HBi.out.cell (World.block_lt_of_cell? w _ hx1)).trans hx1
  have p0 : decide (i < l.length) = true:=decide_eq_true hlt
  have p1 : decide ((i : Int) < (l.length : Int)) = true:=decide_eq_true zz86
  have p2 : (0 ≤ (i : Int)) = True:=eq_true zz86
  have p3 : ((i : Int) < (l.length : Int)) = True:=eq_true zz86
  clear hlt
  go_wp2_with fail
  refine (z1w.clo k a0 (rd_T37 l (i : Int)) g b _ HGi.out HF.out).mono ?_
  rintro e w1 ⟨rfl,hb1⟩
  have n0_:=z4.mk (z9 HBi.out hb1)
  have n1_:=z4.mk (zh (g:=g) (o:=.cells #[.int .i64 a0] 3 (0,0)) HGi.out hb1)
  clear HBi HGi hb1 hx0 hx1
  cases b with
  | true =>
   rw [if_pos rfl] at HE
   simp only [Bool.not_true]
   go_wp2
   have hi : wrap64 ((i : Int) + 1) = ((i + 1 : Nat) : Int):=by
    have:=HM.out;have:=HK.out;have h9:=of_decide_eq_true p0;unfold wrap64;omega
   go_roundg (l.length - i - 1)
   case measure=>have:=HK.out;have h9:=of_decide_eq_true p0;omega
   case rel=>exact ⟨i + 1,congrArg (Value.int .i64) hi,⟨by have:=HK.out;have h9:=of_decide_eq_true p0;omega⟩,HE,n1_,n0_⟩
  | false =>
   have hr : r = false:=by
    have:=HE.out
    simp at this
    exact this
   subst hr
   simp only [Bool.not_false]
   go_wp2
   go_ret
   exact ⟨⟨(i : Int),rfl,by simp⟩,n0_.out⟩
set_option maxHeartbeats 800000 in
set_option maxRecDepth 100000 in
theorem z1w.cont (k : Nat) (a0 : Int) (A_ : Option Addr) (c : Nat) (l : List S37) (g : Nat) (r : Bool) (w : World) (hr : Kd.C k37 w A_ l.length l) (hg : w.heap[g]? = some (.cells #[.int .i64 a0] 3 (0,0))) (h : z1w.all k a0 l = some r) :
 Calls Try.prog 90 #[.slice A_ l.length c,.func (.func 116) #[] #[.pointer (some ⟨g,0,none⟩)]] w fun e w'=>e = .returned (.bool (!r)) ∧ Below w.heap.size w w':=by
 have HB:=z4.mk (Below.refl w.heap.size w)
 have HG:=z4.mk hg
 have HR:=z4.mk hr
 have HA:=z4.mk h
 clear hg h hr
 go_enter Try.func90,Try.ntmps90
 go_wp2_with fail
 refine (z1w.idx k a0 A_ c l g r _ HR.out HG.out HA.out).mono ?_
 rintro e w1 ⟨⟨i,rfl,hi⟩,hb1⟩
 have hb:=z4.mk hb1
 have hj:=z4.mk hi
 clear hb1 hi
 go_wp2
 go_ret
 exact ⟨by rw [← hj.out];rfl,hb.out⟩
def z1w.f (k : Nat) (a0 : Int) (l1 : List S37) : Option Bool:=z1w.all k a0 l1
theorem z1w.mono : ∀ a0 a1 k,LeO (z1w.f k a0 a1) (z1w.f (k + 1) a0 a1):=fun a0 l k=>z1w.z2w a0 l k
set_option maxHeartbeats 800000 in
set_option maxRecDepth 100000 in
theorem z1w.calls (k : Nat) (a0 : Int) (A1 : Option Addr) (c1 : Nat) (l1 : List S37) (r : Bool) (w : World) (hr1 : Kd.C k37 w A1 l1.length l1) (hc1 : l1.length ≤ c1) (h : z1w.f k a0 l1 = some r) :
 Calls Try.prog 92 #[.int .i64 a0,.slice A1 l1.length c1] w fun e w'=>e = .returned (.bool r) ∧ Below w.heap.size w w':=by
 have hmf : ∀ (fn : Fn) (first cap : Array Value) (w : World),(Instr.makeFunc fn first cap).run Try.prog w = .ok (.func fn first cap) w:=fun _ _ _ _=>rfl
 have HB:=z4.mk (Below.refl w.heap.size w)
 have HR:=z4.mk hr1
 have HA:=z4.mk (show z1w.all k a0 l1 = some r from h)
 clear h hr1
 go_enter Try.func92,Try.ntmps92
 go_wp2_with (first
  | ((with_reducible refine zr (N:=2) rfl ?_);refine zy ?hg (N:=2) ?hd (cs:=#[.int .i64 a0]) (t:=3) ?hr ?_;(case hd=>rfl);(case hg=>rfl);(case hr=>first|(go_simp;done)|(go_simp;rfl));intro gb hgb w1_ hbox hb;have n0_:=z4.mk (z9 HB.out hb);have n1_:=z4.mk hbox;have n2_:=z4.mk (Kd.z1s HR.out hb);clear HB HR hbox hb hgb;have HB:=n0_;have HG:=n1_;have HR:=n2_;clear n0_ n1_ n2_)
  | ((with_reducible refine zl (f:=90) rfl ?_);refine goesL_ (some 7) rfl rfl Try.func90 zz84 rfl #[.slice A1 l1.length c1,.func (.func 116) #[] #[.pointer (some ⟨gb,0,none⟩)]] rfl zz79 ?_;(with_reducible refine (z1w.cont k a0 _ _ l1 gb r _ HR.out HG.out HA.out).mono ?_);rintro e w2_ ⟨rfl,hb2⟩;refine ⟨_,rfl,?_⟩;have n0_:=z4.mk (z9 HB.out hb2);clear HB hb2;have HB:=n0_;clear n0_))
 go_ret
 exact ⟨by simp,HB.out⟩
end Go.Proofs.Ytklkmflhnljbdaa.P
namespace Go.Proofs.Ytklkmflhnljbdaa.P
open Go.RowKit Go.Proofs.YtklkmflhnljbdaaW.PrintWords Go.Proofs.YtklkmflhnljbdaaW.PrintLast Go.Proofs.YtklkmflhnljbdaaW.PrintMore
attribute [local go_sem] z17 z19 z1m z1n zU zV z18 z1a   -- for this text's walks alone
set_option linter.unusedVariables false
set_option linter.unusedSimpArgs false
def z1Z.f  : Option (Int × Int):=some (0,1)
set_option maxHeartbeats 8000000 in
set_option maxRecDepth 100000 in
theorem z1Z.calls  (r1 : Int) (r2 : Int) (w : World) (h : z1Z.f  = some (r1,r2)) :
 Calls Try.prog 93 #[] w fun e w'=>e = .returned (.agg #[.int .u64 r1,.int .u64 r2]) ∧ Below w.heap.size w w':=by
 have hu37:=Try.underlying37
 have HB:=z4.mk (Below.refl w.heap.size w)
 have H : (some (0,1)) = some (r1,r2):=h
 clear h
 simp only [Option.some.injEq,Prod.mk.injEq] at H
 obtain ⟨rfl,rfl⟩:=H
 go_enter Try.func93,Try.ntmps93
 go_wp2_with (first|((with_reducible refine zr (N:=0) rfl ?_);refine zy ?hg (N:=0) ?hd (cs:=#[.int .u64 0,.int .u64 0]) (t:=37) ?hr ?_;(case hd=>rfl);(case hg=>rfl);(case hr=>first|(go_simp;done)|(go_simp;rfl));intro gb101 hg w1 hbox hb;have n0_:=z4.mk (z9 zz45 hb);have n1_:=z4.mk (hbox);have n2_:=z4.mk ((by rw [hg];exact (ze zz45) : w.heap.size ≤ gb101));have n3_:=z4.mk ((by rw [hg];exact (ze zz45) : w.heap.size ≤ gb101));clear HB;have HB:=n0_;have BK101:=n1_;have GW101:=n2_;have GE101:=n3_;clear n0_ n1_ n2_ n3_;clear hb hbox hg;have hcz2_0 : w1.cell? ⟨gb101,0,none⟩ = some (.int .u64 0):=(zf BK101.out 0).trans rfl;have hcz2_1 : w1.cell? ⟨gb101,1,none⟩ = some (.int .u64 0):=(zf BK101.out 1).trans rfl;have hfz2_0:=za BK101.out 0;have hfz2_1:=za BK101.out 1))
 refine bodyPost_ret (results_cell_row rfl _ _ gb101 37 #[.int .u64 0,.int .u64 1] (0,0) _ rfl zz7 Try.underlying37 rfl zz84) rfl ?_
 exact ⟨by first|rfl|(simp [zi,zj] <;> rfl)|(simp [*,zi,zj] <;> rfl),by repeat (first|(with_reducible first|exact HB.out|apply zg|apply z6|apply zc|refine zd ?_ GE101.out)|exact HB.out)⟩
end Go.Proofs.Ytklkmflhnljbdaa.P
namespace Go.Proofs.Ytklkmflhnljbdaa.P
open Go.RowKit Go.Proofs.YtklkmflhnljbdaaW.PrintWords Go.Proofs.YtklkmflhnljbdaaW.PrintLast Go.Proofs.YtklkmflhnljbdaaW.PrintMore
attribute [local go_sem] z17 z19 z1m z1n zU zV z18 z1a   -- for this text's walks alone
set_option linter.unusedVariables false
set_option linter.unusedSimpArgs false
mutual
def zm.j0 : Nat → Int → List (S37) → Bool → Option ((List (S37)))
 | 0,_,_,_=>none
 | k + 1,x0,x1,x24=>if x24 = true then (some ([] : List (S37))) else ((z1Z.f).bind fun bt103=>(zm.l0 k x0 (([(⟨bt103.1,bt103.2⟩ : S37)] : List (S37))) x1 (x1.length : Int) 0))
def zm.l0 : Nat → Int → List (S37) → List (S37) → Int → Int → Option ((List (S37)))
 | 0,_,_,_,_,_=>none
 | k + 1,x0,x5,x27,x28,x29=>if x29 < x28 then (if 0 ≤ x29 then (if x29 < (x27.length : Int) then (if 0 ≤ (x5.length : Int) then (if ((x5.length : Int) : Int).toNat ≤ 17592186044416 then (zm.l1 k x0 x5 (List.replicate ((x5.length : Int) : Int).toNat z37) x27 x28 x29 (x5.length : Int) 0 ((rd_T37 x27 x29).f0) ((rd_T37 x27 x29).f1)) else (none)) else (none)) else (none)) else (none)) else (some x5)
def zm.l1 : Nat → Int → List (S37) → List (S37) → List (S37) → Int → Int → Int → Int → Int → Int → Option ((List (S37)))
 | 0,_,_,_,_,_,_,_,_,_,_=>none
 | k + 1,x0,x5,x8,x27,x28,x29,x37,x38,x110000,x110001=>if x38 < x37 then (if 0 ≤ x38 then (if x38 < (x5.length : Int) then ((zM.f k x0 ((rd_T37 x5 x38).f0) ((rd_T37 x5 x38).f1) x110000 x110001).bind fun bt115=>(if x38 < (x8.length : Int) then ((some (x8.set (x38 : Int).toNat (⟨bt115.1,bt115.2⟩ : S37) : List (S37))).bind fun y117=>((z1t.f ((rd_T37 x5 x38).f0) ((rd_T37 x5 x38).f1) ((rd_T37 y117 x38).f0) ((rd_T37 y117 x38).f1)).bind fun bt119=>(zm.l1 k x0 (x5.set (x38 : Int).toNat (⟨bt119.1,bt119.2⟩ : S37)) y117 x27 x28 x29 x37 (wrap64 (x38 + 1)) x110000 x110001))) else (none))) else (none)) else (none)) else (if x5.length + x8.length < 8796093022208 then (zm.l0 k x0 (x5 ++ x8) x27 x28 (wrap64 (x29 + 1))) else (none))
end
def zm.f (k : Nat) (a0 : Int) (l1 : List (S37)) : Option ((List (S37))):=(zC.f k a0).bind fun t101=>(if t101 = 0 then (zm.j0 k a0 l1 true) else (if (l1.length : Int) > 16 then (zm.j0 k a0 l1 true) else ((z1w.f k a0 l1).bind fun t102=>(zm.j0 k a0 l1 (!t102)))))
theorem zm.z1b : ∀ k,(∀ y0 y1 y2,LeO (zm.j0 k y0 y1 y2) (zm.j0 (k + 1) y0 y1 y2)) ∧ (∀ y0 y1 y2 y3 y4,LeO (zm.l0 k y0 y1 y2 y3 y4) (zm.l0 (k + 1) y0 y1 y2 y3 y4)) ∧ (∀ y0 y1 y2 y3 y4 y5 y6 y7 y8 y9,LeO (zm.l1 k y0 y1 y2 y3 y4 y5 y6 y7 y8 y9) (zm.l1 (k + 1) y0 y1 y2 y3 y4 y5 y6 y7 y8 y9))
 | 0=>⟨fun _ _ _ r h=>by simp [zm.j0] at h,fun _ _ _ _ _ r h=>by simp [zm.l0] at h,fun _ _ _ _ _ _ _ _ _ _ r h=>by simp [zm.l1] at h⟩
 | k + 1=>by
  obtain ⟨ih0,ih1,ih2⟩:=zm.z1b k
  refine ⟨?_,?_,?_⟩
  · intro y0 y1 y2
    unfold zm.j0
    repeat' first
    | (with_reducible exact ih0 _ _ _)
    | (with_reducible exact ih1 _ _ _ _ _)
    | (with_reducible exact ih2 _ _ _ _ _ _ _ _ _ _)
    | (with_reducible exact z1w.mono _ _ _)
    | (with_reducible exact zC.mono _ _)
    | (with_reducible exact zM.mono _ _ _ _ _ _)
    | (with_reducible exact LeO.refl _)
    | (with_reducible exact LeO.none _)
    | (with_reducible refine LeO.ite ?_ ?_)
    | (with_reducible refine LeO.bind ?_ (fun _=>?_))
    | exact ih0 _ _ _
    | exact ih1 _ _ _ _ _
    | exact ih2 _ _ _ _ _ _ _ _ _ _
    | exact z1w.mono _ _ _
    | exact zC.mono _ _
    | exact zM.mono _ _ _ _ _ _
    | exact LeO.none _
    | refine LeO.ite ?_ ?_
    | refine LeO.bind ?_ (fun _=>?_)
  · intro y0 y1 y2 y3 y4
    unfold zm.l0
    repeat' first
    | (with_reducible exact ih0 _ _ _)
    | (with_reducible exact ih1 _ _ _ _ _)
    | (with_reducible exact ih2 _ _ _ _ _ _ _ _ _ _)
    | (with_reducible exact z1w.mono _ _ _)
    | (with_reducible exact zC.mono _ _)
    | (with_reducible exact zM.mono _ _ _ _ _ _)
    | (with_reducible exact LeO.refl _)
    | (with_reducible exact LeO.none _)
    | (with_reducible refine LeO.ite ?_ ?_)
    | (with_reducible refine LeO.bind ?_ (fun _=>?_))
    | exact ih0 _ _ _
    | exact ih1 _ _ _ _ _
    | exact ih2 _ _ _ _ _ _ _ _ _ _
    | exact z1w.mono _ _ _
    | exact zC.mono _ _
    | exact zM.mono _ _ _ _ _ _
    | exact LeO.none _
    | refine LeO.ite ?_ ?_
    | refine LeO.bind ?_ (fun _=>?_)
  · intro y0 y1 y2 y3 y4 y5 y6 y7 y8 y9
    unfold zm.l1
    repeat' first
    | (with_reducible exact ih0 _ _ _)
    | (with_reducible exact ih1 _ _ _ _ _)
    | (with_reducible exact ih2 _ _ _ _ _ _ _ _ _ _)
    | (with_reducible exact z1w.mono _ _ _)
    | (with_reducible exact zC.mono _ _)
    | (with_reducible exact zM.mono _ _ _ _ _ _)
    | (with_reducible exact LeO.refl _)
    | (with_reducible exact LeO.none _)
    | (with_reducible refine LeO.ite ?_ ?_)
    | (with_reducible refine LeO.bind ?_ (fun _=>?_))
    | exact ih0 _ _ _
    | exact ih1 _ _ _ _ _
    | exact ih2 _ _ _ _ _ _ _ _ _ _
    | exact z1w.mono _ _ _
    | exact zC.mono _ _
    | exact zM.mono _ _ _ _ _ _
    | exact LeO.none _
    | refine LeO.ite ?_ ?_
    | refine LeO.bind ?_ (fun _=>?_)
theorem zm.mono : ∀ a0 a1 k,LeO (zm.f k a0 a1) (zm.f (k + 1) a0 a1):=by
 intro a0 a1 k
 obtain ⟨ih0,ih1,ih2⟩:=zm.z1b k
 unfold zm.f
 repeat' first
  | (with_reducible exact ih0 _ _ _)
  | (with_reducible exact ih1 _ _ _ _ _)
  | (with_reducible exact ih2 _ _ _ _ _ _ _ _ _ _)
  | (with_reducible exact z1w.mono _ _ _)
  | (with_reducible exact zC.mono _ _)
  | (with_reducible exact zM.mono _ _ _ _ _ _)
  | (with_reducible exact LeO.refl _)
  | (with_reducible exact LeO.none _)
  | (with_reducible refine LeO.ite ?_ ?_)
  | (with_reducible refine LeO.bind ?_ (fun _=>?_))
  | exact ih0 _ _ _
  | exact ih1 _ _ _ _ _
  | exact ih2 _ _ _ _ _ _ _ _ _ _
  | exact z1w.mono _ _ _
  | exact zC.mono _ _
  | exact zM.mono _ _ _ _ _ _
  | exact LeO.none _
  | refine LeO.ite ?_ ?_
  | refine LeO.bind ?_ (fun _=>?_)
def zm.T12 : Bool × List (List Nat × List Nat):=(true,[([],[]),([],[]),([],[]),([],[]),([],[]),([3,4],[3,4]),([5],[5]),([2,6],[2,6]),([0,1,0,1,2,3,4,5,6,7],[0,1]),([8,7,7,0,1,2,3,4,5,6,7],[7,8])])
def zm.B12 : List Nat:=[0,0,0,0,0,24,56,124,255,511]
theorem zm.tab12 : rtab .any (opsOf Try.f59 12) = zm.T12:=by kernel_rfl
theorem zm.bits12 : waitsOk zm.T12.2 zm.B12 = true:=by kernel_rfl
set_option maxHeartbeats 8000000 in
set_option maxRecDepth 100000 in
theorem zm.calls (k : Nat) (a0 : Int) (A1 : Option Addr) (c1 : Nat) (l1 : List (S37)) (r : List (S37)) (w : World) (hr1 : Kd.C k37 w A1 l1.length l1) (hc1 : l1.length ≤ c1) (h : zm.f k a0 l1 = some r) :
 Calls Try.prog 59 #[.int .i64 a0,.slice A1 l1.length c1] w fun e w'=>∃ v0_ : Value,e = .returned (v0_) ∧ Kd.R k37 37 w' w.heap.size (fun _=>True) v0_ r ∧ Below w.heap.size w w':=by
 have hu37:=Try.underlying37
 have HR1:=z4.mk hr1
 have HC1:=z4.mk hc1
 clear hr1 hc1
 have HB:=z4.mk (Below.refl w.heap.size w)
 have H : ((zC.f k a0).bind fun t101=>(if t101 = 0 then (zm.j0 k a0 l1 true) else (if (l1.length : Int) > 16 then (zm.j0 k a0 l1 true) else ((z1w.f k a0 l1).bind fun t102=>(zm.j0 k a0 l1 (!t102)))))) = some r:=h
 clear h
 have HC3:=z4.mk H
 clear H
 go_enter Try.func59,Try.ntmps59
 go_upto_region 1 with (fail)
 go_cut [24] (fun v24 wc=>∃ (kq : Nat) (x24_2 : Bool),v24 = .bool x24_2 ∧ z4 (zm.j0 kq a0 l1 x24_2 = some r) ∧ z4 (kq ≤ k) ∧ z4 (Below w.heap.size w wc))
 case first =>
  have H:=HC3.out
  clear HC3
  replace H:=Option.bind_eq_some_iff.mp H
  obtain ⟨t101,A40,H⟩:=H
  replace H : (if t101 = 0 then (zm.j0 k a0 l1 true) else (if (l1.length : Int) > 16 then (zm.j0 k a0 l1 true) else ((z1w.f k a0 l1).bind fun t102=>(zm.j0 k a0 l1 (!t102))))) = some r:=H
  have A4:=z4.mk A40
  clear A40
  by_cases c5 : t101 = 0
  · rw [if_pos c5] at H
    have c5b0 : (t101 == 0) = true:=beq_iff_eq.mpr c5
    have c5b1 : (t101 != 0) = false:=bne_eq_false_iff_eq.mpr c5
    clear c5
    (first|rw [c5b0]|(simp only [zY,z16];rw [c5b0])|skip)
    have H':=z4.mk H
    clear H
    go_wp2_with (first|((with_reducible refine zl (f:=75) rfl ?_);refine goesL_ (some 12) rfl rfl Try.func75 zz84 rfl #[.int .i64 a0] rfl zz44 ?_;(with_reducible refine (zC.calls k a0 t101 _ A4.out).mono ?_);rintro e w' ⟨rfl,⟨nd,rfl⟩⟩;refine ⟨_,rfl,?_⟩))
    go_meet
    case rel=>exact ⟨_,(true),zz81,H',⟨by first|omega|exact Nat.le_refl _⟩,⟨by repeat (first|(with_reducible first|exact HB.out|apply zg|apply z6|apply zc)|exact HB.out)⟩⟩
  rw [if_neg c5] at H
  have c5b0 : (t101 == 0) = false:=beq_eq_false_iff_ne.mpr c5
  have c5b1 : (t101 != 0) = true:=bne_iff_ne.mpr c5
  (first|rw [c5b0]|(simp only [zY,z16];rw [c5b0])|skip)
  by_cases c6 : (l1.length : Int) > 16
  · rw [if_pos c6] at H
    have c6b0 : decide (16 < (l1.length : Int)) = true:=decide_eq_true c6
    have c6b1 : decide (16 < l1.length) = true:=decide_eq_true zz86
    clear c6
    have H':=z4.mk H
    clear H
    go_wp2_with (first|((with_reducible refine zl (f:=75) rfl ?_);refine goesL_ (some 12) rfl rfl Try.func75 zz84 rfl #[.int .i64 a0] rfl zz44 ?_;(with_reducible refine (zC.calls k a0 t101 _ A4.out).mono ?_);rintro e w' ⟨rfl,⟨nd,rfl⟩⟩;refine ⟨_,rfl,?_⟩))
    go_meet
    case rel=>exact ⟨_,(true),zz81,H',⟨by first|omega|exact Nat.le_refl _⟩,⟨by repeat (first|(with_reducible first|exact HB.out|apply zg|apply z6|apply zc)|exact HB.out)⟩⟩
  rw [if_neg c6] at H
  have c6b0 : decide (16 < (l1.length : Int)) = false:=decide_eq_false c6
  have c6b1 : decide (16 < l1.length) = false:=decide_eq_false zz86
  clear c6
  replace H:=Option.bind_eq_some_iff.mp H
  obtain ⟨t102,A70,H⟩:=H
  replace H : (zm.j0 k a0 l1 (!t102)) = some r:=H
  have A7:=z4.mk A70
  clear A70
  have H':=z4.mk H
  clear H
  go_wp2_with (first|((with_reducible refine zl (f:=75) rfl ?_);refine goesL_ (some 12) rfl rfl Try.func75 zz84 rfl #[.int .i64 a0] rfl zz44 ?_;(with_reducible refine (zC.calls k a0 t101 _ A4.out).mono ?_);rintro e w' ⟨rfl,⟨nd,rfl⟩⟩;refine ⟨_,rfl,?_⟩)|(go_at_call 92;(with_reducible refine (z1w.calls k a0 _ _ l1 t102 _ ?side1 ?side2 A7.out).mono ?_);(case side1=>repeat (first|exact (Kd.z1s HR1.out zz45)|(with_reducible refine Kd.zQ ?_ _)|(with_reducible refine Kd.zR ?_ _)|(with_reducible refine Kd.z1c ?_)));(case side2=>exact HC1.out);rintro e w8 ⟨rfl,hb⟩;have n0_:=z4.mk (z9 zz45 hb);clear HB;have HB:=n0_;clear n0_;(try clear hb);(try clear hb2);(try clear hk);(try clear hi)))
  go_meet
  case rel=>exact ⟨_,(!t102),zz81,H',⟨by first|omega|exact Nat.le_refl _⟩,⟨by repeat (first|(with_reducible first|exact HB.out|apply zg|apply z6|apply zc)|exact HB.out)⟩⟩
 case rest =>
  clear HC3
  (try clear c1);(try clear p2);(try clear c5);(try clear c5b0);(try clear c5b1);(try clear c6);(try clear c6b0);(try clear c6b1);(try clear c7)
  obtain ⟨kq,x24_2,rfl,HA,HJ2,HB⟩:=hcut
  cases kq with
  | zero=>exact absurd HA.out (by simp [zm.j0])
  | succ kj2 =>
   have H:=HA.out
   clear HA
   simp only [zm.j0] at H
   by_cases c9 : x24_2 = true
   · subst c9
     have H1 : (some ([] : List (S37))) = some r:=by rw [if_pos rfl] at H;exact H
     clear H
     have H:=H1
     clear H1
     obtain rfl:=Option.some.inj H
     go_wp2
     go_ret
     exact ⟨_,by first|rfl|(simp [zi,zj] <;> rfl)|(simp [*,zi,zj] <;> rfl),by first|exact Kd.z3e _ _ _ _ _|exact Kd.z3N _ _ _ _ _|exact Kd.z3Q _ _ _ _ _|exact Kd.z3O _ _ _ _ _|exact Kd.z3P _ _ _ _ _,by repeat (first|(with_reducible first|exact HB.out|apply zg|apply z6|apply zc)|exact HB.out)⟩
   replace c9:=Bool.eq_false_iff.mpr c9
   subst c9
   have H1 : ((z1Z.f).bind fun bt103=>(zm.l0 kj2 a0 (([(⟨bt103.1,bt103.2⟩ : S37)] : List (S37))) l1 (l1.length : Int) 0)) = some r:=by rw [if_neg (show ¬ (false = true) by decide)] at H;exact H
   clear H
   have H:=H1
   clear H1
   replace H:=Option.bind_eq_some_iff.mp H
   obtain ⟨⟨t103,t104⟩,A100,H⟩:=H
   replace H : (zm.l0 kj2 a0 (([(⟨t103,t104⟩ : S37)] : List (S37))) l1 (l1.length : Int) 0) = some r:=H
   have A10:=z4.mk A100
   clear A100
   obtain ⟨y105,hy105⟩ : ∃ y_ : List (S37),y_ = (([(⟨t103,t104⟩ : S37)] : List (S37))):=⟨_,rfl⟩
   replace H : (zm.l0 kj2 a0 y105 l1 (l1.length : Int) 0) = some r:=by first|(rw [hy105];with_reducible exact H)|(have H2_:=(Option.bind_some _ _).symm.trans H;rw [hy105];with_reducible exact H2_)|(have H2_:=(Option.bind_some _ _).symm.trans H;with_reducible exact H2_)|with_reducible exact H|(rw [hy105];exact H)|exact H
   have Ny105:=z4.mk hy105
   clear hy105
   have H':=z4.mk H
   clear H
   go_wp2_with (first|((with_reducible refine zl (f:=93) rfl ?_);refine goesL_ (some 25) rfl rfl Try.func93 zz84 rfl #[] rfl zz44 ?_;(with_reducible refine (z1Z.calls  t103 t104 _ A10.out).mono ?_);rintro e w11 ⟨rfl,hb⟩;refine ⟨_,rfl,?_⟩;have n0_:=z4.mk (z9 zz45 hb);clear HB;have HB:=n0_;clear n0_;(try clear hb);(try clear hb2);(try clear hk);(try clear hi))|((with_reducible refine zr (N:=26) rfl ?_);(try (refine zZ zz88 ?_;dsimp only));refine Kd.z2b k37 _ 37 ?hg (N:=26) ?hd (xs:=([(⟨t103,t104⟩ : S37)] : List (S37))) (inner:=[.int .u64 t103,.int .u64 t104]) (ok:=fun _=>True) (okp:=fun _=>True) ?hr ?hp (fun _ hk=>hk) trivial (Below.refl _ _) (Nat.le_refl _) zz87 ?_;(case hd=>rfl);(case hg=>rfl);(case hr=>first|(go_simp;done)|(go_simp;rfl));(case hp=>exact (Reps.c2 (show Kd.M k37 _ _ _ (⟨t103,t104⟩ : S37) [.int .u64 t103,.int .u64 t104] from (z1K _ _ _ (⟨t103,t104⟩ : S37) )) (Reps.none _ _)));intro v106 w12 ho13 hb hg_ hnew_;clear hg_ hnew_;(first|rw [← Ny105.out] at ho13|(simp only [Int.reduceToNat] at ho13;rw [← Ny105.out] at ho13));have n0_:=z4.mk (Kd.z1e ho13 (ze zz45));have n1_:=z4.mk (z9 zz45 hb);clear HB;have HO107:=n0_;have HB:=n1_;clear n0_ n1_;clear hb ho13))
   go_loopg [5,29] kj2 (fun kq v5 v29 w'=>∃ (x5_2 : List (S37)) (x29_2 : Int),v29 = .int .i64 x29_2 ∧ z4 (zm.l0 kq a0 x5_2 l1 (l1.length : Int) x29_2 = some r) ∧ z4 (kq ≤ kj2) ∧ z4 (Kd.R k37 37 w' w.heap.size (fun _=>True) v5 x5_2) ∧ z4 (Below w.heap.size w w'))
   case atStart=>exact ⟨(y105),(0),zz81,H',⟨Nat.le_refl _⟩,⟨by (with_reducible repeat (first|apply Kd.zH|apply Kd.zI|apply Kd.zS));exact HO107.out⟩,⟨by repeat (first|(with_reducible first|exact HB.out|apply zg|apply z6|apply zc)|exact HB.out)⟩⟩
   case round =>
    clear H'
    (try clear c1);(try clear c2);(try clear p2);(try clear c5);(try clear c5b0);(try clear c5b1);(try clear c6);(try clear c6b0);(try clear c6b1);(try clear c7);(try clear c9);(try clear p2)
    obtain ⟨x5_2,x29_2,rfl,HA,HK2,HO_5,HB⟩:=hrel
    cases gk with
    | zero=>exact absurd HA.out (by simp [zm.l0])
    | succ k2 =>
     have H:=HA.out
     clear HA
     simp only [zm.l0] at H
     by_cases c14 : x29_2 < (l1.length : Int)
     rotate_left
     · rw [if_neg c14] at H
       have c14b0 : decide (x29_2 < (l1.length : Int)) = false:=decide_eq_false c14
       clear c14
       obtain rfl:=Option.some.inj H
       go_wp2
       go_ret
       exact ⟨_,by first|rfl|(simp [zi,zj] <;> rfl)|(simp [*,zi,zj] <;> rfl),by (with_reducible repeat (first|apply Kd.zH|apply Kd.zI|apply Kd.zS));exact HO_5.out,by repeat (first|(with_reducible first|exact HB.out|apply zg|apply z6|apply zc)|exact HB.out)⟩
     rw [if_pos c14] at H
     have c14b0 : decide (x29_2 < (l1.length : Int)) = true:=decide_eq_true c14
     clear c14
     by_cases c15 : 0 ≤ x29_2
     rotate_left
     · rw [if_neg c15] at H
       exact absurd H zz87
     rw [if_pos c15] at H
     have c15b0 : decide (0 ≤ x29_2) = true:=decide_eq_true c15
     clear c15
     by_cases c16 : x29_2 < (l1.length : Int)
     rotate_left
     · rw [if_neg c16] at H
       exact absurd H zz87
     rw [if_pos c16] at H
     have c16b0 : decide (x29_2 < (l1.length : Int)) = true:=decide_eq_true c16
     clear c16
     by_cases c17 : 0 ≤ (x5_2.length : Int)
     rotate_left
     · rw [if_neg c17] at H
       exact absurd H zz87
     rw [if_pos c17] at H
     have c17b0:=eq_true c17
     have c17b1 : decide (0 ≤ (x5_2.length : Int)) = true:=decide_eq_true c17
     clear c17
     by_cases c18 : ((x5_2.length : Int) : Int).toNat ≤ 17592186044416
     rotate_left
     · rw [if_neg c18] at H
       exact absurd H zz87
     rw [if_pos c18] at H
     have c18b0:=eq_true c18
     have c18b1 : decide (((x5_2.length : Int) : Int).toNat ≤ 17592186044416) = true:=decide_eq_true c18
     clear c18
     obtain ⟨y110,hy110⟩ : ∃ y_ : List (S37),y_ = (List.replicate ((x5_2.length : Int) : Int).toNat z37):=⟨_,rfl⟩
     replace H : (zm.l1 k2 a0 x5_2 y110 l1 (l1.length : Int) x29_2 (x5_2.length : Int) 0 ((rd_T37 l1 x29_2).f0) ((rd_T37 l1 x29_2).f1)) = some r:=by first|(rw [hy110];with_reducible exact H)|(have H2_:=(Option.bind_some _ _).symm.trans H;rw [hy110];with_reducible exact H2_)|(have H2_:=(Option.bind_some _ _).symm.trans H;with_reducible exact H2_)|with_reducible exact H|(rw [hy110];exact H)|exact H
     have Ny110:=z4.mk hy110
     clear hy110
     have H':=z4.mk H
     clear H
     have p108 : 0 ≤ (x29_2 : Int):=of_decide_eq_true zz80
     have q108 : x29_2 < (l1.length : Int):=of_decide_eq_true zz80
     obtain ⟨ad108,e108,hx108_0,hx108_1⟩:=z1Y HR1.out x29_2 p108 q108
     cases e108
     replace hx108_0:=(HB.out.cell (World.block_lt_of_cell? w _ hx108_0)).trans hx108_0
     replace hx108_1:=(HB.out.cell (World.block_lt_of_cell? w _ hx108_1)).trans hx108_1
     replace p108:=eq_true p108
     replace q108:=eq_true q108
     go_wp2_with (first|((with_reducible refine zr (N:=7) rfl ?_);(try (refine zZ zz88 ?_;dsimp only));refine zy ?hg (N:=7) ?hd (cs:=#[.int .u64 0,.int .u64 0]) (t:=37) ?hr ?_;(case hd=>rfl);(case hg=>rfl);(case hr=>first|(go_simp;done)|(go_simp;rfl));intro gb109 hg w19 hbox hb;have n0_:=z4.mk (Kd.zx (Kd.z1r zz65 gb109 (Nat.le_of_eq hg.symm)) hb);have n1_:=z4.mk (z9 zz45 hb);have n2_:=z4.mk (hbox);have n3_:=z4.mk ((by rw [hg];exact (ze zz45) : w.heap.size ≤ gb109));have n4_:=z4.mk ((by rw [hg];exact (ze zz45) : w.heap.size ≤ gb109));clear HO_5;clear HB;have HO_5:=n0_;have HB:=n1_;have BK109:=n2_;have GW109:=n3_;have GE109:=n4_;clear n0_ n1_ n2_ n3_ n4_;clear hb hbox hg;have hcz20_0 : w19.cell? ⟨gb109,0,none⟩ = some (.int .u64 0):=(zf BK109.out 0).trans rfl;have hcz20_1 : w19.cell? ⟨gb109,1,none⟩ = some (.int .u64 0):=(zf BK109.out 1).trans rfl;have hfz20_0:=za BK109.out 0;have hfz20_1:=za BK109.out 1;obtain ⟨Ao21,co21,eo21⟩:=Kd.z1j HO_5.out;subst eo21)|((with_reducible refine zr (N:=35) rfl ?_);(try (refine zZ zz88 ?_;dsimp only));refine Kd.z5W k37 _ 37 rfl (N:=35) rfl 23 _ _ rfl (x5_2.length : Int) rfl rfl Try.underlying23 (.agg #[(.int .u64 0),(.int .u64 0)]) 16 info37 rfl zz85 zz86 z37 (ok:=fun _=>True) (okp:=fun _=>True) (z1K _ _ _ z37 ) (fun _ hk=>hk) trivial (of_decide_eq_true zz80) (Nat.le_trans (Nat.mul_le_mul_right _ (of_decide_eq_true zz80 : (x5_2.length : Int).toNat ≤ 17592186044416)) zz86) (Below.refl _ _) (Nat.le_refl _) ?_;intro v111 w22 ho23 hb hg_ hnew_;clear hg_ hnew_;(first|rw [← Ny110.out] at ho23|(simp only [Int.reduceToNat] at ho23;rw [← Ny110.out] at ho23));have n0_:=z4.mk (Kd.z1d zz16 (Kd.z1y ho23) hb);have n1_:=z4.mk (Kd.z1e (Kd.z2c (Kd.z1z ho23 (Kd.R_lt zz16)) (g:=gb109) (o:=.cells #[.int .u64 ((rd_T37 l1 x29_2).f0),.int .u64 ((rd_T37 l1 x29_2).f1)] 37 (0,0)) zz1) (ze zz41));have n2_:=z4.mk (zh (g:=gb109) (o:=.cells #[.int .u64 ((rd_T37 l1 x29_2).f0),.int .u64 ((rd_T37 l1 x29_2).f1)] 37 (0,0)) zz1 hb);have n3_:=z4.mk (z9 zz41 hb);clear HO_5;clear BK109;clear HB;have HO_5:=n0_;have HO112:=n1_;have BK109:=n2_;have HB:=n3_;clear n0_ n1_ n2_ n3_;clear hb ho23))
     go_loopg [38] k2 (fun kq v38 w'=>∃ (x5_3 : List (S37)) (x8_3 : List (S37)) (x38_3 : Int) (x110000_3 : Int) (x110001_3 : Int),v38 = .int .i64 x38_3 ∧ z4 (zm.l1 kq a0 x5_3 x8_3 l1 (l1.length : Int) x29_2 (x5_2.length : Int) x38_3 x110000_3 x110001_3 = some r) ∧ z4 (kq ≤ k2) ∧ z4 (Kd.R k37 37 w' w.heap.size (fun k_=>some k_ ≠ (v111 : Value).ownBlock ∧ k_ ≠ gb109) (.slice Ao21 x5_2.length co21) x5_3) ∧ z4 (Kd.R k37 37 w' w.heap.size (fun k_=>some k_ ≠ ((.slice Ao21 x5_2.length co21) : Value).ownBlock ∧ k_ ≠ gb109) v111 x8_3) ∧ z4 (w'.heap[gb109]? = some (.cells #[.int .u64 x110000_3,.int .u64 x110001_3] 37 (0,0))) ∧ z4 (Below w.heap.size w w'))
     case atStart=>exact ⟨(x5_2),(y110),(0),((rd_T37 l1 x29_2).f0),((rd_T37 l1 x29_2).f1),zz81,H',⟨Nat.le_refl _⟩,⟨by (with_reducible repeat (first|apply Kd.zH|apply Kd.zI|apply Kd.zS));exact Kd.z12 HO_5.out (fun _ hk=>⟨hk.2,hk.1.2⟩)⟩,⟨by (with_reducible repeat (first|apply Kd.zH|apply Kd.zI|apply Kd.zS));exact Kd.z12 HO112.out (fun _ hk=>⟨hk.1.2,hk.2⟩)⟩,⟨by (with_reducible repeat (first|refine z8 ?_ _|refine zb ?_|refine z7 ?_ _));exact BK109.out⟩,⟨by repeat (first|(with_reducible first|exact HB.out|apply zg|apply z6|apply zc|refine zd ?_ GE109.out)|exact HB.out)⟩⟩
     case round =>
      clear H'
      (try clear c1);(try clear p1);(try clear q1);(try clear hx1);(try clear c2);(try clear p2);(try clear c5);(try clear c5b0);(try clear c5b1);(try clear c6);(try clear c6b0);(try clear c6b1);(try clear c7);(try clear c9);(try clear p10);(try clear q10);(try clear hx10);(try clear c14);(try clear c14b0);(try clear c15);(try clear c15b0);(try clear c16);(try clear c16b0);(try clear c17);(try clear c17b0);(try clear c17b1);(try clear c18);(try clear c18b0);(try clear c18b1);(try clear hcz20_0);(try clear hcz20_1);(try clear hfz20_0);(try clear hfz20_1);(try clear hx108_0);(try clear hx108_1);(try clear p108);(try clear p2);(try clear q108)
      obtain ⟨x5_3,x8_3,x38_3,x110000_3,x110001_3,rfl,HA,HK3,HO_5,HO_8,BK109,HB⟩:=hrel
      have hl5_3:=(Kd.zv HO_5.out).1
      rw [hl5_3] at HO_5
      (try simp only [hl5_3])
      (try simp only [hl5_3] at BK109)
      (try simp only [hl5_3] at HO_8)
      cases gk with
      | zero=>exact absurd HA.out (by simp [zm.l1])
      | succ k3 =>
       have H:=HA.out
       clear HA
       simp only [zm.l1] at H
       by_cases c24 : x38_3 < (x5_2.length : Int)
       rotate_left
       · rw [if_neg c24] at H
         have c24b0 : decide (x38_3 < (x5_2.length : Int)) = false:=decide_eq_false c24
         have c24b9 : decide (x38_3 < (x5_3.length : Int)) = false:=by rw [← hl5_3];exact c24b0
         clear c24
         by_cases c42 : x5_3.length + x8_3.length < 8796093022208
         rotate_left
         · rw [if_neg c42] at H
           exact absurd H zz87
         rw [if_pos c42] at H
         have LMc42:=z4.mk c42
         clear c42
         obtain ⟨y122,hy122⟩ : ∃ y_ : List (S37),y_ = (x5_3 ++ x8_3):=⟨_,rfl⟩
         replace H : (zm.l0 k3 a0 y122 l1 (l1.length : Int) (wrap64 (x29_2 + 1))) = some r:=by first|(rw [hy122];with_reducible exact H)|(have H2_:=(Option.bind_some _ _).symm.trans H;rw [hy122];with_reducible exact H2_)|(have H2_:=(Option.bind_some _ _).symm.trans H;with_reducible exact H2_)|with_reducible exact H|(rw [hy122];exact H)|exact H
         have Ny122:=z4.mk hy122
         clear hy122
         have H':=z4.mk H
         clear H
         obtain ⟨Ao44,co44,eo44⟩:=Kd.z1j HO_8.out
         subst eo44
         go_wp2_with (first|((with_reducible refine z2q (b:=.append) (xs:=#[.tmp 60,.tmp 61]) rfl ?_);(try (refine zZ zz88 ?_;dsimp only));at_builtin;refine Kd.z4U k37 (w0:=w) w.heap.size rfl (.tmp 60) (.tmp 61) 23 37 (.agg #[(.int .u64 0),(.int .u64 0)]) 16 rfl Try.underlying23 info37 rfl zz85 zz86 (.slice Ao21 x5_3.length co21) x5_3 x8_3 _ _ _ (fun k_=>some k_ ≠ (.slice Ao44 x8_3.length co44 : Value).ownBlock ∧ k_ ≠ gb109) (fun _=>False) rfl rfl ?aO ?aR (fun _ _ h=>h) (fun _ h=>h.elim) ?aF ?aB ?aS ?aL ?_;(case aR=>repeat (first|exact (Kd.zv HO_8.out).2.2|(with_reducible refine Kd.zQ ?_ _)|(with_reducible refine Kd.zR ?_ _)|(with_reducible refine Kd.z1c ?_)));(case aB=>exact zz41);(case aF=>exact (fun k_ hk=>⟨Kd.fresh' (Kd.R_lt zz66) k_ hk,Kd.freshB (g:=gb109) (o:=.cells #[.int .u64 x110000_3,.int .u64 x110001_3] 37 (0,0)) zz49 k_ hk⟩));(case aO=>exact zz65);(case aS=>exact (ze zz41));(case aL=>have:=LMc42.out;omega);intro v123 w43 ho hb hg hat;rw [← Ny122.out] at ho;have n0_:=z4.mk (Kd.z42 (ok:=(fun k_=>k_ ≠ gb109)) (by (with_reducible repeat (first|apply Kd.zH|apply Kd.zI|apply Kd.zS));exact Kd.z12 HO_8.out (fun _ hk=>⟨hk.2,hk.1⟩)) hg hat);have n1_:=z4.mk (z2h (g:=gb109) (o:=.cells #[.int .u64 x110000_3,.int .u64 x110001_3] 37 (0,0)) zz49 hg (Kd.z2H HO_5.out (fun _ hk=>hk.2)));have n2_:=z4.mk (hb);have n3_:=z4.mk (ho);clear HO_8;clear BK109;clear HB;clear HO_5;have HO_8:=n0_;have BK109:=n1_;have HB:=n2_;have HO124:=n3_;clear n0_ n1_ n2_ n3_;clear ho hb hg hat))
         (try simp only [← hl5_3])
         go_roundg k3
         case measure=>have:=HJ2.out;have:=HK2.out;have:=HK3.out;omega
         case rel=>exact ⟨(y122),(wrap64 (x29_2 + 1)),zz81,H',⟨by have:=HJ2.out;have:=HK2.out;have:=HK3.out;omega⟩,⟨by (try simp only [hl5_3]);(with_reducible repeat (first|apply Kd.zH|apply Kd.zI|apply Kd.zS));exact Kd.z12 HO124.out (fun _ hk=>trivial)⟩,⟨by repeat (first|(with_reducible first|exact HB.out|apply zg|apply z6|apply zc|refine zd ?_ GE109.out)|exact HB.out)⟩⟩
       rw [if_pos c24] at H
       have c24b0 : decide (x38_3 < (x5_2.length : Int)) = true:=decide_eq_true c24
       have c24b9 : decide (x38_3 < (x5_3.length : Int)) = true:=by rw [← hl5_3];exact c24b0
       clear c24
       by_cases c25 : 0 ≤ x38_3
       rotate_left
       · rw [if_neg c25] at H
         exact absurd H zz87
       rw [if_pos c25] at H
       have c25b0 : decide (0 ≤ x38_3) = true:=decide_eq_true c25
       clear c25
       by_cases c26 : x38_3 < (x5_3.length : Int)
       rotate_left
       · rw [if_neg c26] at H
         exact absurd H zz87
       rw [if_pos c26] at H
       have c26b0 : decide (x38_3 < (x5_3.length : Int)) = true:=decide_eq_true c26
       clear c26
       replace H:=Option.bind_eq_some_iff.mp H
       obtain ⟨⟨t115,t116⟩,A270,H⟩:=H
       replace H : (if x38_3 < (x8_3.length : Int) then ((some (x8_3.set (x38_3 : Int).toNat (⟨t115,t116⟩ : S37) : List (S37))).bind fun y117=>((z1t.f ((rd_T37 x5_3 x38_3).f0) ((rd_T37 x5_3 x38_3).f1) ((rd_T37 y117 x38_3).f0) ((rd_T37 y117 x38_3).f1)).bind fun bt119=>(zm.l1 k3 a0 (x5_3.set (x38_3 : Int).toNat (⟨bt119.1,bt119.2⟩ : S37)) y117 l1 (l1.length : Int) x29_2 (x5_2.length : Int) (wrap64 (x38_3 + 1)) x110000_3 x110001_3))) else (none)) = some r:=H
       have A27:=z4.mk A270
       clear A270
       by_cases c28 : x38_3 < (x8_3.length : Int)
       rotate_left
       · rw [if_neg c28] at H
         exact absurd H zz87
       rw [if_pos c28] at H
       have c28b0 : decide (x38_3 < (x8_3.length : Int)) = true:=decide_eq_true c28
       clear c28
       obtain ⟨y117,hy117⟩ : ∃ y_ : List (S37),y_ = (x8_3.set (x38_3 : Int).toNat (⟨t115,t116⟩ : S37)):=⟨_,rfl⟩
       replace H : ((z1t.f ((rd_T37 x5_3 x38_3).f0) ((rd_T37 x5_3 x38_3).f1) ((rd_T37 y117 x38_3).f0) ((rd_T37 y117 x38_3).f1)).bind fun bt119=>(zm.l1 k3 a0 (x5_3.set (x38_3 : Int).toNat (⟨bt119.1,bt119.2⟩ : S37)) y117 l1 (l1.length : Int) x29_2 (x5_2.length : Int) (wrap64 (x38_3 + 1)) x110000_3 x110001_3)) = some r:=by first|(rw [hy117];with_reducible exact H)|(have H2_:=(Option.bind_some _ _).symm.trans H;rw [hy117];with_reducible exact H2_)|(have H2_:=(Option.bind_some _ _).symm.trans H;with_reducible exact H2_)|with_reducible exact H|(rw [hy117];exact H)|exact H
       have Ny117:=z4.mk hy117
       clear hy117
       replace H:=Option.bind_eq_some_iff.mp H
       obtain ⟨⟨t119,t120⟩,A300,H⟩:=H
       replace H : (zm.l1 k3 a0 (x5_3.set (x38_3 : Int).toNat (⟨t119,t120⟩ : S37)) y117 l1 (l1.length : Int) x29_2 (x5_2.length : Int) (wrap64 (x38_3 + 1)) x110000_3 x110001_3) = some r:=H
       have A30:=z4.mk A300
       clear A300
       obtain ⟨y121,hy121⟩ : ∃ y_ : List (S37),y_ = (x5_3.set (x38_3 : Int).toNat (⟨t119,t120⟩ : S37)):=⟨_,rfl⟩
       replace H : (zm.l1 k3 a0 y121 y117 l1 (l1.length : Int) x29_2 (x5_2.length : Int) (wrap64 (x38_3 + 1)) x110000_3 x110001_3) = some r:=by first|(rw [hy121];with_reducible exact H)|(have H2_:=(Option.bind_some _ _).symm.trans H;rw [hy121];with_reducible exact H2_)|(have H2_:=(Option.bind_some _ _).symm.trans H;with_reducible exact H2_)|with_reducible exact H|(rw [hy121];exact H)|exact H
       have Ny121:=z4.mk hy121
       clear hy121
       have H':=z4.mk H
       clear H
       have p113 : 0 ≤ (x38_3 : Int):=of_decide_eq_true zz80
       have q113 : x38_3 < (x5_3.length : Int):=of_decide_eq_true zz80
       obtain ⟨ad113,e113,hx113_0,hx113_1⟩:=z1Y (Kd.zv HO_5.out).2.2 x38_3 p113 q113
       cases e113
       replace p113:=eq_true p113
       replace q113:=eq_true q113
       try go_wp2_with (first|((with_reducible refine zr (N:=10) rfl ?_);(try (refine zZ zz88 ?_;dsimp only));refine zy ?hg (N:=10) ?hd (cs:=#[.int .u64 0,.int .u64 0]) (t:=37) ?hr ?_;(case hd=>rfl);(case hg=>rfl);(case hr=>first|(go_simp;done)|(go_simp;rfl));intro gb114 hg w32 hbox hb;have n0_:=z4.mk (Kd.zx (Kd.z1r zz65 gb114 (Nat.le_of_eq hg.symm)) hb);have n1_:=z4.mk (Kd.zx (Kd.z1r zz66 gb114 (Nat.le_of_eq hg.symm)) hb);have n2_:=z4.mk (zh (g:=gb109) (o:=.cells #[.int .u64 x110000_3,.int .u64 x110001_3] 37 (0,0)) zz49 hb);have n3_:=z4.mk (z9 zz41 hb);have n4_:=z4.mk (hbox);have n5_:=z4.mk ((by rw [hg];exact (ze zz41) : w.heap.size ≤ gb114));have n6_:=z4.mk ((by rw [hg];exact (ze zz41) : w.heap.size ≤ gb114));have n7_:=z4.mk ((by rw [hg];exact Nat.ne_of_lt (zO (g:=gb109) (o:=.cells #[.int .u64 x110000_3,.int .u64 x110001_3] 37 (0,0)) zz49) : gb109 ≠ gb114));have n8_:=z4.mk ((by rw [hg];exact Nat.ne_of_gt (zO (g:=gb109) (o:=.cells #[.int .u64 x110000_3,.int .u64 x110001_3] 37 (0,0)) zz49) : gb114 ≠ gb109));clear HO_5;clear HO_8;clear BK109;clear HB;have HO_5:=n0_;have HO_8:=n1_;have BK109:=n2_;have HB:=n3_;have BK114:=n4_;have GW114:=n5_;have GE114:=n6_;have NB109_114:=n7_;have NB114_109:=n8_;clear n0_ n1_ n2_ n3_ n4_ n5_ n6_ n7_ n8_;clear hb hbox hg;have hnb33:=NB114_109.out;have hnc33:=NB109_114.out;have hcz34_0 : w32.cell? ⟨gb114,0,none⟩ = some (.int .u64 0):=(zf BK114.out 0).trans rfl;have hcz34_1 : w32.cell? ⟨gb114,1,none⟩ = some (.int .u64 0):=(zf BK114.out 1).trans rfl;have hfz34_0:=za BK114.out 0;have hfz34_1:=za BK114.out 1;have hcz35_0 : w32.cell? ⟨gb109,0,none⟩ = some (.int .u64 x110000_3):=(zf BK109.out 0).trans rfl;have hcz35_1 : w32.cell? ⟨gb109,1,none⟩ = some (.int .u64 x110001_3):=(zf BK109.out 1).trans rfl;have hfz35_0:=za BK109.out 0;have hfz35_1:=za BK109.out 1)|((with_reducible refine zl (f:=86) rfl ?_);refine goesL_ (some 48) rfl rfl Try.func86 zz84 rfl #[.int .i64 a0,.agg #[.int .u64 ((rd_T37 x5_3 x38_3).f0),.int .u64 ((rd_T37 x5_3 x38_3).f1)],.agg #[.int .u64 x110000_3,.int .u64 x110001_3]] rfl zz44 ?_;(with_reducible refine (zM.calls k3 a0 ((rd_T37 x5_3 x38_3).f0) ((rd_T37 x5_3 x38_3).f1) x110000_3 x110001_3 t115 t116 _ A27.out).mono ?_);rintro e w36 ⟨rfl,hb⟩;refine ⟨_,rfl,?_⟩;have n0_:=z4.mk (Kd.zx (by (with_reducible repeat (first|apply Kd.zH|apply Kd.zI|apply Kd.zS));exact (Kd.z12 (Kd.z1O (p:=⟨gb114,1,none⟩) (Kd.z1O (p:=⟨gb114,0,none⟩) (Kd.z12 HO_5.out (fun k_ hk=>(⟨hk,hk.2⟩ : _ ∧ k_ ≠ gb114))) (fun _ hk=>hk.2) (.int .u64 ((rd_T37 x5_3 x38_3).f0))) (fun _ hk=>hk.2) (.int .u64 ((rd_T37 x5_3 x38_3).f1))) (fun _ h_=>h_.1))) hb);have n1_:=z4.mk (Kd.zx (by (with_reducible repeat (first|apply Kd.zH|apply Kd.zI|apply Kd.zS));exact (Kd.z12 (Kd.z1O (p:=⟨gb114,1,none⟩) (Kd.z1O (p:=⟨gb114,0,none⟩) (Kd.z12 HO_8.out (fun k_ hk=>(⟨hk,hk.2⟩ : _ ∧ k_ ≠ gb114))) (fun _ hk=>hk.2) (.int .u64 ((rd_T37 x5_3 x38_3).f0))) (fun _ hk=>hk.2) (.int .u64 ((rd_T37 x5_3 x38_3).f1))) (fun _ h_=>h_.1))) hb);have n2_:=z4.mk (zh (g:=gb109) (o:=.cells #[.int .u64 x110000_3,.int .u64 x110001_3] 37 (0,0)) (by (with_reducible repeat (first|refine z8 ?_ _|refine zb ?_|refine z7 ?_ _));refine zW ?_ NB109_114.out _;(with_reducible repeat (first|refine z8 ?_ _|refine zb ?_|refine z7 ?_ _));refine zW ?_ NB109_114.out _;(with_reducible repeat (first|refine z8 ?_ _|refine zb ?_|refine z7 ?_ _));exact BK109.out) hb);have n3_:=z4.mk (zh (g:=gb114) (o:=.cells #[.int .u64 ((rd_T37 x5_3 x38_3).f0),.int .u64 ((rd_T37 x5_3 x38_3).f1)] 37 (0,0)) (by (with_reducible repeat (first|refine z8 ?_ _|refine zb ?_|refine z7 ?_ _));refine zX (cs:=#[.int .u64 ((rd_T37 x5_3 x38_3).f0),.int .u64 0]) ?_ 1 _ rfl;(with_reducible repeat (first|refine z8 ?_ _|refine zb ?_|refine z7 ?_ _));refine zX (cs:=#[.int .u64 0,.int .u64 0]) ?_ 0 _ rfl;(with_reducible repeat (first|refine z8 ?_ _|refine zb ?_|refine z7 ?_ _));exact BK114.out) hb);have n4_:=z4.mk (z9 zz34 hb);clear HO_5;clear HO_8;clear BK109;clear BK114;clear HB;have HO_5:=n0_;have HO_8:=n1_;have BK109:=n2_;have BK114:=n3_;have HB:=n4_;clear n0_ n1_ n2_ n3_ n4_;(try clear hb);(try clear hb2);(try clear hk);(try clear hi);have p29 : 0 ≤ (x38_3 : Int):=of_decide_eq_true zz80;have q29 : (x38_3 : Int) < ((x8_3.length : Int) : Int):=of_decide_eq_true zz80;obtain ⟨go29,co29,eo29,gb29,gl29,cl29,HG29⟩:=Kd.z4F HO_8.out zz86;(first|cases eo29|(injection eo29 with ea_ en_ ec_;(first|subst ea_|(injection ea_ with ea_;subst ea_));subst ec_;clear en_));have GB29:=z4.mk gb29;have GG29:=z4.mk HG29;clear gb29 gl29 HG29;obtain ⟨ce29,hcl29,hM29,hcc29,hfr29⟩:=Kd.z2U HO_8.out z37 (x38_3 : Int) p29 q29;obtain rfl:=z22 hM29;have hx29_0 : w36.cell? ⟨go29,(x38_3 : Int).toNat * 2,none⟩ = some (.int .u64 ((rd_T37 x8_3 x38_3).f0)):=hcc29 0 _ rfl;have hx29_1 : w36.cell? ⟨go29,(x38_3 : Int).toNat * 2 + 1,none⟩ = some (.int .u64 ((rd_T37 x8_3 x38_3).f1)):=hcc29 1 _ rfl;have hf29_0 : w36.frozen? ⟨go29,(x38_3 : Int).toNat * 2,none⟩ = false:=hfr29 0;have hf29_1 : w36.frozen? ⟨go29,(x38_3 : Int).toNat * 2 + 1,none⟩ = false:=hfr29 1;clear hcl29 hcc29 hfr29 hM29;replace p29:=eq_true p29;replace q29:=eq_true q29;have n_:=z4.mk (Kd.z12 (ok':=(fun k_=>some k_ ≠ (.slice (some ad113) x5_3.length co21 : Value).ownBlock ∧ k_ ≠ gb109 ∧ k_ ≠ gb114)) HO_8.out (fun k_ hk=>⟨hk.1.1,⟨hk.1.2,hk.2⟩⟩));clear HO_8;have HO_8:=n_;clear n_;have HX37:=z4.mk (show Kd.R k37 37 w36 w.heap.size (fun k_=>some k_ ≠ (.slice (some ad113) x5_3.length co21 : Value).ownBlock ∧ k_ ≠ gb109 ∧ k_ ≠ gb114) (.slice (some ⟨go29,0,none⟩) x8_3.length co29) x8_3 from zz66);obtain ⟨ce37,hcl37,hM37,hcc37,hfr37⟩:=Kd.z2U HX37.out z37 (x38_3 : Int) (of_decide_eq_true zz80) (by have h_ : (x38_3 : Int) < ((x8_3.length : Int) : Int):=of_decide_eq_true zz80;first|exact h_|(have e_:=(Kd.zv HO_8.out).1;omega)|simpa using h_);obtain rfl:=z22 hM37;have HP37:=Kd.z6r HX37.out (x38_3 : Int) (of_decide_eq_true zz80) (by have h_ : (x38_3 : Int) < ((x8_3.length : Int) : Int):=of_decide_eq_true zz80;first|exact h_|(have e_:=(Kd.zv HO_8.out).1;omega)|simpa using h_) (seg:=[.int .u64 t115,.int .u64 t116]) (j:=0) hcl37 hcc37 (show 2 ≤ 2 from by decide) (x':=(⟨t115,t116⟩ : S37)) (z1K _ _ _ (⟨t115,t116⟩ : S37) ) (fun _ hk=>hk);have hx37_0:=hcc37 0 _ rfl;(try simp only [show (k37).sz = 2 from rfl,Nat.mul_one,Nat.add_zero] at hx37_0);have hf37_0:=hfr37 0;(try simp only [show (k37).sz = 2 from rfl,Nat.mul_one,Nat.add_zero] at hf37_0);have hx37_1:=hcc37 1 _ rfl;(try simp only [show (k37).sz = 2 from rfl,Nat.mul_one,Nat.add_zero] at hx37_1);have hf37_1:=hfr37 1;(try simp only [show (k37).sz = 2 from rfl,Nat.mul_one,Nat.add_zero] at hf37_1);clear hcl37 hcc37 hfr37 hM37)|((with_reducible refine z4N (t:=37) (p:=49) rfl ?_);refine z4m (t:=37) (p:=49) (v:=?vo_w38) (w1:=((w36.setCell ⟨go29,(x38_3 : Int).toNat * 2,none⟩ (.int .u64 t115)).setCell ⟨go29,(x38_3 : Int).toNat * 2 + 1,none⟩ (.int .u64 t116))) ?hg ?ho ?hn ?hr ?_;(case ho=>rfl);(case hg=>rfl);(case hn=>rfl);(case hr=>first|(go_simp;done)|(go_simp;rfl));intro w38 hw;have hg : w36.grownBy w38 (some go29):=(by rw [hw];exact HP37.2);have hp_ : Kd.R k37 37 w38 w.heap.size (fun k_=>some k_ ≠ (.slice (some ad113) x5_3.length co21 : Value).ownBlock ∧ k_ ≠ gb109 ∧ k_ ≠ gb114) (.slice (some ⟨go29,0,none⟩) x8_3.length co29) y117:=(by rw [hw,Ny117.out];exact HP37.1);clear HP37;have n0_:=z4.mk (Kd.z42 (v:=(.slice (some ⟨go29,0,none⟩) x8_3.length co29)) (v1:=(.slice (some ⟨go29,0,none⟩) x8_3.length co29)) (ok:=(fun k_=>k_ ≠ gb109 ∧ k_ ≠ gb114)) (by (with_reducible repeat (first|apply Kd.zH|apply Kd.zI|apply Kd.zS));exact Kd.z12 HO_5.out (fun _ hk=>⟨⟨hk.1.2,hk.2⟩,hk.1.1⟩)) hg (.inl rfl));have n1_:=z4.mk (hp_);have n2_:=z4.mk (z2h (g:=gb109) (o:=.cells #[.int .u64 x110000_3,.int .u64 x110001_3] 37 (0,0)) zz49 hg (Kd.z2H HO_8.out (fun _ hk=>hk.2.1)));have n3_:=z4.mk (z2h (g:=gb114) (o:=.cells #[.int .u64 ((rd_T37 x5_3 x38_3).f0),.int .u64 ((rd_T37 x5_3 x38_3).f1)] 37 (0,0)) zz50 hg (Kd.z2H HO_8.out (fun _ hk=>hk.2.2)));have n4_:=z4.mk ((by rw [hw];exact zd (zd (HB.out) GB29.out) GB29.out : Below w.heap.size w w38));clear HO_5;clear HO_8;clear BK109;clear BK114;clear HB;have HO_5:=n0_;have HO_8:=n1_;have BK109:=n2_;have BK114:=n3_;have HB:=n4_;clear n0_ n1_ n2_ n3_ n4_;clear hg hw hp_))
       have n0_:=z4.mk (Kd.zS HO_5.out)
       have n1_:=z4.mk (Kd.zS HO_8.out)
       have n2_:=z4.mk (zb BK109.out)
       have n3_:=z4.mk (zb BK114.out)
       have n4_:=z4.mk (zc HB.out)
       clear HO_5
       clear HO_8
       clear BK109
       clear BK114
       clear HB
       have HO_5:=n0_
       have HO_8:=n1_
       have BK109:=n2_
       have BK114:=n3_
       have HB:=n4_
       clear n0_ n1_ n2_ n3_ n4_
       have p118 : 0 ≤ (x38_3 : Int):=of_decide_eq_true zz80
       have q118 : x38_3 < (y117.length : Int):=(by have h_ : (x38_3 : Int) < ((x8_3.length : Int) : Int):=of_decide_eq_true zz80;first|(have e_:=(Kd.zv HO_8.out).1;omega)|simpa only [Ny117.out,List.length_set] using h_)
       have ql118 : ((x38_3 : Int) < ((x8_3.length : Int) : Int)) = True:=eq_true (of_decide_eq_true zz80)
       obtain ⟨ad118,e118,hx118_0,hx118_1⟩:=z1Y (Kd.zv HO_8.out).2.2 x38_3 p118 q118
       obtain rfl : (⟨go29,0,none⟩ : Addr) = ad118:=(by injection e118)
       (first|simp only [z26] at hx118_0|simp only [add_at] at hx118_0|simp only [Addr.add,Nat.zero_add] at hx118_0|skip)
       (first|simp only [z26] at hx118_1|simp only [add_at] at hx118_1|simp only [Addr.add,Nat.zero_add] at hx118_1|skip)
       replace p118:=eq_true p118
       replace q118:=eq_true q118
       refine start_ (n:=10) (S:=fun w'=>w'.cell? ⟨gb114,0,none⟩ = some (.int .u64 ((rd_T37 x5_3 x38_3).f0)) ∧ w'.cell? ⟨gb114,1,none⟩ = some (.int .u64 ((rd_T37 x5_3 x38_3).f1)) ∧ w'.cell? ⟨go29,(x38_3).toNat * 2,none⟩ = some (.int .u64 ((rd_T37 y117 x38_3).f0)) ∧ w'.cell? ⟨go29,(x38_3).toNat * 2 + 1,none⟩ = some (.int .u64 ((rd_T37 y117 x38_3).f1))) (ds:=[9]) #[false,false,false,false,false,false,false,false,false,false] zz84 rfl rfl ⟨(zf BK114.out 0).trans rfl,(zf BK114.out 1).trans rfl,hx118_0,hx118_1⟩ (fun hHeld=>?_);refine z2e zm.tab12 zm.bits12 (fun HT_ HW_=>?_)
       generalize w38.drew = w39 at HO_5 HO_8 BK109 BK114 HB hx118_0 hx118_1 hHeld ⊢
       refine pure_ (i:=0) (N:=some 50) (v:=?_) (a':=?_) #[true,false,false,false,false,false,false,false,false,false] rfl rfl (z1v HT_.out zz84) (fun _ _ _ h=>h) (Or.inl ⟨by rfl,?_⟩) ?_ ?_
       rotate_left
       · intro w'
         go_simp
         with_reducible rfl
       rotate_left
       · simp only [Act.put,List.setIfInBounds_toArray,List.set_cons_zero,List.set_cons_succ,zY,z16]
         rfl
       refine pure_ (i:=1) (N:=some 51) (v:=?_) (a':=?_) #[true,true,false,false,false,false,false,false,false,false] rfl rfl (z1v HT_.out zz84) (fun _ _ _ h=>h) (Or.inl ⟨by rfl,?_⟩) ?_ ?_
       rotate_left
       · intro w'
         go_simp
         with_reducible rfl
       rotate_left
       · simp only [Act.put,List.setIfInBounds_toArray,List.set_cons_zero,List.set_cons_succ,zY,z16]
         rfl
       refine pure_ (i:=3) (N:=some 53) (v:=?_) (a':=?_) #[true,true,false,true,false,false,false,false,false,false] rfl rfl (z1v HT_.out zz84) (fun _ _ _ h=>h) (Or.inl ⟨by rfl,?_⟩) ?_ ?_
       rotate_left
       · intro w'
         go_simp
         with_reducible rfl
       rotate_left
       · simp only [Act.put,List.setIfInBounds_toArray,List.set_cons_zero,List.set_cons_succ,zY,z16]
         rfl
       refine pure_ (i:=4) (N:=some 54) (v:=?_) (a':=?_) #[true,true,false,true,true,false,false,false,false,false] rfl rfl (z1v HT_.out zz84) (fun _ _ _ h=>h) (Or.inl ⟨by rfl,?_⟩) ?_ ?_
       rotate_left
       · intro w'
         go_simp
         with_reducible rfl
       rotate_left
       · simp only [Act.put,List.setIfInBounds_toArray,List.set_cons_zero,List.set_cons_succ,zY,z16]
         rfl
       refine pure_ (i:=5) (N:=some 55) (v:=?_) (a':=?_) #[true,true,false,true,true,true,false,false,false,false] rfl rfl (z1v HT_.out zz84) (fun _ _ _ h=>h) (Or.inl ⟨by rfl,?_⟩) ?_ ?_
       rotate_left
       · intro w'
         go_simp
         with_reducible rfl
       rotate_left
       · simp only [Act.put,List.setIfInBounds_toArray,List.set_cons_zero,List.set_cons_succ,zY,z16]
         rfl
       refine take_ (i:=2) (N:=some 52) (v:=?_) (a':=?_) #[true,true,true,true,true,true,false,false,false,false] rfl rfl (z1S HT_.out HW_.out zz84) (fun _ _ _ h=>h) (Or.inl ⟨by rfl,?_⟩) hHeld ?_ ?_
       rotate_left
       · rintro w' ⟨s0,s1,s2,s3⟩
         go_simp
         with_reducible rfl
       rotate_left
       · simp only [Act.put,List.setIfInBounds_toArray,List.set_cons_zero,List.set_cons_succ,zY,z16]
         rfl
       refine take_ (i:=6) (N:=some 56) (v:=?_) (a':=?_) #[true,true,true,true,true,true,true,false,false,false] rfl rfl (z1S HT_.out HW_.out zz84) (fun _ _ _ h=>h) (Or.inl ⟨by rfl,?_⟩) hHeld ?_ ?_
       rotate_left
       · rintro w' ⟨s0,s1,s2,s3⟩
         go_simp
         with_reducible rfl
       rotate_left
       · simp only [Act.put,List.setIfInBounds_toArray,List.set_cons_zero,List.set_cons_succ,zY,z16]
         rfl
       refine one_ (i:=7) (N:=some 57) #[true,true,true,true,true,true,true,true,false,false] rfl rfl (z20 HT_.out zz84) zz85 (fun K hK=>?_)
       refine goes_ Try.func60 zz84 rfl #[.agg #[.int .u64 ((rd_T37 x5_3 x38_3).f0),.int .u64 ((rd_T37 x5_3 x38_3).f1)],.agg #[.int .u64 ((rd_T37 y117 x38_3).f0),.int .u64 ((rd_T37 y117 x38_3).f1)]] zz88 rfl rfl zz44 ?_
       with_reducible refine (z1t.calls ((rd_T37 x5_3 x38_3).f0) ((rd_T37 x5_3 x38_3).f1) ((rd_T37 y117 x38_3).f0) ((rd_T37 y117 x38_3).f1) t119 t120 _ A30.out).mono ?_
       rintro e w40 ⟨rfl,hb⟩
       have HS2_:=(hb.cell (World.block_lt_of_cell? _ _ (hHeld.2.2.1))).trans (hHeld.2.2.1)
       have HS3_:=(hb.cell (World.block_lt_of_cell? _ _ (hHeld.2.2.2))).trans (hHeld.2.2.2)
       refine ⟨_,rfl,?_⟩
       have n0_:=z4.mk (Kd.zx zz65 hb)
       have n1_:=z4.mk (Kd.zx zz66 hb)
       have n2_:=z4.mk (zh (g:=gb109) (o:=.cells #[.int .u64 x110000_3,.int .u64 x110001_3] 37 (0,0)) zz49 hb)
       have n3_:=z4.mk (zh (g:=gb114) (o:=.cells #[.int .u64 ((rd_T37 x5_3 x38_3).f0),.int .u64 ((rd_T37 x5_3 x38_3).f1)] 37 (0,0)) zz50 hb)
       have n4_:=z4.mk (z9 zz34 hb)
       clear HO_5
       clear HO_8
       clear BK109
       clear BK114
       clear HB
       have HO_5:=n0_
       have HO_8:=n1_
       have BK109:=n2_
       have BK114:=n3_
       have HB:=n4_
       clear n0_ n1_ n2_ n3_ n4_
       (try clear hb)
       (try clear hb2)
       (try clear hk)
       (try clear hi)
       have p31 : 0 ≤ (x38_3 : Int):=of_decide_eq_true zz80
       have q31 : (x38_3 : Int) < ((x5_3.length : Int) : Int):=of_decide_eq_true zz80
       obtain ⟨go31,co31,eo31,gb31,gl31,cl31,HG31⟩:=Kd.z4F HO_5.out zz86
       (first|cases eo31|(injection eo31 with ea_ en_ ec_;(first|subst ea_|(injection ea_ with ea_;subst ea_));subst ec_;clear en_))
       have GB31:=z4.mk gb31
       have GG31:=z4.mk HG31
       clear gb31 gl31 HG31
       (first|simp only [z26] at hx113_0|skip)
       (first|simp only [z26] at hx113_1|skip)
       obtain ⟨ce31,hcl31,hM31,hcc31,hfr31⟩:=Kd.z2U HO_5.out z37 (x38_3 : Int) p31 q31
       obtain rfl:=z22 hM31
       have hx31_0 : World.cell? _ ⟨go31,(x38_3 : Int).toNat * 2,none⟩ = some (.int .u64 ((rd_T37 x5_3 x38_3).f0)):=hcc31 0 _ rfl
       have hx31_1 : World.cell? _ ⟨go31,(x38_3 : Int).toNat * 2 + 1,none⟩ = some (.int .u64 ((rd_T37 x5_3 x38_3).f1)):=hcc31 1 _ rfl
       have hf31_0 : World.frozen? _ ⟨go31,(x38_3 : Int).toNat * 2,none⟩ = false:=hfr31 0
       have hf31_1 : World.frozen? _ ⟨go31,(x38_3 : Int).toNat * 2 + 1,none⟩ = false:=hfr31 1
       clear hcl31 hcc31 hfr31 hM31
       replace p31:=eq_true p31
       replace q31:=eq_true q31
       obtain ⟨ce41,hcl41,hM41,hcc41,hfr41⟩:=Kd.z2U HO_5.out z37 (x38_3 : Int) (of_decide_eq_true zz80) (by have h_ : (x38_3 : Int) < ((x5_3.length : Int) : Int):=of_decide_eq_true zz80;first|exact h_|(have e_:=(Kd.zv HO_5.out).1;omega)|simpa using h_)
       obtain rfl:=z22 hM41
       have HP41:=(Kd.z6r HO_5.out (x38_3 : Int) (of_decide_eq_true zz80) (by have h_ : (x38_3 : Int) < ((x5_3.length : Int) : Int):=of_decide_eq_true zz80;first|exact h_|(have e_:=(Kd.zv HO_5.out).1;omega)|simpa using h_) (seg:=[.int .u64 t119,.int .u64 t120]) (j:=0) hcl41 hcc41 (show 2 ≤ 2 from by decide) (x':=(⟨t119,t120⟩ : S37)) (z1K _ _ _ (⟨t119,t120⟩ : S37) ) (fun _ hk=>hk)).1
       rw [← Ny121.out] at HP41
       have HQ41:=z4.mk HP41
       clear hcl41 hcc41 hfr41 hM41 HP41
       refine hK.out _ _ ⟨(zf BK114.out 0).trans rfl,(zf BK114.out 1).trans rfl,HS2_,HS3_⟩ (fun hHeld=>?_)
       clear hK K
       refine norm_ (a':=?_) ?_ ?_
       rotate_left
       · show Act.put _ (some 57) _ = _
         simp only [Act.put,List.setIfInBounds_toArray,List.set_cons_zero,List.set_cons_succ,zY,z16]
         rfl
       refine pure_ (i:=8) (N:=some 58) (v:=?_) (a':=?_) #[true,true,true,true,true,true,true,true,true,false] rfl rfl (z1v HT_.out zz84) (fun _ _ _ h=>h) (Or.inl ⟨by rfl,?_⟩) ?_ ?_
       rotate_left
       · intro w'
         go_simp
         with_reducible rfl
       rotate_left
       · simp only [Act.put,List.setIfInBounds_toArray,List.set_cons_zero,List.set_cons_succ,zY,z16]
         rfl
       refine last_ (i:=9) (N:=none) #[true,true,true,true,true,true,true,true,true,true] rfl rfl (z20 HT_.out zz84) zz85 (fun K hK=>?_)
       refine skip_ (w1:=?_) zz88 rfl ?_ ?_
       rotate_left
       · go_simp
         rfl
       refine hK.out _ _ ?_
       clear hK K
       refine done_ (z2B HT_.out zz84) ?_
       try go_wp2
       (try simp only [← hl5_3])
       go_roundg k3
       case measure=>have:=HJ2.out;have:=HK2.out;have:=HK3.out;omega
       case rel=>exact ⟨(y121),(y117),(wrap64 (x38_3 + 1)),(x110000_3),(x110001_3),zz81,H',⟨by have:=HJ2.out;have:=HK2.out;have:=HK3.out;omega⟩,⟨by (try simp only [hl5_3]);(with_reducible repeat (first|apply Kd.zH|apply Kd.zI|apply Kd.zS));exact Kd.z12 HQ41.out (fun _ hk=>⟨hk.2,hk.1.1⟩)⟩,⟨by (try simp only [hl5_3]);(with_reducible repeat (first|apply Kd.zH|apply Kd.zI|apply Kd.zS));exact Kd.z12 (Kd.z1O (p:=⟨go31,(x38_3 : Int).toNat * 2 + 1,none⟩) (Kd.z1O (p:=⟨go31,(x38_3 : Int).toNat * 2,none⟩) (Kd.z12 HO_8.out (fun k_ hk=>(⟨hk,fun e_=>hk.1 zz83⟩ : _ ∧ k_ ≠ go31))) (fun _ hk=>hk.2) (.int .u64 t119)) (fun _ hk=>hk.2) (.int .u64 t120)) (fun _ hk=>⟨hk.1.1,hk.1.2.1⟩)⟩,⟨by (try simp only [hl5_3]);(with_reducible repeat (first|refine z8 ?_ _|refine zb ?_|refine z7 ?_ _));refine zW ?_ zz75 _;(with_reducible repeat (first|refine z8 ?_ _|refine zb ?_|refine z7 ?_ _));refine zW ?_ zz75 _;(with_reducible repeat (first|refine z8 ?_ _|refine zb ?_|refine z7 ?_ _));exact BK109.out⟩,⟨by repeat (first|(with_reducible first|exact HB.out|apply zg|apply z6|apply zc|refine zd ?_ GB31.out|refine zd ?_ GB31.out|refine zd ?_ GE109.out|refine zd ?_ GE114.out)|exact HB.out)⟩⟩
end Go.Proofs.Ytklkmflhnljbdaa.P

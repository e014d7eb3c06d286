/- Own text: merged by wip/tools/pack.py out of what the law RingBatches reaches. -/
import Derived.Test.YtkhmpaooinpfoaaProg
import Derived.Below
import Derived.Deep.Draws
import Derived.Deep.AppendLies
import Derived.Maps.AppendAt
import Derived.OwnWalk
import Derived.Laws.BytesArg
import Derived.Laws.MakeOwn
import Derived.Laws.OwnMore
import Derived.Deep.OwnRows
import Derived.Tactics
import Derived.Lib.ConvBytes
import Derived.Laws.Slices
import Derived.WalkKit
import Derived.KernelRfl
import Derived.RowKit3
import Derived.Deep.LoopGhost
import Derived.Deep.QuietTactic
import Derived.BigQuiet
import Derived.WideLaws
import Derived.Deep.DeepCutAuto
import Derived.Deep.CutBlock
import Derived.Deep.RegionHeld3
import Derived.Laws.Rows
import Derived.Lib.AppendStr
import Derived.ArgAppend
import Derived.Laws.IdiomCopy
import Derived.OrdersHeld
import Derived.Laws.BitsLemmas
import Derived.RowKit
import Derived.Test.YtkhmpaooinpfoaaMRingBatchesa
namespace Go.Proofs.Ytkhmpaooinpfoaa.P
open Go.RowKit Go.Proofs.YtkhmpaooinpfoaaW.PrintWords Go.Proofs.YtkhmpaooinpfoaaW.PrintLast Go.Proofs.YtkhmpaooinpfoaaW.PrintMore
attribute [local go_sem] z12 z14 z1i z1j zU zV z13 z15   -- for this text's walks alone
set_option linter.unusedVariables false
set_option linter.unusedSimpArgs false
theorem zz94 {p : Prop} (h : p := by rfl) : p := h
theorem zz93 {p : Prop} (h : p := by simp) : p := h
theorem zz92 {p : Prop} (h : p := by omega) : p := h
theorem zz91 {p : Prop} (h : p := by decide) : p := h
theorem zz90 {p : Prop} (h : p := by kernel_rfl) : p := h
theorem zz89 {p : Prop} (h : p := by rw [e_];rfl) : p := h
theorem zz88 {p : Prop} (h : p := by go_simp;rfl) : p := h
theorem zz87 {p : Prop} (h : p := by first|(go_simp;done)|(go_simp;rfl)) : p := h
theorem zz86 {p : Prop} (h : p := by first|rfl|(simp;done)|(simp [*];done)) : p := h
theorem zz85 {p : Prop} (h : p := by first|(with_reducible assumption)|assumption) : p := h
theorem zz84 {p : Prop} (h : p := by (try simp only [List.map_toArray,List.map_cons,List.map_nil]);first|done|rfl) : p := h
theorem zz83 {p : Prop} (h : p := by have h_:=Kd.z2e HO_6.out (fun _ hk=>hk);intro e_;exact h_ zz89) : p := h
theorem zz82 {p : Prop} (h : p := by have h_:=Kd.z2e HO_9.out (fun _ hk=>hk.2);intro e_;exact h_ zz89) : p := h
theorem zz81 {p : Prop} (h : p := by have h_:=Kd.z2e HO_1.out (fun _ hk=>hk.2.1);intro e_;exact h_ zz89) : p := h
theorem zz80 {p : Prop} (h : p := by have h_:=Kd.z2e HO_5.out (fun _ hk=>hk.1.1);intro e_;exact h_ zz89) : p := h
theorem zz79 {p : Prop} (h : p := by have h_:=Kd.z2e HO_1.out (fun _ hk=>hk.2.2.1);intro e_;exact h_ zz89) : p := h
theorem zz78 {p : Prop} (h : p := by have h_:=Kd.z2e HO_1.out (fun _ hk=>hk.2.2.2.2);intro e_;exact h_ zz89) : p := h
theorem zz77 {p : Prop} (h : p := by have h_:=Kd.z2e HO_1.out (fun _ hk=>hk.2.2.2.1);intro e_;exact h_ zz89) : p := h
theorem zz76 {p : Prop} (h : p := by (with_reducible repeat (first|apply Kd.zI|apply Kd.zJ|apply Kd.zT));exact HO1.out) : p := h
theorem zz75 {p : Prop} (h : p := by (with_reducible repeat (first|apply Kd.zI|apply Kd.zJ|apply Kd.zT));exact HO_1.out) : p := h
theorem zz74 {p : Prop} (h : p := by (with_reducible repeat (first|apply Kd.zI|apply Kd.zJ|apply Kd.zT));exact HO_7.out) : p := h
theorem zz73 {p : Prop} (h : p := by (with_reducible repeat (first|apply Kd.zI|apply Kd.zJ|apply Kd.zT));exact HO_6.out) : p := h
theorem zz72 {p : Prop} (h : p := by (with_reducible repeat (first|apply Kd.zI|apply Kd.zJ|apply Kd.zT));exact HO_9.out) : p := h
theorem zz71 {p : Prop} (h : p := by (with_reducible repeat (first|apply Kd.zI|apply Kd.zJ|apply Kd.zT));exact HO_8.out) : p := h
theorem zz70 {p : Prop} (h : p := by (with_reducible repeat (first|apply Kd.zI|apply Kd.zJ|apply Kd.zT));exact HO_5.out) : p := h
theorem zz69 {p : Prop} (h : p := by (with_reducible repeat (first|apply Kd.zI|apply Kd.zJ|apply Kd.zT));exact HO_17.out) : p := h
theorem zz68 {p : Prop} (h : p := by (with_reducible repeat (first|apply Kd.zI|apply Kd.zJ|apply Kd.zT));exact HO107.out) : p := h
theorem zz67 {p : Prop} (h : p := by (with_reducible repeat (first|apply Kd.zI|apply Kd.zJ|apply Kd.zT));exact HO117.out) : p := h
theorem zz66 {p : Prop} (h : p := by (with_reducible repeat (first|apply Kd.zI|apply Kd.zJ|apply Kd.zT));exact HO110.out) : p := h
theorem zz65 {p : Prop} (h : p := by (with_reducible repeat (first|apply Kd.zI|apply Kd.zJ|apply Kd.zT));exact HO103.out) : p := h
theorem zz64 {p : Prop} (h : p := by (with_reducible repeat (first|apply Kd.zI|apply Kd.zJ|apply Kd.zT));exact HO_27.out) : p := h
theorem zz63 {p : Prop} (h : p := by (with_reducible repeat (first|apply Kd.zI|apply Kd.zJ|apply Kd.zT));exact HO_10.out) : p := h
theorem zz62 {p : Prop} (h : p := by (with_reducible repeat (first|apply Kd.zI|apply Kd.zJ|apply Kd.zT));exact HO104.out) : p := h
theorem zz61 {p : Prop} (h : p := by (with_reducible repeat (first|apply Kd.zI|apply Kd.zJ|apply Kd.zT));exact HO_39.out) : p := h
theorem zz60 {p : Prop} (h : p := by (with_reducible repeat (first|apply Kd.zI|apply Kd.zJ|apply Kd.zT));exact HO106.out) : p := h
theorem zz59 {p : Prop} (h : p := by (with_reducible repeat (first|refine z5 ?_ _|refine z8 ?_|refine z4 ?_ _));exact BK107.out) : p := h
theorem zz58 {p : Prop} (h : p := by (with_reducible repeat (first|refine z5 ?_ _|refine z8 ?_|refine z4 ?_ _));exact BK115.out) : p := h
theorem zz57 {p : Prop} (h : p := by (with_reducible repeat (first|refine z5 ?_ _|refine z8 ?_|refine z4 ?_ _));exact BK104.out) : p := h
theorem zz56 {p : Prop} (h : p := by (with_reducible repeat (first|refine z5 ?_ _|refine z8 ?_|refine z4 ?_ _));exact BK106.out) : p := h
theorem zz55 {p : Prop} (h : p := by (with_reducible repeat (first|refine z5 ?_ _|refine z8 ?_|refine z4 ?_ _));exact BK111.out) : p := h
theorem zz54 {p : Prop} (h : p := by (with_reducible repeat (first|refine z5 ?_ _|refine z8 ?_|refine z4 ?_ _));exact BK114.out) : p := h
theorem zz53 {p : Prop} (h : p := by (with_reducible repeat (first|refine z5 ?_ _|refine z8 ?_|refine z4 ?_ _));exact BK109.out) : p := h
theorem zz52 {p : Prop} (h : p := by (with_reducible repeat (first|refine z5 ?_ _|refine z8 ?_|refine z4 ?_ _));exact BK103.out) : p := h
theorem zz51 {p : Prop} (h : p := by (with_reducible repeat (first|refine z5 ?_ _|refine z8 ?_|refine z4 ?_ _));exact BK102.out) : p := h
theorem zz50 {p : Prop} (h : p := by (with_reducible repeat (first|refine z5 ?_ _|refine z8 ?_|refine z4 ?_ _));exact BK101.out) : p := h
theorem zz49 {p : Prop} (h : p := by repeat (first|(with_reducible first|exact HB.out|apply zd|apply z2|apply z9)|exact HB.out)) : p := h
theorem zz48 {p : Prop} (h : p := by (try simp only [List.map_toArray,List.map_cons,List.map_nil]);first|done|rfl|(simp only [List.length_drop,List.length_take];rfl)) : p := h
theorem zz47 {p : Prop} (h : p := by repeat (first|(with_reducible first|exact HB.out|apply zd|apply z2|apply z9|refine za ?_ GE106.out)|exact HB.out)) : p := h
theorem zz46 {p : Prop} (h : p := by repeat (first|(with_reducible first|exact HB.out|apply zd|apply z2|apply z9|refine za ?_ GE114.out)|exact HB.out)) : p := h
theorem zz45 {p : Prop} (h : p := by repeat (first|(with_reducible first|exact HB.out|apply zd|apply z2|apply z9|refine za ?_ GE111.out)|exact HB.out)) : p := h
theorem zz44 {p : Prop} (h : p := by repeat (first|(with_reducible first|exact HB.out|apply zd|apply z2|apply z9|refine za ?_ GE109.out)|exact HB.out)) : p := h
theorem zz43 {p : Prop} (h : p := by repeat (first|(with_reducible first|exact HB.out|apply zd|apply z2|apply z9|refine za ?_ GE101.out)|exact HB.out)) : p := h
theorem zz42 {p : Prop} (h : p := by (try simp only [List.map_toArray,List.map_cons,List.map_nil]);first|done|(simp only [hji7];rfl)|rfl|(simp only [List.length_drop,List.length_take];rfl)) : p := h
theorem zz41 {p : Prop} (h : p := by repeat (first|(with_reducible first|exact HB.out|apply zd|apply z2|apply z9|refine za ?_ GE101.out|refine za ?_ GE105.out)|exact HB.out)) : p := h
theorem zz40 {p : Prop} (h : p := by repeat (first|(with_reducible first|exact HB.out|apply zd|apply z2|apply z9|refine za ?_ GE111.out|refine za ?_ GE115.out)|exact HB.out)) : p := h
theorem zz39 {p : Prop} (h : p := by repeat (first|(with_reducible first|exact HB.out|apply zd|apply z2|apply z9|refine za ?_ GE101.out|refine za ?_ GE104.out)|exact HB.out)) : p := h
theorem zz38 {p : Prop} (h : p := by repeat (first|(with_reducible first|exact HB.out|apply zd|apply z2|apply z9|refine za ?_ GE109.out|refine za ?_ GE113.out)|exact HB.out)) : p := h
theorem zz37 {p : Prop} (h : p := by repeat (first|(with_reducible first|exact HB.out|apply zd|apply z2|apply z9|refine za ?_ GE109.out|refine za ?_ GE114.out)|exact HB.out)) : p := h
theorem zz36 {p : Prop} (h : p := by repeat (first|(with_reducible first|exact HB.out|apply zd|apply z2|apply z9|refine za ?_ GE101.out|refine za ?_ GE102.out)|exact HB.out)) : p := h
theorem zz35 {p : Prop} (h : p := by repeat (first|(with_reducible first|exact HK.out|apply Kept.alloc|apply Kept.drewN|apply Kept.drew|refine Kept.setCell ?_ (.inr GW101.out) _|refine Kept.setCell ?_ (.inr GW102.out) _)|exact HK.out)) : p := h
theorem zz34 {p : Prop} (h : p := by repeat (first|(with_reducible first|exact HB.out|apply zd|apply z2|apply z9|refine za ?_ GE101.out|refine za ?_ GE102.out|refine za ?_ GE104.out)|exact HB.out)) : p := h
theorem zz33 {p : Prop} (h : p := by repeat (first|(with_reducible first|exact HB.out|apply zd|apply z2|apply z9|refine za ?_ GE101.out|refine za ?_ GE102.out|refine za ?_ GE103.out)|exact HB.out)) : p := h
theorem zz32 {p : Prop} (h : p := by repeat (first|(with_reducible first|exact HK.out|apply Kept.alloc|apply Kept.drewN|apply Kept.drew|refine Kept.setCell ?_ (.inr GW101.out) _|refine Kept.setCell ?_ (.inr GW102.out) _|refine Kept.setCell ?_ (.inr GW104.out) _)|exact HK.out)) : p := h
theorem zz31 {p : Prop} (h : p := by repeat (first|(with_reducible first|exact HB.out|apply zd|apply z2|apply z9|refine za ?_ GE101.out|refine za ?_ GE102.out|refine za ?_ GE104.out|refine za ?_ GE107.out)|exact HB.out)) : p := h
theorem zz30 {p : Prop} (h : p := by repeat (first|(with_reducible first|exact HB.out|apply zd|apply z2|apply z9|refine za ?_ GE101.out|refine za ?_ GE102.out|refine za ?_ GE103.out|refine za ?_ GE104.out)|exact HB.out)) : p := h
theorem zz29 {p : Prop} (h : p := by repeat (first|(with_reducible first|exact HB.out|apply zd|apply z2|apply z9|refine za ?_ GE101.out|refine za ?_ GE102.out|refine za ?_ GE103.out|refine za ?_ GE105.out)|exact HB.out)) : p := h
theorem zz28 {p : Prop} (h : p := by first|exact HK.out.1|exact (show Kept w _ (fun k_=>P1_ k_) from by repeat (first|(with_reducible first|exact HK.out|apply Kept.alloc|apply Kept.drewN|apply Kept.drew|refine Kept.setCell ?_ (.inr GW101.out) _|refine Kept.setCell ?_ (.inr GW102.out) _)|exact HK.out)).1) : p := h
theorem zz27 {p : Prop} (h : p := by repeat (first|(with_reducible first|exact HB.out|apply zd|apply z2|apply z9|refine za ?_ GE101.out|refine za ?_ GE102.out|refine za ?_ GE103.out|refine za ?_ GE104.out|refine za ?_ GE106.out)|exact HB.out)) : p := h
theorem zz26 {p : Prop} (h : p := by repeat (first|(with_reducible first|exact HK.out|apply Kept.alloc|apply Kept.drewN|apply Kept.drew|refine Kept.setCell ?_ (.inr GW101.out) _|refine Kept.setCell ?_ (.inr GW102.out) _|refine Kept.setCell ?_ (.inr GW104.out) _|refine Kept.setCell ?_ (.inr GW107.out) _)|exact HK.out)) : p := h
theorem zz25 {p : Prop} (h : p := by (with_reducible repeat (first|apply Kd.zI|apply Kd.zJ|apply Kd.zT));exact (Kd.z18 (Kd.z1M (p:=⟨gb115,1,none⟩) (Kd.z1M (p:=⟨gb115,0,none⟩) (Kd.z3g HO107.out BK115.out zz91) (fun _ hk=>hk.2) (.int .u64 t112)) (fun _ hk=>hk.2) (.int .u64 t113)) (fun _ h_=>h_.1))) : p := h
theorem zz24 {p : Prop} (h : p := by (with_reducible repeat (first|apply Kd.zI|apply Kd.zJ|apply Kd.zT));exact (Kd.z18 (Kd.z1M (p:=⟨gb115,1,none⟩) (Kd.z1M (p:=⟨gb115,0,none⟩) (Kd.z3g HO104.out BK115.out zz91) (fun _ hk=>hk.2) (.int .u64 t112)) (fun _ hk=>hk.2) (.int .u64 t113)) (fun _ h_=>h_.1))) : p := h
theorem zz23 {p : Prop} (h : p := by (with_reducible repeat (first|apply Kd.zI|apply Kd.zJ|apply Kd.zT));exact (Kd.z18 (Kd.z1M (p:=⟨gb114,1,none⟩) (Kd.z1M (p:=⟨gb114,0,none⟩) (Kd.z3g HO103.out BK114.out zz91) (fun _ hk=>hk.2) (.int .u64 t111)) (fun _ hk=>hk.2) (.int .u64 t112)) (fun _ h_=>h_.1))) : p := h
theorem zz22 {p : Prop} (h : p := by first|exact HK.out.1|exact (show Kept w _ (fun k_=>P1_ k_) from by repeat (first|(with_reducible first|exact HK.out|apply Kept.alloc|apply Kept.drewN|apply Kept.drew|refine Kept.setCell ?_ (.inr GW101.out) _|refine Kept.setCell ?_ (.inr GW102.out) _|refine Kept.setCell ?_ (.inr GW104.out) _)|exact HK.out)).1) : p := h
theorem zz21 {p : Prop} (h : p := by (with_reducible repeat (first|apply Kd.zI|apply Kd.zJ|apply Kd.zT));exact (Kd.z18 (Kd.z1M (p:=⟨gb114,1,none⟩) (Kd.z1M (p:=⟨gb114,0,none⟩) (Kd.z18 HO110.out (fun k_ hk=>(⟨hk,hk.2⟩ : _ ∧ k_ ≠ gb114))) (fun _ hk=>hk.2) (.int .u64 t111)) (fun _ hk=>hk.2) (.int .u64 t112)) (fun _ h_=>h_.1))) : p := h
theorem zz20 {p : Prop} (h : p := by (with_reducible repeat (first|apply Kd.zI|apply Kd.zJ|apply Kd.zT));exact (Kd.z18 (Kd.z1M (p:=⟨gb114,1,none⟩) (Kd.z1M (p:=⟨gb114,0,none⟩) (Kd.z18 HO106.out (fun k_ hk=>(⟨hk,hk.2⟩ : _ ∧ k_ ≠ gb114))) (fun _ hk=>hk.2) (.int .u64 t111)) (fun _ hk=>hk.2) (.int .u64 t112)) (fun _ h_=>h_.1))) : p := h
theorem zz19 {p : Prop} (h : p := by (with_reducible repeat (first|apply Kd.zI|apply Kd.zJ|apply Kd.zT));exact (Kd.z18 (Kd.z1M (p:=⟨gb104,1,none⟩) (Kd.z1M (p:=⟨gb104,0,none⟩) (Kd.z18 HO_1.out (fun k_ hk=>(⟨hk,hk.2⟩ : _ ∧ k_ ≠ gb104))) (fun _ hk=>hk.2) (.int .u64 ((rd_T30 l2 x17_1).f0))) (fun _ hk=>hk.2) (.int .u64 ((rd_T30 l2 x17_1).f1))) (fun _ h_=>h_.1))) : p := h
theorem zz18 {p : Prop} (h : p := by (with_reducible repeat (first|apply Kd.zI|apply Kd.zJ|apply Kd.zT));exact (Kd.z18 (Kd.z1M (p:=⟨gb109,1,none⟩) (Kd.z1M (p:=⟨gb109,0,none⟩) (Kd.z18 HO_5.out (fun k_ hk=>(⟨hk,hk.2⟩ : _ ∧ k_ ≠ gb109))) (fun _ hk=>hk.2) (.int .u64 ((rd_T30 l1 x29_2).f0))) (fun _ hk=>hk.2) (.int .u64 ((rd_T30 l1 x29_2).f1))) (fun _ h_=>h_.1))) : p := h
theorem zz17 {p : Prop} (h : p := by (with_reducible repeat (first|apply Kd.zI|apply Kd.zJ|apply Kd.zT));exact (Kd.z18 (Kd.z1M (p:=⟨gb109,1,none⟩) (Kd.z1M (p:=⟨gb109,0,none⟩) (Kd.z18 HO_9.out (fun k_ hk=>(⟨hk,hk.2⟩ : _ ∧ k_ ≠ gb109))) (fun _ hk=>hk.2) (.int .u64 ((rd_T30 t105 x29_1).f0))) (fun _ hk=>hk.2) (.int .u64 ((rd_T30 t105 x29_1).f1))) (fun _ h_=>h_.1))) : p := h
theorem zz16 {p : Prop} (h : p := by (with_reducible repeat (first|refine z5 ?_ _|refine z8 ?_|refine z4 ?_ _));refine zZ ?_ NB102_104.out _;(with_reducible repeat (first|refine z5 ?_ _|refine z8 ?_|refine z4 ?_ _));refine zZ ?_ NB102_104.out _;(with_reducible repeat (first|refine z5 ?_ _|refine z8 ?_|refine z4 ?_ _));exact BK102.out) : p := h
theorem zz15 {p : Prop} (h : p := by (with_reducible repeat (first|refine z5 ?_ _|refine z8 ?_|refine z4 ?_ _));refine zZ ?_ NB101_104.out _;(with_reducible repeat (first|refine z5 ?_ _|refine z8 ?_|refine z4 ?_ _));refine zZ ?_ NB101_104.out _;(with_reducible repeat (first|refine z5 ?_ _|refine z8 ?_|refine z4 ?_ _));exact BK101.out) : p := h
theorem zz14 {p : Prop} (h : p := by (with_reducible repeat (first|refine z5 ?_ _|refine z8 ?_|refine z4 ?_ _));refine zZ ?_ NB109_113.out _;(with_reducible repeat (first|refine z5 ?_ _|refine z8 ?_|refine z4 ?_ _));refine zZ ?_ NB109_113.out _;(with_reducible repeat (first|refine z5 ?_ _|refine z8 ?_|refine z4 ?_ _));exact BK109.out) : p := h
theorem zz13 {p : Prop} (h : p := by (with_reducible repeat (first|refine z5 ?_ _|refine z8 ?_|refine z4 ?_ _));refine zZ ?_ NB103_105.out _;(with_reducible repeat (first|refine z5 ?_ _|refine z8 ?_|refine z4 ?_ _));refine zZ ?_ NB103_105.out _;(with_reducible repeat (first|refine z5 ?_ _|refine z8 ?_|refine z4 ?_ _));exact BK103.out) : p := h
theorem zz12 {p : Prop} (h : p := by (with_reducible repeat (first|refine z5 ?_ _|refine z8 ?_|refine z4 ?_ _));refine zZ ?_ NB102_105.out _;(with_reducible repeat (first|refine z5 ?_ _|refine z8 ?_|refine z4 ?_ _));refine zZ ?_ NB102_105.out _;(with_reducible repeat (first|refine z5 ?_ _|refine z8 ?_|refine z4 ?_ _));exact BK102.out) : p := h
theorem zz11 {p : Prop} (h : p := by (with_reducible repeat (first|refine z5 ?_ _|refine z8 ?_|refine z4 ?_ _));refine zZ ?_ NB101_105.out _;(with_reducible repeat (first|refine z5 ?_ _|refine z8 ?_|refine z4 ?_ _));refine zZ ?_ NB101_105.out _;(with_reducible repeat (first|refine z5 ?_ _|refine z8 ?_|refine z4 ?_ _));exact BK101.out) : p := h
theorem zz10 {p : Prop} (h : p := by (with_reducible repeat (first|refine z5 ?_ _|refine z8 ?_|refine z4 ?_ _));refine zX (cs:=#[.int .u64 0,.int .u64 0]) ?_ 1 _ rfl;(with_reducible repeat (first|refine z5 ?_ _|refine z8 ?_|refine z4 ?_ _));refine zX (cs:=#[.int .u64 0,.int .u64 0]) ?_ 0 _ rfl;(with_reducible repeat (first|refine z5 ?_ _|refine z8 ?_|refine z4 ?_ _));exact BK102.out) : p := h
theorem zz9 {p : Prop} (h : p := by (with_reducible repeat (first|refine z5 ?_ _|refine z8 ?_|refine z4 ?_ _));refine zX (cs:=#[.int .u64 0,.int .u64 0]) ?_ 1 _ rfl;(with_reducible repeat (first|refine z5 ?_ _|refine z8 ?_|refine z4 ?_ _));refine zX (cs:=#[.int .u64 0,.int .u64 0]) ?_ 0 _ rfl;(with_reducible repeat (first|refine z5 ?_ _|refine z8 ?_|refine z4 ?_ _));exact BK101.out) : p := h
theorem zz8 {p : Prop} (h : p := by (with_reducible repeat (first|refine z5 ?_ _|refine z8 ?_|refine z4 ?_ _));refine zX (cs:=#[.int .u64 0,.int .u64 0]) ?_ 1 _ rfl;(with_reducible repeat (first|refine z5 ?_ _|refine z8 ?_|refine z4 ?_ _));refine zX (cs:=#[.int .u64 0,.int .u64 0]) ?_ 0 _ rfl;(with_reducible repeat (first|refine z5 ?_ _|refine z8 ?_|refine z4 ?_ _));exact BK103.out) : p := h
theorem zz7 {p : Prop} (h : p := by (with_reducible repeat (first|refine z5 ?_ _|refine z8 ?_|refine z4 ?_ _));refine zX (cs:=#[.int .u64 a2_0,.int .u64 0]) ?_ 1 _ rfl;(with_reducible repeat (first|refine z5 ?_ _|refine z8 ?_|refine z4 ?_ _));refine zX (cs:=#[.int .u64 0,.int .u64 0]) ?_ 0 _ rfl;(with_reducible repeat (first|refine z5 ?_ _|refine z8 ?_|refine z4 ?_ _));exact BK104.out) : p := h
theorem zz6 {p : Prop} (h : p := by (with_reducible repeat (first|refine z5 ?_ _|refine z8 ?_|refine z4 ?_ _));refine zX (cs:=#[.int .u64 t111,.int .u64 0]) ?_ 1 _ rfl;(with_reducible repeat (first|refine z5 ?_ _|refine z8 ?_|refine z4 ?_ _));refine zX (cs:=#[.int .u64 0,.int .u64 0]) ?_ 0 _ rfl;(with_reducible repeat (first|refine z5 ?_ _|refine z8 ?_|refine z4 ?_ _));exact BK114.out) : p := h
theorem zz5 {p : Prop} (h : p := by (with_reducible repeat (first|refine z5 ?_ _|refine z8 ?_|refine z4 ?_ _));refine zX (cs:=#[.int .u64 t110,.int .u64 0]) ?_ 1 _ rfl;(with_reducible repeat (first|refine z5 ?_ _|refine z8 ?_|refine z4 ?_ _));refine zX (cs:=#[.int .u64 0,.int .u64 0]) ?_ 0 _ rfl;(with_reducible repeat (first|refine z5 ?_ _|refine z8 ?_|refine z4 ?_ _));exact BK113.out) : p := h
theorem zz4 {p : Prop} (h : p := by (with_reducible repeat (first|refine z5 ?_ _|refine z8 ?_|refine z4 ?_ _));refine zX (cs:=#[.int .u64 x103000_1,.int .u64 0]) ?_ 1 _ rfl;(with_reducible repeat (first|refine z5 ?_ _|refine z8 ?_|refine z4 ?_ _));refine zX (cs:=#[.int .u64 0,.int .u64 0]) ?_ 0 _ rfl;(with_reducible repeat (first|refine z5 ?_ _|refine z8 ?_|refine z4 ?_ _));exact BK101.out) : p := h
theorem zz3 {p : Prop} (h : p := by (with_reducible repeat (first|refine z5 ?_ _|refine z8 ?_|refine z4 ?_ _));refine zX (cs:=#[.int .u64 ((rd_T30 l2 x17_1).f0),.int .u64 0]) ?_ 1 _ rfl;(with_reducible repeat (first|refine z5 ?_ _|refine z8 ?_|refine z4 ?_ _));refine zX (cs:=#[.int .u64 0,.int .u64 0]) ?_ 0 _ rfl;(with_reducible repeat (first|refine z5 ?_ _|refine z8 ?_|refine z4 ?_ _));exact BK104.out) : p := h
theorem zz2 {p : Prop} (h : p := by (with_reducible repeat (first|refine z5 ?_ _|refine z8 ?_|refine z4 ?_ _));refine zX (cs:=#[.int .u64 ((rd_T30 l0 x10_1).f0),.int .u64 0]) ?_ 1 _ rfl;(with_reducible repeat (first|refine z5 ?_ _|refine z8 ?_|refine z4 ?_ _));refine zX (cs:=#[.int .u64 0,.int .u64 0]) ?_ 0 _ rfl;(with_reducible repeat (first|refine z5 ?_ _|refine z8 ?_|refine z4 ?_ _));exact BK105.out) : p := h
theorem zz1 {p : Prop} (h : p := by (with_reducible repeat (first|refine z5 ?_ _|refine z8 ?_|refine z4 ?_ _));refine zX (cs:=#[.int .u64 ((rd_T30 l1 x29_2).f0),.int .u64 0]) ?_ 1 _ rfl;(with_reducible repeat (first|refine z5 ?_ _|refine z8 ?_|refine z4 ?_ _));refine zX (cs:=#[.int .u64 0,.int .u64 0]) ?_ 0 _ rfl;(with_reducible repeat (first|refine z5 ?_ _|refine z8 ?_|refine z4 ?_ _));exact BK109.out) : p := h
theorem zz0 {p : Prop} (h : p := by (with_reducible repeat (first|refine z5 ?_ _|refine z8 ?_|refine z4 ?_ _));refine zX (cs:=#[.int .u64 (Go.bits .xor .u64 a0_0 a1_0),.int .u64 0]) ?_ 1 _ rfl;(with_reducible repeat (first|refine z5 ?_ _|refine z8 ?_|refine z4 ?_ _));refine zX (cs:=#[.int .u64 0,.int .u64 0]) ?_ 0 _ rfl;(with_reducible repeat (first|refine z5 ?_ _|refine z8 ?_|refine z4 ?_ _));exact BK103.out) : p := h
def errW : Option Int → Value
 | none=>.nilIface
 | some c=>.iface 0 (.int .i64 c)
theorem zg : errW none = .nilIface:=rfl
theorem zh (c : Int) : errW (some c) = .iface 0 (.int .i64 c):=rfl
theorem info3 : (Try.prog.info? 3).map (fun i=>(i.zero,i.size,i.bytes)) = some (some (.int .i64 0),1,8):=by kernel_rfl
theorem info4 : (Try.prog.info? 4).map (fun i=>(i.zero,i.size,i.bytes)) = some (some (.bool false),1,1):=by kernel_rfl
theorem info24 : (Try.prog.info? 24).map (fun i=>(i.zero,i.size,i.bytes)) = some (some (.slice none 0 0),1,24):=by kernel_rfl
theorem info28 : (Try.prog.info? 28).map (fun i=>(i.zero,i.size,i.bytes)) = some (some (.int .u64 0),1,8):=by kernel_rfl
theorem info30 : (Try.prog.info? 30).map (fun i=>(i.zero,i.size,i.bytes)) = some (some (.agg #[(.int .u64 0),(.int .u64 0)]),2,16):=by kernel_rfl
theorem info36 : (Try.prog.info? 36).map (fun i=>(i.zero,i.size,i.bytes)) = some (some (.slice none 0 0),1,24):=by kernel_rfl
theorem info40 : (Try.prog.info? 40).map (fun i=>(i.zero,i.size,i.bytes)) = some (some (.agg #[(.int .u64 0),(.int .u64 0)]),2,16):=by kernel_rfl
theorem info80 : (Try.prog.info? 80).map (fun i=>(i.zero,i.size,i.bytes)) = some (some (.slice none 0 0),1,24):=by kernel_rfl
theorem info127 : (Try.prog.info? 127).map (fun i=>(i.zero,i.size,i.bytes)) = some (some (.agg #[(.int .i64 0),(.int .i64 0),(.int .i64 0),(.int .u64 0),(.int .u64 0)]),5,40):=by kernel_rfl
-- the values' own types
structure S30 where
 f0 : Int
 f1 : Int
def z30 : S30:=⟨(0 : Int),(0 : Int)⟩
def k30 : Kd S30:=Kd.iso (Kd.pair (Kd.int .u64) (Kd.int .u64)) (fun x : S30=>(x.f0,x.f1))
theorem z3c : Kd.Heap k30:=Kd.z2A _ (Kd.z21 (Kd.z26 .u64) (Kd.z26 .u64))
theorem z5V {w : World} {x : S30} {cs : List Value} (h : k30.K w x cs) : cs = [.int .u64 x.f0,.int .u64 x.f1]:=by
 obtain ⟨_,_,rfl,rfl,rfl⟩:=h
 exact rfl
theorem z1V {w : World} {base : Nat} {ok : Nat → Prop} {x : S30} {cs : List Value} (h : k30.M w base ok x cs) : cs = [.int .u64 x.f0,.int .u64 x.f1]:=by
 obtain ⟨_,_,rfl,rfl,rfl⟩:=h
 exact rfl
theorem k30_mk (w : World) (x : S30)  : k30.K w x [.int .u64 x.f0,.int .u64 x.f1]:=⟨[.int .u64 x.f0],[.int .u64 x.f1],rfl,rfl,rfl⟩
theorem z1J (w : World) (base : Nat) (ok : Nat → Prop) (x : S30)  : k30.M w base ok x [.int .u64 x.f0,.int .u64 x.f1]:=⟨[.int .u64 x.f0],[.int .u64 x.f1],rfl,rfl,rfl⟩
theorem k30_mkF (W : World) (ok : Nat → Prop) (x : S30) : Kd.FK k30 W ok x [.int .u64 x.f0,.int .u64 x.f1]:=fun W2 _=>k30_mk W2 x
def rd_T30 (xs : List S30) (i : Int) : S30:=xs.getD i.toNat z30
theorem z20 {w : World} {A : Option Addr} {n : Nat} {xs : List S30} (h : Kd.C k30 w A n xs) (i : Int) (h0 : 0 ≤ i) (h1 : i < n) : ∃ ad , A = some ad ∧ w.cell? (ad.add (i.toNat * 2)) = some (.int .u64 (rd_T30 xs i).f0) ∧ w.cell? ⟨(ad.add (i.toNat * 2)).block,(ad.add (i.toNat * 2)).off + 1,none⟩ = some (.int .u64 (rd_T30 xs i).f1):=by
 obtain ⟨ad,c,e,_,hK,hc0⟩:=Kd.z3R h z30 i h0 h1
 have hc : ∀ j u,c[j]? = some u → w.cell? (ad.add (i.toNat * 2 + j)) = some u:=hc0
 obtain rfl:=z5V hK
 exact ⟨ad,e,hc 0 _ rfl,by rw [← z1S _ _ 1 zz92];exact hc 1 _ rfl⟩
def rd_L3 (xs : List (List S30)) (i : Int) : (List S30):=xs.getD i.toNat ([] : List S30)
theorem at_L3 {w : World} {A : Option Addr} {n : Nat} {xs : List (List S30)} (h : Kd.C (Kd.slice 30 k30) w A n xs) (i : Int) (h0 : 0 ≤ i) (h1 : i < n) : ∃ ad A0 c0,A = some ad ∧ w.cell? (ad.add i.toNat) = some (.slice A0 (rd_L3 xs i).length c0) ∧ (rd_L3 xs i).length ≤ c0 ∧ k30.C w A0 (rd_L3 xs i).length (rd_L3 xs i):=by
 obtain ⟨ad,c,e,_,hK,hc0⟩:=Kd.z3R h ([] : List S30) i h0 h1
 have hc : ∀ j u,c[j]? = some u → w.cell? (ad.add (i.toNat * 1 + j)) = some u:=hc0
 obtain ⟨A0,c0,rfl,l0,g0⟩:=hK
 exact ⟨ad,A0,c0,e,by have hq:=hc 0 _ rfl;rwa [Nat.mul_one,Nat.add_zero] at hq,l0,g0⟩
structure S40 where
 f0 : Int
 f1 : Int
def z40 : S40:=⟨(0 : Int),(0 : Int)⟩
def k40 : Kd S40:=Kd.iso (Kd.pair (Kd.int .u64) (Kd.int .u64)) (fun x : S40=>(x.f0,x.f1))
theorem k40_heap : Kd.Heap k40:=Kd.z2A _ (Kd.z21 (Kd.z26 .u64) (Kd.z26 .u64))
theorem z5W {w : World} {x : S40} {cs : List Value} (h : k40.K w x cs) : cs = [.int .u64 x.f0,.int .u64 x.f1]:=by
 obtain ⟨_,_,rfl,rfl,rfl⟩:=h
 exact rfl
theorem z6R {w : World} {base : Nat} {ok : Nat → Prop} {x : S40} {cs : List Value} (h : k40.M w base ok x cs) : cs = [.int .u64 x.f0,.int .u64 x.f1]:=by
 obtain ⟨_,_,rfl,rfl,rfl⟩:=h
 exact rfl
theorem k40_mk (w : World) (x : S40)  : k40.K w x [.int .u64 x.f0,.int .u64 x.f1]:=⟨[.int .u64 x.f0],[.int .u64 x.f1],rfl,rfl,rfl⟩
theorem z4W (w : World) (base : Nat) (ok : Nat → Prop) (x : S40)  : k40.M w base ok x [.int .u64 x.f0,.int .u64 x.f1]:=⟨[.int .u64 x.f0],[.int .u64 x.f1],rfl,rfl,rfl⟩
theorem k40_mkF (W : World) (ok : Nat → Prop) (x : S40) : Kd.FK k40 W ok x [.int .u64 x.f0,.int .u64 x.f1]:=fun W2 _=>k40_mk W2 x
def z1x (xs : List S40) (i : Int) : S40:=xs.getD i.toNat z40
theorem z3r {w : World} {A : Option Addr} {n : Nat} {xs : List S40} (h : Kd.C k40 w A n xs) (i : Int) (h0 : 0 ≤ i) (h1 : i < n) : ∃ ad , A = some ad ∧ w.cell? (ad.add (i.toNat * 2)) = some (.int .u64 (z1x xs i).f0) ∧ w.cell? ⟨(ad.add (i.toNat * 2)).block,(ad.add (i.toNat * 2)).off + 1,none⟩ = some (.int .u64 (z1x xs i).f1):=by
 obtain ⟨ad,c,e,_,hK,hc0⟩:=Kd.z3R h z40 i h0 h1
 have hc : ∀ j u,c[j]? = some u → w.cell? (ad.add (i.toNat * 2 + j)) = some u:=hc0
 obtain rfl:=z5W hK
 exact ⟨ad,e,hc 0 _ rfl,by rw [← z1S _ _ 1 zz92];exact hc 1 _ rfl⟩
def rd_L6 (xs : List (List S40)) (i : Int) : (List S40):=xs.getD i.toNat ([] : List S40)
theorem at_L6 {w : World} {A : Option Addr} {n : Nat} {xs : List (List S40)} (h : Kd.C (Kd.slice 40 k40) w A n xs) (i : Int) (h0 : 0 ≤ i) (h1 : i < n) : ∃ ad A0 c0,A = some ad ∧ w.cell? (ad.add i.toNat) = some (.slice A0 (rd_L6 xs i).length c0) ∧ (rd_L6 xs i).length ≤ c0 ∧ k40.C w A0 (rd_L6 xs i).length (rd_L6 xs i):=by
 obtain ⟨ad,c,e,_,hK,hc0⟩:=Kd.z3R h ([] : List S40) i h0 h1
 have hc : ∀ j u,c[j]? = some u → w.cell? (ad.add (i.toNat * 1 + j)) = some u:=hc0
 obtain ⟨A0,c0,rfl,l0,g0⟩:=hK
 exact ⟨ad,A0,c0,e,by have hq:=hc 0 _ rfl;rwa [Nat.mul_one,Nat.add_zero] at hq,l0,g0⟩
def rd_L7 (xs : List (List (List S30))) (i : Int) : (List (List S30)):=xs.getD i.toNat ([] : List (List S30))
theorem at_L7 {w : World} {A : Option Addr} {n : Nat} {xs : List (List (List S30))} (h : Kd.C (Kd.slice 24 (Kd.slice 30 k30)) w A n xs) (i : Int) (h0 : 0 ≤ i) (h1 : i < n) : ∃ ad A0 c0,A = some ad ∧ w.cell? (ad.add i.toNat) = some (.slice A0 (rd_L7 xs i).length c0) ∧ (rd_L7 xs i).length ≤ c0 ∧ (Kd.slice 30 k30).C w A0 (rd_L7 xs i).length (rd_L7 xs i):=by
 obtain ⟨ad,c,e,_,hK,hc0⟩:=Kd.z3R h ([] : List (List S30)) i h0 h1
 have hc : ∀ j u,c[j]? = some u → w.cell? (ad.add (i.toNat * 1 + j)) = some u:=hc0
 obtain ⟨A0,c0,rfl,l0,g0⟩:=hK
 exact ⟨ad,A0,c0,e,by have hq:=hc 0 _ rfl;rwa [Nat.mul_one,Nat.add_zero] at hq,l0,g0⟩
structure S46 where
 f0 : (List S30)
 f1 : Int
def z46 : S46:=⟨([] : List S30),(0 : Int)⟩
def k46 : Kd S46:=Kd.iso (Kd.pair (Kd.slice 30 k30) (Kd.int .i64)) (fun x : S46=>(x.f0,x.f1))
theorem k46_heap : Kd.Heap k46:=Kd.z2A _ (Kd.z21 (Kd.z2s 30 z3c) (Kd.z26 .i64))
theorem z4X {w : World} {x : S46} {cs : List Value} (h : k46.K w x cs) : ∃ A0 c0,cs = [.slice A0 x.f0.length c0,.int .i64 x.f1] ∧ x.f0.length ≤ c0 ∧ k30.C w A0 x.f0.length x.f0:=by
 obtain ⟨_,_,rfl,⟨A0,c0,rfl,l0,g0⟩,rfl⟩:=h
 exact ⟨A0,c0,rfl,l0,g0⟩
theorem k46_openM {w : World} {base : Nat} {ok : Nat → Prop} {x : S46} {cs : List Value} (h : k46.M w base ok x cs) : ∃ v0,cs = [v0,.int .i64 x.f1] ∧ k30.R 30 w base ok v0 x.f0:=by
 obtain ⟨_,_,rfl,⟨v0,rfl,g0⟩,rfl⟩:=h
 exact ⟨v0,rfl,g0⟩
theorem k46_mk (w : World) (x : S46) {A0 : Option Addr} {c0 : Nat} (l0 : x.f0.length ≤ c0) (g0 : k30.C w A0 x.f0.length x.f0) : k46.K w x [.slice A0 x.f0.length c0,.int .i64 x.f1]:=⟨[.slice A0 x.f0.length c0],[.int .i64 x.f1],rfl,⟨A0,c0,rfl,l0,g0⟩,rfl⟩
theorem k46_mkM (w : World) (base : Nat) (ok : Nat → Prop) (x : S46) {v0 : Value} (g0 : k30.R 30 w base ok v0 x.f0) : k46.M w base ok x [v0,.int .i64 x.f1]:=⟨[v0],[.int .i64 x.f1],rfl,⟨v0,rfl,g0⟩,rfl⟩
theorem k46_openF {W : World} {ok : Nat → Prop} {x : S46} {cs : List Value} (h : Kd.FK k46 W ok x cs) : ∃ A0 c0,cs = [.slice A0 x.f0.length c0,.int .i64 x.f1] ∧ x.f0.length ≤ c0 ∧ Kd.F k30 W ok A0 x.f0.length x.f0:=by
 obtain ⟨A0,c0,rfl,l0,_⟩:=z4X (Kd.z6q h)
 exact ⟨A0,c0,rfl,l0,(fun W' hW=>by obtain ⟨A0_,c0_,he,l0_,g0_⟩:=z4X (h W' hW);injection (Option.some.inj (show some (Value.slice A0 x.f0.length c0) = some (Value.slice A0_ x.f0.length c0_) from congrArg (fun l=>l[0]?) he)) with ha_ _ _;rw [ha_];exact g0_)⟩
theorem k46_mkF (W : World) (ok : Nat → Prop) (x : S46) {A0 : Option Addr} {c0 : Nat} (l0 : x.f0.length ≤ c0) (g0 : Kd.F k30 W ok A0 x.f0.length x.f0) : Kd.FK k46 W ok x [.slice A0 x.f0.length c0,.int .i64 x.f1]:=fun W2 hW=>k46_mk W2 x l0 (g0 W2 hW)
def z5o (xs : List S46) (i : Int) : S46:=xs.getD i.toNat z46
theorem at_T46 {w : World} {A : Option Addr} {n : Nat} {xs : List S46} (h : Kd.C k46 w A n xs) (i : Int) (h0 : 0 ≤ i) (h1 : i < n) : ∃ ad A0 c0,A = some ad ∧ w.cell? (ad.add (i.toNat * 2)) = some (.slice A0 (z5o xs i).f0.length c0) ∧ w.cell? ⟨(ad.add (i.toNat * 2)).block,(ad.add (i.toNat * 2)).off + 1,none⟩ = some (.int .i64 (z5o xs i).f1) ∧ (z5o xs i).f0.length ≤ c0 ∧ k30.C w A0 (z5o xs i).f0.length (z5o xs i).f0:=by
 obtain ⟨ad,c,e,_,hK,hc0⟩:=Kd.z3R h z46 i h0 h1
 have hc : ∀ j u,c[j]? = some u → w.cell? (ad.add (i.toNat * 2 + j)) = some u:=hc0
 obtain ⟨A0,c0,rfl,l0,g0⟩:=z4X hK
 exact ⟨ad,A0,c0,e,hc 0 _ rfl,by rw [← z1S _ _ 1 zz92];exact hc 1 _ rfl,l0,g0⟩
structure S119 where
 f0 : Int
 f1 : Int
 f2 : Int
 f3 : S30
def z119 : S119:=⟨(0 : Int),(0 : Int),(0 : Int),z30⟩
def k119 : Kd S119:=Kd.iso (Kd.pair (Kd.int .i64) (Kd.pair (Kd.int .i64) (Kd.pair (Kd.int .i64) k30))) (fun x : S119=>(x.f0,x.f1,x.f2,x.f3))
theorem k119_heap : Kd.Heap k119:=Kd.z2A _ (Kd.z21 (Kd.z26 .i64) (Kd.z21 (Kd.z26 .i64) (Kd.z21 (Kd.z26 .i64) z3c)))
theorem z6P {w : World} {x : S119} {cs : List Value} (h : k119.K w x cs) : cs = [.int .i64 x.f0,.int .i64 x.f1,.int .i64 x.f2,.int .u64 x.f3.f0,.int .u64 x.f3.f1]:=by
 obtain ⟨_,_,rfl,rfl,⟨_,_,rfl,rfl,⟨_,_,rfl,rfl,s3⟩⟩⟩:=h
 obtain rfl:=z5V s3
 exact rfl
theorem k119_openM {w : World} {base : Nat} {ok : Nat → Prop} {x : S119} {cs : List Value} (h : k119.M w base ok x cs) : cs = [.int .i64 x.f0,.int .i64 x.f1,.int .i64 x.f2,.int .u64 x.f3.f0,.int .u64 x.f3.f1]:=by
 obtain ⟨_,_,rfl,rfl,⟨_,_,rfl,rfl,⟨_,_,rfl,rfl,s3⟩⟩⟩:=h
 obtain rfl:=z1V s3
 exact rfl
theorem k119_mk (w : World) (x : S119)  : k119.K w x [.int .i64 x.f0,.int .i64 x.f1,.int .i64 x.f2,.int .u64 x.f3.f0,.int .u64 x.f3.f1]:=⟨[.int .i64 x.f0],[.int .i64 x.f1,.int .i64 x.f2,.int .u64 x.f3.f0,.int .u64 x.f3.f1],rfl,rfl,⟨[.int .i64 x.f1],[.int .i64 x.f2,.int .u64 x.f3.f0,.int .u64 x.f3.f1],rfl,rfl,⟨[.int .i64 x.f2],[.int .u64 x.f3.f0,.int .u64 x.f3.f1],rfl,rfl,(k30_mk w x.f3 )⟩⟩⟩
theorem k119_mkM (w : World) (base : Nat) (ok : Nat → Prop) (x : S119)  : k119.M w base ok x [.int .i64 x.f0,.int .i64 x.f1,.int .i64 x.f2,.int .u64 x.f3.f0,.int .u64 x.f3.f1]:=⟨[.int .i64 x.f0],[.int .i64 x.f1,.int .i64 x.f2,.int .u64 x.f3.f0,.int .u64 x.f3.f1],rfl,rfl,⟨[.int .i64 x.f1],[.int .i64 x.f2,.int .u64 x.f3.f0,.int .u64 x.f3.f1],rfl,rfl,⟨[.int .i64 x.f2],[.int .u64 x.f3.f0,.int .u64 x.f3.f1],rfl,rfl,(z1J w base ok x.f3 )⟩⟩⟩
theorem k119_mkF (W : World) (ok : Nat → Prop) (x : S119) : Kd.FK k119 W ok x [.int .i64 x.f0,.int .i64 x.f1,.int .i64 x.f2,.int .u64 x.f3.f0,.int .u64 x.f3.f1]:=fun W2 _=>k119_mk W2 x
def z4d (xs : List S119) (i : Int) : S119:=xs.getD i.toNat z119
theorem at_T119 {w : World} {A : Option Addr} {n : Nat} {xs : List S119} (h : Kd.C k119 w A n xs) (i : Int) (h0 : 0 ≤ i) (h1 : i < n) : ∃ ad , A = some ad ∧ w.cell? (ad.add (i.toNat * 5)) = some (.int .i64 (z4d xs i).f0) ∧ w.cell? ⟨(ad.add (i.toNat * 5)).block,(ad.add (i.toNat * 5)).off + 1,none⟩ = some (.int .i64 (z4d xs i).f1) ∧ w.cell? ⟨(ad.add (i.toNat * 5)).block,(ad.add (i.toNat * 5)).off + 2,none⟩ = some (.int .i64 (z4d xs i).f2) ∧ w.cell? ⟨(ad.add (i.toNat * 5)).block,(ad.add (i.toNat * 5)).off + 3,none⟩ = some (.int .u64 (z4d xs i).f3.f0) ∧ w.cell? ⟨(ad.add (i.toNat * 5)).block,(ad.add (i.toNat * 5)).off + 4,none⟩ = some (.int .u64 (z4d xs i).f3.f1):=by
 obtain ⟨ad,c,e,_,hK,hc0⟩:=Kd.z3R h z119 i h0 h1
 have hc : ∀ j u,c[j]? = some u → w.cell? (ad.add (i.toNat * 5 + j)) = some u:=hc0
 obtain rfl:=z6P hK
 exact ⟨ad,e,hc 0 _ rfl,by rw [← z1S _ _ 1 zz92];exact hc 1 _ rfl,by rw [← z1S _ _ 2 zz92];exact hc 2 _ rfl,by rw [← z1S _ _ 3 zz92];exact hc 3 _ rfl,by rw [← z1S _ _ 4 zz92];exact hc 4 _ rfl⟩
structure S127 where
 f0 : Int
 f1 : Int
 f2 : Int
 f3 : S40
def z127 : S127:=⟨(0 : Int),(0 : Int),(0 : Int),z40⟩
def k127 : Kd S127:=Kd.iso (Kd.pair (Kd.int .i64) (Kd.pair (Kd.int .i64) (Kd.pair (Kd.int .i64) k40))) (fun x : S127=>(x.f0,x.f1,x.f2,x.f3))
theorem k127_heap : Kd.Heap k127:=Kd.z2A _ (Kd.z21 (Kd.z26 .i64) (Kd.z21 (Kd.z26 .i64) (Kd.z21 (Kd.z26 .i64) k40_heap)))
theorem z6Q {w : World} {x : S127} {cs : List Value} (h : k127.K w x cs) : cs = [.int .i64 x.f0,.int .i64 x.f1,.int .i64 x.f2,.int .u64 x.f3.f0,.int .u64 x.f3.f1]:=by
 obtain ⟨_,_,rfl,rfl,⟨_,_,rfl,rfl,⟨_,_,rfl,rfl,s3⟩⟩⟩:=h
 obtain rfl:=z5W s3
 exact rfl
theorem k127_openM {w : World} {base : Nat} {ok : Nat → Prop} {x : S127} {cs : List Value} (h : k127.M w base ok x cs) : cs = [.int .i64 x.f0,.int .i64 x.f1,.int .i64 x.f2,.int .u64 x.f3.f0,.int .u64 x.f3.f1]:=by
 obtain ⟨_,_,rfl,rfl,⟨_,_,rfl,rfl,⟨_,_,rfl,rfl,s3⟩⟩⟩:=h
 obtain rfl:=z6R s3
 exact rfl
theorem k127_mk (w : World) (x : S127)  : k127.K w x [.int .i64 x.f0,.int .i64 x.f1,.int .i64 x.f2,.int .u64 x.f3.f0,.int .u64 x.f3.f1]:=⟨[.int .i64 x.f0],[.int .i64 x.f1,.int .i64 x.f2,.int .u64 x.f3.f0,.int .u64 x.f3.f1],rfl,rfl,⟨[.int .i64 x.f1],[.int .i64 x.f2,.int .u64 x.f3.f0,.int .u64 x.f3.f1],rfl,rfl,⟨[.int .i64 x.f2],[.int .u64 x.f3.f0,.int .u64 x.f3.f1],rfl,rfl,(k40_mk w x.f3 )⟩⟩⟩
theorem k127_mkM (w : World) (base : Nat) (ok : Nat → Prop) (x : S127)  : k127.M w base ok x [.int .i64 x.f0,.int .i64 x.f1,.int .i64 x.f2,.int .u64 x.f3.f0,.int .u64 x.f3.f1]:=⟨[.int .i64 x.f0],[.int .i64 x.f1,.int .i64 x.f2,.int .u64 x.f3.f0,.int .u64 x.f3.f1],rfl,rfl,⟨[.int .i64 x.f1],[.int .i64 x.f2,.int .u64 x.f3.f0,.int .u64 x.f3.f1],rfl,rfl,⟨[.int .i64 x.f2],[.int .u64 x.f3.f0,.int .u64 x.f3.f1],rfl,rfl,(z4W w base ok x.f3 )⟩⟩⟩
theorem k127_mkF (W : World) (ok : Nat → Prop) (x : S127) : Kd.FK k127 W ok x [.int .i64 x.f0,.int .i64 x.f1,.int .i64 x.f2,.int .u64 x.f3.f0,.int .u64 x.f3.f1]:=fun W2 _=>k127_mk W2 x
def z4e (xs : List S127) (i : Int) : S127:=xs.getD i.toNat z127
theorem at_T127 {w : World} {A : Option Addr} {n : Nat} {xs : List S127} (h : Kd.C k127 w A n xs) (i : Int) (h0 : 0 ≤ i) (h1 : i < n) : ∃ ad , A = some ad ∧ w.cell? (ad.add (i.toNat * 5)) = some (.int .i64 (z4e xs i).f0) ∧ w.cell? ⟨(ad.add (i.toNat * 5)).block,(ad.add (i.toNat * 5)).off + 1,none⟩ = some (.int .i64 (z4e xs i).f1) ∧ w.cell? ⟨(ad.add (i.toNat * 5)).block,(ad.add (i.toNat * 5)).off + 2,none⟩ = some (.int .i64 (z4e xs i).f2) ∧ w.cell? ⟨(ad.add (i.toNat * 5)).block,(ad.add (i.toNat * 5)).off + 3,none⟩ = some (.int .u64 (z4e xs i).f3.f0) ∧ w.cell? ⟨(ad.add (i.toNat * 5)).block,(ad.add (i.toNat * 5)).off + 4,none⟩ = some (.int .u64 (z4e xs i).f3.f1):=by
 obtain ⟨ad,c,e,_,hK,hc0⟩:=Kd.z3R h z127 i h0 h1
 have hc : ∀ j u,c[j]? = some u → w.cell? (ad.add (i.toNat * 5 + j)) = some u:=hc0
 obtain rfl:=z6Q hK
 exact ⟨ad,e,hc 0 _ rfl,by rw [← z1S _ _ 1 zz92];exact hc 1 _ rfl,by rw [← z1S _ _ 2 zz92];exact hc 2 _ rfl,by rw [← z1S _ _ 3 zz92];exact hc 3 _ rfl,by rw [← z1S _ _ 4 zz92];exact hc 4 _ rfl⟩
structure S23 where
 f0 : Int
 f1 : Int
 f2 : Int
def z23 : S23:=⟨(0 : Int),(0 : Int),(0 : Int)⟩
def k23 : Kd S23:=Kd.iso (Kd.pair (Kd.int .i64) (Kd.pair (Kd.int .i64) (Kd.int .i64))) (fun x : S23=>(x.f0,x.f1,x.f2))
theorem k23_heap : Kd.Heap k23:=Kd.z2A _ (Kd.z21 (Kd.z26 .i64) (Kd.z21 (Kd.z26 .i64) (Kd.z26 .i64)))
theorem k23_open {w : World} {x : S23} {cs : List Value} (h : k23.K w x cs) : cs = [.int .i64 x.f0,.int .i64 x.f1,.int .i64 x.f2]:=by
 obtain ⟨_,_,rfl,rfl,⟨_,_,rfl,rfl,rfl⟩⟩:=h
 exact rfl
theorem k23_openM {w : World} {base : Nat} {ok : Nat → Prop} {x : S23} {cs : List Value} (h : k23.M w base ok x cs) : cs = [.int .i64 x.f0,.int .i64 x.f1,.int .i64 x.f2]:=by
 obtain ⟨_,_,rfl,rfl,⟨_,_,rfl,rfl,rfl⟩⟩:=h
 exact rfl
theorem k23_mk (w : World) (x : S23)  : k23.K w x [.int .i64 x.f0,.int .i64 x.f1,.int .i64 x.f2]:=⟨[.int .i64 x.f0],[.int .i64 x.f1,.int .i64 x.f2],rfl,rfl,⟨[.int .i64 x.f1],[.int .i64 x.f2],rfl,rfl,rfl⟩⟩
theorem k23_mkM (w : World) (base : Nat) (ok : Nat → Prop) (x : S23)  : k23.M w base ok x [.int .i64 x.f0,.int .i64 x.f1,.int .i64 x.f2]:=⟨[.int .i64 x.f0],[.int .i64 x.f1,.int .i64 x.f2],rfl,rfl,⟨[.int .i64 x.f1],[.int .i64 x.f2],rfl,rfl,rfl⟩⟩
theorem k23_mkF (W : World) (ok : Nat → Prop) (x : S23) : Kd.FK k23 W ok x [.int .i64 x.f0,.int .i64 x.f1,.int .i64 x.f2]:=fun W2 _=>k23_mk W2 x
def z78 (xs : List S23) (i : Int) : S23:=xs.getD i.toNat z23
theorem at_T23 {w : World} {A : Option Addr} {n : Nat} {xs : List S23} (h : Kd.C k23 w A n xs) (i : Int) (h0 : 0 ≤ i) (h1 : i < n) : ∃ ad , A = some ad ∧ w.cell? (ad.add (i.toNat * 3)) = some (.int .i64 (z78 xs i).f0) ∧ w.cell? ⟨(ad.add (i.toNat * 3)).block,(ad.add (i.toNat * 3)).off + 1,none⟩ = some (.int .i64 (z78 xs i).f1) ∧ w.cell? ⟨(ad.add (i.toNat * 3)).block,(ad.add (i.toNat * 3)).off + 2,none⟩ = some (.int .i64 (z78 xs i).f2):=by
 obtain ⟨ad,c,e,_,hK,hc0⟩:=Kd.z3R h z23 i h0 h1
 have hc : ∀ j u,c[j]? = some u → w.cell? (ad.add (i.toNat * 3 + j)) = some u:=hc0
 obtain rfl:=k23_open hK
 exact ⟨ad,e,hc 0 _ rfl,by rw [← z1S _ _ 1 zz92];exact hc 1 _ rfl,by rw [← z1S _ _ 2 zz92];exact hc 2 _ rfl⟩
def z63 (xs : List (List Bool)) (i : Int) : (List Bool):=xs.getD i.toNat ([] : List Bool)
theorem at_L12 {w : World} {A : Option Addr} {n : Nat} {xs : List (List Bool)} (h : Kd.C (Kd.slice 4 Kd.bool) w A n xs) (i : Int) (h0 : 0 ≤ i) (h1 : i < n) : ∃ ad A0 c0,A = some ad ∧ w.cell? (ad.add i.toNat) = some (.slice A0 (z63 xs i).length c0) ∧ (z63 xs i).length ≤ c0 ∧ Kd.bool.C w A0 (z63 xs i).length (z63 xs i):=by
 obtain ⟨ad,c,e,_,hK,hc0⟩:=Kd.z3R h ([] : List Bool) i h0 h1
 have hc : ∀ j u,c[j]? = some u → w.cell? (ad.add (i.toNat * 1 + j)) = some u:=hc0
 obtain ⟨A0,c0,rfl,l0,g0⟩:=hK
 exact ⟨ad,A0,c0,e,by have hq:=hc 0 _ rfl;rwa [Nat.mul_one,Nat.add_zero] at hq,l0,g0⟩
structure S71 where
 f0 : (List Bool)
 f1 : (List S30)
def z71 : S71:=⟨([] : List Bool),([] : List S30)⟩
def k71 : Kd S71:=Kd.iso (Kd.pair (Kd.slice 4 Kd.bool) (Kd.slice 30 k30)) (fun x : S71=>(x.f0,x.f1))
theorem k71_heap : Kd.Heap k71:=Kd.z2A _ (Kd.z21 (Kd.z2s 4 Kd.z6J) (Kd.z2s 30 z3c))
theorem z3T {w : World} {x : S71} {cs : List Value} (h : k71.K w x cs) : ∃ A0 c0 A1 c1,cs = [.slice A0 x.f0.length c0,.slice A1 x.f1.length c1] ∧ x.f0.length ≤ c0 ∧ Kd.bool.C w A0 x.f0.length x.f0 ∧ x.f1.length ≤ c1 ∧ k30.C w A1 x.f1.length x.f1:=by
 obtain ⟨_,_,rfl,⟨A0,c0,rfl,l0,g0⟩,⟨A1,c1,rfl,l1,g1⟩⟩:=h
 exact ⟨A0,c0,A1,c1,rfl,l0,g0,l1,g1⟩
theorem k71_openM {w : World} {base : Nat} {ok : Nat → Prop} {x : S71} {cs : List Value} (h : k71.M w base ok x cs) : ∃ v0 v1,cs = [v0,v1] ∧ Kd.bool.R 4 w base ok v0 x.f0 ∧ k30.R 30 w base ok v1 x.f1:=by
 obtain ⟨_,_,rfl,⟨v0,rfl,g0⟩,⟨v1,rfl,g1⟩⟩:=h
 exact ⟨v0,v1,rfl,g0,g1⟩
theorem k71_mk (w : World) (x : S71) {A0 : Option Addr} {c0 : Nat} (l0 : x.f0.length ≤ c0) (g0 : Kd.bool.C w A0 x.f0.length x.f0) {A1 : Option Addr} {c1 : Nat} (l1 : x.f1.length ≤ c1) (g1 : k30.C w A1 x.f1.length x.f1) : k71.K w x [.slice A0 x.f0.length c0,.slice A1 x.f1.length c1]:=⟨[.slice A0 x.f0.length c0],[.slice A1 x.f1.length c1],rfl,⟨A0,c0,rfl,l0,g0⟩,⟨A1,c1,rfl,l1,g1⟩⟩
theorem k71_mkM (w : World) (base : Nat) (ok : Nat → Prop) (x : S71) {v0 : Value} (g0 : Kd.bool.R 4 w base ok v0 x.f0) {v1 : Value} (g1 : k30.R 30 w base ok v1 x.f1) : k71.M w base ok x [v0,v1]:=⟨[v0],[v1],rfl,⟨v0,rfl,g0⟩,⟨v1,rfl,g1⟩⟩
theorem k71_openF {W : World} {ok : Nat → Prop} {x : S71} {cs : List Value} (h : Kd.FK k71 W ok x cs) : ∃ A0 c0 A1 c1,cs = [.slice A0 x.f0.length c0,.slice A1 x.f1.length c1] ∧ x.f0.length ≤ c0 ∧ Kd.F Kd.bool W ok A0 x.f0.length x.f0 ∧ x.f1.length ≤ c1 ∧ Kd.F k30 W ok A1 x.f1.length x.f1:=by
 obtain ⟨A0,c0,A1,c1,rfl,l0,_,l1,_⟩:=z3T (Kd.z6q h)
 exact ⟨A0,c0,A1,c1,rfl,l0,(fun W' hW=>by obtain ⟨A0_,c0_,A1_,c1_,he,l0_,g0_,l1_,g1_⟩:=z3T (h W' hW);injection (Option.some.inj (show some (Value.slice A0 x.f0.length c0) = some (Value.slice A0_ x.f0.length c0_) from congrArg (fun l=>l[0]?) he)) with ha_ _ _;rw [ha_];exact g0_),l1,(fun W' hW=>by obtain ⟨A0_,c0_,A1_,c1_,he,l0_,g0_,l1_,g1_⟩:=z3T (h W' hW);injection (Option.some.inj (show some (Value.slice A1 x.f1.length c1) = some (Value.slice A1_ x.f1.length c1_) from congrArg (fun l=>l[1]?) he)) with ha_ _ _;rw [ha_];exact g1_)⟩
theorem k71_mkF (W : World) (ok : Nat → Prop) (x : S71) {A0 : Option Addr} {c0 : Nat} (l0 : x.f0.length ≤ c0) (g0 : Kd.F Kd.bool W ok A0 x.f0.length x.f0) {A1 : Option Addr} {c1 : Nat} (l1 : x.f1.length ≤ c1) (g1 : Kd.F k30 W ok A1 x.f1.length x.f1) : Kd.FK k71 W ok x [.slice A0 x.f0.length c0,.slice A1 x.f1.length c1]:=fun W2 hW=>k71_mk W2 x l0 (g0 W2 hW) l1 (g1 W2 hW)
def z3L (xs : List S71) (i : Int) : S71:=xs.getD i.toNat z71
theorem at_T71 {w : World} {A : Option Addr} {n : Nat} {xs : List S71} (h : Kd.C k71 w A n xs) (i : Int) (h0 : 0 ≤ i) (h1 : i < n) : ∃ ad A0 c0 A1 c1,A = some ad ∧ w.cell? (ad.add (i.toNat * 2)) = some (.slice A0 (z3L xs i).f0.length c0) ∧ w.cell? ⟨(ad.add (i.toNat * 2)).block,(ad.add (i.toNat * 2)).off + 1,none⟩ = some (.slice A1 (z3L xs i).f1.length c1) ∧ (z3L xs i).f0.length ≤ c0 ∧ Kd.bool.C w A0 (z3L xs i).f0.length (z3L xs i).f0 ∧ (z3L xs i).f1.length ≤ c1 ∧ k30.C w A1 (z3L xs i).f1.length (z3L xs i).f1:=by
 obtain ⟨ad,c,e,_,hK,hc0⟩:=Kd.z3R h z71 i h0 h1
 have hc : ∀ j u,c[j]? = some u → w.cell? (ad.add (i.toNat * 2 + j)) = some u:=hc0
 obtain ⟨A0,c0,A1,c1,rfl,l0,g0,l1,g1⟩:=z3T hK
 exact ⟨ad,A0,c0,A1,c1,e,hc 0 _ rfl,by rw [← z1S _ _ 1 zz92];exact hc 1 _ rfl,l0,g0,l1,g1⟩
structure S89 where
 f0 : (List S30)
 f1 : (List S30)
 f2 : (List S30)
def z89 : S89:=⟨([] : List S30),([] : List S30),([] : List S30)⟩
def k89 : Kd S89:=Kd.iso (Kd.pair (Kd.slice 30 k30) (Kd.pair (Kd.slice 30 k30) (Kd.slice 30 k30))) (fun x : S89=>(x.f0,x.f1,x.f2))
theorem k89_heap : Kd.Heap k89:=Kd.z2A _ (Kd.z21 (Kd.z2s 30 z3c) (Kd.z21 (Kd.z2s 30 z3c) (Kd.z2s 30 z3c)))
theorem z3u {w : World} {x : S89} {cs : List Value} (h : k89.K w x cs) : ∃ A0 c0 A1 c1 A2 c2,cs = [.slice A0 x.f0.length c0,.slice A1 x.f1.length c1,.slice A2 x.f2.length c2] ∧ x.f0.length ≤ c0 ∧ k30.C w A0 x.f0.length x.f0 ∧ x.f1.length ≤ c1 ∧ k30.C w A1 x.f1.length x.f1 ∧ x.f2.length ≤ c2 ∧ k30.C w A2 x.f2.length x.f2:=by
 obtain ⟨_,_,rfl,⟨A0,c0,rfl,l0,g0⟩,⟨_,_,rfl,⟨A1,c1,rfl,l1,g1⟩,⟨A2,c2,rfl,l2,g2⟩⟩⟩:=h
 exact ⟨A0,c0,A1,c1,A2,c2,rfl,l0,g0,l1,g1,l2,g2⟩
theorem k89_openM {w : World} {base : Nat} {ok : Nat → Prop} {x : S89} {cs : List Value} (h : k89.M w base ok x cs) : ∃ v0 v1 v2,cs = [v0,v1,v2] ∧ k30.R 30 w base ok v0 x.f0 ∧ k30.R 30 w base ok v1 x.f1 ∧ k30.R 30 w base ok v2 x.f2:=by
 obtain ⟨_,_,rfl,⟨v0,rfl,g0⟩,⟨_,_,rfl,⟨v1,rfl,g1⟩,⟨v2,rfl,g2⟩⟩⟩:=h
 exact ⟨v0,v1,v2,rfl,g0,g1,g2⟩
theorem k89_mk (w : World) (x : S89) {A0 : Option Addr} {c0 : Nat} (l0 : x.f0.length ≤ c0) (g0 : k30.C w A0 x.f0.length x.f0) {A1 : Option Addr} {c1 : Nat} (l1 : x.f1.length ≤ c1) (g1 : k30.C w A1 x.f1.length x.f1) {A2 : Option Addr} {c2 : Nat} (l2 : x.f2.length ≤ c2) (g2 : k30.C w A2 x.f2.length x.f2) : k89.K w x [.slice A0 x.f0.length c0,.slice A1 x.f1.length c1,.slice A2 x.f2.length c2]:=⟨[.slice A0 x.f0.length c0],[.slice A1 x.f1.length c1,.slice A2 x.f2.length c2],rfl,⟨A0,c0,rfl,l0,g0⟩,⟨[.slice A1 x.f1.length c1],[.slice A2 x.f2.length c2],rfl,⟨A1,c1,rfl,l1,g1⟩,⟨A2,c2,rfl,l2,g2⟩⟩⟩
theorem k89_mkM (w : World) (base : Nat) (ok : Nat → Prop) (x : S89) {v0 : Value} (g0 : k30.R 30 w base ok v0 x.f0) {v1 : Value} (g1 : k30.R 30 w base ok v1 x.f1) {v2 : Value} (g2 : k30.R 30 w base ok v2 x.f2) : k89.M w base ok x [v0,v1,v2]:=⟨[v0],[v1,v2],rfl,⟨v0,rfl,g0⟩,⟨[v1],[v2],rfl,⟨v1,rfl,g1⟩,⟨v2,rfl,g2⟩⟩⟩
theorem k89_openF {W : World} {ok : Nat → Prop} {x : S89} {cs : List Value} (h : Kd.FK k89 W ok x cs) : ∃ A0 c0 A1 c1 A2 c2,cs = [.slice A0 x.f0.length c0,.slice A1 x.f1.length c1,.slice A2 x.f2.length c2] ∧ x.f0.length ≤ c0 ∧ Kd.F k30 W ok A0 x.f0.length x.f0 ∧ x.f1.length ≤ c1 ∧ Kd.F k30 W ok A1 x.f1.length x.f1 ∧ x.f2.length ≤ c2 ∧ Kd.F k30 W ok A2 x.f2.length x.f2:=by
 obtain ⟨A0,c0,A1,c1,A2,c2,rfl,l0,_,l1,_,l2,_⟩:=z3u (Kd.z6q h)
 exact ⟨A0,c0,A1,c1,A2,c2,rfl,l0,(fun W' hW=>by obtain ⟨A0_,c0_,A1_,c1_,A2_,c2_,he,l0_,g0_,l1_,g1_,l2_,g2_⟩:=z3u (h W' hW);injection (Option.some.inj (show some (Value.slice A0 x.f0.length c0) = some (Value.slice A0_ x.f0.length c0_) from congrArg (fun l=>l[0]?) he)) with ha_ _ _;rw [ha_];exact g0_),l1,(fun W' hW=>by obtain ⟨A0_,c0_,A1_,c1_,A2_,c2_,he,l0_,g0_,l1_,g1_,l2_,g2_⟩:=z3u (h W' hW);injection (Option.some.inj (show some (Value.slice A1 x.f1.length c1) = some (Value.slice A1_ x.f1.length c1_) from congrArg (fun l=>l[1]?) he)) with ha_ _ _;rw [ha_];exact g1_),l2,(fun W' hW=>by obtain ⟨A0_,c0_,A1_,c1_,A2_,c2_,he,l0_,g0_,l1_,g1_,l2_,g2_⟩:=z3u (h W' hW);injection (Option.some.inj (show some (Value.slice A2 x.f2.length c2) = some (Value.slice A2_ x.f2.length c2_) from congrArg (fun l=>l[2]?) he)) with ha_ _ _;rw [ha_];exact g2_)⟩
theorem k89_mkF (W : World) (ok : Nat → Prop) (x : S89) {A0 : Option Addr} {c0 : Nat} (l0 : x.f0.length ≤ c0) (g0 : Kd.F k30 W ok A0 x.f0.length x.f0) {A1 : Option Addr} {c1 : Nat} (l1 : x.f1.length ≤ c1) (g1 : Kd.F k30 W ok A1 x.f1.length x.f1) {A2 : Option Addr} {c2 : Nat} (l2 : x.f2.length ≤ c2) (g2 : Kd.F k30 W ok A2 x.f2.length x.f2) : Kd.FK k89 W ok x [.slice A0 x.f0.length c0,.slice A1 x.f1.length c1,.slice A2 x.f2.length c2]:=fun W2 hW=>k89_mk W2 x l0 (g0 W2 hW) l1 (g1 W2 hW) l2 (g2 W2 hW)
def z2S (xs : List S89) (i : Int) : S89:=xs.getD i.toNat z89
theorem at_T89 {w : World} {A : Option Addr} {n : Nat} {xs : List S89} (h : Kd.C k89 w A n xs) (i : Int) (h0 : 0 ≤ i) (h1 : i < n) : ∃ ad A0 c0 A1 c1 A2 c2,A = some ad ∧ w.cell? (ad.add (i.toNat * 3)) = some (.slice A0 (z2S xs i).f0.length c0) ∧ w.cell? ⟨(ad.add (i.toNat * 3)).block,(ad.add (i.toNat * 3)).off + 1,none⟩ = some (.slice A1 (z2S xs i).f1.length c1) ∧ w.cell? ⟨(ad.add (i.toNat * 3)).block,(ad.add (i.toNat * 3)).off + 2,none⟩ = some (.slice A2 (z2S xs i).f2.length c2) ∧ (z2S xs i).f0.length ≤ c0 ∧ k30.C w A0 (z2S xs i).f0.length (z2S xs i).f0 ∧ (z2S xs i).f1.length ≤ c1 ∧ k30.C w A1 (z2S xs i).f1.length (z2S xs i).f1 ∧ (z2S xs i).f2.length ≤ c2 ∧ k30.C w A2 (z2S xs i).f2.length (z2S xs i).f2:=by
 obtain ⟨ad,c,e,_,hK,hc0⟩:=Kd.z3R h z89 i h0 h1
 have hc : ∀ j u,c[j]? = some u → w.cell? (ad.add (i.toNat * 3 + j)) = some u:=hc0
 obtain ⟨A0,c0,A1,c1,A2,c2,rfl,l0,g0,l1,g1,l2,g2⟩:=z3u hK
 exact ⟨ad,A0,c0,A1,c1,A2,c2,e,hc 0 _ rfl,by rw [← z1S _ _ 1 zz92];exact hc 1 _ rfl,by rw [← z1S _ _ 2 zz92];exact hc 2 _ rfl,l0,g0,l1,g1,l2,g2⟩
end Go.Proofs.Ytkhmpaooinpfoaa.P
namespace Go.Proofs.Ytkhmpaooinpfoaa.P
open Go.RowKit Go.Proofs.YtkhmpaooinpfoaaW.PrintWords Go.Proofs.YtkhmpaooinpfoaaW.PrintLast Go.Proofs.YtkhmpaooinpfoaaW.PrintMore
attribute [local go_sem] z12 z14 z1i z1j zU zV z13 z15   -- for this text's walks alone
set_option linter.unusedVariables false
set_option linter.unusedSimpArgs false
theorem eqA30 (d : Nat) (w : World) (x0 y0 : Int) (x1 y1 : Int) :
 (Op.equalIn (d + 2) 30 (.agg #[.int .u64 x0,.int .u64 x1]) (.agg #[.int .u64 y0,.int .u64 y1])).run Try.prog w = .ok (x0 == y0 && (x1 == y1)) w:=by
 refine eqA_of Try.underlying30 zz90 ?_
 refine z5R zz94 zz88 zz88 (by go_simp) ?_
 exact z5S zz94 zz88 zz88 (by go_simp)
end Go.Proofs.Ytkhmpaooinpfoaa.P
namespace Go.Proofs.Ytkhmpaooinpfoaa.P
open Go.RowKit Go.Proofs.YtkhmpaooinpfoaaW.PrintWords Go.Proofs.YtkhmpaooinpfoaaW.PrintLast Go.Proofs.YtkhmpaooinpfoaaW.PrintMore
attribute [local go_sem] z12 z14 z1i z1j zU zV z13 z15   -- for this text's walks alone
set_option linter.unusedVariables false
set_option linter.unusedSimpArgs false
theorem eqA40 (d : Nat) (w : World) (x0 y0 : Int) (x1 y1 : Int) :
 (Op.equalIn (d + 2) 40 (.agg #[.int .u64 x0,.int .u64 x1]) (.agg #[.int .u64 y0,.int .u64 y1])).run Try.prog w = .ok (x0 == y0 && (x1 == y1)) w:=by
 refine eqA_of Try.underlying40 zz90 ?_
 refine z5R zz94 zz88 zz88 (by go_simp) ?_
 exact z5S zz94 zz88 zz88 (by go_simp)
end Go.Proofs.Ytkhmpaooinpfoaa.P
namespace Go.Proofs.Ytkhmpaooinpfoaa.P
open Go.RowKit Go.Proofs.YtkhmpaooinpfoaaW.PrintWords Go.Proofs.YtkhmpaooinpfoaaW.PrintLast Go.Proofs.YtkhmpaooinpfoaaW.PrintMore
attribute [local go_sem] z12 z14 z1i z1j zU zV z13 z15   -- for this text's walks alone
set_option linter.unusedVariables false
set_option linter.unusedSimpArgs false
def zA.l0 : Nat → List (S30) → List (S40) → Int → Option ((List (S40)))
 | 0,_,_,_=>none
 | k + 1,x0,x3,x4=>if x4 < (x0.length : Int) then (if 0 ≤ x4 then (if x3.length < 8796093022208 then (zA.l0 k x0 (x3 ++ [(⟨(rd_T30 x0 x4).f0,(rd_T30 x0 x4).f1⟩ : S40)]) (wrap64 (x4 + 1))) else (none)) else (none)) else (some x3)
def zA.f (k : Nat) (l0 : List (S30)) : Option ((List (S40))):=zA.l0 k l0 ([] : List (S40)) 0
theorem zA.z17 : ∀ k,(∀ y0 y1 y2,LeO (zA.l0 k y0 y1 y2) (zA.l0 (k + 1) y0 y1 y2))
 | 0=>fun _ _ _ r h=>by simp [zA.l0] at h
 | k + 1=>by
  have ih0:=zA.z17 k
  · intro y0 y1 y2
    unfold zA.l0
    repeat' first
    | (with_reducible exact ih0 _ _ _)
    | (with_reducible exact LeO.refl _)
    | (with_reducible exact LeO.none _)
    | (with_reducible refine LeO.ite ?_ ?_)
    | (with_reducible refine LeO.bind ?_ (fun _=>?_))
    | exact ih0 _ _ _
    | exact LeO.none _
    | refine LeO.ite ?_ ?_
    | refine LeO.bind ?_ (fun _=>?_)
theorem zA.mono : ∀ a0 k,LeO (zA.f k a0) (zA.f (k + 1) a0):=by
 intro a0 k
 have ih0:=zA.z17 k
 unfold zA.f
 repeat' first
  | (with_reducible exact ih0 _ _ _)
  | (with_reducible exact LeO.refl _)
  | (with_reducible exact LeO.none _)
  | (with_reducible refine LeO.ite ?_ ?_)
  | (with_reducible refine LeO.bind ?_ (fun _=>?_))
  | exact ih0 _ _ _
  | exact LeO.none _
  | refine LeO.ite ?_ ?_
  | refine LeO.bind ?_ (fun _=>?_)
set_option maxHeartbeats 8000000 in
set_option maxRecDepth 100000 in
theorem zA.calls (k : Nat) (A0 : Option Addr) (c0 : Nat) (l0 : List (S30)) (r : List (S40)) (w : World) (hr0 : Kd.C k30 w A0 l0.length l0) (hc0 : l0.length ≤ c0) (h : zA.f k l0 = some r) :
 Calls Try.prog 14 #[.slice A0 l0.length c0] w fun e w'=>∃ v0_ : Value,e = .returned (v0_) ∧ Kd.R k40 40 w' w.heap.size (fun _=>True) v0_ r ∧ Below w.heap.size w w':=by
 have hu30:=Try.underlying30
 have HR0:=z1.mk hr0
 have HC0:=z1.mk hc0
 clear hr0 hc0
 have HB:=z1.mk (Below.refl w.heap.size w)
 have H : (zA.l0 k l0 ([] : List (S40)) 0) = some r:=h
 clear h
 have H':=z1.mk H
 clear H
 go_enter Try.func14,Try.ntmps14
 go_wp2
 go_loopg [3,4] k (fun kq v3 v4 w'=>∃ (x3_1 : List (S40)) (x4_1 : Int),v4 = .int .i64 x4_1 ∧ z1 (zA.l0 kq l0 x3_1 x4_1 = some r) ∧ z1 (kq ≤ k) ∧ z1 (Kd.R k40 40 w' w.heap.size (fun _=>True) v3 x3_1) ∧ z1 (Below w.heap.size w w'))
 case atStart=>exact ⟨(([] : List (S40))),(0),zz86,H',⟨Nat.le_refl _⟩,⟨by first|exact Kd.z2W _ _ _ _ _|exact Kd.z3k _ _ _ _ _|exact Kd.z3p _ _ _ _ _|exact Kd.z3m _ _ _ _ _|exact Kd.z3o _ _ _ _ _⟩,⟨by repeat (first|(with_reducible first|exact HB.out|apply zd|apply z2|apply z9)|exact HB.out)⟩⟩
 case round =>
  clear H'
  (try clear c1)
  obtain ⟨x3_1,x4_1,rfl,HA,HK1,HO_3,HB⟩:=hrel
  cases gk with
  | zero=>exact absurd HA.out (by simp [zA.l0])
  | succ k1 =>
   have H:=HA.out
   clear HA
   simp only [zA.l0] at H
   by_cases c2 : x4_1 < (l0.length : Int)
   rotate_left
   · rw [if_neg c2] at H
     have c2b0 : decide (x4_1 < (l0.length : Int)) = false:=decide_eq_false c2
     clear c2
     obtain rfl:=Option.some.inj H
     go_wp2
     go_ret
     exact ⟨_,by first|rfl|(simp [zg,zh] <;> rfl)|(simp [*,zg,zh] <;> rfl),by (with_reducible repeat (first|apply Kd.zI|apply Kd.zJ|apply Kd.zT));exact HO_3.out,by repeat (first|(with_reducible first|exact HB.out|apply zd|apply z2|apply z9)|exact HB.out)⟩
   rw [if_pos c2] at H
   have c2b0 : decide (x4_1 < (l0.length : Int)) = true:=decide_eq_true c2
   clear c2
   by_cases c3 : 0 ≤ x4_1
   rotate_left
   · rw [if_neg c3] at H
     exact absurd H zz93
   rw [if_pos c3] at H
   have c3b0 : decide (0 ≤ x4_1) = true:=decide_eq_true c3
   clear c3
   by_cases c4 : x3_1.length < 8796093022208
   rotate_left
   · rw [if_neg c4] at H
     exact absurd H zz93
   rw [if_pos c4] at H
   have LMc4:=z1.mk c4
   clear c4
   obtain ⟨y102,hy102⟩ : ∃ y_ : List (S40),y_ = (x3_1 ++ [(⟨(rd_T30 l0 x4_1).f0,(rd_T30 l0 x4_1).f1⟩ : S40)]):=⟨_,rfl⟩
   replace H : (zA.l0 k1 l0 y102 (wrap64 (x4_1 + 1))) = some r:=by first|(rw [hy102];with_reducible exact H)|(have H2_:=(Option.bind_some _ _).symm.trans H;rw [hy102];with_reducible exact H2_)|(have H2_:=(Option.bind_some _ _).symm.trans H;with_reducible exact H2_)|with_reducible exact H|(rw [hy102];exact H)|exact H
   have Ny102:=z1.mk hy102
   clear hy102
   have H':=z1.mk H
   clear H
   have p101 : 0 ≤ (x4_1 : Int):=of_decide_eq_true zz85
   have q101 : x4_1 < (l0.length : Int):=of_decide_eq_true zz85
   obtain ⟨ad101,e101,hx101_0,hx101_1⟩:=z20 HR0.out x4_1 p101 q101
   cases e101
   replace hx101_0:=(HB.out.cell (World.block_lt_of_cell? w _ hx101_0)).trans hx101_0
   replace hx101_1:=(HB.out.cell (World.block_lt_of_cell? w _ hx101_1)).trans hx101_1
   replace p101:=eq_true p101
   replace q101:=eq_true q101
   go_wp2_with (first|((with_reducible refine z2f (b:=.append) (xs:=#[.tmp 11,.tmp 16]) rfl ?_);at_builtin;refine Kd.z3n k40 (w0:=w) w.heap.size rfl (.tmp 11) (.tmp 16) 36 40 (.agg #[(.int .u64 0),(.int .u64 0)]) 16 rfl Try.underlying36 info40 rfl zz91 zz92 u3 x3_1 (⟨(rd_T30 l0 x4_1).f0,(rd_T30 l0 x4_1).f1⟩ : S40) [.int .u64 ((rd_T30 l0 x4_1).f0),.int .u64 ((rd_T30 l0 x4_1).f1)] (fun _=>True) (fun _=>False) rfl rfl ?aP (fun _ hk=>hk.elim) ?aF ?aO ?aB ?aS ?aL ?_;(case aP=>exact z4W _ _ _ (⟨(rd_T30 l0 x4_1).f0,(rd_T30 l0 x4_1).f1⟩ : S40));(case aB=>exact zz49);(case aF=>exact (fun _ _=>trivial));(case aO=>exact (by (with_reducible repeat (first|apply Kd.zI|apply Kd.zJ|apply Kd.zT));exact HO_3.out));(case aS=>exact (zb zz49));(case aL=>have:=LMc4.out;omega);intro v103 w5 ho hb hg hat;rw [← Ny102.out] at ho;have n0_:=z1.mk (hb);have n1_:=z1.mk (ho);clear HB;clear HO_3;have HB:=n0_;have HO104:=n1_;clear n0_ n1_;clear ho hb hg hat))
   go_roundg k1
   case measure=>have:=HK1.out;omega
   case rel=>exact ⟨(y102),(wrap64 (x4_1 + 1)),zz86,H',⟨by have:=HK1.out;omega⟩,⟨by (with_reducible repeat (first|apply Kd.zI|apply Kd.zJ|apply Kd.zT));exact HO104.out⟩,⟨by repeat (first|(with_reducible first|exact HB.out|apply zd|apply z2|apply z9)|exact HB.out)⟩⟩
end Go.Proofs.Ytkhmpaooinpfoaa.P
namespace Go.Proofs.Ytkhmpaooinpfoaa.P
open Go.RowKit Go.Proofs.YtkhmpaooinpfoaaW.PrintWords Go.Proofs.YtkhmpaooinpfoaaW.PrintLast Go.Proofs.YtkhmpaooinpfoaaW.PrintMore
attribute [local go_sem] z12 z14 z1i z1j zU zV z13 z15   -- for this text's walks alone
set_option linter.unusedVariables false
set_option linter.unusedSimpArgs false
def zx.j0 : Nat → Int → Bool → Option (Int)
 | 0,_,_=>none
 | k + 1,x0,x3=>if x3 = true then (some 0) else (if x0 ≤ 3 then (some 1) else (if 0 ≤ (wrap64 (x0 - 3)) then (some (shl .i64 1 (wrap64 (x0 - 3)))) else (none)))
def zx.f (k : Nat) (a0 : Int) : Option (Int):=if a0 < 0 then (zx.j0 k a0 true) else (zx.j0 k a0 (decide (a0 > 7)))
theorem zx.z17 : ∀ k,(∀ y0 y1,LeO (zx.j0 k y0 y1) (zx.j0 (k + 1) y0 y1))
 | 0=>fun _ _ r h=>by simp [zx.j0] at h
 | k + 1=>by
  have ih0:=zx.z17 k
  · intro y0 y1
    unfold zx.j0
    repeat' first
    | (with_reducible exact ih0 _ _)
    | (with_reducible exact LeO.refl _)
    | (with_reducible exact LeO.none _)
    | (with_reducible refine LeO.ite ?_ ?_)
    | (with_reducible refine LeO.bind ?_ (fun _=>?_))
    | exact ih0 _ _
    | exact LeO.none _
    | refine LeO.ite ?_ ?_
    | refine LeO.bind ?_ (fun _=>?_)
theorem zx.mono : ∀ a0 k,LeO (zx.f k a0) (zx.f (k + 1) a0):=by
 intro a0 k
 have ih0:=zx.z17 k
 unfold zx.f
 repeat' first
  | (with_reducible exact ih0 _ _)
  | (with_reducible exact LeO.refl _)
  | (with_reducible exact LeO.none _)
  | (with_reducible refine LeO.ite ?_ ?_)
  | (with_reducible refine LeO.bind ?_ (fun _=>?_))
  | exact ih0 _ _
  | exact LeO.none _
  | refine LeO.ite ?_ ?_
  | refine LeO.bind ?_ (fun _=>?_)
set_option maxHeartbeats 8000000 in
set_option maxRecDepth 100000 in
theorem zx.calls (k : Nat) (a0 : Int) (r : Int) (w : World) (h : zx.f k a0 = some r) :
 Calls Try.prog 60 #[.int .i64 a0] w fun e w'=>e = .returned (.int .i64 r) ∧ Drawn0 w w':=by
 have H : (if a0 < 0 then (zx.j0 k a0 true) else (zx.j0 k a0 (decide (a0 > 7)))) = some r:=h
 clear h
 have HC2:=z1.mk H
 clear H
 go_enter Try.func60,Try.ntmps60
 go_upto_region 1 with (fail)
 go_cut [3] (fun v3 wc=>∃ (kq : Nat) (x3_1 : Bool),v3 = .bool x3_1 ∧ z1 (zx.j0 kq a0 x3_1 = some r) ∧ z1 (kq ≤ k) ∧ Drawn0 w wc)
 case first =>
  have H:=HC2.out
  clear HC2
  by_cases c3 : a0 < 0
  rotate_left
  · rw [if_neg c3] at H
    have c3b0 : decide (a0 < 0) = false:=decide_eq_false c3
    clear c3
    (first|rw [c3b0]|(simp only [zH,zP];rw [c3b0])|skip)
    have H':=z1.mk H
    clear H
    go_wp2
    go_meet
    case rel=>exact ⟨_,(decide (a0 > 7)),zz86,H',⟨by first|omega|exact Nat.le_refl _⟩,by repeat (first|exact Drawn0.refl _|apply Drawn0.step)⟩
  rw [if_pos c3] at H
  have c3b0 : decide (a0 < 0) = true:=decide_eq_true c3
  clear c3
  (first|rw [c3b0]|(simp only [zH,zP];rw [c3b0])|skip)
  have H':=z1.mk H
  clear H
  go_wp2
  go_meet
  case rel=>exact ⟨_,(true),zz86,H',⟨by first|omega|exact Nat.le_refl _⟩,by repeat (first|exact Drawn0.refl _|apply Drawn0.step)⟩
 case rest =>
  clear HC2
  (try clear p2);(try clear c3);(try clear c3b0)
  obtain ⟨kq,x3_1,rfl,HA,HJ1,⟨mc1,rfl⟩⟩:=hcut
  cases kq with
  | zero=>exact absurd HA.out (by simp [zx.j0])
  | succ kj1 =>
   have H:=HA.out
   clear HA
   simp only [zx.j0] at H
   by_cases c4 : x3_1 = true
   · subst c4
     have H1 : (some 0) = some r:=by rw [if_pos rfl] at H;exact H
     clear H
     have H:=H1
     clear H1
     obtain rfl:=Option.some.inj H
     go_wp2
     go_ret
     exact ⟨by first|rfl|(simp;done)|(simp [*];done),by repeat (first|exact Drawn0.refl _|apply Drawn0.step)⟩
   replace c4:=Bool.eq_false_iff.mpr c4
   subst c4
   have H1 : (if a0 ≤ 3 then (some 1) else (if 0 ≤ (wrap64 (a0 - 3)) then (some (shl .i64 1 (wrap64 (a0 - 3)))) else (none))) = some r:=by rw [if_neg (show ¬ (false = true) by decide)] at H;exact H
   clear H
   have H:=H1
   clear H1
   by_cases c5 : a0 ≤ 3
   · rw [if_pos c5] at H
     have c5b0 : decide (a0 ≤ 3) = true:=decide_eq_true c5
     clear c5
     obtain rfl:=Option.some.inj H
     go_wp2
     go_ret
     exact ⟨by first|rfl|(simp;done)|(simp [*];done),by repeat (first|exact Drawn0.refl _|apply Drawn0.step)⟩
   rw [if_neg c5] at H
   have c5b0 : decide (a0 ≤ 3) = false:=decide_eq_false c5
   clear c5
   obtain ⟨ji6,hji6⟩ : ∃ j_ : Int,(wrap64 (a0 - 3)) = j_:=⟨_,rfl⟩
   replace H : (if 0 ≤ (ji6) then (some (shl .i64 1 (ji6))) else (none)) = some r:=by first|(rw [hji6] at H;exact H)|(simp only [hji6] at H ⊢;exact H)
   have hji6w : (IntKind.i64.wrap (a0 - 3)) = ji6:=(zH _).trans hji6
   by_cases c7 : 0 ≤ (ji6)
   rotate_left
   · rw [if_neg c7] at H
     exact absurd H zz93
   rw [if_pos c7] at H
   have c7b0:=eq_true c7
   have c7b1 : decide (0 ≤ (ji6)) = true:=decide_eq_true c7
   clear c7
   obtain ⟨ji8,hji8⟩ : ∃ j_ : Int,(shl .i64 1 (ji6)) = j_:=⟨_,rfl⟩
   replace H : (some ji8) = some r:=by first|(rw [hji8] at H;exact H)|(simp only [hji8] at H ⊢;exact H)
   have hji8_ : (IntKind.i64.wrap (1 * 2 ^ min (ji6).toNat 64)) = ji8:=hji8
   have hji8z : (ji6) ≤ 64 → (IntKind.i64.wrap (1 * 2 ^ (ji6).toNat)) = ji8:=z1K hji8
   have hji8u : (IntKind.i64.wrap (2 ^ min (ji6).toNat 64)) = ji8:=by have h_:=hji8_;rw [Int.one_mul] at h_;exact h_
   have hji8v : (ji6) ≤ 64 → (IntKind.i64.wrap (2 ^ (ji6).toNat)) = ji8:=fun hle_=>by have h_:=hji8z hle_;rw [Int.one_mul] at h_;exact h_
   have hji8y : (wrap64 (1 * 2 ^ min (ji6).toNat 64)) = ji8:=(zH _).symm.trans hji8_
   have hji8x : (ji6) ≤ 64 → (wrap64 (1 * 2 ^ (ji6).toNat)) = ji8:=fun h_=>(zH _).symm.trans (hji8z h_)
   obtain rfl:=Option.some.inj H
   go_wp2
   go_ret
   exact ⟨by first|rfl|(simp;done)|(simp only [← hji6,← hji8] <;> (first|rfl|simp))|(simp [*];done),by repeat (first|exact Drawn0.refl _|apply Drawn0.step)⟩
end Go.Proofs.Ytkhmpaooinpfoaa.P
namespace Go.Proofs.Ytkhmpaooinpfoaa.P
open Go.RowKit Go.Proofs.YtkhmpaooinpfoaaW.PrintWords Go.Proofs.YtkhmpaooinpfoaaW.PrintLast Go.Proofs.YtkhmpaooinpfoaaW.PrintMore
attribute [local go_sem] z12 z14 z1i z1j zU zV z13 z15   -- for this text's walks alone
set_option linter.unusedVariables false
set_option linter.unusedSimpArgs false
def z1t.f (a0_0 : Int) (a0_1 : Int) (a1_0 : Int) (a1_1 : Int) : Option (Int × Int):=some (Go.bits .xor .u64 a0_0 a1_0,Go.bits .xor .u64 a0_1 a1_1)
set_option maxHeartbeats 8000000 in
set_option maxRecDepth 100000 in
theorem z1t.calls (a0_0 : Int) (a0_1 : Int) (a1_0 : Int) (a1_1 : Int) (r1 : Int) (r2 : Int) (w : World) (h : z1t.f a0_0 a0_1 a1_0 a1_1 = some (r1,r2)) :
 Calls Try.prog 64 #[.agg #[.int .u64 a0_0,.int .u64 a0_1],.agg #[.int .u64 a1_0,.int .u64 a1_1]] w fun e w'=>e = .returned (.agg #[.int .u64 r1,.int .u64 r2]) ∧ Below w.heap.size w w':=by
 have hu30:=Try.underlying30
 have HB:=z1.mk (Below.refl w.heap.size w)
 have H : (some (Go.bits .xor .u64 a0_0 a1_0,Go.bits .xor .u64 a0_1 a1_1)) = some (r1,r2):=h
 clear h
 simp only [Option.some.injEq,Prod.mk.injEq] at H
 obtain ⟨rfl,rfl⟩:=H
 go_enter Try.func64,Try.ntmps64
 go_wp2_with (first|((with_reducible refine zp (N:=2) rfl ?_);refine zt ?hg (N:=2) ?hd (cs:=#[.int .u64 a0_0,.int .u64 a0_1]) (t:=30) ?hr ?_;(case hd=>rfl);(case hg=>rfl);(case hr=>first|(go_simp;done)|(go_simp;rfl));intro gb101 hg w3 hbox hb;have n0_:=z1.mk (z3 zz49 hb);have n1_:=z1.mk (hbox);have n2_:=z1.mk ((by rw [hg];exact (zb zz49) : w.heap.size ≤ gb101));have n3_:=z1.mk ((by rw [hg];exact (zb zz49) : w.heap.size ≤ gb101));clear HB;have HB:=n0_;have BK101:=n1_;have GW101:=n2_;have GE101:=n3_;clear n0_ n1_ n2_ n3_;clear hb hbox hg)|((with_reducible refine zp (N:=3) rfl ?_);refine zt ?hg (N:=3) ?hd (cs:=#[.int .u64 a1_0,.int .u64 a1_1]) (t:=30) ?hr ?_;(case hd=>rfl);(case hg=>rfl);(case hr=>first|(go_simp;done)|(go_simp;rfl));intro gb102 hg w4 hbox hb;have n0_:=z1.mk (zc (g:=gb101) (o:=.cells #[.int .u64 a0_0,.int .u64 a0_1] 30 (0,0)) zz50 hb);have n1_:=z1.mk (z3 zz43 hb);have n2_:=z1.mk (hbox);have n3_:=z1.mk ((by rw [hg];exact (zb zz43) : w.heap.size ≤ gb102));have n4_:=z1.mk ((by rw [hg];exact (zb zz43) : w.heap.size ≤ gb102));have n5_:=z1.mk ((by rw [hg];exact Nat.ne_of_lt (zL (g:=gb101) (o:=.cells #[.int .u64 a0_0,.int .u64 a0_1] 30 (0,0)) zz50) : gb101 ≠ gb102));have n6_:=z1.mk ((by rw [hg];exact Nat.ne_of_gt (zL (g:=gb101) (o:=.cells #[.int .u64 a0_0,.int .u64 a0_1] 30 (0,0)) zz50) : gb102 ≠ gb101));clear BK101;clear HB;have BK101:=n0_;have HB:=n1_;have BK102:=n2_;have GW102:=n3_;have GE102:=n4_;have NB101_102:=n5_;have NB102_101:=n6_;clear n0_ n1_ n2_ n3_ n4_ n5_ n6_;clear hb hbox hg)|((with_reducible refine zp (N:=4) rfl ?_);refine zt ?hg (N:=4) ?hd (cs:=#[.int .u64 0,.int .u64 0]) (t:=30) ?hr ?_;(case hd=>rfl);(case hg=>rfl);(case hr=>first|(go_simp;done)|(go_simp;rfl));intro gb103 hg w5 hbox hb;have n0_:=z1.mk (zc (g:=gb101) (o:=.cells #[.int .u64 a0_0,.int .u64 a0_1] 30 (0,0)) zz50 hb);have n1_:=z1.mk (zc (g:=gb102) (o:=.cells #[.int .u64 a1_0,.int .u64 a1_1] 30 (0,0)) zz51 hb);have n2_:=z1.mk (z3 zz36 hb);have n3_:=z1.mk (hbox);have n4_:=z1.mk ((by rw [hg];exact (zb zz36) : w.heap.size ≤ gb103));have n5_:=z1.mk ((by rw [hg];exact (zb zz36) : w.heap.size ≤ gb103));have n6_:=z1.mk ((by rw [hg];exact Nat.ne_of_lt (zL (g:=gb101) (o:=.cells #[.int .u64 a0_0,.int .u64 a0_1] 30 (0,0)) zz50) : gb101 ≠ gb103));have n7_:=z1.mk ((by rw [hg];exact Nat.ne_of_gt (zL (g:=gb101) (o:=.cells #[.int .u64 a0_0,.int .u64 a0_1] 30 (0,0)) zz50) : gb103 ≠ gb101));have n8_:=z1.mk ((by rw [hg];exact Nat.ne_of_lt (zL (g:=gb102) (o:=.cells #[.int .u64 a1_0,.int .u64 a1_1] 30 (0,0)) zz51) : gb102 ≠ gb103));have n9_:=z1.mk ((by rw [hg];exact Nat.ne_of_gt (zL (g:=gb102) (o:=.cells #[.int .u64 a1_0,.int .u64 a1_1] 30 (0,0)) zz51) : gb103 ≠ gb102));clear BK101;clear BK102;clear HB;have BK101:=n0_;have BK102:=n1_;have HB:=n2_;have BK103:=n3_;have GW103:=n4_;have GE103:=n5_;have NB101_103:=n6_;have NB103_101:=n7_;have NB102_103:=n8_;have NB103_102:=n9_;clear n0_ n1_ n2_ n3_ n4_ n5_ n6_ n7_ n8_ n9_;clear hb hbox hg;have hnb6:=NB101_102.out;have hnc6:=NB102_101.out;have hnb7:=NB101_103.out;have hnc7:=NB103_101.out;have hcz8_0 : w5.cell? ⟨gb101,0,none⟩ = some (.int .u64 a0_0):=(z7 BK101.out 0).trans rfl;have hcz8_1 : w5.cell? ⟨gb101,1,none⟩ = some (.int .u64 a0_1):=(z7 BK101.out 1).trans rfl;have hfz8_0:=z6 BK101.out 0;have hfz8_1:=z6 BK101.out 1;have hnb9:=NB102_103.out;have hnc9:=NB103_102.out;have hcz10_0 : w5.cell? ⟨gb102,0,none⟩ = some (.int .u64 a1_0):=(z7 BK102.out 0).trans rfl;have hcz10_1 : w5.cell? ⟨gb102,1,none⟩ = some (.int .u64 a1_1):=(z7 BK102.out 1).trans rfl;have hfz10_0:=z6 BK102.out 0;have hfz10_1:=z6 BK102.out 1;have hcz11_0 : w5.cell? ⟨gb103,0,none⟩ = some (.int .u64 0):=(z7 BK103.out 0).trans rfl;have hcz11_1 : w5.cell? ⟨gb103,1,none⟩ = some (.int .u64 0):=(z7 BK103.out 1).trans rfl;have hfz11_0:=z6 BK103.out 0;have hfz11_1:=z6 BK103.out 1))
 refine bodyPost_ret (results_cell_row rfl _ _ gb103 30 #[.int .u64 (Go.bits .xor .u64 a0_0 a1_0),.int .u64 (Go.bits .xor .u64 a0_1 a1_1)] (0,0) _ rfl zz0 Try.underlying30 rfl zz90) rfl ?_
 exact ⟨by first|rfl|(simp [zg,zh] <;> rfl)|(simp [*,zg,zh] <;> rfl),by repeat (first|(with_reducible first|exact HB.out|apply zd|apply z2|apply z9|refine za ?_ GE101.out|refine za ?_ GE102.out|refine za ?_ GE103.out)|exact HB.out)⟩
end Go.Proofs.Ytkhmpaooinpfoaa.P
namespace Go.Proofs.Ytkhmpaooinpfoaa.P
open Go.RowKit Go.Proofs.YtkhmpaooinpfoaaW.PrintWords Go.Proofs.YtkhmpaooinpfoaaW.PrintLast Go.Proofs.YtkhmpaooinpfoaaW.PrintMore
attribute [local go_sem] z12 z14 z1i z1j zU zV z13 z15   -- for this text's walks alone
set_option linter.unusedVariables false
set_option linter.unusedSimpArgs false
def zF.j0 : Nat → Int → Bool → Int → Int → Option (Bool)
 | 0,_,_,_,_=>none
 | k + 1,x0,x5,x102000,x102001=>if x5 = true then (some false) else (if x0 = 7 then (some true) else (if x0 = 6 then (some (x102000 == 0)) else (if x102000 = 0 then (if 0 ≤ x0 then (some ((shr .u64 x102001 (shl .u64 1 x0)) == 0)) else (none)) else (some false))))
def zF.f (k : Nat) (a0 : Int) (a1_0 : Int) (a1_1 : Int) : Option (Bool):=if a0 < 0 then (zF.j0 k a0 true a1_0 a1_1) else (zF.j0 k a0 (decide (a0 > 7)) a1_0 a1_1)
theorem zF.z17 : ∀ k,(∀ y0 y1 y2 y3,LeO (zF.j0 k y0 y1 y2 y3) (zF.j0 (k + 1) y0 y1 y2 y3))
 | 0=>fun _ _ _ _ r h=>by simp [zF.j0] at h
 | k + 1=>by
  have ih0:=zF.z17 k
  · intro y0 y1 y2 y3
    unfold zF.j0
    repeat' first
    | (with_reducible exact ih0 _ _ _ _)
    | (with_reducible exact LeO.refl _)
    | (with_reducible exact LeO.none _)
    | (with_reducible refine LeO.ite ?_ ?_)
    | (with_reducible refine LeO.bind ?_ (fun _=>?_))
    | exact ih0 _ _ _ _
    | exact LeO.none _
    | refine LeO.ite ?_ ?_
    | refine LeO.bind ?_ (fun _=>?_)
theorem zF.mono : ∀ a0 a1 a2 k,LeO (zF.f k a0 a1 a2) (zF.f (k + 1) a0 a1 a2):=by
 intro a0 a1 a2 k
 have ih0:=zF.z17 k
 unfold zF.f
 repeat' first
  | (with_reducible exact ih0 _ _ _ _)
  | (with_reducible exact LeO.refl _)
  | (with_reducible exact LeO.none _)
  | (with_reducible refine LeO.ite ?_ ?_)
  | (with_reducible refine LeO.bind ?_ (fun _=>?_))
  | exact ih0 _ _ _ _
  | exact LeO.none _
  | refine LeO.ite ?_ ?_
  | refine LeO.bind ?_ (fun _=>?_)
set_option maxHeartbeats 8000000 in
set_option maxRecDepth 100000 in
theorem zF.calls (k : Nat) (a0 : Int) (a1_0 : Int) (a1_1 : Int) (r : Bool) (w : World) (h : zF.f k a0 a1_0 a1_1 = some r) :
 Calls Try.prog 81 #[.int .i64 a0,.agg #[.int .u64 a1_0,.int .u64 a1_1]] w fun e w'=>e = .returned (.bool r) ∧ Below w.heap.size w w':=by
 have hu30:=Try.underlying30
 have HB:=z1.mk (Below.refl w.heap.size w)
 have H : (if a0 < 0 then (zF.j0 k a0 true a1_0 a1_1) else (zF.j0 k a0 (decide (a0 > 7)) a1_0 a1_1)) = some r:=h
 clear h
 have HC3:=z1.mk H
 clear H
 go_enter Try.func81,Try.ntmps81
 go_upto_region 1 with (first|((with_reducible refine zp (N:=3) rfl ?_);refine zt ?hg (N:=3) ?hd (cs:=#[.int .u64 a1_0,.int .u64 a1_1]) (t:=30) ?hr ?_;(case hd=>rfl);(case hg=>rfl);(case hr=>first|(go_simp;done)|(go_simp;rfl));intro gb101 hg w4 hbox hb;have n0_:=z1.mk (z3 zz49 hb);have n1_:=z1.mk (hbox);have n2_:=z1.mk ((by rw [hg];exact (zb zz49) : w.heap.size ≤ gb101));have n3_:=z1.mk ((by rw [hg];exact (zb zz49) : w.heap.size ≤ gb101));clear HB;have HB:=n0_;have BK101:=n1_;have GW101:=n2_;have GE101:=n3_;clear n0_ n1_ n2_ n3_;clear hb hbox hg))
 repeat (go_quiet (first|((with_reducible refine zp (N:=3) rfl ?_);refine zt ?hg (N:=3) ?hd (cs:=#[.int .u64 a1_0,.int .u64 a1_1]) (t:=30) ?hr ?_;(case hd=>rfl);(case hg=>rfl);(case hr=>first|(go_simp;done)|(go_simp;rfl));intro gb101 hg w4 hbox hb;have n0_:=z1.mk (z3 zz49 hb);have n1_:=z1.mk (hbox);have n2_:=z1.mk ((by rw [hg];exact (zb zz49) : w.heap.size ≤ gb101));have n3_:=z1.mk ((by rw [hg];exact (zb zz49) : w.heap.size ≤ gb101));clear HB;have HB:=n0_;have BK101:=n1_;have GW101:=n2_;have GE101:=n3_;clear n0_ n1_ n2_ n3_;clear hb hbox hg));go_upto_region 1 with (first|((with_reducible refine zp (N:=3) rfl ?_);refine zt ?hg (N:=3) ?hd (cs:=#[.int .u64 a1_0,.int .u64 a1_1]) (t:=30) ?hr ?_;(case hd=>rfl);(case hg=>rfl);(case hr=>first|(go_simp;done)|(go_simp;rfl));intro gb101 hg w4 hbox hb;have n0_:=z1.mk (z3 zz49 hb);have n1_:=z1.mk (hbox);have n2_:=z1.mk ((by rw [hg];exact (zb zz49) : w.heap.size ≤ gb101));have n3_:=z1.mk ((by rw [hg];exact (zb zz49) : w.heap.size ≤ gb101));clear HB;have HB:=n0_;have BK101:=n1_;have GW101:=n2_;have GE101:=n3_;clear n0_ n1_ n2_ n3_;clear hb hbox hg)))
 (try simp only [Act.put,List.setIfInBounds_toArray,List.set_cons_zero,List.set_cons_succ])
 go_cut [5] (fun v5 wc=>∃ (kq : Nat) (x5_2 : Bool),v5 = .bool x5_2 ∧ z1 (zF.j0 kq a0 x5_2 a1_0 a1_1 = some r) ∧ z1 (kq ≤ k) ∧ z1 (wc.heap[gb101]? = some (.cells #[.int .u64 a1_0,.int .u64 a1_1] 30 (0,0))) ∧ z1 (Below w.heap.size w wc))
 case first =>
  have H:=HC3.out
  clear HC3
  by_cases c5 : a0 < 0
  rotate_left
  · rw [if_neg c5] at H
    have c5b0 : decide (a0 < 0) = false:=decide_eq_false c5
    clear c5
    (first|rw [c5b0]|(simp only [zH,zP];rw [c5b0])|skip)
    have H':=z1.mk H
    clear H
    go_wp2
    repeat (go_quiet (fail);try go_wp2)
    go_meet
    case rel=>exact ⟨_,(decide (a0 > 7)),zz86,H',⟨by first|omega|exact Nat.le_refl _⟩,⟨by (with_reducible repeat (first|refine z5 ?_ _|refine z8 ?_|refine z4 ?_ _));exact BK101.out⟩,⟨by repeat (first|(with_reducible first|exact HB.out|apply zd|apply z2|apply z9|refine za ?_ GE101.out)|exact HB.out)⟩⟩
  rw [if_pos c5] at H
  have c5b0 : decide (a0 < 0) = true:=decide_eq_true c5
  clear c5
  (first|rw [c5b0]|(simp only [zH,zP];rw [c5b0])|skip)
  have H':=z1.mk H
  clear H
  go_wp2
  repeat (go_quiet (fail);try go_wp2)
  go_meet
  case rel=>exact ⟨_,(true),zz86,H',⟨by first|omega|exact Nat.le_refl _⟩,⟨by (with_reducible repeat (first|refine z5 ?_ _|refine z8 ?_|refine z4 ?_ _));exact BK101.out⟩,⟨by repeat (first|(with_reducible first|exact HB.out|apply zd|apply z2|apply z9|refine za ?_ GE101.out)|exact HB.out)⟩⟩
 case rest =>
  clear HC3
  (try clear p2);(try clear c5);(try clear c5b0)
  obtain ⟨kq,x5_2,rfl,HA,HJ2,BK101,HB⟩:=hcut
  cases kq with
  | zero=>exact absurd HA.out (by simp [zF.j0])
  | succ kj2 =>
   have H:=HA.out
   clear HA
   simp only [zF.j0] at H
   by_cases c6 : x5_2 = true
   · subst c6
     have H1 : (some false) = some r:=by rw [if_pos rfl] at H;exact H
     clear H
     have H:=H1
     clear H1
     obtain rfl:=Option.some.inj H
     go_wp2
     repeat (go_quiet (fail);try go_wp2)
     go_ret
     exact ⟨by first|rfl|(simp [zg,zh] <;> rfl)|(simp [*,zg,zh] <;> rfl),by repeat (first|(with_reducible first|exact HB.out|apply zd|apply z2|apply z9|refine za ?_ GE101.out)|exact HB.out)⟩
   replace c6:=Bool.eq_false_iff.mpr c6
   subst c6
   have H1 : (if a0 = 7 then (some true) else (if a0 = 6 then (some (a1_0 == 0)) else (if a1_0 = 0 then (if 0 ≤ a0 then (some ((shr .u64 a1_1 (shl .u64 1 a0)) == 0)) else (none)) else (some false)))) = some r:=by rw [if_neg (show ¬ (false = true) by decide)] at H;exact H
   clear H
   have H:=H1
   clear H1
   by_cases c7 : a0 = 7
   · rw [if_pos c7] at H
     have c7b0 : (a0 == 7) = true:=beq_iff_eq.mpr c7
     have c7b1 : (a0 != 7) = false:=bne_eq_false_iff_eq.mpr c7
     clear c7
     obtain rfl:=Option.some.inj H
     go_wp2
     repeat (go_quiet (fail);try go_wp2)
     go_ret
     exact ⟨by first|rfl|(simp [zg,zh] <;> rfl)|(simp [*,zg,zh] <;> rfl),by repeat (first|(with_reducible first|exact HB.out|apply zd|apply z2|apply z9|refine za ?_ GE101.out)|exact HB.out)⟩
   rw [if_neg c7] at H
   have c7b0 : (a0 == 7) = false:=beq_eq_false_iff_ne.mpr c7
   have c7b1 : (a0 != 7) = true:=bne_iff_ne.mpr c7
   by_cases c8 : a0 = 6
   · rw [if_pos c8] at H
     have c8b0 : (a0 == 6) = true:=beq_iff_eq.mpr c8
     have c8b1 : (a0 != 6) = false:=bne_eq_false_iff_eq.mpr c8
     clear c8
     obtain rfl:=Option.some.inj H
     have hcz9_0 : wc.cell? ⟨gb101,0,none⟩ = some (.int .u64 a1_0):=(z7 BK101.out 0).trans rfl
     have hcz9_1 : wc.cell? ⟨gb101,1,none⟩ = some (.int .u64 a1_1):=(z7 BK101.out 1).trans rfl
     have hfz9_0:=z6 BK101.out 0
     have hfz9_1:=z6 BK101.out 1
     go_wp2
     repeat (go_quiet (fail);try go_wp2)
     go_ret
     exact ⟨by first|rfl|(simp [zg,zh] <;> rfl)|(simp [*,zg,zh] <;> rfl),by repeat (first|(with_reducible first|exact HB.out|apply zd|apply z2|apply z9|refine za ?_ GE101.out)|exact HB.out)⟩
   rw [if_neg c8] at H
   have c8b0 : (a0 == 6) = false:=beq_eq_false_iff_ne.mpr c8
   have c8b1 : (a0 != 6) = true:=bne_iff_ne.mpr c8
   by_cases c10 : a1_0 = 0
   rotate_left
   · rw [if_neg c10] at H
     have c10b0 : (a1_0 == 0) = false:=beq_eq_false_iff_ne.mpr c10
     have c10b1 : (a1_0 != 0) = true:=bne_iff_ne.mpr c10
     obtain rfl:=Option.some.inj H
     have hcz15_0 : wc.cell? ⟨gb101,0,none⟩ = some (.int .u64 a1_0):=(z7 BK101.out 0).trans rfl
     have hcz15_1 : wc.cell? ⟨gb101,1,none⟩ = some (.int .u64 a1_1):=(z7 BK101.out 1).trans rfl
     have hfz15_0:=z6 BK101.out 0
     have hfz15_1:=z6 BK101.out 1
     go_wp2
     repeat (go_quiet (fail);try go_wp2)
     go_ret
     exact ⟨by first|rfl|(simp [zg,zh] <;> rfl)|(simp [*,zg,zh] <;> rfl),by repeat (first|(with_reducible first|exact HB.out|apply zd|apply z2|apply z9|refine za ?_ GE101.out)|exact HB.out)⟩
   rw [if_pos c10] at H
   have c10b0 : (a1_0 == 0) = true:=beq_iff_eq.mpr c10
   have c10b1 : (a1_0 != 0) = false:=bne_eq_false_iff_eq.mpr c10
   clear c10
   by_cases c11 : 0 ≤ a0
   rotate_left
   · rw [if_neg c11] at H
     exact absurd H zz93
   rw [if_pos c11] at H
   have c11b0:=eq_true c11
   have c11b1 : decide (0 ≤ a0) = true:=decide_eq_true c11
   clear c11
   obtain ⟨ji12,hji12⟩ : ∃ j_ : Int,(shl .u64 1 a0) = j_:=⟨_,rfl⟩
   replace H : (some ((shr .u64 a1_1 (ji12)) == 0)) = some r:=by first|(rw [hji12] at H;exact H)|(simp only [hji12] at H ⊢;exact H)
   have hji12_ : (IntKind.u64.wrap (1 * 2 ^ min a0.toNat 64)) = ji12:=hji12
   have hji12z : a0 ≤ 64 → (IntKind.u64.wrap (1 * 2 ^ a0.toNat)) = ji12:=z1K hji12
   have hji12n0 : 0 ≤ ji12:=by rw [← hji12];exact Int.emod_nonneg _ zz91
   have hji12n1 : decide (0 ≤ ji12) = true:=decide_eq_true hji12n0
   replace hji12n0:=eq_true hji12n0
   have hji12u : (IntKind.u64.wrap (2 ^ min a0.toNat 64)) = ji12:=by have h_:=hji12_;rw [Int.one_mul] at h_;exact h_
   have hji12v : a0 ≤ 64 → (IntKind.u64.wrap (2 ^ a0.toNat)) = ji12:=fun hle_=>by have h_:=hji12z hle_;rw [Int.one_mul] at h_;exact h_
   obtain ⟨ji13,hji13⟩ : ∃ j_ : Int,(shr .u64 a1_1 (ji12)) = j_:=⟨_,rfl⟩
   replace H : (some ((ji13) == 0)) = some r:=by first|(rw [hji13] at H;exact H)|(simp only [hji13] at H ⊢;exact H)
   have hji13_ : (a1_1 / 2 ^ min (ji12).toNat 64) = ji13:=hji13
   have hji13z : (ji12) ≤ 64 → (a1_1 / 2 ^ (ji12).toNat) = ji13:=z2K hji13
   obtain rfl:=Option.some.inj H
   have hcz14_0 : wc.cell? ⟨gb101,0,none⟩ = some (.int .u64 a1_0):=(z7 BK101.out 0).trans rfl
   have hcz14_1 : wc.cell? ⟨gb101,1,none⟩ = some (.int .u64 a1_1):=(z7 BK101.out 1).trans rfl
   have hfz14_0:=z6 BK101.out 0
   have hfz14_1:=z6 BK101.out 1
   go_wp2
   repeat (go_quiet (fail);try go_wp2)
   go_ret
   exact ⟨by first|rfl|(simp [zg,zh] <;> rfl)|(simp only [← hji12,← hji13];first|rfl|(simp [zg,zh] <;> rfl))|(simp [*,zg,zh] <;> rfl),by repeat (first|(with_reducible first|exact HB.out|apply zd|apply z2|apply z9|refine za ?_ GE101.out)|exact HB.out)⟩
end Go.Proofs.Ytkhmpaooinpfoaa.P
namespace Go.Proofs.Ytkhmpaooinpfoaa.P
open Go.RowKit Go.Proofs.YtkhmpaooinpfoaaW.PrintWords Go.Proofs.YtkhmpaooinpfoaaW.PrintLast Go.Proofs.YtkhmpaooinpfoaaW.PrintMore
attribute [local go_sem] z12 z14 z1i z1j zU zV z13 z15   -- for this text's walks alone
set_option linter.unusedVariables false
set_option linter.unusedSimpArgs false
def z1F.f (a0 : Int) (a1 : Int) : Option (Int × Int):=if 0 ≤ (wrap64 (a0 - 1)) then (if 0 ≤ (shl .i64 1 (wrap64 (a0 - 1))) then (some (shr .u64 a1 (shl .i64 1 (wrap64 (a0 - 1))),Go.bits .and .u64 a1 (IntKind.u64.wrap ((shl .u64 1 (shl .i64 1 (wrap64 (a0 - 1)))) - 1)))) else (none)) else (none)
set_option maxHeartbeats 8000000 in
set_option maxRecDepth 100000 in
theorem z1F.calls (a0 : Int) (a1 : Int) (r1 : Int) (r2 : Int) (w : World) (h : z1F.f a0 a1 = some (r1,r2)) :
 Calls Try.prog 139 #[.int .i64 a0,.int .u64 a1] w fun e w'=>e = .returned (.tuple #[.int .u64 r1,.int .u64 r2]) ∧ Drawn0 w w':=by
 have H : (if 0 ≤ (wrap64 (a0 - 1)) then (if 0 ≤ (shl .i64 1 (wrap64 (a0 - 1))) then (some (shr .u64 a1 (shl .i64 1 (wrap64 (a0 - 1))),Go.bits .and .u64 a1 (IntKind.u64.wrap ((shl .u64 1 (shl .i64 1 (wrap64 (a0 - 1)))) - 1)))) else (none)) else (none)) = some (r1,r2):=h
 clear h
 obtain ⟨ji3,hji3⟩ : ∃ j_ : Int,(wrap64 (a0 - 1)) = j_:=⟨_,rfl⟩
 replace H : (if 0 ≤ (ji3) then (if 0 ≤ (shl .i64 1 (ji3)) then (some (shr .u64 a1 (shl .i64 1 (ji3)),Go.bits .and .u64 a1 (IntKind.u64.wrap ((shl .u64 1 (shl .i64 1 (ji3))) - 1)))) else (none)) else (none)) = some (r1,r2):=by first|(rw [hji3] at H;exact H)|(simp only [hji3] at H ⊢;exact H)
 have hji3w : (IntKind.i64.wrap (a0 - 1)) = ji3:=(zH _).trans hji3
 by_cases c4 : 0 ≤ (ji3)
 rotate_left
 · rw [if_neg c4] at H
   exact absurd H zz93
 rw [if_pos c4] at H
 have c4b0:=eq_true c4
 have c4b1 : decide (0 ≤ (ji3)) = true:=decide_eq_true c4
 clear c4
 obtain ⟨ji5,hji5⟩ : ∃ j_ : Int,(shl .i64 1 (ji3)) = j_:=⟨_,rfl⟩
 replace H : (if 0 ≤ (ji5) then (some (shr .u64 a1 (ji5),Go.bits .and .u64 a1 (IntKind.u64.wrap ((shl .u64 1 (ji5)) - 1)))) else (none)) = some (r1,r2):=by first|(rw [hji5] at H;exact H)|(simp only [hji5] at H ⊢;exact H)
 have hji5_ : (IntKind.i64.wrap (1 * 2 ^ min (ji3).toNat 64)) = ji5:=hji5
 have hji5z : (ji3) ≤ 64 → (IntKind.i64.wrap (1 * 2 ^ (ji3).toNat)) = ji5:=z1K hji5
 have hji5u : (IntKind.i64.wrap (2 ^ min (ji3).toNat 64)) = ji5:=by have h_:=hji5_;rw [Int.one_mul] at h_;exact h_
 have hji5v : (ji3) ≤ 64 → (IntKind.i64.wrap (2 ^ (ji3).toNat)) = ji5:=fun hle_=>by have h_:=hji5z hle_;rw [Int.one_mul] at h_;exact h_
 have hji5y : (wrap64 (1 * 2 ^ min (ji3).toNat 64)) = ji5:=(zH _).symm.trans hji5_
 have hji5x : (ji3) ≤ 64 → (wrap64 (1 * 2 ^ (ji3).toNat)) = ji5:=fun h_=>(zH _).symm.trans (hji5z h_)
 by_cases c6 : 0 ≤ (ji5)
 rotate_left
 · rw [if_neg c6] at H
   exact absurd H zz93
 rw [if_pos c6] at H
 have c6b0:=eq_true c6
 have c6b1 : decide (0 ≤ (ji5)) = true:=decide_eq_true c6
 clear c6
 obtain ⟨ji7,hji7⟩ : ∃ j_ : Int,(shr .u64 a1 (ji5)) = j_:=⟨_,rfl⟩
 replace H : (some (ji7,Go.bits .and .u64 a1 (IntKind.u64.wrap ((shl .u64 1 (ji5)) - 1)))) = some (r1,r2):=by first|(rw [hji7] at H;exact H)|(simp only [hji7] at H ⊢;exact H)
 have hji7_ : (a1 / 2 ^ min (ji5).toNat 64) = ji7:=hji7
 have hji7z : (ji5) ≤ 64 → (a1 / 2 ^ (ji5).toNat) = ji7:=z2K hji7
 have c8b0:=eq_true (of_decide_eq_true zz85 : 0 ≤ (ji5))
 obtain ⟨ji9,hji9⟩ : ∃ j_ : Int,(shl .u64 1 (ji5)) = j_:=⟨_,rfl⟩
 replace H : (some (ji7,Go.bits .and .u64 a1 (IntKind.u64.wrap ((ji9) - 1)))) = some (r1,r2):=by first|(rw [hji9] at H;exact H)|(simp only [hji9] at H ⊢;exact H)
 have hji9_ : (IntKind.u64.wrap (1 * 2 ^ min (ji5).toNat 64)) = ji9:=hji9
 have hji9z : (ji5) ≤ 64 → (IntKind.u64.wrap (1 * 2 ^ (ji5).toNat)) = ji9:=z1K hji9
 have hji9n0 : 0 ≤ ji9:=by rw [← hji9];exact Int.emod_nonneg _ zz91
 have hji9n1 : decide (0 ≤ ji9) = true:=decide_eq_true hji9n0
 replace hji9n0:=eq_true hji9n0
 have hji9u : (IntKind.u64.wrap (2 ^ min (ji5).toNat 64)) = ji9:=by have h_:=hji9_;rw [Int.one_mul] at h_;exact h_
 have hji9v : (ji5) ≤ 64 → (IntKind.u64.wrap (2 ^ (ji5).toNat)) = ji9:=fun hle_=>by have h_:=hji9z hle_;rw [Int.one_mul] at h_;exact h_
 simp only [Option.some.injEq,Prod.mk.injEq] at H
 obtain ⟨rfl,rfl⟩:=H
 go_enter Try.func139,Try.ntmps139
 go_wp2
 repeat (go_quiet (fail);try go_wp2)
 go_ret2
 exact ⟨by first|rfl|(simp;done)|(simp only [← hji3,← hji5,← hji7,← hji9] <;> (first|rfl|simp))|(simp [*];done),by repeat (first|exact Drawn0.refl _|apply Drawn0.step)⟩
end Go.Proofs.Ytkhmpaooinpfoaa.P
namespace Go.Proofs.Ytkhmpaooinpfoaa.P
open Go.RowKit Go.Proofs.YtkhmpaooinpfoaaW.PrintWords Go.Proofs.YtkhmpaooinpfoaaW.PrintLast Go.Proofs.YtkhmpaooinpfoaaW.PrintMore
attribute [local go_sem] z12 z14 z1i z1j zU zV z13 z15   -- for this text's walks alone
set_option linter.unusedVariables false
set_option linter.unusedSimpArgs false
def z1G.f (a0 : Int) (a1 : Int) (a2 : Int) : Option (Int):=if 0 ≤ (wrap64 (a0 - 1)) then (some (Go.bits .or .u64 (shl .u64 a1 (shl .u64 1 (wrap64 (a0 - 1)))) a2)) else (none)
set_option maxHeartbeats 8000000 in
set_option maxRecDepth 100000 in
theorem z1G.calls (a0 : Int) (a1 : Int) (a2 : Int) (r : Int) (w : World) (h : z1G.f a0 a1 a2 = some r) :
 Calls Try.prog 140 #[.int .i64 a0,.int .u64 a1,.int .u64 a2] w fun e w'=>e = .returned (.int .u64 r) ∧ Drawn0 w w':=by
 have H : (if 0 ≤ (wrap64 (a0 - 1)) then (some (Go.bits .or .u64 (shl .u64 a1 (shl .u64 1 (wrap64 (a0 - 1)))) a2)) else (none)) = some r:=h
 clear h
 obtain ⟨ji4,hji4⟩ : ∃ j_ : Int,(wrap64 (a0 - 1)) = j_:=⟨_,rfl⟩
 replace H : (if 0 ≤ (ji4) then (some (Go.bits .or .u64 (shl .u64 a1 (shl .u64 1 (ji4))) a2)) else (none)) = some r:=by first|(rw [hji4] at H;exact H)|(simp only [hji4] at H ⊢;exact H)
 have hji4w : (IntKind.i64.wrap (a0 - 1)) = ji4:=(zH _).trans hji4
 by_cases c5 : 0 ≤ (ji4)
 rotate_left
 · rw [if_neg c5] at H
   exact absurd H zz93
 rw [if_pos c5] at H
 have c5b0:=eq_true c5
 have c5b1 : decide (0 ≤ (ji4)) = true:=decide_eq_true c5
 clear c5
 obtain ⟨ji6,hji6⟩ : ∃ j_ : Int,(shl .u64 1 (ji4)) = j_:=⟨_,rfl⟩
 replace H : (some (Go.bits .or .u64 (shl .u64 a1 (ji6)) a2)) = some r:=by first|(rw [hji6] at H;exact H)|(simp only [hji6] at H ⊢;exact H)
 have hji6_ : (IntKind.u64.wrap (1 * 2 ^ min (ji4).toNat 64)) = ji6:=hji6
 have hji6z : (ji4) ≤ 64 → (IntKind.u64.wrap (1 * 2 ^ (ji4).toNat)) = ji6:=z1K hji6
 have hji6n0 : 0 ≤ ji6:=by rw [← hji6];exact Int.emod_nonneg _ zz91
 have hji6n1 : decide (0 ≤ ji6) = true:=decide_eq_true hji6n0
 replace hji6n0:=eq_true hji6n0
 have hji6u : (IntKind.u64.wrap (2 ^ min (ji4).toNat 64)) = ji6:=by have h_:=hji6_;rw [Int.one_mul] at h_;exact h_
 have hji6v : (ji4) ≤ 64 → (IntKind.u64.wrap (2 ^ (ji4).toNat)) = ji6:=fun hle_=>by have h_:=hji6z hle_;rw [Int.one_mul] at h_;exact h_
 obtain ⟨ji7,hji7⟩ : ∃ j_ : Int,(shl .u64 a1 (ji6)) = j_:=⟨_,rfl⟩
 replace H : (some (Go.bits .or .u64 (ji7) a2)) = some r:=by first|(rw [hji7] at H;exact H)|(simp only [hji7] at H ⊢;exact H)
 have hji7_ : (IntKind.u64.wrap (a1 * 2 ^ min (ji6).toNat 64)) = ji7:=hji7
 have hji7z : (ji6) ≤ 64 → (IntKind.u64.wrap (a1 * 2 ^ (ji6).toNat)) = ji7:=z1K hji7
 have hji7n0 : 0 ≤ ji7:=by rw [← hji7];exact Int.emod_nonneg _ zz91
 have hji7n1 : decide (0 ≤ ji7) = true:=decide_eq_true hji7n0
 replace hji7n0:=eq_true hji7n0
 obtain rfl:=Option.some.inj H
 go_enter Try.func140,Try.ntmps140
 go_wp2
 go_ret
 exact ⟨by first|rfl|(simp;done)|(simp only [← hji4,← hji6,← hji7] <;> (first|rfl|simp))|(simp [*];done),by repeat (first|exact Drawn0.refl _|apply Drawn0.step)⟩
end Go.Proofs.Ytkhmpaooinpfoaa.P
namespace Go.Proofs.Ytkhmpaooinpfoaa.P
open Go.RowKit Go.Proofs.YtkhmpaooinpfoaaW.PrintWords Go.Proofs.YtkhmpaooinpfoaaW.PrintLast Go.Proofs.YtkhmpaooinpfoaaW.PrintMore
attribute [local go_sem] z12 z14 z1i z1j zU zV z13 z15   -- for this text's walks alone
set_option linter.unusedVariables false
set_option linter.unusedSimpArgs false
def z10.f : Nat → Int → Int → Option (Int)
 | 0,_,_=>none
 | k + 1,a0,a1=>if a0 = 0 then (some a1) else ((z1F.f a0 a1).bind fun bt101=>((z10.f k (wrap64 (a0 - 1)) bt101.1).bind fun t103=>((z1G.f a0 (Go.bits .xor .u64 bt101.2 t103) bt101.1).bind fun t104=>(some t104))))
theorem z10.z17 : ∀ k,(∀ y0 y1,LeO (z10.f k y0 y1) (z10.f (k + 1) y0 y1))
 | 0=>fun _ _ r h=>by simp [z10.f] at h
 | k + 1=>by
  have ih0:=z10.z17 k
  · intro y0 y1
    unfold z10.f
    repeat' first
    | (with_reducible exact ih0 _ _)
    | (with_reducible exact LeO.refl _)
    | (with_reducible exact LeO.none _)
    | (with_reducible refine LeO.ite ?_ ?_)
    | (with_reducible refine LeO.bind ?_ (fun _=>?_))
    | exact ih0 _ _
    | exact LeO.none _
    | refine LeO.ite ?_ ?_
    | refine LeO.bind ?_ (fun _=>?_)
theorem z10.mono : ∀ a0 a1 k,LeO (z10.f k a0 a1) (z10.f (k + 1) a0 a1):=by
 intro a0 a1 k
 have ih0:=z10.z17 k
 exact ih0 a0 a1
set_option maxHeartbeats 8000000 in
set_option maxRecDepth 100000 in
theorem z10.calls (k : Nat) : ∀ (a0 : Int) (a1 : Int) (r : Int) (w : World) (h : z10.f k a0 a1 = some r),
 Calls Try.prog 118 #[.int .i64 a0,.int .u64 a1] w fun e w'=>e = .returned (.int .u64 r) ∧ Drawn0 w w':=by
 induction k using Nat.strongRecOn with
 | _ k ih =>
 intro a0 a1 r w h
 cases k with
 | zero=>exact absurd h (by simp [z10.f])
 | succ k =>
 simp only [z10.f] at h
 have H : (if a0 = 0 then (some a1) else ((z1F.f a0 a1).bind fun bt101=>((z10.f k (wrap64 (a0 - 1)) bt101.1).bind fun t103=>((z1G.f a0 (Go.bits .xor .u64 bt101.2 t103) bt101.1).bind fun t104=>(some t104))))) = some r:=h
 clear h
 by_cases c3 : a0 = 0
 · rw [if_pos c3] at H
   have c3b0 : (a0 == 0) = true:=beq_iff_eq.mpr c3
   have c3b1 : (a0 != 0) = false:=bne_eq_false_iff_eq.mpr c3
   clear c3
   obtain rfl:=Option.some.inj H
   go_enter Try.func118,Try.ntmps118
   go_wp2
   go_ret
   exact ⟨by first|rfl|(simp;done)|(simp [*];done),by repeat (first|exact Drawn0.refl _|apply Drawn0.step)⟩
 rw [if_neg c3] at H
 have c3b0 : (a0 == 0) = false:=beq_eq_false_iff_ne.mpr c3
 have c3b1 : (a0 != 0) = true:=bne_iff_ne.mpr c3
 replace H:=Option.bind_eq_some_iff.mp H
 obtain ⟨⟨t101,t102⟩,A40,H⟩:=H
 replace H : ((z10.f k (wrap64 (a0 - 1)) t101).bind fun t103=>((z1G.f a0 (Go.bits .xor .u64 t102 t103) t101).bind fun t104=>(some t104))) = some r:=H
 have A4:=z1.mk A40
 clear A40
 replace H:=Option.bind_eq_some_iff.mp H
 obtain ⟨t103,A50,H⟩:=H
 replace H : ((z1G.f a0 (Go.bits .xor .u64 t102 t103) t101).bind fun t104=>(some t104)) = some r:=H
 have A5:=z1.mk A50
 clear A50
 replace H:=Option.bind_eq_some_iff.mp H
 obtain ⟨t104,A60,H⟩:=H
 replace H : (some t104) = some r:=H
 have A6:=z1.mk A60
 clear A60
 obtain rfl:=Option.some.inj H
 go_enter Try.func118,Try.ntmps118
 go_wp2_with (first|((with_reducible refine zi (f:=139) rfl ?_);refine goesL_ (some 13) rfl rfl Try.func139 zz90 rfl #[.int .i64 a0,.int .u64 a1] rfl zz48 ?_;(with_reducible refine (z1F.calls a0 a1 t101 t102 _ A4.out).mono ?_);rintro e w' ⟨rfl,⟨nd,rfl⟩⟩;refine ⟨_,rfl,?_⟩)|((with_reducible refine zi (f:=118) rfl ?_);refine goesL_ (some 21) rfl rfl Try.func118 zz90 rfl #[.int .i64 (wrap64 (a0 - 1)),.int .u64 t101] rfl zz48 ?_;(with_reducible refine (ih k zz92 (wrap64 (a0 - 1)) t101 t103 _ A5.out).mono ?_);rintro e w' ⟨rfl,⟨nd,rfl⟩⟩;refine ⟨_,rfl,?_⟩)|((with_reducible refine zi (f:=140) rfl ?_);refine goesL_ (some 24) rfl rfl Try.func140 zz90 rfl #[.int .i64 a0,.int .u64 (Go.bits .xor .u64 t102 t103),.int .u64 t101] rfl zz48 ?_;(with_reducible refine (z1G.calls a0 (Go.bits .xor .u64 t102 t103) t101 t104 _ A6.out).mono ?_);rintro e w' ⟨rfl,⟨nd,rfl⟩⟩;refine ⟨_,rfl,?_⟩))
 go_ret
 exact ⟨by first|rfl|(simp;done)|(simp [*];done),by repeat (first|exact Drawn0.refl _|apply Drawn0.step)⟩
end Go.Proofs.Ytkhmpaooinpfoaa.P
namespace Go.Proofs.Ytkhmpaooinpfoaa.P
open Go.RowKit Go.Proofs.YtkhmpaooinpfoaaW.PrintWords Go.Proofs.YtkhmpaooinpfoaaW.PrintLast Go.Proofs.YtkhmpaooinpfoaaW.PrintMore
attribute [local go_sem] z12 z14 z1i z1j zU zV z13 z15   -- for this text's walks alone
set_option linter.unusedVariables false
set_option linter.unusedSimpArgs false
mutual
def zG.j0 : Nat → Int → Int → Int → Bool → Option (Int)
 | 0,_,_,_,_=>none
 | k + 1,x0,x1,x2,x23=>if x23 = true then (some (Go.bits .and .u64 (Go.bits .and .u64 x1 x2) 1)) else ((z1F.f x0 x1).bind fun bt101=>((z1F.f x0 x2).bind fun bt103=>((zG.f k (wrap64 (x0 - 1)) bt101.1 bt103.1).bind fun t105=>((zG.f k (wrap64 (x0 - 1)) bt101.2 bt103.2).bind fun t106=>((zG.f k (wrap64 (x0 - 1)) (Go.bits .xor .u64 bt101.1 bt101.2) (Go.bits .xor .u64 bt103.1 bt103.2)).bind fun t107=>((z10.f k (wrap64 (x0 - 1)) t105).bind fun t108=>((z1G.f x0 (Go.bits .xor .u64 (Go.bits .xor .u64 (Go.bits .xor .u64 t107 t105) t106) t108) (Go.bits .xor .u64 t106 t105)).bind fun t109=>(some t109))))))))
def zG.f : Nat → Int → Int → Int → Option (Int)
 | 0,_,_,_=>none
 | k + 1,a0,a1,a2=>if a0 = 0 then (zG.j0 k a0 a1 a2 true) else (if a1 = 0 then (zG.j0 k a0 a1 a2 true) else (zG.j0 k a0 a1 a2 (a2 == 0)))
end
theorem zG.z17 : ∀ k,(∀ y0 y1 y2,LeO (zG.f k y0 y1 y2) (zG.f (k + 1) y0 y1 y2)) ∧ (∀ y0 y1 y2 y3,LeO (zG.j0 k y0 y1 y2 y3) (zG.j0 (k + 1) y0 y1 y2 y3))
 | 0=>⟨fun _ _ _ r h=>by simp [zG.f] at h,fun _ _ _ _ r h=>by simp [zG.j0] at h⟩
 | k + 1=>by
  obtain ⟨ih0,ih1⟩:=zG.z17 k
  refine ⟨?_,?_⟩
  · intro y0 y1 y2
    unfold zG.f
    repeat' first
    | (with_reducible exact ih0 _ _ _)
    | (with_reducible exact ih1 _ _ _ _)
    | (with_reducible exact z10.mono _ _ _)
    | (with_reducible exact LeO.refl _)
    | (with_reducible exact LeO.none _)
    | (with_reducible refine LeO.ite ?_ ?_)
    | (with_reducible refine LeO.bind ?_ (fun _=>?_))
    | exact ih0 _ _ _
    | exact ih1 _ _ _ _
    | exact z10.mono _ _ _
    | exact LeO.none _
    | refine LeO.ite ?_ ?_
    | refine LeO.bind ?_ (fun _=>?_)
  · intro y0 y1 y2 y3
    unfold zG.j0
    repeat' first
    | (with_reducible exact ih0 _ _ _)
    | (with_reducible exact ih1 _ _ _ _)
    | (with_reducible exact z10.mono _ _ _)
    | (with_reducible exact LeO.refl _)
    | (with_reducible exact LeO.none _)
    | (with_reducible refine LeO.ite ?_ ?_)
    | (with_reducible refine LeO.bind ?_ (fun _=>?_))
    | exact ih0 _ _ _
    | exact ih1 _ _ _ _
    | exact z10.mono _ _ _
    | exact LeO.none _
    | refine LeO.ite ?_ ?_
    | refine LeO.bind ?_ (fun _=>?_)
theorem zG.mono : ∀ a0 a1 a2 k,LeO (zG.f k a0 a1 a2) (zG.f (k + 1) a0 a1 a2):=by
 intro a0 a1 a2 k
 obtain ⟨ih0,ih1⟩:=zG.z17 k
 exact ih0 a0 a1 a2
set_option maxHeartbeats 8000000 in
set_option maxRecDepth 100000 in
theorem zG.calls (k : Nat) : ∀ (a0 : Int) (a1 : Int) (a2 : Int) (r : Int) (w : World) (h : zG.f k a0 a1 a2 = some r),
 Calls Try.prog 117 #[.int .i64 a0,.int .u64 a1,.int .u64 a2] w fun e w'=>e = .returned (.int .u64 r) ∧ Drawn0 w w':=by
 induction k using Nat.strongRecOn with
 | _ k ih =>
 intro a0 a1 a2 r w h
 cases k with
 | zero=>exact absurd h (by simp [zG.f])
 | succ k =>
 simp only [zG.f] at h
 have H : (if a0 = 0 then (zG.j0 k a0 a1 a2 true) else (if a1 = 0 then (zG.j0 k a0 a1 a2 true) else (zG.j0 k a0 a1 a2 (a2 == 0)))) = some r:=h
 clear h
 have HC4:=z1.mk H
 clear H
 go_enter Try.func117,Try.ntmps117
 go_upto_region 1 with (fail)
 go_cut [23] (fun v23 wc=>∃ (kq : Nat) (x23_3 : Bool),v23 = .bool x23_3 ∧ z1 (zG.j0 kq a0 a1 a2 x23_3 = some r) ∧ z1 (kq ≤ k) ∧ Drawn0 w wc)
 case first =>
  have H:=HC4.out
  clear HC4
  by_cases c5 : a0 = 0
  · rw [if_pos c5] at H
    have c5b0 : (a0 == 0) = true:=beq_iff_eq.mpr c5
    have c5b1 : (a0 != 0) = false:=bne_eq_false_iff_eq.mpr c5
    clear c5
    (first|rw [c5b0]|(simp only [zH,zP];rw [c5b0])|skip)
    have H':=z1.mk H
    clear H
    go_wp2
    go_meet
    case rel=>exact ⟨_,(true),zz86,H',⟨by first|omega|exact Nat.le_refl _⟩,by repeat (first|exact Drawn0.refl _|apply Drawn0.step)⟩
  rw [if_neg c5] at H
  have c5b0 : (a0 == 0) = false:=beq_eq_false_iff_ne.mpr c5
  have c5b1 : (a0 != 0) = true:=bne_iff_ne.mpr c5
  (first|rw [c5b0]|(simp only [zH,zP];rw [c5b0])|skip)
  by_cases c6 : a1 = 0
  rotate_left
  · rw [if_neg c6] at H
    have c6b0 : (a1 == 0) = false:=beq_eq_false_iff_ne.mpr c6
    have c6b1 : (a1 != 0) = true:=bne_iff_ne.mpr c6
    have H':=z1.mk H
    clear H
    go_wp2
    go_meet
    case rel=>exact ⟨_,((a2 == 0)),zz86,H',⟨by first|omega|exact Nat.le_refl _⟩,by repeat (first|exact Drawn0.refl _|apply Drawn0.step)⟩
  rw [if_pos c6] at H
  have c6b0 : (a1 == 0) = true:=beq_iff_eq.mpr c6
  have c6b1 : (a1 != 0) = false:=bne_eq_false_iff_eq.mpr c6
  clear c6
  have H':=z1.mk H
  clear H
  go_wp2
  go_meet
  case rel=>exact ⟨_,(true),zz86,H',⟨by first|omega|exact Nat.le_refl _⟩,by repeat (first|exact Drawn0.refl _|apply Drawn0.step)⟩
 case rest =>
  clear HC4
  (try clear c1);(try clear p2);(try clear c5);(try clear c5b0);(try clear c5b1);(try clear c6);(try clear c6b0);(try clear c6b1)
  obtain ⟨kq,x23_3,rfl,HA,HJ3,⟨mc3,rfl⟩⟩:=hcut
  cases kq with
  | zero=>exact absurd HA.out (by simp [zG.j0])
  | succ kj3 =>
   have H:=HA.out
   clear HA
   simp only [zG.j0] at H
   by_cases c7 : x23_3 = true
   · subst c7
     have H1 : (some (Go.bits .and .u64 (Go.bits .and .u64 a1 a2) 1)) = some r:=by rw [if_pos rfl] at H;exact H
     clear H
     have H:=H1
     clear H1
     obtain rfl:=Option.some.inj H
     go_wp2
     go_ret
     exact ⟨by first|rfl|(simp;done)|(simp [*];done),by repeat (first|exact Drawn0.refl _|apply Drawn0.step)⟩
   replace c7:=Bool.eq_false_iff.mpr c7
   subst c7
   have H1 : ((z1F.f a0 a1).bind fun bt101=>((z1F.f a0 a2).bind fun bt103=>((zG.f kj3 (wrap64 (a0 - 1)) bt101.1 bt103.1).bind fun t105=>((zG.f kj3 (wrap64 (a0 - 1)) bt101.2 bt103.2).bind fun t106=>((zG.f kj3 (wrap64 (a0 - 1)) (Go.bits .xor .u64 bt101.1 bt101.2) (Go.bits .xor .u64 bt103.1 bt103.2)).bind fun t107=>((z10.f kj3 (wrap64 (a0 - 1)) t105).bind fun t108=>((z1G.f a0 (Go.bits .xor .u64 (Go.bits .xor .u64 (Go.bits .xor .u64 t107 t105) t106) t108) (Go.bits .xor .u64 t106 t105)).bind fun t109=>(some t109)))))))) = some r:=by rw [if_neg (show ¬ (false = true) by decide)] at H;exact H
   clear H
   have H:=H1
   clear H1
   replace H:=Option.bind_eq_some_iff.mp H
   obtain ⟨⟨t101,t102⟩,A80,H⟩:=H
   replace H : ((z1F.f a0 a2).bind fun bt103=>((zG.f kj3 (wrap64 (a0 - 1)) t101 bt103.1).bind fun t105=>((zG.f kj3 (wrap64 (a0 - 1)) t102 bt103.2).bind fun t106=>((zG.f kj3 (wrap64 (a0 - 1)) (Go.bits .xor .u64 t101 t102) (Go.bits .xor .u64 bt103.1 bt103.2)).bind fun t107=>((z10.f kj3 (wrap64 (a0 - 1)) t105).bind fun t108=>((z1G.f a0 (Go.bits .xor .u64 (Go.bits .xor .u64 (Go.bits .xor .u64 t107 t105) t106) t108) (Go.bits .xor .u64 t106 t105)).bind fun t109=>(some t109))))))) = some r:=H
   have A8:=z1.mk A80
   clear A80
   replace H:=Option.bind_eq_some_iff.mp H
   obtain ⟨⟨t103,t104⟩,A90,H⟩:=H
   replace H : ((zG.f kj3 (wrap64 (a0 - 1)) t101 t103).bind fun t105=>((zG.f kj3 (wrap64 (a0 - 1)) t102 t104).bind fun t106=>((zG.f kj3 (wrap64 (a0 - 1)) (Go.bits .xor .u64 t101 t102) (Go.bits .xor .u64 t103 t104)).bind fun t107=>((z10.f kj3 (wrap64 (a0 - 1)) t105).bind fun t108=>((z1G.f a0 (Go.bits .xor .u64 (Go.bits .xor .u64 (Go.bits .xor .u64 t107 t105) t106) t108) (Go.bits .xor .u64 t106 t105)).bind fun t109=>(some t109)))))) = some r:=H
   have A9:=z1.mk A90
   clear A90
   replace H:=Option.bind_eq_some_iff.mp H
   obtain ⟨t105,A100,H⟩:=H
   replace H : ((zG.f kj3 (wrap64 (a0 - 1)) t102 t104).bind fun t106=>((zG.f kj3 (wrap64 (a0 - 1)) (Go.bits .xor .u64 t101 t102) (Go.bits .xor .u64 t103 t104)).bind fun t107=>((z10.f kj3 (wrap64 (a0 - 1)) t105).bind fun t108=>((z1G.f a0 (Go.bits .xor .u64 (Go.bits .xor .u64 (Go.bits .xor .u64 t107 t105) t106) t108) (Go.bits .xor .u64 t106 t105)).bind fun t109=>(some t109))))) = some r:=H
   have A10:=z1.mk A100
   clear A100
   replace H:=Option.bind_eq_some_iff.mp H
   obtain ⟨t106,A110,H⟩:=H
   replace H : ((zG.f kj3 (wrap64 (a0 - 1)) (Go.bits .xor .u64 t101 t102) (Go.bits .xor .u64 t103 t104)).bind fun t107=>((z10.f kj3 (wrap64 (a0 - 1)) t105).bind fun t108=>((z1G.f a0 (Go.bits .xor .u64 (Go.bits .xor .u64 (Go.bits .xor .u64 t107 t105) t106) t108) (Go.bits .xor .u64 t106 t105)).bind fun t109=>(some t109)))) = some r:=H
   have A11:=z1.mk A110
   clear A110
   replace H:=Option.bind_eq_some_iff.mp H
   obtain ⟨t107,A120,H⟩:=H
   replace H : ((z10.f kj3 (wrap64 (a0 - 1)) t105).bind fun t108=>((z1G.f a0 (Go.bits .xor .u64 (Go.bits .xor .u64 (Go.bits .xor .u64 t107 t105) t106) t108) (Go.bits .xor .u64 t106 t105)).bind fun t109=>(some t109))) = some r:=H
   have A12:=z1.mk A120
   clear A120
   replace H:=Option.bind_eq_some_iff.mp H
   obtain ⟨t108,A130,H⟩:=H
   replace H : ((z1G.f a0 (Go.bits .xor .u64 (Go.bits .xor .u64 (Go.bits .xor .u64 t107 t105) t106) t108) (Go.bits .xor .u64 t106 t105)).bind fun t109=>(some t109)) = some r:=H
   have A13:=z1.mk A130
   clear A130
   replace H:=Option.bind_eq_some_iff.mp H
   obtain ⟨t109,A140,H⟩:=H
   replace H : (some t109) = some r:=H
   have A14:=z1.mk A140
   clear A140
   obtain rfl:=Option.some.inj H
   go_wp2_with (first|((with_reducible refine zi (f:=139) rfl ?_);refine goesL_ (some 31) rfl rfl Try.func139 zz90 rfl #[.int .i64 a0,.int .u64 a1] rfl zz48 ?_;(with_reducible refine (z1F.calls a0 a1 t101 t102 _ A8.out).mono ?_);rintro e w' ⟨rfl,⟨nd,rfl⟩⟩;refine ⟨_,rfl,?_⟩)|((with_reducible refine zi (f:=139) rfl ?_);refine goesL_ (some 37) rfl rfl Try.func139 zz90 rfl #[.int .i64 a0,.int .u64 a2] rfl zz48 ?_;(with_reducible refine (z1F.calls a0 a2 t103 t104 _ A9.out).mono ?_);rintro e w' ⟨rfl,⟨nd,rfl⟩⟩;refine ⟨_,rfl,?_⟩)|((with_reducible refine zi (f:=117) rfl ?_);refine goesL_ (some 44) rfl rfl Try.func117 zz90 rfl #[.int .i64 (wrap64 (a0 - 1)),.int .u64 t101,.int .u64 t103] rfl zz48 ?_;(with_reducible refine (ih kj3 (by have:=HJ3.out;omega) (wrap64 (a0 - 1)) t101 t103 t105 _ A10.out).mono ?_);rintro e w' ⟨rfl,⟨nd,rfl⟩⟩;refine ⟨_,rfl,?_⟩)|((with_reducible refine zi (f:=117) rfl ?_);refine goesL_ (some 49) rfl rfl Try.func117 zz90 rfl #[.int .i64 (wrap64 (a0 - 1)),.int .u64 t102,.int .u64 t104] rfl zz48 ?_;(with_reducible refine (ih kj3 (by have:=HJ3.out;omega) (wrap64 (a0 - 1)) t102 t104 t106 _ A11.out).mono ?_);rintro e w' ⟨rfl,⟨nd,rfl⟩⟩;refine ⟨_,rfl,?_⟩)|((with_reducible refine zi (f:=117) rfl ?_);refine goesL_ (some 58) rfl rfl Try.func117 zz90 rfl #[.int .i64 (wrap64 (a0 - 1)),.int .u64 (Go.bits .xor .u64 t101 t102),.int .u64 (Go.bits .xor .u64 t103 t104)] rfl zz48 ?_;(with_reducible refine (ih kj3 (by have:=HJ3.out;omega) (wrap64 (a0 - 1)) (Go.bits .xor .u64 t101 t102) (Go.bits .xor .u64 t103 t104) t107 _ A12.out).mono ?_);rintro e w' ⟨rfl,⟨nd,rfl⟩⟩;refine ⟨_,rfl,?_⟩)|((with_reducible refine zi (f:=118) rfl ?_);refine goesL_ (some 68) rfl rfl Try.func118 zz90 rfl #[.int .i64 (wrap64 (a0 - 1)),.int .u64 t105] rfl zz48 ?_;(with_reducible refine (z10.calls kj3 (wrap64 (a0 - 1)) t105 t108 _ A13.out).mono ?_);rintro e w' ⟨rfl,⟨nd,rfl⟩⟩;refine ⟨_,rfl,?_⟩)|((with_reducible refine zi (f:=140) rfl ?_);refine goesL_ (some 73) rfl rfl Try.func140 zz90 rfl #[.int .i64 a0,.int .u64 (Go.bits .xor .u64 (Go.bits .xor .u64 (Go.bits .xor .u64 t107 t105) t106) t108),.int .u64 (Go.bits .xor .u64 t106 t105)] rfl zz48 ?_;(with_reducible refine (z1G.calls a0 (Go.bits .xor .u64 (Go.bits .xor .u64 (Go.bits .xor .u64 t107 t105) t106) t108) (Go.bits .xor .u64 t106 t105) t109 _ A14.out).mono ?_);rintro e w' ⟨rfl,⟨nd,rfl⟩⟩;refine ⟨_,rfl,?_⟩))
   go_ret
   exact ⟨by first|rfl|(simp;done)|(simp [*];done),by repeat (first|exact Drawn0.refl _|apply Drawn0.step)⟩
end Go.Proofs.Ytkhmpaooinpfoaa.P
namespace Go.Proofs.Ytkhmpaooinpfoaa.P
open Go.RowKit Go.Proofs.YtkhmpaooinpfoaaW.PrintWords Go.Proofs.YtkhmpaooinpfoaaW.PrintLast Go.Proofs.YtkhmpaooinpfoaaW.PrintMore
attribute [local go_sem] z12 z14 z1i z1j zU zV z13 z15   -- for this text's walks alone
set_option linter.unusedVariables false
set_option linter.unusedSimpArgs false
def zO.j0 : Nat → Int → Bool → Int → Int → Int → Int → Option (Int × Int)
 | 0,_,_,_,_,_,_=>none
 | k + 1,x0,x10,x102000,x102001,x103000,x103001=>if x10 = true then (some (0,0)) else (if x0 ≤ 6 then ((zG.f k x0 x102001 x103001).bind fun t106=>(some (0,t106))) else ((zG.f k 6 x102000 x103000).bind fun t107=>((zG.f k 6 x102001 x103001).bind fun t108=>((zG.f k 6 (Go.bits .xor .u64 x102000 x102001) (Go.bits .xor .u64 x103000 x103001)).bind fun t109=>((z10.f k 6 t107).bind fun t110=>(some (Go.bits .xor .u64 (Go.bits .xor .u64 (Go.bits .xor .u64 t109 t107) t108) t110,Go.bits .xor .u64 t108 t107)))))))
def zO.f (k : Nat) (a0 : Int) (a1_0 : Int) (a1_1 : Int) (a2_0 : Int) (a2_1 : Int) : Option (Int × Int):=(zF.f k a0 a1_0 a1_1).bind fun t104=>(if t104 = true then ((zF.f k a0 a2_0 a2_1).bind fun t105=>(zO.j0 k a0 (!t105) a1_0 a1_1 a2_0 a2_1)) else (zO.j0 k a0 true a1_0 a1_1 a2_0 a2_1))
theorem zO.z17 : ∀ k,(∀ y0 y1 y2 y3 y4 y5,LeO (zO.j0 k y0 y1 y2 y3 y4 y5) (zO.j0 (k + 1) y0 y1 y2 y3 y4 y5))
 | 0=>fun _ _ _ _ _ _ r h=>by simp [zO.j0] at h
 | k + 1=>by
  have ih0:=zO.z17 k
  · intro y0 y1 y2 y3 y4 y5
    unfold zO.j0
    repeat' first
    | (with_reducible exact ih0 _ _ _ _ _ _)
    | (with_reducible exact zF.mono _ _ _ _)
    | (with_reducible exact zG.mono _ _ _ _)
    | (with_reducible exact z10.mono _ _ _)
    | (with_reducible exact LeO.refl _)
    | (with_reducible exact LeO.none _)
    | (with_reducible refine LeO.ite ?_ ?_)
    | (with_reducible refine LeO.bind ?_ (fun _=>?_))
    | exact ih0 _ _ _ _ _ _
    | exact zF.mono _ _ _ _
    | exact zG.mono _ _ _ _
    | exact z10.mono _ _ _
    | exact LeO.none _
    | refine LeO.ite ?_ ?_
    | refine LeO.bind ?_ (fun _=>?_)
theorem zO.mono : ∀ a0 a1 a2 a3 a4 k,LeO (zO.f k a0 a1 a2 a3 a4) (zO.f (k + 1) a0 a1 a2 a3 a4):=by
 intro a0 a1 a2 a3 a4 k
 have ih0:=zO.z17 k
 unfold zO.f
 repeat' first
  | (with_reducible exact ih0 _ _ _ _ _ _)
  | (with_reducible exact zF.mono _ _ _ _)
  | (with_reducible exact zG.mono _ _ _ _)
  | (with_reducible exact z10.mono _ _ _)
  | (with_reducible exact LeO.refl _)
  | (with_reducible exact LeO.none _)
  | (with_reducible refine LeO.ite ?_ ?_)
  | (with_reducible refine LeO.bind ?_ (fun _=>?_))
  | exact ih0 _ _ _ _ _ _
  | exact zF.mono _ _ _ _
  | exact zG.mono _ _ _ _
  | exact z10.mono _ _ _
  | exact LeO.none _
  | refine LeO.ite ?_ ?_
  | refine LeO.bind ?_ (fun _=>?_)
set_option maxHeartbeats 8000000 in
set_option maxRecDepth 100000 in
theorem zO.calls (k : Nat) (a0 : Int) (a1_0 : Int) (a1_1 : Int) (a2_0 : Int) (a2_1 : Int) (r1 : Int) (r2 : Int) (w : World) (h : zO.f k a0 a1_0 a1_1 a2_0 a2_1 = some (r1,r2)) :
 Calls Try.prog 78 #[.int .i64 a0,.agg #[.int .u64 a1_0,.int .u64 a1_1],.agg #[.int .u64 a2_0,.int .u64 a2_1]] w fun e w'=>e = .returned (.agg #[.int .u64 r1,.int .u64 r2]) ∧ Below w.heap.size w w':=by
 have hu30:=Try.underlying30
 have HB:=z1.mk (Below.refl w.heap.size w)
 have H : ((zF.f k a0 a1_0 a1_1).bind fun t104=>(if t104 = true then ((zF.f k a0 a2_0 a2_1).bind fun t105=>(zO.j0 k a0 (!t105) a1_0 a1_1 a2_0 a2_1)) else (zO.j0 k a0 true a1_0 a1_1 a2_0 a2_1))) = some (r1,r2):=h
 clear h
 have HC4:=z1.mk H
 clear H
 go_enter Try.func78,Try.ntmps78
 go_upto_region 1 with (first|((with_reducible refine zp (N:=4) rfl ?_);refine zt ?hg (N:=4) ?hd (cs:=#[.int .u64 a1_0,.int .u64 a1_1]) (t:=30) ?hr ?_;(case hd=>rfl);(case hg=>rfl);(case hr=>first|(go_simp;done)|(go_simp;rfl));intro gb101 hg w5 hbox hb;have n0_:=z1.mk (z3 zz49 hb);have n1_:=z1.mk (hbox);have n2_:=z1.mk ((by rw [hg];exact (zb zz49) : w.heap.size ≤ gb101));have n3_:=z1.mk ((by rw [hg];exact (zb zz49) : w.heap.size ≤ gb101));clear HB;have HB:=n0_;have BK101:=n1_;have GW101:=n2_;have GE101:=n3_;clear n0_ n1_ n2_ n3_;clear hb hbox hg)|((with_reducible refine zp (N:=5) rfl ?_);refine zt ?hg (N:=5) ?hd (cs:=#[.int .u64 a2_0,.int .u64 a2_1]) (t:=30) ?hr ?_;(case hd=>rfl);(case hg=>rfl);(case hr=>first|(go_simp;done)|(go_simp;rfl));intro gb102 hg w6 hbox hb;have n0_:=z1.mk (zc (g:=gb101) (o:=.cells #[.int .u64 a1_0,.int .u64 a1_1] 30 (0,0)) zz50 hb);have n1_:=z1.mk (z3 zz43 hb);have n2_:=z1.mk (hbox);have n3_:=z1.mk ((by rw [hg];exact (zb zz43) : w.heap.size ≤ gb102));have n4_:=z1.mk ((by rw [hg];exact (zb zz43) : w.heap.size ≤ gb102));have n5_:=z1.mk ((by rw [hg];exact Nat.ne_of_lt (zL (g:=gb101) (o:=.cells #[.int .u64 a1_0,.int .u64 a1_1] 30 (0,0)) zz50) : gb101 ≠ gb102));have n6_:=z1.mk ((by rw [hg];exact Nat.ne_of_gt (zL (g:=gb101) (o:=.cells #[.int .u64 a1_0,.int .u64 a1_1] 30 (0,0)) zz50) : gb102 ≠ gb101));clear BK101;clear HB;have BK101:=n0_;have HB:=n1_;have BK102:=n2_;have GW102:=n3_;have GE102:=n4_;have NB101_102:=n5_;have NB102_101:=n6_;clear n0_ n1_ n2_ n3_ n4_ n5_ n6_;clear hb hbox hg)|((with_reducible refine zp (N:=6) rfl ?_);refine zt ?hg (N:=6) ?hd (cs:=#[.int .u64 0,.int .u64 0]) (t:=30) ?hr ?_;(case hd=>rfl);(case hg=>rfl);(case hr=>first|(go_simp;done)|(go_simp;rfl));intro gb103 hg w7 hbox hb;have n0_:=z1.mk (zc (g:=gb101) (o:=.cells #[.int .u64 a1_0,.int .u64 a1_1] 30 (0,0)) zz50 hb);have n1_:=z1.mk (zc (g:=gb102) (o:=.cells #[.int .u64 a2_0,.int .u64 a2_1] 30 (0,0)) zz51 hb);have n2_:=z1.mk (z3 zz36 hb);have n3_:=z1.mk (hbox);have n4_:=z1.mk ((by rw [hg];exact (zb zz36) : w.heap.size ≤ gb103));have n5_:=z1.mk ((by rw [hg];exact (zb zz36) : w.heap.size ≤ gb103));have n6_:=z1.mk ((by rw [hg];exact Nat.ne_of_lt (zL (g:=gb101) (o:=.cells #[.int .u64 a1_0,.int .u64 a1_1] 30 (0,0)) zz50) : gb101 ≠ gb103));have n7_:=z1.mk ((by rw [hg];exact Nat.ne_of_gt (zL (g:=gb101) (o:=.cells #[.int .u64 a1_0,.int .u64 a1_1] 30 (0,0)) zz50) : gb103 ≠ gb101));have n8_:=z1.mk ((by rw [hg];exact Nat.ne_of_lt (zL (g:=gb102) (o:=.cells #[.int .u64 a2_0,.int .u64 a2_1] 30 (0,0)) zz51) : gb102 ≠ gb103));have n9_:=z1.mk ((by rw [hg];exact Nat.ne_of_gt (zL (g:=gb102) (o:=.cells #[.int .u64 a2_0,.int .u64 a2_1] 30 (0,0)) zz51) : gb103 ≠ gb102));clear BK101;clear BK102;clear HB;have BK101:=n0_;have BK102:=n1_;have HB:=n2_;have BK103:=n3_;have GW103:=n4_;have GE103:=n5_;have NB101_103:=n6_;have NB103_101:=n7_;have NB102_103:=n8_;have NB103_102:=n9_;clear n0_ n1_ n2_ n3_ n4_ n5_ n6_ n7_ n8_ n9_;clear hb hbox hg))
 repeat (go_quiet (first|((with_reducible refine zp (N:=4) rfl ?_);refine zt ?hg (N:=4) ?hd (cs:=#[.int .u64 a1_0,.int .u64 a1_1]) (t:=30) ?hr ?_;(case hd=>rfl);(case hg=>rfl);(case hr=>first|(go_simp;done)|(go_simp;rfl));intro gb101 hg w5 hbox hb;have n0_:=z1.mk (z3 zz49 hb);have n1_:=z1.mk (hbox);have n2_:=z1.mk ((by rw [hg];exact (zb zz49) : w.heap.size ≤ gb101));have n3_:=z1.mk ((by rw [hg];exact (zb zz49) : w.heap.size ≤ gb101));clear HB;have HB:=n0_;have BK101:=n1_;have GW101:=n2_;have GE101:=n3_;clear n0_ n1_ n2_ n3_;clear hb hbox hg)|((with_reducible refine zp (N:=5) rfl ?_);refine zt ?hg (N:=5) ?hd (cs:=#[.int .u64 a2_0,.int .u64 a2_1]) (t:=30) ?hr ?_;(case hd=>rfl);(case hg=>rfl);(case hr=>first|(go_simp;done)|(go_simp;rfl));intro gb102 hg w6 hbox hb;have n0_:=z1.mk (zc (g:=gb101) (o:=.cells #[.int .u64 a1_0,.int .u64 a1_1] 30 (0,0)) zz50 hb);have n1_:=z1.mk (z3 zz43 hb);have n2_:=z1.mk (hbox);have n3_:=z1.mk ((by rw [hg];exact (zb zz43) : w.heap.size ≤ gb102));have n4_:=z1.mk ((by rw [hg];exact (zb zz43) : w.heap.size ≤ gb102));have n5_:=z1.mk ((by rw [hg];exact Nat.ne_of_lt (zL (g:=gb101) (o:=.cells #[.int .u64 a1_0,.int .u64 a1_1] 30 (0,0)) zz50) : gb101 ≠ gb102));have n6_:=z1.mk ((by rw [hg];exact Nat.ne_of_gt (zL (g:=gb101) (o:=.cells #[.int .u64 a1_0,.int .u64 a1_1] 30 (0,0)) zz50) : gb102 ≠ gb101));clear BK101;clear HB;have BK101:=n0_;have HB:=n1_;have BK102:=n2_;have GW102:=n3_;have GE102:=n4_;have NB101_102:=n5_;have NB102_101:=n6_;clear n0_ n1_ n2_ n3_ n4_ n5_ n6_;clear hb hbox hg)|((with_reducible refine zp (N:=6) rfl ?_);refine zt ?hg (N:=6) ?hd (cs:=#[.int .u64 0,.int .u64 0]) (t:=30) ?hr ?_;(case hd=>rfl);(case hg=>rfl);(case hr=>first|(go_simp;done)|(go_simp;rfl));intro gb103 hg w7 hbox hb;have n0_:=z1.mk (zc (g:=gb101) (o:=.cells #[.int .u64 a1_0,.int .u64 a1_1] 30 (0,0)) zz50 hb);have n1_:=z1.mk (zc (g:=gb102) (o:=.cells #[.int .u64 a2_0,.int .u64 a2_1] 30 (0,0)) zz51 hb);have n2_:=z1.mk (z3 zz36 hb);have n3_:=z1.mk (hbox);have n4_:=z1.mk ((by rw [hg];exact (zb zz36) : w.heap.size ≤ gb103));have n5_:=z1.mk ((by rw [hg];exact (zb zz36) : w.heap.size ≤ gb103));have n6_:=z1.mk ((by rw [hg];exact Nat.ne_of_lt (zL (g:=gb101) (o:=.cells #[.int .u64 a1_0,.int .u64 a1_1] 30 (0,0)) zz50) : gb101 ≠ gb103));have n7_:=z1.mk ((by rw [hg];exact Nat.ne_of_gt (zL (g:=gb101) (o:=.cells #[.int .u64 a1_0,.int .u64 a1_1] 30 (0,0)) zz50) : gb103 ≠ gb101));have n8_:=z1.mk ((by rw [hg];exact Nat.ne_of_lt (zL (g:=gb102) (o:=.cells #[.int .u64 a2_0,.int .u64 a2_1] 30 (0,0)) zz51) : gb102 ≠ gb103));have n9_:=z1.mk ((by rw [hg];exact Nat.ne_of_gt (zL (g:=gb102) (o:=.cells #[.int .u64 a2_0,.int .u64 a2_1] 30 (0,0)) zz51) : gb103 ≠ gb102));clear BK101;clear BK102;clear HB;have BK101:=n0_;have BK102:=n1_;have HB:=n2_;have BK103:=n3_;have GW103:=n4_;have GE103:=n5_;have NB101_103:=n6_;have NB103_101:=n7_;have NB102_103:=n8_;have NB103_102:=n9_;clear n0_ n1_ n2_ n3_ n4_ n5_ n6_ n7_ n8_ n9_;clear hb hbox hg));go_upto_region 1 with (first|((with_reducible refine zp (N:=4) rfl ?_);refine zt ?hg (N:=4) ?hd (cs:=#[.int .u64 a1_0,.int .u64 a1_1]) (t:=30) ?hr ?_;(case hd=>rfl);(case hg=>rfl);(case hr=>first|(go_simp;done)|(go_simp;rfl));intro gb101 hg w5 hbox hb;have n0_:=z1.mk (z3 zz49 hb);have n1_:=z1.mk (hbox);have n2_:=z1.mk ((by rw [hg];exact (zb zz49) : w.heap.size ≤ gb101));have n3_:=z1.mk ((by rw [hg];exact (zb zz49) : w.heap.size ≤ gb101));clear HB;have HB:=n0_;have BK101:=n1_;have GW101:=n2_;have GE101:=n3_;clear n0_ n1_ n2_ n3_;clear hb hbox hg)|((with_reducible refine zp (N:=5) rfl ?_);refine zt ?hg (N:=5) ?hd (cs:=#[.int .u64 a2_0,.int .u64 a2_1]) (t:=30) ?hr ?_;(case hd=>rfl);(case hg=>rfl);(case hr=>first|(go_simp;done)|(go_simp;rfl));intro gb102 hg w6 hbox hb;have n0_:=z1.mk (zc (g:=gb101) (o:=.cells #[.int .u64 a1_0,.int .u64 a1_1] 30 (0,0)) zz50 hb);have n1_:=z1.mk (z3 zz43 hb);have n2_:=z1.mk (hbox);have n3_:=z1.mk ((by rw [hg];exact (zb zz43) : w.heap.size ≤ gb102));have n4_:=z1.mk ((by rw [hg];exact (zb zz43) : w.heap.size ≤ gb102));have n5_:=z1.mk ((by rw [hg];exact Nat.ne_of_lt (zL (g:=gb101) (o:=.cells #[.int .u64 a1_0,.int .u64 a1_1] 30 (0,0)) zz50) : gb101 ≠ gb102));have n6_:=z1.mk ((by rw [hg];exact Nat.ne_of_gt (zL (g:=gb101) (o:=.cells #[.int .u64 a1_0,.int .u64 a1_1] 30 (0,0)) zz50) : gb102 ≠ gb101));clear BK101;clear HB;have BK101:=n0_;have HB:=n1_;have BK102:=n2_;have GW102:=n3_;have GE102:=n4_;have NB101_102:=n5_;have NB102_101:=n6_;clear n0_ n1_ n2_ n3_ n4_ n5_ n6_;clear hb hbox hg)|((with_reducible refine zp (N:=6) rfl ?_);refine zt ?hg (N:=6) ?hd (cs:=#[.int .u64 0,.int .u64 0]) (t:=30) ?hr ?_;(case hd=>rfl);(case hg=>rfl);(case hr=>first|(go_simp;done)|(go_simp;rfl));intro gb103 hg w7 hbox hb;have n0_:=z1.mk (zc (g:=gb101) (o:=.cells #[.int .u64 a1_0,.int .u64 a1_1] 30 (0,0)) zz50 hb);have n1_:=z1.mk (zc (g:=gb102) (o:=.cells #[.int .u64 a2_0,.int .u64 a2_1] 30 (0,0)) zz51 hb);have n2_:=z1.mk (z3 zz36 hb);have n3_:=z1.mk (hbox);have n4_:=z1.mk ((by rw [hg];exact (zb zz36) : w.heap.size ≤ gb103));have n5_:=z1.mk ((by rw [hg];exact (zb zz36) : w.heap.size ≤ gb103));have n6_:=z1.mk ((by rw [hg];exact Nat.ne_of_lt (zL (g:=gb101) (o:=.cells #[.int .u64 a1_0,.int .u64 a1_1] 30 (0,0)) zz50) : gb101 ≠ gb103));have n7_:=z1.mk ((by rw [hg];exact Nat.ne_of_gt (zL (g:=gb101) (o:=.cells #[.int .u64 a1_0,.int .u64 a1_1] 30 (0,0)) zz50) : gb103 ≠ gb101));have n8_:=z1.mk ((by rw [hg];exact Nat.ne_of_lt (zL (g:=gb102) (o:=.cells #[.int .u64 a2_0,.int .u64 a2_1] 30 (0,0)) zz51) : gb102 ≠ gb103));have n9_:=z1.mk ((by rw [hg];exact Nat.ne_of_gt (zL (g:=gb102) (o:=.cells #[.int .u64 a2_0,.int .u64 a2_1] 30 (0,0)) zz51) : gb103 ≠ gb102));clear BK101;clear BK102;clear HB;have BK101:=n0_;have BK102:=n1_;have HB:=n2_;have BK103:=n3_;have GW103:=n4_;have GE103:=n5_;have NB101_103:=n6_;have NB103_101:=n7_;have NB102_103:=n8_;have NB103_102:=n9_;clear n0_ n1_ n2_ n3_ n4_ n5_ n6_ n7_ n8_ n9_;clear hb hbox hg)))
 (try simp only [Act.put,List.setIfInBounds_toArray,List.set_cons_zero,List.set_cons_succ])
 go_cut [10] (fun v10 wc=>∃ (kq : Nat) (x10_3 : Bool),v10 = .bool x10_3 ∧ z1 (zO.j0 kq a0 x10_3 a1_0 a1_1 a2_0 a2_1 = some (r1,r2)) ∧ z1 (kq ≤ k) ∧ z1 (wc.heap[gb101]? = some (.cells #[.int .u64 a1_0,.int .u64 a1_1] 30 (0,0))) ∧ z1 (wc.heap[gb102]? = some (.cells #[.int .u64 a2_0,.int .u64 a2_1] 30 (0,0))) ∧ z1 (wc.heap[gb103]? = some (.cells #[.int .u64 0,.int .u64 0] 30 (0,0))) ∧ z1 (Below w.heap.size w wc))
 case first =>
  have H:=HC4.out
  clear HC4
  replace H:=Option.bind_eq_some_iff.mp H
  obtain ⟨t104,A80,H⟩:=H
  replace H : (if t104 = true then ((zF.f k a0 a2_0 a2_1).bind fun t105=>(zO.j0 k a0 (!t105) a1_0 a1_1 a2_0 a2_1)) else (zO.j0 k a0 true a1_0 a1_1 a2_0 a2_1)) = some (r1,r2):=H
  have A8:=z1.mk A80
  clear A80
  by_cases c9 : t104 = true
  rotate_left
  · replace c9:=Bool.eq_false_iff.mpr c9
    subst c9
    have H1 : (zO.j0 k a0 true a1_0 a1_1 a2_0 a2_1) = some (r1,r2):=by rw [if_neg (show ¬ (false = true) by decide)] at H;exact H
    clear H
    have H:=H1
    clear H1
    have H':=z1.mk H
    clear H
    have hnb18:=NB101_102.out
    have hnc18:=NB102_101.out
    have hnb19:=NB101_103.out
    have hnc19:=NB103_101.out
    have hcz20_0 : w7.cell? ⟨gb101,0,none⟩ = some (.int .u64 a1_0):=(z7 BK101.out 0).trans rfl
    have hcz20_1 : w7.cell? ⟨gb101,1,none⟩ = some (.int .u64 a1_1):=(z7 BK101.out 1).trans rfl
    have hfz20_0:=z6 BK101.out 0
    have hfz20_1:=z6 BK101.out 1
    go_wp2_with (first|(go_at_call 81;(with_reducible refine (zF.calls k a0 a1_0 a1_1 false _ A8.out).mono ?_);rintro e w21 ⟨rfl,hb⟩;have n0_:=z1.mk (zc (g:=gb101) (o:=.cells #[.int .u64 a1_0,.int .u64 a1_1] 30 (0,0)) zz50 hb);have n1_:=z1.mk (zc (g:=gb102) (o:=.cells #[.int .u64 a2_0,.int .u64 a2_1] 30 (0,0)) zz51 hb);have n2_:=z1.mk (zc (g:=gb103) (o:=.cells #[.int .u64 0,.int .u64 0] 30 (0,0)) zz52 hb);have n3_:=z1.mk (z3 zz33 hb);clear BK101;clear BK102;clear BK103;clear HB;have BK101:=n0_;have BK102:=n1_;have BK103:=n2_;have HB:=n3_;clear n0_ n1_ n2_ n3_;(try clear hb);(try clear hb2);(try clear hk);(try clear hi)))
    repeat (go_quiet (first|(go_at_call 81;(with_reducible refine (zF.calls k a0 a1_0 a1_1 false _ A8.out).mono ?_);rintro e w21 ⟨rfl,hb⟩;have n0_:=z1.mk (zc (g:=gb101) (o:=.cells #[.int .u64 a1_0,.int .u64 a1_1] 30 (0,0)) zz50 hb);have n1_:=z1.mk (zc (g:=gb102) (o:=.cells #[.int .u64 a2_0,.int .u64 a2_1] 30 (0,0)) zz51 hb);have n2_:=z1.mk (zc (g:=gb103) (o:=.cells #[.int .u64 0,.int .u64 0] 30 (0,0)) zz52 hb);have n3_:=z1.mk (z3 zz33 hb);clear BK101;clear BK102;clear BK103;clear HB;have BK101:=n0_;have BK102:=n1_;have BK103:=n2_;have HB:=n3_;clear n0_ n1_ n2_ n3_;(try clear hb);(try clear hb2);(try clear hk);(try clear hi)));try go_wp2_with (first|(go_at_call 81;(with_reducible refine (zF.calls k a0 a1_0 a1_1 false _ A8.out).mono ?_);rintro e w21 ⟨rfl,hb⟩;have n0_:=z1.mk (zc (g:=gb101) (o:=.cells #[.int .u64 a1_0,.int .u64 a1_1] 30 (0,0)) zz50 hb);have n1_:=z1.mk (zc (g:=gb102) (o:=.cells #[.int .u64 a2_0,.int .u64 a2_1] 30 (0,0)) zz51 hb);have n2_:=z1.mk (zc (g:=gb103) (o:=.cells #[.int .u64 0,.int .u64 0] 30 (0,0)) zz52 hb);have n3_:=z1.mk (z3 zz33 hb);clear BK101;clear BK102;clear BK103;clear HB;have BK101:=n0_;have BK102:=n1_;have BK103:=n2_;have HB:=n3_;clear n0_ n1_ n2_ n3_;(try clear hb);(try clear hb2);(try clear hk);(try clear hi))))
    go_meet
    case rel=>exact ⟨_,(true),zz86,H',⟨by first|omega|exact Nat.le_refl _⟩,⟨by (with_reducible repeat (first|refine z5 ?_ _|refine z8 ?_|refine z4 ?_ _));exact BK101.out⟩,⟨by (with_reducible repeat (first|refine z5 ?_ _|refine z8 ?_|refine z4 ?_ _));exact BK102.out⟩,⟨by (with_reducible repeat (first|refine z5 ?_ _|refine z8 ?_|refine z4 ?_ _));exact BK103.out⟩,⟨by repeat (first|(with_reducible first|exact HB.out|apply zd|apply z2|apply z9|refine za ?_ GE101.out|refine za ?_ GE102.out|refine za ?_ GE103.out)|exact HB.out)⟩⟩
  subst c9
  have H1 : ((zF.f k a0 a2_0 a2_1).bind fun t105=>(zO.j0 k a0 (!t105) a1_0 a1_1 a2_0 a2_1)) = some (r1,r2):=by rw [if_pos rfl] at H;exact H
  clear H
  have H:=H1
  clear H1
  replace H:=Option.bind_eq_some_iff.mp H
  obtain ⟨t105,A100,H⟩:=H
  replace H : (zO.j0 k a0 (!t105) a1_0 a1_1 a2_0 a2_1) = some (r1,r2):=H
  have A10:=z1.mk A100
  clear A100
  have H':=z1.mk H
  clear H
  have hnb11:=NB101_102.out
  have hnc11:=NB102_101.out
  have hnb12:=NB101_103.out
  have hnc12:=NB103_101.out
  have hcz13_0 : w7.cell? ⟨gb101,0,none⟩ = some (.int .u64 a1_0):=(z7 BK101.out 0).trans rfl
  have hcz13_1 : w7.cell? ⟨gb101,1,none⟩ = some (.int .u64 a1_1):=(z7 BK101.out 1).trans rfl
  have hfz13_0:=z6 BK101.out 0
  have hfz13_1:=z6 BK101.out 1
  go_wp2_with (first|(go_at_call 81;(with_reducible refine (zF.calls k a0 a1_0 a1_1 true _ A8.out).mono ?_);rintro e w14 ⟨rfl,hb⟩;have n0_:=z1.mk (zc (g:=gb101) (o:=.cells #[.int .u64 a1_0,.int .u64 a1_1] 30 (0,0)) zz50 hb);have n1_:=z1.mk (zc (g:=gb102) (o:=.cells #[.int .u64 a2_0,.int .u64 a2_1] 30 (0,0)) zz51 hb);have n2_:=z1.mk (zc (g:=gb103) (o:=.cells #[.int .u64 0,.int .u64 0] 30 (0,0)) zz52 hb);have n3_:=z1.mk (z3 zz33 hb);clear BK101;clear BK102;clear BK103;clear HB;have BK101:=n0_;have BK102:=n1_;have BK103:=n2_;have HB:=n3_;clear n0_ n1_ n2_ n3_;(try clear hb);(try clear hb2);(try clear hk);(try clear hi);have hnb15:=NB102_103.out;have hnc15:=NB103_102.out;have hcz16_0 : w14.cell? ⟨gb102,0,none⟩ = some (.int .u64 a2_0):=(z7 BK102.out 0).trans rfl;have hcz16_1 : w14.cell? ⟨gb102,1,none⟩ = some (.int .u64 a2_1):=(z7 BK102.out 1).trans rfl;have hfz16_0:=z6 BK102.out 0;have hfz16_1:=z6 BK102.out 1)|(go_at_call 81;(with_reducible refine (zF.calls k a0 a2_0 a2_1 t105 _ A10.out).mono ?_);rintro e w17 ⟨rfl,hb⟩;have n0_:=z1.mk (zc (g:=gb101) (o:=.cells #[.int .u64 a1_0,.int .u64 a1_1] 30 (0,0)) zz50 hb);have n1_:=z1.mk (zc (g:=gb102) (o:=.cells #[.int .u64 a2_0,.int .u64 a2_1] 30 (0,0)) zz51 hb);have n2_:=z1.mk (zc (g:=gb103) (o:=.cells #[.int .u64 0,.int .u64 0] 30 (0,0)) zz52 hb);have n3_:=z1.mk (z3 zz33 hb);clear BK101;clear BK102;clear BK103;clear HB;have BK101:=n0_;have BK102:=n1_;have BK103:=n2_;have HB:=n3_;clear n0_ n1_ n2_ n3_;(try clear hb);(try clear hb2);(try clear hk);(try clear hi)))
  repeat (go_quiet (first|(go_at_call 81;(with_reducible refine (zF.calls k a0 a1_0 a1_1 true _ A8.out).mono ?_);rintro e w14 ⟨rfl,hb⟩;have n0_:=z1.mk (zc (g:=gb101) (o:=.cells #[.int .u64 a1_0,.int .u64 a1_1] 30 (0,0)) zz50 hb);have n1_:=z1.mk (zc (g:=gb102) (o:=.cells #[.int .u64 a2_0,.int .u64 a2_1] 30 (0,0)) zz51 hb);have n2_:=z1.mk (zc (g:=gb103) (o:=.cells #[.int .u64 0,.int .u64 0] 30 (0,0)) zz52 hb);have n3_:=z1.mk (z3 zz33 hb);clear BK101;clear BK102;clear BK103;clear HB;have BK101:=n0_;have BK102:=n1_;have BK103:=n2_;have HB:=n3_;clear n0_ n1_ n2_ n3_;(try clear hb);(try clear hb2);(try clear hk);(try clear hi);have hnb15:=NB102_103.out;have hnc15:=NB103_102.out;have hcz16_0 : w14.cell? ⟨gb102,0,none⟩ = some (.int .u64 a2_0):=(z7 BK102.out 0).trans rfl;have hcz16_1 : w14.cell? ⟨gb102,1,none⟩ = some (.int .u64 a2_1):=(z7 BK102.out 1).trans rfl;have hfz16_0:=z6 BK102.out 0;have hfz16_1:=z6 BK102.out 1)|(go_at_call 81;(with_reducible refine (zF.calls k a0 a2_0 a2_1 t105 _ A10.out).mono ?_);rintro e w17 ⟨rfl,hb⟩;have n0_:=z1.mk (zc (g:=gb101) (o:=.cells #[.int .u64 a1_0,.int .u64 a1_1] 30 (0,0)) zz50 hb);have n1_:=z1.mk (zc (g:=gb102) (o:=.cells #[.int .u64 a2_0,.int .u64 a2_1] 30 (0,0)) zz51 hb);have n2_:=z1.mk (zc (g:=gb103) (o:=.cells #[.int .u64 0,.int .u64 0] 30 (0,0)) zz52 hb);have n3_:=z1.mk (z3 zz33 hb);clear BK101;clear BK102;clear BK103;clear HB;have BK101:=n0_;have BK102:=n1_;have BK103:=n2_;have HB:=n3_;clear n0_ n1_ n2_ n3_;(try clear hb);(try clear hb2);(try clear hk);(try clear hi)));try go_wp2_with (first|(go_at_call 81;(with_reducible refine (zF.calls k a0 a1_0 a1_1 true _ A8.out).mono ?_);rintro e w14 ⟨rfl,hb⟩;have n0_:=z1.mk (zc (g:=gb101) (o:=.cells #[.int .u64 a1_0,.int .u64 a1_1] 30 (0,0)) zz50 hb);have n1_:=z1.mk (zc (g:=gb102) (o:=.cells #[.int .u64 a2_0,.int .u64 a2_1] 30 (0,0)) zz51 hb);have n2_:=z1.mk (zc (g:=gb103) (o:=.cells #[.int .u64 0,.int .u64 0] 30 (0,0)) zz52 hb);have n3_:=z1.mk (z3 zz33 hb);clear BK101;clear BK102;clear BK103;clear HB;have BK101:=n0_;have BK102:=n1_;have BK103:=n2_;have HB:=n3_;clear n0_ n1_ n2_ n3_;(try clear hb);(try clear hb2);(try clear hk);(try clear hi);have hnb15:=NB102_103.out;have hnc15:=NB103_102.out;have hcz16_0 : w14.cell? ⟨gb102,0,none⟩ = some (.int .u64 a2_0):=(z7 BK102.out 0).trans rfl;have hcz16_1 : w14.cell? ⟨gb102,1,none⟩ = some (.int .u64 a2_1):=(z7 BK102.out 1).trans rfl;have hfz16_0:=z6 BK102.out 0;have hfz16_1:=z6 BK102.out 1)|(go_at_call 81;(with_reducible refine (zF.calls k a0 a2_0 a2_1 t105 _ A10.out).mono ?_);rintro e w17 ⟨rfl,hb⟩;have n0_:=z1.mk (zc (g:=gb101) (o:=.cells #[.int .u64 a1_0,.int .u64 a1_1] 30 (0,0)) zz50 hb);have n1_:=z1.mk (zc (g:=gb102) (o:=.cells #[.int .u64 a2_0,.int .u64 a2_1] 30 (0,0)) zz51 hb);have n2_:=z1.mk (zc (g:=gb103) (o:=.cells #[.int .u64 0,.int .u64 0] 30 (0,0)) zz52 hb);have n3_:=z1.mk (z3 zz33 hb);clear BK101;clear BK102;clear BK103;clear HB;have BK101:=n0_;have BK102:=n1_;have BK103:=n2_;have HB:=n3_;clear n0_ n1_ n2_ n3_;(try clear hb);(try clear hb2);(try clear hk);(try clear hi))))
  go_meet
  case rel=>exact ⟨_,(!t105),zz86,H',⟨by first|omega|exact Nat.le_refl _⟩,⟨by (with_reducible repeat (first|refine z5 ?_ _|refine z8 ?_|refine z4 ?_ _));exact BK101.out⟩,⟨by (with_reducible repeat (first|refine z5 ?_ _|refine z8 ?_|refine z4 ?_ _));exact BK102.out⟩,⟨by (with_reducible repeat (first|refine z5 ?_ _|refine z8 ?_|refine z4 ?_ _));exact BK103.out⟩,⟨by repeat (first|(with_reducible first|exact HB.out|apply zd|apply z2|apply z9|refine za ?_ GE101.out|refine za ?_ GE102.out|refine za ?_ GE103.out)|exact HB.out)⟩⟩
 case rest =>
  clear HC4
  (try clear c1);(try clear p2);(try clear c7);(try clear c9);(try clear c11);(try clear c12);(try clear c15);(try clear c18);(try clear c19);(try clear hcz13_0);(try clear hcz13_1);(try clear hcz16_0);(try clear hcz16_1);(try clear hcz20_0);(try clear hcz20_1);(try clear hfz13_0);(try clear hfz13_1);(try clear hfz16_0);(try clear hfz16_1);(try clear hfz20_0);(try clear hfz20_1)
  obtain ⟨kq,x10_3,rfl,HA,HJ3,BK101,BK102,BK103,HB⟩:=hcut
  cases kq with
  | zero=>exact absurd HA.out (by simp [zO.j0])
  | succ kj3 =>
   have H:=HA.out
   clear HA
   simp only [zO.j0] at H
   by_cases c22 : x10_3 = true
   · subst c22
     have H1 : (some (0,0)) = some (r1,r2):=by rw [if_pos rfl] at H;exact H
     clear H
     have H:=H1
     clear H1
     simp only [Option.some.injEq,Prod.mk.injEq] at H
     obtain ⟨rfl,rfl⟩:=H
     have hnb23:=NB103_101.out
     have hnc23:=NB101_103.out
     have hnb24:=NB103_102.out
     have hnc24:=NB102_103.out
     have hcz25_0 : wc.cell? ⟨gb103,0,none⟩ = some (.int .u64 0):=(z7 BK103.out 0).trans rfl
     have hcz25_1 : wc.cell? ⟨gb103,1,none⟩ = some (.int .u64 0):=(z7 BK103.out 1).trans rfl
     have hfz25_0:=z6 BK103.out 0
     have hfz25_1:=z6 BK103.out 1
     go_wp2
     repeat (go_quiet (fail);try go_wp2)
     refine bodyPost_ret (results_cell_row rfl _ _ gb103 30 #[.int .u64 0,.int .u64 0] (0,0) _ rfl zz8 Try.underlying30 rfl zz90) rfl ?_
     exact ⟨by first|rfl|(simp [zg,zh] <;> rfl)|(simp [*,zg,zh] <;> rfl),by repeat (first|(with_reducible first|exact HB.out|apply zd|apply z2|apply z9|refine za ?_ GE101.out|refine za ?_ GE102.out|refine za ?_ GE103.out)|exact HB.out)⟩
   replace c22:=Bool.eq_false_iff.mpr c22
   subst c22
   have H1 : (if a0 ≤ 6 then ((zG.f kj3 a0 a1_1 a2_1).bind fun t106=>(some (0,t106))) else ((zG.f kj3 6 a1_0 a2_0).bind fun t107=>((zG.f kj3 6 a1_1 a2_1).bind fun t108=>((zG.f kj3 6 (Go.bits .xor .u64 a1_0 a1_1) (Go.bits .xor .u64 a2_0 a2_1)).bind fun t109=>((z10.f kj3 6 t107).bind fun t110=>(some (Go.bits .xor .u64 (Go.bits .xor .u64 (Go.bits .xor .u64 t109 t107) t108) t110,Go.bits .xor .u64 t108 t107))))))) = some (r1,r2):=by rw [if_neg (show ¬ (false = true) by decide)] at H;exact H
   clear H
   have H:=H1
   clear H1
   by_cases c26 : a0 ≤ 6
   · rw [if_pos c26] at H
     have c26b0 : decide (a0 ≤ 6) = true:=decide_eq_true c26
     clear c26
     replace H:=Option.bind_eq_some_iff.mp H
     obtain ⟨t106,A270,H⟩:=H
     replace H : (some (0,t106)) = some (r1,r2):=H
     have A27:=z1.mk A270
     clear A270
     simp only [Option.some.injEq,Prod.mk.injEq] at H
     obtain ⟨rfl,rfl⟩:=H
     have hnb28:=NB101_102.out
     have hnc28:=NB102_101.out
     have hnb29:=NB101_103.out
     have hnc29:=NB103_101.out
     have hcz30_0 : wc.cell? ⟨gb101,0,none⟩ = some (.int .u64 a1_0):=(z7 BK101.out 0).trans rfl
     have hcz30_1 : wc.cell? ⟨gb101,1,none⟩ = some (.int .u64 a1_1):=(z7 BK101.out 1).trans rfl
     have hfz30_0:=z6 BK101.out 0
     have hfz30_1:=z6 BK101.out 1
     have hnb31:=NB102_103.out
     have hnc31:=NB103_102.out
     have hcz32_0 : wc.cell? ⟨gb102,0,none⟩ = some (.int .u64 a2_0):=(z7 BK102.out 0).trans rfl
     have hcz32_1 : wc.cell? ⟨gb102,1,none⟩ = some (.int .u64 a2_1):=(z7 BK102.out 1).trans rfl
     have hfz32_0:=z6 BK102.out 0
     have hfz32_1:=z6 BK102.out 1
     go_wp2_with (first|(go_at_call 117;(with_reducible refine (zG.calls kj3 a0 a1_1 a2_1 t106 _ A27.out).mono ?_);rintro e w' ⟨rfl,⟨nd,rfl⟩⟩;(try first|exact ⟨rfl,_,World.drewN_drewN _ _ _⟩|exact ⟨rfl,_,Eq.trans (World.drewN_drewN _ _ _) (congrArg (World.drewN _) (Nat.add_assoc _ _ _))⟩);have hcz33_0 : wc.cell? ⟨gb103,0,none⟩ = some (.int .u64 0):=(z7 BK103.out 0).trans rfl;have hcz33_1 : wc.cell? ⟨gb103,1,none⟩ = some (.int .u64 0):=(z7 BK103.out 1).trans rfl;have hfz33_0:=z6 BK103.out 0;have hfz33_1:=z6 BK103.out 1))
     repeat (go_quiet (first|(go_at_call 117;(with_reducible refine (zG.calls kj3 a0 a1_1 a2_1 t106 _ A27.out).mono ?_);rintro e w' ⟨rfl,⟨nd,rfl⟩⟩;(try first|exact ⟨rfl,_,World.drewN_drewN _ _ _⟩|exact ⟨rfl,_,Eq.trans (World.drewN_drewN _ _ _) (congrArg (World.drewN _) (Nat.add_assoc _ _ _))⟩);have hcz33_0 : wc.cell? ⟨gb103,0,none⟩ = some (.int .u64 0):=(z7 BK103.out 0).trans rfl;have hcz33_1 : wc.cell? ⟨gb103,1,none⟩ = some (.int .u64 0):=(z7 BK103.out 1).trans rfl;have hfz33_0:=z6 BK103.out 0;have hfz33_1:=z6 BK103.out 1));try go_wp2_with (first|(go_at_call 117;(with_reducible refine (zG.calls kj3 a0 a1_1 a2_1 t106 _ A27.out).mono ?_);rintro e w' ⟨rfl,⟨nd,rfl⟩⟩;(try first|exact ⟨rfl,_,World.drewN_drewN _ _ _⟩|exact ⟨rfl,_,Eq.trans (World.drewN_drewN _ _ _) (congrArg (World.drewN _) (Nat.add_assoc _ _ _))⟩);have hcz33_0 : wc.cell? ⟨gb103,0,none⟩ = some (.int .u64 0):=(z7 BK103.out 0).trans rfl;have hcz33_1 : wc.cell? ⟨gb103,1,none⟩ = some (.int .u64 0):=(z7 BK103.out 1).trans rfl;have hfz33_0:=z6 BK103.out 0;have hfz33_1:=z6 BK103.out 1)))
     refine bodyPost_ret (results_cell_row rfl _ _ gb103 30 #[.int .u64 0,.int .u64 t106] (0,0) _ rfl zz8 Try.underlying30 rfl zz90) rfl ?_
     exact ⟨by first|rfl|(simp [zg,zh] <;> rfl)|(simp [*,zg,zh] <;> rfl),by repeat (first|(with_reducible first|exact HB.out|apply zd|apply z2|apply z9|refine za ?_ GE101.out|refine za ?_ GE102.out|refine za ?_ GE103.out)|exact HB.out)⟩
   rw [if_neg c26] at H
   have c26b0 : decide (a0 ≤ 6) = false:=decide_eq_false c26
   clear c26
   replace H:=Option.bind_eq_some_iff.mp H
   obtain ⟨t107,A340,H⟩:=H
   replace H : ((zG.f kj3 6 a1_1 a2_1).bind fun t108=>((zG.f kj3 6 (Go.bits .xor .u64 a1_0 a1_1) (Go.bits .xor .u64 a2_0 a2_1)).bind fun t109=>((z10.f kj3 6 t107).bind fun t110=>(some (Go.bits .xor .u64 (Go.bits .xor .u64 (Go.bits .xor .u64 t109 t107) t108) t110,Go.bits .xor .u64 t108 t107))))) = some (r1,r2):=H
   have A34:=z1.mk A340
   clear A340
   replace H:=Option.bind_eq_some_iff.mp H
   obtain ⟨t108,A350,H⟩:=H
   replace H : ((zG.f kj3 6 (Go.bits .xor .u64 a1_0 a1_1) (Go.bits .xor .u64 a2_0 a2_1)).bind fun t109=>((z10.f kj3 6 t107).bind fun t110=>(some (Go.bits .xor .u64 (Go.bits .xor .u64 (Go.bits .xor .u64 t109 t107) t108) t110,Go.bits .xor .u64 t108 t107)))) = some (r1,r2):=H
   have A35:=z1.mk A350
   clear A350
   replace H:=Option.bind_eq_some_iff.mp H
   obtain ⟨t109,A360,H⟩:=H
   replace H : ((z10.f kj3 6 t107).bind fun t110=>(some (Go.bits .xor .u64 (Go.bits .xor .u64 (Go.bits .xor .u64 t109 t107) t108) t110,Go.bits .xor .u64 t108 t107))) = some (r1,r2):=H
   have A36:=z1.mk A360
   clear A360
   replace H:=Option.bind_eq_some_iff.mp H
   obtain ⟨t110,A370,H⟩:=H
   replace H : (some (Go.bits .xor .u64 (Go.bits .xor .u64 (Go.bits .xor .u64 t109 t107) t108) t110,Go.bits .xor .u64 t108 t107)) = some (r1,r2):=H
   have A37:=z1.mk A370
   clear A370
   simp only [Option.some.injEq,Prod.mk.injEq] at H
   obtain ⟨rfl,rfl⟩:=H
   have hnb38:=NB101_102.out
   have hnc38:=NB102_101.out
   have hnb39:=NB101_103.out
   have hnc39:=NB103_101.out
   have hcz40_0 : wc.cell? ⟨gb101,0,none⟩ = some (.int .u64 a1_0):=(z7 BK101.out 0).trans rfl
   have hcz40_1 : wc.cell? ⟨gb101,1,none⟩ = some (.int .u64 a1_1):=(z7 BK101.out 1).trans rfl
   have hfz40_0:=z6 BK101.out 0
   have hfz40_1:=z6 BK101.out 1
   have hnb41:=NB102_103.out
   have hnc41:=NB103_102.out
   have hcz42_0 : wc.cell? ⟨gb102,0,none⟩ = some (.int .u64 a2_0):=(z7 BK102.out 0).trans rfl
   have hcz42_1 : wc.cell? ⟨gb102,1,none⟩ = some (.int .u64 a2_1):=(z7 BK102.out 1).trans rfl
   have hfz42_0:=z6 BK102.out 0
   have hfz42_1:=z6 BK102.out 1
   go_wp2_with (first|(go_at_call 117;(with_reducible refine (zG.calls kj3 6 a1_0 a2_0 t107 _ A34.out).mono ?_);rintro e w' ⟨rfl,⟨nd,rfl⟩⟩;(try first|exact ⟨rfl,_,World.drewN_drewN _ _ _⟩|exact ⟨rfl,_,Eq.trans (World.drewN_drewN _ _ _) (congrArg (World.drewN _) (Nat.add_assoc _ _ _))⟩))|(go_at_call 117;(with_reducible refine (zG.calls kj3 6 a1_1 a2_1 t108 _ A35.out).mono ?_);rintro e w' ⟨rfl,⟨nd,rfl⟩⟩;(try first|exact ⟨rfl,_,World.drewN_drewN _ _ _⟩|exact ⟨rfl,_,Eq.trans (World.drewN_drewN _ _ _) (congrArg (World.drewN _) (Nat.add_assoc _ _ _))⟩))|(go_at_call 117;(with_reducible refine (zG.calls kj3 6 (Go.bits .xor .u64 a1_0 a1_1) (Go.bits .xor .u64 a2_0 a2_1) t109 _ A36.out).mono ?_);rintro e w' ⟨rfl,⟨nd,rfl⟩⟩;(try first|exact ⟨rfl,_,World.drewN_drewN _ _ _⟩|exact ⟨rfl,_,Eq.trans (World.drewN_drewN _ _ _) (congrArg (World.drewN _) (Nat.add_assoc _ _ _))⟩))|(go_at_call 118;(with_reducible refine (z10.calls kj3 6 t107 t110 _ A37.out).mono ?_);rintro e w' ⟨rfl,⟨nd,rfl⟩⟩;(try first|exact ⟨rfl,_,World.drewN_drewN _ _ _⟩|exact ⟨rfl,_,Eq.trans (World.drewN_drewN _ _ _) (congrArg (World.drewN _) (Nat.add_assoc _ _ _))⟩);have hcz43_0 : wc.cell? ⟨gb103,0,none⟩ = some (.int .u64 0):=(z7 BK103.out 0).trans rfl;have hcz43_1 : wc.cell? ⟨gb103,1,none⟩ = some (.int .u64 0):=(z7 BK103.out 1).trans rfl;have hfz43_0:=z6 BK103.out 0;have hfz43_1:=z6 BK103.out 1))
   repeat (go_quiet (first|(go_at_call 117;(with_reducible refine (zG.calls kj3 6 a1_0 a2_0 t107 _ A34.out).mono ?_);rintro e w' ⟨rfl,⟨nd,rfl⟩⟩;(try first|exact ⟨rfl,_,World.drewN_drewN _ _ _⟩|exact ⟨rfl,_,Eq.trans (World.drewN_drewN _ _ _) (congrArg (World.drewN _) (Nat.add_assoc _ _ _))⟩))|(go_at_call 117;(with_reducible refine (zG.calls kj3 6 a1_1 a2_1 t108 _ A35.out).mono ?_);rintro e w' ⟨rfl,⟨nd,rfl⟩⟩;(try first|exact ⟨rfl,_,World.drewN_drewN _ _ _⟩|exact ⟨rfl,_,Eq.trans (World.drewN_drewN _ _ _) (congrArg (World.drewN _) (Nat.add_assoc _ _ _))⟩))|(go_at_call 117;(with_reducible refine (zG.calls kj3 6 (Go.bits .xor .u64 a1_0 a1_1) (Go.bits .xor .u64 a2_0 a2_1) t109 _ A36.out).mono ?_);rintro e w' ⟨rfl,⟨nd,rfl⟩⟩;(try first|exact ⟨rfl,_,World.drewN_drewN _ _ _⟩|exact ⟨rfl,_,Eq.trans (World.drewN_drewN _ _ _) (congrArg (World.drewN _) (Nat.add_assoc _ _ _))⟩))|(go_at_call 118;(with_reducible refine (z10.calls kj3 6 t107 t110 _ A37.out).mono ?_);rintro e w' ⟨rfl,⟨nd,rfl⟩⟩;(try first|exact ⟨rfl,_,World.drewN_drewN _ _ _⟩|exact ⟨rfl,_,Eq.trans (World.drewN_drewN _ _ _) (congrArg (World.drewN _) (Nat.add_assoc _ _ _))⟩);have hcz43_0 : wc.cell? ⟨gb103,0,none⟩ = some (.int .u64 0):=(z7 BK103.out 0).trans rfl;have hcz43_1 : wc.cell? ⟨gb103,1,none⟩ = some (.int .u64 0):=(z7 BK103.out 1).trans rfl;have hfz43_0:=z6 BK103.out 0;have hfz43_1:=z6 BK103.out 1));try go_wp2_with (first|(go_at_call 117;(with_reducible refine (zG.calls kj3 6 a1_0 a2_0 t107 _ A34.out).mono ?_);rintro e w' ⟨rfl,⟨nd,rfl⟩⟩;(try first|exact ⟨rfl,_,World.drewN_drewN _ _ _⟩|exact ⟨rfl,_,Eq.trans (World.drewN_drewN _ _ _) (congrArg (World.drewN _) (Nat.add_assoc _ _ _))⟩))|(go_at_call 117;(with_reducible refine (zG.calls kj3 6 a1_1 a2_1 t108 _ A35.out).mono ?_);rintro e w' ⟨rfl,⟨nd,rfl⟩⟩;(try first|exact ⟨rfl,_,World.drewN_drewN _ _ _⟩|exact ⟨rfl,_,Eq.trans (World.drewN_drewN _ _ _) (congrArg (World.drewN _) (Nat.add_assoc _ _ _))⟩))|(go_at_call 117;(with_reducible refine (zG.calls kj3 6 (Go.bits .xor .u64 a1_0 a1_1) (Go.bits .xor .u64 a2_0 a2_1) t109 _ A36.out).mono ?_);rintro e w' ⟨rfl,⟨nd,rfl⟩⟩;(try first|exact ⟨rfl,_,World.drewN_drewN _ _ _⟩|exact ⟨rfl,_,Eq.trans (World.drewN_drewN _ _ _) (congrArg (World.drewN _) (Nat.add_assoc _ _ _))⟩))|(go_at_call 118;(with_reducible refine (z10.calls kj3 6 t107 t110 _ A37.out).mono ?_);rintro e w' ⟨rfl,⟨nd,rfl⟩⟩;(try first|exact ⟨rfl,_,World.drewN_drewN _ _ _⟩|exact ⟨rfl,_,Eq.trans (World.drewN_drewN _ _ _) (congrArg (World.drewN _) (Nat.add_assoc _ _ _))⟩);have hcz43_0 : wc.cell? ⟨gb103,0,none⟩ = some (.int .u64 0):=(z7 BK103.out 0).trans rfl;have hcz43_1 : wc.cell? ⟨gb103,1,none⟩ = some (.int .u64 0):=(z7 BK103.out 1).trans rfl;have hfz43_0:=z6 BK103.out 0;have hfz43_1:=z6 BK103.out 1)))
   refine bodyPost_ret (results_cell_row rfl _ _ gb103 30 #[.int .u64 (Go.bits .xor .u64 (Go.bits .xor .u64 (Go.bits .xor .u64 t109 t107) t108) t110),.int .u64 (Go.bits .xor .u64 t108 t107)] (0,0) _ rfl (by (with_reducible repeat (first|refine z5 ?_ _|refine z8 ?_|refine z4 ?_ _));refine zX (cs:=#[.int .u64 (Go.bits .xor .u64 (Go.bits .xor .u64 (Go.bits .xor .u64 t109 t107) t108) t110),.int .u64 0]) ?_ 1 _ rfl;(with_reducible repeat (first|refine z5 ?_ _|refine z8 ?_|refine z4 ?_ _));refine zX (cs:=#[.int .u64 0,.int .u64 0]) ?_ 0 _ rfl;(with_reducible repeat (first|refine z5 ?_ _|refine z8 ?_|refine z4 ?_ _));exact BK103.out) Try.underlying30 rfl zz90) rfl ?_
   exact ⟨by first|rfl|(simp [zg,zh] <;> rfl)|(simp [*,zg,zh] <;> rfl),by repeat (first|(with_reducible first|exact HB.out|apply zd|apply z2|apply z9|refine za ?_ GE101.out|refine za ?_ GE102.out|refine za ?_ GE103.out)|exact HB.out)⟩
end Go.Proofs.Ytkhmpaooinpfoaa.P
namespace Go.Proofs.Ytkhmpaooinpfoaa.P
open Go.RowKit Go.Proofs.YtkhmpaooinpfoaaW.PrintWords Go.Proofs.YtkhmpaooinpfoaaW.PrintLast Go.Proofs.YtkhmpaooinpfoaaW.PrintMore
attribute [local go_sem] z12 z14 z1i z1j zU zV z13 z15   -- for this text's walks alone
set_option linter.unusedVariables false
set_option linter.unusedSimpArgs false
def z24.f  : Option (Int × Int):=some (0,1)
set_option maxHeartbeats 8000000 in
set_option maxRecDepth 100000 in
theorem z24.calls  (r1 : Int) (r2 : Int) (w : World) (h : z24.f  = some (r1,r2)) :
 Calls Try.prog 99 #[] w fun e w'=>e = .returned (.agg #[.int .u64 r1,.int .u64 r2]) ∧ Below w.heap.size w w':=by
 have hu30:=Try.underlying30
 have HB:=z1.mk (Below.refl w.heap.size w)
 have H : (some (0,1)) = some (r1,r2):=h
 clear h
 simp only [Option.some.injEq,Prod.mk.injEq] at H
 obtain ⟨rfl,rfl⟩:=H
 go_enter Try.func99,Try.ntmps99
 go_wp2_with (first|((with_reducible refine zp (N:=0) rfl ?_);refine zt ?hg (N:=0) ?hd (cs:=#[.int .u64 0,.int .u64 0]) (t:=30) ?hr ?_;(case hd=>rfl);(case hg=>rfl);(case hr=>first|(go_simp;done)|(go_simp;rfl));intro gb101 hg w1 hbox hb;have n0_:=z1.mk (z3 zz49 hb);have n1_:=z1.mk (hbox);have n2_:=z1.mk ((by rw [hg];exact (zb zz49) : w.heap.size ≤ gb101));have n3_:=z1.mk ((by rw [hg];exact (zb zz49) : w.heap.size ≤ gb101));clear HB;have HB:=n0_;have BK101:=n1_;have GW101:=n2_;have GE101:=n3_;clear n0_ n1_ n2_ n3_;clear hb hbox hg;have hcz2_0 : w1.cell? ⟨gb101,0,none⟩ = some (.int .u64 0):=(z7 BK101.out 0).trans rfl;have hcz2_1 : w1.cell? ⟨gb101,1,none⟩ = some (.int .u64 0):=(z7 BK101.out 1).trans rfl;have hfz2_0:=z6 BK101.out 0;have hfz2_1:=z6 BK101.out 1))
 refine bodyPost_ret (results_cell_row rfl _ _ gb101 30 #[.int .u64 0,.int .u64 1] (0,0) _ rfl zz9 Try.underlying30 rfl zz90) rfl ?_
 exact ⟨by first|rfl|(simp [zg,zh] <;> rfl)|(simp [*,zg,zh] <;> rfl),by repeat (first|(with_reducible first|exact HB.out|apply zd|apply z2|apply z9|refine za ?_ GE101.out)|exact HB.out)⟩
end Go.Proofs.Ytkhmpaooinpfoaa.P
namespace Go.Proofs.Ytkhmpaooinpfoaa.P
open Go.RowKit Go.Proofs.YtkhmpaooinpfoaaW.PrintWords Go.Proofs.YtkhmpaooinpfoaaW.PrintLast Go.Proofs.YtkhmpaooinpfoaaW.PrintMore
attribute [local go_sem] z12 z14 z1i z1j zU zV z13 z15   -- for this text's walks alone
set_option linter.unusedVariables false
set_option linter.unusedSimpArgs false
set_option maxHeartbeats 800000 in
set_option maxRecDepth 100000 in
theorem z1y.clo (k : Nat) (a0 : Int) (x : S30) (g : Nat) (r : Bool) (w : World) (hg : w.heap[g]? = some (.cells #[.int .i64 a0] 3 (0,0))) (h : zF.f k a0 x.f0 x.f1 = some r) :
 Calls Try.prog 136 #[.agg #[.int .u64 x.f0,.int .u64 x.f1],.pointer (some ⟨g,0,none⟩)] w fun e w'=>e = .returned (.bool (!r)) ∧ Below w.heap.size w w':=by
 have hu30:=Try.underlying30
 have HB:=z1.mk (Below.refl w.heap.size w)
 have HG:=z1.mk hg
 have A8:=z1.mk h
 clear hg h
 go_enter Try.func136,Try.ntmps136
 go_wp2_with (first
  | ((with_reducible refine zp (N:=2) rfl ?_);refine zt ?hg (N:=2) ?hd (cs:=#[.int .u64 x.f0,.int .u64 x.f1]) (t:=30) ?hr ?_;(case hd=>rfl);(case hg=>rfl);(case hr=>first|(go_simp;done)|(go_simp;rfl));intro gb hgb w1_ hbox hb;have n0_:=z1.mk (z3 HB.out hb);have hG1:=zc (g:=g) (o:=.cells #[.int .i64 a0] 3 (0,0)) HG.out hb;have hc0 : w1_.cell? ⟨g,0,none⟩ = some (.int .i64 a0):=(z7 hG1 0).trans rfl;have hcx0 : w1_.cell? ⟨gb,0,none⟩ = some (.int .u64 x.f0):=(z7 hbox 0).trans rfl;have hcx1 : w1_.cell? ⟨gb,1,none⟩ = some (.int .u64 x.f1):=(z7 hbox 1).trans rfl;clear HB hG1 hbox hb hgb;have HB:=n0_;clear n0_)
  | ((with_reducible refine zi (f:=81) rfl ?_);refine goesL_ (some 6) rfl rfl Try.func81 zz90 rfl #[.int .i64 a0,.agg #[.int .u64 x.f0,.int .u64 x.f1]] rfl zz84 ?_;(with_reducible refine (zF.calls k a0 x.f0 x.f1 r _ A8.out).mono ?_);rintro e w2_ ⟨rfl,hb2⟩;refine ⟨_,rfl,?_⟩;have n0_:=z1.mk (z3 HB.out hb2);clear HB hb2;have HB:=n0_;clear n0_))
 go_ret
 exact ⟨rfl,HB.out⟩
def z1y.all (k : Nat) (a0 : Int) : List S30 → Option Bool
 | []=>some true
 | x :: xs=>(zF.f k a0 x.f0 x.f1).bind fun b=>if b = true then z1y.all k a0 xs else some false
theorem z1y.z2y (a0 : Int) : ∀ (l : List S30) (k : Nat),LeO (z1y.all k a0 l) (z1y.all (k + 1) a0 l)
 | [],k=>LeO.refl _
 | x :: xs,k=>LeO.bind (zF.mono a0 x.f0 x.f1 k) (fun b=>LeO.ite (z1y.z2y a0 xs k) (LeO.refl _))
theorem z1y.z3q (k : Nat) (a0 : Int) (l : List S30) (i : Nat) (h : i < l.length) : z1y.all k a0 (l.drop i) = (zF.f k a0 (rd_T30 l (i : Int)).f0 (rd_T30 l (i : Int)).f1).bind fun b=>if b = true then z1y.all k a0 (l.drop (i + 1)) else some false:=by
 rw [List.drop_eq_getElem_cons h]
 have e : rd_T30 l (i : Int) = l[i]:=by unfold rd_T30;rw [Int.toNat_natCast,List.getD_eq_getElem?_getD,List.getElem?_eq_getElem h];rfl
 rw [e];rfl
set_option maxHeartbeats 800000 in
set_option maxRecDepth 100000 in
theorem z1y.idx (k : Nat) (a0 : Int) (A_ : Option Addr) (c : Nat) (l : List S30) (g : Nat) (r : Bool) (w : World) (hr : Kd.C k30 w A_ l.length l) (hg : w.heap[g]? = some (.cells #[.int .i64 a0] 3 (0,0))) (h : z1y.all k a0 l = some r) :
 Calls Try.prog 135 #[.slice A_ l.length c,.func (.func 136) #[] #[.pointer (some ⟨g,0,none⟩)]] w fun e w'=>(∃ i : Int,e = .returned (.int .i64 i) ∧ decide (i ≥ 0) = !r) ∧ Below w.heap.size w w':=by
 have hu30:=Try.underlying30
 have HB:=z1.mk (Below.refl w.heap.size w)
 have HG:=z1.mk hg
 have HR:=z1.mk hr
 have HA:=z1.mk h
 have HM:=z1.mk (Kd.C_max hr)
 clear hg h hr
 go_enter Try.func135,Try.ntmps135
 go_wp2
 go_loopg [8] l.length (fun kq v8 w'=>∃ (i : Nat),v8 = .int .i64 i ∧ z1 (i + kq = l.length) ∧ z1 (z1y.all k a0 (l.drop i) = some r) ∧ z1 (w'.heap[g]? = some (.cells #[.int .i64 a0] 3 (0,0))) ∧ z1 (Below w.heap.size w w'))
 case atStart=>exact ⟨0,rfl,⟨by omega⟩,HA,HG,HB⟩
 case round =>
  obtain ⟨i,rfl,HK,HAi,HGi,HBi⟩:=hrel
  clear HG HB HA
  by_cases hlt : i < l.length
  rotate_left
  · have p0 : decide (i < l.length) = false:=decide_eq_false hlt
    have p1 : decide ((i : Int) < (l.length : Int)) = false:=decide_eq_false zz92
    have hr : r = true:=by
     have h1:=HAi.out
     rw [List.drop_eq_nil_of_le zz92] at h1
     exact (Option.some.inj h1).symm
    clear hlt HAi
    subst hr
    go_wp2
    go_ret
    exact ⟨⟨-1,rfl,by decide⟩,HBi.out⟩
  have hd:=z1y.z3q k a0 l i hlt
  have e1:=HAi.out
  rw [hd] at e1
  obtain ⟨b,hb,e2⟩:=Option.bind_eq_some_iff.mp e1
  clear e1 hd
  have HE:=z1.mk e2
  have HF:=z1.mk hb
  clear e2 hb
  obtain ⟨ad,e205,hx0,hx1⟩:=z20 HR.out (i : Int) zz92 zz92
  cases e205
  rw [Int.toNat_natCast] at hx0 hx1
  replace hx0:=(HBi.out.cell (World.block_lt_of_cell? w _ hx0)).trans hx0
  replace hx1:=(HBi.out.cell (World.block_lt_of_cell? w _ hx1)).trans hx1
  have p0 : decide (i < l.length) = true:=decide_eq_true hlt
  have p1 : decide ((i : Int) < (l.length : Int)) = true:=decide_eq_true zz92
  have p2 : (0 ≤ (i : Int)) = True:=eq_true zz92
  have p3 : ((i : Int) < (l.length : Int)) = True:=eq_true zz92
  clear hlt
  go_wp2_with fail
  refine (z1y.clo k a0 (rd_T30 l (i : Int)) g b _ HGi.out HF.out).mono ?_
  rintro e w1 ⟨rfl,hb1⟩
  have n0_:=z1.mk (z3 HBi.out hb1)
  have n1_:=z1.mk (zc (g:=g) (o:=.cells #[.int .i64 a0] 3 (0,0)) HGi.out hb1)
  clear HBi HGi hb1 hx0 hx1
  cases b with
  | true =>
   rw [if_pos rfl] at HE
   simp only [Bool.not_true]
   go_wp2
   have hi : wrap64 ((i : Int) + 1) = ((i + 1 : Nat) : Int):=by
    have:=HM.out;have:=HK.out;have h9:=of_decide_eq_true p0;unfold wrap64;omega
   go_roundg (l.length - i - 1)
   case measure=>have:=HK.out;have h9:=of_decide_eq_true p0;omega
   case rel=>exact ⟨i + 1,congrArg (Value.int .i64) hi,⟨by have:=HK.out;have h9:=of_decide_eq_true p0;omega⟩,HE,n1_,n0_⟩
  | false =>
   have hr : r = false:=by
    have:=HE.out
    simp at this
    exact this
   subst hr
   simp only [Bool.not_false]
   go_wp2
   go_ret
   exact ⟨⟨(i : Int),rfl,by simp⟩,n0_.out⟩
set_option maxHeartbeats 800000 in
set_option maxRecDepth 100000 in
theorem z1y.cont (k : Nat) (a0 : Int) (A_ : Option Addr) (c : Nat) (l : List S30) (g : Nat) (r : Bool) (w : World) (hr : Kd.C k30 w A_ l.length l) (hg : w.heap[g]? = some (.cells #[.int .i64 a0] 3 (0,0))) (h : z1y.all k a0 l = some r) :
 Calls Try.prog 105 #[.slice A_ l.length c,.func (.func 136) #[] #[.pointer (some ⟨g,0,none⟩)]] w fun e w'=>e = .returned (.bool (!r)) ∧ Below w.heap.size w w':=by
 have HB:=z1.mk (Below.refl w.heap.size w)
 have HG:=z1.mk hg
 have HR:=z1.mk hr
 have HA:=z1.mk h
 clear hg h hr
 go_enter Try.func105,Try.ntmps105
 go_wp2_with fail
 refine (z1y.idx k a0 A_ c l g r _ HR.out HG.out HA.out).mono ?_
 rintro e w1 ⟨⟨i,rfl,hi⟩,hb1⟩
 have hb:=z1.mk hb1
 have hj:=z1.mk hi
 clear hb1 hi
 go_wp2
 go_ret
 exact ⟨by rw [← hj.out];rfl,hb.out⟩
def z1y.f (k : Nat) (a0 : Int) (l1 : List S30) : Option Bool:=z1y.all k a0 l1
theorem z1y.mono : ∀ a0 a1 k,LeO (z1y.f k a0 a1) (z1y.f (k + 1) a0 a1):=fun a0 l k=>z1y.z2y a0 l k
set_option maxHeartbeats 800000 in
set_option maxRecDepth 100000 in
theorem z1y.calls (k : Nat) (a0 : Int) (A1 : Option Addr) (c1 : Nat) (l1 : List S30) (r : Bool) (w : World) (hr1 : Kd.C k30 w A1 l1.length l1) (hc1 : l1.length ≤ c1) (h : z1y.f k a0 l1 = some r) :
 Calls Try.prog 108 #[.int .i64 a0,.slice A1 l1.length c1] w fun e w'=>e = .returned (.bool r) ∧ Below w.heap.size w w':=by
 have hmf : ∀ (fn : Fn) (first cap : Array Value) (w : World),(Instr.makeFunc fn first cap).run Try.prog w = .ok (.func fn first cap) w:=fun _ _ _ _=>rfl
 have HB:=z1.mk (Below.refl w.heap.size w)
 have HR:=z1.mk hr1
 have HA:=z1.mk (show z1y.all k a0 l1 = some r from h)
 clear h hr1
 go_enter Try.func108,Try.ntmps108
 go_wp2_with (first
  | ((with_reducible refine zp (N:=2) rfl ?_);refine zt ?hg (N:=2) ?hd (cs:=#[.int .i64 a0]) (t:=3) ?hr ?_;(case hd=>rfl);(case hg=>rfl);(case hr=>first|(go_simp;done)|(go_simp;rfl));intro gb hgb w1_ hbox hb;have n0_:=z1.mk (z3 HB.out hb);have n1_:=z1.mk hbox;have n2_:=z1.mk (Kd.z1r HR.out hb);clear HB HR hbox hb hgb;have HB:=n0_;have HG:=n1_;have HR:=n2_;clear n0_ n1_ n2_)
  | ((with_reducible refine zi (f:=105) rfl ?_);refine goesL_ (some 7) rfl rfl Try.func105 zz90 rfl #[.slice A1 l1.length c1,.func (.func 136) #[] #[.pointer (some ⟨gb,0,none⟩)]] rfl zz84 ?_;(with_reducible refine (z1y.cont k a0 _ _ l1 gb r _ HR.out HG.out HA.out).mono ?_);rintro e w2_ ⟨rfl,hb2⟩;refine ⟨_,rfl,?_⟩;have n0_:=z1.mk (z3 HB.out hb2);clear HB hb2;have HB:=n0_;clear n0_))
 go_ret
 exact ⟨by simp,HB.out⟩
end Go.Proofs.Ytkhmpaooinpfoaa.P
namespace Go.Proofs.Ytkhmpaooinpfoaa.P
open Go.RowKit Go.Proofs.YtkhmpaooinpfoaaW.PrintWords Go.Proofs.YtkhmpaooinpfoaaW.PrintLast Go.Proofs.YtkhmpaooinpfoaaW.PrintMore
attribute [local go_sem] z12 z14 z1i z1j zU zV z13 z15   -- for this text's walks alone
set_option linter.unusedVariables false
set_option linter.unusedSimpArgs false
mutual
def zj.j0 : Nat → Int → List (S30) → Bool → Option ((List (S30)))
 | 0,_,_,_=>none
 | k + 1,x0,x1,x24=>if x24 = true then (some ([] : List (S30))) else ((z24.f).bind fun bt103=>(zj.l0 k x0 (([(⟨bt103.1,bt103.2⟩ : S30)] : List (S30))) x1 (x1.length : Int) 0))
def zj.l0 : Nat → Int → List (S30) → List (S30) → Int → Int → Option ((List (S30)))
 | 0,_,_,_,_,_=>none
 | k + 1,x0,x5,x27,x28,x29=>if x29 < x28 then (if 0 ≤ x29 then (if x29 < (x27.length : Int) then (if 0 ≤ (x5.length : Int) then (if ((x5.length : Int) : Int).toNat ≤ 17592186044416 then (zj.l1 k x0 x5 (List.replicate ((x5.length : Int) : Int).toNat z30) x27 x28 x29 (x5.length : Int) 0 ((rd_T30 x27 x29).f0) ((rd_T30 x27 x29).f1)) else (none)) else (none)) else (none)) else (none)) else (some x5)
def zj.l1 : Nat → Int → List (S30) → List (S30) → List (S30) → Int → Int → Int → Int → Int → Int → Option ((List (S30)))
 | 0,_,_,_,_,_,_,_,_,_,_=>none
 | k + 1,x0,x5,x8,x27,x28,x29,x37,x38,x110000,x110001=>if x38 < x37 then (if 0 ≤ x38 then (if x38 < (x5.length : Int) then ((zO.f k x0 ((rd_T30 x5 x38).f0) ((rd_T30 x5 x38).f1) x110000 x110001).bind fun bt115=>(if x38 < (x8.length : Int) then ((some (x8.set (x38 : Int).toNat (⟨bt115.1,bt115.2⟩ : S30) : List (S30))).bind fun y117=>((z1t.f ((rd_T30 x5 x38).f0) ((rd_T30 x5 x38).f1) ((rd_T30 y117 x38).f0) ((rd_T30 y117 x38).f1)).bind fun bt119=>(zj.l1 k x0 (x5.set (x38 : Int).toNat (⟨bt119.1,bt119.2⟩ : S30)) y117 x27 x28 x29 x37 (wrap64 (x38 + 1)) x110000 x110001))) else (none))) else (none)) else (none)) else (if x5.length + x8.length < 8796093022208 then (zj.l0 k x0 (x5 ++ x8) x27 x28 (wrap64 (x29 + 1))) else (none))
end
def zj.f (k : Nat) (a0 : Int) (l1 : List (S30)) : Option ((List (S30))):=(zx.f k a0).bind fun t101=>(if t101 = 0 then (zj.j0 k a0 l1 true) else (if (l1.length : Int) > 16 then (zj.j0 k a0 l1 true) else ((z1y.f k a0 l1).bind fun t102=>(zj.j0 k a0 l1 (!t102)))))
theorem zj.z17 : ∀ k,(∀ y0 y1 y2,LeO (zj.j0 k y0 y1 y2) (zj.j0 (k + 1) y0 y1 y2)) ∧ (∀ y0 y1 y2 y3 y4,LeO (zj.l0 k y0 y1 y2 y3 y4) (zj.l0 (k + 1) y0 y1 y2 y3 y4)) ∧ (∀ y0 y1 y2 y3 y4 y5 y6 y7 y8 y9,LeO (zj.l1 k y0 y1 y2 y3 y4 y5 y6 y7 y8 y9) (zj.l1 (k + 1) y0 y1 y2 y3 y4 y5 y6 y7 y8 y9))
 | 0=>⟨fun _ _ _ r h=>by simp [zj.j0] at h,fun _ _ _ _ _ r h=>by simp [zj.l0] at h,fun _ _ _ _ _ _ _ _ _ _ r h=>by simp [zj.l1] at h⟩
 | k + 1=>by
  obtain ⟨ih0,ih1,ih2⟩:=zj.z17 k
  refine ⟨?_,?_,?_⟩
  · intro y0 y1 y2
    unfold zj.j0
    repeat' first
    | (with_reducible exact ih0 _ _ _)
    | (with_reducible exact ih1 _ _ _ _ _)
    | (with_reducible exact ih2 _ _ _ _ _ _ _ _ _ _)
    | (with_reducible exact z1y.mono _ _ _)
    | (with_reducible exact zx.mono _ _)
    | (with_reducible exact zO.mono _ _ _ _ _ _)
    | (with_reducible exact LeO.refl _)
    | (with_reducible exact LeO.none _)
    | (with_reducible refine LeO.ite ?_ ?_)
    | (with_reducible refine LeO.bind ?_ (fun _=>?_))
    | exact ih0 _ _ _
    | exact ih1 _ _ _ _ _
    | exact ih2 _ _ _ _ _ _ _ _ _ _
    | exact z1y.mono _ _ _
    | exact zx.mono _ _
    | exact zO.mono _ _ _ _ _ _
    | exact LeO.none _
    | refine LeO.ite ?_ ?_
    | refine LeO.bind ?_ (fun _=>?_)
  · intro y0 y1 y2 y3 y4
    unfold zj.l0
    repeat' first
    | (with_reducible exact ih0 _ _ _)
    | (with_reducible exact ih1 _ _ _ _ _)
    | (with_reducible exact ih2 _ _ _ _ _ _ _ _ _ _)
    | (with_reducible exact z1y.mono _ _ _)
    | (with_reducible exact zx.mono _ _)
    | (with_reducible exact zO.mono _ _ _ _ _ _)
    | (with_reducible exact LeO.refl _)
    | (with_reducible exact LeO.none _)
    | (with_reducible refine LeO.ite ?_ ?_)
    | (with_reducible refine LeO.bind ?_ (fun _=>?_))
    | exact ih0 _ _ _
    | exact ih1 _ _ _ _ _
    | exact ih2 _ _ _ _ _ _ _ _ _ _
    | exact z1y.mono _ _ _
    | exact zx.mono _ _
    | exact zO.mono _ _ _ _ _ _
    | exact LeO.none _
    | refine LeO.ite ?_ ?_
    | refine LeO.bind ?_ (fun _=>?_)
  · intro y0 y1 y2 y3 y4 y5 y6 y7 y8 y9
    unfold zj.l1
    repeat' first
    | (with_reducible exact ih0 _ _ _)
    | (with_reducible exact ih1 _ _ _ _ _)
    | (with_reducible exact ih2 _ _ _ _ _ _ _ _ _ _)
    | (with_reducible exact z1y.mono _ _ _)
    | (with_reducible exact zx.mono _ _)
    | (with_reducible exact zO.mono _ _ _ _ _ _)
    | (with_reducible exact LeO.refl _)
    | (with_reducible exact LeO.none _)
    | (with_reducible refine LeO.ite ?_ ?_)
    | (with_reducible refine LeO.bind ?_ (fun _=>?_))
    | exact ih0 _ _ _
    | exact ih1 _ _ _ _ _
    | exact ih2 _ _ _ _ _ _ _ _ _ _
    | exact z1y.mono _ _ _
    | exact zx.mono _ _
    | exact zO.mono _ _ _ _ _ _
    | exact LeO.none _
    | refine LeO.ite ?_ ?_
    | refine LeO.bind ?_ (fun _=>?_)
theorem zj.mono : ∀ a0 a1 k,LeO (zj.f k a0 a1) (zj.f (k + 1) a0 a1):=by
 intro a0 a1 k
 obtain ⟨ih0,ih1,ih2⟩:=zj.z17 k
 unfold zj.f
 repeat' first
  | (with_reducible exact ih0 _ _ _)
  | (with_reducible exact ih1 _ _ _ _ _)
  | (with_reducible exact ih2 _ _ _ _ _ _ _ _ _ _)
  | (with_reducible exact z1y.mono _ _ _)
  | (with_reducible exact zx.mono _ _)
  | (with_reducible exact zO.mono _ _ _ _ _ _)
  | (with_reducible exact LeO.refl _)
  | (with_reducible exact LeO.none _)
  | (with_reducible refine LeO.ite ?_ ?_)
  | (with_reducible refine LeO.bind ?_ (fun _=>?_))
  | exact ih0 _ _ _
  | exact ih1 _ _ _ _ _
  | exact ih2 _ _ _ _ _ _ _ _ _ _
  | exact z1y.mono _ _ _
  | exact zx.mono _ _
  | exact zO.mono _ _ _ _ _ _
  | exact LeO.none _
  | refine LeO.ite ?_ ?_
  | refine LeO.bind ?_ (fun _=>?_)
def zj.T12 : Bool × List (List Nat × List Nat):=(true,[([],[]),([],[]),([],[]),([],[]),([],[]),([3,4],[3,4]),([5],[5]),([2,6],[2,6]),([0,1,0,1,2,3,4,5,6,7],[0,1]),([8,7,7,0,1,2,3,4,5,6,7],[7,8])])
def zj.B12 : List Nat:=[0,0,0,0,0,24,56,124,255,511]
theorem zj.tab12 : rtab .any (opsOf Try.f65 12) = zj.T12:=by kernel_rfl
theorem zj.bits12 : waitsOk zj.T12.2 zj.B12 = true:=by kernel_rfl
set_option maxHeartbeats 8000000 in
set_option maxRecDepth 100000 in
theorem zj.calls (k : Nat) (a0 : Int) (A1 : Option Addr) (c1 : Nat) (l1 : List (S30)) (r : List (S30)) (w : World) (hr1 : Kd.C k30 w A1 l1.length l1) (hc1 : l1.length ≤ c1) (h : zj.f k a0 l1 = some r) :
 Calls Try.prog 65 #[.int .i64 a0,.slice A1 l1.length c1] w fun e w'=>∃ v0_ : Value,e = .returned (v0_) ∧ Kd.R k30 30 w' w.heap.size (fun _=>True) v0_ r ∧ Below w.heap.size w w':=by
 have hu30:=Try.underlying30
 have HR1:=z1.mk hr1
 have HC1:=z1.mk hc1
 clear hr1 hc1
 have HB:=z1.mk (Below.refl w.heap.size w)
 have H : ((zx.f k a0).bind fun t101=>(if t101 = 0 then (zj.j0 k a0 l1 true) else (if (l1.length : Int) > 16 then (zj.j0 k a0 l1 true) else ((z1y.f k a0 l1).bind fun t102=>(zj.j0 k a0 l1 (!t102)))))) = some r:=h
 clear h
 have HC3:=z1.mk H
 clear H
 go_enter Try.func65,Try.ntmps65
 go_upto_region 1 with (fail)
 go_cut [24] (fun v24 wc=>∃ (kq : Nat) (x24_2 : Bool),v24 = .bool x24_2 ∧ z1 (zj.j0 kq a0 l1 x24_2 = some r) ∧ z1 (kq ≤ k) ∧ z1 (Below w.heap.size w wc))
 case first =>
  have H:=HC3.out
  clear HC3
  replace H:=Option.bind_eq_some_iff.mp H
  obtain ⟨t101,A40,H⟩:=H
  replace H : (if t101 = 0 then (zj.j0 k a0 l1 true) else (if (l1.length : Int) > 16 then (zj.j0 k a0 l1 true) else ((z1y.f k a0 l1).bind fun t102=>(zj.j0 k a0 l1 (!t102))))) = some r:=H
  have A4:=z1.mk A40
  clear A40
  by_cases c5 : t101 = 0
  · rw [if_pos c5] at H
    have c5b0 : (t101 == 0) = true:=beq_iff_eq.mpr c5
    have c5b1 : (t101 != 0) = false:=bne_eq_false_iff_eq.mpr c5
    clear c5
    (first|rw [c5b0]|(simp only [zH,zP];rw [c5b0])|skip)
    have H':=z1.mk H
    clear H
    go_wp2_with (first|((with_reducible refine zi (f:=60) rfl ?_);refine goesL_ (some 12) rfl rfl Try.func60 zz90 rfl #[.int .i64 a0] rfl zz48 ?_;(with_reducible refine (zx.calls k a0 t101 _ A4.out).mono ?_);rintro e w' ⟨rfl,⟨nd,rfl⟩⟩;refine ⟨_,rfl,?_⟩))
    go_meet
    case rel=>exact ⟨_,(true),zz86,H',⟨by first|omega|exact Nat.le_refl _⟩,⟨by repeat (first|(with_reducible first|exact HB.out|apply zd|apply z2|apply z9)|exact HB.out)⟩⟩
  rw [if_neg c5] at H
  have c5b0 : (t101 == 0) = false:=beq_eq_false_iff_ne.mpr c5
  have c5b1 : (t101 != 0) = true:=bne_iff_ne.mpr c5
  (first|rw [c5b0]|(simp only [zH,zP];rw [c5b0])|skip)
  by_cases c6 : (l1.length : Int) > 16
  · rw [if_pos c6] at H
    have c6b0 : decide (16 < (l1.length : Int)) = true:=decide_eq_true c6
    have c6b1 : decide (16 < l1.length) = true:=decide_eq_true zz92
    clear c6
    have H':=z1.mk H
    clear H
    go_wp2_with (first|((with_reducible refine zi (f:=60) rfl ?_);refine goesL_ (some 12) rfl rfl Try.func60 zz90 rfl #[.int .i64 a0] rfl zz48 ?_;(with_reducible refine (zx.calls k a0 t101 _ A4.out).mono ?_);rintro e w' ⟨rfl,⟨nd,rfl⟩⟩;refine ⟨_,rfl,?_⟩))
    go_meet
    case rel=>exact ⟨_,(true),zz86,H',⟨by first|omega|exact Nat.le_refl _⟩,⟨by repeat (first|(with_reducible first|exact HB.out|apply zd|apply z2|apply z9)|exact HB.out)⟩⟩
  rw [if_neg c6] at H
  have c6b0 : decide (16 < (l1.length : Int)) = false:=decide_eq_false c6
  have c6b1 : decide (16 < l1.length) = false:=decide_eq_false zz92
  clear c6
  replace H:=Option.bind_eq_some_iff.mp H
  obtain ⟨t102,A70,H⟩:=H
  replace H : (zj.j0 k a0 l1 (!t102)) = some r:=H
  have A7:=z1.mk A70
  clear A70
  have H':=z1.mk H
  clear H
  go_wp2_with (first|((with_reducible refine zi (f:=60) rfl ?_);refine goesL_ (some 12) rfl rfl Try.func60 zz90 rfl #[.int .i64 a0] rfl zz48 ?_;(with_reducible refine (zx.calls k a0 t101 _ A4.out).mono ?_);rintro e w' ⟨rfl,⟨nd,rfl⟩⟩;refine ⟨_,rfl,?_⟩)|(go_at_call 108;(with_reducible refine (z1y.calls k a0 _ _ l1 t102 _ ?side1 ?side2 A7.out).mono ?_);(case side1=>repeat (first|exact (Kd.z1r HR1.out zz49)|(with_reducible refine Kd.zQ ?_ _)|(with_reducible refine Kd.zR ?_ _)|(with_reducible refine Kd.z1d ?_)));(case side2=>exact HC1.out);rintro e w8 ⟨rfl,hb⟩;have n0_:=z1.mk (z3 zz49 hb);clear HB;have HB:=n0_;clear n0_;(try clear hb);(try clear hb2);(try clear hk);(try clear hi)))
  go_meet
  case rel=>exact ⟨_,(!t102),zz86,H',⟨by first|omega|exact Nat.le_refl _⟩,⟨by repeat (first|(with_reducible first|exact HB.out|apply zd|apply z2|apply z9)|exact HB.out)⟩⟩
 case rest =>
  clear HC3
  (try clear c1);(try clear p2);(try clear c5);(try clear c5b0);(try clear c5b1);(try clear c6);(try clear c6b0);(try clear c6b1)
  obtain ⟨kq,x24_2,rfl,HA,HJ2,HB⟩:=hcut
  cases kq with
  | zero=>exact absurd HA.out (by simp [zj.j0])
  | succ kj2 =>
   have H:=HA.out
   clear HA
   simp only [zj.j0] at H
   by_cases c9 : x24_2 = true
   · subst c9
     have H1 : (some ([] : List (S30))) = some r:=by rw [if_pos rfl] at H;exact H
     clear H
     have H:=H1
     clear H1
     obtain rfl:=Option.some.inj H
     go_wp2
     go_ret
     exact ⟨_,by first|rfl|(simp [zg,zh] <;> rfl)|(simp [*,zg,zh] <;> rfl),by first|exact Kd.z2W _ _ _ _ _|exact Kd.z3k _ _ _ _ _|exact Kd.z3p _ _ _ _ _|exact Kd.z3m _ _ _ _ _|exact Kd.z3o _ _ _ _ _,by repeat (first|(with_reducible first|exact HB.out|apply zd|apply z2|apply z9)|exact HB.out)⟩
   replace c9:=Bool.eq_false_iff.mpr c9
   subst c9
   have H1 : ((z24.f).bind fun bt103=>(zj.l0 kj2 a0 (([(⟨bt103.1,bt103.2⟩ : S30)] : List (S30))) l1 (l1.length : Int) 0)) = some r:=by rw [if_neg (show ¬ (false = true) by decide)] at H;exact H
   clear H
   have H:=H1
   clear H1
   replace H:=Option.bind_eq_some_iff.mp H
   obtain ⟨⟨t103,t104⟩,A100,H⟩:=H
   replace H : (zj.l0 kj2 a0 (([(⟨t103,t104⟩ : S30)] : List (S30))) l1 (l1.length : Int) 0) = some r:=H
   have A10:=z1.mk A100
   clear A100
   obtain ⟨y105,hy105⟩ : ∃ y_ : List (S30),y_ = (([(⟨t103,t104⟩ : S30)] : List (S30))):=⟨_,rfl⟩
   replace H : (zj.l0 kj2 a0 y105 l1 (l1.length : Int) 0) = some r:=by first|(rw [hy105];with_reducible exact H)|(have H2_:=(Option.bind_some _ _).symm.trans H;rw [hy105];with_reducible exact H2_)|(have H2_:=(Option.bind_some _ _).symm.trans H;with_reducible exact H2_)|with_reducible exact H|(rw [hy105];exact H)|exact H
   have Ny105:=z1.mk hy105
   clear hy105
   have H':=z1.mk H
   clear H
   go_wp2_with (first|((with_reducible refine zi (f:=99) rfl ?_);refine goesL_ (some 25) rfl rfl Try.func99 zz90 rfl #[] rfl zz48 ?_;(with_reducible refine (z24.calls  t103 t104 _ A10.out).mono ?_);rintro e w11 ⟨rfl,hb⟩;refine ⟨_,rfl,?_⟩;have n0_:=z1.mk (z3 zz49 hb);clear HB;have HB:=n0_;clear n0_;(try clear hb);(try clear hb2);(try clear hk);(try clear hi))|((with_reducible refine zp (N:=26) rfl ?_);(try (refine z1c zz94 ?_;dsimp only));refine Kd.z2k k30 _ 30 ?hg (N:=26) ?hd (xs:=([(⟨t103,t104⟩ : S30)] : List (S30))) (inner:=[.int .u64 t103,.int .u64 t104]) (ok:=fun _=>True) (okp:=fun _=>True) ?hr ?hp (fun _ hk=>hk) trivial (Below.refl _ _) (Nat.le_refl _) zz93 ?_;(case hd=>rfl);(case hg=>rfl);(case hr=>first|(go_simp;done)|(go_simp;rfl));(case hp=>exact (Reps.c2 (show Kd.M k30 _ _ _ (⟨t103,t104⟩ : S30) [.int .u64 t103,.int .u64 t104] from (z1J _ _ _ (⟨t103,t104⟩ : S30) )) (Reps.none _ _)));intro v106 w12 ho13 hb hg_ hnew_;clear hg_ hnew_;(first|rw [← Ny105.out] at ho13|(simp only [Int.reduceToNat] at ho13;rw [← Ny105.out] at ho13));have n0_:=z1.mk (Kd.z1h ho13 (zb zz49));have n1_:=z1.mk (z3 zz49 hb);clear HB;have HO107:=n0_;have HB:=n1_;clear n0_ n1_;clear hb ho13))
   go_loopg [5,29] kj2 (fun kq v5 v29 w'=>∃ (x5_2 : List (S30)) (x29_2 : Int),v29 = .int .i64 x29_2 ∧ z1 (zj.l0 kq a0 x5_2 l1 (l1.length : Int) x29_2 = some r) ∧ z1 (kq ≤ kj2) ∧ z1 (Kd.R k30 30 w' w.heap.size (fun _=>True) v5 x5_2) ∧ z1 (Below w.heap.size w w'))
   case atStart=>exact ⟨(y105),(0),zz86,H',⟨Nat.le_refl _⟩,⟨by (with_reducible repeat (first|apply Kd.zI|apply Kd.zJ|apply Kd.zT));exact HO107.out⟩,⟨by repeat (first|(with_reducible first|exact HB.out|apply zd|apply z2|apply z9)|exact HB.out)⟩⟩
   case round =>
    clear H'
    (try clear c1);(try clear c2);(try clear p2);(try clear c5);(try clear c5b0);(try clear c5b1);(try clear c6);(try clear c6b0);(try clear c6b1);(try clear c9);(try clear p2)
    obtain ⟨x5_2,x29_2,rfl,HA,HK2,HO_5,HB⟩:=hrel
    cases gk with
    | zero=>exact absurd HA.out (by simp [zj.l0])
    | succ k2 =>
     have H:=HA.out
     clear HA
     simp only [zj.l0] at H
     by_cases c14 : x29_2 < (l1.length : Int)
     rotate_left
     · rw [if_neg c14] at H
       have c14b0 : decide (x29_2 < (l1.length : Int)) = false:=decide_eq_false c14
       clear c14
       obtain rfl:=Option.some.inj H
       go_wp2
       go_ret
       exact ⟨_,by first|rfl|(simp [zg,zh] <;> rfl)|(simp [*,zg,zh] <;> rfl),by (with_reducible repeat (first|apply Kd.zI|apply Kd.zJ|apply Kd.zT));exact HO_5.out,by repeat (first|(with_reducible first|exact HB.out|apply zd|apply z2|apply z9)|exact HB.out)⟩
     rw [if_pos c14] at H
     have c14b0 : decide (x29_2 < (l1.length : Int)) = true:=decide_eq_true c14
     clear c14
     by_cases c15 : 0 ≤ x29_2
     rotate_left
     · rw [if_neg c15] at H
       exact absurd H zz93
     rw [if_pos c15] at H
     have c15b0 : decide (0 ≤ x29_2) = true:=decide_eq_true c15
     clear c15
     by_cases c16 : x29_2 < (l1.length : Int)
     rotate_left
     · rw [if_neg c16] at H
       exact absurd H zz93
     rw [if_pos c16] at H
     have c16b0 : decide (x29_2 < (l1.length : Int)) = true:=decide_eq_true c16
     clear c16
     by_cases c17 : 0 ≤ (x5_2.length : Int)
     rotate_left
     · rw [if_neg c17] at H
       exact absurd H zz93
     rw [if_pos c17] at H
     have c17b0:=eq_true c17
     have c17b1 : decide (0 ≤ (x5_2.length : Int)) = true:=decide_eq_true c17
     clear c17
     by_cases c18 : ((x5_2.length : Int) : Int).toNat ≤ 17592186044416
     rotate_left
     · rw [if_neg c18] at H
       exact absurd H zz93
     rw [if_pos c18] at H
     have c18b0:=eq_true c18
     have c18b1 : decide (((x5_2.length : Int) : Int).toNat ≤ 17592186044416) = true:=decide_eq_true c18
     clear c18
     obtain ⟨y110,hy110⟩ : ∃ y_ : List (S30),y_ = (List.replicate ((x5_2.length : Int) : Int).toNat z30):=⟨_,rfl⟩
     replace H : (zj.l1 k2 a0 x5_2 y110 l1 (l1.length : Int) x29_2 (x5_2.length : Int) 0 ((rd_T30 l1 x29_2).f0) ((rd_T30 l1 x29_2).f1)) = some r:=by first|(rw [hy110];with_reducible exact H)|(have H2_:=(Option.bind_some _ _).symm.trans H;rw [hy110];with_reducible exact H2_)|(have H2_:=(Option.bind_some _ _).symm.trans H;with_reducible exact H2_)|with_reducible exact H|(rw [hy110];exact H)|exact H
     have Ny110:=z1.mk hy110
     clear hy110
     have H':=z1.mk H
     clear H
     have p108 : 0 ≤ (x29_2 : Int):=of_decide_eq_true zz85
     have q108 : x29_2 < (l1.length : Int):=of_decide_eq_true zz85
     obtain ⟨ad108,e108,hx108_0,hx108_1⟩:=z20 HR1.out x29_2 p108 q108
     cases e108
     replace hx108_0:=(HB.out.cell (World.block_lt_of_cell? w _ hx108_0)).trans hx108_0
     replace hx108_1:=(HB.out.cell (World.block_lt_of_cell? w _ hx108_1)).trans hx108_1
     replace p108:=eq_true p108
     replace q108:=eq_true q108
     go_wp2_with (first|((with_reducible refine zp (N:=7) rfl ?_);(try (refine z1c zz94 ?_;dsimp only));refine zt ?hg (N:=7) ?hd (cs:=#[.int .u64 0,.int .u64 0]) (t:=30) ?hr ?_;(case hd=>rfl);(case hg=>rfl);(case hr=>first|(go_simp;done)|(go_simp;rfl));intro gb109 hg w19 hbox hb;have n0_:=z1.mk (Kd.zq (Kd.z1w zz70 gb109 (Nat.le_of_eq hg.symm)) hb);have n1_:=z1.mk (z3 zz49 hb);have n2_:=z1.mk (hbox);have n3_:=z1.mk ((by rw [hg];exact (zb zz49) : w.heap.size ≤ gb109));have n4_:=z1.mk ((by rw [hg];exact (zb zz49) : w.heap.size ≤ gb109));clear HO_5;clear HB;have HO_5:=n0_;have HB:=n1_;have BK109:=n2_;have GW109:=n3_;have GE109:=n4_;clear n0_ n1_ n2_ n3_ n4_;clear hb hbox hg;have hcz20_0 : w19.cell? ⟨gb109,0,none⟩ = some (.int .u64 0):=(z7 BK109.out 0).trans rfl;have hcz20_1 : w19.cell? ⟨gb109,1,none⟩ = some (.int .u64 0):=(z7 BK109.out 1).trans rfl;have hfz20_0:=z6 BK109.out 0;have hfz20_1:=z6 BK109.out 1;obtain ⟨Ao21,co21,eo21⟩:=Kd.z1q HO_5.out;subst eo21)|((with_reducible refine zp (N:=35) rfl ?_);(try (refine z1c zz94 ?_;dsimp only));refine Kd.z5a k30 _ 30 rfl (N:=35) rfl 24 _ _ rfl (x5_2.length : Int) rfl rfl Try.underlying24 (.agg #[(.int .u64 0),(.int .u64 0)]) 16 info30 rfl zz91 zz92 z30 (ok:=fun _=>True) (okp:=fun _=>True) (z1J _ _ _ z30 ) (fun _ hk=>hk) trivial (of_decide_eq_true zz85) (Nat.le_trans (Nat.mul_le_mul_right _ (of_decide_eq_true zz85 : (x5_2.length : Int).toNat ≤ 17592186044416)) zz92) (Below.refl _ _) (Nat.le_refl _) ?_;intro v111 w22 ho23 hb hg_ hnew_;clear hg_ hnew_;(first|rw [← Ny110.out] at ho23|(simp only [Int.reduceToNat] at ho23;rw [← Ny110.out] at ho23));have n0_:=z1.mk (Kd.z1e zz18 (Kd.z1z ho23) hb);have n1_:=z1.mk (Kd.z1h (Kd.z2d (Kd.z1A ho23 (Kd.R_lt zz18)) (g:=gb109) (o:=.cells #[.int .u64 ((rd_T30 l1 x29_2).f0),.int .u64 ((rd_T30 l1 x29_2).f1)] 30 (0,0)) zz1) (zb zz44));have n2_:=z1.mk (zc (g:=gb109) (o:=.cells #[.int .u64 ((rd_T30 l1 x29_2).f0),.int .u64 ((rd_T30 l1 x29_2).f1)] 30 (0,0)) zz1 hb);have n3_:=z1.mk (z3 zz44 hb);clear HO_5;clear BK109;clear HB;have HO_5:=n0_;have HO112:=n1_;have BK109:=n2_;have HB:=n3_;clear n0_ n1_ n2_ n3_;clear hb ho23))
     go_loopg [38] k2 (fun kq v38 w'=>∃ (x5_3 : List (S30)) (x8_3 : List (S30)) (x38_3 : Int) (x110000_3 : Int) (x110001_3 : Int),v38 = .int .i64 x38_3 ∧ z1 (zj.l1 kq a0 x5_3 x8_3 l1 (l1.length : Int) x29_2 (x5_2.length : Int) x38_3 x110000_3 x110001_3 = some r) ∧ z1 (kq ≤ k2) ∧ z1 (Kd.R k30 30 w' w.heap.size (fun k_=>some k_ ≠ (v111 : Value).ownBlock ∧ k_ ≠ gb109) (.slice Ao21 x5_2.length co21) x5_3) ∧ z1 (Kd.R k30 30 w' w.heap.size (fun k_=>some k_ ≠ ((.slice Ao21 x5_2.length co21) : Value).ownBlock ∧ k_ ≠ gb109) v111 x8_3) ∧ z1 (w'.heap[gb109]? = some (.cells #[.int .u64 x110000_3,.int .u64 x110001_3] 30 (0,0))) ∧ z1 (Below w.heap.size w w'))
     case atStart=>exact ⟨(x5_2),(y110),(0),((rd_T30 l1 x29_2).f0),((rd_T30 l1 x29_2).f1),zz86,H',⟨Nat.le_refl _⟩,⟨by (with_reducible repeat (first|apply Kd.zI|apply Kd.zJ|apply Kd.zT));exact Kd.z18 HO_5.out (fun _ hk=>⟨hk.2,hk.1.2⟩)⟩,⟨by (with_reducible repeat (first|apply Kd.zI|apply Kd.zJ|apply Kd.zT));exact Kd.z18 HO112.out (fun _ hk=>⟨hk.1.2,hk.2⟩)⟩,⟨by (with_reducible repeat (first|refine z5 ?_ _|refine z8 ?_|refine z4 ?_ _));exact BK109.out⟩,⟨by repeat (first|(with_reducible first|exact HB.out|apply zd|apply z2|apply z9|refine za ?_ GE109.out)|exact HB.out)⟩⟩
     case round =>
      clear H'
      (try clear c1);(try clear p1);(try clear q1);(try clear hx1);(try clear c2);(try clear p2);(try clear c5);(try clear c5b0);(try clear c5b1);(try clear c6);(try clear c6b0);(try clear c6b1);(try clear c9);(try clear p10);(try clear q10);(try clear hx10);(try clear c14);(try clear c14b0);(try clear c15);(try clear c15b0);(try clear c16);(try clear c16b0);(try clear c17);(try clear c17b0);(try clear c17b1);(try clear c18);(try clear c18b0);(try clear c18b1);(try clear hcz20_0);(try clear hcz20_1);(try clear hfz20_0);(try clear hfz20_1);(try clear hx108_0);(try clear hx108_1);(try clear p108);(try clear p2);(try clear q108)
      obtain ⟨x5_3,x8_3,x38_3,x110000_3,x110001_3,rfl,HA,HK3,HO_5,HO_8,BK109,HB⟩:=hrel
      have hl5_3:=(Kd.zs HO_5.out).1
      rw [hl5_3] at HO_5
      (try simp only [hl5_3])
      (try simp only [hl5_3] at BK109)
      (try simp only [hl5_3] at HO_8)
      cases gk with
      | zero=>exact absurd HA.out (by simp [zj.l1])
      | succ k3 =>
       have H:=HA.out
       clear HA
       simp only [zj.l1] at H
       by_cases c24 : x38_3 < (x5_2.length : Int)
       rotate_left
       · rw [if_neg c24] at H
         have c24b0 : decide (x38_3 < (x5_2.length : Int)) = false:=decide_eq_false c24
         have c24b9 : decide (x38_3 < (x5_3.length : Int)) = false:=by rw [← hl5_3];exact c24b0
         clear c24
         by_cases c42 : x5_3.length + x8_3.length < 8796093022208
         rotate_left
         · rw [if_neg c42] at H
           exact absurd H zz93
         rw [if_pos c42] at H
         have LMc42:=z1.mk c42
         clear c42
         obtain ⟨y122,hy122⟩ : ∃ y_ : List (S30),y_ = (x5_3 ++ x8_3):=⟨_,rfl⟩
         replace H : (zj.l0 k3 a0 y122 l1 (l1.length : Int) (wrap64 (x29_2 + 1))) = some r:=by first|(rw [hy122];with_reducible exact H)|(have H2_:=(Option.bind_some _ _).symm.trans H;rw [hy122];with_reducible exact H2_)|(have H2_:=(Option.bind_some _ _).symm.trans H;with_reducible exact H2_)|with_reducible exact H|(rw [hy122];exact H)|exact H
         have Ny122:=z1.mk hy122
         clear hy122
         have H':=z1.mk H
         clear H
         obtain ⟨Ao44,co44,eo44⟩:=Kd.z1q HO_8.out
         subst eo44
         go_wp2_with (first|((with_reducible refine z2f (b:=.append) (xs:=#[.tmp 60,.tmp 61]) rfl ?_);(try (refine z1c zz94 ?_;dsimp only));at_builtin;refine Kd.z4P k30 (w0:=w) w.heap.size rfl (.tmp 60) (.tmp 61) 24 30 (.agg #[(.int .u64 0),(.int .u64 0)]) 16 rfl Try.underlying24 info30 rfl zz91 zz92 (.slice Ao21 x5_3.length co21) x5_3 x8_3 _ _ _ (fun k_=>some k_ ≠ (.slice Ao44 x8_3.length co44 : Value).ownBlock ∧ k_ ≠ gb109) (fun _=>False) rfl rfl ?aO ?aR (fun _ _ h=>h) (fun _ h=>h.elim) ?aF ?aB ?aS ?aL ?_;(case aR=>repeat (first|exact (Kd.zs HO_8.out).2.2|(with_reducible refine Kd.zQ ?_ _)|(with_reducible refine Kd.zR ?_ _)|(with_reducible refine Kd.z1d ?_)));(case aB=>exact zz44);(case aF=>exact (fun k_ hk=>⟨Kd.fresh' (Kd.R_lt zz71) k_ hk,Kd.freshB (g:=gb109) (o:=.cells #[.int .u64 x110000_3,.int .u64 x110001_3] 30 (0,0)) zz53 k_ hk⟩));(case aO=>exact zz70);(case aS=>exact (zb zz44));(case aL=>have:=LMc42.out;omega);intro v123 w43 ho hb hg hat;rw [← Ny122.out] at ho;have n0_:=z1.mk (Kd.z4O (ok:=(fun k_=>k_ ≠ gb109)) (by (with_reducible repeat (first|apply Kd.zI|apply Kd.zJ|apply Kd.zT));exact Kd.z18 HO_8.out (fun _ hk=>⟨hk.2,hk.1⟩)) hg hat);have n1_:=z1.mk (z1U (g:=gb109) (o:=.cells #[.int .u64 x110000_3,.int .u64 x110001_3] 30 (0,0)) zz53 hg (Kd.z2e HO_5.out (fun _ hk=>hk.2)));have n2_:=z1.mk (hb);have n3_:=z1.mk (ho);clear HO_8;clear BK109;clear HB;clear HO_5;have HO_8:=n0_;have BK109:=n1_;have HB:=n2_;have HO124:=n3_;clear n0_ n1_ n2_ n3_;clear ho hb hg hat))
         (try simp only [← hl5_3])
         go_roundg k3
         case measure=>have:=HJ2.out;have:=HK2.out;have:=HK3.out;omega
         case rel=>exact ⟨(y122),(wrap64 (x29_2 + 1)),zz86,H',⟨by have:=HJ2.out;have:=HK2.out;have:=HK3.out;omega⟩,⟨by (try simp only [hl5_3]);(with_reducible repeat (first|apply Kd.zI|apply Kd.zJ|apply Kd.zT));exact Kd.z18 HO124.out (fun _ hk=>trivial)⟩,⟨by repeat (first|(with_reducible first|exact HB.out|apply zd|apply z2|apply z9|refine za ?_ GE109.out)|exact HB.out)⟩⟩
       rw [if_pos c24] at H
       have c24b0 : decide (x38_3 < (x5_2.length : Int)) = true:=decide_eq_true c24
       have c24b9 : decide (x38_3 < (x5_3.length : Int)) = true:=by rw [← hl5_3];exact c24b0
       clear c24
       by_cases c25 : 0 ≤ x38_3
       rotate_left
       · rw [if_neg c25] at H
         exact absurd H zz93
       rw [if_pos c25] at H
       have c25b0 : decide (0 ≤ x38_3) = true:=decide_eq_true c25
       clear c25
       by_cases c26 : x38_3 < (x5_3.length : Int)
       rotate_left
       · rw [if_neg c26] at H
         exact absurd H zz93
       rw [if_pos c26] at H
       have c26b0 : decide (x38_3 < (x5_3.length : Int)) = true:=decide_eq_true c26
       clear c26
       replace H:=Option.bind_eq_some_iff.mp H
       obtain ⟨⟨t115,t116⟩,A270,H⟩:=H
       replace H : (if x38_3 < (x8_3.length : Int) then ((some (x8_3.set (x38_3 : Int).toNat (⟨t115,t116⟩ : S30) : List (S30))).bind fun y117=>((z1t.f ((rd_T30 x5_3 x38_3).f0) ((rd_T30 x5_3 x38_3).f1) ((rd_T30 y117 x38_3).f0) ((rd_T30 y117 x38_3).f1)).bind fun bt119=>(zj.l1 k3 a0 (x5_3.set (x38_3 : Int).toNat (⟨bt119.1,bt119.2⟩ : S30)) y117 l1 (l1.length : Int) x29_2 (x5_2.length : Int) (wrap64 (x38_3 + 1)) x110000_3 x110001_3))) else (none)) = some r:=H
       have A27:=z1.mk A270
       clear A270
       by_cases c28 : x38_3 < (x8_3.length : Int)
       rotate_left
       · rw [if_neg c28] at H
         exact absurd H zz93
       rw [if_pos c28] at H
       have c28b0 : decide (x38_3 < (x8_3.length : Int)) = true:=decide_eq_true c28
       clear c28
       obtain ⟨y117,hy117⟩ : ∃ y_ : List (S30),y_ = (x8_3.set (x38_3 : Int).toNat (⟨t115,t116⟩ : S30)):=⟨_,rfl⟩
       replace H : ((z1t.f ((rd_T30 x5_3 x38_3).f0) ((rd_T30 x5_3 x38_3).f1) ((rd_T30 y117 x38_3).f0) ((rd_T30 y117 x38_3).f1)).bind fun bt119=>(zj.l1 k3 a0 (x5_3.set (x38_3 : Int).toNat (⟨bt119.1,bt119.2⟩ : S30)) y117 l1 (l1.length : Int) x29_2 (x5_2.length : Int) (wrap64 (x38_3 + 1)) x110000_3 x110001_3)) = some r:=by first|(rw [hy117];with_reducible exact H)|(have H2_:=(Option.bind_some _ _).symm.trans H;rw [hy117];with_reducible exact H2_)|(have H2_:=(Option.bind_some _ _).symm.trans H;with_reducible exact H2_)|with_reducible exact H|(rw [hy117];exact H)|exact H
       have Ny117:=z1.mk hy117
       clear hy117
       replace H:=Option.bind_eq_some_iff.mp H
       obtain ⟨⟨t119,t120⟩,A300,H⟩:=H
       replace H : (zj.l1 k3 a0 (x5_3.set (x38_3 : Int).toNat (⟨t119,t120⟩ : S30)) y117 l1 (l1.length : Int) x29_2 (x5_2.length : Int) (wrap64 (x38_3 + 1)) x110000_3 x110001_3) = some r:=H
       have A30:=z1.mk A300
       clear A300
       obtain ⟨y121,hy121⟩ : ∃ y_ : List (S30),y_ = (x5_3.set (x38_3 : Int).toNat (⟨t119,t120⟩ : S30)):=⟨_,rfl⟩
       replace H : (zj.l1 k3 a0 y121 y117 l1 (l1.length : Int) x29_2 (x5_2.length : Int) (wrap64 (x38_3 + 1)) x110000_3 x110001_3) = some r:=by first|(rw [hy121];with_reducible exact H)|(have H2_:=(Option.bind_some _ _).symm.trans H;rw [hy121];with_reducible exact H2_)|(have H2_:=(Option.bind_some _ _).symm.trans H;with_reducible exact H2_)|with_reducible exact H|(rw [hy121];exact H)|exact H
       have Ny121:=z1.mk hy121
       clear hy121
       have H':=z1.mk H
       clear H
       have p113 : 0 ≤ (x38_3 : Int):=of_decide_eq_true zz85
       have q113 : x38_3 < (x5_3.length : Int):=of_decide_eq_true zz85
       obtain ⟨ad113,e113,hx113_0,hx113_1⟩:=z20 (Kd.zs HO_5.out).2.2 x38_3 p113 q113
       cases e113
       replace p113:=eq_true p113
       replace q113:=eq_true q113
       try go_wp2_with (first|((with_reducible refine zp (N:=10) rfl ?_);(try (refine z1c zz94 ?_;dsimp only));refine zt ?hg (N:=10) ?hd (cs:=#[.int .u64 0,.int .u64 0]) (t:=30) ?hr ?_;(case hd=>rfl);(case hg=>rfl);(case hr=>first|(go_simp;done)|(go_simp;rfl));intro gb114 hg w32 hbox hb;have n0_:=z1.mk (Kd.zq (Kd.z1w zz70 gb114 (Nat.le_of_eq hg.symm)) hb);have n1_:=z1.mk (Kd.zq (Kd.z1w zz71 gb114 (Nat.le_of_eq hg.symm)) hb);have n2_:=z1.mk (zc (g:=gb109) (o:=.cells #[.int .u64 x110000_3,.int .u64 x110001_3] 30 (0,0)) zz53 hb);have n3_:=z1.mk (z3 zz44 hb);have n4_:=z1.mk (hbox);have n5_:=z1.mk ((by rw [hg];exact (zb zz44) : w.heap.size ≤ gb114));have n6_:=z1.mk ((by rw [hg];exact (zb zz44) : w.heap.size ≤ gb114));have n7_:=z1.mk ((by rw [hg];exact Nat.ne_of_lt (zL (g:=gb109) (o:=.cells #[.int .u64 x110000_3,.int .u64 x110001_3] 30 (0,0)) zz53) : gb109 ≠ gb114));have n8_:=z1.mk ((by rw [hg];exact Nat.ne_of_gt (zL (g:=gb109) (o:=.cells #[.int .u64 x110000_3,.int .u64 x110001_3] 30 (0,0)) zz53) : gb114 ≠ gb109));clear HO_5;clear HO_8;clear BK109;clear HB;have HO_5:=n0_;have HO_8:=n1_;have BK109:=n2_;have HB:=n3_;have BK114:=n4_;have GW114:=n5_;have GE114:=n6_;have NB109_114:=n7_;have NB114_109:=n8_;clear n0_ n1_ n2_ n3_ n4_ n5_ n6_ n7_ n8_;clear hb hbox hg;have hnb33:=NB114_109.out;have hnc33:=NB109_114.out;have hcz34_0 : w32.cell? ⟨gb114,0,none⟩ = some (.int .u64 0):=(z7 BK114.out 0).trans rfl;have hcz34_1 : w32.cell? ⟨gb114,1,none⟩ = some (.int .u64 0):=(z7 BK114.out 1).trans rfl;have hfz34_0:=z6 BK114.out 0;have hfz34_1:=z6 BK114.out 1;have hcz35_0 : w32.cell? ⟨gb109,0,none⟩ = some (.int .u64 x110000_3):=(z7 BK109.out 0).trans rfl;have hcz35_1 : w32.cell? ⟨gb109,1,none⟩ = some (.int .u64 x110001_3):=(z7 BK109.out 1).trans rfl;have hfz35_0:=z6 BK109.out 0;have hfz35_1:=z6 BK109.out 1)|((with_reducible refine zi (f:=78) rfl ?_);refine goesL_ (some 48) rfl rfl Try.func78 zz90 rfl #[.int .i64 a0,.agg #[.int .u64 ((rd_T30 x5_3 x38_3).f0),.int .u64 ((rd_T30 x5_3 x38_3).f1)],.agg #[.int .u64 x110000_3,.int .u64 x110001_3]] rfl zz48 ?_;(with_reducible refine (zO.calls k3 a0 ((rd_T30 x5_3 x38_3).f0) ((rd_T30 x5_3 x38_3).f1) x110000_3 x110001_3 t115 t116 _ A27.out).mono ?_);rintro e w36 ⟨rfl,hb⟩;refine ⟨_,rfl,?_⟩;have n0_:=z1.mk (Kd.zq (by (with_reducible repeat (first|apply Kd.zI|apply Kd.zJ|apply Kd.zT));exact (Kd.z18 (Kd.z1M (p:=⟨gb114,1,none⟩) (Kd.z1M (p:=⟨gb114,0,none⟩) (Kd.z18 HO_5.out (fun k_ hk=>(⟨hk,hk.2⟩ : _ ∧ k_ ≠ gb114))) (fun _ hk=>hk.2) (.int .u64 ((rd_T30 x5_3 x38_3).f0))) (fun _ hk=>hk.2) (.int .u64 ((rd_T30 x5_3 x38_3).f1))) (fun _ h_=>h_.1))) hb);have n1_:=z1.mk (Kd.zq (by (with_reducible repeat (first|apply Kd.zI|apply Kd.zJ|apply Kd.zT));exact (Kd.z18 (Kd.z1M (p:=⟨gb114,1,none⟩) (Kd.z1M (p:=⟨gb114,0,none⟩) (Kd.z18 HO_8.out (fun k_ hk=>(⟨hk,hk.2⟩ : _ ∧ k_ ≠ gb114))) (fun _ hk=>hk.2) (.int .u64 ((rd_T30 x5_3 x38_3).f0))) (fun _ hk=>hk.2) (.int .u64 ((rd_T30 x5_3 x38_3).f1))) (fun _ h_=>h_.1))) hb);have n2_:=z1.mk (zc (g:=gb109) (o:=.cells #[.int .u64 x110000_3,.int .u64 x110001_3] 30 (0,0)) (by (with_reducible repeat (first|refine z5 ?_ _|refine z8 ?_|refine z4 ?_ _));refine zZ ?_ NB109_114.out _;(with_reducible repeat (first|refine z5 ?_ _|refine z8 ?_|refine z4 ?_ _));refine zZ ?_ NB109_114.out _;(with_reducible repeat (first|refine z5 ?_ _|refine z8 ?_|refine z4 ?_ _));exact BK109.out) hb);have n3_:=z1.mk (zc (g:=gb114) (o:=.cells #[.int .u64 ((rd_T30 x5_3 x38_3).f0),.int .u64 ((rd_T30 x5_3 x38_3).f1)] 30 (0,0)) (by (with_reducible repeat (first|refine z5 ?_ _|refine z8 ?_|refine z4 ?_ _));refine zX (cs:=#[.int .u64 ((rd_T30 x5_3 x38_3).f0),.int .u64 0]) ?_ 1 _ rfl;(with_reducible repeat (first|refine z5 ?_ _|refine z8 ?_|refine z4 ?_ _));refine zX (cs:=#[.int .u64 0,.int .u64 0]) ?_ 0 _ rfl;(with_reducible repeat (first|refine z5 ?_ _|refine z8 ?_|refine z4 ?_ _));exact BK114.out) hb);have n4_:=z1.mk (z3 zz37 hb);clear HO_5;clear HO_8;clear BK109;clear BK114;clear HB;have HO_5:=n0_;have HO_8:=n1_;have BK109:=n2_;have BK114:=n3_;have HB:=n4_;clear n0_ n1_ n2_ n3_ n4_;(try clear hb);(try clear hb2);(try clear hk);(try clear hi);have p29 : 0 ≤ (x38_3 : Int):=of_decide_eq_true zz85;have q29 : (x38_3 : Int) < ((x8_3.length : Int) : Int):=of_decide_eq_true zz85;obtain ⟨go29,co29,eo29,gb29,gl29,cl29,HG29⟩:=Kd.z43 HO_8.out zz92;(first|cases eo29|(injection eo29 with ea_ en_ ec_;(first|subst ea_|(injection ea_ with ea_;subst ea_));subst ec_;clear en_));have GB29:=z1.mk gb29;have GG29:=z1.mk HG29;clear gb29 gl29 HG29;obtain ⟨ce29,hcl29,hM29,hcc29,hfr29⟩:=Kd.z2x HO_8.out z30 (x38_3 : Int) p29 q29;obtain rfl:=z1V hM29;have hx29_0 : w36.cell? ⟨go29,(x38_3 : Int).toNat * 2,none⟩ = some (.int .u64 ((rd_T30 x8_3 x38_3).f0)):=hcc29 0 _ rfl;have hx29_1 : w36.cell? ⟨go29,(x38_3 : Int).toNat * 2 + 1,none⟩ = some (.int .u64 ((rd_T30 x8_3 x38_3).f1)):=hcc29 1 _ rfl;have hf29_0 : w36.frozen? ⟨go29,(x38_3 : Int).toNat * 2,none⟩ = false:=hfr29 0;have hf29_1 : w36.frozen? ⟨go29,(x38_3 : Int).toNat * 2 + 1,none⟩ = false:=hfr29 1;clear hcl29 hcc29 hfr29 hM29;replace p29:=eq_true p29;replace q29:=eq_true q29;have n_:=z1.mk (Kd.z18 (ok':=(fun k_=>some k_ ≠ (.slice (some ad113) x5_3.length co21 : Value).ownBlock ∧ k_ ≠ gb109 ∧ k_ ≠ gb114)) HO_8.out (fun k_ hk=>⟨hk.1.1,⟨hk.1.2,hk.2⟩⟩));clear HO_8;have HO_8:=n_;clear n_;have HX37:=z1.mk (show Kd.R k30 30 w36 w.heap.size (fun k_=>some k_ ≠ (.slice (some ad113) x5_3.length co21 : Value).ownBlock ∧ k_ ≠ gb109 ∧ k_ ≠ gb114) (.slice (some ⟨go29,0,none⟩) x8_3.length co29) x8_3 from zz71);obtain ⟨ce37,hcl37,hM37,hcc37,hfr37⟩:=Kd.z2x HX37.out z30 (x38_3 : Int) (of_decide_eq_true zz85) (by have h_ : (x38_3 : Int) < ((x8_3.length : Int) : Int):=of_decide_eq_true zz85;first|exact h_|(have e_:=(Kd.zs HO_8.out).1;omega)|simpa using h_);obtain rfl:=z1V hM37;have HP37:=Kd.z5A HX37.out (x38_3 : Int) (of_decide_eq_true zz85) (by have h_ : (x38_3 : Int) < ((x8_3.length : Int) : Int):=of_decide_eq_true zz85;first|exact h_|(have e_:=(Kd.zs HO_8.out).1;omega)|simpa using h_) (seg:=[.int .u64 t115,.int .u64 t116]) (j:=0) hcl37 hcc37 (show 2 ≤ 2 from by decide) (x':=(⟨t115,t116⟩ : S30)) (z1J _ _ _ (⟨t115,t116⟩ : S30) ) (fun _ hk=>hk);have hx37_0:=hcc37 0 _ rfl;(try simp only [show (k30).sz = 2 from rfl,Nat.mul_one,Nat.add_zero] at hx37_0);have hf37_0:=hfr37 0;(try simp only [show (k30).sz = 2 from rfl,Nat.mul_one,Nat.add_zero] at hf37_0);have hx37_1:=hcc37 1 _ rfl;(try simp only [show (k30).sz = 2 from rfl,Nat.mul_one,Nat.add_zero] at hx37_1);have hf37_1:=hfr37 1;(try simp only [show (k30).sz = 2 from rfl,Nat.mul_one,Nat.add_zero] at hf37_1);clear hcl37 hcc37 hfr37 hM37)|((with_reducible refine z3G (t:=30) (p:=49) rfl ?_);refine z3i (t:=30) (p:=49) (v:=?vo_w38) (w1:=((w36.setCell ⟨go29,(x38_3 : Int).toNat * 2,none⟩ (.int .u64 t115)).setCell ⟨go29,(x38_3 : Int).toNat * 2 + 1,none⟩ (.int .u64 t116))) ?hg ?ho ?hn ?hr ?_;(case ho=>rfl);(case hg=>rfl);(case hn=>rfl);(case hr=>first|(go_simp;done)|(go_simp;rfl));intro w38 hw;have hg : w36.grownBy w38 (some go29):=(by rw [hw];exact HP37.2);have hp_ : Kd.R k30 30 w38 w.heap.size (fun k_=>some k_ ≠ (.slice (some ad113) x5_3.length co21 : Value).ownBlock ∧ k_ ≠ gb109 ∧ k_ ≠ gb114) (.slice (some ⟨go29,0,none⟩) x8_3.length co29) y117:=(by rw [hw,Ny117.out];exact HP37.1);clear HP37;have n0_:=z1.mk (Kd.z4O (v:=(.slice (some ⟨go29,0,none⟩) x8_3.length co29)) (v1:=(.slice (some ⟨go29,0,none⟩) x8_3.length co29)) (ok:=(fun k_=>k_ ≠ gb109 ∧ k_ ≠ gb114)) (by (with_reducible repeat (first|apply Kd.zI|apply Kd.zJ|apply Kd.zT));exact Kd.z18 HO_5.out (fun _ hk=>⟨⟨hk.1.2,hk.2⟩,hk.1.1⟩)) hg (.inl rfl));have n1_:=z1.mk (hp_);have n2_:=z1.mk (z1U (g:=gb109) (o:=.cells #[.int .u64 x110000_3,.int .u64 x110001_3] 30 (0,0)) zz53 hg (Kd.z2e HO_8.out (fun _ hk=>hk.2.1)));have n3_:=z1.mk (z1U (g:=gb114) (o:=.cells #[.int .u64 ((rd_T30 x5_3 x38_3).f0),.int .u64 ((rd_T30 x5_3 x38_3).f1)] 30 (0,0)) zz54 hg (Kd.z2e HO_8.out (fun _ hk=>hk.2.2)));have n4_:=z1.mk ((by rw [hw];exact za (za (HB.out) GB29.out) GB29.out : Below w.heap.size w w38));clear HO_5;clear HO_8;clear BK109;clear BK114;clear HB;have HO_5:=n0_;have HO_8:=n1_;have BK109:=n2_;have BK114:=n3_;have HB:=n4_;clear n0_ n1_ n2_ n3_ n4_;clear hg hw hp_))
       have n0_:=z1.mk (Kd.zT HO_5.out)
       have n1_:=z1.mk (Kd.zT HO_8.out)
       have n2_:=z1.mk (z8 BK109.out)
       have n3_:=z1.mk (z8 BK114.out)
       have n4_:=z1.mk (z9 HB.out)
       clear HO_5
       clear HO_8
       clear BK109
       clear BK114
       clear HB
       have HO_5:=n0_
       have HO_8:=n1_
       have BK109:=n2_
       have BK114:=n3_
       have HB:=n4_
       clear n0_ n1_ n2_ n3_ n4_
       have p118 : 0 ≤ (x38_3 : Int):=of_decide_eq_true zz85
       have q118 : x38_3 < (y117.length : Int):=(by have h_ : (x38_3 : Int) < ((x8_3.length : Int) : Int):=of_decide_eq_true zz85;first|(have e_:=(Kd.zs HO_8.out).1;omega)|simpa only [Ny117.out,List.length_set] using h_)
       have ql118 : ((x38_3 : Int) < ((x8_3.length : Int) : Int)) = True:=eq_true (of_decide_eq_true zz85)
       obtain ⟨ad118,e118,hx118_0,hx118_1⟩:=z20 (Kd.zs HO_8.out).2.2 x38_3 p118 q118
       obtain rfl : (⟨go29,0,none⟩ : Addr) = ad118:=(by injection e118)
       (first|simp only [z27] at hx118_0|simp only [add_at] at hx118_0|simp only [Addr.add,Nat.zero_add] at hx118_0|skip)
       (first|simp only [z27] at hx118_1|simp only [add_at] at hx118_1|simp only [Addr.add,Nat.zero_add] at hx118_1|skip)
       replace p118:=eq_true p118
       replace q118:=eq_true q118
       refine start_ (n:=10) (S:=fun w'=>w'.cell? ⟨gb114,0,none⟩ = some (.int .u64 ((rd_T30 x5_3 x38_3).f0)) ∧ w'.cell? ⟨gb114,1,none⟩ = some (.int .u64 ((rd_T30 x5_3 x38_3).f1)) ∧ w'.cell? ⟨go29,(x38_3).toNat * 2,none⟩ = some (.int .u64 ((rd_T30 y117 x38_3).f0)) ∧ w'.cell? ⟨go29,(x38_3).toNat * 2 + 1,none⟩ = some (.int .u64 ((rd_T30 y117 x38_3).f1))) (ds:=[9]) #[false,false,false,false,false,false,false,false,false,false] zz90 rfl rfl ⟨(z7 BK114.out 0).trans rfl,(z7 BK114.out 1).trans rfl,hx118_0,hx118_1⟩ (fun hHeld=>?_);refine z25 zj.tab12 zj.bits12 (fun HT_ HW_=>?_)
       generalize w38.drew = w39 at HO_5 HO_8 BK109 BK114 HB hx118_0 hx118_1 hHeld ⊢
       refine pure_ (i:=0) (N:=some 50) (v:=?_) (a':=?_) #[true,false,false,false,false,false,false,false,false,false] rfl rfl (z19 HT_.out zz90) (fun _ _ _ h=>h) (Or.inl ⟨by rfl,?_⟩) ?_ ?_
       rotate_left
       · intro w'
         go_simp
         with_reducible rfl
       rotate_left
       · simp only [Act.put,List.setIfInBounds_toArray,List.set_cons_zero,List.set_cons_succ,zH,zP]
         rfl
       refine pure_ (i:=1) (N:=some 51) (v:=?_) (a':=?_) #[true,true,false,false,false,false,false,false,false,false] rfl rfl (z19 HT_.out zz90) (fun _ _ _ h=>h) (Or.inl ⟨by rfl,?_⟩) ?_ ?_
       rotate_left
       · intro w'
         go_simp
         with_reducible rfl
       rotate_left
       · simp only [Act.put,List.setIfInBounds_toArray,List.set_cons_zero,List.set_cons_succ,zH,zP]
         rfl
       refine pure_ (i:=3) (N:=some 53) (v:=?_) (a':=?_) #[true,true,false,true,false,false,false,false,false,false] rfl rfl (z19 HT_.out zz90) (fun _ _ _ h=>h) (Or.inl ⟨by rfl,?_⟩) ?_ ?_
       rotate_left
       · intro w'
         go_simp
         with_reducible rfl
       rotate_left
       · simp only [Act.put,List.setIfInBounds_toArray,List.set_cons_zero,List.set_cons_succ,zH,zP]
         rfl
       refine pure_ (i:=4) (N:=some 54) (v:=?_) (a':=?_) #[true,true,false,true,true,false,false,false,false,false] rfl rfl (z19 HT_.out zz90) (fun _ _ _ h=>h) (Or.inl ⟨by rfl,?_⟩) ?_ ?_
       rotate_left
       · intro w'
         go_simp
         with_reducible rfl
       rotate_left
       · simp only [Act.put,List.setIfInBounds_toArray,List.set_cons_zero,List.set_cons_succ,zH,zP]
         rfl
       refine pure_ (i:=5) (N:=some 55) (v:=?_) (a':=?_) #[true,true,false,true,true,true,false,false,false,false] rfl rfl (z19 HT_.out zz90) (fun _ _ _ h=>h) (Or.inl ⟨by rfl,?_⟩) ?_ ?_
       rotate_left
       · intro w'
         go_simp
         with_reducible rfl
       rotate_left
       · simp only [Act.put,List.setIfInBounds_toArray,List.set_cons_zero,List.set_cons_succ,zH,zP]
         rfl
       refine take_ (i:=2) (N:=some 52) (v:=?_) (a':=?_) #[true,true,true,true,true,true,false,false,false,false] rfl rfl (z1I HT_.out HW_.out zz90) (fun _ _ _ h=>h) (Or.inl ⟨by rfl,?_⟩) hHeld ?_ ?_
       rotate_left
       · rintro w' ⟨s0,s1,s2,s3⟩
         go_simp
         with_reducible rfl
       rotate_left
       · simp only [Act.put,List.setIfInBounds_toArray,List.set_cons_zero,List.set_cons_succ,zH,zP]
         rfl
       refine take_ (i:=6) (N:=some 56) (v:=?_) (a':=?_) #[true,true,true,true,true,true,true,false,false,false] rfl rfl (z1I HT_.out HW_.out zz90) (fun _ _ _ h=>h) (Or.inl ⟨by rfl,?_⟩) hHeld ?_ ?_
       rotate_left
       · rintro w' ⟨s0,s1,s2,s3⟩
         go_simp
         with_reducible rfl
       rotate_left
       · simp only [Act.put,List.setIfInBounds_toArray,List.set_cons_zero,List.set_cons_succ,zH,zP]
         rfl
       refine one_ (i:=7) (N:=some 57) #[true,true,true,true,true,true,true,true,false,false] rfl rfl (z1N HT_.out zz90) zz91 (fun K hK=>?_)
       refine goes_ Try.func64 zz90 rfl #[.agg #[.int .u64 ((rd_T30 x5_3 x38_3).f0),.int .u64 ((rd_T30 x5_3 x38_3).f1)],.agg #[.int .u64 ((rd_T30 y117 x38_3).f0),.int .u64 ((rd_T30 y117 x38_3).f1)]] zz94 rfl rfl zz48 ?_
       with_reducible refine (z1t.calls ((rd_T30 x5_3 x38_3).f0) ((rd_T30 x5_3 x38_3).f1) ((rd_T30 y117 x38_3).f0) ((rd_T30 y117 x38_3).f1) t119 t120 _ A30.out).mono ?_
       rintro e w40 ⟨rfl,hb⟩
       have HS2_:=(hb.cell (World.block_lt_of_cell? _ _ (hHeld.2.2.1))).trans (hHeld.2.2.1)
       have HS3_:=(hb.cell (World.block_lt_of_cell? _ _ (hHeld.2.2.2))).trans (hHeld.2.2.2)
       refine ⟨_,rfl,?_⟩
       have n0_:=z1.mk (Kd.zq zz70 hb)
       have n1_:=z1.mk (Kd.zq zz71 hb)
       have n2_:=z1.mk (zc (g:=gb109) (o:=.cells #[.int .u64 x110000_3,.int .u64 x110001_3] 30 (0,0)) zz53 hb)
       have n3_:=z1.mk (zc (g:=gb114) (o:=.cells #[.int .u64 ((rd_T30 x5_3 x38_3).f0),.int .u64 ((rd_T30 x5_3 x38_3).f1)] 30 (0,0)) zz54 hb)
       have n4_:=z1.mk (z3 zz37 hb)
       clear HO_5
       clear HO_8
       clear BK109
       clear BK114
       clear HB
       have HO_5:=n0_
       have HO_8:=n1_
       have BK109:=n2_
       have BK114:=n3_
       have HB:=n4_
       clear n0_ n1_ n2_ n3_ n4_
       (try clear hb)
       (try clear hb2)
       (try clear hk)
       (try clear hi)
       have p31 : 0 ≤ (x38_3 : Int):=of_decide_eq_true zz85
       have q31 : (x38_3 : Int) < ((x5_3.length : Int) : Int):=of_decide_eq_true zz85
       obtain ⟨go31,co31,eo31,gb31,gl31,cl31,HG31⟩:=Kd.z43 HO_5.out zz92
       (first|cases eo31|(injection eo31 with ea_ en_ ec_;(first|subst ea_|(injection ea_ with ea_;subst ea_));subst ec_;clear en_))
       have GB31:=z1.mk gb31
       have GG31:=z1.mk HG31
       clear gb31 gl31 HG31
       (first|simp only [z27] at hx113_0|skip)
       (first|simp only [z27] at hx113_1|skip)
       obtain ⟨ce31,hcl31,hM31,hcc31,hfr31⟩:=Kd.z2x HO_5.out z30 (x38_3 : Int) p31 q31
       obtain rfl:=z1V hM31
       have hx31_0 : World.cell? _ ⟨go31,(x38_3 : Int).toNat * 2,none⟩ = some (.int .u64 ((rd_T30 x5_3 x38_3).f0)):=hcc31 0 _ rfl
       have hx31_1 : World.cell? _ ⟨go31,(x38_3 : Int).toNat * 2 + 1,none⟩ = some (.int .u64 ((rd_T30 x5_3 x38_3).f1)):=hcc31 1 _ rfl
       have hf31_0 : World.frozen? _ ⟨go31,(x38_3 : Int).toNat * 2,none⟩ = false:=hfr31 0
       have hf31_1 : World.frozen? _ ⟨go31,(x38_3 : Int).toNat * 2 + 1,none⟩ = false:=hfr31 1
       clear hcl31 hcc31 hfr31 hM31
       replace p31:=eq_true p31
       replace q31:=eq_true q31
       obtain ⟨ce41,hcl41,hM41,hcc41,hfr41⟩:=Kd.z2x HO_5.out z30 (x38_3 : Int) (of_decide_eq_true zz85) (by have h_ : (x38_3 : Int) < ((x5_3.length : Int) : Int):=of_decide_eq_true zz85;first|exact h_|(have e_:=(Kd.zs HO_5.out).1;omega)|simpa using h_)
       obtain rfl:=z1V hM41
       have HP41:=(Kd.z5A HO_5.out (x38_3 : Int) (of_decide_eq_true zz85) (by have h_ : (x38_3 : Int) < ((x5_3.length : Int) : Int):=of_decide_eq_true zz85;first|exact h_|(have e_:=(Kd.zs HO_5.out).1;omega)|simpa using h_) (seg:=[.int .u64 t119,.int .u64 t120]) (j:=0) hcl41 hcc41 (show 2 ≤ 2 from by decide) (x':=(⟨t119,t120⟩ : S30)) (z1J _ _ _ (⟨t119,t120⟩ : S30) ) (fun _ hk=>hk)).1
       rw [← Ny121.out] at HP41
       have HQ41:=z1.mk HP41
       clear hcl41 hcc41 hfr41 hM41 HP41
       refine hK.out _ _ ⟨(z7 BK114.out 0).trans rfl,(z7 BK114.out 1).trans rfl,HS2_,HS3_⟩ (fun hHeld=>?_)
       clear hK K
       refine norm_ (a':=?_) ?_ ?_
       rotate_left
       · show Act.put _ (some 57) _ = _
         simp only [Act.put,List.setIfInBounds_toArray,List.set_cons_zero,List.set_cons_succ,zH,zP]
         rfl
       refine pure_ (i:=8) (N:=some 58) (v:=?_) (a':=?_) #[true,true,true,true,true,true,true,true,true,false] rfl rfl (z19 HT_.out zz90) (fun _ _ _ h=>h) (Or.inl ⟨by rfl,?_⟩) ?_ ?_
       rotate_left
       · intro w'
         go_simp
         with_reducible rfl
       rotate_left
       · simp only [Act.put,List.setIfInBounds_toArray,List.set_cons_zero,List.set_cons_succ,zH,zP]
         rfl
       refine last_ (i:=9) (N:=none) #[true,true,true,true,true,true,true,true,true,true] rfl rfl (z1N HT_.out zz90) zz91 (fun K hK=>?_)
       refine skip_ (w1:=?_) zz94 rfl ?_ ?_
       rotate_left
       · go_simp
         rfl
       refine hK.out _ _ ?_
       clear hK K
       refine done_ (z2i HT_.out zz90) ?_
       try go_wp2
       (try simp only [← hl5_3])
       go_roundg k3
       case measure=>have:=HJ2.out;have:=HK2.out;have:=HK3.out;omega
       case rel=>exact ⟨(y121),(y117),(wrap64 (x38_3 + 1)),(x110000_3),(x110001_3),zz86,H',⟨by have:=HJ2.out;have:=HK2.out;have:=HK3.out;omega⟩,⟨by (try simp only [hl5_3]);(with_reducible repeat (first|apply Kd.zI|apply Kd.zJ|apply Kd.zT));exact Kd.z18 HQ41.out (fun _ hk=>⟨hk.2,hk.1.1⟩)⟩,⟨by (try simp only [hl5_3]);(with_reducible repeat (first|apply Kd.zI|apply Kd.zJ|apply Kd.zT));exact Kd.z18 (Kd.z1M (p:=⟨go31,(x38_3 : Int).toNat * 2 + 1,none⟩) (Kd.z1M (p:=⟨go31,(x38_3 : Int).toNat * 2,none⟩) (Kd.z18 HO_8.out (fun k_ hk=>(⟨hk,fun e_=>hk.1 zz89⟩ : _ ∧ k_ ≠ go31))) (fun _ hk=>hk.2) (.int .u64 t119)) (fun _ hk=>hk.2) (.int .u64 t120)) (fun _ hk=>⟨hk.1.1,hk.1.2.1⟩)⟩,⟨by (try simp only [hl5_3]);(with_reducible repeat (first|refine z5 ?_ _|refine z8 ?_|refine z4 ?_ _));refine zZ ?_ zz80 _;(with_reducible repeat (first|refine z5 ?_ _|refine z8 ?_|refine z4 ?_ _));refine zZ ?_ zz80 _;(with_reducible repeat (first|refine z5 ?_ _|refine z8 ?_|refine z4 ?_ _));exact BK109.out⟩,⟨by repeat (first|(with_reducible first|exact HB.out|apply zd|apply z2|apply z9|refine za ?_ GB31.out|refine za ?_ GB31.out|refine za ?_ GE109.out|refine za ?_ GE114.out)|exact HB.out)⟩⟩
end Go.Proofs.Ytkhmpaooinpfoaa.P
namespace Go.Proofs.Ytkhmpaooinpfoaa.P
open Go.RowKit Go.Proofs.YtkhmpaooinpfoaaW.PrintWords Go.Proofs.YtkhmpaooinpfoaaW.PrintLast Go.Proofs.YtkhmpaooinpfoaaW.PrintMore
attribute [local go_sem] z12 z14 z1i z1j zU zV z13 z15   -- for this text's walks alone
set_option linter.unusedVariables false
set_option linter.unusedSimpArgs false
mutual
def zN.l0 : Nat → Int → List (S30) → List (S30) → Int → Int → Int → Int → Option (Int × Int)
 | 0,_,_,_,_,_,_,_=>none
 | k + 1,x0,x1,x2,x16,x17,x103000,x103001=>if x17 < x16 then (if 0 ≤ x17 then (if x17 < (x1.length : Int) then ((zF.f k x0 ((rd_T30 x1 x17).f0) ((rd_T30 x1 x17).f1)).bind fun t104=>(if t104 = true then (if x17 < (x2.length : Int) then ((zF.f k x0 ((rd_T30 x2 x17).f0) ((rd_T30 x2 x17).f1)).bind fun t106=>(zN.j1 k x0 x1 x2 x17 x16 x17 (!t106) x103000 x103001)) else (none)) else (zN.j1 k x0 x1 x2 x17 x16 x17 true x103000 x103001))) else (none)) else (none)) else (some (x103000,x103001))
def zN.j1 : Nat → Int → List (S30) → List (S30) → Int → Int → Int → Bool → Int → Int → Option (Int × Int)
 | 0,_,_,_,_,_,_,_,_,_=>none
 | k + 1,x0,x1,x2,x8,x16,x17,x35,x103000,x103001=>if x35 = true then (some (0,0)) else (if 0 ≤ x8 then (if x8 < (x1.length : Int) then (if x8 < (x2.length : Int) then ((zO.f k x0 ((rd_T30 x1 x8).f0) ((rd_T30 x1 x8).f1) ((rd_T30 x2 x8).f0) ((rd_T30 x2 x8).f1)).bind fun bt109=>((z1t.f x103000 x103001 bt109.1 bt109.2).bind fun bt111=>(zN.l0 k x0 x1 x2 x16 (wrap64 (x17 + 1)) bt111.1 bt111.2))) else (none)) else (none)) else (none))
end
def zN.f (k : Nat) (a0 : Int) (l1 : List (S30)) (l2 : List (S30)) : Option (Int × Int):=if (l1.length : Int) = (l2.length : Int) then (zN.l0 k a0 l1 l2 (l1.length : Int) 0 0 0) else (some (0,0))
theorem zN.z17 : ∀ k,(∀ y0 y1 y2 y3 y4 y5 y6,LeO (zN.l0 k y0 y1 y2 y3 y4 y5 y6) (zN.l0 (k + 1) y0 y1 y2 y3 y4 y5 y6)) ∧ (∀ y0 y1 y2 y3 y4 y5 y6 y7 y8,LeO (zN.j1 k y0 y1 y2 y3 y4 y5 y6 y7 y8) (zN.j1 (k + 1) y0 y1 y2 y3 y4 y5 y6 y7 y8))
 | 0=>⟨fun _ _ _ _ _ _ _ r h=>by simp [zN.l0] at h,fun _ _ _ _ _ _ _ _ _ r h=>by simp [zN.j1] at h⟩
 | k + 1=>by
  obtain ⟨ih0,ih1⟩:=zN.z17 k
  refine ⟨?_,?_⟩
  · intro y0 y1 y2 y3 y4 y5 y6
    unfold zN.l0
    repeat' first
    | (with_reducible exact ih0 _ _ _ _ _ _ _)
    | (with_reducible exact ih1 _ _ _ _ _ _ _ _ _)
    | (with_reducible exact zF.mono _ _ _ _)
    | (with_reducible exact zO.mono _ _ _ _ _ _)
    | (with_reducible exact LeO.refl _)
    | (with_reducible exact LeO.none _)
    | (with_reducible refine LeO.ite ?_ ?_)
    | (with_reducible refine LeO.bind ?_ (fun _=>?_))
    | exact ih0 _ _ _ _ _ _ _
    | exact ih1 _ _ _ _ _ _ _ _ _
    | exact zF.mono _ _ _ _
    | exact zO.mono _ _ _ _ _ _
    | exact LeO.none _
    | refine LeO.ite ?_ ?_
    | refine LeO.bind ?_ (fun _=>?_)
  · intro y0 y1 y2 y3 y4 y5 y6 y7 y8
    unfold zN.j1
    repeat' first
    | (with_reducible exact ih0 _ _ _ _ _ _ _)
    | (with_reducible exact ih1 _ _ _ _ _ _ _ _ _)
    | (with_reducible exact zF.mono _ _ _ _)
    | (with_reducible exact zO.mono _ _ _ _ _ _)
    | (with_reducible exact LeO.refl _)
    | (with_reducible exact LeO.none _)
    | (with_reducible refine LeO.ite ?_ ?_)
    | (with_reducible refine LeO.bind ?_ (fun _=>?_))
    | exact ih0 _ _ _ _ _ _ _
    | exact ih1 _ _ _ _ _ _ _ _ _
    | exact zF.mono _ _ _ _
    | exact zO.mono _ _ _ _ _ _
    | exact LeO.none _
    | refine LeO.ite ?_ ?_
    | refine LeO.bind ?_ (fun _=>?_)
theorem zN.mono : ∀ a0 a1 a2 k,LeO (zN.f k a0 a1 a2) (zN.f (k + 1) a0 a1 a2):=by
 intro a0 a1 a2 k
 obtain ⟨ih0,ih1⟩:=zN.z17 k
 unfold zN.f
 repeat' first
  | (with_reducible exact ih0 _ _ _ _ _ _ _)
  | (with_reducible exact ih1 _ _ _ _ _ _ _ _ _)
  | (with_reducible exact zF.mono _ _ _ _)
  | (with_reducible exact zO.mono _ _ _ _ _ _)
  | (with_reducible exact LeO.refl _)
  | (with_reducible exact LeO.none _)
  | (with_reducible refine LeO.ite ?_ ?_)
  | (with_reducible refine LeO.bind ?_ (fun _=>?_))
  | exact ih0 _ _ _ _ _ _ _
  | exact ih1 _ _ _ _ _ _ _ _ _
  | exact zF.mono _ _ _ _
  | exact zO.mono _ _ _ _ _ _
  | exact LeO.none _
  | refine LeO.ite ?_ ?_
  | refine LeO.bind ?_ (fun _=>?_)
def zN.T9 : Bool × List (List Nat × List Nat):=(true,[([],[]),([],[]),([],[]),([],[]),([2,3],[2,3]),([4],[4]),([],[]),([],[]),([6,7],[6,7]),([8],[8]),([1,5,9],[1,5,9]),([0,10,10],[0,10]),([11,11,0,1,2,3,4,5,6,7,8,9,10,11],[11])])
def zN.B9 : List Nat:=[0,0,0,0,12,28,0,0,192,448,1022,2047,4095]
theorem zN.tab9 : rtab .any (opsOf Try.f37 9) = zN.T9:=by kernel_rfl
theorem zN.bits9 : waitsOk zN.T9.2 zN.B9 = true:=by kernel_rfl
set_option maxHeartbeats 8000000 in
set_option maxRecDepth 100000 in
theorem zN.calls (k : Nat) (a0 : Int) (A1 : Option Addr) (c1 : Nat) (l1 : List (S30)) (A2 : Option Addr) (c2 : Nat) (l2 : List (S30)) (r1 : Int) (r2 : Int) (w : World) (hr1 : Kd.C k30 w A1 l1.length l1) (hc1 : l1.length ≤ c1) (hr2 : Kd.C k30 w A2 l2.length l2) (hc2 : l2.length ≤ c2) (h : zN.f k a0 l1 l2 = some (r1,r2)) :
 Calls Try.prog 37 #[.int .i64 a0,.slice A1 l1.length c1,.slice A2 l2.length c2] w fun e w'=>e = .returned (.agg #[.int .u64 r1,.int .u64 r2]) ∧ Below w.heap.size w w':=by
 have hu30:=Try.underlying30
 have HR1:=z1.mk hr1
 have HC1:=z1.mk hc1
 clear hr1 hc1
 have HR2:=z1.mk hr2
 have HC2:=z1.mk hc2
 clear hr2 hc2
 have HB:=z1.mk (Below.refl w.heap.size w)
 have H : (if (l1.length : Int) = (l2.length : Int) then (zN.l0 k a0 l1 l2 (l1.length : Int) 0 0 0) else (some (0,0))) = some (r1,r2):=h
 clear h
 by_cases c4 : (l1.length : Int) = (l2.length : Int)
 rotate_left
 · rw [if_neg c4] at H
   have c4b0 : ((l1.length : Int) == (l2.length : Int)) = false:=beq_eq_false_iff_ne.mpr c4
   have c4b1 : ((l1.length : Int) != (l2.length : Int)) = true:=bne_iff_ne.mpr c4
   have c4b2 : (l1.length == l2.length) = false:=by first|simpa using c4|(simp at c4 ⊢;omega)
   simp only [Option.some.injEq,Prod.mk.injEq] at H
   obtain ⟨rfl,rfl⟩:=H
   go_enter Try.func37,Try.ntmps37
   go_wp2_with (first|((with_reducible refine zp (N:=6) rfl ?_);refine zt ?hg (N:=6) ?hd (cs:=#[.int .u64 0,.int .u64 0]) (t:=30) ?hr ?_;(case hd=>rfl);(case hg=>rfl);(case hr=>first|(go_simp;done)|(go_simp;rfl));intro gb101 hg w34 hbox hb;have n0_:=z1.mk (z3 zz49 hb);have n1_:=z1.mk (hbox);have n2_:=z1.mk ((by rw [hg];exact (zb zz49) : w.heap.size ≤ gb101));have n3_:=z1.mk ((by rw [hg];exact (zb zz49) : w.heap.size ≤ gb101));clear HB;have HB:=n0_;have BK101:=n1_;have GW101:=n2_;have GE101:=n3_;clear n0_ n1_ n2_ n3_;clear hb hbox hg;have hcz35_0 : w34.cell? ⟨gb101,0,none⟩ = some (.int .u64 0):=(z7 BK101.out 0).trans rfl;have hcz35_1 : w34.cell? ⟨gb101,1,none⟩ = some (.int .u64 0):=(z7 BK101.out 1).trans rfl;have hfz35_0:=z6 BK101.out 0;have hfz35_1:=z6 BK101.out 1))
   refine bodyPost_ret (results_cell_row rfl _ _ gb101 30 #[.int .u64 0,.int .u64 0] (0,0) _ rfl zz9 Try.underlying30 rfl zz90) rfl ?_
   exact ⟨by first|rfl|(simp [zg,zh] <;> rfl)|(simp [*,zg,zh] <;> rfl),by repeat (first|(with_reducible first|exact HB.out|apply zd|apply z2|apply z9|refine za ?_ GE101.out)|exact HB.out)⟩
 rw [if_pos c4] at H
 have c4b0 : ((l1.length : Int) == (l2.length : Int)) = true:=beq_iff_eq.mpr c4
 have c4b1 : ((l1.length : Int) != (l2.length : Int)) = false:=bne_eq_false_iff_eq.mpr c4
 have c4b2 : (l1.length == l2.length) = true:=by first|simpa using c4|(simp at c4 ⊢;omega)
 clear c4
 have H':=z1.mk H
 clear H
 go_enter Try.func37,Try.ntmps37
 go_wp2_with (first|((with_reducible refine zp (N:=6) rfl ?_);refine zt ?hg (N:=6) ?hd (cs:=#[.int .u64 0,.int .u64 0]) (t:=30) ?hr ?_;(case hd=>rfl);(case hg=>rfl);(case hr=>first|(go_simp;done)|(go_simp;rfl));intro gb101 hg w5 hbox hb;have n0_:=z1.mk (z3 zz49 hb);have n1_:=z1.mk (hbox);have n2_:=z1.mk ((by rw [hg];exact (zb zz49) : w.heap.size ≤ gb101));have n3_:=z1.mk ((by rw [hg];exact (zb zz49) : w.heap.size ≤ gb101));clear HB;have HB:=n0_;have BK101:=n1_;have GW101:=n2_;have GE101:=n3_;clear n0_ n1_ n2_ n3_;clear hb hbox hg)|((with_reducible refine zp (N:=7) rfl ?_);refine zt ?hg (N:=7) ?hd (cs:=#[.int .u64 0,.int .u64 0]) (t:=30) ?hr ?_;(case hd=>rfl);(case hg=>rfl);(case hr=>first|(go_simp;done)|(go_simp;rfl));intro gb102 hg w6 hbox hb;have n0_:=z1.mk (zc (g:=gb101) (o:=.cells #[.int .u64 0,.int .u64 0] 30 (0,0)) zz50 hb);have n1_:=z1.mk (z3 zz43 hb);have n2_:=z1.mk (hbox);have n3_:=z1.mk ((by rw [hg];exact (zb zz43) : w.heap.size ≤ gb102));have n4_:=z1.mk ((by rw [hg];exact (zb zz43) : w.heap.size ≤ gb102));have n5_:=z1.mk ((by rw [hg];exact Nat.ne_of_lt (zL (g:=gb101) (o:=.cells #[.int .u64 0,.int .u64 0] 30 (0,0)) zz50) : gb101 ≠ gb102));have n6_:=z1.mk ((by rw [hg];exact Nat.ne_of_gt (zL (g:=gb101) (o:=.cells #[.int .u64 0,.int .u64 0] 30 (0,0)) zz50) : gb102 ≠ gb101));clear BK101;clear HB;have BK101:=n0_;have HB:=n1_;have BK102:=n2_;have GW102:=n3_;have GE102:=n4_;have NB101_102:=n5_;have NB102_101:=n6_;clear n0_ n1_ n2_ n3_ n4_ n5_ n6_;clear hb hbox hg))
 go_loopg [17] k (fun kq v17 w'=>∃ (x17_1 : Int) (x102000_1 : Int) (x102001_1 : Int) (x103000_1 : Int) (x103001_1 : Int),v17 = .int .i64 x17_1 ∧ z1 (zN.l0 kq a0 l1 l2 (l1.length : Int) x17_1 x103000_1 x103001_1 = some (r1,r2)) ∧ z1 (kq ≤ k) ∧ z1 (w'.heap[gb101]? = some (.cells #[.int .u64 x102000_1,.int .u64 x102001_1] 30 (0,0))) ∧ z1 (w'.heap[gb102]? = some (.cells #[.int .u64 x103000_1,.int .u64 x103001_1] 30 (0,0))) ∧ z1 (Below w.heap.size w w'))
 case atStart=>exact ⟨(0),(0),(0),(0),(0),zz86,H',⟨Nat.le_refl _⟩,⟨by (with_reducible repeat (first|refine z5 ?_ _|refine z8 ?_|refine z4 ?_ _));exact BK101.out⟩,⟨by (with_reducible repeat (first|refine z5 ?_ _|refine z8 ?_|refine z4 ?_ _));exact BK102.out⟩,⟨by repeat (first|(with_reducible first|exact HB.out|apply zd|apply z2|apply z9|refine za ?_ GE101.out|refine za ?_ GE102.out)|exact HB.out)⟩⟩
 case round =>
  clear H'
  (try clear c1);(try clear c2);(try clear p2);(try clear c3);(try clear c4);(try clear c4b0);(try clear c4b1);(try clear c4b2)
  obtain ⟨x17_1,x102000_1,x102001_1,x103000_1,x103001_1,rfl,HA,HK1,BK101,BK102,HB⟩:=hrel
  cases gk with
  | zero=>exact absurd HA.out (by simp [zN.l0])
  | succ k1 =>
   have H:=HA.out
   clear HA
   simp only [zN.l0] at H
   by_cases c7 : x17_1 < (l1.length : Int)
   rotate_left
   · rw [if_neg c7] at H
     have c7b0 : decide (x17_1 < (l1.length : Int)) = false:=decide_eq_false c7
     clear c7
     simp only [Option.some.injEq,Prod.mk.injEq] at H
     obtain ⟨rfl,rfl⟩:=H
     have hnb31:=NB102_101.out
     have hnc31:=NB101_102.out
     have hcz32_0 : wr.cell? ⟨gb102,0,none⟩ = some (.int .u64 x103000_1):=(z7 BK102.out 0).trans rfl
     have hcz32_1 : wr.cell? ⟨gb102,1,none⟩ = some (.int .u64 x103001_1):=(z7 BK102.out 1).trans rfl
     have hfz32_0:=z6 BK102.out 0
     have hfz32_1:=z6 BK102.out 1
     have hcz33_0 : wr.cell? ⟨gb101,0,none⟩ = some (.int .u64 x102000_1):=(z7 BK101.out 0).trans rfl
     have hcz33_1 : wr.cell? ⟨gb101,1,none⟩ = some (.int .u64 x102001_1):=(z7 BK101.out 1).trans rfl
     have hfz33_0:=z6 BK101.out 0
     have hfz33_1:=z6 BK101.out 1
     go_wp2
     refine bodyPost_ret (results_cell_row rfl _ _ gb101 30 #[.int .u64 x103000_1,.int .u64 x103001_1] (0,0) _ rfl (by (with_reducible repeat (first|refine z5 ?_ _|refine z8 ?_|refine z4 ?_ _));refine zX (cs:=#[.int .u64 x103000_1,.int .u64 x102001_1]) ?_ 1 _ rfl;(with_reducible repeat (first|refine z5 ?_ _|refine z8 ?_|refine z4 ?_ _));refine zX (cs:=#[.int .u64 x102000_1,.int .u64 x102001_1]) ?_ 0 _ rfl;(with_reducible repeat (first|refine z5 ?_ _|refine z8 ?_|refine z4 ?_ _));exact BK101.out) Try.underlying30 rfl zz90) rfl ?_
     exact ⟨by first|rfl|(simp [zg,zh] <;> rfl)|(simp [*,zg,zh] <;> rfl),by repeat (first|(with_reducible first|exact HB.out|apply zd|apply z2|apply z9|refine za ?_ GE101.out|refine za ?_ GE102.out)|exact HB.out)⟩
   rw [if_pos c7] at H
   have c7b0 : decide (x17_1 < (l1.length : Int)) = true:=decide_eq_true c7
   clear c7
   have HC8:=z1.mk H
   clear H
   go_upto_region 7 with (fail)
   go_cut [35] (fun v35 wc=>∃ (kq : Nat) (x35_7 : Bool),v35 = .bool x35_7 ∧ z1 (zN.j1 kq a0 l1 l2 x17_1 (l1.length : Int) x17_1 x35_7 x103000_1 x103001_1 = some (r1,r2)) ∧ z1 (kq ≤ k1) ∧ z1 (wc.heap[gb101]? = some (.cells #[.int .u64 x102000_1,.int .u64 x102001_1] 30 (0,0))) ∧ z1 (wc.heap[gb102]? = some (.cells #[.int .u64 x103000_1,.int .u64 x103001_1] 30 (0,0))) ∧ z1 (Below w.heap.size w wc))
   case first =>
    have H:=HC8.out
    clear HC8
    by_cases c9 : 0 ≤ x17_1
    rotate_left
    · rw [if_neg c9] at H
      exact absurd H zz93
    rw [if_pos c9] at H
    have c9b0 : decide (0 ≤ x17_1) = true:=decide_eq_true c9
    clear c9
    (first|rw [c9b0]|(simp only [zH,zP];rw [c9b0])|skip)
    by_cases c10 : x17_1 < (l1.length : Int)
    rotate_left
    · rw [if_neg c10] at H
      exact absurd H zz93
    rw [if_pos c10] at H
    have c10b0 : decide (x17_1 < (l1.length : Int)) = true:=decide_eq_true c10
    clear c10
    replace H:=Option.bind_eq_some_iff.mp H
    obtain ⟨t104,A110,H⟩:=H
    replace H : (if t104 = true then (if x17_1 < (l2.length : Int) then ((zF.f k1 a0 ((rd_T30 l2 x17_1).f0) ((rd_T30 l2 x17_1).f1)).bind fun t106=>(zN.j1 k1 a0 l1 l2 x17_1 (l1.length : Int) x17_1 (!t106) x103000_1 x103001_1)) else (none)) else (zN.j1 k1 a0 l1 l2 x17_1 (l1.length : Int) x17_1 true x103000_1 x103001_1)) = some (r1,r2):=H
    have A11:=z1.mk A110
    clear A110
    by_cases c12 : t104 = true
    rotate_left
    · replace c12:=Bool.eq_false_iff.mpr c12
      subst c12
      have H1 : (zN.j1 k1 a0 l1 l2 x17_1 (l1.length : Int) x17_1 true x103000_1 x103001_1) = some (r1,r2):=by rw [if_neg (show ¬ (false = true) by decide)] at H;exact H
      clear H
      have H:=H1
      clear H1
      have H':=z1.mk H
      clear H
      have p103 : 0 ≤ (x17_1 : Int):=of_decide_eq_true zz85
      have q103 : x17_1 < (l1.length : Int):=of_decide_eq_true zz85
      obtain ⟨ad103,e103,hx103_0,hx103_1⟩:=z20 HR1.out x17_1 p103 q103
      cases e103
      replace hx103_0:=(HB.out.cell (World.block_lt_of_cell? w _ hx103_0)).trans hx103_0
      replace hx103_1:=(HB.out.cell (World.block_lt_of_cell? w _ hx103_1)).trans hx103_1
      replace p103:=eq_true p103
      replace q103:=eq_true q103
      go_wp2_with (first|((with_reducible refine zi (f:=81) rfl ?_);refine goesL_ (some 25) rfl rfl Try.func81 zz90 rfl #[.int .i64 a0,.agg #[.int .u64 ((rd_T30 l1 x17_1).f0),.int .u64 ((rd_T30 l1 x17_1).f1)]] rfl zz48 ?_;(with_reducible refine (zF.calls k1 a0 ((rd_T30 l1 x17_1).f0) ((rd_T30 l1 x17_1).f1) false _ A11.out).mono ?_);rintro e w17 ⟨rfl,hb⟩;refine ⟨_,rfl,?_⟩;have n0_:=z1.mk (zc (g:=gb101) (o:=.cells #[.int .u64 x102000_1,.int .u64 x102001_1] 30 (0,0)) zz50 hb);have n1_:=z1.mk (zc (g:=gb102) (o:=.cells #[.int .u64 x103000_1,.int .u64 x103001_1] 30 (0,0)) zz51 hb);have n2_:=z1.mk (z3 zz36 hb);clear BK101;clear BK102;clear HB;have BK101:=n0_;have BK102:=n1_;have HB:=n2_;clear n0_ n1_ n2_;(try clear hb);(try clear hb2);(try clear hk);(try clear hi)))
      go_meet
      case rel=>exact ⟨_,(true),zz86,H',⟨by have:=HK1.out;first|omega|exact Nat.le_refl _⟩,⟨by (with_reducible repeat (first|refine z5 ?_ _|refine z8 ?_|refine z4 ?_ _));exact BK101.out⟩,⟨by (with_reducible repeat (first|refine z5 ?_ _|refine z8 ?_|refine z4 ?_ _));exact BK102.out⟩,⟨by repeat (first|(with_reducible first|exact HB.out|apply zd|apply z2|apply z9|refine za ?_ GE101.out|refine za ?_ GE102.out)|exact HB.out)⟩⟩
    subst c12
    have H1 : (if x17_1 < (l2.length : Int) then ((zF.f k1 a0 ((rd_T30 l2 x17_1).f0) ((rd_T30 l2 x17_1).f1)).bind fun t106=>(zN.j1 k1 a0 l1 l2 x17_1 (l1.length : Int) x17_1 (!t106) x103000_1 x103001_1)) else (none)) = some (r1,r2):=by rw [if_pos rfl] at H;exact H
    clear H
    have H:=H1
    clear H1
    by_cases c13 : x17_1 < (l2.length : Int)
    rotate_left
    · rw [if_neg c13] at H
      exact absurd H zz93
    rw [if_pos c13] at H
    have c13b0 : decide (x17_1 < (l2.length : Int)) = true:=decide_eq_true c13
    clear c13
    replace H:=Option.bind_eq_some_iff.mp H
    obtain ⟨t106,A140,H⟩:=H
    replace H : (zN.j1 k1 a0 l1 l2 x17_1 (l1.length : Int) x17_1 (!t106) x103000_1 x103001_1) = some (r1,r2):=H
    have A14:=z1.mk A140
    clear A140
    have H':=z1.mk H
    clear H
    have p103 : 0 ≤ (x17_1 : Int):=of_decide_eq_true zz85
    have q103 : x17_1 < (l1.length : Int):=of_decide_eq_true zz85
    obtain ⟨ad103,e103,hx103_0,hx103_1⟩:=z20 HR1.out x17_1 p103 q103
    cases e103
    replace hx103_0:=(HB.out.cell (World.block_lt_of_cell? w _ hx103_0)).trans hx103_0
    replace hx103_1:=(HB.out.cell (World.block_lt_of_cell? w _ hx103_1)).trans hx103_1
    replace p103:=eq_true p103
    replace q103:=eq_true q103
    go_wp2_with (first|((with_reducible refine zi (f:=81) rfl ?_);refine goesL_ (some 25) rfl rfl Try.func81 zz90 rfl #[.int .i64 a0,.agg #[.int .u64 ((rd_T30 l1 x17_1).f0),.int .u64 ((rd_T30 l1 x17_1).f1)]] rfl zz48 ?_;(with_reducible refine (zF.calls k1 a0 ((rd_T30 l1 x17_1).f0) ((rd_T30 l1 x17_1).f1) true _ A11.out).mono ?_);rintro e w15 ⟨rfl,hb⟩;refine ⟨_,rfl,?_⟩;have n0_:=z1.mk (zc (g:=gb101) (o:=.cells #[.int .u64 x102000_1,.int .u64 x102001_1] 30 (0,0)) zz50 hb);have n1_:=z1.mk (zc (g:=gb102) (o:=.cells #[.int .u64 x103000_1,.int .u64 x103001_1] 30 (0,0)) zz51 hb);have n2_:=z1.mk (z3 zz36 hb);clear BK101;clear BK102;clear HB;have BK101:=n0_;have BK102:=n1_;have HB:=n2_;clear n0_ n1_ n2_;(try clear hb);(try clear hb2);(try clear hk);(try clear hi);have p105 : 0 ≤ (x17_1 : Int):=of_decide_eq_true zz85;have q105 : x17_1 < (l2.length : Int):=of_decide_eq_true zz85;obtain ⟨ad105,e105,hx105_0,hx105_1⟩:=z20 HR2.out x17_1 p105 q105;cases e105;replace hx105_0:=(HB.out.cell (World.block_lt_of_cell? w _ hx105_0)).trans hx105_0;replace hx105_1:=(HB.out.cell (World.block_lt_of_cell? w _ hx105_1)).trans hx105_1;replace p105:=eq_true p105;replace q105:=eq_true q105)|(go_at_call 81;(with_reducible refine (zF.calls k1 a0 ((rd_T30 l2 x17_1).f0) ((rd_T30 l2 x17_1).f1) t106 _ A14.out).mono ?_);rintro e w16 ⟨rfl,hb⟩;have n0_:=z1.mk (zc (g:=gb101) (o:=.cells #[.int .u64 x102000_1,.int .u64 x102001_1] 30 (0,0)) zz50 hb);have n1_:=z1.mk (zc (g:=gb102) (o:=.cells #[.int .u64 x103000_1,.int .u64 x103001_1] 30 (0,0)) zz51 hb);have n2_:=z1.mk (z3 zz36 hb);clear BK101;clear BK102;clear HB;have BK101:=n0_;have BK102:=n1_;have HB:=n2_;clear n0_ n1_ n2_;(try clear hb);(try clear hb2);(try clear hk);(try clear hi)))
    go_meet
    case rel=>exact ⟨_,(!t106),zz86,H',⟨by have:=HK1.out;first|omega|exact Nat.le_refl _⟩,⟨by (with_reducible repeat (first|refine z5 ?_ _|refine z8 ?_|refine z4 ?_ _));exact BK101.out⟩,⟨by (with_reducible repeat (first|refine z5 ?_ _|refine z8 ?_|refine z4 ?_ _));exact BK102.out⟩,⟨by repeat (first|(with_reducible first|exact HB.out|apply zd|apply z2|apply z9|refine za ?_ GE101.out|refine za ?_ GE102.out)|exact HB.out)⟩⟩
   case rest =>
    clear HC8
    (try clear c1);(try clear p1);(try clear q1);(try clear hx1);(try clear c2);(try clear p2);(try clear c3);(try clear c4);(try clear c4b0);(try clear c4b1);(try clear c4b2);(try clear c7);(try clear c7b0);(try clear c8);(try clear c9);(try clear c9b0);(try clear c10);(try clear c10b0);(try clear p10);(try clear q10);(try clear hx10);(try clear c12);(try clear c13);(try clear c13b0);(try clear hx103_0);(try clear hx103_1);(try clear hx105_0);(try clear hx105_1);(try clear p103);(try clear p105);(try clear p2);(try clear q103);(try clear q105)
    obtain ⟨kq,x35_7,rfl,HA,HJ7,BK101,BK102,HB⟩:=hcut
    cases kq with
    | zero=>exact absurd HA.out (by simp [zN.j1])
    | succ kj7 =>
     have H:=HA.out
     clear HA
     simp only [zN.j1] at H
     by_cases c18 : x35_7 = true
     · subst c18
       have H1 : (some (0,0)) = some (r1,r2):=by rw [if_pos rfl] at H;exact H
       clear H
       have H:=H1
       clear H1
       simp only [Option.some.injEq,Prod.mk.injEq] at H
       obtain ⟨rfl,rfl⟩:=H
       have hnb19:=NB101_102.out
       have hnc19:=NB102_101.out
       have hcz20_0 : wc.cell? ⟨gb101,0,none⟩ = some (.int .u64 x102000_1):=(z7 BK101.out 0).trans rfl
       have hcz20_1 : wc.cell? ⟨gb101,1,none⟩ = some (.int .u64 x102001_1):=(z7 BK101.out 1).trans rfl
       have hfz20_0:=z6 BK101.out 0
       have hfz20_1:=z6 BK101.out 1
       go_wp2
       refine bodyPost_ret (results_cell_row rfl _ _ gb101 30 #[.int .u64 0,.int .u64 0] (0,0) _ rfl (by (with_reducible repeat (first|refine z5 ?_ _|refine z8 ?_|refine z4 ?_ _));refine zX (cs:=#[.int .u64 0,.int .u64 x102001_1]) ?_ 1 _ rfl;(with_reducible repeat (first|refine z5 ?_ _|refine z8 ?_|refine z4 ?_ _));refine zX (cs:=#[.int .u64 x102000_1,.int .u64 x102001_1]) ?_ 0 _ rfl;(with_reducible repeat (first|refine z5 ?_ _|refine z8 ?_|refine z4 ?_ _));exact BK101.out) Try.underlying30 rfl zz90) rfl ?_
       exact ⟨by first|rfl|(simp [zg,zh] <;> rfl)|(simp [*,zg,zh] <;> rfl),by repeat (first|(with_reducible first|exact HB.out|apply zd|apply z2|apply z9|refine za ?_ GE101.out|refine za ?_ GE102.out)|exact HB.out)⟩
     replace c18:=Bool.eq_false_iff.mpr c18
     subst c18
     have H1 : (if 0 ≤ x17_1 then (if x17_1 < (l1.length : Int) then (if x17_1 < (l2.length : Int) then ((zO.f kj7 a0 ((rd_T30 l1 x17_1).f0) ((rd_T30 l1 x17_1).f1) ((rd_T30 l2 x17_1).f0) ((rd_T30 l2 x17_1).f1)).bind fun bt109=>((z1t.f x103000_1 x103001_1 bt109.1 bt109.2).bind fun bt111=>(zN.l0 kj7 a0 l1 l2 (l1.length : Int) (wrap64 (x17_1 + 1)) bt111.1 bt111.2))) else (none)) else (none)) else (none)) = some (r1,r2):=by rw [if_neg (show ¬ (false = true) by decide)] at H;exact H
     clear H
     have H:=H1
     clear H1
     by_cases c21 : 0 ≤ x17_1
     rotate_left
     · rw [if_neg c21] at H
       exact absurd H zz93
     rw [if_pos c21] at H
     have c21b0 : decide (0 ≤ x17_1) = true:=decide_eq_true c21
     clear c21
     by_cases c22 : x17_1 < (l1.length : Int)
     rotate_left
     · rw [if_neg c22] at H
       exact absurd H zz93
     rw [if_pos c22] at H
     have c22b0 : decide (x17_1 < (l1.length : Int)) = true:=decide_eq_true c22
     clear c22
     by_cases c23 : x17_1 < (l2.length : Int)
     rotate_left
     · rw [if_neg c23] at H
       exact absurd H zz93
     rw [if_pos c23] at H
     have c23b0 : decide (x17_1 < (l2.length : Int)) = true:=decide_eq_true c23
     clear c23
     replace H:=Option.bind_eq_some_iff.mp H
     obtain ⟨⟨t109,t110⟩,A240,H⟩:=H
     replace H : ((z1t.f x103000_1 x103001_1 t109 t110).bind fun bt111=>(zN.l0 kj7 a0 l1 l2 (l1.length : Int) (wrap64 (x17_1 + 1)) bt111.1 bt111.2)) = some (r1,r2):=H
     have A24:=z1.mk A240
     clear A240
     replace H:=Option.bind_eq_some_iff.mp H
     obtain ⟨⟨t111,t112⟩,A250,H⟩:=H
     replace H : (zN.l0 kj7 a0 l1 l2 (l1.length : Int) (wrap64 (x17_1 + 1)) t111 t112) = some (r1,r2):=H
     have A25:=z1.mk A250
     clear A250
     have H':=z1.mk H
     clear H
     try go_wp2
     have n0_:=z1.mk (z8 BK101.out)
     have n1_:=z1.mk (z8 BK102.out)
     have n2_:=z1.mk (z9 HB.out)
     clear BK101
     clear BK102
     clear HB
     have BK101:=n0_
     have BK102:=n1_
     have HB:=n2_
     clear n0_ n1_ n2_
     have p107 : 0 ≤ (x17_1 : Int):=of_decide_eq_true zz85
     have q107 : x17_1 < (l1.length : Int):=of_decide_eq_true zz85
     obtain ⟨ad107,e107,hx107_0,hx107_1⟩:=z20 HR1.out x17_1 p107 q107
     have hw107_1:=hx107_1
     have hw107_0:=hx107_0
     cases e107
     replace hx107_0:=(HB.out.cell (World.block_lt_of_cell? w _ hx107_0)).trans hx107_0
     replace hx107_1:=(HB.out.cell (World.block_lt_of_cell? w _ hx107_1)).trans hx107_1
     replace p107:=eq_true p107
     replace q107:=eq_true q107
     have p108 : 0 ≤ (x17_1 : Int):=of_decide_eq_true zz85
     have q108 : x17_1 < (l2.length : Int):=of_decide_eq_true zz85
     obtain ⟨ad108,e108,hx108_0,hx108_1⟩:=z20 HR2.out x17_1 p108 q108
     have hw108_1:=hx108_1
     have hw108_0:=hx108_0
     cases e108
     replace hx108_0:=(HB.out.cell (World.block_lt_of_cell? w _ hx108_0)).trans hx108_0
     replace hx108_1:=(HB.out.cell (World.block_lt_of_cell? w _ hx108_1)).trans hx108_1
     replace p108:=eq_true p108
     replace q108:=eq_true q108
     refine start_ (n:=13) (S:=fun w'=>w'.cell? ⟨gb102,0,none⟩ = some (.int .u64 x103000_1) ∧ w'.cell? ⟨gb102,1,none⟩ = some (.int .u64 x103001_1) ∧ w'.cell? (ad107.add ((x17_1).toNat * 2)) = some (.int .u64 ((rd_T30 l1 x17_1).f0)) ∧ w'.cell? ⟨(ad107.add ((x17_1).toNat * 2)).block,(ad107.add ((x17_1).toNat * 2)).off + 1,none⟩ = some (.int .u64 ((rd_T30 l1 x17_1).f1)) ∧ w'.cell? (ad108.add ((x17_1).toNat * 2)) = some (.int .u64 ((rd_T30 l2 x17_1).f0)) ∧ w'.cell? ⟨(ad108.add ((x17_1).toNat * 2)).block,(ad108.add ((x17_1).toNat * 2)).off + 1,none⟩ = some (.int .u64 ((rd_T30 l2 x17_1).f1))) (ds:=[12]) #[false,false,false,false,false,false,false,false,false,false,false,false,false] zz90 rfl rfl ⟨(z7 BK102.out 0).trans rfl,(z7 BK102.out 1).trans rfl,((HB.out.cell (World.block_lt_of_cell? w _ hw107_0)).trans hw107_0),((HB.out.cell (World.block_lt_of_cell? w _ hw107_1)).trans hw107_1),((HB.out.cell (World.block_lt_of_cell? w _ hw108_0)).trans hw108_0),((HB.out.cell (World.block_lt_of_cell? w _ hw108_1)).trans hw108_1)⟩ (fun hHeld=>?_);refine z25 zN.tab9 zN.bits9 (fun HT_ HW_=>?_)
     generalize wc.drew = w26 at BK101 BK102 HB hx107_0 hx107_1 hx108_0 hx108_1 hHeld ⊢
     refine pure_ (i:=1) (N:=some 38) (v:=?_) (a':=?_) #[false,true,false,false,false,false,false,false,false,false,false,false,false] rfl rfl (z19 HT_.out zz90) (fun _ _ _ h=>h) (Or.inl ⟨by rfl,?_⟩) ?_ ?_
     rotate_left
     · intro w'
       go_simp
       with_reducible rfl
     rotate_left
     · simp only [Act.put,List.setIfInBounds_toArray,List.set_cons_zero,List.set_cons_succ,zH,zP]
       rfl
     refine pure_ (i:=2) (N:=some 39) (v:=?_) (a':=?_) #[false,true,true,false,false,false,false,false,false,false,false,false,false] rfl rfl (z19 HT_.out zz90) (fun _ _ _ h=>h) (Or.inl ⟨by rfl,?_⟩) ?_ ?_
     rotate_left
     · intro w'
       go_simp
       with_reducible rfl
     rotate_left
     · simp only [Act.put,List.setIfInBounds_toArray,List.set_cons_zero,List.set_cons_succ,zH,zP]
       rfl
     refine pure_ (i:=3) (N:=some 40) (v:=?_) (a':=?_) #[false,true,true,true,false,false,false,false,false,false,false,false,false] rfl rfl (z19 HT_.out zz90) (fun _ _ _ h=>h) (Or.inl ⟨by rfl,?_⟩) ?_ ?_
     rotate_left
     · intro w'
       go_simp
       with_reducible rfl
     rotate_left
     · simp only [Act.put,List.setIfInBounds_toArray,List.set_cons_zero,List.set_cons_succ,zH,zP]
       rfl
     refine pure_ (i:=4) (N:=some 41) (v:=?_) (a':=?_) #[false,true,true,true,true,false,false,false,false,false,false,false,false] rfl rfl (z19 HT_.out zz90) (fun _ _ _ h=>h) (Or.inl ⟨by rfl,?_⟩) ?_ ?_
     rotate_left
     · intro w'
       go_simp
       with_reducible rfl
     rotate_left
     · simp only [Act.put,List.setIfInBounds_toArray,List.set_cons_zero,List.set_cons_succ,zH,zP]
       rfl
     refine pure_ (i:=6) (N:=some 43) (v:=?_) (a':=?_) #[false,true,true,true,true,false,true,false,false,false,false,false,false] rfl rfl (z19 HT_.out zz90) (fun _ _ _ h=>h) (Or.inl ⟨by rfl,?_⟩) ?_ ?_
     rotate_left
     · intro w'
       go_simp
       with_reducible rfl
     rotate_left
     · simp only [Act.put,List.setIfInBounds_toArray,List.set_cons_zero,List.set_cons_succ,zH,zP]
       rfl
     refine pure_ (i:=7) (N:=some 44) (v:=?_) (a':=?_) #[false,true,true,true,true,false,true,true,false,false,false,false,false] rfl rfl (z19 HT_.out zz90) (fun _ _ _ h=>h) (Or.inl ⟨by rfl,?_⟩) ?_ ?_
     rotate_left
     · intro w'
       go_simp
       with_reducible rfl
     rotate_left
     · simp only [Act.put,List.setIfInBounds_toArray,List.set_cons_zero,List.set_cons_succ,zH,zP]
       rfl
     refine pure_ (i:=8) (N:=some 45) (v:=?_) (a':=?_) #[false,true,true,true,true,false,true,true,true,false,false,false,false] rfl rfl (z19 HT_.out zz90) (fun _ _ _ h=>h) (Or.inl ⟨by rfl,?_⟩) ?_ ?_
     rotate_left
     · intro w'
       go_simp
       with_reducible rfl
     rotate_left
     · simp only [Act.put,List.setIfInBounds_toArray,List.set_cons_zero,List.set_cons_succ,zH,zP]
       rfl
     refine take_ (i:=0) (N:=some 37) (v:=?_) (a':=?_) #[true,true,true,true,true,false,true,true,true,false,false,false,false] rfl rfl (z1I HT_.out HW_.out zz90) (fun _ _ _ h=>h) (Or.inl ⟨by rfl,?_⟩) hHeld ?_ ?_
     rotate_left
     · rintro w' ⟨s0,s1,s2,s3,s4,s5⟩
       go_simp
       with_reducible rfl
     rotate_left
     · simp only [Act.put,List.setIfInBounds_toArray,List.set_cons_zero,List.set_cons_succ,zH,zP]
       rfl
     refine take_ (i:=5) (N:=some 42) (v:=?_) (a':=?_) #[true,true,true,true,true,true,true,true,true,false,false,false,false] rfl rfl (z1I HT_.out HW_.out zz90) (fun _ _ _ h=>h) (Or.inl ⟨by rfl,?_⟩) hHeld ?_ ?_
     rotate_left
     · rintro w' ⟨s0,s1,s2,s3,s4,s5⟩
       go_simp
       with_reducible rfl
     rotate_left
     · simp only [Act.put,List.setIfInBounds_toArray,List.set_cons_zero,List.set_cons_succ,zH,zP]
       rfl
     refine take_ (i:=9) (N:=some 46) (v:=?_) (a':=?_) #[true,true,true,true,true,true,true,true,true,true,false,false,false] rfl rfl (z1I HT_.out HW_.out zz90) (fun _ _ _ h=>h) (Or.inl ⟨by rfl,?_⟩) hHeld ?_ ?_
     rotate_left
     · rintro w' ⟨s0,s1,s2,s3,s4,s5⟩
       go_simp
       with_reducible rfl
     rotate_left
     · simp only [Act.put,List.setIfInBounds_toArray,List.set_cons_zero,List.set_cons_succ,zH,zP]
       rfl
     refine one_ (i:=10) (N:=some 47) #[true,true,true,true,true,true,true,true,true,true,true,false,false] rfl rfl (z1N HT_.out zz90) zz91 (fun K hK=>?_)
     refine goes_ Try.func78 zz90 rfl #[.int .i64 a0,.agg #[.int .u64 ((rd_T30 l1 x17_1).f0),.int .u64 ((rd_T30 l1 x17_1).f1)],.agg #[.int .u64 ((rd_T30 l2 x17_1).f0),.int .u64 ((rd_T30 l2 x17_1).f1)]] zz94 rfl rfl zz48 ?_
     with_reducible refine (zO.calls kj7 a0 ((rd_T30 l1 x17_1).f0) ((rd_T30 l1 x17_1).f1) ((rd_T30 l2 x17_1).f0) ((rd_T30 l2 x17_1).f1) t109 t110 _ A24.out).mono ?_
     rintro e w27 ⟨rfl,hb⟩
     refine ⟨_,rfl,?_⟩
     have n0_:=z1.mk (zc (g:=gb101) (o:=.cells #[.int .u64 x102000_1,.int .u64 x102001_1] 30 (0,0)) zz50 hb)
     have n1_:=z1.mk (zc (g:=gb102) (o:=.cells #[.int .u64 x103000_1,.int .u64 x103001_1] 30 (0,0)) zz51 hb)
     have n2_:=z1.mk (z3 zz36 hb)
     clear BK101
     clear BK102
     clear HB
     have BK101:=n0_
     have BK102:=n1_
     have HB:=n2_
     clear n0_ n1_ n2_
     (try clear hb)
     (try clear hb2)
     (try clear hk)
     (try clear hi)
     refine hK.out _ _ ⟨(z7 BK102.out 0).trans rfl,(z7 BK102.out 1).trans rfl,((HB.out.cell (World.block_lt_of_cell? w _ hw107_0)).trans hw107_0),((HB.out.cell (World.block_lt_of_cell? w _ hw107_1)).trans hw107_1),((HB.out.cell (World.block_lt_of_cell? w _ hw108_0)).trans hw108_0),((HB.out.cell (World.block_lt_of_cell? w _ hw108_1)).trans hw108_1)⟩ (fun hHeld=>?_)
     clear hK K
     refine norm_ (a':=?_) ?_ ?_
     rotate_left
     · show Act.put _ (some 47) _ = _
       simp only [Act.put,List.setIfInBounds_toArray,List.set_cons_zero,List.set_cons_succ,zH,zP]
       rfl
     refine one_ (i:=11) (N:=some 48) #[true,true,true,true,true,true,true,true,true,true,true,true,false] rfl rfl (z1N HT_.out zz90) zz91 (fun K hK=>?_)
     refine goes_ Try.func64 zz90 rfl #[.agg #[.int .u64 x103000_1,.int .u64 x103001_1],.agg #[.int .u64 t109,.int .u64 t110]] zz94 rfl rfl zz48 ?_
     with_reducible refine (z1t.calls x103000_1 x103001_1 t109 t110 t111 t112 _ A25.out).mono ?_
     rintro e w28 ⟨rfl,hb⟩
     refine ⟨_,rfl,?_⟩
     have n0_:=z1.mk (zc (g:=gb101) (o:=.cells #[.int .u64 x102000_1,.int .u64 x102001_1] 30 (0,0)) zz50 hb)
     have n1_:=z1.mk (zc (g:=gb102) (o:=.cells #[.int .u64 x103000_1,.int .u64 x103001_1] 30 (0,0)) zz51 hb)
     have n2_:=z1.mk (z3 zz36 hb)
     clear BK101
     clear BK102
     clear HB
     have BK101:=n0_
     have BK102:=n1_
     have HB:=n2_
     clear n0_ n1_ n2_
     (try clear hb)
     (try clear hb2)
     (try clear hk)
     (try clear hi)
     refine hK.out _ _ ⟨(z7 BK102.out 0).trans rfl,(z7 BK102.out 1).trans rfl,((HB.out.cell (World.block_lt_of_cell? w _ hw107_0)).trans hw107_0),((HB.out.cell (World.block_lt_of_cell? w _ hw107_1)).trans hw107_1),((HB.out.cell (World.block_lt_of_cell? w _ hw108_0)).trans hw108_0),((HB.out.cell (World.block_lt_of_cell? w _ hw108_1)).trans hw108_1)⟩ (fun hHeld=>?_)
     clear hK K
     refine norm_ (a':=?_) ?_ ?_
     rotate_left
     · show Act.put _ (some 48) _ = _
       simp only [Act.put,List.setIfInBounds_toArray,List.set_cons_zero,List.set_cons_succ,zH,zP]
       rfl
     refine last_ (i:=12) (N:=none) #[true,true,true,true,true,true,true,true,true,true,true,true,true] rfl rfl (z1N HT_.out zz90) zz91 (fun K hK=>?_)
     have hs29 : w28.cell? ⟨gb102,0,none⟩ = some (.int .u64 x103000_1):=(z7 BK102.out 0).trans rfl
     have hfs29:=z6 BK102.out 0
     have hns29_0:=NB101_102.out
     have hms29_0:=NB102_101.out
     have hs30 : w28.cell? ⟨gb102,1,none⟩ = some (.int .u64 x103001_1):=(z7 BK102.out 1).trans rfl
     have hfs30:=z6 BK102.out 1
     have hns30_0:=NB101_102.out
     have hms30_0:=NB102_101.out
     refine skip_ (w1:=?_) zz94 rfl ?_ ?_
     rotate_left
     · go_simp
       rfl
     refine hK.out _ _ ?_
     clear hK K
     refine done_ (z2i HT_.out zz90) ?_
     try go_wp2
     go_roundg kj7
     case measure=>have:=HK1.out;have:=HJ7.out;omega
     case rel=>exact ⟨(wrap64 (x17_1 + 1)),(x102000_1),(x102001_1),(t111),(t112),zz86,H',⟨by have:=HK1.out;have:=HJ7.out;omega⟩,⟨by (with_reducible repeat (first|refine z5 ?_ _|refine z8 ?_|refine z4 ?_ _));refine zZ ?_ NB101_102.out _;(with_reducible repeat (first|refine z5 ?_ _|refine z8 ?_|refine z4 ?_ _));refine zZ ?_ NB101_102.out _;(with_reducible repeat (first|refine z5 ?_ _|refine z8 ?_|refine z4 ?_ _));exact BK101.out⟩,⟨by (with_reducible repeat (first|refine z5 ?_ _|refine z8 ?_|refine z4 ?_ _));refine zX (cs:=#[.int .u64 t111,.int .u64 x103001_1]) ?_ 1 _ rfl;(with_reducible repeat (first|refine z5 ?_ _|refine z8 ?_|refine z4 ?_ _));refine zX (cs:=#[.int .u64 x103000_1,.int .u64 x103001_1]) ?_ 0 _ rfl;(with_reducible repeat (first|refine z5 ?_ _|refine z8 ?_|refine z4 ?_ _));exact BK102.out⟩,⟨by repeat (first|(with_reducible first|exact HB.out|apply zd|apply z2|apply z9|refine za ?_ GE101.out|refine za ?_ GE102.out)|exact HB.out)⟩⟩
end Go.Proofs.Ytkhmpaooinpfoaa.P

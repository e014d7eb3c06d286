/- Own text: merged by wip/tools/pack.py out of what the law PackvReckons reaches. -/
import Derived.Test.YtkhmpaooinpfoaaProg
import Derived.Below
import Derived.Deep.Draws
import Derived.Deep.AppendLies
import Derived.Maps.AppendAt
import Derived.OwnWalk
import Derived.Laws.BytesArg
import Derived.Laws.MakeOwn
import Derived.Laws.OwnMore
import Derived.Deep.OwnRows
import Derived.Tactics
import Derived.Lib.ConvBytes
import Derived.Laws.Slices
import Derived.WalkKit
import Derived.KernelRfl
import Derived.RowKit3
import Derived.Deep.LoopGhost
import Derived.Deep.QuietTactic
import Derived.BigQuiet
import Derived.WideLaws
import Derived.Deep.DeepCutAuto
import Derived.Deep.CutBlock
import Derived.Deep.RegionHeld3
import Derived.Laws.Rows
import Derived.Lib.AppendStr
import Derived.ArgAppend
import Derived.Laws.IdiomCopy
import Derived.OrdersHeld
import Derived.Laws.BitsLemmas
import Derived.RowKit
import Derived.Test.YtkhmpaooinpfoaaMPackvReckonsa
namespace Go.Proofs.Ytkhmpaooinpfoaa.P
open Go.RowKit Go.Proofs.YtkhmpaooinpfoaaW.PrintWords Go.Proofs.YtkhmpaooinpfoaaW.PrintLast Go.Proofs.YtkhmpaooinpfoaaW.PrintMore
attribute [local go_sem] z12 z14 z1b z1c zW zX z13 z15   -- for this text's walks alone
set_option linter.unusedVariables false
set_option linter.unusedSimpArgs false
theorem zz82 {p : Prop} (h : p := by rfl) : p := h
theorem zz81 {p : Prop} (h : p := by simp) : p := h
theorem zz80 {p : Prop} (h : p := by omega) : p := h
theorem zz79 {p : Prop} (h : p := by decide) : p := h
theorem zz78 {p : Prop} (h : p := by kernel_rfl) : p := h
theorem zz77 {p : Prop} (h : p := by rw [e_];rfl) : p := h
theorem zz76 {p : Prop} (h : p := by go_simp;rfl) : p := h
theorem zz75 {p : Prop} (h : p := by first|rfl|(simp;done)|(simp [*];done)) : p := h
theorem zz74 {p : Prop} (h : p := by first|(with_reducible assumption)|assumption) : p := h
theorem zz73 {p : Prop} (h : p := by (try simp only [List.map_toArray,List.map_cons,List.map_nil]);first|done|rfl) : p := h
theorem zz72 {p : Prop} (h : p := by have h_:=Kd.z2x HO_6.out (fun _ hk=>hk);intro e_;exact h_ zz77) : p := h
theorem zz71 {p : Prop} (h : p := by have h_:=Kd.z2x HO_1.out (fun _ hk=>hk.2.1);intro e_;exact h_ zz77) : p := h
theorem zz70 {p : Prop} (h : p := by have:=World.block_lt_of_cell? _ _ hw106_1;first|rwa [z1V] at this|exact this) : p := h
theorem zz69 {p : Prop} (h : p := by have:=World.block_lt_of_cell? _ _ hw106_0;first|rwa [z1V] at this|exact this) : p := h
theorem zz68 {p : Prop} (h : p := by have:=World.block_lt_of_cell? _ _ hw105_1;first|rwa [z1V] at this|exact this) : p := h
theorem zz67 {p : Prop} (h : p := by have:=World.block_lt_of_cell? _ _ hw105_0;first|rwa [z1V] at this|exact this) : p := h
theorem zz66 {p : Prop} (h : p := by have h_:=Kd.z2x HO_1.out (fun _ hk=>hk.2.2.1);intro e_;exact h_ zz77) : p := h
theorem zz65 {p : Prop} (h : p := by have h_:=Kd.z2x HO_1.out (fun _ hk=>hk.2.2.2.2);intro e_;exact h_ zz77) : p := h
theorem zz64 {p : Prop} (h : p := by have h_:=Kd.z2x HO_1.out (fun _ hk=>hk.2.2.2.1);intro e_;exact h_ zz77) : p := h
theorem zz63 {p : Prop} (h : p := by simp only [putAll,Act.put,List.setIfInBounds_toArray,List.set_cons_zero,List.set_cons_succ]) : p := h
theorem zz62 {p : Prop} (h : p := by (with_reducible repeat (first|apply Kd.z28|apply Kd.z29|apply Kd.z2i));exact HO2.out) : p := h
theorem zz61 {p : Prop} (h : p := by (with_reducible repeat (first|apply Kd.z28|apply Kd.z29|apply Kd.z2i));exact HO1.out) : p := h
theorem zz60 {p : Prop} (h : p := by (with_reducible repeat (first|apply Kd.zC|apply Kd.zD|apply Kd.zO));exact HO1.out) : p := h
theorem zz59 {p : Prop} (h : p := by (with_reducible repeat (first|apply Kd.zC|apply Kd.zD|apply Kd.zO));exact HO_8.out) : p := h
theorem zz58 {p : Prop} (h : p := by (with_reducible repeat (first|apply Kd.zC|apply Kd.zD|apply Kd.zO));exact HO_7.out) : p := h
theorem zz57 {p : Prop} (h : p := by (with_reducible repeat (first|apply Kd.zC|apply Kd.zD|apply Kd.zO));exact HO_6.out) : p := h
theorem zz56 {p : Prop} (h : p := by (with_reducible repeat (first|apply Kd.zC|apply Kd.zD|apply Kd.zO));exact HO_9.out) : p := h
theorem zz55 {p : Prop} (h : p := by (with_reducible repeat (first|apply Kd.z28|apply Kd.z29|apply Kd.z2i));exact HO_1.out) : p := h
theorem zz54 {p : Prop} (h : p := by (with_reducible repeat (first|apply Kd.zC|apply Kd.zD|apply Kd.zO));exact HO_1.out) : p := h
theorem zz53 {p : Prop} (h : p := by (with_reducible repeat (first|apply Kd.zC|apply Kd.zD|apply Kd.zO));exact HO_5.out) : p := h
theorem zz52 {p : Prop} (h : p := by (with_reducible repeat (first|apply Kd.zC|apply Kd.zD|apply Kd.zO));exact HO134.out) : p := h
theorem zz51 {p : Prop} (h : p := by (with_reducible repeat (first|apply Kd.zC|apply Kd.zD|apply Kd.zO));exact HO_14.out) : p := h
theorem zz50 {p : Prop} (h : p := by (with_reducible repeat (first|apply Kd.zC|apply Kd.zD|apply Kd.zO));exact HO_13.out) : p := h
theorem zz49 {p : Prop} (h : p := by (with_reducible repeat (first|apply Kd.zC|apply Kd.zD|apply Kd.zO));exact HO123.out) : p := h
theorem zz48 {p : Prop} (h : p := by (with_reducible repeat (first|apply Kd.zC|apply Kd.zD|apply Kd.zO));exact HO120.out) : p := h
theorem zz47 {p : Prop} (h : p := by (with_reducible repeat (first|apply Kd.zC|apply Kd.zD|apply Kd.zO));exact HO116.out) : p := h
theorem zz46 {p : Prop} (h : p := by (with_reducible repeat (first|apply Kd.zC|apply Kd.zD|apply Kd.zO));exact HO112.out) : p := h
theorem zz45 {p : Prop} (h : p := by (with_reducible repeat (first|apply Kd.zC|apply Kd.zD|apply Kd.zO));exact HO108.out) : p := h
theorem zz44 {p : Prop} (h : p := by (with_reducible repeat (first|apply Kd.zC|apply Kd.zD|apply Kd.zO));exact HO118.out) : p := h
theorem zz43 {p : Prop} (h : p := by (with_reducible repeat (first|apply Kd.zC|apply Kd.zD|apply Kd.zO));exact HO110.out) : p := h
theorem zz42 {p : Prop} (h : p := by (with_reducible repeat (first|apply Kd.z28|apply Kd.z29|apply Kd.z2i));exact HO_22.out) : p := h
theorem zz41 {p : Prop} (h : p := by (with_reducible repeat (first|apply Kd.zC|apply Kd.zD|apply Kd.zO));exact HO103.out) : p := h
theorem zz40 {p : Prop} (h : p := by (with_reducible repeat (first|apply Kd.zC|apply Kd.zD|apply Kd.zO));exact HO_17.out) : p := h
theorem zz39 {p : Prop} (h : p := by (with_reducible repeat (first|apply Kd.zC|apply Kd.zD|apply Kd.zO));exact HO106.out) : p := h
theorem zz38 {p : Prop} (h : p := by (with_reducible repeat (first|apply Kd.z28|apply Kd.z29|apply Kd.z2i));exact HO_23.out) : p := h
theorem zz37 {p : Prop} (h : p := by (with_reducible repeat (first|apply Kd.N_alloc|apply Kd.N_drewN|apply Kd.N_drew));exact HO103.out) : p := h
theorem zz36 {p : Prop} (h : p := by (with_reducible repeat (first|refine zb ?_ _|refine zf ?_|refine za ?_ _));exact BK106.out) : p := h
theorem zz35 {p : Prop} (h : p := by (with_reducible repeat (first|refine zb ?_ _|refine zf ?_|refine za ?_ _));exact BK109.out) : p := h
theorem zz34 {p : Prop} (h : p := by (with_reducible repeat (first|refine zb ?_ _|refine zf ?_|refine za ?_ _));exact BK110.out) : p := h
theorem zz33 {p : Prop} (h : p := by (with_reducible repeat (first|refine zb ?_ _|refine zf ?_|refine za ?_ _));exact BK107.out) : p := h
theorem zz32 {p : Prop} (h : p := by (with_reducible repeat (first|refine zb ?_ _|refine zf ?_|refine za ?_ _));exact BK104.out) : p := h
theorem zz31 {p : Prop} (h : p := by (with_reducible repeat (first|refine zb ?_ _|refine zf ?_|refine za ?_ _));exact BK103.out) : p := h
theorem zz30 {p : Prop} (h : p := by (with_reducible repeat (first|refine zb ?_ _|refine zf ?_|refine za ?_ _));exact BK102.out) : p := h
theorem zz29 {p : Prop} (h : p := by (with_reducible repeat (first|refine zb ?_ _|refine zf ?_|refine za ?_ _));exact BK101.out) : p := h
theorem zz28 {p : Prop} (h : p := by repeat (first|(with_reducible first|exact HB.out|apply z7|apply z2|apply z6)|exact HB.out)) : p := h
theorem zz27 {p : Prop} (h : p := by (try simp only [List.map_toArray,List.map_cons,List.map_nil]);first|done|rfl|(simp only [List.length_drop,List.length_take];rfl)) : p := h
theorem zz26 {p : Prop} (h : p := by repeat (first|(with_reducible first|exact HB.out|apply z7|apply z2|apply z6|refine zd ?_ GE106.out)|exact HB.out)) : p := h
theorem zz25 {p : Prop} (h : p := by repeat (first|(with_reducible first|exact HB.out|apply z7|apply z2|apply z6|refine zd ?_ GE101.out)|exact HB.out)) : p := h
theorem zz24 {p : Prop} (h : p := by repeat (first|(with_reducible first|exact HB.out|apply z7|apply z2|apply z6|refine zd ?_ GE101.out|refine zd ?_ GE109.out)|exact HB.out)) : p := h
theorem zz23 {p : Prop} (h : p := by repeat (first|(with_reducible first|exact HB.out|apply z7|apply z2|apply z6|refine zd ?_ GE101.out|refine zd ?_ GE105.out)|exact HB.out)) : p := h
theorem zz22 {p : Prop} (h : p := by repeat (first|(with_reducible first|exact HB.out|apply z7|apply z2|apply z6|refine zd ?_ GE101.out|refine zd ?_ GE102.out)|exact HB.out)) : p := h
theorem zz21 {p : Prop} (h : p := by repeat (first|(with_reducible first|exact HK.out|apply Kept.alloc|apply Kept.drewN|apply Kept.drew|refine Kept.setCell ?_ (.inr GW101.out) _|refine Kept.setCell ?_ (.inr GW102.out) _)|exact HK.out)) : p := h
theorem zz20 {p : Prop} (h : p := by repeat (first|(with_reducible first|exact HB.out|apply z7|apply z2|apply z6|refine zd ?_ GE101.out|refine zd ?_ GE102.out|refine zd ?_ GE104.out)|exact HB.out)) : p := h
theorem zz19 {p : Prop} (h : p := by repeat (first|(with_reducible first|exact HB.out|apply z7|apply z2|apply z6|refine zd ?_ GE101.out|refine zd ?_ GE102.out|refine zd ?_ GE103.out)|exact HB.out)) : p := h
theorem zz18 {p : Prop} (h : p := by repeat (first|(with_reducible first|exact HK.out|apply Kept.alloc|apply Kept.drewN|apply Kept.drew|refine Kept.setCell ?_ (.inr GW101.out) _|refine Kept.setCell ?_ (.inr GW102.out) _|refine Kept.setCell ?_ (.inr GW104.out) _)|exact HK.out)) : p := h
theorem zz17 {p : Prop} (h : p := by repeat (first|(with_reducible first|exact HB.out|apply z7|apply z2|apply z6|refine zd ?_ GE101.out|refine zd ?_ GE102.out|refine zd ?_ GE103.out|refine zd ?_ GE104.out)|exact HB.out)) : p := h
theorem zz16 {p : Prop} (h : p := by repeat (first|(with_reducible first|exact HB.out|apply z7|apply z2|apply z6|refine zd ?_ GE101.out|refine zd ?_ GE102.out|refine zd ?_ GE104.out|refine zd ?_ GE107.out)|exact HB.out)) : p := h
theorem zz15 {p : Prop} (h : p := by first|exact HK.out.1|exact (show Kept w _ (fun k_=>P1_ k_) from by repeat (first|(with_reducible first|exact HK.out|apply Kept.alloc|apply Kept.drewN|apply Kept.drew|refine Kept.setCell ?_ (.inr GW101.out) _|refine Kept.setCell ?_ (.inr GW102.out) _)|exact HK.out)).1) : p := h
theorem zz14 {p : Prop} (h : p := by repeat (first|(with_reducible first|exact HB.out|apply z7|apply z2|apply z6|refine zd ?_ GE101.out|refine zd ?_ GE102.out|refine zd ?_ GE103.out|refine zd ?_ GE104.out|refine zd ?_ GE106.out)|exact HB.out)) : p := h
theorem zz13 {p : Prop} (h : p := by repeat (first|(with_reducible first|exact HK.out|apply Kept.alloc|apply Kept.drewN|apply Kept.drew|refine Kept.setCell ?_ (.inr GW101.out) _|refine Kept.setCell ?_ (.inr GW102.out) _|refine Kept.setCell ?_ (.inr GW104.out) _|refine Kept.setCell ?_ (.inr GW107.out) _)|exact HK.out)) : p := h
theorem zz12 {p : Prop} (h : p := by first|exact HK.out.1|exact (show Kept w _ (fun k_=>P1_ k_) from by repeat (first|(with_reducible first|exact HK.out|apply Kept.alloc|apply Kept.drewN|apply Kept.drew|refine Kept.setCell ?_ (.inr GW101.out) _|refine Kept.setCell ?_ (.inr GW102.out) _|refine Kept.setCell ?_ (.inr GW104.out) _)|exact HK.out)).1) : p := h
theorem zz11 {p : Prop} (h : p := by (with_reducible repeat (first|apply Kd.zC|apply Kd.zD|apply Kd.zO));exact (Kd.z16 (Kd.z2u (p:=⟨gb104,1,none⟩) (Kd.z2u (p:=⟨gb104,0,none⟩) (Kd.z16 HO_1.out (fun k_ hk=>(⟨hk,hk.2⟩ : _ ∧ k_ ≠ gb104))) (fun _ hk=>hk.2) (.int .u64 ((rd_T30 l2 x17_1).f0))) (fun _ hk=>hk.2) (.int .u64 ((rd_T30 l2 x17_1).f1))) (fun _ h_=>h_.1))) : p := h
theorem zz10 {p : Prop} (h : p := by (with_reducible repeat (first|refine zb ?_ _|refine zf ?_|refine za ?_ _));refine z1a ?_ NB102_104.out _;(with_reducible repeat (first|refine zb ?_ _|refine zf ?_|refine za ?_ _));refine z1a ?_ NB102_104.out _;(with_reducible repeat (first|refine zb ?_ _|refine zf ?_|refine za ?_ _));exact BK102.out) : p := h
theorem zz9 {p : Prop} (h : p := by (with_reducible repeat (first|refine zb ?_ _|refine zf ?_|refine za ?_ _));refine z1a ?_ NB101_104.out _;(with_reducible repeat (first|refine zb ?_ _|refine zf ?_|refine za ?_ _));refine z1a ?_ NB101_104.out _;(with_reducible repeat (first|refine zb ?_ _|refine zf ?_|refine za ?_ _));exact BK101.out) : p := h
theorem zz8 {p : Prop} (h : p := by (with_reducible repeat (first|refine zb ?_ _|refine zf ?_|refine za ?_ _));refine z1m (cs:=#[.int .u64 0,.int .u64 0]) ?_ 1 _ rfl;(with_reducible repeat (first|refine zb ?_ _|refine zf ?_|refine za ?_ _));refine z1m (cs:=#[.int .u64 0,.int .u64 0]) ?_ 0 _ rfl;(with_reducible repeat (first|refine zb ?_ _|refine zf ?_|refine za ?_ _));exact BK103.out) : p := h
theorem zz7 {p : Prop} (h : p := by (with_reducible repeat (first|refine zb ?_ _|refine zf ?_|refine za ?_ _));refine z1m (cs:=#[.int .u64 0,.int .u64 0]) ?_ 1 _ rfl;(with_reducible repeat (first|refine zb ?_ _|refine zf ?_|refine za ?_ _));refine z1m (cs:=#[.int .u64 0,.int .u64 0]) ?_ 0 _ rfl;(with_reducible repeat (first|refine zb ?_ _|refine zf ?_|refine za ?_ _));exact BK101.out) : p := h
theorem zz6 {p : Prop} (h : p := by (with_reducible repeat (first|refine zb ?_ _|refine zf ?_|refine za ?_ _));refine z1m (cs:=#[.int .u64 a2_0,.int .u64 0]) ?_ 1 _ rfl;(with_reducible repeat (first|refine zb ?_ _|refine zf ?_|refine za ?_ _));refine z1m (cs:=#[.int .u64 0,.int .u64 0]) ?_ 0 _ rfl;(with_reducible repeat (first|refine zb ?_ _|refine zf ?_|refine za ?_ _));exact BK104.out) : p := h
theorem zz5 {p : Prop} (h : p := by (with_reducible repeat (first|refine zb ?_ _|refine zf ?_|refine za ?_ _));refine z1m (cs:=#[.int .u64 ((rd_T30 l2 x17_1).f0),.int .u64 0]) ?_ 1 _ rfl;(with_reducible repeat (first|refine zb ?_ _|refine zf ?_|refine za ?_ _));refine z1m (cs:=#[.int .u64 0,.int .u64 0]) ?_ 0 _ rfl;(with_reducible repeat (first|refine zb ?_ _|refine zf ?_|refine za ?_ _));exact BK104.out) : p := h
theorem zz4 {p : Prop} (h : p := by (with_reducible repeat (first|refine zb ?_ _|refine zf ?_|refine za ?_ _));refine z1m (cs:=#[.int .u64 (Go.bits .xor .u64 a0_0 a1_0),.int .u64 0]) ?_ 1 _ rfl;(with_reducible repeat (first|refine zb ?_ _|refine zf ?_|refine za ?_ _));refine z1m (cs:=#[.int .u64 0,.int .u64 0]) ?_ 0 _ rfl;(with_reducible repeat (first|refine zb ?_ _|refine zf ?_|refine za ?_ _));exact BK103.out) : p := h
theorem zz3 {p : Prop} (h : p := by first|exact Nat.ne_of_lt (Nat.lt_of_lt_of_le zz70 GW109.out)|(rw [z1V];exact Nat.ne_of_lt (Nat.lt_of_lt_of_le zz70 GW109.out))|(show (Addr.add _ _).block ≠ _;rw [z1V];exact Nat.ne_of_lt (Nat.lt_of_lt_of_le zz70 GW109.out))|(dsimp only;exact Nat.ne_of_lt (Nat.lt_of_lt_of_le zz70 GW109.out))) : p := h
theorem zz2 {p : Prop} (h : p := by first|exact Nat.ne_of_lt (Nat.lt_of_lt_of_le zz69 GW109.out)|(rw [z1V];exact Nat.ne_of_lt (Nat.lt_of_lt_of_le zz69 GW109.out))|(show (Addr.add _ _).block ≠ _;rw [z1V];exact Nat.ne_of_lt (Nat.lt_of_lt_of_le zz69 GW109.out))|(dsimp only;exact Nat.ne_of_lt (Nat.lt_of_lt_of_le zz69 GW109.out))) : p := h
theorem zz1 {p : Prop} (h : p := by first|exact Nat.ne_of_lt (Nat.lt_of_lt_of_le zz68 GW109.out)|(rw [z1V];exact Nat.ne_of_lt (Nat.lt_of_lt_of_le zz68 GW109.out))|(show (Addr.add _ _).block ≠ _;rw [z1V];exact Nat.ne_of_lt (Nat.lt_of_lt_of_le zz68 GW109.out))|(dsimp only;exact Nat.ne_of_lt (Nat.lt_of_lt_of_le zz68 GW109.out))) : p := h
theorem zz0 {p : Prop} (h : p := by first|exact Nat.ne_of_lt (Nat.lt_of_lt_of_le zz67 GW109.out)|(rw [z1V];exact Nat.ne_of_lt (Nat.lt_of_lt_of_le zz67 GW109.out))|(show (Addr.add _ _).block ≠ _;rw [z1V];exact Nat.ne_of_lt (Nat.lt_of_lt_of_le zz67 GW109.out))|(dsimp only;exact Nat.ne_of_lt (Nat.lt_of_lt_of_le zz67 GW109.out))) : p := h
def errW : Option Int → Value
 | none=>.nilIface
 | some c=>.iface 0 (.int .i64 c)
theorem zi : errW none = .nilIface:=rfl
theorem zj (c : Int) : errW (some c) = .iface 0 (.int .i64 c):=rfl
theorem info3 : (Try.prog.info? 3).map (fun i=>(i.zero,i.size,i.bytes)) = some (some (.int .i64 0),1,8):=by kernel_rfl
theorem info4 : (Try.prog.info? 4).map (fun i=>(i.zero,i.size,i.bytes)) = some (some (.bool false),1,1):=by kernel_rfl
theorem info24 : (Try.prog.info? 24).map (fun i=>(i.zero,i.size,i.bytes)) = some (some (.slice none 0 0),1,24):=by kernel_rfl
theorem info28 : (Try.prog.info? 28).map (fun i=>(i.zero,i.size,i.bytes)) = some (some (.int .u64 0),1,8):=by kernel_rfl
theorem info30 : (Try.prog.info? 30).map (fun i=>(i.zero,i.size,i.bytes)) = some (some (.agg #[(.int .u64 0),(.int .u64 0)]),2,16):=by kernel_rfl
theorem info36 : (Try.prog.info? 36).map (fun i=>(i.zero,i.size,i.bytes)) = some (some (.slice none 0 0),1,24):=by kernel_rfl
theorem info40 : (Try.prog.info? 40).map (fun i=>(i.zero,i.size,i.bytes)) = some (some (.agg #[(.int .u64 0),(.int .u64 0)]),2,16):=by kernel_rfl
theorem info80 : (Try.prog.info? 80).map (fun i=>(i.zero,i.size,i.bytes)) = some (some (.slice none 0 0),1,24):=by kernel_rfl
theorem info127 : (Try.prog.info? 127).map (fun i=>(i.zero,i.size,i.bytes)) = some (some (.agg #[(.int .i64 0),(.int .i64 0),(.int .i64 0),(.int .u64 0),(.int .u64 0)]),5,40):=by kernel_rfl
-- the values' own types
structure S30 where
 f0 : Int
 f1 : Int
def z30 : S30:=⟨(0 : Int),(0 : Int)⟩
def k30 : Kd S30:=Kd.iso (Kd.pair (Kd.int .u64) (Kd.int .u64)) (fun x : S30=>(x.f0,x.f1))
theorem z2z : Kd.Heap k30:=Kd.z2y _ (Kd.z1Q (Kd.z1W .u64) (Kd.z1W .u64))
theorem z6a {w : World} {x : S30} {cs : List Value} (h : k30.K w x cs) : cs = [.int .u64 x.f0,.int .u64 x.f1]:=by
 obtain ⟨_,_,rfl,rfl,rfl⟩:=h
 exact rfl
theorem z1Y {w : World} {base : Nat} {ok : Nat → Prop} {x : S30} {cs : List Value} (h : k30.M w base ok x cs) : cs = [.int .u64 x.f0,.int .u64 x.f1]:=by
 obtain ⟨_,_,rfl,rfl,rfl⟩:=h
 exact rfl
theorem k30_mk (w : World) (x : S30)  : k30.K w x [.int .u64 x.f0,.int .u64 x.f1]:=⟨[.int .u64 x.f0],[.int .u64 x.f1],rfl,rfl,rfl⟩
theorem z2F (w : World) (base : Nat) (ok : Nat → Prop) (x : S30)  : k30.M w base ok x [.int .u64 x.f0,.int .u64 x.f1]:=⟨[.int .u64 x.f0],[.int .u64 x.f1],rfl,rfl,rfl⟩
theorem k30_mkF (W : World) (ok : Nat → Prop) (x : S30) : Kd.FK k30 W ok x [.int .u64 x.f0,.int .u64 x.f1]:=fun W2 _=>k30_mk W2 x
def rd_T30 (xs : List S30) (i : Int) : S30:=xs.getD i.toNat z30
theorem z2j {w : World} {A : Option Addr} {n : Nat} {xs : List S30} (h : Kd.C k30 w A n xs) (i : Int) (h0 : 0 ≤ i) (h1 : i < n) : ∃ ad , A = some ad ∧ w.cell? (ad.add (i.toNat * 2)) = some (.int .u64 (rd_T30 xs i).f0) ∧ w.cell? ⟨(ad.add (i.toNat * 2)).block,(ad.add (i.toNat * 2)).off + 1,none⟩ = some (.int .u64 (rd_T30 xs i).f1):=by
 obtain ⟨ad,c,e,_,hK,hc0⟩:=Kd.z3O h z30 i h0 h1
 have hc : ∀ j u,c[j]? = some u → w.cell? (ad.add (i.toNat * 2 + j)) = some u:=hc0
 obtain rfl:=z6a hK
 exact ⟨ad,e,hc 0 _ rfl,by rw [← z1G _ _ 1 zz80];exact hc 1 _ rfl⟩
def z2m (xs : List (List S30)) (i : Int) : (List S30):=xs.getD i.toNat ([] : List S30)
theorem at_L3 {w : World} {A : Option Addr} {n : Nat} {xs : List (List S30)} (h : Kd.C (Kd.slice 30 k30) w A n xs) (i : Int) (h0 : 0 ≤ i) (h1 : i < n) : ∃ ad A0 c0,A = some ad ∧ w.cell? (ad.add i.toNat) = some (.slice A0 (z2m xs i).length c0) ∧ (z2m xs i).length ≤ c0 ∧ k30.C w A0 (z2m xs i).length (z2m xs i):=by
 obtain ⟨ad,c,e,_,hK,hc0⟩:=Kd.z3O h ([] : List S30) i h0 h1
 have hc : ∀ j u,c[j]? = some u → w.cell? (ad.add (i.toNat * 1 + j)) = some u:=hc0
 obtain ⟨A0,c0,rfl,l0,g0⟩:=hK
 exact ⟨ad,A0,c0,e,by have hq:=hc 0 _ rfl;rwa [Nat.mul_one,Nat.add_zero] at hq,l0,g0⟩
structure S40 where
 f0 : Int
 f1 : Int
def z40 : S40:=⟨(0 : Int),(0 : Int)⟩
def k40 : Kd S40:=Kd.iso (Kd.pair (Kd.int .u64) (Kd.int .u64)) (fun x : S40=>(x.f0,x.f1))
theorem k40_heap : Kd.Heap k40:=Kd.z2y _ (Kd.z1Q (Kd.z1W .u64) (Kd.z1W .u64))
theorem z6b {w : World} {x : S40} {cs : List Value} (h : k40.K w x cs) : cs = [.int .u64 x.f0,.int .u64 x.f1]:=by
 obtain ⟨_,_,rfl,rfl,rfl⟩:=h
 exact rfl
theorem z7i {w : World} {base : Nat} {ok : Nat → Prop} {x : S40} {cs : List Value} (h : k40.M w base ok x cs) : cs = [.int .u64 x.f0,.int .u64 x.f1]:=by
 obtain ⟨_,_,rfl,rfl,rfl⟩:=h
 exact rfl
theorem k40_mk (w : World) (x : S40)  : k40.K w x [.int .u64 x.f0,.int .u64 x.f1]:=⟨[.int .u64 x.f0],[.int .u64 x.f1],rfl,rfl,rfl⟩
theorem z4b (w : World) (base : Nat) (ok : Nat → Prop) (x : S40)  : k40.M w base ok x [.int .u64 x.f0,.int .u64 x.f1]:=⟨[.int .u64 x.f0],[.int .u64 x.f1],rfl,rfl,rfl⟩
theorem k40_mkF (W : World) (ok : Nat → Prop) (x : S40) : Kd.FK k40 W ok x [.int .u64 x.f0,.int .u64 x.f1]:=fun W2 _=>k40_mk W2 x
def zT (xs : List S40) (i : Int) : S40:=xs.getD i.toNat z40
theorem z31 {w : World} {A : Option Addr} {n : Nat} {xs : List S40} (h : Kd.C k40 w A n xs) (i : Int) (h0 : 0 ≤ i) (h1 : i < n) : ∃ ad , A = some ad ∧ w.cell? (ad.add (i.toNat * 2)) = some (.int .u64 (zT xs i).f0) ∧ w.cell? ⟨(ad.add (i.toNat * 2)).block,(ad.add (i.toNat * 2)).off + 1,none⟩ = some (.int .u64 (zT xs i).f1):=by
 obtain ⟨ad,c,e,_,hK,hc0⟩:=Kd.z3O h z40 i h0 h1
 have hc : ∀ j u,c[j]? = some u → w.cell? (ad.add (i.toNat * 2 + j)) = some u:=hc0
 obtain rfl:=z6b hK
 exact ⟨ad,e,hc 0 _ rfl,by rw [← z1G _ _ 1 zz80];exact hc 1 _ rfl⟩
def rd_L6 (xs : List (List S40)) (i : Int) : (List S40):=xs.getD i.toNat ([] : List S40)
theorem at_L6 {w : World} {A : Option Addr} {n : Nat} {xs : List (List S40)} (h : Kd.C (Kd.slice 40 k40) w A n xs) (i : Int) (h0 : 0 ≤ i) (h1 : i < n) : ∃ ad A0 c0,A = some ad ∧ w.cell? (ad.add i.toNat) = some (.slice A0 (rd_L6 xs i).length c0) ∧ (rd_L6 xs i).length ≤ c0 ∧ k40.C w A0 (rd_L6 xs i).length (rd_L6 xs i):=by
 obtain ⟨ad,c,e,_,hK,hc0⟩:=Kd.z3O h ([] : List S40) i h0 h1
 have hc : ∀ j u,c[j]? = some u → w.cell? (ad.add (i.toNat * 1 + j)) = some u:=hc0
 obtain ⟨A0,c0,rfl,l0,g0⟩:=hK
 exact ⟨ad,A0,c0,e,by have hq:=hc 0 _ rfl;rwa [Nat.mul_one,Nat.add_zero] at hq,l0,g0⟩
def rd_L7 (xs : List (List (List S30))) (i : Int) : (List (List S30)):=xs.getD i.toNat ([] : List (List S30))
theorem at_L7 {w : World} {A : Option Addr} {n : Nat} {xs : List (List (List S30))} (h : Kd.C (Kd.slice 24 (Kd.slice 30 k30)) w A n xs) (i : Int) (h0 : 0 ≤ i) (h1 : i < n) : ∃ ad A0 c0,A = some ad ∧ w.cell? (ad.add i.toNat) = some (.slice A0 (rd_L7 xs i).length c0) ∧ (rd_L7 xs i).length ≤ c0 ∧ (Kd.slice 30 k30).C w A0 (rd_L7 xs i).length (rd_L7 xs i):=by
 obtain ⟨ad,c,e,_,hK,hc0⟩:=Kd.z3O h ([] : List (List S30)) i h0 h1
 have hc : ∀ j u,c[j]? = some u → w.cell? (ad.add (i.toNat * 1 + j)) = some u:=hc0
 obtain ⟨A0,c0,rfl,l0,g0⟩:=hK
 exact ⟨ad,A0,c0,e,by have hq:=hc 0 _ rfl;rwa [Nat.mul_one,Nat.add_zero] at hq,l0,g0⟩
structure S46 where
 f0 : (List S30)
 f1 : Int
def z46 : S46:=⟨([] : List S30),(0 : Int)⟩
def k46 : Kd S46:=Kd.iso (Kd.pair (Kd.slice 30 k30) (Kd.int .i64)) (fun x : S46=>(x.f0,x.f1))
theorem k46_heap : Kd.Heap k46:=Kd.z2y _ (Kd.z1Q (Kd.z2n 30 z2z) (Kd.z1W .i64))
theorem z55 {w : World} {x : S46} {cs : List Value} (h : k46.K w x cs) : ∃ A0 c0,cs = [.slice A0 x.f0.length c0,.int .i64 x.f1] ∧ x.f0.length ≤ c0 ∧ k30.C w A0 x.f0.length x.f0:=by
 obtain ⟨_,_,rfl,⟨A0,c0,rfl,l0,g0⟩,rfl⟩:=h
 exact ⟨A0,c0,rfl,l0,g0⟩
theorem k46_openM {w : World} {base : Nat} {ok : Nat → Prop} {x : S46} {cs : List Value} (h : k46.M w base ok x cs) : ∃ v0,cs = [v0,.int .i64 x.f1] ∧ k30.R 30 w base ok v0 x.f0:=by
 obtain ⟨_,_,rfl,⟨v0,rfl,g0⟩,rfl⟩:=h
 exact ⟨v0,rfl,g0⟩
theorem k46_mk (w : World) (x : S46) {A0 : Option Addr} {c0 : Nat} (l0 : x.f0.length ≤ c0) (g0 : k30.C w A0 x.f0.length x.f0) : k46.K w x [.slice A0 x.f0.length c0,.int .i64 x.f1]:=⟨[.slice A0 x.f0.length c0],[.int .i64 x.f1],rfl,⟨A0,c0,rfl,l0,g0⟩,rfl⟩
theorem k46_mkM (w : World) (base : Nat) (ok : Nat → Prop) (x : S46) {v0 : Value} (g0 : k30.R 30 w base ok v0 x.f0) : k46.M w base ok x [v0,.int .i64 x.f1]:=⟨[v0],[.int .i64 x.f1],rfl,⟨v0,rfl,g0⟩,rfl⟩
theorem k46_openF {W : World} {ok : Nat → Prop} {x : S46} {cs : List Value} (h : Kd.FK k46 W ok x cs) : ∃ A0 c0,cs = [.slice A0 x.f0.length c0,.int .i64 x.f1] ∧ x.f0.length ≤ c0 ∧ Kd.F k30 W ok A0 x.f0.length x.f0:=by
 obtain ⟨A0,c0,rfl,l0,_⟩:=z55 (Kd.z4D h)
 exact ⟨A0,c0,rfl,l0,(fun W' hW=>by obtain ⟨A0_,c0_,he,l0_,g0_⟩:=z55 (h W' hW);injection (Option.some.inj (show some (Value.slice A0 x.f0.length c0) = some (Value.slice A0_ x.f0.length c0_) from congrArg (fun l=>l[0]?) he)) with ha_ _ _;rw [ha_];exact g0_)⟩
theorem k46_mkF (W : World) (ok : Nat → Prop) (x : S46) {A0 : Option Addr} {c0 : Nat} (l0 : x.f0.length ≤ c0) (g0 : Kd.F k30 W ok A0 x.f0.length x.f0) : Kd.FK k46 W ok x [.slice A0 x.f0.length c0,.int .i64 x.f1]:=fun W2 hW=>k46_mk W2 x l0 (g0 W2 hW)
def z5A (xs : List S46) (i : Int) : S46:=xs.getD i.toNat z46
theorem at_T46 {w : World} {A : Option Addr} {n : Nat} {xs : List S46} (h : Kd.C k46 w A n xs) (i : Int) (h0 : 0 ≤ i) (h1 : i < n) : ∃ ad A0 c0,A = some ad ∧ w.cell? (ad.add (i.toNat * 2)) = some (.slice A0 (z5A xs i).f0.length c0) ∧ w.cell? ⟨(ad.add (i.toNat * 2)).block,(ad.add (i.toNat * 2)).off + 1,none⟩ = some (.int .i64 (z5A xs i).f1) ∧ (z5A xs i).f0.length ≤ c0 ∧ k30.C w A0 (z5A xs i).f0.length (z5A xs i).f0:=by
 obtain ⟨ad,c,e,_,hK,hc0⟩:=Kd.z3O h z46 i h0 h1
 have hc : ∀ j u,c[j]? = some u → w.cell? (ad.add (i.toNat * 2 + j)) = some u:=hc0
 obtain ⟨A0,c0,rfl,l0,g0⟩:=z55 hK
 exact ⟨ad,A0,c0,e,hc 0 _ rfl,by rw [← z1G _ _ 1 zz80];exact hc 1 _ rfl,l0,g0⟩
structure S119 where
 f0 : Int
 f1 : Int
 f2 : Int
 f3 : S30
def z119 : S119:=⟨(0 : Int),(0 : Int),(0 : Int),z30⟩
def k119 : Kd S119:=Kd.iso (Kd.pair (Kd.int .i64) (Kd.pair (Kd.int .i64) (Kd.pair (Kd.int .i64) k30))) (fun x : S119=>(x.f0,x.f1,x.f2,x.f3))
theorem k119_heap : Kd.Heap k119:=Kd.z2y _ (Kd.z1Q (Kd.z1W .i64) (Kd.z1Q (Kd.z1W .i64) (Kd.z1Q (Kd.z1W .i64) z2z)))
theorem z7g {w : World} {x : S119} {cs : List Value} (h : k119.K w x cs) : cs = [.int .i64 x.f0,.int .i64 x.f1,.int .i64 x.f2,.int .u64 x.f3.f0,.int .u64 x.f3.f1]:=by
 obtain ⟨_,_,rfl,rfl,⟨_,_,rfl,rfl,⟨_,_,rfl,rfl,s3⟩⟩⟩:=h
 obtain rfl:=z6a s3
 exact rfl
theorem k119_openM {w : World} {base : Nat} {ok : Nat → Prop} {x : S119} {cs : List Value} (h : k119.M w base ok x cs) : cs = [.int .i64 x.f0,.int .i64 x.f1,.int .i64 x.f2,.int .u64 x.f3.f0,.int .u64 x.f3.f1]:=by
 obtain ⟨_,_,rfl,rfl,⟨_,_,rfl,rfl,⟨_,_,rfl,rfl,s3⟩⟩⟩:=h
 obtain rfl:=z1Y s3
 exact rfl
theorem k119_mk (w : World) (x : S119)  : k119.K w x [.int .i64 x.f0,.int .i64 x.f1,.int .i64 x.f2,.int .u64 x.f3.f0,.int .u64 x.f3.f1]:=⟨[.int .i64 x.f0],[.int .i64 x.f1,.int .i64 x.f2,.int .u64 x.f3.f0,.int .u64 x.f3.f1],rfl,rfl,⟨[.int .i64 x.f1],[.int .i64 x.f2,.int .u64 x.f3.f0,.int .u64 x.f3.f1],rfl,rfl,⟨[.int .i64 x.f2],[.int .u64 x.f3.f0,.int .u64 x.f3.f1],rfl,rfl,(k30_mk w x.f3 )⟩⟩⟩
theorem k119_mkM (w : World) (base : Nat) (ok : Nat → Prop) (x : S119)  : k119.M w base ok x [.int .i64 x.f0,.int .i64 x.f1,.int .i64 x.f2,.int .u64 x.f3.f0,.int .u64 x.f3.f1]:=⟨[.int .i64 x.f0],[.int .i64 x.f1,.int .i64 x.f2,.int .u64 x.f3.f0,.int .u64 x.f3.f1],rfl,rfl,⟨[.int .i64 x.f1],[.int .i64 x.f2,.int .u64 x.f3.f0,.int .u64 x.f3.f1],rfl,rfl,⟨[.int .i64 x.f2],[.int .u64 x.f3.f0,.int .u64 x.f3.f1],rfl,rfl,(z2F w base ok x.f3 )⟩⟩⟩
theorem k119_mkF (W : World) (ok : Nat → Prop) (x : S119) : Kd.FK k119 W ok x [.int .i64 x.f0,.int .i64 x.f1,.int .i64 x.f2,.int .u64 x.f3.f0,.int .u64 x.f3.f1]:=fun W2 _=>k119_mk W2 x
def z4f (xs : List S119) (i : Int) : S119:=xs.getD i.toNat z119
theorem at_T119 {w : World} {A : Option Addr} {n : Nat} {xs : List S119} (h : Kd.C k119 w A n xs) (i : Int) (h0 : 0 ≤ i) (h1 : i < n) : ∃ ad , A = some ad ∧ w.cell? (ad.add (i.toNat * 5)) = some (.int .i64 (z4f xs i).f0) ∧ w.cell? ⟨(ad.add (i.toNat * 5)).block,(ad.add (i.toNat * 5)).off + 1,none⟩ = some (.int .i64 (z4f xs i).f1) ∧ w.cell? ⟨(ad.add (i.toNat * 5)).block,(ad.add (i.toNat * 5)).off + 2,none⟩ = some (.int .i64 (z4f xs i).f2) ∧ w.cell? ⟨(ad.add (i.toNat * 5)).block,(ad.add (i.toNat * 5)).off + 3,none⟩ = some (.int .u64 (z4f xs i).f3.f0) ∧ w.cell? ⟨(ad.add (i.toNat * 5)).block,(ad.add (i.toNat * 5)).off + 4,none⟩ = some (.int .u64 (z4f xs i).f3.f1):=by
 obtain ⟨ad,c,e,_,hK,hc0⟩:=Kd.z3O h z119 i h0 h1
 have hc : ∀ j u,c[j]? = some u → w.cell? (ad.add (i.toNat * 5 + j)) = some u:=hc0
 obtain rfl:=z7g hK
 exact ⟨ad,e,hc 0 _ rfl,by rw [← z1G _ _ 1 zz80];exact hc 1 _ rfl,by rw [← z1G _ _ 2 zz80];exact hc 2 _ rfl,by rw [← z1G _ _ 3 zz80];exact hc 3 _ rfl,by rw [← z1G _ _ 4 zz80];exact hc 4 _ rfl⟩
structure S127 where
 f0 : Int
 f1 : Int
 f2 : Int
 f3 : S40
def z127 : S127:=⟨(0 : Int),(0 : Int),(0 : Int),z40⟩
def k127 : Kd S127:=Kd.iso (Kd.pair (Kd.int .i64) (Kd.pair (Kd.int .i64) (Kd.pair (Kd.int .i64) k40))) (fun x : S127=>(x.f0,x.f1,x.f2,x.f3))
theorem k127_heap : Kd.Heap k127:=Kd.z2y _ (Kd.z1Q (Kd.z1W .i64) (Kd.z1Q (Kd.z1W .i64) (Kd.z1Q (Kd.z1W .i64) k40_heap)))
theorem z7h {w : World} {x : S127} {cs : List Value} (h : k127.K w x cs) : cs = [.int .i64 x.f0,.int .i64 x.f1,.int .i64 x.f2,.int .u64 x.f3.f0,.int .u64 x.f3.f1]:=by
 obtain ⟨_,_,rfl,rfl,⟨_,_,rfl,rfl,⟨_,_,rfl,rfl,s3⟩⟩⟩:=h
 obtain rfl:=z6b s3
 exact rfl
theorem k127_openM {w : World} {base : Nat} {ok : Nat → Prop} {x : S127} {cs : List Value} (h : k127.M w base ok x cs) : cs = [.int .i64 x.f0,.int .i64 x.f1,.int .i64 x.f2,.int .u64 x.f3.f0,.int .u64 x.f3.f1]:=by
 obtain ⟨_,_,rfl,rfl,⟨_,_,rfl,rfl,⟨_,_,rfl,rfl,s3⟩⟩⟩:=h
 obtain rfl:=z7i s3
 exact rfl
theorem k127_mk (w : World) (x : S127)  : k127.K w x [.int .i64 x.f0,.int .i64 x.f1,.int .i64 x.f2,.int .u64 x.f3.f0,.int .u64 x.f3.f1]:=⟨[.int .i64 x.f0],[.int .i64 x.f1,.int .i64 x.f2,.int .u64 x.f3.f0,.int .u64 x.f3.f1],rfl,rfl,⟨[.int .i64 x.f1],[.int .i64 x.f2,.int .u64 x.f3.f0,.int .u64 x.f3.f1],rfl,rfl,⟨[.int .i64 x.f2],[.int .u64 x.f3.f0,.int .u64 x.f3.f1],rfl,rfl,(k40_mk w x.f3 )⟩⟩⟩
theorem k127_mkM (w : World) (base : Nat) (ok : Nat → Prop) (x : S127)  : k127.M w base ok x [.int .i64 x.f0,.int .i64 x.f1,.int .i64 x.f2,.int .u64 x.f3.f0,.int .u64 x.f3.f1]:=⟨[.int .i64 x.f0],[.int .i64 x.f1,.int .i64 x.f2,.int .u64 x.f3.f0,.int .u64 x.f3.f1],rfl,rfl,⟨[.int .i64 x.f1],[.int .i64 x.f2,.int .u64 x.f3.f0,.int .u64 x.f3.f1],rfl,rfl,⟨[.int .i64 x.f2],[.int .u64 x.f3.f0,.int .u64 x.f3.f1],rfl,rfl,(z4b w base ok x.f3 )⟩⟩⟩
theorem k127_mkF (W : World) (ok : Nat → Prop) (x : S127) : Kd.FK k127 W ok x [.int .i64 x.f0,.int .i64 x.f1,.int .i64 x.f2,.int .u64 x.f3.f0,.int .u64 x.f3.f1]:=fun W2 _=>k127_mk W2 x
def z4g (xs : List S127) (i : Int) : S127:=xs.getD i.toNat z127
theorem at_T127 {w : World} {A : Option Addr} {n : Nat} {xs : List S127} (h : Kd.C k127 w A n xs) (i : Int) (h0 : 0 ≤ i) (h1 : i < n) : ∃ ad , A = some ad ∧ w.cell? (ad.add (i.toNat * 5)) = some (.int .i64 (z4g xs i).f0) ∧ w.cell? ⟨(ad.add (i.toNat * 5)).block,(ad.add (i.toNat * 5)).off + 1,none⟩ = some (.int .i64 (z4g xs i).f1) ∧ w.cell? ⟨(ad.add (i.toNat * 5)).block,(ad.add (i.toNat * 5)).off + 2,none⟩ = some (.int .i64 (z4g xs i).f2) ∧ w.cell? ⟨(ad.add (i.toNat * 5)).block,(ad.add (i.toNat * 5)).off + 3,none⟩ = some (.int .u64 (z4g xs i).f3.f0) ∧ w.cell? ⟨(ad.add (i.toNat * 5)).block,(ad.add (i.toNat * 5)).off + 4,none⟩ = some (.int .u64 (z4g xs i).f3.f1):=by
 obtain ⟨ad,c,e,_,hK,hc0⟩:=Kd.z3O h z127 i h0 h1
 have hc : ∀ j u,c[j]? = some u → w.cell? (ad.add (i.toNat * 5 + j)) = some u:=hc0
 obtain rfl:=z7h hK
 exact ⟨ad,e,hc 0 _ rfl,by rw [← z1G _ _ 1 zz80];exact hc 1 _ rfl,by rw [← z1G _ _ 2 zz80];exact hc 2 _ rfl,by rw [← z1G _ _ 3 zz80];exact hc 3 _ rfl,by rw [← z1G _ _ 4 zz80];exact hc 4 _ rfl⟩
structure S23 where
 f0 : Int
 f1 : Int
 f2 : Int
def z23 : S23:=⟨(0 : Int),(0 : Int),(0 : Int)⟩
def k23 : Kd S23:=Kd.iso (Kd.pair (Kd.int .i64) (Kd.pair (Kd.int .i64) (Kd.int .i64))) (fun x : S23=>(x.f0,x.f1,x.f2))
theorem k23_heap : Kd.Heap k23:=Kd.z2y _ (Kd.z1Q (Kd.z1W .i64) (Kd.z1Q (Kd.z1W .i64) (Kd.z1W .i64)))
theorem k23_open {w : World} {x : S23} {cs : List Value} (h : k23.K w x cs) : cs = [.int .i64 x.f0,.int .i64 x.f1,.int .i64 x.f2]:=by
 obtain ⟨_,_,rfl,rfl,⟨_,_,rfl,rfl,rfl⟩⟩:=h
 exact rfl
theorem k23_openM {w : World} {base : Nat} {ok : Nat → Prop} {x : S23} {cs : List Value} (h : k23.M w base ok x cs) : cs = [.int .i64 x.f0,.int .i64 x.f1,.int .i64 x.f2]:=by
 obtain ⟨_,_,rfl,rfl,⟨_,_,rfl,rfl,rfl⟩⟩:=h
 exact rfl
theorem k23_mk (w : World) (x : S23)  : k23.K w x [.int .i64 x.f0,.int .i64 x.f1,.int .i64 x.f2]:=⟨[.int .i64 x.f0],[.int .i64 x.f1,.int .i64 x.f2],rfl,rfl,⟨[.int .i64 x.f1],[.int .i64 x.f2],rfl,rfl,rfl⟩⟩
theorem k23_mkM (w : World) (base : Nat) (ok : Nat → Prop) (x : S23)  : k23.M w base ok x [.int .i64 x.f0,.int .i64 x.f1,.int .i64 x.f2]:=⟨[.int .i64 x.f0],[.int .i64 x.f1,.int .i64 x.f2],rfl,rfl,⟨[.int .i64 x.f1],[.int .i64 x.f2],rfl,rfl,rfl⟩⟩
theorem k23_mkF (W : World) (ok : Nat → Prop) (x : S23) : Kd.FK k23 W ok x [.int .i64 x.f0,.int .i64 x.f1,.int .i64 x.f2]:=fun W2 _=>k23_mk W2 x
def z7B (xs : List S23) (i : Int) : S23:=xs.getD i.toNat z23
theorem at_T23 {w : World} {A : Option Addr} {n : Nat} {xs : List S23} (h : Kd.C k23 w A n xs) (i : Int) (h0 : 0 ≤ i) (h1 : i < n) : ∃ ad , A = some ad ∧ w.cell? (ad.add (i.toNat * 3)) = some (.int .i64 (z7B xs i).f0) ∧ w.cell? ⟨(ad.add (i.toNat * 3)).block,(ad.add (i.toNat * 3)).off + 1,none⟩ = some (.int .i64 (z7B xs i).f1) ∧ w.cell? ⟨(ad.add (i.toNat * 3)).block,(ad.add (i.toNat * 3)).off + 2,none⟩ = some (.int .i64 (z7B xs i).f2):=by
 obtain ⟨ad,c,e,_,hK,hc0⟩:=Kd.z3O h z23 i h0 h1
 have hc : ∀ j u,c[j]? = some u → w.cell? (ad.add (i.toNat * 3 + j)) = some u:=hc0
 obtain rfl:=k23_open hK
 exact ⟨ad,e,hc 0 _ rfl,by rw [← z1G _ _ 1 zz80];exact hc 1 _ rfl,by rw [← z1G _ _ 2 zz80];exact hc 2 _ rfl⟩
def z6h (xs : List (List Bool)) (i : Int) : (List Bool):=xs.getD i.toNat ([] : List Bool)
theorem at_L12 {w : World} {A : Option Addr} {n : Nat} {xs : List (List Bool)} (h : Kd.C (Kd.slice 4 Kd.bool) w A n xs) (i : Int) (h0 : 0 ≤ i) (h1 : i < n) : ∃ ad A0 c0,A = some ad ∧ w.cell? (ad.add i.toNat) = some (.slice A0 (z6h xs i).length c0) ∧ (z6h xs i).length ≤ c0 ∧ Kd.bool.C w A0 (z6h xs i).length (z6h xs i):=by
 obtain ⟨ad,c,e,_,hK,hc0⟩:=Kd.z3O h ([] : List Bool) i h0 h1
 have hc : ∀ j u,c[j]? = some u → w.cell? (ad.add (i.toNat * 1 + j)) = some u:=hc0
 obtain ⟨A0,c0,rfl,l0,g0⟩:=hK
 exact ⟨ad,A0,c0,e,by have hq:=hc 0 _ rfl;rwa [Nat.mul_one,Nat.add_zero] at hq,l0,g0⟩
structure S71 where
 f0 : (List Bool)
 f1 : (List S30)
def z71 : S71:=⟨([] : List Bool),([] : List S30)⟩
def k71 : Kd S71:=Kd.iso (Kd.pair (Kd.slice 4 Kd.bool) (Kd.slice 30 k30)) (fun x : S71=>(x.f0,x.f1))
theorem k71_heap : Kd.Heap k71:=Kd.z2y _ (Kd.z1Q (Kd.z2n 4 Kd.z7b) (Kd.z2n 30 z2z))
theorem z3W {w : World} {x : S71} {cs : List Value} (h : k71.K w x cs) : ∃ A0 c0 A1 c1,cs = [.slice A0 x.f0.length c0,.slice A1 x.f1.length c1] ∧ x.f0.length ≤ c0 ∧ Kd.bool.C w A0 x.f0.length x.f0 ∧ x.f1.length ≤ c1 ∧ k30.C w A1 x.f1.length x.f1:=by
 obtain ⟨_,_,rfl,⟨A0,c0,rfl,l0,g0⟩,⟨A1,c1,rfl,l1,g1⟩⟩:=h
 exact ⟨A0,c0,A1,c1,rfl,l0,g0,l1,g1⟩
theorem k71_openM {w : World} {base : Nat} {ok : Nat → Prop} {x : S71} {cs : List Value} (h : k71.M w base ok x cs) : ∃ v0 v1,cs = [v0,v1] ∧ Kd.bool.R 4 w base ok v0 x.f0 ∧ k30.R 30 w base ok v1 x.f1:=by
 obtain ⟨_,_,rfl,⟨v0,rfl,g0⟩,⟨v1,rfl,g1⟩⟩:=h
 exact ⟨v0,v1,rfl,g0,g1⟩
theorem k71_mk (w : World) (x : S71) {A0 : Option Addr} {c0 : Nat} (l0 : x.f0.length ≤ c0) (g0 : Kd.bool.C w A0 x.f0.length x.f0) {A1 : Option Addr} {c1 : Nat} (l1 : x.f1.length ≤ c1) (g1 : k30.C w A1 x.f1.length x.f1) : k71.K w x [.slice A0 x.f0.length c0,.slice A1 x.f1.length c1]:=⟨[.slice A0 x.f0.length c0],[.slice A1 x.f1.length c1],rfl,⟨A0,c0,rfl,l0,g0⟩,⟨A1,c1,rfl,l1,g1⟩⟩
theorem k71_mkM (w : World) (base : Nat) (ok : Nat → Prop) (x : S71) {v0 : Value} (g0 : Kd.bool.R 4 w base ok v0 x.f0) {v1 : Value} (g1 : k30.R 30 w base ok v1 x.f1) : k71.M w base ok x [v0,v1]:=⟨[v0],[v1],rfl,⟨v0,rfl,g0⟩,⟨v1,rfl,g1⟩⟩
theorem k71_openF {W : World} {ok : Nat → Prop} {x : S71} {cs : List Value} (h : Kd.FK k71 W ok x cs) : ∃ A0 c0 A1 c1,cs = [.slice A0 x.f0.length c0,.slice A1 x.f1.length c1] ∧ x.f0.length ≤ c0 ∧ Kd.F Kd.bool W ok A0 x.f0.length x.f0 ∧ x.f1.length ≤ c1 ∧ Kd.F k30 W ok A1 x.f1.length x.f1:=by
 obtain ⟨A0,c0,A1,c1,rfl,l0,_,l1,_⟩:=z3W (Kd.z4D h)
 exact ⟨A0,c0,A1,c1,rfl,l0,(fun W' hW=>by obtain ⟨A0_,c0_,A1_,c1_,he,l0_,g0_,l1_,g1_⟩:=z3W (h W' hW);injection (Option.some.inj (show some (Value.slice A0 x.f0.length c0) = some (Value.slice A0_ x.f0.length c0_) from congrArg (fun l=>l[0]?) he)) with ha_ _ _;rw [ha_];exact g0_),l1,(fun W' hW=>by obtain ⟨A0_,c0_,A1_,c1_,he,l0_,g0_,l1_,g1_⟩:=z3W (h W' hW);injection (Option.some.inj (show some (Value.slice A1 x.f1.length c1) = some (Value.slice A1_ x.f1.length c1_) from congrArg (fun l=>l[1]?) he)) with ha_ _ _;rw [ha_];exact g1_)⟩
theorem k71_mkF (W : World) (ok : Nat → Prop) (x : S71) {A0 : Option Addr} {c0 : Nat} (l0 : x.f0.length ≤ c0) (g0 : Kd.F Kd.bool W ok A0 x.f0.length x.f0) {A1 : Option Addr} {c1 : Nat} (l1 : x.f1.length ≤ c1) (g1 : Kd.F k30 W ok A1 x.f1.length x.f1) : Kd.FK k71 W ok x [.slice A0 x.f0.length c0,.slice A1 x.f1.length c1]:=fun W2 hW=>k71_mk W2 x l0 (g0 W2 hW) l1 (g1 W2 hW)
def z3G (xs : List S71) (i : Int) : S71:=xs.getD i.toNat z71
theorem at_T71 {w : World} {A : Option Addr} {n : Nat} {xs : List S71} (h : Kd.C k71 w A n xs) (i : Int) (h0 : 0 ≤ i) (h1 : i < n) : ∃ ad A0 c0 A1 c1,A = some ad ∧ w.cell? (ad.add (i.toNat * 2)) = some (.slice A0 (z3G xs i).f0.length c0) ∧ w.cell? ⟨(ad.add (i.toNat * 2)).block,(ad.add (i.toNat * 2)).off + 1,none⟩ = some (.slice A1 (z3G xs i).f1.length c1) ∧ (z3G xs i).f0.length ≤ c0 ∧ Kd.bool.C w A0 (z3G xs i).f0.length (z3G xs i).f0 ∧ (z3G xs i).f1.length ≤ c1 ∧ k30.C w A1 (z3G xs i).f1.length (z3G xs i).f1:=by
 obtain ⟨ad,c,e,_,hK,hc0⟩:=Kd.z3O h z71 i h0 h1
 have hc : ∀ j u,c[j]? = some u → w.cell? (ad.add (i.toNat * 2 + j)) = some u:=hc0
 obtain ⟨A0,c0,A1,c1,rfl,l0,g0,l1,g1⟩:=z3W hK
 exact ⟨ad,A0,c0,A1,c1,e,hc 0 _ rfl,by rw [← z1G _ _ 1 zz80];exact hc 1 _ rfl,l0,g0,l1,g1⟩
structure S89 where
 f0 : (List S30)
 f1 : (List S30)
 f2 : (List S30)
def z89 : S89:=⟨([] : List S30),([] : List S30),([] : List S30)⟩
def k89 : Kd S89:=Kd.iso (Kd.pair (Kd.slice 30 k30) (Kd.pair (Kd.slice 30 k30) (Kd.slice 30 k30))) (fun x : S89=>(x.f0,x.f1,x.f2))
theorem k89_heap : Kd.Heap k89:=Kd.z2y _ (Kd.z1Q (Kd.z2n 30 z2z) (Kd.z1Q (Kd.z2n 30 z2z) (Kd.z2n 30 z2z)))
theorem z3q {w : World} {x : S89} {cs : List Value} (h : k89.K w x cs) : ∃ A0 c0 A1 c1 A2 c2,cs = [.slice A0 x.f0.length c0,.slice A1 x.f1.length c1,.slice A2 x.f2.length c2] ∧ x.f0.length ≤ c0 ∧ k30.C w A0 x.f0.length x.f0 ∧ x.f1.length ≤ c1 ∧ k30.C w A1 x.f1.length x.f1 ∧ x.f2.length ≤ c2 ∧ k30.C w A2 x.f2.length x.f2:=by
 obtain ⟨_,_,rfl,⟨A0,c0,rfl,l0,g0⟩,⟨_,_,rfl,⟨A1,c1,rfl,l1,g1⟩,⟨A2,c2,rfl,l2,g2⟩⟩⟩:=h
 exact ⟨A0,c0,A1,c1,A2,c2,rfl,l0,g0,l1,g1,l2,g2⟩
theorem k89_openM {w : World} {base : Nat} {ok : Nat → Prop} {x : S89} {cs : List Value} (h : k89.M w base ok x cs) : ∃ v0 v1 v2,cs = [v0,v1,v2] ∧ k30.R 30 w base ok v0 x.f0 ∧ k30.R 30 w base ok v1 x.f1 ∧ k30.R 30 w base ok v2 x.f2:=by
 obtain ⟨_,_,rfl,⟨v0,rfl,g0⟩,⟨_,_,rfl,⟨v1,rfl,g1⟩,⟨v2,rfl,g2⟩⟩⟩:=h
 exact ⟨v0,v1,v2,rfl,g0,g1,g2⟩
theorem k89_mk (w : World) (x : S89) {A0 : Option Addr} {c0 : Nat} (l0 : x.f0.length ≤ c0) (g0 : k30.C w A0 x.f0.length x.f0) {A1 : Option Addr} {c1 : Nat} (l1 : x.f1.length ≤ c1) (g1 : k30.C w A1 x.f1.length x.f1) {A2 : Option Addr} {c2 : Nat} (l2 : x.f2.length ≤ c2) (g2 : k30.C w A2 x.f2.length x.f2) : k89.K w x [.slice A0 x.f0.length c0,.slice A1 x.f1.length c1,.slice A2 x.f2.length c2]:=⟨[.slice A0 x.f0.length c0],[.slice A1 x.f1.length c1,.slice A2 x.f2.length c2],rfl,⟨A0,c0,rfl,l0,g0⟩,⟨[.slice A1 x.f1.length c1],[.slice A2 x.f2.length c2],rfl,⟨A1,c1,rfl,l1,g1⟩,⟨A2,c2,rfl,l2,g2⟩⟩⟩
theorem k89_mkM (w : World) (base : Nat) (ok : Nat → Prop) (x : S89) {v0 : Value} (g0 : k30.R 30 w base ok v0 x.f0) {v1 : Value} (g1 : k30.R 30 w base ok v1 x.f1) {v2 : Value} (g2 : k30.R 30 w base ok v2 x.f2) : k89.M w base ok x [v0,v1,v2]:=⟨[v0],[v1,v2],rfl,⟨v0,rfl,g0⟩,⟨[v1],[v2],rfl,⟨v1,rfl,g1⟩,⟨v2,rfl,g2⟩⟩⟩
theorem k89_openF {W : World} {ok : Nat → Prop} {x : S89} {cs : List Value} (h : Kd.FK k89 W ok x cs) : ∃ A0 c0 A1 c1 A2 c2,cs = [.slice A0 x.f0.length c0,.slice A1 x.f1.length c1,.slice A2 x.f2.length c2] ∧ x.f0.length ≤ c0 ∧ Kd.F k30 W ok A0 x.f0.length x.f0 ∧ x.f1.length ≤ c1 ∧ Kd.F k30 W ok A1 x.f1.length x.f1 ∧ x.f2.length ≤ c2 ∧ Kd.F k30 W ok A2 x.f2.length x.f2:=by
 obtain ⟨A0,c0,A1,c1,A2,c2,rfl,l0,_,l1,_,l2,_⟩:=z3q (Kd.z4D h)
 exact ⟨A0,c0,A1,c1,A2,c2,rfl,l0,(fun W' hW=>by obtain ⟨A0_,c0_,A1_,c1_,A2_,c2_,he,l0_,g0_,l1_,g1_,l2_,g2_⟩:=z3q (h W' hW);injection (Option.some.inj (show some (Value.slice A0 x.f0.length c0) = some (Value.slice A0_ x.f0.length c0_) from congrArg (fun l=>l[0]?) he)) with ha_ _ _;rw [ha_];exact g0_),l1,(fun W' hW=>by obtain ⟨A0_,c0_,A1_,c1_,A2_,c2_,he,l0_,g0_,l1_,g1_,l2_,g2_⟩:=z3q (h W' hW);injection (Option.some.inj (show some (Value.slice A1 x.f1.length c1) = some (Value.slice A1_ x.f1.length c1_) from congrArg (fun l=>l[1]?) he)) with ha_ _ _;rw [ha_];exact g1_),l2,(fun W' hW=>by obtain ⟨A0_,c0_,A1_,c1_,A2_,c2_,he,l0_,g0_,l1_,g1_,l2_,g2_⟩:=z3q (h W' hW);injection (Option.some.inj (show some (Value.slice A2 x.f2.length c2) = some (Value.slice A2_ x.f2.length c2_) from congrArg (fun l=>l[2]?) he)) with ha_ _ _;rw [ha_];exact g2_)⟩
theorem k89_mkF (W : World) (ok : Nat → Prop) (x : S89) {A0 : Option Addr} {c0 : Nat} (l0 : x.f0.length ≤ c0) (g0 : Kd.F k30 W ok A0 x.f0.length x.f0) {A1 : Option Addr} {c1 : Nat} (l1 : x.f1.length ≤ c1) (g1 : Kd.F k30 W ok A1 x.f1.length x.f1) {A2 : Option Addr} {c2 : Nat} (l2 : x.f2.length ≤ c2) (g2 : Kd.F k30 W ok A2 x.f2.length x.f2) : Kd.FK k89 W ok x [.slice A0 x.f0.length c0,.slice A1 x.f1.length c1,.slice A2 x.f2.length c2]:=fun W2 hW=>k89_mk W2 x l0 (g0 W2 hW) l1 (g1 W2 hW) l2 (g2 W2 hW)
def z2U (xs : List S89) (i : Int) : S89:=xs.getD i.toNat z89
theorem at_T89 {w : World} {A : Option Addr} {n : Nat} {xs : List S89} (h : Kd.C k89 w A n xs) (i : Int) (h0 : 0 ≤ i) (h1 : i < n) : ∃ ad A0 c0 A1 c1 A2 c2,A = some ad ∧ w.cell? (ad.add (i.toNat * 3)) = some (.slice A0 (z2U xs i).f0.length c0) ∧ w.cell? ⟨(ad.add (i.toNat * 3)).block,(ad.add (i.toNat * 3)).off + 1,none⟩ = some (.slice A1 (z2U xs i).f1.length c1) ∧ w.cell? ⟨(ad.add (i.toNat * 3)).block,(ad.add (i.toNat * 3)).off + 2,none⟩ = some (.slice A2 (z2U xs i).f2.length c2) ∧ (z2U xs i).f0.length ≤ c0 ∧ k30.C w A0 (z2U xs i).f0.length (z2U xs i).f0 ∧ (z2U xs i).f1.length ≤ c1 ∧ k30.C w A1 (z2U xs i).f1.length (z2U xs i).f1 ∧ (z2U xs i).f2.length ≤ c2 ∧ k30.C w A2 (z2U xs i).f2.length (z2U xs i).f2:=by
 obtain ⟨ad,c,e,_,hK,hc0⟩:=Kd.z3O h z89 i h0 h1
 have hc : ∀ j u,c[j]? = some u → w.cell? (ad.add (i.toNat * 3 + j)) = some u:=hc0
 obtain ⟨A0,c0,A1,c1,A2,c2,rfl,l0,g0,l1,g1,l2,g2⟩:=z3q hK
 exact ⟨ad,A0,c0,A1,c1,A2,c2,e,hc 0 _ rfl,by rw [← z1G _ _ 1 zz80];exact hc 1 _ rfl,by rw [← z1G _ _ 2 zz80];exact hc 2 _ rfl,l0,g0,l1,g1,l2,g2⟩
end Go.Proofs.Ytkhmpaooinpfoaa.P
namespace Go.Proofs.Ytkhmpaooinpfoaa.P
open Go.RowKit Go.Proofs.YtkhmpaooinpfoaaW.PrintWords Go.Proofs.YtkhmpaooinpfoaaW.PrintLast Go.Proofs.YtkhmpaooinpfoaaW.PrintMore
attribute [local go_sem] z12 z14 z1b z1c zW zX z13 z15   -- for this text's walks alone
set_option linter.unusedVariables false
set_option linter.unusedSimpArgs false
def zs.l0 : Nat → List (S30) → List (S40) → Int → Option ((List (S40)))
 | 0,_,_,_=>none
 | k + 1,x0,x3,x4=>if x4 < (x0.length : Int) then (if 0 ≤ x4 then (if x3.length < 8796093022208 then (zs.l0 k x0 (x3 ++ [(⟨(rd_T30 x0 x4).f0,(rd_T30 x0 x4).f1⟩ : S40)]) (wrap64 (x4 + 1))) else (none)) else (none)) else (some x3)
def zs.f (k : Nat) (l0 : List (S30)) : Option ((List (S40))):=zs.l0 k l0 ([] : List (S40)) 0
theorem zs.z17 : ∀ k,(∀ y0 y1 y2,LeO (zs.l0 k y0 y1 y2) (zs.l0 (k + 1) y0 y1 y2))
 | 0=>fun _ _ _ r h=>by simp [zs.l0] at h
 | k + 1=>by
  have ih0:=zs.z17 k
  · intro y0 y1 y2
    unfold zs.l0
    repeat' first
    | (with_reducible exact ih0 _ _ _)
    | (with_reducible exact LeO.refl _)
    | (with_reducible exact LeO.none _)
    | (with_reducible refine LeO.ite ?_ ?_)
    | (with_reducible refine LeO.bind ?_ (fun _=>?_))
    | exact ih0 _ _ _
    | exact LeO.none _
    | refine LeO.ite ?_ ?_
    | refine LeO.bind ?_ (fun _=>?_)
theorem zs.mono : ∀ a0 k,LeO (zs.f k a0) (zs.f (k + 1) a0):=by
 intro a0 k
 have ih0:=zs.z17 k
 unfold zs.f
 repeat' first
  | (with_reducible exact ih0 _ _ _)
  | (with_reducible exact LeO.refl _)
  | (with_reducible exact LeO.none _)
  | (with_reducible refine LeO.ite ?_ ?_)
  | (with_reducible refine LeO.bind ?_ (fun _=>?_))
  | exact ih0 _ _ _
  | exact LeO.none _
  | refine LeO.ite ?_ ?_
  | refine LeO.bind ?_ (fun _=>?_)
set_option maxHeartbeats 8000000 in
set_option maxRecDepth 100000 in
theorem zs.calls (k : Nat) (A0 : Option Addr) (c0 : Nat) (l0 : List (S30)) (r : List (S40)) (w : World) (hr0 : Kd.C k30 w A0 l0.length l0) (hc0 : l0.length ≤ c0) (h : zs.f k l0 = some r) :
 Calls Try.prog 14 #[.slice A0 l0.length c0] w fun e w'=>∃ v0_ : Value,e = .returned (v0_) ∧ Kd.R k40 40 w' w.heap.size (fun _=>True) v0_ r ∧ Below w.heap.size w w':=by
 have hu30:=Try.underlying30
 have HR0:=z1.mk hr0
 have HC0:=z1.mk hc0
 clear hr0 hc0
 have HB:=z1.mk (Below.refl w.heap.size w)
 have H : (zs.l0 k l0 ([] : List (S40)) 0) = some r:=h
 clear h
 have H':=z1.mk H
 clear H
 go_enter Try.func14,Try.ntmps14
 go_wp2
 go_loopg [3,4] k (fun kq v3 v4 w'=>∃ (x3_1 : List (S40)) (x4_1 : Int),v4 = .int .i64 x4_1 ∧ z1 (zs.l0 kq l0 x3_1 x4_1 = some r) ∧ z1 (kq ≤ k) ∧ z1 (Kd.R k40 40 w' w.heap.size (fun _=>True) v3 x3_1) ∧ z1 (Below w.heap.size w w'))
 case atStart=>exact ⟨(([] : List (S40))),(0),zz75,H',⟨Nat.le_refl _⟩,⟨by first|exact Kd.z3f _ _ _ _ _|exact Kd.z3P _ _ _ _ _|exact Kd.z3S _ _ _ _ _|exact Kd.z3Q _ _ _ _ _|exact Kd.z3R _ _ _ _ _⟩,⟨by repeat (first|(with_reducible first|exact HB.out|apply z7|apply z2|apply z6)|exact HB.out)⟩⟩
 case round =>
  clear H'
  (try clear c1)
  obtain ⟨x3_1,x4_1,rfl,HA,HK1,HO_3,HB⟩:=hrel
  cases gk with
  | zero=>exact absurd HA.out (by simp [zs.l0])
  | succ k1 =>
   have H:=HA.out
   clear HA
   simp only [zs.l0] at H
   by_cases c2 : x4_1 < (l0.length : Int)
   rotate_left
   · rw [if_neg c2] at H
     have c2b0 : decide (x4_1 < (l0.length : Int)) = false:=decide_eq_false c2
     clear c2
     obtain rfl:=Option.some.inj H
     go_wp2
     go_ret
     exact ⟨_,by first|rfl|(simp [zi,zj] <;> rfl)|(simp [*,zi,zj] <;> rfl),by (with_reducible repeat (first|apply Kd.zC|apply Kd.zD|apply Kd.zO));exact HO_3.out,by repeat (first|(with_reducible first|exact HB.out|apply z7|apply z2|apply z6)|exact HB.out)⟩
   rw [if_pos c2] at H
   have c2b0 : decide (x4_1 < (l0.length : Int)) = true:=decide_eq_true c2
   clear c2
   by_cases c3 : 0 ≤ x4_1
   rotate_left
   · rw [if_neg c3] at H
     exact absurd H zz81
   rw [if_pos c3] at H
   have c3b0 : decide (0 ≤ x4_1) = true:=decide_eq_true c3
   clear c3
   by_cases c4 : x3_1.length < 8796093022208
   rotate_left
   · rw [if_neg c4] at H
     exact absurd H zz81
   rw [if_pos c4] at H
   have LMc4:=z1.mk c4
   clear c4
   obtain ⟨y102,hy102⟩ : ∃ y_ : List (S40),y_ = (x3_1 ++ [(⟨(rd_T30 l0 x4_1).f0,(rd_T30 l0 x4_1).f1⟩ : S40)]):=⟨_,rfl⟩
   replace H : (zs.l0 k1 l0 y102 (wrap64 (x4_1 + 1))) = some r:=by first|(rw [hy102];with_reducible exact H)|(have H2_:=(Option.bind_some _ _).symm.trans H;rw [hy102];with_reducible exact H2_)|(have H2_:=(Option.bind_some _ _).symm.trans H;with_reducible exact H2_)|with_reducible exact H|(rw [hy102];exact H)|exact H
   have Ny102:=z1.mk hy102
   clear hy102
   have H':=z1.mk H
   clear H
   have p101 : 0 ≤ (x4_1 : Int):=of_decide_eq_true zz74
   have q101 : x4_1 < (l0.length : Int):=of_decide_eq_true zz74
   obtain ⟨ad101,e101,hx101_0,hx101_1⟩:=z2j HR0.out x4_1 p101 q101
   cases e101
   replace hx101_0:=(HB.out.cell (World.block_lt_of_cell? w _ hx101_0)).trans hx101_0
   replace hx101_1:=(HB.out.cell (World.block_lt_of_cell? w _ hx101_1)).trans hx101_1
   replace p101:=eq_true p101
   replace q101:=eq_true q101
   go_wp2_with (first|((with_reducible refine z2k (b:=.append) (xs:=#[.tmp 11,.tmp 16]) rfl ?_);at_builtin;refine Kd.z3T k40 (w0:=w) w.heap.size rfl (.tmp 11) (.tmp 16) 36 40 (.agg #[(.int .u64 0),(.int .u64 0)]) 16 rfl Try.underlying36 info40 rfl zz79 zz80 u3 x3_1 (⟨(rd_T30 l0 x4_1).f0,(rd_T30 l0 x4_1).f1⟩ : S40) [.int .u64 ((rd_T30 l0 x4_1).f0),.int .u64 ((rd_T30 l0 x4_1).f1)] (fun _=>True) (fun _=>False) rfl rfl ?aP (fun _ hk=>hk.elim) ?aF ?aO ?aB ?aS ?aL ?_;(case aP=>exact z4b _ _ _ (⟨(rd_T30 l0 x4_1).f0,(rd_T30 l0 x4_1).f1⟩ : S40));(case aB=>exact zz28);(case aF=>exact (fun _ _=>trivial));(case aO=>exact (by (with_reducible repeat (first|apply Kd.zC|apply Kd.zD|apply Kd.zO));exact HO_3.out));(case aS=>exact (z5 zz28));(case aL=>have:=LMc4.out;omega);intro v103 w5 ho hb hg hat;rw [← Ny102.out] at ho;have n0_:=z1.mk (hb);have n1_:=z1.mk (ho);clear HB;clear HO_3;have HB:=n0_;have HO104:=n1_;clear n0_ n1_;clear ho hb hg hat))
   go_roundg k1
   case measure=>have:=HK1.out;omega
   case rel=>exact ⟨(y102),(wrap64 (x4_1 + 1)),zz75,H',⟨by have:=HK1.out;omega⟩,⟨by (with_reducible repeat (first|apply Kd.zC|apply Kd.zD|apply Kd.zO));exact HO104.out⟩,⟨by repeat (first|(with_reducible first|exact HB.out|apply z7|apply z2|apply z6)|exact HB.out)⟩⟩
end Go.Proofs.Ytkhmpaooinpfoaa.P
namespace Go.Proofs.Ytkhmpaooinpfoaa.P
open Go.RowKit Go.Proofs.YtkhmpaooinpfoaaW.PrintWords Go.Proofs.YtkhmpaooinpfoaaW.PrintLast Go.Proofs.YtkhmpaooinpfoaaW.PrintMore
attribute [local go_sem] z12 z14 z1b z1c zW zX z13 z15   -- for this text's walks alone
set_option linter.unusedVariables false
set_option linter.unusedSimpArgs false
theorem eqA40 (d : Nat) (w : World) (x0 y0 : Int) (x1 y1 : Int) :
 (Op.equalIn (d + 2) 40 (.agg #[.int .u64 x0,.int .u64 x1]) (.agg #[.int .u64 y0,.int .u64 y1])).run Try.prog w = .ok (x0 == y0 && (x1 == y1)) w:=by
 refine eqA_of Try.underlying40 zz78 ?_
 refine z66 zz82 zz76 zz76 (by go_simp) ?_
 exact z67 zz82 zz76 zz76 (by go_simp)
end Go.Proofs.Ytkhmpaooinpfoaa.P
namespace Go.Proofs.Ytkhmpaooinpfoaa.P
open Go.RowKit Go.Proofs.YtkhmpaooinpfoaaW.PrintWords Go.Proofs.YtkhmpaooinpfoaaW.PrintLast Go.Proofs.YtkhmpaooinpfoaaW.PrintMore
attribute [local go_sem] z12 z14 z1b z1c zW zX z13 z15   -- for this text's walks alone
set_option linter.unusedVariables false
set_option linter.unusedSimpArgs false
attribute [local go_sem high] eqA40
def zo.l0 : Nat → List (S30) → List (S40) → Int → Option (Bool)
 | 0,_,_,_=>none
 | k + 1,x0,x1,x5=>if x5 < (x0.length : Int) then (if 0 ≤ x5 then (if x5 < (x1.length : Int) then (if (!(((rd_T30 x0 x5).f0) == ((zT x1 x5).f0)) || (!(((rd_T30 x0 x5).f1) == ((zT x1 x5).f1)))) = true then (some false) else (zo.l0 k x0 x1 (wrap64 (x5 + 1)))) else (none)) else (none)) else (some true)
def zo.f (k : Nat) (l0 : List (S30)) (l1 : List (S40)) : Option (Bool):=if (l0.length : Int) = (l1.length : Int) then (zo.l0 k l0 l1 0) else (some false)
theorem zo.z17 : ∀ k,(∀ y0 y1 y2,LeO (zo.l0 k y0 y1 y2) (zo.l0 (k + 1) y0 y1 y2))
 | 0=>fun _ _ _ r h=>by simp [zo.l0] at h
 | k + 1=>by
  have ih0:=zo.z17 k
  · intro y0 y1 y2
    unfold zo.l0
    repeat' first
    | (with_reducible exact ih0 _ _ _)
    | (with_reducible exact LeO.refl _)
    | (with_reducible exact LeO.none _)
    | (with_reducible refine LeO.ite ?_ ?_)
    | (with_reducible refine LeO.bind ?_ (fun _=>?_))
    | exact ih0 _ _ _
    | exact LeO.none _
    | refine LeO.ite ?_ ?_
    | refine LeO.bind ?_ (fun _=>?_)
theorem zo.mono : ∀ a0 a1 k,LeO (zo.f k a0 a1) (zo.f (k + 1) a0 a1):=by
 intro a0 a1 k
 have ih0:=zo.z17 k
 unfold zo.f
 repeat' first
  | (with_reducible exact ih0 _ _ _)
  | (with_reducible exact LeO.refl _)
  | (with_reducible exact LeO.none _)
  | (with_reducible refine LeO.ite ?_ ?_)
  | (with_reducible refine LeO.bind ?_ (fun _=>?_))
  | exact ih0 _ _ _
  | exact LeO.none _
  | refine LeO.ite ?_ ?_
  | refine LeO.bind ?_ (fun _=>?_)
set_option maxHeartbeats 8000000 in
set_option maxRecDepth 100000 in
theorem zo.calls (k : Nat) (A0 : Option Addr) (c0 : Nat) (l0 : List (S30)) (A1 : Option Addr) (c1 : Nat) (l1 : List (S40)) (r : Bool) (w : World) (hr0 : Kd.C k30 w A0 l0.length l0) (hc0 : l0.length ≤ c0) (hr1 : Kd.C k40 w A1 l1.length l1) (hc1 : l1.length ≤ c1) (h : zo.f k l0 l1 = some r) :
 Calls Try.prog 25 #[.slice A0 l0.length c0,.slice A1 l1.length c1] w fun e w'=>e = .returned (.bool r) ∧ Drawn0 w w':=by
 have hu30:=Try.underlying30
 have hu40:=Try.underlying40
 have HR0:=z1.mk hr0
 have HC0:=z1.mk hc0
 clear hr0 hc0
 have HR1:=z1.mk hr1
 have HC1:=z1.mk hc1
 clear hr1 hc1
 have H : (if (l0.length : Int) = (l1.length : Int) then (zo.l0 k l0 l1 0) else (some false)) = some r:=h
 clear h
 by_cases c3 : (l0.length : Int) = (l1.length : Int)
 rotate_left
 · rw [if_neg c3] at H
   have c3b0 : ((l0.length : Int) == (l1.length : Int)) = false:=beq_eq_false_iff_ne.mpr c3
   have c3b1 : ((l0.length : Int) != (l1.length : Int)) = true:=bne_iff_ne.mpr c3
   have c3b2 : (l0.length == l1.length) = false:=by first|simpa using c3|(simp at c3 ⊢;omega)
   obtain rfl:=Option.some.inj H
   go_enter Try.func25,Try.ntmps25
   go_wp2
   repeat (go_quiet (fail);try go_wp2)
   go_ret
   exact ⟨by first|rfl|(simp;done)|(simp [*];done),by repeat (first|exact Drawn0.refl _|apply Drawn0.step)⟩
 rw [if_pos c3] at H
 have c3b0 : ((l0.length : Int) == (l1.length : Int)) = true:=beq_iff_eq.mpr c3
 have c3b1 : ((l0.length : Int) != (l1.length : Int)) = false:=bne_eq_false_iff_eq.mpr c3
 have c3b2 : (l0.length == l1.length) = true:=by first|simpa using c3|(simp at c3 ⊢;omega)
 clear c3
 have H':=z1.mk H
 clear H
 go_enter Try.func25,Try.ntmps25
 go_wp2
 repeat (go_quiet (fail);try go_wp2)
 go_loopg [5] k (fun kq v5 w'=>∃ (x5_1 : Int),v5 = .int .i64 x5_1 ∧ z1 (zo.l0 kq l0 l1 x5_1 = some r) ∧ z1 (kq ≤ k) ∧ Drawn0 w w')
 case atStart=>exact ⟨(0),zz75,H',⟨Nat.le_refl _⟩,by repeat (first|exact Drawn0.refl _|apply Drawn0.step)⟩
 case round =>
  clear H'
  (try clear c1);(try clear c2);(try clear p2);(try clear c3);(try clear c3b0);(try clear c3b1);(try clear c3b2)
  obtain ⟨x5_1,rfl,HA,HK1,⟨m1,rfl⟩⟩:=hrel
  cases gk with
  | zero=>exact absurd HA.out (by simp [zo.l0])
  | succ k1 =>
   have H:=HA.out
   clear HA
   simp only [zo.l0] at H
   by_cases c4 : x5_1 < (l0.length : Int)
   rotate_left
   · rw [if_neg c4] at H
     have c4b0 : decide (x5_1 < (l0.length : Int)) = false:=decide_eq_false c4
     clear c4
     obtain rfl:=Option.some.inj H
     go_wp2
     repeat (go_quiet (fail);try go_wp2)
     go_ret
     exact ⟨by first|rfl|(simp;done)|(simp [*];done),by repeat (first|exact Drawn0.refl _|apply Drawn0.step)⟩
   rw [if_pos c4] at H
   have c4b0 : decide (x5_1 < (l0.length : Int)) = true:=decide_eq_true c4
   clear c4
   by_cases c5 : 0 ≤ x5_1
   rotate_left
   · rw [if_neg c5] at H
     exact absurd H zz81
   rw [if_pos c5] at H
   have c5b0 : decide (0 ≤ x5_1) = true:=decide_eq_true c5
   clear c5
   by_cases c6 : x5_1 < (l1.length : Int)
   rotate_left
   · rw [if_neg c6] at H
     exact absurd H zz81
   rw [if_pos c6] at H
   have c6b0 : decide (x5_1 < (l1.length : Int)) = true:=decide_eq_true c6
   clear c6
   by_cases c7 : (!(((rd_T30 l0 x5_1).f0) == ((zT l1 x5_1).f0)) || (!(((rd_T30 l0 x5_1).f1) == ((zT l1 x5_1).f1)))) = true
   · rw [if_pos c7] at H
     have c7b0 : (!(((rd_T30 l0 x5_1).f0) == ((zT l1 x5_1).f0)) || (!(((rd_T30 l0 x5_1).f1) == ((zT l1 x5_1).f1)))) = true:=c7
     clear c7
     obtain rfl:=Option.some.inj H
     have p101 : 0 ≤ (x5_1 : Int):=of_decide_eq_true zz74
     have q101 : x5_1 < (l0.length : Int):=of_decide_eq_true zz74
     obtain ⟨ad101,e101,hx101_0,hx101_1⟩:=z2j HR0.out x5_1 p101 q101
     cases e101
     replace p101:=eq_true p101
     replace q101:=eq_true q101
     have p102 : 0 ≤ (x5_1 : Int):=of_decide_eq_true zz74
     have q102 : x5_1 < (l1.length : Int):=of_decide_eq_true zz74
     obtain ⟨ad102,e102,hx102_0,hx102_1⟩:=z31 HR1.out x5_1 p102 q102
     cases e102
     replace p102:=eq_true p102
     replace q102:=eq_true q102
     go_wp2
     repeat (go_quiet (fail);try go_wp2)
     go_ret
     exact ⟨by first|rfl|(simp;done)|(simp [*];done),by repeat (first|exact Drawn0.refl _|apply Drawn0.step)⟩
   rw [if_neg c7] at H
   have c7b0 : (!(((rd_T30 l0 x5_1).f0) == ((zT l1 x5_1).f0)) || (!(((rd_T30 l0 x5_1).f1) == ((zT l1 x5_1).f1)))) = false:=by simpa using c7
   clear c7
   have H':=z1.mk H
   clear H
   have p101 : 0 ≤ (x5_1 : Int):=of_decide_eq_true zz74
   have q101 : x5_1 < (l0.length : Int):=of_decide_eq_true zz74
   obtain ⟨ad101,e101,hx101_0,hx101_1⟩:=z2j HR0.out x5_1 p101 q101
   cases e101
   replace p101:=eq_true p101
   replace q101:=eq_true q101
   have p102 : 0 ≤ (x5_1 : Int):=of_decide_eq_true zz74
   have q102 : x5_1 < (l1.length : Int):=of_decide_eq_true zz74
   obtain ⟨ad102,e102,hx102_0,hx102_1⟩:=z31 HR1.out x5_1 p102 q102
   cases e102
   replace p102:=eq_true p102
   replace q102:=eq_true q102
   go_wp2
   repeat (go_quiet (fail);try go_wp2)
   go_roundg k1
   case measure=>have:=HK1.out;omega
   case rel=>exact ⟨(wrap64 (x5_1 + 1)),zz75,H',⟨by have:=HK1.out;omega⟩,by repeat (first|exact Drawn0.refl _|apply Drawn0.step)⟩
end Go.Proofs.Ytkhmpaooinpfoaa.P
namespace Go.Proofs.Ytkhmpaooinpfoaa.P
open Go.RowKit Go.Proofs.YtkhmpaooinpfoaaW.PrintWords Go.Proofs.YtkhmpaooinpfoaaW.PrintLast Go.Proofs.YtkhmpaooinpfoaaW.PrintMore
attribute [local go_sem] z12 z14 z1b z1c zW zX z13 z15   -- for this text's walks alone
set_option linter.unusedVariables false
set_option linter.unusedSimpArgs false
mutual
def zr.j0 : Nat → List (List (S30)) → Bool → Option (Bool)
 | 0,_,_=>none
 | k + 1,x1,x11=>if x11 = true then (some false) else (zr.l0 k x1 0)
def zr.l0 : Nat → List (List (S30)) → Int → Option (Bool)
 | 0,_,_=>none
 | k + 1,x1,x5=>if x5 < (x1.length : Int) then (if 0 ≤ x5 then (if ((z2m x1 x5).length : Int) > 20 then (some false) else (zr.l0 k x1 (wrap64 (x5 + 1)))) else (none)) else (some true)
end
def zr.f (k : Nat) (a0 : Int) (l1 : List (List (S30))) : Option (Bool):=if a0 > 4 then (zr.j0 k l1 (decide (a0 ≤ 7))) else (zr.j0 k l1 false)
theorem zr.z17 : ∀ k,(∀ y0 y1,LeO (zr.j0 k y0 y1) (zr.j0 (k + 1) y0 y1)) ∧ (∀ y0 y1,LeO (zr.l0 k y0 y1) (zr.l0 (k + 1) y0 y1))
 | 0=>⟨fun _ _ r h=>by simp [zr.j0] at h,fun _ _ r h=>by simp [zr.l0] at h⟩
 | k + 1=>by
  obtain ⟨ih0,ih1⟩:=zr.z17 k
  refine ⟨?_,?_⟩
  · intro y0 y1
    unfold zr.j0
    repeat' first
    | (with_reducible exact ih0 _ _)
    | (with_reducible exact ih1 _ _)
    | (with_reducible exact LeO.refl _)
    | (with_reducible exact LeO.none _)
    | (with_reducible refine LeO.ite ?_ ?_)
    | (with_reducible refine LeO.bind ?_ (fun _=>?_))
    | exact ih0 _ _
    | exact ih1 _ _
    | exact LeO.none _
    | refine LeO.ite ?_ ?_
    | refine LeO.bind ?_ (fun _=>?_)
  · intro y0 y1
    unfold zr.l0
    repeat' first
    | (with_reducible exact ih0 _ _)
    | (with_reducible exact ih1 _ _)
    | (with_reducible exact LeO.refl _)
    | (with_reducible exact LeO.none _)
    | (with_reducible refine LeO.ite ?_ ?_)
    | (with_reducible refine LeO.bind ?_ (fun _=>?_))
    | exact ih0 _ _
    | exact ih1 _ _
    | exact LeO.none _
    | refine LeO.ite ?_ ?_
    | refine LeO.bind ?_ (fun _=>?_)
theorem zr.mono : ∀ a0 a1 k,LeO (zr.f k a0 a1) (zr.f (k + 1) a0 a1):=by
 intro a0 a1 k
 obtain ⟨ih0,ih1⟩:=zr.z17 k
 unfold zr.f
 repeat' first
  | (with_reducible exact ih0 _ _)
  | (with_reducible exact ih1 _ _)
  | (with_reducible exact LeO.refl _)
  | (with_reducible exact LeO.none _)
  | (with_reducible refine LeO.ite ?_ ?_)
  | (with_reducible refine LeO.bind ?_ (fun _=>?_))
  | exact ih0 _ _
  | exact ih1 _ _
  | exact LeO.none _
  | refine LeO.ite ?_ ?_
  | refine LeO.bind ?_ (fun _=>?_)
set_option maxHeartbeats 8000000 in
set_option maxRecDepth 100000 in
theorem zr.calls (k : Nat) (a0 : Int) (A1 : Option Addr) (c1 : Nat) (l1 : List (List (S30))) (r : Bool) (w : World) (hr1 : Kd.C (Kd.slice 30 k30) w A1 l1.length l1) (hc1 : l1.length ≤ c1) (h : zr.f k a0 l1 = some r) :
 Calls Try.prog 38 #[.int .i64 a0,.slice A1 l1.length c1] w fun e w'=>e = .returned (.bool r) ∧ Drawn0 w w':=by
 have HR1:=z1.mk hr1
 have HC1:=z1.mk hc1
 clear hr1 hc1
 have H : (if a0 > 4 then (zr.j0 k l1 (decide (a0 ≤ 7))) else (zr.j0 k l1 false)) = some r:=h
 clear h
 have HC3:=z1.mk H
 clear H
 go_enter Try.func38,Try.ntmps38
 go_upto_region 1 with (fail)
 go_cut [11] (fun v11 wc=>∃ (kq : Nat) (x11_2 : Bool),v11 = .bool x11_2 ∧ z1 (zr.j0 kq l1 x11_2 = some r) ∧ z1 (kq ≤ k) ∧ Drawn0 w wc)
 case first =>
  have H:=HC3.out
  clear HC3
  by_cases c4 : a0 > 4
  rotate_left
  · rw [if_neg c4] at H
    have c4b0 : decide (4 < a0) = false:=decide_eq_false c4
    clear c4
    (first|rw [c4b0]|(simp only [zS,zZ];rw [c4b0])|skip)
    have H':=z1.mk H
    clear H
    go_wp2
    go_meet
    case rel=>exact ⟨_,(false),zz75,H',⟨by first|omega|exact Nat.le_refl _⟩,by repeat (first|exact Drawn0.refl _|apply Drawn0.step)⟩
  rw [if_pos c4] at H
  have c4b0 : decide (4 < a0) = true:=decide_eq_true c4
  clear c4
  (first|rw [c4b0]|(simp only [zS,zZ];rw [c4b0])|skip)
  have H':=z1.mk H
  clear H
  go_wp2
  go_meet
  case rel=>exact ⟨_,(decide (a0 ≤ 7)),zz75,H',⟨by first|omega|exact Nat.le_refl _⟩,by repeat (first|exact Drawn0.refl _|apply Drawn0.step)⟩
 case rest =>
  clear HC3
  (try clear c1);(try clear p2);(try clear c3);(try clear c4);(try clear c4b0)
  obtain ⟨kq,x11_2,rfl,HA,HJ2,⟨mc2,rfl⟩⟩:=hcut
  cases kq with
  | zero=>exact absurd HA.out (by simp [zr.j0])
  | succ kj2 =>
   have H:=HA.out
   clear HA
   simp only [zr.j0] at H
   by_cases c5 : x11_2 = true
   · subst c5
     have H1 : (some false) = some r:=by rw [if_pos rfl] at H;exact H
     clear H
     have H:=H1
     clear H1
     obtain rfl:=Option.some.inj H
     go_wp2
     go_ret
     exact ⟨by first|rfl|(simp;done)|(simp [*];done),by repeat (first|exact Drawn0.refl _|apply Drawn0.step)⟩
   replace c5:=Bool.eq_false_iff.mpr c5
   subst c5
   have H1 : (zr.l0 kj2 l1 0) = some r:=by rw [if_neg (show ¬ (false = true) by decide)] at H;exact H
   clear H
   have H:=H1
   clear H1
   have H':=z1.mk H
   clear H
   go_wp2
   go_loopg [5] kj2 (fun kq v5 w'=>∃ (x5_2 : Int),v5 = .int .i64 x5_2 ∧ z1 (zr.l0 kq l1 x5_2 = some r) ∧ z1 (kq ≤ kj2) ∧ Drawn0 w w')
   case atStart=>exact ⟨(0),zz75,H',⟨Nat.le_refl _⟩,by repeat (first|exact Drawn0.refl _|apply Drawn0.step)⟩
   case round =>
    clear H'
    (try clear c1);(try clear c2);(try clear p2);(try clear c3);(try clear c4);(try clear c4b0);(try clear c5);(try clear p2)
    obtain ⟨x5_2,rfl,HA,HK2,⟨m2,rfl⟩⟩:=hrel
    cases gk with
    | zero=>exact absurd HA.out (by simp [zr.l0])
    | succ k2 =>
     have H:=HA.out
     clear HA
     simp only [zr.l0] at H
     by_cases c6 : x5_2 < (l1.length : Int)
     rotate_left
     · rw [if_neg c6] at H
       have c6b0 : decide (x5_2 < (l1.length : Int)) = false:=decide_eq_false c6
       clear c6
       obtain rfl:=Option.some.inj H
       go_wp2
       go_ret
       exact ⟨by first|rfl|(simp;done)|(simp [*];done),by repeat (first|exact Drawn0.refl _|apply Drawn0.step)⟩
     rw [if_pos c6] at H
     have c6b0 : decide (x5_2 < (l1.length : Int)) = true:=decide_eq_true c6
     clear c6
     by_cases c7 : 0 ≤ x5_2
     rotate_left
     · rw [if_neg c7] at H
       exact absurd H zz81
     rw [if_pos c7] at H
     have c7b0 : decide (0 ≤ x5_2) = true:=decide_eq_true c7
     clear c7
     by_cases c8 : ((z2m l1 x5_2).length : Int) > 20
     · rw [if_pos c8] at H
       have c8b0 : decide (20 < ((z2m l1 x5_2).length : Int)) = true:=decide_eq_true c8
       have c8b1 : decide (20 < (z2m l1 x5_2).length) = true:=decide_eq_true zz80
       clear c8
       obtain rfl:=Option.some.inj H
       have p101 : 0 ≤ (x5_2 : Int):=of_decide_eq_true zz74
       have q101 : x5_2 < (l1.length : Int):=of_decide_eq_true zz74
       obtain ⟨ad101,A101_0,c101_0,e101,hx101_0,hl101_0,hi101_0⟩:=at_L3 HR1.out x5_2 p101 q101
       cases e101
       have HR101_0:=z1.mk hi101_0
       have HC101_0:=z1.mk hl101_0
       clear hi101_0 hl101_0
       replace p101:=eq_true p101
       replace q101:=eq_true q101
       go_wp2
       go_ret
       exact ⟨by first|rfl|(simp;done)|(simp [*];done),by repeat (first|exact Drawn0.refl _|apply Drawn0.step)⟩
     rw [if_neg c8] at H
     have c8b0 : decide (20 < ((z2m l1 x5_2).length : Int)) = false:=decide_eq_false c8
     have c8b1 : decide (20 < (z2m l1 x5_2).length) = false:=decide_eq_false zz80
     clear c8
     have H':=z1.mk H
     clear H
     have p101 : 0 ≤ (x5_2 : Int):=of_decide_eq_true zz74
     have q101 : x5_2 < (l1.length : Int):=of_decide_eq_true zz74
     obtain ⟨ad101,A101_0,c101_0,e101,hx101_0,hl101_0,hi101_0⟩:=at_L3 HR1.out x5_2 p101 q101
     cases e101
     have HR101_0:=z1.mk hi101_0
     have HC101_0:=z1.mk hl101_0
     clear hi101_0 hl101_0
     replace p101:=eq_true p101
     replace q101:=eq_true q101
     go_wp2
     go_roundg k2
     case measure=>have:=HJ2.out;have:=HK2.out;omega
     case rel=>exact ⟨(wrap64 (x5_2 + 1)),zz75,H',⟨by have:=HJ2.out;have:=HK2.out;omega⟩,by repeat (first|exact Drawn0.refl _|apply Drawn0.step)⟩
end Go.Proofs.Ytkhmpaooinpfoaa.P
namespace Go.Proofs.Ytkhmpaooinpfoaa.P
open Go.RowKit Go.Proofs.YtkhmpaooinpfoaaW.PrintWords Go.Proofs.YtkhmpaooinpfoaaW.PrintLast Go.Proofs.YtkhmpaooinpfoaaW.PrintMore
attribute [local go_sem] z12 z14 z1b z1c zW zX z13 z15   -- for this text's walks alone
set_option linter.unusedVariables false
set_option linter.unusedSimpArgs false
def z11.j0 : Nat → Int → Bool → Option (Int)
 | 0,_,_=>none
 | k + 1,x0,x3=>if x3 = true then (some 0) else (if x0 ≤ 3 then (some 1) else (if 0 ≤ (wrap64 (x0 - 3)) then (some (shl .i64 1 (wrap64 (x0 - 3)))) else (none)))
def z11.f (k : Nat) (a0 : Int) : Option (Int):=if a0 < 0 then (z11.j0 k a0 true) else (z11.j0 k a0 (decide (a0 > 7)))
theorem z11.z17 : ∀ k,(∀ y0 y1,LeO (z11.j0 k y0 y1) (z11.j0 (k + 1) y0 y1))
 | 0=>fun _ _ r h=>by simp [z11.j0] at h
 | k + 1=>by
  have ih0:=z11.z17 k
  · intro y0 y1
    unfold z11.j0
    repeat' first
    | (with_reducible exact ih0 _ _)
    | (with_reducible exact LeO.refl _)
    | (with_reducible exact LeO.none _)
    | (with_reducible refine LeO.ite ?_ ?_)
    | (with_reducible refine LeO.bind ?_ (fun _=>?_))
    | exact ih0 _ _
    | exact LeO.none _
    | refine LeO.ite ?_ ?_
    | refine LeO.bind ?_ (fun _=>?_)
theorem z11.mono : ∀ a0 k,LeO (z11.f k a0) (z11.f (k + 1) a0):=by
 intro a0 k
 have ih0:=z11.z17 k
 unfold z11.f
 repeat' first
  | (with_reducible exact ih0 _ _)
  | (with_reducible exact LeO.refl _)
  | (with_reducible exact LeO.none _)
  | (with_reducible refine LeO.ite ?_ ?_)
  | (with_reducible refine LeO.bind ?_ (fun _=>?_))
  | exact ih0 _ _
  | exact LeO.none _
  | refine LeO.ite ?_ ?_
  | refine LeO.bind ?_ (fun _=>?_)
set_option maxHeartbeats 8000000 in
set_option maxRecDepth 100000 in
theorem z11.calls (k : Nat) (a0 : Int) (r : Int) (w : World) (h : z11.f k a0 = some r) :
 Calls Try.prog 60 #[.int .i64 a0] w fun e w'=>e = .returned (.int .i64 r) ∧ Drawn0 w w':=by
 have H : (if a0 < 0 then (z11.j0 k a0 true) else (z11.j0 k a0 (decide (a0 > 7)))) = some r:=h
 clear h
 have HC2:=z1.mk H
 clear H
 go_enter Try.func60,Try.ntmps60
 go_upto_region 1 with (fail)
 go_cut [3] (fun v3 wc=>∃ (kq : Nat) (x3_1 : Bool),v3 = .bool x3_1 ∧ z1 (z11.j0 kq a0 x3_1 = some r) ∧ z1 (kq ≤ k) ∧ Drawn0 w wc)
 case first =>
  have H:=HC2.out
  clear HC2
  by_cases c3 : a0 < 0
  rotate_left
  · rw [if_neg c3] at H
    have c3b0 : decide (a0 < 0) = false:=decide_eq_false c3
    clear c3
    (first|rw [c3b0]|(simp only [zS,zZ];rw [c3b0])|skip)
    have H':=z1.mk H
    clear H
    go_wp2
    go_meet
    case rel=>exact ⟨_,(decide (a0 > 7)),zz75,H',⟨by first|omega|exact Nat.le_refl _⟩,by repeat (first|exact Drawn0.refl _|apply Drawn0.step)⟩
  rw [if_pos c3] at H
  have c3b0 : decide (a0 < 0) = true:=decide_eq_true c3
  clear c3
  (first|rw [c3b0]|(simp only [zS,zZ];rw [c3b0])|skip)
  have H':=z1.mk H
  clear H
  go_wp2
  go_meet
  case rel=>exact ⟨_,(true),zz75,H',⟨by first|omega|exact Nat.le_refl _⟩,by repeat (first|exact Drawn0.refl _|apply Drawn0.step)⟩
 case rest =>
  clear HC2
  (try clear p2);(try clear c3);(try clear c3b0)
  obtain ⟨kq,x3_1,rfl,HA,HJ1,⟨mc1,rfl⟩⟩:=hcut
  cases kq with
  | zero=>exact absurd HA.out (by simp [z11.j0])
  | succ kj1 =>
   have H:=HA.out
   clear HA
   simp only [z11.j0] at H
   by_cases c4 : x3_1 = true
   · subst c4
     have H1 : (some 0) = some r:=by rw [if_pos rfl] at H;exact H
     clear H
     have H:=H1
     clear H1
     obtain rfl:=Option.some.inj H
     go_wp2
     go_ret
     exact ⟨by first|rfl|(simp;done)|(simp [*];done),by repeat (first|exact Drawn0.refl _|apply Drawn0.step)⟩
   replace c4:=Bool.eq_false_iff.mpr c4
   subst c4
   have H1 : (if a0 ≤ 3 then (some 1) else (if 0 ≤ (wrap64 (a0 - 3)) then (some (shl .i64 1 (wrap64 (a0 - 3)))) else (none))) = some r:=by rw [if_neg (show ¬ (false = true) by decide)] at H;exact H
   clear H
   have H:=H1
   clear H1
   by_cases c5 : a0 ≤ 3
   · rw [if_pos c5] at H
     have c5b0 : decide (a0 ≤ 3) = true:=decide_eq_true c5
     clear c5
     obtain rfl:=Option.some.inj H
     go_wp2
     go_ret
     exact ⟨by first|rfl|(simp;done)|(simp [*];done),by repeat (first|exact Drawn0.refl _|apply Drawn0.step)⟩
   rw [if_neg c5] at H
   have c5b0 : decide (a0 ≤ 3) = false:=decide_eq_false c5
   clear c5
   obtain ⟨ji6,hji6⟩ : ∃ j_ : Int,(wrap64 (a0 - 3)) = j_:=⟨_,rfl⟩
   replace H : (if 0 ≤ (ji6) then (some (shl .i64 1 (ji6))) else (none)) = some r:=by first|(rw [hji6] at H;exact H)|(simp only [hji6] at H ⊢;exact H)
   have hji6w : (IntKind.i64.wrap (a0 - 3)) = ji6:=(zS _).trans hji6
   by_cases c7 : 0 ≤ (ji6)
   rotate_left
   · rw [if_neg c7] at H
     exact absurd H zz81
   rw [if_pos c7] at H
   have c7b0:=eq_true c7
   have c7b1 : decide (0 ≤ (ji6)) = true:=decide_eq_true c7
   clear c7
   obtain ⟨ji8,hji8⟩ : ∃ j_ : Int,(shl .i64 1 (ji6)) = j_:=⟨_,rfl⟩
   replace H : (some ji8) = some r:=by first|(rw [hji8] at H;exact H)|(simp only [hji8] at H ⊢;exact H)
   have hji8_ : (IntKind.i64.wrap (1 * 2 ^ min (ji6).toNat 64)) = ji8:=hji8
   have hji8z : (ji6) ≤ 64 → (IntKind.i64.wrap (1 * 2 ^ (ji6).toNat)) = ji8:=z1S hji8
   have hji8u : (IntKind.i64.wrap (2 ^ min (ji6).toNat 64)) = ji8:=by have h_:=hji8_;rw [Int.one_mul] at h_;exact h_
   have hji8v : (ji6) ≤ 64 → (IntKind.i64.wrap (2 ^ (ji6).toNat)) = ji8:=fun hle_=>by have h_:=hji8z hle_;rw [Int.one_mul] at h_;exact h_
   have hji8y : (wrap64 (1 * 2 ^ min (ji6).toNat 64)) = ji8:=(zS _).symm.trans hji8_
   have hji8x : (ji6) ≤ 64 → (wrap64 (1 * 2 ^ (ji6).toNat)) = ji8:=fun h_=>(zS _).symm.trans (hji8z h_)
   obtain rfl:=Option.some.inj H
   go_wp2
   go_ret
   exact ⟨by first|rfl|(simp;done)|(simp only [← hji6,← hji8] <;> (first|rfl|simp))|(simp [*];done),by repeat (first|exact Drawn0.refl _|apply Drawn0.step)⟩
end Go.Proofs.Ytkhmpaooinpfoaa.P
namespace Go.Proofs.Ytkhmpaooinpfoaa.P
open Go.RowKit Go.Proofs.YtkhmpaooinpfoaaW.PrintWords Go.Proofs.YtkhmpaooinpfoaaW.PrintLast Go.Proofs.YtkhmpaooinpfoaaW.PrintMore
attribute [local go_sem] z12 z14 z1b z1c zW zX z13 z15   -- for this text's walks alone
set_option linter.unusedVariables false
set_option linter.unusedSimpArgs false
def zP.f (k : Nat) (a0 : Int) : Option (Int):=(z11.f k a0).bind fun t101=>(if t101 = 0 then (some 0) else (if 0 ≤ a0 then (some (shl .i64 1 a0)) else (none)))
theorem zP.mono : ∀ a0 k,LeO (zP.f k a0) (zP.f (k + 1) a0):=by
 intro a0 k
 unfold zP.f
 repeat' first
  | (with_reducible exact z11.mono _ _)
  | (with_reducible exact LeO.refl _)
  | (with_reducible exact LeO.none _)
  | (with_reducible refine LeO.ite ?_ ?_)
  | (with_reducible refine LeO.bind ?_ (fun _=>?_))
  | exact z11.mono _ _
  | exact LeO.none _
  | refine LeO.ite ?_ ?_
  | refine LeO.bind ?_ (fun _=>?_)
set_option maxHeartbeats 8000000 in
set_option maxRecDepth 100000 in
theorem zP.calls (k : Nat) (a0 : Int) (r : Int) (w : World) (h : zP.f k a0 = some r) :
 Calls Try.prog 92 #[.int .i64 a0] w fun e w'=>e = .returned (.int .i64 r) ∧ Drawn0 w w':=by
 have H : ((z11.f k a0).bind fun t101=>(if t101 = 0 then (some 0) else (if 0 ≤ a0 then (some (shl .i64 1 a0)) else (none)))) = some r:=h
 clear h
 replace H:=Option.bind_eq_some_iff.mp H
 obtain ⟨t101,A20,H⟩:=H
 replace H : (if t101 = 0 then (some 0) else (if 0 ≤ a0 then (some (shl .i64 1 a0)) else (none))) = some r:=H
 have A2:=z1.mk A20
 clear A20
 by_cases c3 : t101 = 0
 · rw [if_pos c3] at H
   have c3b0 : (t101 == 0) = true:=beq_iff_eq.mpr c3
   have c3b1 : (t101 != 0) = false:=bne_eq_false_iff_eq.mpr c3
   clear c3
   obtain rfl:=Option.some.inj H
   go_enter Try.func92,Try.ntmps92
   go_wp2_with (first|((with_reducible refine zl (f:=60) rfl ?_);refine goesL_ (some 4) rfl rfl Try.func60 zz78 rfl #[.int .i64 a0] rfl zz27 ?_;(with_reducible refine (z11.calls k a0 t101 _ A2.out).mono ?_);rintro e w' ⟨rfl,⟨nd,rfl⟩⟩;refine ⟨_,rfl,?_⟩))
   go_ret
   exact ⟨by first|rfl|(simp;done)|(simp [*];done),by repeat (first|exact Drawn0.refl _|apply Drawn0.step)⟩
 rw [if_neg c3] at H
 have c3b0 : (t101 == 0) = false:=beq_eq_false_iff_ne.mpr c3
 have c3b1 : (t101 != 0) = true:=bne_iff_ne.mpr c3
 by_cases c4 : 0 ≤ a0
 rotate_left
 · rw [if_neg c4] at H
   exact absurd H zz81
 rw [if_pos c4] at H
 have c4b0:=eq_true c4
 have c4b1 : decide (0 ≤ a0) = true:=decide_eq_true c4
 clear c4
 obtain ⟨ji5,hji5⟩ : ∃ j_ : Int,(shl .i64 1 a0) = j_:=⟨_,rfl⟩
 replace H : (some ji5) = some r:=by first|(rw [hji5] at H;exact H)|(simp only [hji5] at H ⊢;exact H)
 (try rw [hji5] at A2)
 have hji5_ : (IntKind.i64.wrap (1 * 2 ^ min a0.toNat 64)) = ji5:=hji5
 have hji5z : a0 ≤ 64 → (IntKind.i64.wrap (1 * 2 ^ a0.toNat)) = ji5:=z1S hji5
 have hji5u : (IntKind.i64.wrap (2 ^ min a0.toNat 64)) = ji5:=by have h_:=hji5_;rw [Int.one_mul] at h_;exact h_
 have hji5v : a0 ≤ 64 → (IntKind.i64.wrap (2 ^ a0.toNat)) = ji5:=fun hle_=>by have h_:=hji5z hle_;rw [Int.one_mul] at h_;exact h_
 have hji5y : (wrap64 (1 * 2 ^ min a0.toNat 64)) = ji5:=(zS _).symm.trans hji5_
 have hji5x : a0 ≤ 64 → (wrap64 (1 * 2 ^ a0.toNat)) = ji5:=fun h_=>(zS _).symm.trans (hji5z h_)
 obtain rfl:=Option.some.inj H
 go_enter Try.func92,Try.ntmps92
 go_wp2_with (first|((with_reducible refine zl (f:=60) rfl ?_);refine goesL_ (some 4) rfl rfl Try.func60 zz78 rfl #[.int .i64 a0] rfl zz27 ?_;(with_reducible refine (z11.calls k a0 t101 _ A2.out).mono ?_);rintro e w' ⟨rfl,⟨nd,rfl⟩⟩;refine ⟨_,rfl,?_⟩))
 go_ret
 exact ⟨by first|rfl|(simp;done)|(simp only [← hji5] <;> (first|rfl|simp))|(simp [*];done),by repeat (first|exact Drawn0.refl _|apply Drawn0.step)⟩
end Go.Proofs.Ytkhmpaooinpfoaa.P
namespace Go.Proofs.Ytkhmpaooinpfoaa.P
open Go.RowKit Go.Proofs.YtkhmpaooinpfoaaW.PrintWords Go.Proofs.YtkhmpaooinpfoaaW.PrintLast Go.Proofs.YtkhmpaooinpfoaaW.PrintMore
attribute [local go_sem] z12 z14 z1b z1c zW zX z13 z15   -- for this text's walks alone
set_option linter.unusedVariables false
set_option linter.unusedSimpArgs false
def zM.j0 : Nat → Int → Bool → Int → Int → Option (Bool)
 | 0,_,_,_,_=>none
 | k + 1,x0,x5,x102000,x102001=>if x5 = true then (some false) else (if x0 = 7 then (some true) else (if x0 = 6 then (some (x102000 == 0)) else (if x102000 = 0 then (if 0 ≤ x0 then (some ((shr .u64 x102001 (shl .u64 1 x0)) == 0)) else (none)) else (some false))))
def zM.f (k : Nat) (a0 : Int) (a1_0 : Int) (a1_1 : Int) : Option (Bool):=if a0 < 0 then (zM.j0 k a0 true a1_0 a1_1) else (zM.j0 k a0 (decide (a0 > 7)) a1_0 a1_1)
theorem zM.z17 : ∀ k,(∀ y0 y1 y2 y3,LeO (zM.j0 k y0 y1 y2 y3) (zM.j0 (k + 1) y0 y1 y2 y3))
 | 0=>fun _ _ _ _ r h=>by simp [zM.j0] at h
 | k + 1=>by
  have ih0:=zM.z17 k
  · intro y0 y1 y2 y3
    unfold zM.j0
    repeat' first
    | (with_reducible exact ih0 _ _ _ _)
    | (with_reducible exact LeO.refl _)
    | (with_reducible exact LeO.none _)
    | (with_reducible refine LeO.ite ?_ ?_)
    | (with_reducible refine LeO.bind ?_ (fun _=>?_))
    | exact ih0 _ _ _ _
    | exact LeO.none _
    | refine LeO.ite ?_ ?_
    | refine LeO.bind ?_ (fun _=>?_)
theorem zM.mono : ∀ a0 a1 a2 k,LeO (zM.f k a0 a1 a2) (zM.f (k + 1) a0 a1 a2):=by
 intro a0 a1 a2 k
 have ih0:=zM.z17 k
 unfold zM.f
 repeat' first
  | (with_reducible exact ih0 _ _ _ _)
  | (with_reducible exact LeO.refl _)
  | (with_reducible exact LeO.none _)
  | (with_reducible refine LeO.ite ?_ ?_)
  | (with_reducible refine LeO.bind ?_ (fun _=>?_))
  | exact ih0 _ _ _ _
  | exact LeO.none _
  | refine LeO.ite ?_ ?_
  | refine LeO.bind ?_ (fun _=>?_)
set_option maxHeartbeats 8000000 in
set_option maxRecDepth 100000 in
theorem zM.calls (k : Nat) (a0 : Int) (a1_0 : Int) (a1_1 : Int) (r : Bool) (w : World) (h : zM.f k a0 a1_0 a1_1 = some r) :
 Calls Try.prog 81 #[.int .i64 a0,.agg #[.int .u64 a1_0,.int .u64 a1_1]] w fun e w'=>e = .returned (.bool r) ∧ Below w.heap.size w w':=by
 have hu30:=Try.underlying30
 have HB:=z1.mk (Below.refl w.heap.size w)
 have H : (if a0 < 0 then (zM.j0 k a0 true a1_0 a1_1) else (zM.j0 k a0 (decide (a0 > 7)) a1_0 a1_1)) = some r:=h
 clear h
 have HC3:=z1.mk H
 clear H
 go_enter Try.func81,Try.ntmps81
 go_upto_region 1 with (first|((with_reducible refine zF (N:=3) rfl ?_);refine zG ?hg (N:=3) ?hd (cs:=#[.int .u64 a1_0,.int .u64 a1_1]) (t:=30) ?hr ?_;(case hd=>rfl);(case hg=>rfl);(case hr=>first|(go_simp;done)|(go_simp;rfl));intro gb101 hg w4 hbox hb;have n0_:=z1.mk (z4 zz28 hb);have n1_:=z1.mk (hbox);have n2_:=z1.mk ((by rw [hg];exact (z5 zz28) : w.heap.size ≤ gb101));have n3_:=z1.mk ((by rw [hg];exact (z5 zz28) : w.heap.size ≤ gb101));clear HB;have HB:=n0_;have BK101:=n1_;have GW101:=n2_;have GE101:=n3_;clear n0_ n1_ n2_ n3_;clear hb hbox hg))
 repeat (go_quiet (first|((with_reducible refine zF (N:=3) rfl ?_);refine zG ?hg (N:=3) ?hd (cs:=#[.int .u64 a1_0,.int .u64 a1_1]) (t:=30) ?hr ?_;(case hd=>rfl);(case hg=>rfl);(case hr=>first|(go_simp;done)|(go_simp;rfl));intro gb101 hg w4 hbox hb;have n0_:=z1.mk (z4 zz28 hb);have n1_:=z1.mk (hbox);have n2_:=z1.mk ((by rw [hg];exact (z5 zz28) : w.heap.size ≤ gb101));have n3_:=z1.mk ((by rw [hg];exact (z5 zz28) : w.heap.size ≤ gb101));clear HB;have HB:=n0_;have BK101:=n1_;have GW101:=n2_;have GE101:=n3_;clear n0_ n1_ n2_ n3_;clear hb hbox hg));go_upto_region 1 with (first|((with_reducible refine zF (N:=3) rfl ?_);refine zG ?hg (N:=3) ?hd (cs:=#[.int .u64 a1_0,.int .u64 a1_1]) (t:=30) ?hr ?_;(case hd=>rfl);(case hg=>rfl);(case hr=>first|(go_simp;done)|(go_simp;rfl));intro gb101 hg w4 hbox hb;have n0_:=z1.mk (z4 zz28 hb);have n1_:=z1.mk (hbox);have n2_:=z1.mk ((by rw [hg];exact (z5 zz28) : w.heap.size ≤ gb101));have n3_:=z1.mk ((by rw [hg];exact (z5 zz28) : w.heap.size ≤ gb101));clear HB;have HB:=n0_;have BK101:=n1_;have GW101:=n2_;have GE101:=n3_;clear n0_ n1_ n2_ n3_;clear hb hbox hg)))
 (try simp only [Act.put,List.setIfInBounds_toArray,List.set_cons_zero,List.set_cons_succ])
 go_cut [5] (fun v5 wc=>∃ (kq : Nat) (x5_2 : Bool),v5 = .bool x5_2 ∧ z1 (zM.j0 kq a0 x5_2 a1_0 a1_1 = some r) ∧ z1 (kq ≤ k) ∧ z1 (wc.heap[gb101]? = some (.cells #[.int .u64 a1_0,.int .u64 a1_1] 30 (0,0))) ∧ z1 (Below w.heap.size w wc))
 case first =>
  have H:=HC3.out
  clear HC3
  by_cases c5 : a0 < 0
  rotate_left
  · rw [if_neg c5] at H
    have c5b0 : decide (a0 < 0) = false:=decide_eq_false c5
    clear c5
    (first|rw [c5b0]|(simp only [zS,zZ];rw [c5b0])|skip)
    have H':=z1.mk H
    clear H
    go_wp2
    repeat (go_quiet (fail);try go_wp2)
    go_meet
    case rel=>exact ⟨_,(decide (a0 > 7)),zz75,H',⟨by first|omega|exact Nat.le_refl _⟩,⟨by (with_reducible repeat (first|refine zb ?_ _|refine zf ?_|refine za ?_ _));exact BK101.out⟩,⟨by repeat (first|(with_reducible first|exact HB.out|apply z7|apply z2|apply z6|refine zd ?_ GE101.out)|exact HB.out)⟩⟩
  rw [if_pos c5] at H
  have c5b0 : decide (a0 < 0) = true:=decide_eq_true c5
  clear c5
  (first|rw [c5b0]|(simp only [zS,zZ];rw [c5b0])|skip)
  have H':=z1.mk H
  clear H
  go_wp2
  repeat (go_quiet (fail);try go_wp2)
  go_meet
  case rel=>exact ⟨_,(true),zz75,H',⟨by first|omega|exact Nat.le_refl _⟩,⟨by (with_reducible repeat (first|refine zb ?_ _|refine zf ?_|refine za ?_ _));exact BK101.out⟩,⟨by repeat (first|(with_reducible first|exact HB.out|apply z7|apply z2|apply z6|refine zd ?_ GE101.out)|exact HB.out)⟩⟩
 case rest =>
  clear HC3
  (try clear p2);(try clear c5);(try clear c5b0)
  obtain ⟨kq,x5_2,rfl,HA,HJ2,BK101,HB⟩:=hcut
  cases kq with
  | zero=>exact absurd HA.out (by simp [zM.j0])
  | succ kj2 =>
   have H:=HA.out
   clear HA
   simp only [zM.j0] at H
   by_cases c6 : x5_2 = true
   · subst c6
     have H1 : (some false) = some r:=by rw [if_pos rfl] at H;exact H
     clear H
     have H:=H1
     clear H1
     obtain rfl:=Option.some.inj H
     go_wp2
     repeat (go_quiet (fail);try go_wp2)
     go_ret
     exact ⟨by first|rfl|(simp [zi,zj] <;> rfl)|(simp [*,zi,zj] <;> rfl),by repeat (first|(with_reducible first|exact HB.out|apply z7|apply z2|apply z6|refine zd ?_ GE101.out)|exact HB.out)⟩
   replace c6:=Bool.eq_false_iff.mpr c6
   subst c6
   have H1 : (if a0 = 7 then (some true) else (if a0 = 6 then (some (a1_0 == 0)) else (if a1_0 = 0 then (if 0 ≤ a0 then (some ((shr .u64 a1_1 (shl .u64 1 a0)) == 0)) else (none)) else (some false)))) = some r:=by rw [if_neg (show ¬ (false = true) by decide)] at H;exact H
   clear H
   have H:=H1
   clear H1
   by_cases c7 : a0 = 7
   · rw [if_pos c7] at H
     have c7b0 : (a0 == 7) = true:=beq_iff_eq.mpr c7
     have c7b1 : (a0 != 7) = false:=bne_eq_false_iff_eq.mpr c7
     clear c7
     obtain rfl:=Option.some.inj H
     go_wp2
     repeat (go_quiet (fail);try go_wp2)
     go_ret
     exact ⟨by first|rfl|(simp [zi,zj] <;> rfl)|(simp [*,zi,zj] <;> rfl),by repeat (first|(with_reducible first|exact HB.out|apply z7|apply z2|apply z6|refine zd ?_ GE101.out)|exact HB.out)⟩
   rw [if_neg c7] at H
   have c7b0 : (a0 == 7) = false:=beq_eq_false_iff_ne.mpr c7
   have c7b1 : (a0 != 7) = true:=bne_iff_ne.mpr c7
   by_cases c8 : a0 = 6
   · rw [if_pos c8] at H
     have c8b0 : (a0 == 6) = true:=beq_iff_eq.mpr c8
     have c8b1 : (a0 != 6) = false:=bne_eq_false_iff_eq.mpr c8
     clear c8
     obtain rfl:=Option.some.inj H
     have hcz9_0 : wc.cell? ⟨gb101,0,none⟩ = some (.int .u64 a1_0):=(zc BK101.out 0).trans rfl
     have hcz9_1 : wc.cell? ⟨gb101,1,none⟩ = some (.int .u64 a1_1):=(zc BK101.out 1).trans rfl
     have hfz9_0:=z8 BK101.out 0
     have hfz9_1:=z8 BK101.out 1
     go_wp2
     repeat (go_quiet (fail);try go_wp2)
     go_ret
     exact ⟨by first|rfl|(simp [zi,zj] <;> rfl)|(simp [*,zi,zj] <;> rfl),by repeat (first|(with_reducible first|exact HB.out|apply z7|apply z2|apply z6|refine zd ?_ GE101.out)|exact HB.out)⟩
   rw [if_neg c8] at H
   have c8b0 : (a0 == 6) = false:=beq_eq_false_iff_ne.mpr c8
   have c8b1 : (a0 != 6) = true:=bne_iff_ne.mpr c8
   by_cases c10 : a1_0 = 0
   rotate_left
   · rw [if_neg c10] at H
     have c10b0 : (a1_0 == 0) = false:=beq_eq_false_iff_ne.mpr c10
     have c10b1 : (a1_0 != 0) = true:=bne_iff_ne.mpr c10
     obtain rfl:=Option.some.inj H
     have hcz15_0 : wc.cell? ⟨gb101,0,none⟩ = some (.int .u64 a1_0):=(zc BK101.out 0).trans rfl
     have hcz15_1 : wc.cell? ⟨gb101,1,none⟩ = some (.int .u64 a1_1):=(zc BK101.out 1).trans rfl
     have hfz15_0:=z8 BK101.out 0
     have hfz15_1:=z8 BK101.out 1
     go_wp2
     repeat (go_quiet (fail);try go_wp2)
     go_ret
     exact ⟨by first|rfl|(simp [zi,zj] <;> rfl)|(simp [*,zi,zj] <;> rfl),by repeat (first|(with_reducible first|exact HB.out|apply z7|apply z2|apply z6|refine zd ?_ GE101.out)|exact HB.out)⟩
   rw [if_pos c10] at H
   have c10b0 : (a1_0 == 0) = true:=beq_iff_eq.mpr c10
   have c10b1 : (a1_0 != 0) = false:=bne_eq_false_iff_eq.mpr c10
   clear c10
   by_cases c11 : 0 ≤ a0
   rotate_left
   · rw [if_neg c11] at H
     exact absurd H zz81
   rw [if_pos c11] at H
   have c11b0:=eq_true c11
   have c11b1 : decide (0 ≤ a0) = true:=decide_eq_true c11
   clear c11
   obtain ⟨ji12,hji12⟩ : ∃ j_ : Int,(shl .u64 1 a0) = j_:=⟨_,rfl⟩
   replace H : (some ((shr .u64 a1_1 (ji12)) == 0)) = some r:=by first|(rw [hji12] at H;exact H)|(simp only [hji12] at H ⊢;exact H)
   have hji12_ : (IntKind.u64.wrap (1 * 2 ^ min a0.toNat 64)) = ji12:=hji12
   have hji12z : a0 ≤ 64 → (IntKind.u64.wrap (1 * 2 ^ a0.toNat)) = ji12:=z1S hji12
   have hji12n0 : 0 ≤ ji12:=by rw [← hji12];exact Int.emod_nonneg _ zz79
   have hji12n1 : decide (0 ≤ ji12) = true:=decide_eq_true hji12n0
   replace hji12n0:=eq_true hji12n0
   have hji12u : (IntKind.u64.wrap (2 ^ min a0.toNat 64)) = ji12:=by have h_:=hji12_;rw [Int.one_mul] at h_;exact h_
   have hji12v : a0 ≤ 64 → (IntKind.u64.wrap (2 ^ a0.toNat)) = ji12:=fun hle_=>by have h_:=hji12z hle_;rw [Int.one_mul] at h_;exact h_
   obtain ⟨ji13,hji13⟩ : ∃ j_ : Int,(shr .u64 a1_1 (ji12)) = j_:=⟨_,rfl⟩
   replace H : (some ((ji13) == 0)) = some r:=by first|(rw [hji13] at H;exact H)|(simp only [hji13] at H ⊢;exact H)
   have hji13_ : (a1_1 / 2 ^ min (ji12).toNat 64) = ji13:=hji13
   have hji13z : (ji12) ≤ 64 → (a1_1 / 2 ^ (ji12).toNat) = ji13:=z2M hji13
   obtain rfl:=Option.some.inj H
   have hcz14_0 : wc.cell? ⟨gb101,0,none⟩ = some (.int .u64 a1_0):=(zc BK101.out 0).trans rfl
   have hcz14_1 : wc.cell? ⟨gb101,1,none⟩ = some (.int .u64 a1_1):=(zc BK101.out 1).trans rfl
   have hfz14_0:=z8 BK101.out 0
   have hfz14_1:=z8 BK101.out 1
   go_wp2
   repeat (go_quiet (fail);try go_wp2)
   go_ret
   exact ⟨by first|rfl|(simp [zi,zj] <;> rfl)|(simp only [← hji12,← hji13];first|rfl|(simp [zi,zj] <;> rfl))|(simp [*,zi,zj] <;> rfl),by repeat (first|(with_reducible first|exact HB.out|apply z7|apply z2|apply z6|refine zd ?_ GE101.out)|exact HB.out)⟩
end Go.Proofs.Ytkhmpaooinpfoaa.P
namespace Go.Proofs.Ytkhmpaooinpfoaa.P
open Go.RowKit Go.Proofs.YtkhmpaooinpfoaaW.PrintWords Go.Proofs.YtkhmpaooinpfoaaW.PrintLast Go.Proofs.YtkhmpaooinpfoaaW.PrintMore
attribute [local go_sem] z12 z14 z1b z1c zW zX z13 z15   -- for this text's walks alone
set_option linter.unusedVariables false
set_option linter.unusedSimpArgs false
set_option maxHeartbeats 800000 in
set_option maxRecDepth 100000 in
theorem zv.clo (k : Nat) (a0 : Int) (x : S30) (g : Nat) (r : Bool) (w : World) (hg : w.heap[g]? = some (.cells #[.int .i64 a0] 3 (0,0))) (h : zM.f k a0 x.f0 x.f1 = some r) :
 Calls Try.prog 126 #[.agg #[.int .u64 x.f0,.int .u64 x.f1],.pointer (some ⟨g,0,none⟩)] w fun e w'=>e = .returned (.bool (!r)) ∧ Below w.heap.size w w':=by
 have hu30:=Try.underlying30
 have HB:=z1.mk (Below.refl w.heap.size w)
 have HG:=z1.mk hg
 have A8:=z1.mk h
 clear hg h
 go_enter Try.func126,Try.ntmps126
 go_wp2_with (first
  | ((with_reducible refine zF (N:=2) rfl ?_);refine zG ?hg (N:=2) ?hd (cs:=#[.int .u64 x.f0,.int .u64 x.f1]) (t:=30) ?hr ?_;(case hd=>rfl);(case hg=>rfl);(case hr=>first|(go_simp;done)|(go_simp;rfl));intro gb hgb w1_ hbox hb;have n0_:=z1.mk (z4 HB.out hb);have hG1:=zg (g:=g) (o:=.cells #[.int .i64 a0] 3 (0,0)) HG.out hb;have hc0 : w1_.cell? ⟨g,0,none⟩ = some (.int .i64 a0):=(zc hG1 0).trans rfl;have hcx0 : w1_.cell? ⟨gb,0,none⟩ = some (.int .u64 x.f0):=(zc hbox 0).trans rfl;have hcx1 : w1_.cell? ⟨gb,1,none⟩ = some (.int .u64 x.f1):=(zc hbox 1).trans rfl;clear HB hG1 hbox hb hgb;have HB:=n0_;clear n0_)
  | ((with_reducible refine zl (f:=81) rfl ?_);refine goesL_ (some 6) rfl rfl Try.func81 zz78 rfl #[.int .i64 a0,.agg #[.int .u64 x.f0,.int .u64 x.f1]] rfl zz73 ?_;(with_reducible refine (zM.calls k a0 x.f0 x.f1 r _ A8.out).mono ?_);rintro e w2_ ⟨rfl,hb2⟩;refine ⟨_,rfl,?_⟩;have n0_:=z1.mk (z4 HB.out hb2);clear HB hb2;have HB:=n0_;clear n0_))
 go_ret
 exact ⟨rfl,HB.out⟩
def zv.all (k : Nat) (a0 : Int) : List S30 → Option Bool
 | []=>some true
 | x :: xs=>(zM.f k a0 x.f0 x.f1).bind fun b=>if b = true then zv.all k a0 xs else some false
theorem zv.z39 (a0 : Int) : ∀ (l : List S30) (k : Nat),LeO (zv.all k a0 l) (zv.all (k + 1) a0 l)
 | [],k=>LeO.refl _
 | x :: xs,k=>LeO.bind (zM.mono a0 x.f0 x.f1 k) (fun b=>LeO.ite (zv.z39 a0 xs k) (LeO.refl _))
theorem zv.z3U (k : Nat) (a0 : Int) (l : List S30) (i : Nat) (h : i < l.length) : zv.all k a0 (l.drop i) = (zM.f k a0 (rd_T30 l (i : Int)).f0 (rd_T30 l (i : Int)).f1).bind fun b=>if b = true then zv.all k a0 (l.drop (i + 1)) else some false:=by
 rw [List.drop_eq_getElem_cons h]
 have e : rd_T30 l (i : Int) = l[i]:=by unfold rd_T30;rw [Int.toNat_natCast,List.getD_eq_getElem?_getD,List.getElem?_eq_getElem h];rfl
 rw [e];rfl
set_option maxHeartbeats 800000 in
set_option maxRecDepth 100000 in
theorem zv.idx_0 (k : Nat) (a0 : Int) (A_ : Option Addr) (c : Nat) (l : List S30) (g : Nat) (r : Bool) (w : World) (hr : Kd.C k30 w A_ l.length l) (hg : w.heap[g]? = some (.cells #[.int .i64 a0] 3 (0,0))) (h : zv.all k a0 l = some r) :
 Calls Try.prog 142 #[.slice A_ l.length c,.func (.func 126) #[] #[.pointer (some ⟨g,0,none⟩)]] w fun e w'=>(∃ i : Int,e = .returned (.int .i64 i) ∧ decide (i ≥ 0) = !r) ∧ Below w.heap.size w w':=by
 have hu30:=Try.underlying30
 have HB:=z1.mk (Below.refl w.heap.size w)
 have HG:=z1.mk hg
 have HR:=z1.mk hr
 have HA:=z1.mk h
 have HM:=z1.mk (Kd.C_max hr)
 clear hg h hr
 go_enter Try.func142,Try.ntmps142
 go_wp2
 go_loopg [8] l.length (fun kq v8 w'=>∃ (i : Nat),v8 = .int .i64 i ∧ z1 (i + kq = l.length) ∧ z1 (zv.all k a0 (l.drop i) = some r) ∧ z1 (w'.heap[g]? = some (.cells #[.int .i64 a0] 3 (0,0))) ∧ z1 (Below w.heap.size w w'))
 case atStart=>exact ⟨0,rfl,⟨by omega⟩,HA,HG,HB⟩
 case round =>
  obtain ⟨i,rfl,HK,HAi,HGi,HBi⟩:=hrel
  clear HG HB HA
  by_cases hlt : i < l.length
  rotate_left
  · have p0 : decide (i < l.length) = false:=decide_eq_false hlt
    have p1 : decide ((i : Int) < (l.length : Int)) = false:=decide_eq_false zz80
    have hr : r = true:=by
     have h1:=HAi.out
     rw [List.drop_eq_nil_of_le zz80] at h1
     exact (Option.some.inj h1).symm
    clear hlt HAi
    subst hr
    go_wp2
    go_ret
    exact ⟨⟨-1,rfl,by decide⟩,HBi.out⟩
  have hd:=zv.z3U k a0 l i hlt
  have e1:=HAi.out
  rw [hd] at e1
  obtain ⟨b,hb,e2⟩:=Option.bind_eq_some_iff.mp e1
  clear e1 hd
  have HE:=z1.mk e2
  have HF:=z1.mk hb
  clear e2 hb
  obtain ⟨ad,e205,hx0,hx1⟩:=z2j HR.out (i : Int) zz80 zz80
  cases e205
  rw [Int.toNat_natCast] at hx0 hx1
  replace hx0:=(HBi.out.cell (World.block_lt_of_cell? w _ hx0)).trans hx0
  replace hx1:=(HBi.out.cell (World.block_lt_of_cell? w _ hx1)).trans hx1
  have p0 : decide (i < l.length) = true:=decide_eq_true hlt
  have p1 : decide ((i : Int) < (l.length : Int)) = true:=decide_eq_true zz80
  have p2 : (0 ≤ (i : Int)) = True:=eq_true zz80
  have p3 : ((i : Int) < (l.length : Int)) = True:=eq_true zz80
  clear hlt
  go_wp2_with fail
  refine (zv.clo k a0 (rd_T30 l (i : Int)) g b _ HGi.out HF.out).mono ?_
  rintro e w1 ⟨rfl,hb1⟩
  have n0_:=z1.mk (z4 HBi.out hb1)
  have n1_:=z1.mk (zg (g:=g) (o:=.cells #[.int .i64 a0] 3 (0,0)) HGi.out hb1)
  clear HBi HGi hb1 hx0 hx1
  cases b with
  | true =>
   rw [if_pos rfl] at HE
   simp only [Bool.not_true]
   go_wp2
   have hi : wrap64 ((i : Int) + 1) = ((i + 1 : Nat) : Int):=by
    have:=HM.out;have:=HK.out;have h9:=of_decide_eq_true p0;unfold wrap64;omega
   go_roundg (l.length - i - 1)
   case measure=>have:=HK.out;have h9:=of_decide_eq_true p0;omega
   case rel=>exact ⟨i + 1,congrArg (Value.int .i64) hi,⟨by have:=HK.out;have h9:=of_decide_eq_true p0;omega⟩,HE,n1_,n0_⟩
  | false =>
   have hr : r = false:=by
    have:=HE.out
    simp at this
    exact this
   subst hr
   simp only [Bool.not_false]
   go_wp2
   go_ret
   exact ⟨⟨(i : Int),rfl,by simp⟩,n0_.out⟩
set_option maxHeartbeats 800000 in
set_option maxRecDepth 100000 in
theorem zv.cont_0 (k : Nat) (a0 : Int) (A_ : Option Addr) (c : Nat) (l : List S30) (g : Nat) (r : Bool) (w : World) (hr : Kd.C k30 w A_ l.length l) (hg : w.heap[g]? = some (.cells #[.int .i64 a0] 3 (0,0))) (h : zv.all k a0 l = some r) :
 Calls Try.prog 127 #[.slice A_ l.length c,.func (.func 126) #[] #[.pointer (some ⟨g,0,none⟩)]] w fun e w'=>e = .returned (.bool (!r)) ∧ Below w.heap.size w w':=by
 have HB:=z1.mk (Below.refl w.heap.size w)
 have HG:=z1.mk hg
 have HR:=z1.mk hr
 have HA:=z1.mk h
 clear hg h hr
 go_enter Try.func127,Try.ntmps127
 go_wp2_with fail
 refine (zv.idx_0 k a0 A_ c l g r _ HR.out HG.out HA.out).mono ?_
 rintro e w1 ⟨⟨i,rfl,hi⟩,hb1⟩
 have hb:=z1.mk hb1
 have hj:=z1.mk hi
 clear hb1 hi
 go_wp2
 go_ret
 exact ⟨by rw [← hj.out];rfl,hb.out⟩
set_option maxHeartbeats 800000 in
set_option maxRecDepth 100000 in
theorem zv.idx_1 (k : Nat) (a0 : Int) (A_ : Option Addr) (c : Nat) (l : List S30) (g : Nat) (r : Bool) (w : World) (hr : Kd.C k30 w A_ l.length l) (hg : w.heap[g]? = some (.cells #[.int .i64 a0] 3 (0,0))) (h : zv.all k a0 l = some r) :
 Calls Try.prog 135 #[.slice A_ l.length c,.func (.func 126) #[] #[.pointer (some ⟨g,0,none⟩)]] w fun e w'=>(∃ i : Int,e = .returned (.int .i64 i) ∧ decide (i ≥ 0) = !r) ∧ Below w.heap.size w w':=by
 have hu30:=Try.underlying30
 have HB:=z1.mk (Below.refl w.heap.size w)
 have HG:=z1.mk hg
 have HR:=z1.mk hr
 have HA:=z1.mk h
 have HM:=z1.mk (Kd.C_max hr)
 clear hg h hr
 go_enter Try.func135,Try.ntmps135
 go_wp2
 go_loopg [8] l.length (fun kq v8 w'=>∃ (i : Nat),v8 = .int .i64 i ∧ z1 (i + kq = l.length) ∧ z1 (zv.all k a0 (l.drop i) = some r) ∧ z1 (w'.heap[g]? = some (.cells #[.int .i64 a0] 3 (0,0))) ∧ z1 (Below w.heap.size w w'))
 case atStart=>exact ⟨0,rfl,⟨by omega⟩,HA,HG,HB⟩
 case round =>
  obtain ⟨i,rfl,HK,HAi,HGi,HBi⟩:=hrel
  clear HG HB HA
  by_cases hlt : i < l.length
  rotate_left
  · have p0 : decide (i < l.length) = false:=decide_eq_false hlt
    have p1 : decide ((i : Int) < (l.length : Int)) = false:=decide_eq_false zz80
    have hr : r = true:=by
     have h1:=HAi.out
     rw [List.drop_eq_nil_of_le zz80] at h1
     exact (Option.some.inj h1).symm
    clear hlt HAi
    subst hr
    go_wp2
    go_ret
    exact ⟨⟨-1,rfl,by decide⟩,HBi.out⟩
  have hd:=zv.z3U k a0 l i hlt
  have e1:=HAi.out
  rw [hd] at e1
  obtain ⟨b,hb,e2⟩:=Option.bind_eq_some_iff.mp e1
  clear e1 hd
  have HE:=z1.mk e2
  have HF:=z1.mk hb
  clear e2 hb
  obtain ⟨ad,e205,hx0,hx1⟩:=z2j HR.out (i : Int) zz80 zz80
  cases e205
  rw [Int.toNat_natCast] at hx0 hx1
  replace hx0:=(HBi.out.cell (World.block_lt_of_cell? w _ hx0)).trans hx0
  replace hx1:=(HBi.out.cell (World.block_lt_of_cell? w _ hx1)).trans hx1
  have p0 : decide (i < l.length) = true:=decide_eq_true hlt
  have p1 : decide ((i : Int) < (l.length : Int)) = true:=decide_eq_true zz80
  have p2 : (0 ≤ (i : Int)) = True:=eq_true zz80
  have p3 : ((i : Int) < (l.length : Int)) = True:=eq_true zz80
  clear hlt
  go_wp2_with fail
  refine (zv.clo k a0 (rd_T30 l (i : Int)) g b _ HGi.out HF.out).mono ?_
  rintro e w1 ⟨rfl,hb1⟩
  have n0_:=z1.mk (z4 HBi.out hb1)
  have n1_:=z1.mk (zg (g:=g) (o:=.cells #[.int .i64 a0] 3 (0,0)) HGi.out hb1)
  clear HBi HGi hb1 hx0 hx1
  cases b with
  | true =>
   rw [if_pos rfl] at HE
   simp only [Bool.not_true]
   go_wp2
   have hi : wrap64 ((i : Int) + 1) = ((i + 1 : Nat) : Int):=by
    have:=HM.out;have:=HK.out;have h9:=of_decide_eq_true p0;unfold wrap64;omega
   go_roundg (l.length - i - 1)
   case measure=>have:=HK.out;have h9:=of_decide_eq_true p0;omega
   case rel=>exact ⟨i + 1,congrArg (Value.int .i64) hi,⟨by have:=HK.out;have h9:=of_decide_eq_true p0;omega⟩,HE,n1_,n0_⟩
  | false =>
   have hr : r = false:=by
    have:=HE.out
    simp at this
    exact this
   subst hr
   simp only [Bool.not_false]
   go_wp2
   go_ret
   exact ⟨⟨(i : Int),rfl,by simp⟩,n0_.out⟩
set_option maxHeartbeats 800000 in
set_option maxRecDepth 100000 in
theorem zv.cont_1 (k : Nat) (a0 : Int) (A_ : Option Addr) (c : Nat) (l : List S30) (g : Nat) (r : Bool) (w : World) (hr : Kd.C k30 w A_ l.length l) (hg : w.heap[g]? = some (.cells #[.int .i64 a0] 3 (0,0))) (h : zv.all k a0 l = some r) :
 Calls Try.prog 105 #[.slice A_ l.length c,.func (.func 126) #[] #[.pointer (some ⟨g,0,none⟩)]] w fun e w'=>e = .returned (.bool (!r)) ∧ Below w.heap.size w w':=by
 have HB:=z1.mk (Below.refl w.heap.size w)
 have HG:=z1.mk hg
 have HR:=z1.mk hr
 have HA:=z1.mk h
 clear hg h hr
 go_enter Try.func105,Try.ntmps105
 go_wp2_with fail
 refine (zv.idx_1 k a0 A_ c l g r _ HR.out HG.out HA.out).mono ?_
 rintro e w1 ⟨⟨i,rfl,hi⟩,hb1⟩
 have hb:=z1.mk hb1
 have hj:=z1.mk hi
 clear hb1 hi
 go_wp2
 go_ret
 exact ⟨by rw [← hj.out];rfl,hb.out⟩
def zv.alls (k : Nat) (a0 : Int) : List (List S30) → Option Bool
 | []=>some true
 | x :: xs=>(zv.all k a0 x).bind fun b=>if b = true then zv.alls k a0 xs else some false
theorem zv.z5n (a0 : Int) : ∀ (l : List (List S30)) (k : Nat),LeO (zv.alls k a0 l) (zv.alls (k + 1) a0 l)
 | [],k=>LeO.refl _
 | x :: xs,k=>LeO.bind (zv.z39 a0 x k) (fun b=>LeO.ite (zv.z5n a0 xs k) (LeO.refl _))
theorem zv.z6W (k : Nat) (a0 : Int) (l : List (List S30)) (i : Nat) (h : i < l.length) : zv.alls k a0 (l.drop i) = (zv.all k a0 (z2m l (i : Int))).bind fun b=>if b = true then zv.alls k a0 (l.drop (i + 1)) else some false:=by
 rw [List.drop_eq_getElem_cons h]
 have e : z2m l (i : Int) = l[i]:=by unfold z2m;rw [Int.toNat_natCast,List.getD_eq_getElem?_getD,List.getElem?_eq_getElem h];rfl
 rw [e];rfl
def zv.lens (s : Int) (l : List (List S30)) : Bool:=l.all fun x=>(x.length : Int) == s
theorem zv.z7j (s : Int) (l : List (List S30)) (i : Nat) (h : i < l.length) : zv.lens s (l.drop i) = (((z2m l (i : Int)).length : Int) == s && zv.lens s (l.drop (i + 1))):=by
 unfold zv.lens
 rw [List.drop_eq_getElem_cons h]
 have e : z2m l (i : Int) = l[i]:=by unfold z2m;rw [Int.toNat_natCast,List.getD_eq_getElem?_getD,List.getElem?_eq_getElem h];rfl
 rw [e];rfl
def zv.f (k : Nat) (a0 : Int) (l1 : List (List S30)) (l2 : List S30) : Option Int :=
 (zP.f k a0).bind fun s=>if s = 0 then some 1 else if zv.lens s l1 = false then some 6 else (zv.alls k a0 l1).bind fun b=>if b = false then some 5 else (zv.all k a0 l2).bind fun b=>some (if b = true then 0 else 5)
theorem zv.mono : ∀ a0 a1 a2 k,LeO (zv.f k a0 a1 a2) (zv.f (k + 1) a0 a1 a2):=fun a0 l m k =>
 LeO.bind (zP.mono a0 k) (fun s=>LeO.ite (LeO.refl _) (LeO.ite (LeO.refl _) (LeO.bind (zv.z5n a0 l k) (fun b=>LeO.ite (LeO.refl _) (LeO.bind (zv.z39 a0 m k) (fun b=>LeO.refl _))))))
set_option maxHeartbeats 800000 in
set_option maxRecDepth 100000 in
theorem zv.calls (k : Nat) (a0 : Int) (A1 : Option Addr) (c1 : Nat) (l1 : List (List S30)) (A2 : Option Addr) (c2 : Nat) (l2 : List S30) (r : Int) (w : World) (hr1 : Kd.C (Kd.slice 30 k30) w A1 l1.length l1) (hc1 : l1.length ≤ c1) (hr2 : Kd.C k30 w A2 l2.length l2) (hc2 : l2.length ≤ c2) (h : zv.f k a0 l1 l2 = some r) :
 Calls Try.prog 90 #[.int .i64 a0,.slice A1 l1.length c1,.slice A2 l2.length c2] w fun e w'=>e = .returned (.int .i64 r) ∧ Below w.heap.size w w':=by
 have hmf : ∀ (fn : Fn) (first cap : Array Value) (w : World),(Instr.makeFunc fn first cap).run Try.prog w = .ok (.func fn first cap) w:=fun _ _ _ _=>rfl
 obtain ⟨s,hs,h⟩:=Option.bind_eq_some_iff.mp h
 have HB:=z1.mk (Below.refl w.heap.size w)
 have HR1:=z1.mk hr1
 have HR2:=z1.mk hr2
 have HM:=z1.mk (Kd.C_max hr1)
 have HS:=z1.mk hs
 have HA:=z1.mk h
 clear h hr1 hr2 hs
 by_cases p0 : s = 0
 · have e1:=HA.out
   rw [if_pos p0] at e1
   have q0 : (s == 0) = true:=beq_iff_eq.mpr p0
   have q1 : decide (s = 0) = true:=decide_eq_true p0
   obtain rfl:=Option.some.inj e1
   clear p0 e1 HA
   go_enter Try.func90,Try.ntmps90
   go_wp2_with (first
    | ((with_reducible refine zF (N:=3) rfl ?_);refine zG ?hg (N:=3) ?hd (cs:=#[.int .i64 a0]) (t:=3) ?hr ?_;(case hd=>rfl);(case hg=>rfl);(case hr=>first|(go_simp;done)|(go_simp;rfl));intro gb hgb w1_ hbox hb;have n0_:=z1.mk (z4 HB.out hb);have n1_:=z1.mk hbox;have hc0 : w1_.cell? ⟨gb,0,none⟩ = some (.int .i64 a0):=(zc hbox 0).trans rfl;clear HB hbox hb hgb;have HB:=n0_;have HG:=n1_;clear n0_ n1_)
    | ((with_reducible refine zl (f:=92) rfl ?_);refine goesL_ (some 13) rfl rfl Try.func92 zz78 rfl #[.int .i64 a0] rfl zz73 ?_;(with_reducible refine (zP.calls k a0 s _ HS.out).mono ?_);rintro e w2_ ⟨rfl,hd2⟩;refine ⟨_,rfl,?_⟩;have hb2:=hd2.below;(try clear hc0);have n0_:=z1.mk (z4 HB.out hb2);have n1_:=z1.mk (zg (g:=gb) (o:=(.cells #[.int .i64 a0] 3 (0,0))) HG.out hb2);have hc0 : w2_.cell? ⟨gb,0,none⟩ = some (.int .i64 a0):=(zc n1_.out 0).trans rfl;clear HB HG hb2;have HB:=n0_;have HG:=n1_;clear n0_ n1_))
   go_ret
   exact ⟨rfl,HB.out⟩
 have e1:=HA.out
 rw [if_neg p0] at e1
 have q0 : (s == 0) = false:=beq_eq_false_iff_ne.mpr p0
 have q1 : decide (s = 0) = false:=decide_eq_false p0
 have H1:=z1.mk e1
 clear p0 e1 HA
 go_enter Try.func90,Try.ntmps90
 go_wp2_with (first
  | ((with_reducible refine zF (N:=3) rfl ?_);refine zG ?hg (N:=3) ?hd (cs:=#[.int .i64 a0]) (t:=3) ?hr ?_;(case hd=>rfl);(case hg=>rfl);(case hr=>first|(go_simp;done)|(go_simp;rfl));intro gb hgb w1_ hbox hb;have n0_:=z1.mk (z4 HB.out hb);have n1_:=z1.mk hbox;have hc0 : w1_.cell? ⟨gb,0,none⟩ = some (.int .i64 a0):=(zc hbox 0).trans rfl;clear HB hbox hb hgb;have HB:=n0_;have HG:=n1_;clear n0_ n1_)
  | ((with_reducible refine zl (f:=92) rfl ?_);refine goesL_ (some 13) rfl rfl Try.func92 zz78 rfl #[.int .i64 a0] rfl zz73 ?_;(with_reducible refine (zP.calls k a0 s _ HS.out).mono ?_);rintro e w2_ ⟨rfl,hd2⟩;refine ⟨_,rfl,?_⟩;have hb2:=hd2.below;(try clear hc0);have n0_:=z1.mk (z4 HB.out hb2);have n1_:=z1.mk (zg (g:=gb) (o:=(.cells #[.int .i64 a0] 3 (0,0))) HG.out hb2);have hc0 : w2_.cell? ⟨gb,0,none⟩ = some (.int .i64 a0):=(zc n1_.out 0).trans rfl;clear HB HG hb2;have HB:=n0_;have HG:=n1_;clear n0_ n1_))
 go_loopg [17] l1.length (fun kq v8 w'=>∃ (i : Nat),v8 = .int .i64 i ∧ z1 (i + kq = l1.length) ∧ z1 (zv.lens s (l1.drop i) = zv.lens s l1) ∧ z1 (w'.heap[gb]? = some (.cells #[.int .i64 a0] 3 (0,0))) ∧ z1 (Below w.heap.size w w'))
 case atStart=>exact ⟨0,rfl,⟨by omega⟩,⟨rfl⟩,HG,HB⟩
 case round =>
  obtain ⟨i,rfl,HK,HAi,HGi,HBi⟩:=hrel
  clear HG HB
  (try clear hc0)
  by_cases hlt : i < l1.length
  · have hd:=zv.z7j s l1 i hlt
    rw [HAi.out] at hd
    obtain ⟨ad,A0,c0,e205,hx0,hl0,g0⟩:=at_L3 (Kd.z1X HR1.out HBi.out) (i : Int) zz80 zz80
    cases e205
    rw [Int.toNat_natCast] at hx0
    clear hl0 g0
    have hc0:=(zc HGi.out 0).trans rfl
    have p0 : decide (i < l1.length) = true:=decide_eq_true hlt
    have p1 : decide ((i : Int) < (l1.length : Int)) = true:=decide_eq_true zz80
    have p2 : (0 ≤ (i : Int)) = True:=eq_true zz80
    have p3 : ((i : Int) < (l1.length : Int)) = True:=eq_true zz80
    clear hlt
    cases hq : (((z2m l1 (i : Int)).length : Int) == s) with
    | true =>
     have hq1 : (((z2m l1 (i : Int)).length : Int) != s) = false:=by unfold bne;rw [hq];rfl
     rw [hq,Bool.true_and] at hd
     have HD:=z1.mk hd.symm
     clear hd HAi
     go_wp2_with (first
      | ((with_reducible refine zl (f:=92) rfl ?_);refine goesL_ (some 24) rfl rfl Try.func92 zz78 rfl #[.int .i64 a0] rfl zz73 ?_;(with_reducible refine (zP.calls k a0 s _ HS.out).mono ?_);rintro e w2_ ⟨rfl,hd2⟩;refine ⟨_,rfl,?_⟩;have hb2:=hd2.below;(try clear hc0);have n0_:=z1.mk (z4 HBi.out hb2);have n1_:=z1.mk (zg (g:=gb) (o:=(.cells #[.int .i64 a0] 3 (0,0))) HGi.out hb2);have hc0 : w2_.cell? ⟨gb,0,none⟩ = some (.int .i64 a0):=(zc n1_.out 0).trans rfl;clear HBi HGi hb2;have HB:=n0_;have HG:=n1_;clear n0_ n1_))
     have hi : wrap64 ((i : Int) + 1) = ((i + 1 : Nat) : Int):=by
      have:=HM.out;have:=HK.out;have h9:=of_decide_eq_true p0;unfold wrap64;omega
     go_roundg (l1.length - i - 1)
     case measure=>have:=HK.out;have h9:=of_decide_eq_true p0;omega
     case rel=>exact ⟨i + 1,congrArg (Value.int .i64) hi,⟨by have:=HK.out;have h9:=of_decide_eq_true p0;omega⟩,HD,HG,HB⟩
    | false =>
     have hq1 : (((z2m l1 (i : Int)).length : Int) != s) = true:=by unfold bne;rw [hq];rfl
     rw [hq,Bool.false_and] at hd
     have e2:=H1.out
     rw [if_pos hd] at e2
     obtain rfl:=Option.some.inj e2
     clear hd HAi e2 H1
     go_wp2_with (first
      | ((with_reducible refine zl (f:=92) rfl ?_);refine goesL_ (some 24) rfl rfl Try.func92 zz78 rfl #[.int .i64 a0] rfl zz73 ?_;(with_reducible refine (zP.calls k a0 s _ HS.out).mono ?_);rintro e w2_ ⟨rfl,hd2⟩;refine ⟨_,rfl,?_⟩;have hb2:=hd2.below;(try clear hc0);have n0_:=z1.mk (z4 HBi.out hb2);have n1_:=z1.mk (zg (g:=gb) (o:=(.cells #[.int .i64 a0] 3 (0,0))) HGi.out hb2);have hc0 : w2_.cell? ⟨gb,0,none⟩ = some (.int .i64 a0):=(zc n1_.out 0).trans rfl;clear HBi HGi hb2;have HB:=n0_;have HG:=n1_;clear n0_ n1_))
     go_ret
     exact ⟨rfl,HB.out⟩
  have p0 : decide (i < l1.length) = false:=decide_eq_false hlt
  have p1 : decide ((i : Int) < (l1.length : Int)) = false:=decide_eq_false zz80
  have hd:=HAi.out
  rw [List.drop_eq_nil_of_le zz80] at hd
  have e2:=H1.out
  rw [if_neg (by rw [← hd];exact Bool.noConfusion)] at e2
  obtain ⟨bb,hb0,e3⟩:=Option.bind_eq_some_iff.mp e2
  have HC:=z1.mk hb0
  have H2:=z1.mk e3
  clear hlt HAi hd e2 e3 hb0 H1
  have HG:=HGi
  have HB:=HBi
  clear HGi HBi
  go_wp2
  go_loopg [30] l1.length (fun kq v8 w'=>∃ (i : Nat),v8 = .int .i64 i ∧ z1 (i + kq = l1.length) ∧ z1 (zv.alls k a0 (l1.drop i) = some bb) ∧ z1 (w'.heap[gb]? = some (.cells #[.int .i64 a0] 3 (0,0))) ∧ z1 (Below w.heap.size w w'))
  case atStart=>exact ⟨0,rfl,⟨by omega⟩,HC,HG,HB⟩
  case round =>
   obtain ⟨j,rfl,HKj,HAj,HGj,HBj⟩:=hrel
   clear HG HB
   clear p0 p1
   by_cases hlt : j < l1.length
   rotate_left
   · have p0 : decide (j < l1.length) = false:=decide_eq_false hlt
     have p1 : decide ((j : Int) < (l1.length : Int)) = false:=decide_eq_false zz80
     have h1:=HAj.out
     rw [List.drop_eq_nil_of_le zz80] at h1
     obtain rfl : true = bb:=Option.some.inj h1
     have e2:=H2.out
     rw [if_neg Bool.noConfusion] at e2
     obtain ⟨b,hb,e3⟩:=Option.bind_eq_some_iff.mp e2
     have HF:=z1.mk hb
     have hr : r = if b = true then 0 else 5:=(Option.some.inj e3).symm
     clear hlt HAj h1 e2 H2 hb e3
     cases b with
     | true =>
      subst hr
      go_wp2_with (first
       | ((with_reducible refine zl (f:=105) rfl ?_);refine goesL_ (some 40) rfl rfl Try.func105 zz78 rfl #[.slice A2 l2.length c2,.func (.func 126) #[] #[.pointer (some ⟨gb,0,none⟩)]] rfl zz73 ?_;(with_reducible refine (zv.cont_1 k a0 _ _ l2 gb _ _ (Kd.z1X HR2.out HBj.out) HGj.out HF.out).mono ?_);rintro e w2_ ⟨rfl,hb2⟩;refine ⟨_,rfl,?_⟩;(try clear hc0);have n0_:=z1.mk (z4 HBj.out hb2);have n1_:=z1.mk (zg (g:=gb) (o:=(.cells #[.int .i64 a0] 3 (0,0))) HGj.out hb2);have hc0 : w2_.cell? ⟨gb,0,none⟩ = some (.int .i64 a0):=(zc n1_.out 0).trans rfl;clear HBj HGj hb2;have HB:=n0_;have HG:=n1_;clear n0_ n1_))
      go_ret
      exact ⟨rfl,HB.out⟩
     | false =>
      subst hr
      go_wp2_with (first
       | ((with_reducible refine zl (f:=105) rfl ?_);refine goesL_ (some 40) rfl rfl Try.func105 zz78 rfl #[.slice A2 l2.length c2,.func (.func 126) #[] #[.pointer (some ⟨gb,0,none⟩)]] rfl zz73 ?_;(with_reducible refine (zv.cont_1 k a0 _ _ l2 gb _ _ (Kd.z1X HR2.out HBj.out) HGj.out HF.out).mono ?_);rintro e w2_ ⟨rfl,hb2⟩;refine ⟨_,rfl,?_⟩;(try clear hc0);have n0_:=z1.mk (z4 HBj.out hb2);have n1_:=z1.mk (zg (g:=gb) (o:=(.cells #[.int .i64 a0] 3 (0,0))) HGj.out hb2);have hc0 : w2_.cell? ⟨gb,0,none⟩ = some (.int .i64 a0):=(zc n1_.out 0).trans rfl;clear HBj HGj hb2;have HB:=n0_;have HG:=n1_;clear n0_ n1_))
      go_ret
      exact ⟨rfl,HB.out⟩
   have hd:=zv.z6W k a0 l1 j hlt
   have e1:=HAj.out
   rw [hd] at e1
   obtain ⟨b,hb,e2⟩:=Option.bind_eq_some_iff.mp e1
   clear e1 hd
   have HE:=z1.mk e2
   have HF:=z1.mk hb
   clear e2 hb
   obtain ⟨ad,A0,c0,e205,hx0,hl0,g0⟩:=at_L3 (Kd.z1X HR1.out HBj.out) (j : Int) zz80 zz80
   cases e205
   rw [Int.toNat_natCast] at hx0
   have G0:=z1.mk g0
   clear hl0 g0
   have p0 : decide (j < l1.length) = true:=decide_eq_true hlt
   have p1 : decide ((j : Int) < (l1.length : Int)) = true:=decide_eq_true zz80
   have p2 : (0 ≤ (j : Int)) = True:=eq_true zz80
   have p3 : ((j : Int) < (l1.length : Int)) = True:=eq_true zz80
   clear hlt
   cases b with
   | true =>
    rw [if_pos rfl] at HE
    go_wp2_with (first
     | ((with_reducible refine zl (f:=127) rfl ?_);refine goesL_ (some 36) rfl rfl Try.func127 zz78 rfl #[.slice A0 (z2m l1 (j : Int)).length c0,.func (.func 126) #[] #[.pointer (some ⟨gb,0,none⟩)]] rfl zz73 ?_;(with_reducible refine (zv.cont_0 k a0 _ _ (z2m l1 (j : Int)) gb _ _ G0.out HGj.out HF.out).mono ?_);rintro e w2_ ⟨rfl,hb2⟩;refine ⟨_,rfl,?_⟩;(try clear hc0);have n0_:=z1.mk (z4 HBj.out hb2);have n1_:=z1.mk (zg (g:=gb) (o:=(.cells #[.int .i64 a0] 3 (0,0))) HGj.out hb2);have hc0 : w2_.cell? ⟨gb,0,none⟩ = some (.int .i64 a0):=(zc n1_.out 0).trans rfl;clear HBj HGj hb2;have HB:=n0_;have HG:=n1_;clear n0_ n1_))
    have hi : wrap64 ((j : Int) + 1) = ((j + 1 : Nat) : Int):=by
     have:=HM.out;have:=HKj.out;have h9:=of_decide_eq_true p0;unfold wrap64;omega
    go_roundg (l1.length - j - 1)
    case measure=>have:=HKj.out;have h9:=of_decide_eq_true p0;omega
    case rel=>exact ⟨j + 1,congrArg (Value.int .i64) hi,⟨by have:=HKj.out;have h9:=of_decide_eq_true p0;omega⟩,HE,HG,HB⟩
   | false =>
    have hr : bb = false:=by
     have:=HE.out
     simp at this
     exact this
    subst hr
    have e2:=H2.out
    rw [if_pos rfl] at e2
    obtain rfl:=Option.some.inj e2
    clear e2 H2
    go_wp2_with (first
     | ((with_reducible refine zl (f:=127) rfl ?_);refine goesL_ (some 36) rfl rfl Try.func127 zz78 rfl #[.slice A0 (z2m l1 (j : Int)).length c0,.func (.func 126) #[] #[.pointer (some ⟨gb,0,none⟩)]] rfl zz73 ?_;(with_reducible refine (zv.cont_0 k a0 _ _ (z2m l1 (j : Int)) gb _ _ G0.out HGj.out HF.out).mono ?_);rintro e w2_ ⟨rfl,hb2⟩;refine ⟨_,rfl,?_⟩;(try clear hc0);have n0_:=z1.mk (z4 HBj.out hb2);have n1_:=z1.mk (zg (g:=gb) (o:=(.cells #[.int .i64 a0] 3 (0,0))) HGj.out hb2);have hc0 : w2_.cell? ⟨gb,0,none⟩ = some (.int .i64 a0):=(zc n1_.out 0).trans rfl;clear HBj HGj hb2;have HB:=n0_;have HG:=n1_;clear n0_ n1_))
    go_ret
    exact ⟨rfl,HB.out⟩
end Go.Proofs.Ytkhmpaooinpfoaa.P
namespace Go.Proofs.Ytkhmpaooinpfoaa.P
open Go.RowKit Go.Proofs.YtkhmpaooinpfoaaW.PrintWords Go.Proofs.YtkhmpaooinpfoaaW.PrintLast Go.Proofs.YtkhmpaooinpfoaaW.PrintMore
attribute [local go_sem] z12 z14 z1b z1c zW zX z13 z15   -- for this text's walks alone
set_option linter.unusedVariables false
set_option linter.unusedSimpArgs false
def zI.j0 : Nat → Int → Bool → Option (Int × Int)
 | 0,_,_=>none
 | k + 1,x0,x3=>if x3 = true then (if 0 ≤ x0 then (some (0,shl .u64 1 x0)) else (none)) else (if x0 ≥ 64 then (if x0 < 128 then (if 0 ≤ (wrap64 (x0 - 64)) then (some (shl .u64 1 (wrap64 (x0 - 64)),0)) else (none)) else (some (0,0))) else (some (0,0)))
def zI.f (k : Nat) (a0 : Int) : Option (Int × Int):=if a0 ≥ 0 then (zI.j0 k a0 (decide (a0 < 64))) else (zI.j0 k a0 false)
theorem zI.z17 : ∀ k,(∀ y0 y1,LeO (zI.j0 k y0 y1) (zI.j0 (k + 1) y0 y1))
 | 0=>fun _ _ r h=>by simp [zI.j0] at h
 | k + 1=>by
  have ih0:=zI.z17 k
  · intro y0 y1
    unfold zI.j0
    repeat' first
    | (with_reducible exact ih0 _ _)
    | (with_reducible exact LeO.refl _)
    | (with_reducible exact LeO.none _)
    | (with_reducible refine LeO.ite ?_ ?_)
    | (with_reducible refine LeO.bind ?_ (fun _=>?_))
    | exact ih0 _ _
    | exact LeO.none _
    | refine LeO.ite ?_ ?_
    | refine LeO.bind ?_ (fun _=>?_)
theorem zI.mono : ∀ a0 k,LeO (zI.f k a0) (zI.f (k + 1) a0):=by
 intro a0 k
 have ih0:=zI.z17 k
 unfold zI.f
 repeat' first
  | (with_reducible exact ih0 _ _)
  | (with_reducible exact LeO.refl _)
  | (with_reducible exact LeO.none _)
  | (with_reducible refine LeO.ite ?_ ?_)
  | (with_reducible refine LeO.bind ?_ (fun _=>?_))
  | exact ih0 _ _
  | exact LeO.none _
  | refine LeO.ite ?_ ?_
  | refine LeO.bind ?_ (fun _=>?_)
set_option maxHeartbeats 8000000 in
set_option maxRecDepth 100000 in
theorem zI.calls (k : Nat) (a0 : Int) (r1 : Int) (r2 : Int) (w : World) (h : zI.f k a0 = some (r1,r2)) :
 Calls Try.prog 94 #[.int .i64 a0] w fun e w'=>e = .returned (.agg #[.int .u64 r1,.int .u64 r2]) ∧ Below w.heap.size w w':=by
 have hu30:=Try.underlying30
 have HB:=z1.mk (Below.refl w.heap.size w)
 have H : (if a0 ≥ 0 then (zI.j0 k a0 (decide (a0 < 64))) else (zI.j0 k a0 false)) = some (r1,r2):=h
 clear h
 have HC2:=z1.mk H
 clear H
 go_enter Try.func94,Try.ntmps94
 go_upto_region 1 with (first|((with_reducible refine zF (N:=2) rfl ?_);refine zG ?hg (N:=2) ?hd (cs:=#[.int .u64 0,.int .u64 0]) (t:=30) ?hr ?_;(case hd=>rfl);(case hg=>rfl);(case hr=>first|(go_simp;done)|(go_simp;rfl));intro gb101 hg w3 hbox hb;have n0_:=z1.mk (z4 zz28 hb);have n1_:=z1.mk (hbox);have n2_:=z1.mk ((by rw [hg];exact (z5 zz28) : w.heap.size ≤ gb101));have n3_:=z1.mk ((by rw [hg];exact (z5 zz28) : w.heap.size ≤ gb101));clear HB;have HB:=n0_;have BK101:=n1_;have GW101:=n2_;have GE101:=n3_;clear n0_ n1_ n2_ n3_;clear hb hbox hg))
 (try simp only [Act.put,List.setIfInBounds_toArray,List.set_cons_zero,List.set_cons_succ])
 go_cut [3] (fun v3 wc=>∃ (kq : Nat) (x3_1 : Bool),v3 = .bool x3_1 ∧ z1 (zI.j0 kq a0 x3_1 = some (r1,r2)) ∧ z1 (kq ≤ k) ∧ z1 (wc.heap[gb101]? = some (.cells #[.int .u64 0,.int .u64 0] 30 (0,0))) ∧ z1 (Below w.heap.size w wc))
 case first =>
  have H:=HC2.out
  clear HC2
  by_cases c4 : a0 ≥ 0
  rotate_left
  · rw [if_neg c4] at H
    have c4b0 : decide (0 ≤ a0) = false:=decide_eq_false c4
    clear c4
    (first|rw [c4b0]|(simp only [zS,zZ];rw [c4b0])|skip)
    have H':=z1.mk H
    clear H
    go_wp2
    go_meet
    case rel=>exact ⟨_,(false),zz75,H',⟨by first|omega|exact Nat.le_refl _⟩,⟨by (with_reducible repeat (first|refine zb ?_ _|refine zf ?_|refine za ?_ _));exact BK101.out⟩,⟨by repeat (first|(with_reducible first|exact HB.out|apply z7|apply z2|apply z6|refine zd ?_ GE101.out)|exact HB.out)⟩⟩
  rw [if_pos c4] at H
  have c4b0 : decide (0 ≤ a0) = true:=decide_eq_true c4
  clear c4
  (first|rw [c4b0]|(simp only [zS,zZ];rw [c4b0])|skip)
  have H':=z1.mk H
  clear H
  go_wp2
  go_meet
  case rel=>exact ⟨_,(decide (a0 < 64)),zz75,H',⟨by first|omega|exact Nat.le_refl _⟩,⟨by (with_reducible repeat (first|refine zb ?_ _|refine zf ?_|refine za ?_ _));exact BK101.out⟩,⟨by repeat (first|(with_reducible first|exact HB.out|apply z7|apply z2|apply z6|refine zd ?_ GE101.out)|exact HB.out)⟩⟩
 case rest =>
  clear HC2
  (try clear p2);(try clear c4);(try clear c4b0)
  obtain ⟨kq,x3_1,rfl,HA,HJ1,BK101,HB⟩:=hcut
  cases kq with
  | zero=>exact absurd HA.out (by simp [zI.j0])
  | succ kj1 =>
   have H:=HA.out
   clear HA
   simp only [zI.j0] at H
   by_cases c5 : x3_1 = true
   · subst c5
     have H1 : (if 0 ≤ a0 then (some (0,shl .u64 1 a0)) else (none)) = some (r1,r2):=by rw [if_pos rfl] at H;exact H
     clear H
     have H:=H1
     clear H1
     by_cases c6 : 0 ≤ a0
     rotate_left
     · rw [if_neg c6] at H
       exact absurd H zz81
     rw [if_pos c6] at H
     have c6b0:=eq_true c6
     have c6b1 : decide (0 ≤ a0) = true:=decide_eq_true c6
     clear c6
     obtain ⟨ji7,hji7⟩ : ∃ j_ : Int,(shl .u64 1 a0) = j_:=⟨_,rfl⟩
     replace H : (some (0,ji7)) = some (r1,r2):=by first|(rw [hji7] at H;exact H)|(simp only [hji7] at H ⊢;exact H)
     have hji7_ : (IntKind.u64.wrap (1 * 2 ^ min a0.toNat 64)) = ji7:=hji7
     have hji7z : a0 ≤ 64 → (IntKind.u64.wrap (1 * 2 ^ a0.toNat)) = ji7:=z1S hji7
     have hji7n0 : 0 ≤ ji7:=by rw [← hji7];exact Int.emod_nonneg _ zz79
     have hji7n1 : decide (0 ≤ ji7) = true:=decide_eq_true hji7n0
     replace hji7n0:=eq_true hji7n0
     have hji7u : (IntKind.u64.wrap (2 ^ min a0.toNat 64)) = ji7:=by have h_:=hji7_;rw [Int.one_mul] at h_;exact h_
     have hji7v : a0 ≤ 64 → (IntKind.u64.wrap (2 ^ a0.toNat)) = ji7:=fun hle_=>by have h_:=hji7z hle_;rw [Int.one_mul] at h_;exact h_
     simp only [Option.some.injEq,Prod.mk.injEq] at H
     obtain ⟨rfl,rfl⟩:=H
     have hcz8_0 : wc.cell? ⟨gb101,0,none⟩ = some (.int .u64 0):=(zc BK101.out 0).trans rfl
     have hcz8_1 : wc.cell? ⟨gb101,1,none⟩ = some (.int .u64 0):=(zc BK101.out 1).trans rfl
     have hfz8_0:=z8 BK101.out 0
     have hfz8_1:=z8 BK101.out 1
     go_wp2
     refine bodyPost_ret (results_cell_row rfl _ _ gb101 30 #[.int .u64 0,.int .u64 ji7] (0,0) _ rfl zz7 Try.underlying30 rfl zz78) rfl ?_
     exact ⟨by first|rfl|(simp [zi,zj] <;> rfl)|(simp only [← hji7];first|rfl|(simp [zi,zj] <;> rfl))|(simp [*,zi,zj] <;> rfl),by repeat (first|(with_reducible first|exact HB.out|apply z7|apply z2|apply z6|refine zd ?_ GE101.out)|exact HB.out)⟩
   replace c5:=Bool.eq_false_iff.mpr c5
   subst c5
   have H1 : (if a0 ≥ 64 then (if a0 < 128 then (if 0 ≤ (wrap64 (a0 - 64)) then (some (shl .u64 1 (wrap64 (a0 - 64)),0)) else (none)) else (some (0,0))) else (some (0,0))) = some (r1,r2):=by rw [if_neg (show ¬ (false = true) by decide)] at H;exact H
   clear H
   have H:=H1
   clear H1
   by_cases c9 : a0 ≥ 64
   rotate_left
   · rw [if_neg c9] at H
     have c9b0 : decide (64 ≤ a0) = false:=decide_eq_false c9
     clear c9
     simp only [Option.some.injEq,Prod.mk.injEq] at H
     obtain ⟨rfl,rfl⟩:=H
     have hcz16_0 : wc.cell? ⟨gb101,0,none⟩ = some (.int .u64 0):=(zc BK101.out 0).trans rfl
     have hcz16_1 : wc.cell? ⟨gb101,1,none⟩ = some (.int .u64 0):=(zc BK101.out 1).trans rfl
     have hfz16_0:=z8 BK101.out 0
     have hfz16_1:=z8 BK101.out 1
     go_wp2
     refine bodyPost_ret (results_cell_row rfl _ _ gb101 30 #[.int .u64 0,.int .u64 0] (0,0) _ rfl zz7 Try.underlying30 rfl zz78) rfl ?_
     exact ⟨by first|rfl|(simp [zi,zj] <;> rfl)|(simp [*,zi,zj] <;> rfl),by repeat (first|(with_reducible first|exact HB.out|apply z7|apply z2|apply z6|refine zd ?_ GE101.out)|exact HB.out)⟩
   rw [if_pos c9] at H
   have c9b0 : decide (64 ≤ a0) = true:=decide_eq_true c9
   clear c9
   by_cases c10 : a0 < 128
   rotate_left
   · rw [if_neg c10] at H
     have c10b0 : decide (a0 < 128) = false:=decide_eq_false c10
     clear c10
     simp only [Option.some.injEq,Prod.mk.injEq] at H
     obtain ⟨rfl,rfl⟩:=H
     have hcz15_0 : wc.cell? ⟨gb101,0,none⟩ = some (.int .u64 0):=(zc BK101.out 0).trans rfl
     have hcz15_1 : wc.cell? ⟨gb101,1,none⟩ = some (.int .u64 0):=(zc BK101.out 1).trans rfl
     have hfz15_0:=z8 BK101.out 0
     have hfz15_1:=z8 BK101.out 1
     go_wp2
     refine bodyPost_ret (results_cell_row rfl _ _ gb101 30 #[.int .u64 0,.int .u64 0] (0,0) _ rfl zz7 Try.underlying30 rfl zz78) rfl ?_
     exact ⟨by first|rfl|(simp [zi,zj] <;> rfl)|(simp [*,zi,zj] <;> rfl),by repeat (first|(with_reducible first|exact HB.out|apply z7|apply z2|apply z6|refine zd ?_ GE101.out)|exact HB.out)⟩
   rw [if_pos c10] at H
   have c10b0 : decide (a0 < 128) = true:=decide_eq_true c10
   clear c10
   obtain ⟨ji11,hji11⟩ : ∃ j_ : Int,(wrap64 (a0 - 64)) = j_:=⟨_,rfl⟩
   replace H : (if 0 ≤ (ji11) then (some (shl .u64 1 (ji11),0)) else (none)) = some (r1,r2):=by first|(rw [hji11] at H;exact H)|(simp only [hji11] at H ⊢;exact H)
   have hji11w : (IntKind.i64.wrap (a0 - 64)) = ji11:=(zS _).trans hji11
   by_cases c12 : 0 ≤ (ji11)
   rotate_left
   · rw [if_neg c12] at H
     exact absurd H zz81
   rw [if_pos c12] at H
   have c12b0:=eq_true c12
   have c12b1 : decide (0 ≤ (ji11)) = true:=decide_eq_true c12
   clear c12
   obtain ⟨ji13,hji13⟩ : ∃ j_ : Int,(shl .u64 1 (ji11)) = j_:=⟨_,rfl⟩
   replace H : (some (ji13,0)) = some (r1,r2):=by first|(rw [hji13] at H;exact H)|(simp only [hji13] at H ⊢;exact H)
   have hji13_ : (IntKind.u64.wrap (1 * 2 ^ min (ji11).toNat 64)) = ji13:=hji13
   have hji13z : (ji11) ≤ 64 → (IntKind.u64.wrap (1 * 2 ^ (ji11).toNat)) = ji13:=z1S hji13
   have hji13n0 : 0 ≤ ji13:=by rw [← hji13];exact Int.emod_nonneg _ zz79
   have hji13n1 : decide (0 ≤ ji13) = true:=decide_eq_true hji13n0
   replace hji13n0:=eq_true hji13n0
   have hji13u : (IntKind.u64.wrap (2 ^ min (ji11).toNat 64)) = ji13:=by have h_:=hji13_;rw [Int.one_mul] at h_;exact h_
   have hji13v : (ji11) ≤ 64 → (IntKind.u64.wrap (2 ^ (ji11).toNat)) = ji13:=fun hle_=>by have h_:=hji13z hle_;rw [Int.one_mul] at h_;exact h_
   simp only [Option.some.injEq,Prod.mk.injEq] at H
   obtain ⟨rfl,rfl⟩:=H
   have hcz14_0 : wc.cell? ⟨gb101,0,none⟩ = some (.int .u64 0):=(zc BK101.out 0).trans rfl
   have hcz14_1 : wc.cell? ⟨gb101,1,none⟩ = some (.int .u64 0):=(zc BK101.out 1).trans rfl
   have hfz14_0:=z8 BK101.out 0
   have hfz14_1:=z8 BK101.out 1
   go_wp2
   refine bodyPost_ret (results_cell_row rfl _ _ gb101 30 #[.int .u64 ji13,.int .u64 0] (0,0) _ rfl (by (with_reducible repeat (first|refine zb ?_ _|refine zf ?_|refine za ?_ _));refine z1m (cs:=#[.int .u64 ji13,.int .u64 0]) ?_ 1 _ rfl;(with_reducible repeat (first|refine zb ?_ _|refine zf ?_|refine za ?_ _));refine z1m (cs:=#[.int .u64 0,.int .u64 0]) ?_ 0 _ rfl;(with_reducible repeat (first|refine zb ?_ _|refine zf ?_|refine za ?_ _));exact BK101.out) Try.underlying30 rfl zz78) rfl ?_
   exact ⟨by first|rfl|(simp [zi,zj] <;> rfl)|(simp only [← hji11,← hji13];first|rfl|(simp [zi,zj] <;> rfl))|(simp [*,zi,zj] <;> rfl),by repeat (first|(with_reducible first|exact HB.out|apply z7|apply z2|apply z6|refine zd ?_ GE101.out)|exact HB.out)⟩
end Go.Proofs.Ytkhmpaooinpfoaa.P
namespace Go.Proofs.Ytkhmpaooinpfoaa.P
open Go.RowKit Go.Proofs.YtkhmpaooinpfoaaW.PrintWords Go.Proofs.YtkhmpaooinpfoaaW.PrintLast Go.Proofs.YtkhmpaooinpfoaaW.PrintMore
attribute [local go_sem] z12 z14 z1b z1c zW zX z13 z15   -- for this text's walks alone
set_option linter.unusedVariables false
set_option linter.unusedSimpArgs false
theorem eqA30 (d : Nat) (w : World) (x0 y0 : Int) (x1 y1 : Int) :
 (Op.equalIn (d + 2) 30 (.agg #[.int .u64 x0,.int .u64 x1]) (.agg #[.int .u64 y0,.int .u64 y1])).run Try.prog w = .ok (x0 == y0 && (x1 == y1)) w:=by
 refine eqA_of Try.underlying30 zz78 ?_
 refine z66 zz82 zz76 zz76 (by go_simp) ?_
 exact z67 zz82 zz76 zz76 (by go_simp)
end Go.Proofs.Ytkhmpaooinpfoaa.P
namespace Go.Proofs.Ytkhmpaooinpfoaa.P
open Go.RowKit Go.Proofs.YtkhmpaooinpfoaaW.PrintWords Go.Proofs.YtkhmpaooinpfoaaW.PrintLast Go.Proofs.YtkhmpaooinpfoaaW.PrintMore
attribute [local go_sem] z12 z14 z1b z1c zW zX z13 z15   -- for this text's walks alone
set_option linter.unusedVariables false
set_option linter.unusedSimpArgs false
def z1L.f (a0_0 : Int) (a0_1 : Int) (a1_0 : Int) (a1_1 : Int) : Option (Int × Int):=some (Go.bits .xor .u64 a0_0 a1_0,Go.bits .xor .u64 a0_1 a1_1)
set_option maxHeartbeats 8000000 in
set_option maxRecDepth 100000 in
theorem z1L.calls (a0_0 : Int) (a0_1 : Int) (a1_0 : Int) (a1_1 : Int) (r1 : Int) (r2 : Int) (w : World) (h : z1L.f a0_0 a0_1 a1_0 a1_1 = some (r1,r2)) :
 Calls Try.prog 64 #[.agg #[.int .u64 a0_0,.int .u64 a0_1],.agg #[.int .u64 a1_0,.int .u64 a1_1]] w fun e w'=>e = .returned (.agg #[.int .u64 r1,.int .u64 r2]) ∧ Below w.heap.size w w':=by
 have hu30:=Try.underlying30
 have HB:=z1.mk (Below.refl w.heap.size w)
 have H : (some (Go.bits .xor .u64 a0_0 a1_0,Go.bits .xor .u64 a0_1 a1_1)) = some (r1,r2):=h
 clear h
 simp only [Option.some.injEq,Prod.mk.injEq] at H
 obtain ⟨rfl,rfl⟩:=H
 go_enter Try.func64,Try.ntmps64
 go_wp2_with (first|((with_reducible refine zF (N:=2) rfl ?_);refine zG ?hg (N:=2) ?hd (cs:=#[.int .u64 a0_0,.int .u64 a0_1]) (t:=30) ?hr ?_;(case hd=>rfl);(case hg=>rfl);(case hr=>first|(go_simp;done)|(go_simp;rfl));intro gb101 hg w3 hbox hb;have n0_:=z1.mk (z4 zz28 hb);have n1_:=z1.mk (hbox);have n2_:=z1.mk ((by rw [hg];exact (z5 zz28) : w.heap.size ≤ gb101));have n3_:=z1.mk ((by rw [hg];exact (z5 zz28) : w.heap.size ≤ gb101));clear HB;have HB:=n0_;have BK101:=n1_;have GW101:=n2_;have GE101:=n3_;clear n0_ n1_ n2_ n3_;clear hb hbox hg)|((with_reducible refine zF (N:=3) rfl ?_);refine zG ?hg (N:=3) ?hd (cs:=#[.int .u64 a1_0,.int .u64 a1_1]) (t:=30) ?hr ?_;(case hd=>rfl);(case hg=>rfl);(case hr=>first|(go_simp;done)|(go_simp;rfl));intro gb102 hg w4 hbox hb;have n0_:=z1.mk (zg (g:=gb101) (o:=.cells #[.int .u64 a0_0,.int .u64 a0_1] 30 (0,0)) zz29 hb);have n1_:=z1.mk (z4 zz25 hb);have n2_:=z1.mk (hbox);have n3_:=z1.mk ((by rw [hg];exact (z5 zz25) : w.heap.size ≤ gb102));have n4_:=z1.mk ((by rw [hg];exact (z5 zz25) : w.heap.size ≤ gb102));have n5_:=z1.mk ((by rw [hg];exact Nat.ne_of_lt (zU (g:=gb101) (o:=.cells #[.int .u64 a0_0,.int .u64 a0_1] 30 (0,0)) zz29) : gb101 ≠ gb102));have n6_:=z1.mk ((by rw [hg];exact Nat.ne_of_gt (zU (g:=gb101) (o:=.cells #[.int .u64 a0_0,.int .u64 a0_1] 30 (0,0)) zz29) : gb102 ≠ gb101));clear BK101;clear HB;have BK101:=n0_;have HB:=n1_;have BK102:=n2_;have GW102:=n3_;have GE102:=n4_;have NB101_102:=n5_;have NB102_101:=n6_;clear n0_ n1_ n2_ n3_ n4_ n5_ n6_;clear hb hbox hg)|((with_reducible refine zF (N:=4) rfl ?_);refine zG ?hg (N:=4) ?hd (cs:=#[.int .u64 0,.int .u64 0]) (t:=30) ?hr ?_;(case hd=>rfl);(case hg=>rfl);(case hr=>first|(go_simp;done)|(go_simp;rfl));intro gb103 hg w5 hbox hb;have n0_:=z1.mk (zg (g:=gb101) (o:=.cells #[.int .u64 a0_0,.int .u64 a0_1] 30 (0,0)) zz29 hb);have n1_:=z1.mk (zg (g:=gb102) (o:=.cells #[.int .u64 a1_0,.int .u64 a1_1] 30 (0,0)) zz30 hb);have n2_:=z1.mk (z4 zz22 hb);have n3_:=z1.mk (hbox);have n4_:=z1.mk ((by rw [hg];exact (z5 zz22) : w.heap.size ≤ gb103));have n5_:=z1.mk ((by rw [hg];exact (z5 zz22) : w.heap.size ≤ gb103));have n6_:=z1.mk ((by rw [hg];exact Nat.ne_of_lt (zU (g:=gb101) (o:=.cells #[.int .u64 a0_0,.int .u64 a0_1] 30 (0,0)) zz29) : gb101 ≠ gb103));have n7_:=z1.mk ((by rw [hg];exact Nat.ne_of_gt (zU (g:=gb101) (o:=.cells #[.int .u64 a0_0,.int .u64 a0_1] 30 (0,0)) zz29) : gb103 ≠ gb101));have n8_:=z1.mk ((by rw [hg];exact Nat.ne_of_lt (zU (g:=gb102) (o:=.cells #[.int .u64 a1_0,.int .u64 a1_1] 30 (0,0)) zz30) : gb102 ≠ gb103));have n9_:=z1.mk ((by rw [hg];exact Nat.ne_of_gt (zU (g:=gb102) (o:=.cells #[.int .u64 a1_0,.int .u64 a1_1] 30 (0,0)) zz30) : gb103 ≠ gb102));clear BK101;clear BK102;clear HB;have BK101:=n0_;have BK102:=n1_;have HB:=n2_;have BK103:=n3_;have GW103:=n4_;have GE103:=n5_;have NB101_103:=n6_;have NB103_101:=n7_;have NB102_103:=n8_;have NB103_102:=n9_;clear n0_ n1_ n2_ n3_ n4_ n5_ n6_ n7_ n8_ n9_;clear hb hbox hg;have hnb6:=NB101_102.out;have hnc6:=NB102_101.out;have hnb7:=NB101_103.out;have hnc7:=NB103_101.out;have hcz8_0 : w5.cell? ⟨gb101,0,none⟩ = some (.int .u64 a0_0):=(zc BK101.out 0).trans rfl;have hcz8_1 : w5.cell? ⟨gb101,1,none⟩ = some (.int .u64 a0_1):=(zc BK101.out 1).trans rfl;have hfz8_0:=z8 BK101.out 0;have hfz8_1:=z8 BK101.out 1;have hnb9:=NB102_103.out;have hnc9:=NB103_102.out;have hcz10_0 : w5.cell? ⟨gb102,0,none⟩ = some (.int .u64 a1_0):=(zc BK102.out 0).trans rfl;have hcz10_1 : w5.cell? ⟨gb102,1,none⟩ = some (.int .u64 a1_1):=(zc BK102.out 1).trans rfl;have hfz10_0:=z8 BK102.out 0;have hfz10_1:=z8 BK102.out 1;have hcz11_0 : w5.cell? ⟨gb103,0,none⟩ = some (.int .u64 0):=(zc BK103.out 0).trans rfl;have hcz11_1 : w5.cell? ⟨gb103,1,none⟩ = some (.int .u64 0):=(zc BK103.out 1).trans rfl;have hfz11_0:=z8 BK103.out 0;have hfz11_1:=z8 BK103.out 1))
 refine bodyPost_ret (results_cell_row rfl _ _ gb103 30 #[.int .u64 (Go.bits .xor .u64 a0_0 a1_0),.int .u64 (Go.bits .xor .u64 a0_1 a1_1)] (0,0) _ rfl zz4 Try.underlying30 rfl zz78) rfl ?_
 exact ⟨by first|rfl|(simp [zi,zj] <;> rfl)|(simp [*,zi,zj] <;> rfl),by repeat (first|(with_reducible first|exact HB.out|apply z7|apply z2|apply z6|refine zd ?_ GE101.out|refine zd ?_ GE102.out|refine zd ?_ GE103.out)|exact HB.out)⟩
end Go.Proofs.Ytkhmpaooinpfoaa.P
namespace Go.Proofs.Ytkhmpaooinpfoaa.P
open Go.RowKit Go.Proofs.YtkhmpaooinpfoaaW.PrintWords Go.Proofs.YtkhmpaooinpfoaaW.PrintLast Go.Proofs.YtkhmpaooinpfoaaW.PrintMore
attribute [local go_sem] z12 z14 z1b z1c zW zX z13 z15   -- for this text's walks alone
set_option linter.unusedVariables false
set_option linter.unusedSimpArgs false
def z1u.f (a0 : Int) (a1 : Int) : Option (Int × Int):=if 0 ≤ (wrap64 (a0 - 1)) then (if 0 ≤ (shl .i64 1 (wrap64 (a0 - 1))) then (some (shr .u64 a1 (shl .i64 1 (wrap64 (a0 - 1))),Go.bits .and .u64 a1 (IntKind.u64.wrap ((shl .u64 1 (shl .i64 1 (wrap64 (a0 - 1)))) - 1)))) else (none)) else (none)
set_option maxHeartbeats 8000000 in
set_option maxRecDepth 100000 in
theorem z1u.calls (a0 : Int) (a1 : Int) (r1 : Int) (r2 : Int) (w : World) (h : z1u.f a0 a1 = some (r1,r2)) :
 Calls Try.prog 139 #[.int .i64 a0,.int .u64 a1] w fun e w'=>e = .returned (.tuple #[.int .u64 r1,.int .u64 r2]) ∧ Drawn0 w w':=by
 have H : (if 0 ≤ (wrap64 (a0 - 1)) then (if 0 ≤ (shl .i64 1 (wrap64 (a0 - 1))) then (some (shr .u64 a1 (shl .i64 1 (wrap64 (a0 - 1))),Go.bits .and .u64 a1 (IntKind.u64.wrap ((shl .u64 1 (shl .i64 1 (wrap64 (a0 - 1)))) - 1)))) else (none)) else (none)) = some (r1,r2):=h
 clear h
 obtain ⟨ji3,hji3⟩ : ∃ j_ : Int,(wrap64 (a0 - 1)) = j_:=⟨_,rfl⟩
 replace H : (if 0 ≤ (ji3) then (if 0 ≤ (shl .i64 1 (ji3)) then (some (shr .u64 a1 (shl .i64 1 (ji3)),Go.bits .and .u64 a1 (IntKind.u64.wrap ((shl .u64 1 (shl .i64 1 (ji3))) - 1)))) else (none)) else (none)) = some (r1,r2):=by first|(rw [hji3] at H;exact H)|(simp only [hji3] at H ⊢;exact H)
 have hji3w : (IntKind.i64.wrap (a0 - 1)) = ji3:=(zS _).trans hji3
 by_cases c4 : 0 ≤ (ji3)
 rotate_left
 · rw [if_neg c4] at H
   exact absurd H zz81
 rw [if_pos c4] at H
 have c4b0:=eq_true c4
 have c4b1 : decide (0 ≤ (ji3)) = true:=decide_eq_true c4
 clear c4
 obtain ⟨ji5,hji5⟩ : ∃ j_ : Int,(shl .i64 1 (ji3)) = j_:=⟨_,rfl⟩
 replace H : (if 0 ≤ (ji5) then (some (shr .u64 a1 (ji5),Go.bits .and .u64 a1 (IntKind.u64.wrap ((shl .u64 1 (ji5)) - 1)))) else (none)) = some (r1,r2):=by first|(rw [hji5] at H;exact H)|(simp only [hji5] at H ⊢;exact H)
 have hji5_ : (IntKind.i64.wrap (1 * 2 ^ min (ji3).toNat 64)) = ji5:=hji5
 have hji5z : (ji3) ≤ 64 → (IntKind.i64.wrap (1 * 2 ^ (ji3).toNat)) = ji5:=z1S hji5
 have hji5u : (IntKind.i64.wrap (2 ^ min (ji3).toNat 64)) = ji5:=by have h_:=hji5_;rw [Int.one_mul] at h_;exact h_
 have hji5v : (ji3) ≤ 64 → (IntKind.i64.wrap (2 ^ (ji3).toNat)) = ji5:=fun hle_=>by have h_:=hji5z hle_;rw [Int.one_mul] at h_;exact h_
 have hji5y : (wrap64 (1 * 2 ^ min (ji3).toNat 64)) = ji5:=(zS _).symm.trans hji5_
 have hji5x : (ji3) ≤ 64 → (wrap64 (1 * 2 ^ (ji3).toNat)) = ji5:=fun h_=>(zS _).symm.trans (hji5z h_)
 by_cases c6 : 0 ≤ (ji5)
 rotate_left
 · rw [if_neg c6] at H
   exact absurd H zz81
 rw [if_pos c6] at H
 have c6b0:=eq_true c6
 have c6b1 : decide (0 ≤ (ji5)) = true:=decide_eq_true c6
 clear c6
 obtain ⟨ji7,hji7⟩ : ∃ j_ : Int,(shr .u64 a1 (ji5)) = j_:=⟨_,rfl⟩
 replace H : (some (ji7,Go.bits .and .u64 a1 (IntKind.u64.wrap ((shl .u64 1 (ji5)) - 1)))) = some (r1,r2):=by first|(rw [hji7] at H;exact H)|(simp only [hji7] at H ⊢;exact H)
 have hji7_ : (a1 / 2 ^ min (ji5).toNat 64) = ji7:=hji7
 have hji7z : (ji5) ≤ 64 → (a1 / 2 ^ (ji5).toNat) = ji7:=z2M hji7
 have c8b0:=eq_true (of_decide_eq_true zz74 : 0 ≤ (ji5))
 obtain ⟨ji9,hji9⟩ : ∃ j_ : Int,(shl .u64 1 (ji5)) = j_:=⟨_,rfl⟩
 replace H : (some (ji7,Go.bits .and .u64 a1 (IntKind.u64.wrap ((ji9) - 1)))) = some (r1,r2):=by first|(rw [hji9] at H;exact H)|(simp only [hji9] at H ⊢;exact H)
 have hji9_ : (IntKind.u64.wrap (1 * 2 ^ min (ji5).toNat 64)) = ji9:=hji9
 have hji9z : (ji5) ≤ 64 → (IntKind.u64.wrap (1 * 2 ^ (ji5).toNat)) = ji9:=z1S hji9
 have hji9n0 : 0 ≤ ji9:=by rw [← hji9];exact Int.emod_nonneg _ zz79
 have hji9n1 : decide (0 ≤ ji9) = true:=decide_eq_true hji9n0
 replace hji9n0:=eq_true hji9n0
 have hji9u : (IntKind.u64.wrap (2 ^ min (ji5).toNat 64)) = ji9:=by have h_:=hji9_;rw [Int.one_mul] at h_;exact h_
 have hji9v : (ji5) ≤ 64 → (IntKind.u64.wrap (2 ^ (ji5).toNat)) = ji9:=fun hle_=>by have h_:=hji9z hle_;rw [Int.one_mul] at h_;exact h_
 simp only [Option.some.injEq,Prod.mk.injEq] at H
 obtain ⟨rfl,rfl⟩:=H
 go_enter Try.func139,Try.ntmps139
 go_wp2
 repeat (go_quiet (fail);try go_wp2)
 go_ret2
 exact ⟨by first|rfl|(simp;done)|(simp only [← hji3,← hji5,← hji7,← hji9] <;> (first|rfl|simp))|(simp [*];done),by repeat (first|exact Drawn0.refl _|apply Drawn0.step)⟩
end Go.Proofs.Ytkhmpaooinpfoaa.P
namespace Go.Proofs.Ytkhmpaooinpfoaa.P
open Go.RowKit Go.Proofs.YtkhmpaooinpfoaaW.PrintWords Go.Proofs.YtkhmpaooinpfoaaW.PrintLast Go.Proofs.YtkhmpaooinpfoaaW.PrintMore
attribute [local go_sem] z12 z14 z1b z1c zW zX z13 z15   -- for this text's walks alone
set_option linter.unusedVariables false
set_option linter.unusedSimpArgs false
def z1w.f (a0 : Int) (a1 : Int) (a2 : Int) : Option (Int):=if 0 ≤ (wrap64 (a0 - 1)) then (some (Go.bits .or .u64 (shl .u64 a1 (shl .u64 1 (wrap64 (a0 - 1)))) a2)) else (none)
set_option maxHeartbeats 8000000 in
set_option maxRecDepth 100000 in
theorem z1w.calls (a0 : Int) (a1 : Int) (a2 : Int) (r : Int) (w : World) (h : z1w.f a0 a1 a2 = some r) :
 Calls Try.prog 140 #[.int .i64 a0,.int .u64 a1,.int .u64 a2] w fun e w'=>e = .returned (.int .u64 r) ∧ Drawn0 w w':=by
 have H : (if 0 ≤ (wrap64 (a0 - 1)) then (some (Go.bits .or .u64 (shl .u64 a1 (shl .u64 1 (wrap64 (a0 - 1)))) a2)) else (none)) = some r:=h
 clear h
 obtain ⟨ji4,hji4⟩ : ∃ j_ : Int,(wrap64 (a0 - 1)) = j_:=⟨_,rfl⟩
 replace H : (if 0 ≤ (ji4) then (some (Go.bits .or .u64 (shl .u64 a1 (shl .u64 1 (ji4))) a2)) else (none)) = some r:=by first|(rw [hji4] at H;exact H)|(simp only [hji4] at H ⊢;exact H)
 have hji4w : (IntKind.i64.wrap (a0 - 1)) = ji4:=(zS _).trans hji4
 by_cases c5 : 0 ≤ (ji4)
 rotate_left
 · rw [if_neg c5] at H
   exact absurd H zz81
 rw [if_pos c5] at H
 have c5b0:=eq_true c5
 have c5b1 : decide (0 ≤ (ji4)) = true:=decide_eq_true c5
 clear c5
 obtain ⟨ji6,hji6⟩ : ∃ j_ : Int,(shl .u64 1 (ji4)) = j_:=⟨_,rfl⟩
 replace H : (some (Go.bits .or .u64 (shl .u64 a1 (ji6)) a2)) = some r:=by first|(rw [hji6] at H;exact H)|(simp only [hji6] at H ⊢;exact H)
 have hji6_ : (IntKind.u64.wrap (1 * 2 ^ min (ji4).toNat 64)) = ji6:=hji6
 have hji6z : (ji4) ≤ 64 → (IntKind.u64.wrap (1 * 2 ^ (ji4).toNat)) = ji6:=z1S hji6
 have hji6n0 : 0 ≤ ji6:=by rw [← hji6];exact Int.emod_nonneg _ zz79
 have hji6n1 : decide (0 ≤ ji6) = true:=decide_eq_true hji6n0
 replace hji6n0:=eq_true hji6n0
 have hji6u : (IntKind.u64.wrap (2 ^ min (ji4).toNat 64)) = ji6:=by have h_:=hji6_;rw [Int.one_mul] at h_;exact h_
 have hji6v : (ji4) ≤ 64 → (IntKind.u64.wrap (2 ^ (ji4).toNat)) = ji6:=fun hle_=>by have h_:=hji6z hle_;rw [Int.one_mul] at h_;exact h_
 obtain ⟨ji7,hji7⟩ : ∃ j_ : Int,(shl .u64 a1 (ji6)) = j_:=⟨_,rfl⟩
 replace H : (some (Go.bits .or .u64 (ji7) a2)) = some r:=by first|(rw [hji7] at H;exact H)|(simp only [hji7] at H ⊢;exact H)
 have hji7_ : (IntKind.u64.wrap (a1 * 2 ^ min (ji6).toNat 64)) = ji7:=hji7
 have hji7z : (ji6) ≤ 64 → (IntKind.u64.wrap (a1 * 2 ^ (ji6).toNat)) = ji7:=z1S hji7
 have hji7n0 : 0 ≤ ji7:=by rw [← hji7];exact Int.emod_nonneg _ zz79
 have hji7n1 : decide (0 ≤ ji7) = true:=decide_eq_true hji7n0
 replace hji7n0:=eq_true hji7n0
 obtain rfl:=Option.some.inj H
 go_enter Try.func140,Try.ntmps140
 go_wp2
 go_ret
 exact ⟨by first|rfl|(simp;done)|(simp only [← hji4,← hji6,← hji7] <;> (first|rfl|simp))|(simp [*];done),by repeat (first|exact Drawn0.refl _|apply Drawn0.step)⟩
end Go.Proofs.Ytkhmpaooinpfoaa.P
namespace Go.Proofs.Ytkhmpaooinpfoaa.P
open Go.RowKit Go.Proofs.YtkhmpaooinpfoaaW.PrintWords Go.Proofs.YtkhmpaooinpfoaaW.PrintLast Go.Proofs.YtkhmpaooinpfoaaW.PrintMore
attribute [local go_sem] z12 z14 z1b z1c zW zX z13 z15   -- for this text's walks alone
set_option linter.unusedVariables false
set_option linter.unusedSimpArgs false
def zV.f : Nat → Int → Int → Option (Int)
 | 0,_,_=>none
 | k + 1,a0,a1=>if a0 = 0 then (some a1) else ((z1u.f a0 a1).bind fun bt101=>((zV.f k (wrap64 (a0 - 1)) bt101.1).bind fun t103=>((z1w.f a0 (Go.bits .xor .u64 bt101.2 t103) bt101.1).bind fun t104=>(some t104))))
theorem zV.z17 : ∀ k,(∀ y0 y1,LeO (zV.f k y0 y1) (zV.f (k + 1) y0 y1))
 | 0=>fun _ _ r h=>by simp [zV.f] at h
 | k + 1=>by
  have ih0:=zV.z17 k
  · intro y0 y1
    unfold zV.f
    repeat' first
    | (with_reducible exact ih0 _ _)
    | (with_reducible exact LeO.refl _)
    | (with_reducible exact LeO.none _)
    | (with_reducible refine LeO.ite ?_ ?_)
    | (with_reducible refine LeO.bind ?_ (fun _=>?_))
    | exact ih0 _ _
    | exact LeO.none _
    | refine LeO.ite ?_ ?_
    | refine LeO.bind ?_ (fun _=>?_)
theorem zV.mono : ∀ a0 a1 k,LeO (zV.f k a0 a1) (zV.f (k + 1) a0 a1):=by
 intro a0 a1 k
 have ih0:=zV.z17 k
 exact ih0 a0 a1
set_option maxHeartbeats 8000000 in
set_option maxRecDepth 100000 in
theorem zV.calls (k : Nat) : ∀ (a0 : Int) (a1 : Int) (r : Int) (w : World) (h : zV.f k a0 a1 = some r),
 Calls Try.prog 118 #[.int .i64 a0,.int .u64 a1] w fun e w'=>e = .returned (.int .u64 r) ∧ Drawn0 w w':=by
 induction k using Nat.strongRecOn with
 | _ k ih =>
 intro a0 a1 r w h
 cases k with
 | zero=>exact absurd h (by simp [zV.f])
 | succ k =>
 simp only [zV.f] at h
 have H : (if a0 = 0 then (some a1) else ((z1u.f a0 a1).bind fun bt101=>((zV.f k (wrap64 (a0 - 1)) bt101.1).bind fun t103=>((z1w.f a0 (Go.bits .xor .u64 bt101.2 t103) bt101.1).bind fun t104=>(some t104))))) = some r:=h
 clear h
 by_cases c3 : a0 = 0
 · rw [if_pos c3] at H
   have c3b0 : (a0 == 0) = true:=beq_iff_eq.mpr c3
   have c3b1 : (a0 != 0) = false:=bne_eq_false_iff_eq.mpr c3
   clear c3
   obtain rfl:=Option.some.inj H
   go_enter Try.func118,Try.ntmps118
   go_wp2
   go_ret
   exact ⟨by first|rfl|(simp;done)|(simp [*];done),by repeat (first|exact Drawn0.refl _|apply Drawn0.step)⟩
 rw [if_neg c3] at H
 have c3b0 : (a0 == 0) = false:=beq_eq_false_iff_ne.mpr c3
 have c3b1 : (a0 != 0) = true:=bne_iff_ne.mpr c3
 replace H:=Option.bind_eq_some_iff.mp H
 obtain ⟨⟨t101,t102⟩,A40,H⟩:=H
 replace H : ((zV.f k (wrap64 (a0 - 1)) t101).bind fun t103=>((z1w.f a0 (Go.bits .xor .u64 t102 t103) t101).bind fun t104=>(some t104))) = some r:=H
 have A4:=z1.mk A40
 clear A40
 replace H:=Option.bind_eq_some_iff.mp H
 obtain ⟨t103,A50,H⟩:=H
 replace H : ((z1w.f a0 (Go.bits .xor .u64 t102 t103) t101).bind fun t104=>(some t104)) = some r:=H
 have A5:=z1.mk A50
 clear A50
 replace H:=Option.bind_eq_some_iff.mp H
 obtain ⟨t104,A60,H⟩:=H
 replace H : (some t104) = some r:=H
 have A6:=z1.mk A60
 clear A60
 obtain rfl:=Option.some.inj H
 go_enter Try.func118,Try.ntmps118
 go_wp2_with (first|((with_reducible refine zl (f:=139) rfl ?_);refine goesL_ (some 13) rfl rfl Try.func139 zz78 rfl #[.int .i64 a0,.int .u64 a1] rfl zz27 ?_;(with_reducible refine (z1u.calls a0 a1 t101 t102 _ A4.out).mono ?_);rintro e w' ⟨rfl,⟨nd,rfl⟩⟩;refine ⟨_,rfl,?_⟩)|((with_reducible refine zl (f:=118) rfl ?_);refine goesL_ (some 21) rfl rfl Try.func118 zz78 rfl #[.int .i64 (wrap64 (a0 - 1)),.int .u64 t101] rfl zz27 ?_;(with_reducible refine (ih k zz80 (wrap64 (a0 - 1)) t101 t103 _ A5.out).mono ?_);rintro e w' ⟨rfl,⟨nd,rfl⟩⟩;refine ⟨_,rfl,?_⟩)|((with_reducible refine zl (f:=140) rfl ?_);refine goesL_ (some 24) rfl rfl Try.func140 zz78 rfl #[.int .i64 a0,.int .u64 (Go.bits .xor .u64 t102 t103),.int .u64 t101] rfl zz27 ?_;(with_reducible refine (z1w.calls a0 (Go.bits .xor .u64 t102 t103) t101 t104 _ A6.out).mono ?_);rintro e w' ⟨rfl,⟨nd,rfl⟩⟩;refine ⟨_,rfl,?_⟩))
 go_ret
 exact ⟨by first|rfl|(simp;done)|(simp [*];done),by repeat (first|exact Drawn0.refl _|apply Drawn0.step)⟩
end Go.Proofs.Ytkhmpaooinpfoaa.P
namespace Go.Proofs.Ytkhmpaooinpfoaa.P
open Go.RowKit Go.Proofs.YtkhmpaooinpfoaaW.PrintWords Go.Proofs.YtkhmpaooinpfoaaW.PrintLast Go.Proofs.YtkhmpaooinpfoaaW.PrintMore
attribute [local go_sem] z12 z14 z1b z1c zW zX z13 z15   -- for this text's walks alone
set_option linter.unusedVariables false
set_option linter.unusedSimpArgs false
mutual
def zz.j0 : Nat → Int → Int → Int → Bool → Option (Int)
 | 0,_,_,_,_=>none
 | k + 1,x0,x1,x2,x23=>if x23 = true then (some (Go.bits .and .u64 (Go.bits .and .u64 x1 x2) 1)) else ((z1u.f x0 x1).bind fun bt101=>((z1u.f x0 x2).bind fun bt103=>((zz.f k (wrap64 (x0 - 1)) bt101.1 bt103.1).bind fun t105=>((zz.f k (wrap64 (x0 - 1)) bt101.2 bt103.2).bind fun t106=>((zz.f k (wrap64 (x0 - 1)) (Go.bits .xor .u64 bt101.1 bt101.2) (Go.bits .xor .u64 bt103.1 bt103.2)).bind fun t107=>((zV.f k (wrap64 (x0 - 1)) t105).bind fun t108=>((z1w.f x0 (Go.bits .xor .u64 (Go.bits .xor .u64 (Go.bits .xor .u64 t107 t105) t106) t108) (Go.bits .xor .u64 t106 t105)).bind fun t109=>(some t109))))))))
def zz.f : Nat → Int → Int → Int → Option (Int)
 | 0,_,_,_=>none
 | k + 1,a0,a1,a2=>if a0 = 0 then (zz.j0 k a0 a1 a2 true) else (if a1 = 0 then (zz.j0 k a0 a1 a2 true) else (zz.j0 k a0 a1 a2 (a2 == 0)))
end
theorem zz.z17 : ∀ k,(∀ y0 y1 y2,LeO (zz.f k y0 y1 y2) (zz.f (k + 1) y0 y1 y2)) ∧ (∀ y0 y1 y2 y3,LeO (zz.j0 k y0 y1 y2 y3) (zz.j0 (k + 1) y0 y1 y2 y3))
 | 0=>⟨fun _ _ _ r h=>by simp [zz.f] at h,fun _ _ _ _ r h=>by simp [zz.j0] at h⟩
 | k + 1=>by
  obtain ⟨ih0,ih1⟩:=zz.z17 k
  refine ⟨?_,?_⟩
  · intro y0 y1 y2
    unfold zz.f
    repeat' first
    | (with_reducible exact ih0 _ _ _)
    | (with_reducible exact ih1 _ _ _ _)
    | (with_reducible exact zV.mono _ _ _)
    | (with_reducible exact LeO.refl _)
    | (with_reducible exact LeO.none _)
    | (with_reducible refine LeO.ite ?_ ?_)
    | (with_reducible refine LeO.bind ?_ (fun _=>?_))
    | exact ih0 _ _ _
    | exact ih1 _ _ _ _
    | exact zV.mono _ _ _
    | exact LeO.none _
    | refine LeO.ite ?_ ?_
    | refine LeO.bind ?_ (fun _=>?_)
  · intro y0 y1 y2 y3
    unfold zz.j0
    repeat' first
    | (with_reducible exact ih0 _ _ _)
    | (with_reducible exact ih1 _ _ _ _)
    | (with_reducible exact zV.mono _ _ _)
    | (with_reducible exact LeO.refl _)
    | (with_reducible exact LeO.none _)
    | (with_reducible refine LeO.ite ?_ ?_)
    | (with_reducible refine LeO.bind ?_ (fun _=>?_))
    | exact ih0 _ _ _
    | exact ih1 _ _ _ _
    | exact zV.mono _ _ _
    | exact LeO.none _
    | refine LeO.ite ?_ ?_
    | refine LeO.bind ?_ (fun _=>?_)
theorem zz.mono : ∀ a0 a1 a2 k,LeO (zz.f k a0 a1 a2) (zz.f (k + 1) a0 a1 a2):=by
 intro a0 a1 a2 k
 obtain ⟨ih0,ih1⟩:=zz.z17 k
 exact ih0 a0 a1 a2
set_option maxHeartbeats 8000000 in
set_option maxRecDepth 100000 in
theorem zz.calls (k : Nat) : ∀ (a0 : Int) (a1 : Int) (a2 : Int) (r : Int) (w : World) (h : zz.f k a0 a1 a2 = some r),
 Calls Try.prog 117 #[.int .i64 a0,.int .u64 a1,.int .u64 a2] w fun e w'=>e = .returned (.int .u64 r) ∧ Drawn0 w w':=by
 induction k using Nat.strongRecOn with
 | _ k ih =>
 intro a0 a1 a2 r w h
 cases k with
 | zero=>exact absurd h (by simp [zz.f])
 | succ k =>
 simp only [zz.f] at h
 have H : (if a0 = 0 then (zz.j0 k a0 a1 a2 true) else (if a1 = 0 then (zz.j0 k a0 a1 a2 true) else (zz.j0 k a0 a1 a2 (a2 == 0)))) = some r:=h
 clear h
 have HC4:=z1.mk H
 clear H
 go_enter Try.func117,Try.ntmps117
 go_upto_region 1 with (fail)
 go_cut [23] (fun v23 wc=>∃ (kq : Nat) (x23_3 : Bool),v23 = .bool x23_3 ∧ z1 (zz.j0 kq a0 a1 a2 x23_3 = some r) ∧ z1 (kq ≤ k) ∧ Drawn0 w wc)
 case first =>
  have H:=HC4.out
  clear HC4
  by_cases c5 : a0 = 0
  · rw [if_pos c5] at H
    have c5b0 : (a0 == 0) = true:=beq_iff_eq.mpr c5
    have c5b1 : (a0 != 0) = false:=bne_eq_false_iff_eq.mpr c5
    clear c5
    (first|rw [c5b0]|(simp only [zS,zZ];rw [c5b0])|skip)
    have H':=z1.mk H
    clear H
    go_wp2
    go_meet
    case rel=>exact ⟨_,(true),zz75,H',⟨by first|omega|exact Nat.le_refl _⟩,by repeat (first|exact Drawn0.refl _|apply Drawn0.step)⟩
  rw [if_neg c5] at H
  have c5b0 : (a0 == 0) = false:=beq_eq_false_iff_ne.mpr c5
  have c5b1 : (a0 != 0) = true:=bne_iff_ne.mpr c5
  (first|rw [c5b0]|(simp only [zS,zZ];rw [c5b0])|skip)
  by_cases c6 : a1 = 0
  rotate_left
  · rw [if_neg c6] at H
    have c6b0 : (a1 == 0) = false:=beq_eq_false_iff_ne.mpr c6
    have c6b1 : (a1 != 0) = true:=bne_iff_ne.mpr c6
    have H':=z1.mk H
    clear H
    go_wp2
    go_meet
    case rel=>exact ⟨_,((a2 == 0)),zz75,H',⟨by first|omega|exact Nat.le_refl _⟩,by repeat (first|exact Drawn0.refl _|apply Drawn0.step)⟩
  rw [if_pos c6] at H
  have c6b0 : (a1 == 0) = true:=beq_iff_eq.mpr c6
  have c6b1 : (a1 != 0) = false:=bne_eq_false_iff_eq.mpr c6
  clear c6
  have H':=z1.mk H
  clear H
  go_wp2
  go_meet
  case rel=>exact ⟨_,(true),zz75,H',⟨by first|omega|exact Nat.le_refl _⟩,by repeat (first|exact Drawn0.refl _|apply Drawn0.step)⟩
 case rest =>
  clear HC4
  (try clear c1);(try clear p2);(try clear c5);(try clear c5b0);(try clear c5b1);(try clear c6);(try clear c6b0);(try clear c6b1)
  obtain ⟨kq,x23_3,rfl,HA,HJ3,⟨mc3,rfl⟩⟩:=hcut
  cases kq with
  | zero=>exact absurd HA.out (by simp [zz.j0])
  | succ kj3 =>
   have H:=HA.out
   clear HA
   simp only [zz.j0] at H
   by_cases c7 : x23_3 = true
   · subst c7
     have H1 : (some (Go.bits .and .u64 (Go.bits .and .u64 a1 a2) 1)) = some r:=by rw [if_pos rfl] at H;exact H
     clear H
     have H:=H1
     clear H1
     obtain rfl:=Option.some.inj H
     go_wp2
     go_ret
     exact ⟨by first|rfl|(simp;done)|(simp [*];done),by repeat (first|exact Drawn0.refl _|apply Drawn0.step)⟩
   replace c7:=Bool.eq_false_iff.mpr c7
   subst c7
   have H1 : ((z1u.f a0 a1).bind fun bt101=>((z1u.f a0 a2).bind fun bt103=>((zz.f kj3 (wrap64 (a0 - 1)) bt101.1 bt103.1).bind fun t105=>((zz.f kj3 (wrap64 (a0 - 1)) bt101.2 bt103.2).bind fun t106=>((zz.f kj3 (wrap64 (a0 - 1)) (Go.bits .xor .u64 bt101.1 bt101.2) (Go.bits .xor .u64 bt103.1 bt103.2)).bind fun t107=>((zV.f kj3 (wrap64 (a0 - 1)) t105).bind fun t108=>((z1w.f a0 (Go.bits .xor .u64 (Go.bits .xor .u64 (Go.bits .xor .u64 t107 t105) t106) t108) (Go.bits .xor .u64 t106 t105)).bind fun t109=>(some t109)))))))) = some r:=by rw [if_neg (show ¬ (false = true) by decide)] at H;exact H
   clear H
   have H:=H1
   clear H1
   replace H:=Option.bind_eq_some_iff.mp H
   obtain ⟨⟨t101,t102⟩,A80,H⟩:=H
   replace H : ((z1u.f a0 a2).bind fun bt103=>((zz.f kj3 (wrap64 (a0 - 1)) t101 bt103.1).bind fun t105=>((zz.f kj3 (wrap64 (a0 - 1)) t102 bt103.2).bind fun t106=>((zz.f kj3 (wrap64 (a0 - 1)) (Go.bits .xor .u64 t101 t102) (Go.bits .xor .u64 bt103.1 bt103.2)).bind fun t107=>((zV.f kj3 (wrap64 (a0 - 1)) t105).bind fun t108=>((z1w.f a0 (Go.bits .xor .u64 (Go.bits .xor .u64 (Go.bits .xor .u64 t107 t105) t106) t108) (Go.bits .xor .u64 t106 t105)).bind fun t109=>(some t109))))))) = some r:=H
   have A8:=z1.mk A80
   clear A80
   replace H:=Option.bind_eq_some_iff.mp H
   obtain ⟨⟨t103,t104⟩,A90,H⟩:=H
   replace H : ((zz.f kj3 (wrap64 (a0 - 1)) t101 t103).bind fun t105=>((zz.f kj3 (wrap64 (a0 - 1)) t102 t104).bind fun t106=>((zz.f kj3 (wrap64 (a0 - 1)) (Go.bits .xor .u64 t101 t102) (Go.bits .xor .u64 t103 t104)).bind fun t107=>((zV.f kj3 (wrap64 (a0 - 1)) t105).bind fun t108=>((z1w.f a0 (Go.bits .xor .u64 (Go.bits .xor .u64 (Go.bits .xor .u64 t107 t105) t106) t108) (Go.bits .xor .u64 t106 t105)).bind fun t109=>(some t109)))))) = some r:=H
   have A9:=z1.mk A90
   clear A90
   replace H:=Option.bind_eq_some_iff.mp H
   obtain ⟨t105,A100,H⟩:=H
   replace H : ((zz.f kj3 (wrap64 (a0 - 1)) t102 t104).bind fun t106=>((zz.f kj3 (wrap64 (a0 - 1)) (Go.bits .xor .u64 t101 t102) (Go.bits .xor .u64 t103 t104)).bind fun t107=>((zV.f kj3 (wrap64 (a0 - 1)) t105).bind fun t108=>((z1w.f a0 (Go.bits .xor .u64 (Go.bits .xor .u64 (Go.bits .xor .u64 t107 t105) t106) t108) (Go.bits .xor .u64 t106 t105)).bind fun t109=>(some t109))))) = some r:=H
   have A10:=z1.mk A100
   clear A100
   replace H:=Option.bind_eq_some_iff.mp H
   obtain ⟨t106,A110,H⟩:=H
   replace H : ((zz.f kj3 (wrap64 (a0 - 1)) (Go.bits .xor .u64 t101 t102) (Go.bits .xor .u64 t103 t104)).bind fun t107=>((zV.f kj3 (wrap64 (a0 - 1)) t105).bind fun t108=>((z1w.f a0 (Go.bits .xor .u64 (Go.bits .xor .u64 (Go.bits .xor .u64 t107 t105) t106) t108) (Go.bits .xor .u64 t106 t105)).bind fun t109=>(some t109)))) = some r:=H
   have A11:=z1.mk A110
   clear A110
   replace H:=Option.bind_eq_some_iff.mp H
   obtain ⟨t107,A120,H⟩:=H
   replace H : ((zV.f kj3 (wrap64 (a0 - 1)) t105).bind fun t108=>((z1w.f a0 (Go.bits .xor .u64 (Go.bits .xor .u64 (Go.bits .xor .u64 t107 t105) t106) t108) (Go.bits .xor .u64 t106 t105)).bind fun t109=>(some t109))) = some r:=H
   have A12:=z1.mk A120
   clear A120
   replace H:=Option.bind_eq_some_iff.mp H
   obtain ⟨t108,A130,H⟩:=H
   replace H : ((z1w.f a0 (Go.bits .xor .u64 (Go.bits .xor .u64 (Go.bits .xor .u64 t107 t105) t106) t108) (Go.bits .xor .u64 t106 t105)).bind fun t109=>(some t109)) = some r:=H
   have A13:=z1.mk A130
   clear A130
   replace H:=Option.bind_eq_some_iff.mp H
   obtain ⟨t109,A140,H⟩:=H
   replace H : (some t109) = some r:=H
   have A14:=z1.mk A140
   clear A140
   obtain rfl:=Option.some.inj H
   go_wp2_with (first|((with_reducible refine zl (f:=139) rfl ?_);refine goesL_ (some 31) rfl rfl Try.func139 zz78 rfl #[.int .i64 a0,.int .u64 a1] rfl zz27 ?_;(with_reducible refine (z1u.calls a0 a1 t101 t102 _ A8.out).mono ?_);rintro e w' ⟨rfl,⟨nd,rfl⟩⟩;refine ⟨_,rfl,?_⟩)|((with_reducible refine zl (f:=139) rfl ?_);refine goesL_ (some 37) rfl rfl Try.func139 zz78 rfl #[.int .i64 a0,.int .u64 a2] rfl zz27 ?_;(with_reducible refine (z1u.calls a0 a2 t103 t104 _ A9.out).mono ?_);rintro e w' ⟨rfl,⟨nd,rfl⟩⟩;refine ⟨_,rfl,?_⟩)|((with_reducible refine zl (f:=117) rfl ?_);refine goesL_ (some 44) rfl rfl Try.func117 zz78 rfl #[.int .i64 (wrap64 (a0 - 1)),.int .u64 t101,.int .u64 t103] rfl zz27 ?_;(with_reducible refine (ih kj3 (by have:=HJ3.out;omega) (wrap64 (a0 - 1)) t101 t103 t105 _ A10.out).mono ?_);rintro e w' ⟨rfl,⟨nd,rfl⟩⟩;refine ⟨_,rfl,?_⟩)|((with_reducible refine zl (f:=117) rfl ?_);refine goesL_ (some 49) rfl rfl Try.func117 zz78 rfl #[.int .i64 (wrap64 (a0 - 1)),.int .u64 t102,.int .u64 t104] rfl zz27 ?_;(with_reducible refine (ih kj3 (by have:=HJ3.out;omega) (wrap64 (a0 - 1)) t102 t104 t106 _ A11.out).mono ?_);rintro e w' ⟨rfl,⟨nd,rfl⟩⟩;refine ⟨_,rfl,?_⟩)|((with_reducible refine zl (f:=117) rfl ?_);refine goesL_ (some 58) rfl rfl Try.func117 zz78 rfl #[.int .i64 (wrap64 (a0 - 1)),.int .u64 (Go.bits .xor .u64 t101 t102),.int .u64 (Go.bits .xor .u64 t103 t104)] rfl zz27 ?_;(with_reducible refine (ih kj3 (by have:=HJ3.out;omega) (wrap64 (a0 - 1)) (Go.bits .xor .u64 t101 t102) (Go.bits .xor .u64 t103 t104) t107 _ A12.out).mono ?_);rintro e w' ⟨rfl,⟨nd,rfl⟩⟩;refine ⟨_,rfl,?_⟩)|((with_reducible refine zl (f:=118) rfl ?_);refine goesL_ (some 68) rfl rfl Try.func118 zz78 rfl #[.int .i64 (wrap64 (a0 - 1)),.int .u64 t105] rfl zz27 ?_;(with_reducible refine (zV.calls kj3 (wrap64 (a0 - 1)) t105 t108 _ A13.out).mono ?_);rintro e w' ⟨rfl,⟨nd,rfl⟩⟩;refine ⟨_,rfl,?_⟩)|((with_reducible refine zl (f:=140) rfl ?_);refine goesL_ (some 73) rfl rfl Try.func140 zz78 rfl #[.int .i64 a0,.int .u64 (Go.bits .xor .u64 (Go.bits .xor .u64 (Go.bits .xor .u64 t107 t105) t106) t108),.int .u64 (Go.bits .xor .u64 t106 t105)] rfl zz27 ?_;(with_reducible refine (z1w.calls a0 (Go.bits .xor .u64 (Go.bits .xor .u64 (Go.bits .xor .u64 t107 t105) t106) t108) (Go.bits .xor .u64 t106 t105) t109 _ A14.out).mono ?_);rintro e w' ⟨rfl,⟨nd,rfl⟩⟩;refine ⟨_,rfl,?_⟩))
   go_ret
   exact ⟨by first|rfl|(simp;done)|(simp [*];done),by repeat (first|exact Drawn0.refl _|apply Drawn0.step)⟩
end Go.Proofs.Ytkhmpaooinpfoaa.P
namespace Go.Proofs.Ytkhmpaooinpfoaa.P
open Go.RowKit Go.Proofs.YtkhmpaooinpfoaaW.PrintWords Go.Proofs.YtkhmpaooinpfoaaW.PrintLast Go.Proofs.YtkhmpaooinpfoaaW.PrintMore
attribute [local go_sem] z12 z14 z1b z1c zW zX z13 z15   -- for this text's walks alone
set_option linter.unusedVariables false
set_option linter.unusedSimpArgs false
def z10.j0 : Nat → Int → Bool → Int → Int → Int → Int → Option (Int × Int)
 | 0,_,_,_,_,_,_=>none
 | k + 1,x0,x10,x102000,x102001,x103000,x103001=>if x10 = true then (some (0,0)) else (if x0 ≤ 6 then ((zz.f k x0 x102001 x103001).bind fun t106=>(some (0,t106))) else ((zz.f k 6 x102000 x103000).bind fun t107=>((zz.f k 6 x102001 x103001).bind fun t108=>((zz.f k 6 (Go.bits .xor .u64 x102000 x102001) (Go.bits .xor .u64 x103000 x103001)).bind fun t109=>((zV.f k 6 t107).bind fun t110=>(some (Go.bits .xor .u64 (Go.bits .xor .u64 (Go.bits .xor .u64 t109 t107) t108) t110,Go.bits .xor .u64 t108 t107)))))))
def z10.f (k : Nat) (a0 : Int) (a1_0 : Int) (a1_1 : Int) (a2_0 : Int) (a2_1 : Int) : Option (Int × Int):=(zM.f k a0 a1_0 a1_1).bind fun t104=>(if t104 = true then ((zM.f k a0 a2_0 a2_1).bind fun t105=>(z10.j0 k a0 (!t105) a1_0 a1_1 a2_0 a2_1)) else (z10.j0 k a0 true a1_0 a1_1 a2_0 a2_1))
theorem z10.z17 : ∀ k,(∀ y0 y1 y2 y3 y4 y5,LeO (z10.j0 k y0 y1 y2 y3 y4 y5) (z10.j0 (k + 1) y0 y1 y2 y3 y4 y5))
 | 0=>fun _ _ _ _ _ _ r h=>by simp [z10.j0] at h
 | k + 1=>by
  have ih0:=z10.z17 k
  · intro y0 y1 y2 y3 y4 y5
    unfold z10.j0
    repeat' first
    | (with_reducible exact ih0 _ _ _ _ _ _)
    | (with_reducible exact zM.mono _ _ _ _)
    | (with_reducible exact zz.mono _ _ _ _)
    | (with_reducible exact zV.mono _ _ _)
    | (with_reducible exact LeO.refl _)
    | (with_reducible exact LeO.none _)
    | (with_reducible refine LeO.ite ?_ ?_)
    | (with_reducible refine LeO.bind ?_ (fun _=>?_))
    | exact ih0 _ _ _ _ _ _
    | exact zM.mono _ _ _ _
    | exact zz.mono _ _ _ _
    | exact zV.mono _ _ _
    | exact LeO.none _
    | refine LeO.ite ?_ ?_
    | refine LeO.bind ?_ (fun _=>?_)
theorem z10.mono : ∀ a0 a1 a2 a3 a4 k,LeO (z10.f k a0 a1 a2 a3 a4) (z10.f (k + 1) a0 a1 a2 a3 a4):=by
 intro a0 a1 a2 a3 a4 k
 have ih0:=z10.z17 k
 unfold z10.f
 repeat' first
  | (with_reducible exact ih0 _ _ _ _ _ _)
  | (with_reducible exact zM.mono _ _ _ _)
  | (with_reducible exact zz.mono _ _ _ _)
  | (with_reducible exact zV.mono _ _ _)
  | (with_reducible exact LeO.refl _)
  | (with_reducible exact LeO.none _)
  | (with_reducible refine LeO.ite ?_ ?_)
  | (with_reducible refine LeO.bind ?_ (fun _=>?_))
  | exact ih0 _ _ _ _ _ _
  | exact zM.mono _ _ _ _
  | exact zz.mono _ _ _ _
  | exact zV.mono _ _ _
  | exact LeO.none _
  | refine LeO.ite ?_ ?_
  | refine LeO.bind ?_ (fun _=>?_)
set_option maxHeartbeats 8000000 in
set_option maxRecDepth 100000 in
theorem z10.calls (k : Nat) (a0 : Int) (a1_0 : Int) (a1_1 : Int) (a2_0 : Int) (a2_1 : Int) (r1 : Int) (r2 : Int) (w : World) (h : z10.f k a0 a1_0 a1_1 a2_0 a2_1 = some (r1,r2)) :
 Calls Try.prog 78 #[.int .i64 a0,.agg #[.int .u64 a1_0,.int .u64 a1_1],.agg #[.int .u64 a2_0,.int .u64 a2_1]] w fun e w'=>e = .returned (.agg #[.int .u64 r1,.int .u64 r2]) ∧ Below w.heap.size w w':=by
 have hu30:=Try.underlying30
 have HB:=z1.mk (Below.refl w.heap.size w)
 have H : ((zM.f k a0 a1_0 a1_1).bind fun t104=>(if t104 = true then ((zM.f k a0 a2_0 a2_1).bind fun t105=>(z10.j0 k a0 (!t105) a1_0 a1_1 a2_0 a2_1)) else (z10.j0 k a0 true a1_0 a1_1 a2_0 a2_1))) = some (r1,r2):=h
 clear h
 have HC4:=z1.mk H
 clear H
 go_enter Try.func78,Try.ntmps78
 go_upto_region 1 with (first|((with_reducible refine zF (N:=4) rfl ?_);refine zG ?hg (N:=4) ?hd (cs:=#[.int .u64 a1_0,.int .u64 a1_1]) (t:=30) ?hr ?_;(case hd=>rfl);(case hg=>rfl);(case hr=>first|(go_simp;done)|(go_simp;rfl));intro gb101 hg w5 hbox hb;have n0_:=z1.mk (z4 zz28 hb);have n1_:=z1.mk (hbox);have n2_:=z1.mk ((by rw [hg];exact (z5 zz28) : w.heap.size ≤ gb101));have n3_:=z1.mk ((by rw [hg];exact (z5 zz28) : w.heap.size ≤ gb101));clear HB;have HB:=n0_;have BK101:=n1_;have GW101:=n2_;have GE101:=n3_;clear n0_ n1_ n2_ n3_;clear hb hbox hg)|((with_reducible refine zF (N:=5) rfl ?_);refine zG ?hg (N:=5) ?hd (cs:=#[.int .u64 a2_0,.int .u64 a2_1]) (t:=30) ?hr ?_;(case hd=>rfl);(case hg=>rfl);(case hr=>first|(go_simp;done)|(go_simp;rfl));intro gb102 hg w6 hbox hb;have n0_:=z1.mk (zg (g:=gb101) (o:=.cells #[.int .u64 a1_0,.int .u64 a1_1] 30 (0,0)) zz29 hb);have n1_:=z1.mk (z4 zz25 hb);have n2_:=z1.mk (hbox);have n3_:=z1.mk ((by rw [hg];exact (z5 zz25) : w.heap.size ≤ gb102));have n4_:=z1.mk ((by rw [hg];exact (z5 zz25) : w.heap.size ≤ gb102));have n5_:=z1.mk ((by rw [hg];exact Nat.ne_of_lt (zU (g:=gb101) (o:=.cells #[.int .u64 a1_0,.int .u64 a1_1] 30 (0,0)) zz29) : gb101 ≠ gb102));have n6_:=z1.mk ((by rw [hg];exact Nat.ne_of_gt (zU (g:=gb101) (o:=.cells #[.int .u64 a1_0,.int .u64 a1_1] 30 (0,0)) zz29) : gb102 ≠ gb101));clear BK101;clear HB;have BK101:=n0_;have HB:=n1_;have BK102:=n2_;have GW102:=n3_;have GE102:=n4_;have NB101_102:=n5_;have NB102_101:=n6_;clear n0_ n1_ n2_ n3_ n4_ n5_ n6_;clear hb hbox hg)|((with_reducible refine zF (N:=6) rfl ?_);refine zG ?hg (N:=6) ?hd (cs:=#[.int .u64 0,.int .u64 0]) (t:=30) ?hr ?_;(case hd=>rfl);(case hg=>rfl);(case hr=>first|(go_simp;done)|(go_simp;rfl));intro gb103 hg w7 hbox hb;have n0_:=z1.mk (zg (g:=gb101) (o:=.cells #[.int .u64 a1_0,.int .u64 a1_1] 30 (0,0)) zz29 hb);have n1_:=z1.mk (zg (g:=gb102) (o:=.cells #[.int .u64 a2_0,.int .u64 a2_1] 30 (0,0)) zz30 hb);have n2_:=z1.mk (z4 zz22 hb);have n3_:=z1.mk (hbox);have n4_:=z1.mk ((by rw [hg];exact (z5 zz22) : w.heap.size ≤ gb103));have n5_:=z1.mk ((by rw [hg];exact (z5 zz22) : w.heap.size ≤ gb103));have n6_:=z1.mk ((by rw [hg];exact Nat.ne_of_lt (zU (g:=gb101) (o:=.cells #[.int .u64 a1_0,.int .u64 a1_1] 30 (0,0)) zz29) : gb101 ≠ gb103));have n7_:=z1.mk ((by rw [hg];exact Nat.ne_of_gt (zU (g:=gb101) (o:=.cells #[.int .u64 a1_0,.int .u64 a1_1] 30 (0,0)) zz29) : gb103 ≠ gb101));have n8_:=z1.mk ((by rw [hg];exact Nat.ne_of_lt (zU (g:=gb102) (o:=.cells #[.int .u64 a2_0,.int .u64 a2_1] 30 (0,0)) zz30) : gb102 ≠ gb103));have n9_:=z1.mk ((by rw [hg];exact Nat.ne_of_gt (zU (g:=gb102) (o:=.cells #[.int .u64 a2_0,.int .u64 a2_1] 30 (0,0)) zz30) : gb103 ≠ gb102));clear BK101;clear BK102;clear HB;have BK101:=n0_;have BK102:=n1_;have HB:=n2_;have BK103:=n3_;have GW103:=n4_;have GE103:=n5_;have NB101_103:=n6_;have NB103_101:=n7_;have NB102_103:=n8_;have NB103_102:=n9_;clear n0_ n1_ n2_ n3_ n4_ n5_ n6_ n7_ n8_ n9_;clear hb hbox hg))
 repeat (go_quiet (first|((with_reducible refine zF (N:=4) rfl ?_);refine zG ?hg (N:=4) ?hd (cs:=#[.int .u64 a1_0,.int .u64 a1_1]) (t:=30) ?hr ?_;(case hd=>rfl);(case hg=>rfl);(case hr=>first|(go_simp;done)|(go_simp;rfl));intro gb101 hg w5 hbox hb;have n0_:=z1.mk (z4 zz28 hb);have n1_:=z1.mk (hbox);have n2_:=z1.mk ((by rw [hg];exact (z5 zz28) : w.heap.size ≤ gb101));have n3_:=z1.mk ((by rw [hg];exact (z5 zz28) : w.heap.size ≤ gb101));clear HB;have HB:=n0_;have BK101:=n1_;have GW101:=n2_;have GE101:=n3_;clear n0_ n1_ n2_ n3_;clear hb hbox hg)|((with_reducible refine zF (N:=5) rfl ?_);refine zG ?hg (N:=5) ?hd (cs:=#[.int .u64 a2_0,.int .u64 a2_1]) (t:=30) ?hr ?_;(case hd=>rfl);(case hg=>rfl);(case hr=>first|(go_simp;done)|(go_simp;rfl));intro gb102 hg w6 hbox hb;have n0_:=z1.mk (zg (g:=gb101) (o:=.cells #[.int .u64 a1_0,.int .u64 a1_1] 30 (0,0)) zz29 hb);have n1_:=z1.mk (z4 zz25 hb);have n2_:=z1.mk (hbox);have n3_:=z1.mk ((by rw [hg];exact (z5 zz25) : w.heap.size ≤ gb102));have n4_:=z1.mk ((by rw [hg];exact (z5 zz25) : w.heap.size ≤ gb102));have n5_:=z1.mk ((by rw [hg];exact Nat.ne_of_lt (zU (g:=gb101) (o:=.cells #[.int .u64 a1_0,.int .u64 a1_1] 30 (0,0)) zz29) : gb101 ≠ gb102));have n6_:=z1.mk ((by rw [hg];exact Nat.ne_of_gt (zU (g:=gb101) (o:=.cells #[.int .u64 a1_0,.int .u64 a1_1] 30 (0,0)) zz29) : gb102 ≠ gb101));clear BK101;clear HB;have BK101:=n0_;have HB:=n1_;have BK102:=n2_;have GW102:=n3_;have GE102:=n4_;have NB101_102:=n5_;have NB102_101:=n6_;clear n0_ n1_ n2_ n3_ n4_ n5_ n6_;clear hb hbox hg)|((with_reducible refine zF (N:=6) rfl ?_);refine zG ?hg (N:=6) ?hd (cs:=#[.int .u64 0,.int .u64 0]) (t:=30) ?hr ?_;(case hd=>rfl);(case hg=>rfl);(case hr=>first|(go_simp;done)|(go_simp;rfl));intro gb103 hg w7 hbox hb;have n0_:=z1.mk (zg (g:=gb101) (o:=.cells #[.int .u64 a1_0,.int .u64 a1_1] 30 (0,0)) zz29 hb);have n1_:=z1.mk (zg (g:=gb102) (o:=.cells #[.int .u64 a2_0,.int .u64 a2_1] 30 (0,0)) zz30 hb);have n2_:=z1.mk (z4 zz22 hb);have n3_:=z1.mk (hbox);have n4_:=z1.mk ((by rw [hg];exact (z5 zz22) : w.heap.size ≤ gb103));have n5_:=z1.mk ((by rw [hg];exact (z5 zz22) : w.heap.size ≤ gb103));have n6_:=z1.mk ((by rw [hg];exact Nat.ne_of_lt (zU (g:=gb101) (o:=.cells #[.int .u64 a1_0,.int .u64 a1_1] 30 (0,0)) zz29) : gb101 ≠ gb103));have n7_:=z1.mk ((by rw [hg];exact Nat.ne_of_gt (zU (g:=gb101) (o:=.cells #[.int .u64 a1_0,.int .u64 a1_1] 30 (0,0)) zz29) : gb103 ≠ gb101));have n8_:=z1.mk ((by rw [hg];exact Nat.ne_of_lt (zU (g:=gb102) (o:=.cells #[.int .u64 a2_0,.int .u64 a2_1] 30 (0,0)) zz30) : gb102 ≠ gb103));have n9_:=z1.mk ((by rw [hg];exact Nat.ne_of_gt (zU (g:=gb102) (o:=.cells #[.int .u64 a2_0,.int .u64 a2_1] 30 (0,0)) zz30) : gb103 ≠ gb102));clear BK101;clear BK102;clear HB;have BK101:=n0_;have BK102:=n1_;have HB:=n2_;have BK103:=n3_;have GW103:=n4_;have GE103:=n5_;have NB101_103:=n6_;have NB103_101:=n7_;have NB102_103:=n8_;have NB103_102:=n9_;clear n0_ n1_ n2_ n3_ n4_ n5_ n6_ n7_ n8_ n9_;clear hb hbox hg));go_upto_region 1 with (first|((with_reducible refine zF (N:=4) rfl ?_);refine zG ?hg (N:=4) ?hd (cs:=#[.int .u64 a1_0,.int .u64 a1_1]) (t:=30) ?hr ?_;(case hd=>rfl);(case hg=>rfl);(case hr=>first|(go_simp;done)|(go_simp;rfl));intro gb101 hg w5 hbox hb;have n0_:=z1.mk (z4 zz28 hb);have n1_:=z1.mk (hbox);have n2_:=z1.mk ((by rw [hg];exact (z5 zz28) : w.heap.size ≤ gb101));have n3_:=z1.mk ((by rw [hg];exact (z5 zz28) : w.heap.size ≤ gb101));clear HB;have HB:=n0_;have BK101:=n1_;have GW101:=n2_;have GE101:=n3_;clear n0_ n1_ n2_ n3_;clear hb hbox hg)|((with_reducible refine zF (N:=5) rfl ?_);refine zG ?hg (N:=5) ?hd (cs:=#[.int .u64 a2_0,.int .u64 a2_1]) (t:=30) ?hr ?_;(case hd=>rfl);(case hg=>rfl);(case hr=>first|(go_simp;done)|(go_simp;rfl));intro gb102 hg w6 hbox hb;have n0_:=z1.mk (zg (g:=gb101) (o:=.cells #[.int .u64 a1_0,.int .u64 a1_1] 30 (0,0)) zz29 hb);have n1_:=z1.mk (z4 zz25 hb);have n2_:=z1.mk (hbox);have n3_:=z1.mk ((by rw [hg];exact (z5 zz25) : w.heap.size ≤ gb102));have n4_:=z1.mk ((by rw [hg];exact (z5 zz25) : w.heap.size ≤ gb102));have n5_:=z1.mk ((by rw [hg];exact Nat.ne_of_lt (zU (g:=gb101) (o:=.cells #[.int .u64 a1_0,.int .u64 a1_1] 30 (0,0)) zz29) : gb101 ≠ gb102));have n6_:=z1.mk ((by rw [hg];exact Nat.ne_of_gt (zU (g:=gb101) (o:=.cells #[.int .u64 a1_0,.int .u64 a1_1] 30 (0,0)) zz29) : gb102 ≠ gb101));clear BK101;clear HB;have BK101:=n0_;have HB:=n1_;have BK102:=n2_;have GW102:=n3_;have GE102:=n4_;have NB101_102:=n5_;have NB102_101:=n6_;clear n0_ n1_ n2_ n3_ n4_ n5_ n6_;clear hb hbox hg)|((with_reducible refine zF (N:=6) rfl ?_);refine zG ?hg (N:=6) ?hd (cs:=#[.int .u64 0,.int .u64 0]) (t:=30) ?hr ?_;(case hd=>rfl);(case hg=>rfl);(case hr=>first|(go_simp;done)|(go_simp;rfl));intro gb103 hg w7 hbox hb;have n0_:=z1.mk (zg (g:=gb101) (o:=.cells #[.int .u64 a1_0,.int .u64 a1_1] 30 (0,0)) zz29 hb);have n1_:=z1.mk (zg (g:=gb102) (o:=.cells #[.int .u64 a2_0,.int .u64 a2_1] 30 (0,0)) zz30 hb);have n2_:=z1.mk (z4 zz22 hb);have n3_:=z1.mk (hbox);have n4_:=z1.mk ((by rw [hg];exact (z5 zz22) : w.heap.size ≤ gb103));have n5_:=z1.mk ((by rw [hg];exact (z5 zz22) : w.heap.size ≤ gb103));have n6_:=z1.mk ((by rw [hg];exact Nat.ne_of_lt (zU (g:=gb101) (o:=.cells #[.int .u64 a1_0,.int .u64 a1_1] 30 (0,0)) zz29) : gb101 ≠ gb103));have n7_:=z1.mk ((by rw [hg];exact Nat.ne_of_gt (zU (g:=gb101) (o:=.cells #[.int .u64 a1_0,.int .u64 a1_1] 30 (0,0)) zz29) : gb103 ≠ gb101));have n8_:=z1.mk ((by rw [hg];exact Nat.ne_of_lt (zU (g:=gb102) (o:=.cells #[.int .u64 a2_0,.int .u64 a2_1] 30 (0,0)) zz30) : gb102 ≠ gb103));have n9_:=z1.mk ((by rw [hg];exact Nat.ne_of_gt (zU (g:=gb102) (o:=.cells #[.int .u64 a2_0,.int .u64 a2_1] 30 (0,0)) zz30) : gb103 ≠ gb102));clear BK101;clear BK102;clear HB;have BK101:=n0_;have BK102:=n1_;have HB:=n2_;have BK103:=n3_;have GW103:=n4_;have GE103:=n5_;have NB101_103:=n6_;have NB103_101:=n7_;have NB102_103:=n8_;have NB103_102:=n9_;clear n0_ n1_ n2_ n3_ n4_ n5_ n6_ n7_ n8_ n9_;clear hb hbox hg)))
 (try simp only [Act.put,List.setIfInBounds_toArray,List.set_cons_zero,List.set_cons_succ])
 go_cut [10] (fun v10 wc=>∃ (kq : Nat) (x10_3 : Bool),v10 = .bool x10_3 ∧ z1 (z10.j0 kq a0 x10_3 a1_0 a1_1 a2_0 a2_1 = some (r1,r2)) ∧ z1 (kq ≤ k) ∧ z1 (wc.heap[gb101]? = some (.cells #[.int .u64 a1_0,.int .u64 a1_1] 30 (0,0))) ∧ z1 (wc.heap[gb102]? = some (.cells #[.int .u64 a2_0,.int .u64 a2_1] 30 (0,0))) ∧ z1 (wc.heap[gb103]? = some (.cells #[.int .u64 0,.int .u64 0] 30 (0,0))) ∧ z1 (Below w.heap.size w wc))
 case first =>
  have H:=HC4.out
  clear HC4
  replace H:=Option.bind_eq_some_iff.mp H
  obtain ⟨t104,A80,H⟩:=H
  replace H : (if t104 = true then ((zM.f k a0 a2_0 a2_1).bind fun t105=>(z10.j0 k a0 (!t105) a1_0 a1_1 a2_0 a2_1)) else (z10.j0 k a0 true a1_0 a1_1 a2_0 a2_1)) = some (r1,r2):=H
  have A8:=z1.mk A80
  clear A80
  by_cases c9 : t104 = true
  rotate_left
  · replace c9:=Bool.eq_false_iff.mpr c9
    subst c9
    have H1 : (z10.j0 k a0 true a1_0 a1_1 a2_0 a2_1) = some (r1,r2):=by rw [if_neg (show ¬ (false = true) by decide)] at H;exact H
    clear H
    have H:=H1
    clear H1
    have H':=z1.mk H
    clear H
    have hnb18:=NB101_102.out
    have hnc18:=NB102_101.out
    have hnb19:=NB101_103.out
    have hnc19:=NB103_101.out
    have hcz20_0 : w7.cell? ⟨gb101,0,none⟩ = some (.int .u64 a1_0):=(zc BK101.out 0).trans rfl
    have hcz20_1 : w7.cell? ⟨gb101,1,none⟩ = some (.int .u64 a1_1):=(zc BK101.out 1).trans rfl
    have hfz20_0:=z8 BK101.out 0
    have hfz20_1:=z8 BK101.out 1
    go_wp2_with (first|(go_at_call 81;(with_reducible refine (zM.calls k a0 a1_0 a1_1 false _ A8.out).mono ?_);rintro e w21 ⟨rfl,hb⟩;have n0_:=z1.mk (zg (g:=gb101) (o:=.cells #[.int .u64 a1_0,.int .u64 a1_1] 30 (0,0)) zz29 hb);have n1_:=z1.mk (zg (g:=gb102) (o:=.cells #[.int .u64 a2_0,.int .u64 a2_1] 30 (0,0)) zz30 hb);have n2_:=z1.mk (zg (g:=gb103) (o:=.cells #[.int .u64 0,.int .u64 0] 30 (0,0)) zz31 hb);have n3_:=z1.mk (z4 zz19 hb);clear BK101;clear BK102;clear BK103;clear HB;have BK101:=n0_;have BK102:=n1_;have BK103:=n2_;have HB:=n3_;clear n0_ n1_ n2_ n3_;(try clear hb);(try clear hb2);(try clear hk);(try clear hi)))
    repeat (go_quiet (first|(go_at_call 81;(with_reducible refine (zM.calls k a0 a1_0 a1_1 false _ A8.out).mono ?_);rintro e w21 ⟨rfl,hb⟩;have n0_:=z1.mk (zg (g:=gb101) (o:=.cells #[.int .u64 a1_0,.int .u64 a1_1] 30 (0,0)) zz29 hb);have n1_:=z1.mk (zg (g:=gb102) (o:=.cells #[.int .u64 a2_0,.int .u64 a2_1] 30 (0,0)) zz30 hb);have n2_:=z1.mk (zg (g:=gb103) (o:=.cells #[.int .u64 0,.int .u64 0] 30 (0,0)) zz31 hb);have n3_:=z1.mk (z4 zz19 hb);clear BK101;clear BK102;clear BK103;clear HB;have BK101:=n0_;have BK102:=n1_;have BK103:=n2_;have HB:=n3_;clear n0_ n1_ n2_ n3_;(try clear hb);(try clear hb2);(try clear hk);(try clear hi)));try go_wp2_with (first|(go_at_call 81;(with_reducible refine (zM.calls k a0 a1_0 a1_1 false _ A8.out).mono ?_);rintro e w21 ⟨rfl,hb⟩;have n0_:=z1.mk (zg (g:=gb101) (o:=.cells #[.int .u64 a1_0,.int .u64 a1_1] 30 (0,0)) zz29 hb);have n1_:=z1.mk (zg (g:=gb102) (o:=.cells #[.int .u64 a2_0,.int .u64 a2_1] 30 (0,0)) zz30 hb);have n2_:=z1.mk (zg (g:=gb103) (o:=.cells #[.int .u64 0,.int .u64 0] 30 (0,0)) zz31 hb);have n3_:=z1.mk (z4 zz19 hb);clear BK101;clear BK102;clear BK103;clear HB;have BK101:=n0_;have BK102:=n1_;have BK103:=n2_;have HB:=n3_;clear n0_ n1_ n2_ n3_;(try clear hb);(try clear hb2);(try clear hk);(try clear hi))))
    go_meet
    case rel=>exact ⟨_,(true),zz75,H',⟨by first|omega|exact Nat.le_refl _⟩,⟨by (with_reducible repeat (first|refine zb ?_ _|refine zf ?_|refine za ?_ _));exact BK101.out⟩,⟨by (with_reducible repeat (first|refine zb ?_ _|refine zf ?_|refine za ?_ _));exact BK102.out⟩,⟨by (with_reducible repeat (first|refine zb ?_ _|refine zf ?_|refine za ?_ _));exact BK103.out⟩,⟨by repeat (first|(with_reducible first|exact HB.out|apply z7|apply z2|apply z6|refine zd ?_ GE101.out|refine zd ?_ GE102.out|refine zd ?_ GE103.out)|exact HB.out)⟩⟩
  subst c9
  have H1 : ((zM.f k a0 a2_0 a2_1).bind fun t105=>(z10.j0 k a0 (!t105) a1_0 a1_1 a2_0 a2_1)) = some (r1,r2):=by rw [if_pos rfl] at H;exact H
  clear H
  have H:=H1
  clear H1
  replace H:=Option.bind_eq_some_iff.mp H
  obtain ⟨t105,A100,H⟩:=H
  replace H : (z10.j0 k a0 (!t105) a1_0 a1_1 a2_0 a2_1) = some (r1,r2):=H
  have A10:=z1.mk A100
  clear A100
  have H':=z1.mk H
  clear H
  have hnb11:=NB101_102.out
  have hnc11:=NB102_101.out
  have hnb12:=NB101_103.out
  have hnc12:=NB103_101.out
  have hcz13_0 : w7.cell? ⟨gb101,0,none⟩ = some (.int .u64 a1_0):=(zc BK101.out 0).trans rfl
  have hcz13_1 : w7.cell? ⟨gb101,1,none⟩ = some (.int .u64 a1_1):=(zc BK101.out 1).trans rfl
  have hfz13_0:=z8 BK101.out 0
  have hfz13_1:=z8 BK101.out 1
  go_wp2_with (first|(go_at_call 81;(with_reducible refine (zM.calls k a0 a1_0 a1_1 true _ A8.out).mono ?_);rintro e w14 ⟨rfl,hb⟩;have n0_:=z1.mk (zg (g:=gb101) (o:=.cells #[.int .u64 a1_0,.int .u64 a1_1] 30 (0,0)) zz29 hb);have n1_:=z1.mk (zg (g:=gb102) (o:=.cells #[.int .u64 a2_0,.int .u64 a2_1] 30 (0,0)) zz30 hb);have n2_:=z1.mk (zg (g:=gb103) (o:=.cells #[.int .u64 0,.int .u64 0] 30 (0,0)) zz31 hb);have n3_:=z1.mk (z4 zz19 hb);clear BK101;clear BK102;clear BK103;clear HB;have BK101:=n0_;have BK102:=n1_;have BK103:=n2_;have HB:=n3_;clear n0_ n1_ n2_ n3_;(try clear hb);(try clear hb2);(try clear hk);(try clear hi);have hnb15:=NB102_103.out;have hnc15:=NB103_102.out;have hcz16_0 : w14.cell? ⟨gb102,0,none⟩ = some (.int .u64 a2_0):=(zc BK102.out 0).trans rfl;have hcz16_1 : w14.cell? ⟨gb102,1,none⟩ = some (.int .u64 a2_1):=(zc BK102.out 1).trans rfl;have hfz16_0:=z8 BK102.out 0;have hfz16_1:=z8 BK102.out 1)|(go_at_call 81;(with_reducible refine (zM.calls k a0 a2_0 a2_1 t105 _ A10.out).mono ?_);rintro e w17 ⟨rfl,hb⟩;have n0_:=z1.mk (zg (g:=gb101) (o:=.cells #[.int .u64 a1_0,.int .u64 a1_1] 30 (0,0)) zz29 hb);have n1_:=z1.mk (zg (g:=gb102) (o:=.cells #[.int .u64 a2_0,.int .u64 a2_1] 30 (0,0)) zz30 hb);have n2_:=z1.mk (zg (g:=gb103) (o:=.cells #[.int .u64 0,.int .u64 0] 30 (0,0)) zz31 hb);have n3_:=z1.mk (z4 zz19 hb);clear BK101;clear BK102;clear BK103;clear HB;have BK101:=n0_;have BK102:=n1_;have BK103:=n2_;have HB:=n3_;clear n0_ n1_ n2_ n3_;(try clear hb);(try clear hb2);(try clear hk);(try clear hi)))
  repeat (go_quiet (first|(go_at_call 81;(with_reducible refine (zM.calls k a0 a1_0 a1_1 true _ A8.out).mono ?_);rintro e w14 ⟨rfl,hb⟩;have n0_:=z1.mk (zg (g:=gb101) (o:=.cells #[.int .u64 a1_0,.int .u64 a1_1] 30 (0,0)) zz29 hb);have n1_:=z1.mk (zg (g:=gb102) (o:=.cells #[.int .u64 a2_0,.int .u64 a2_1] 30 (0,0)) zz30 hb);have n2_:=z1.mk (zg (g:=gb103) (o:=.cells #[.int .u64 0,.int .u64 0] 30 (0,0)) zz31 hb);have n3_:=z1.mk (z4 zz19 hb);clear BK101;clear BK102;clear BK103;clear HB;have BK101:=n0_;have BK102:=n1_;have BK103:=n2_;have HB:=n3_;clear n0_ n1_ n2_ n3_;(try clear hb);(try clear hb2);(try clear hk);(try clear hi);have hnb15:=NB102_103.out;have hnc15:=NB103_102.out;have hcz16_0 : w14.cell? ⟨gb102,0,none⟩ = some (.int .u64 a2_0):=(zc BK102.out 0).trans rfl;have hcz16_1 : w14.cell? ⟨gb102,1,none⟩ = some (.int .u64 a2_1):=(zc BK102.out 1).trans rfl;have hfz16_0:=z8 BK102.out 0;have hfz16_1:=z8 BK102.out 1)|(go_at_call 81;(with_reducible refine (zM.calls k a0 a2_0 a2_1 t105 _ A10.out).mono ?_);rintro e w17 ⟨rfl,hb⟩;have n0_:=z1.mk (zg (g:=gb101) (o:=.cells #[.int .u64 a1_0,.int .u64 a1_1] 30 (0,0)) zz29 hb);have n1_:=z1.mk (zg (g:=gb102) (o:=.cells #[.int .u64 a2_0,.int .u64 a2_1] 30 (0,0)) zz30 hb);have n2_:=z1.mk (zg (g:=gb103) (o:=.cells #[.int .u64 0,.int .u64 0] 30 (0,0)) zz31 hb);have n3_:=z1.mk (z4 zz19 hb);clear BK101;clear BK102;clear BK103;clear HB;have BK101:=n0_;have BK102:=n1_;have BK103:=n2_;have HB:=n3_;clear n0_ n1_ n2_ n3_;(try clear hb);(try clear hb2);(try clear hk);(try clear hi)));try go_wp2_with (first|(go_at_call 81;(with_reducible refine (zM.calls k a0 a1_0 a1_1 true _ A8.out).mono ?_);rintro e w14 ⟨rfl,hb⟩;have n0_:=z1.mk (zg (g:=gb101) (o:=.cells #[.int .u64 a1_0,.int .u64 a1_1] 30 (0,0)) zz29 hb);have n1_:=z1.mk (zg (g:=gb102) (o:=.cells #[.int .u64 a2_0,.int .u64 a2_1] 30 (0,0)) zz30 hb);have n2_:=z1.mk (zg (g:=gb103) (o:=.cells #[.int .u64 0,.int .u64 0] 30 (0,0)) zz31 hb);have n3_:=z1.mk (z4 zz19 hb);clear BK101;clear BK102;clear BK103;clear HB;have BK101:=n0_;have BK102:=n1_;have BK103:=n2_;have HB:=n3_;clear n0_ n1_ n2_ n3_;(try clear hb);(try clear hb2);(try clear hk);(try clear hi);have hnb15:=NB102_103.out;have hnc15:=NB103_102.out;have hcz16_0 : w14.cell? ⟨gb102,0,none⟩ = some (.int .u64 a2_0):=(zc BK102.out 0).trans rfl;have hcz16_1 : w14.cell? ⟨gb102,1,none⟩ = some (.int .u64 a2_1):=(zc BK102.out 1).trans rfl;have hfz16_0:=z8 BK102.out 0;have hfz16_1:=z8 BK102.out 1)|(go_at_call 81;(with_reducible refine (zM.calls k a0 a2_0 a2_1 t105 _ A10.out).mono ?_);rintro e w17 ⟨rfl,hb⟩;have n0_:=z1.mk (zg (g:=gb101) (o:=.cells #[.int .u64 a1_0,.int .u64 a1_1] 30 (0,0)) zz29 hb);have n1_:=z1.mk (zg (g:=gb102) (o:=.cells #[.int .u64 a2_0,.int .u64 a2_1] 30 (0,0)) zz30 hb);have n2_:=z1.mk (zg (g:=gb103) (o:=.cells #[.int .u64 0,.int .u64 0] 30 (0,0)) zz31 hb);have n3_:=z1.mk (z4 zz19 hb);clear BK101;clear BK102;clear BK103;clear HB;have BK101:=n0_;have BK102:=n1_;have BK103:=n2_;have HB:=n3_;clear n0_ n1_ n2_ n3_;(try clear hb);(try clear hb2);(try clear hk);(try clear hi))))
  go_meet
  case rel=>exact ⟨_,(!t105),zz75,H',⟨by first|omega|exact Nat.le_refl _⟩,⟨by (with_reducible repeat (first|refine zb ?_ _|refine zf ?_|refine za ?_ _));exact BK101.out⟩,⟨by (with_reducible repeat (first|refine zb ?_ _|refine zf ?_|refine za ?_ _));exact BK102.out⟩,⟨by (with_reducible repeat (first|refine zb ?_ _|refine zf ?_|refine za ?_ _));exact BK103.out⟩,⟨by repeat (first|(with_reducible first|exact HB.out|apply z7|apply z2|apply z6|refine zd ?_ GE101.out|refine zd ?_ GE102.out|refine zd ?_ GE103.out)|exact HB.out)⟩⟩
 case rest =>
  clear HC4
  (try clear c1);(try clear p2);(try clear c7);(try clear c9);(try clear c11);(try clear c12);(try clear c15);(try clear c18);(try clear c19);(try clear hcz13_0);(try clear hcz13_1);(try clear hcz16_0);(try clear hcz16_1);(try clear hcz20_0);(try clear hcz20_1);(try clear hfz13_0);(try clear hfz13_1);(try clear hfz16_0);(try clear hfz16_1);(try clear hfz20_0);(try clear hfz20_1)
  obtain ⟨kq,x10_3,rfl,HA,HJ3,BK101,BK102,BK103,HB⟩:=hcut
  cases kq with
  | zero=>exact absurd HA.out (by simp [z10.j0])
  | succ kj3 =>
   have H:=HA.out
   clear HA
   simp only [z10.j0] at H
   by_cases c22 : x10_3 = true
   · subst c22
     have H1 : (some (0,0)) = some (r1,r2):=by rw [if_pos rfl] at H;exact H
     clear H
     have H:=H1
     clear H1
     simp only [Option.some.injEq,Prod.mk.injEq] at H
     obtain ⟨rfl,rfl⟩:=H
     have hnb23:=NB103_101.out
     have hnc23:=NB101_103.out
     have hnb24:=NB103_102.out
     have hnc24:=NB102_103.out
     have hcz25_0 : wc.cell? ⟨gb103,0,none⟩ = some (.int .u64 0):=(zc BK103.out 0).trans rfl
     have hcz25_1 : wc.cell? ⟨gb103,1,none⟩ = some (.int .u64 0):=(zc BK103.out 1).trans rfl
     have hfz25_0:=z8 BK103.out 0
     have hfz25_1:=z8 BK103.out 1
     go_wp2
     repeat (go_quiet (fail);try go_wp2)
     refine bodyPost_ret (results_cell_row rfl _ _ gb103 30 #[.int .u64 0,.int .u64 0] (0,0) _ rfl zz8 Try.underlying30 rfl zz78) rfl ?_
     exact ⟨by first|rfl|(simp [zi,zj] <;> rfl)|(simp [*,zi,zj] <;> rfl),by repeat (first|(with_reducible first|exact HB.out|apply z7|apply z2|apply z6|refine zd ?_ GE101.out|refine zd ?_ GE102.out|refine zd ?_ GE103.out)|exact HB.out)⟩
   replace c22:=Bool.eq_false_iff.mpr c22
   subst c22
   have H1 : (if a0 ≤ 6 then ((zz.f kj3 a0 a1_1 a2_1).bind fun t106=>(some (0,t106))) else ((zz.f kj3 6 a1_0 a2_0).bind fun t107=>((zz.f kj3 6 a1_1 a2_1).bind fun t108=>((zz.f kj3 6 (Go.bits .xor .u64 a1_0 a1_1) (Go.bits .xor .u64 a2_0 a2_1)).bind fun t109=>((zV.f kj3 6 t107).bind fun t110=>(some (Go.bits .xor .u64 (Go.bits .xor .u64 (Go.bits .xor .u64 t109 t107) t108) t110,Go.bits .xor .u64 t108 t107))))))) = some (r1,r2):=by rw [if_neg (show ¬ (false = true) by decide)] at H;exact H
   clear H
   have H:=H1
   clear H1
   by_cases c26 : a0 ≤ 6
   · rw [if_pos c26] at H
     have c26b0 : decide (a0 ≤ 6) = true:=decide_eq_true c26
     clear c26
     replace H:=Option.bind_eq_some_iff.mp H
     obtain ⟨t106,A270,H⟩:=H
     replace H : (some (0,t106)) = some (r1,r2):=H
     have A27:=z1.mk A270
     clear A270
     simp only [Option.some.injEq,Prod.mk.injEq] at H
     obtain ⟨rfl,rfl⟩:=H
     have hnb28:=NB101_102.out
     have hnc28:=NB102_101.out
     have hnb29:=NB101_103.out
     have hnc29:=NB103_101.out
     have hcz30_0 : wc.cell? ⟨gb101,0,none⟩ = some (.int .u64 a1_0):=(zc BK101.out 0).trans rfl
     have hcz30_1 : wc.cell? ⟨gb101,1,none⟩ = some (.int .u64 a1_1):=(zc BK101.out 1).trans rfl
     have hfz30_0:=z8 BK101.out 0
     have hfz30_1:=z8 BK101.out 1
     have hnb31:=NB102_103.out
     have hnc31:=NB103_102.out
     have hcz32_0 : wc.cell? ⟨gb102,0,none⟩ = some (.int .u64 a2_0):=(zc BK102.out 0).trans rfl
     have hcz32_1 : wc.cell? ⟨gb102,1,none⟩ = some (.int .u64 a2_1):=(zc BK102.out 1).trans rfl
     have hfz32_0:=z8 BK102.out 0
     have hfz32_1:=z8 BK102.out 1
     go_wp2_with (first|(go_at_call 117;(with_reducible refine (zz.calls kj3 a0 a1_1 a2_1 t106 _ A27.out).mono ?_);rintro e w' ⟨rfl,⟨nd,rfl⟩⟩;(try first|exact ⟨rfl,_,World.drewN_drewN _ _ _⟩|exact ⟨rfl,_,Eq.trans (World.drewN_drewN _ _ _) (congrArg (World.drewN _) (Nat.add_assoc _ _ _))⟩);have hcz33_0 : wc.cell? ⟨gb103,0,none⟩ = some (.int .u64 0):=(zc BK103.out 0).trans rfl;have hcz33_1 : wc.cell? ⟨gb103,1,none⟩ = some (.int .u64 0):=(zc BK103.out 1).trans rfl;have hfz33_0:=z8 BK103.out 0;have hfz33_1:=z8 BK103.out 1))
     repeat (go_quiet (first|(go_at_call 117;(with_reducible refine (zz.calls kj3 a0 a1_1 a2_1 t106 _ A27.out).mono ?_);rintro e w' ⟨rfl,⟨nd,rfl⟩⟩;(try first|exact ⟨rfl,_,World.drewN_drewN _ _ _⟩|exact ⟨rfl,_,Eq.trans (World.drewN_drewN _ _ _) (congrArg (World.drewN _) (Nat.add_assoc _ _ _))⟩);have hcz33_0 : wc.cell? ⟨gb103,0,none⟩ = some (.int .u64 0):=(zc BK103.out 0).trans rfl;have hcz33_1 : wc.cell? ⟨gb103,1,none⟩ = some (.int .u64 0):=(zc BK103.out 1).trans rfl;have hfz33_0:=z8 BK103.out 0;have hfz33_1:=z8 BK103.out 1));try go_wp2_with (first|(go_at_call 117;(with_reducible refine (zz.calls kj3 a0 a1_1 a2_1 t106 _ A27.out).mono ?_);rintro e w' ⟨rfl,⟨nd,rfl⟩⟩;(try first|exact ⟨rfl,_,World.drewN_drewN _ _ _⟩|exact ⟨rfl,_,Eq.trans (World.drewN_drewN _ _ _) (congrArg (World.drewN _) (Nat.add_assoc _ _ _))⟩);have hcz33_0 : wc.cell? ⟨gb103,0,none⟩ = some (.int .u64 0):=(zc BK103.out 0).trans rfl;have hcz33_1 : wc.cell? ⟨gb103,1,none⟩ = some (.int .u64 0):=(zc BK103.out 1).trans rfl;have hfz33_0:=z8 BK103.out 0;have hfz33_1:=z8 BK103.out 1)))
     refine bodyPost_ret (results_cell_row rfl _ _ gb103 30 #[.int .u64 0,.int .u64 t106] (0,0) _ rfl zz8 Try.underlying30 rfl zz78) rfl ?_
     exact ⟨by first|rfl|(simp [zi,zj] <;> rfl)|(simp [*,zi,zj] <;> rfl),by repeat (first|(with_reducible first|exact HB.out|apply z7|apply z2|apply z6|refine zd ?_ GE101.out|refine zd ?_ GE102.out|refine zd ?_ GE103.out)|exact HB.out)⟩
   rw [if_neg c26] at H
   have c26b0 : decide (a0 ≤ 6) = false:=decide_eq_false c26
   clear c26
   replace H:=Option.bind_eq_some_iff.mp H
   obtain ⟨t107,A340,H⟩:=H
   replace H : ((zz.f kj3 6 a1_1 a2_1).bind fun t108=>((zz.f kj3 6 (Go.bits .xor .u64 a1_0 a1_1) (Go.bits .xor .u64 a2_0 a2_1)).bind fun t109=>((zV.f kj3 6 t107).bind fun t110=>(some (Go.bits .xor .u64 (Go.bits .xor .u64 (Go.bits .xor .u64 t109 t107) t108) t110,Go.bits .xor .u64 t108 t107))))) = some (r1,r2):=H
   have A34:=z1.mk A340
   clear A340
   replace H:=Option.bind_eq_some_iff.mp H
   obtain ⟨t108,A350,H⟩:=H
   replace H : ((zz.f kj3 6 (Go.bits .xor .u64 a1_0 a1_1) (Go.bits .xor .u64 a2_0 a2_1)).bind fun t109=>((zV.f kj3 6 t107).bind fun t110=>(some (Go.bits .xor .u64 (Go.bits .xor .u64 (Go.bits .xor .u64 t109 t107) t108) t110,Go.bits .xor .u64 t108 t107)))) = some (r1,r2):=H
   have A35:=z1.mk A350
   clear A350
   replace H:=Option.bind_eq_some_iff.mp H
   obtain ⟨t109,A360,H⟩:=H
   replace H : ((zV.f kj3 6 t107).bind fun t110=>(some (Go.bits .xor .u64 (Go.bits .xor .u64 (Go.bits .xor .u64 t109 t107) t108) t110,Go.bits .xor .u64 t108 t107))) = some (r1,r2):=H
   have A36:=z1.mk A360
   clear A360
   replace H:=Option.bind_eq_some_iff.mp H
   obtain ⟨t110,A370,H⟩:=H
   replace H : (some (Go.bits .xor .u64 (Go.bits .xor .u64 (Go.bits .xor .u64 t109 t107) t108) t110,Go.bits .xor .u64 t108 t107)) = some (r1,r2):=H
   have A37:=z1.mk A370
   clear A370
   simp only [Option.some.injEq,Prod.mk.injEq] at H
   obtain ⟨rfl,rfl⟩:=H
   have hnb38:=NB101_102.out
   have hnc38:=NB102_101.out
   have hnb39:=NB101_103.out
   have hnc39:=NB103_101.out
   have hcz40_0 : wc.cell? ⟨gb101,0,none⟩ = some (.int .u64 a1_0):=(zc BK101.out 0).trans rfl
   have hcz40_1 : wc.cell? ⟨gb101,1,none⟩ = some (.int .u64 a1_1):=(zc BK101.out 1).trans rfl
   have hfz40_0:=z8 BK101.out 0
   have hfz40_1:=z8 BK101.out 1
   have hnb41:=NB102_103.out
   have hnc41:=NB103_102.out
   have hcz42_0 : wc.cell? ⟨gb102,0,none⟩ = some (.int .u64 a2_0):=(zc BK102.out 0).trans rfl
   have hcz42_1 : wc.cell? ⟨gb102,1,none⟩ = some (.int .u64 a2_1):=(zc BK102.out 1).trans rfl
   have hfz42_0:=z8 BK102.out 0
   have hfz42_1:=z8 BK102.out 1
   go_wp2_with (first|(go_at_call 117;(with_reducible refine (zz.calls kj3 6 a1_0 a2_0 t107 _ A34.out).mono ?_);rintro e w' ⟨rfl,⟨nd,rfl⟩⟩;(try first|exact ⟨rfl,_,World.drewN_drewN _ _ _⟩|exact ⟨rfl,_,Eq.trans (World.drewN_drewN _ _ _) (congrArg (World.drewN _) (Nat.add_assoc _ _ _))⟩))|(go_at_call 117;(with_reducible refine (zz.calls kj3 6 a1_1 a2_1 t108 _ A35.out).mono ?_);rintro e w' ⟨rfl,⟨nd,rfl⟩⟩;(try first|exact ⟨rfl,_,World.drewN_drewN _ _ _⟩|exact ⟨rfl,_,Eq.trans (World.drewN_drewN _ _ _) (congrArg (World.drewN _) (Nat.add_assoc _ _ _))⟩))|(go_at_call 117;(with_reducible refine (zz.calls kj3 6 (Go.bits .xor .u64 a1_0 a1_1) (Go.bits .xor .u64 a2_0 a2_1) t109 _ A36.out).mono ?_);rintro e w' ⟨rfl,⟨nd,rfl⟩⟩;(try first|exact ⟨rfl,_,World.drewN_drewN _ _ _⟩|exact ⟨rfl,_,Eq.trans (World.drewN_drewN _ _ _) (congrArg (World.drewN _) (Nat.add_assoc _ _ _))⟩))|(go_at_call 118;(with_reducible refine (zV.calls kj3 6 t107 t110 _ A37.out).mono ?_);rintro e w' ⟨rfl,⟨nd,rfl⟩⟩;(try first|exact ⟨rfl,_,World.drewN_drewN _ _ _⟩|exact ⟨rfl,_,Eq.trans (World.drewN_drewN _ _ _) (congrArg (World.drewN _) (Nat.add_assoc _ _ _))⟩);have hcz43_0 : wc.cell? ⟨gb103,0,none⟩ = some (.int .u64 0):=(zc BK103.out 0).trans rfl;have hcz43_1 : wc.cell? ⟨gb103,1,none⟩ = some (.int .u64 0):=(zc BK103.out 1).trans rfl;have hfz43_0:=z8 BK103.out 0;have hfz43_1:=z8 BK103.out 1))
   repeat (go_quiet (first|(go_at_call 117;(with_reducible refine (zz.calls kj3 6 a1_0 a2_0 t107 _ A34.out).mono ?_);rintro e w' ⟨rfl,⟨nd,rfl⟩⟩;(try first|exact ⟨rfl,_,World.drewN_drewN _ _ _⟩|exact ⟨rfl,_,Eq.trans (World.drewN_drewN _ _ _) (congrArg (World.drewN _) (Nat.add_assoc _ _ _))⟩))|(go_at_call 117;(with_reducible refine (zz.calls kj3 6 a1_1 a2_1 t108 _ A35.out).mono ?_);rintro e w' ⟨rfl,⟨nd,rfl⟩⟩;(try first|exact ⟨rfl,_,World.drewN_drewN _ _ _⟩|exact ⟨rfl,_,Eq.trans (World.drewN_drewN _ _ _) (congrArg (World.drewN _) (Nat.add_assoc _ _ _))⟩))|(go_at_call 117;(with_reducible refine (zz.calls kj3 6 (Go.bits .xor .u64 a1_0 a1_1) (Go.bits .xor .u64 a2_0 a2_1) t109 _ A36.out).mono ?_);rintro e w' ⟨rfl,⟨nd,rfl⟩⟩;(try first|exact ⟨rfl,_,World.drewN_drewN _ _ _⟩|exact ⟨rfl,_,Eq.trans (World.drewN_drewN _ _ _) (congrArg (World.drewN _) (Nat.add_assoc _ _ _))⟩))|(go_at_call 118;(with_reducible refine (zV.calls kj3 6 t107 t110 _ A37.out).mono ?_);rintro e w' ⟨rfl,⟨nd,rfl⟩⟩;(try first|exact ⟨rfl,_,World.drewN_drewN _ _ _⟩|exact ⟨rfl,_,Eq.trans (World.drewN_drewN _ _ _) (congrArg (World.drewN _) (Nat.add_assoc _ _ _))⟩);have hcz43_0 : wc.cell? ⟨gb103,0,none⟩ = some (.int .u64 0):=(zc BK103.out 0).trans rfl;have hcz43_1 : wc.cell? ⟨gb103,1,none⟩ = some (.int .u64 0):=(zc BK103.out 1).trans rfl;have hfz43_0:=z8 BK103.out 0;have hfz43_1:=z8 BK103.out 1));try go_wp2_with (first|(go_at_call 117;(with_reducible refine (zz.calls kj3 6 a1_0 a2_0 t107 _ A34.out).mono ?_);rintro e w' ⟨rfl,⟨nd,rfl⟩⟩;(try first|exact ⟨rfl,_,World.drewN_drewN _ _ _⟩|exact ⟨rfl,_,Eq.trans (World.drewN_drewN _ _ _) (congrArg (World.drewN _) (Nat.add_assoc _ _ _))⟩))|(go_at_call 117;(with_reducible refine (zz.calls kj3 6 a1_1 a2_1 t108 _ A35.out).mono ?_);rintro e w' ⟨rfl,⟨nd,rfl⟩⟩;(try first|exact ⟨rfl,_,World.drewN_drewN _ _ _⟩|exact ⟨rfl,_,Eq.trans (World.drewN_drewN _ _ _) (congrArg (World.drewN _) (Nat.add_assoc _ _ _))⟩))|(go_at_call 117;(with_reducible refine (zz.calls kj3 6 (Go.bits .xor .u64 a1_0 a1_1) (Go.bits .xor .u64 a2_0 a2_1) t109 _ A36.out).mono ?_);rintro e w' ⟨rfl,⟨nd,rfl⟩⟩;(try first|exact ⟨rfl,_,World.drewN_drewN _ _ _⟩|exact ⟨rfl,_,Eq.trans (World.drewN_drewN _ _ _) (congrArg (World.drewN _) (Nat.add_assoc _ _ _))⟩))|(go_at_call 118;(with_reducible refine (zV.calls kj3 6 t107 t110 _ A37.out).mono ?_);rintro e w' ⟨rfl,⟨nd,rfl⟩⟩;(try first|exact ⟨rfl,_,World.drewN_drewN _ _ _⟩|exact ⟨rfl,_,Eq.trans (World.drewN_drewN _ _ _) (congrArg (World.drewN _) (Nat.add_assoc _ _ _))⟩);have hcz43_0 : wc.cell? ⟨gb103,0,none⟩ = some (.int .u64 0):=(zc BK103.out 0).trans rfl;have hcz43_1 : wc.cell? ⟨gb103,1,none⟩ = some (.int .u64 0):=(zc BK103.out 1).trans rfl;have hfz43_0:=z8 BK103.out 0;have hfz43_1:=z8 BK103.out 1)))
   refine bodyPost_ret (results_cell_row rfl _ _ gb103 30 #[.int .u64 (Go.bits .xor .u64 (Go.bits .xor .u64 (Go.bits .xor .u64 t109 t107) t108) t110),.int .u64 (Go.bits .xor .u64 t108 t107)] (0,0) _ rfl (by (with_reducible repeat (first|refine zb ?_ _|refine zf ?_|refine za ?_ _));refine z1m (cs:=#[.int .u64 (Go.bits .xor .u64 (Go.bits .xor .u64 (Go.bits .xor .u64 t109 t107) t108) t110),.int .u64 0]) ?_ 1 _ rfl;(with_reducible repeat (first|refine zb ?_ _|refine zf ?_|refine za ?_ _));refine z1m (cs:=#[.int .u64 0,.int .u64 0]) ?_ 0 _ rfl;(with_reducible repeat (first|refine zb ?_ _|refine zf ?_|refine za ?_ _));exact BK103.out) Try.underlying30 rfl zz78) rfl ?_
   exact ⟨by first|rfl|(simp [zi,zj] <;> rfl)|(simp [*,zi,zj] <;> rfl),by repeat (first|(with_reducible first|exact HB.out|apply z7|apply z2|apply z6|refine zd ?_ GE101.out|refine zd ?_ GE102.out|refine zd ?_ GE103.out)|exact HB.out)⟩
end Go.Proofs.Ytkhmpaooinpfoaa.P
namespace Go.Proofs.Ytkhmpaooinpfoaa.P
open Go.RowKit Go.Proofs.YtkhmpaooinpfoaaW.PrintWords Go.Proofs.YtkhmpaooinpfoaaW.PrintLast Go.Proofs.YtkhmpaooinpfoaaW.PrintMore
attribute [local go_sem] z12 z14 z1b z1c zW zX z13 z15   -- for this text's walks alone
set_option linter.unusedVariables false
set_option linter.unusedSimpArgs false
def zK.l0 : Nat → List Bool → Int → Int → Int → Int → Option (List Bool)
 | 0,_,_,_,_,_=>none
 | k + 1,x5,x13,x14,x102000,x102001=>if x14 < x13 then ((zI.f k x14).bind fun bt103=>(if x5.length < 140737488355328 then (zK.l0 k (x5 ++ [((Go.bits .or .u64 (Go.bits .and .u64 x102001 bt103.2) (Go.bits .and .u64 x102000 bt103.1)) != 0)]) x13 (wrap64 (x14 + 1)) x102000 x102001) else (none))) else (some x5)
def zK.f (k : Nat) (a0 : Int) (a1_0 : Int) (a1_1 : Int) : Option (List Bool):=(zM.f k a0 a1_0 a1_1).bind fun t102=>(if t102 = true then (if 0 ≤ a0 then (zK.l0 k ([] : List Bool) (shl .i64 1 a0) 0 a1_0 a1_1) else (none)) else (some ([] : List Bool)))
theorem zK.z17 : ∀ k,(∀ y0 y1 y2 y3 y4,LeO (zK.l0 k y0 y1 y2 y3 y4) (zK.l0 (k + 1) y0 y1 y2 y3 y4))
 | 0=>fun _ _ _ _ _ r h=>by simp [zK.l0] at h
 | k + 1=>by
  have ih0:=zK.z17 k
  · intro y0 y1 y2 y3 y4
    unfold zK.l0
    repeat' first
    | (with_reducible exact ih0 _ _ _ _ _)
    | (with_reducible exact zM.mono _ _ _ _)
    | (with_reducible exact zI.mono _ _)
    | (with_reducible exact LeO.refl _)
    | (with_reducible exact LeO.none _)
    | (with_reducible refine LeO.ite ?_ ?_)
    | (with_reducible refine LeO.bind ?_ (fun _=>?_))
    | exact ih0 _ _ _ _ _
    | exact zM.mono _ _ _ _
    | exact zI.mono _ _
    | exact LeO.none _
    | refine LeO.ite ?_ ?_
    | refine LeO.bind ?_ (fun _=>?_)
theorem zK.mono : ∀ a0 a1 a2 k,LeO (zK.f k a0 a1 a2) (zK.f (k + 1) a0 a1 a2):=by
 intro a0 a1 a2 k
 have ih0:=zK.z17 k
 unfold zK.f
 repeat' first
  | (with_reducible exact ih0 _ _ _ _ _)
  | (with_reducible exact zM.mono _ _ _ _)
  | (with_reducible exact zI.mono _ _)
  | (with_reducible exact LeO.refl _)
  | (with_reducible exact LeO.none _)
  | (with_reducible refine LeO.ite ?_ ?_)
  | (with_reducible refine LeO.bind ?_ (fun _=>?_))
  | exact ih0 _ _ _ _ _
  | exact zM.mono _ _ _ _
  | exact zI.mono _ _
  | exact LeO.none _
  | refine LeO.ite ?_ ?_
  | refine LeO.bind ?_ (fun _=>?_)
set_option maxHeartbeats 8000000 in
set_option maxRecDepth 100000 in
theorem zK.calls (k : Nat) (a0 : Int) (a1_0 : Int) (a1_1 : Int) (r : List Bool) (w : World) (h : zK.f k a0 a1_0 a1_1 = some r) :
 Calls Try.prog 125 #[.int .i64 a0,.agg #[.int .u64 a1_0,.int .u64 a1_1]] w fun e w'=>∃ v0_ : Value,e = .returned (v0_) ∧ Kd.R Kd.bool 4 w' w.heap.size (fun _=>True) v0_ r ∧ Below w.heap.size w w':=by
 have hu30:=Try.underlying30
 have HB:=z1.mk (Below.refl w.heap.size w)
 have H : ((zM.f k a0 a1_0 a1_1).bind fun t102=>(if t102 = true then (if 0 ≤ a0 then (zK.l0 k ([] : List Bool) (shl .i64 1 a0) 0 a1_0 a1_1) else (none)) else (some ([] : List Bool)))) = some r:=h
 clear h
 replace H:=Option.bind_eq_some_iff.mp H
 obtain ⟨t102,A30,H⟩:=H
 replace H : (if t102 = true then (if 0 ≤ a0 then (zK.l0 k ([] : List Bool) (shl .i64 1 a0) 0 a1_0 a1_1) else (none)) else (some ([] : List Bool))) = some r:=H
 have A3:=z1.mk A30
 clear A30
 by_cases c4 : t102 = true
 rotate_left
 · replace c4:=Bool.eq_false_iff.mpr c4
   subst c4
   have H1 : (some ([] : List Bool)) = some r:=by rw [if_neg (show ¬ (false = true) by decide)] at H;exact H
   clear H
   have H:=H1
   clear H1
   obtain rfl:=Option.some.inj H
   go_enter Try.func125,Try.ntmps125
   go_wp2_with (first|((with_reducible refine zF (N:=3) rfl ?_);refine zG ?hg (N:=3) ?hd (cs:=#[.int .u64 a1_0,.int .u64 a1_1]) (t:=30) ?hr ?_;(case hd=>rfl);(case hg=>rfl);(case hr=>first|(go_simp;done)|(go_simp;rfl));intro gb101 hg w19 hbox hb;have n0_:=z1.mk (z4 zz28 hb);have n1_:=z1.mk (hbox);have n2_:=z1.mk ((by rw [hg];exact (z5 zz28) : w.heap.size ≤ gb101));have n3_:=z1.mk ((by rw [hg];exact (z5 zz28) : w.heap.size ≤ gb101));clear HB;have HB:=n0_;have BK101:=n1_;have GW101:=n2_;have GE101:=n3_;clear n0_ n1_ n2_ n3_;clear hb hbox hg;have hcz20_0 : w19.cell? ⟨gb101,0,none⟩ = some (.int .u64 a1_0):=(zc BK101.out 0).trans rfl;have hcz20_1 : w19.cell? ⟨gb101,1,none⟩ = some (.int .u64 a1_1):=(zc BK101.out 1).trans rfl;have hfz20_0:=z8 BK101.out 0;have hfz20_1:=z8 BK101.out 1)|((with_reducible refine zl (f:=81) rfl ?_);refine goesL_ (some 10) rfl rfl Try.func81 zz78 rfl #[.int .i64 a0,.agg #[.int .u64 a1_0,.int .u64 a1_1]] rfl zz27 ?_;(with_reducible refine (zM.calls k a0 a1_0 a1_1 false _ A3.out).mono ?_);rintro e w21 ⟨rfl,hb⟩;refine ⟨_,rfl,?_⟩;have n0_:=z1.mk (zg (g:=gb101) (o:=.cells #[.int .u64 a1_0,.int .u64 a1_1] 30 (0,0)) zz29 hb);have n1_:=z1.mk (z4 zz25 hb);clear BK101;clear HB;have BK101:=n0_;have HB:=n1_;clear n0_ n1_;(try clear hb);(try clear hb2);(try clear hk);(try clear hi)))
   go_ret
   exact ⟨_,by first|rfl|(simp [zi,zj] <;> rfl)|(simp [*,zi,zj] <;> rfl),by first|exact Kd.z3f _ _ _ _ _|exact Kd.z3P _ _ _ _ _|exact Kd.z3S _ _ _ _ _|exact Kd.z3Q _ _ _ _ _|exact Kd.z3R _ _ _ _ _,by repeat (first|(with_reducible first|exact HB.out|apply z7|apply z2|apply z6|refine zd ?_ GE101.out)|exact HB.out)⟩
 subst c4
 have H1 : (if 0 ≤ a0 then (zK.l0 k ([] : List Bool) (shl .i64 1 a0) 0 a1_0 a1_1) else (none)) = some r:=by rw [if_pos rfl] at H;exact H
 clear H
 have H:=H1
 clear H1
 by_cases c5 : 0 ≤ a0
 rotate_left
 · rw [if_neg c5] at H
   exact absurd H zz81
 rw [if_pos c5] at H
 have c5b0:=eq_true c5
 have c5b1 : decide (0 ≤ a0) = true:=decide_eq_true c5
 clear c5
 obtain ⟨ji6,hji6⟩ : ∃ j_ : Int,(shl .i64 1 a0) = j_:=⟨_,rfl⟩
 replace H : (zK.l0 k ([] : List Bool) ji6 0 a1_0 a1_1) = some r:=by first|(rw [hji6] at H;exact H)|(simp only [hji6] at H ⊢;exact H)
 (try rw [hji6] at A3)
 have hji6_ : (IntKind.i64.wrap (1 * 2 ^ min a0.toNat 64)) = ji6:=hji6
 have hji6z : a0 ≤ 64 → (IntKind.i64.wrap (1 * 2 ^ a0.toNat)) = ji6:=z1S hji6
 have hji6u : (IntKind.i64.wrap (2 ^ min a0.toNat 64)) = ji6:=by have h_:=hji6_;rw [Int.one_mul] at h_;exact h_
 have hji6v : a0 ≤ 64 → (IntKind.i64.wrap (2 ^ a0.toNat)) = ji6:=fun hle_=>by have h_:=hji6z hle_;rw [Int.one_mul] at h_;exact h_
 have hji6y : (wrap64 (1 * 2 ^ min a0.toNat 64)) = ji6:=(zS _).symm.trans hji6_
 have hji6x : a0 ≤ 64 → (wrap64 (1 * 2 ^ a0.toNat)) = ji6:=fun h_=>(zS _).symm.trans (hji6z h_)
 have H':=z1.mk H
 clear H
 go_enter Try.func125,Try.ntmps125
 go_wp2_with (first|((with_reducible refine zF (N:=3) rfl ?_);refine zG ?hg (N:=3) ?hd (cs:=#[.int .u64 a1_0,.int .u64 a1_1]) (t:=30) ?hr ?_;(case hd=>rfl);(case hg=>rfl);(case hr=>first|(go_simp;done)|(go_simp;rfl));intro gb101 hg w7 hbox hb;have n0_:=z1.mk (z4 zz28 hb);have n1_:=z1.mk (hbox);have n2_:=z1.mk ((by rw [hg];exact (z5 zz28) : w.heap.size ≤ gb101));have n3_:=z1.mk ((by rw [hg];exact (z5 zz28) : w.heap.size ≤ gb101));clear HB;have HB:=n0_;have BK101:=n1_;have GW101:=n2_;have GE101:=n3_;clear n0_ n1_ n2_ n3_;clear hb hbox hg;have hcz8_0 : w7.cell? ⟨gb101,0,none⟩ = some (.int .u64 a1_0):=(zc BK101.out 0).trans rfl;have hcz8_1 : w7.cell? ⟨gb101,1,none⟩ = some (.int .u64 a1_1):=(zc BK101.out 1).trans rfl;have hfz8_0:=z8 BK101.out 0;have hfz8_1:=z8 BK101.out 1)|((with_reducible refine zl (f:=81) rfl ?_);refine goesL_ (some 10) rfl rfl Try.func81 zz78 rfl #[.int .i64 a0,.agg #[.int .u64 a1_0,.int .u64 a1_1]] rfl zz27 ?_;(with_reducible refine (zM.calls k a0 a1_0 a1_1 true _ A3.out).mono ?_);rintro e w9 ⟨rfl,hb⟩;refine ⟨_,rfl,?_⟩;have n0_:=z1.mk (zg (g:=gb101) (o:=.cells #[.int .u64 a1_0,.int .u64 a1_1] 30 (0,0)) zz29 hb);have n1_:=z1.mk (z4 zz25 hb);clear BK101;clear HB;have BK101:=n0_;have HB:=n1_;clear n0_ n1_;(try clear hb);(try clear hb2);(try clear hk);(try clear hi)))
 go_loopg [5,14] k (fun kq v5 v14 w'=>∃ (x5_1 : List Bool) (x14_1 : Int),v14 = .int .i64 x14_1 ∧ z1 (zK.l0 kq x5_1 ji6 x14_1 a1_0 a1_1 = some r) ∧ z1 (kq ≤ k) ∧ z1 (Kd.R Kd.bool 4 w' w.heap.size (fun _=>True) v5 x5_1) ∧ z1 (w'.heap[gb101]? = some (.cells #[.int .u64 a1_0,.int .u64 a1_1] 30 (0,0))) ∧ z1 (Below w.heap.size w w'))
 case atStart=>exact ⟨(([] : List Bool)),(0),zz75,H',⟨Nat.le_refl _⟩,⟨by first|exact Kd.z3f _ _ _ _ _|exact Kd.z3P _ _ _ _ _|exact Kd.z3S _ _ _ _ _|exact Kd.z3Q _ _ _ _ _|exact Kd.z3R _ _ _ _ _⟩,⟨by (with_reducible repeat (first|refine zb ?_ _|refine zf ?_|refine za ?_ _));exact BK101.out⟩,⟨by repeat (first|(with_reducible first|exact HB.out|apply z7|apply z2|apply z6|refine zd ?_ GE101.out)|exact HB.out)⟩⟩
 case round =>
  clear H'
  (try clear c1);(try clear p2);(try clear c4);(try clear c5);(try clear c5b0);(try clear c5b1);(try clear p6);(try clear c8);(try clear hcz8_0);(try clear hcz8_1);(try clear hfz8_0);(try clear hfz8_1)
  obtain ⟨x5_1,x14_1,rfl,HA,HK1,HO_5,BK101,HB⟩:=hrel
  cases gk with
  | zero=>exact absurd HA.out (by simp [zK.l0])
  | succ k1 =>
   have H:=HA.out
   clear HA
   simp only [zK.l0] at H
   by_cases c10 : x14_1 < ji6
   rotate_left
   · rw [if_neg c10] at H
     have c10b0 : decide (x14_1 < ji6) = false:=decide_eq_false c10
     clear c10
     obtain rfl:=Option.some.inj H
     go_wp2
     go_ret
     exact ⟨_,by first|rfl|(simp [zi,zj] <;> rfl)|(simp only [← hji6];first|rfl|(simp [zi,zj] <;> rfl))|(simp [*,zi,zj] <;> rfl),by (with_reducible repeat (first|apply Kd.zC|apply Kd.zD|apply Kd.zO));exact HO_5.out,by repeat (first|(with_reducible first|exact HB.out|apply z7|apply z2|apply z6|refine zd ?_ GE101.out)|exact HB.out)⟩
   rw [if_pos c10] at H
   have c10b0 : decide (x14_1 < ji6) = true:=decide_eq_true c10
   clear c10
   replace H:=Option.bind_eq_some_iff.mp H
   obtain ⟨⟨t103,t104⟩,A110,H⟩:=H
   replace H : (if x5_1.length < 140737488355328 then (zK.l0 k1 (x5_1 ++ [((Go.bits .or .u64 (Go.bits .and .u64 a1_1 t104) (Go.bits .and .u64 a1_0 t103)) != 0)]) ji6 (wrap64 (x14_1 + 1)) a1_0 a1_1) else (none)) = some r:=H
   have A11:=z1.mk A110
   clear A110
   by_cases c12 : x5_1.length < 140737488355328
   rotate_left
   · rw [if_neg c12] at H
     exact absurd H zz81
   rw [if_pos c12] at H
   have LMc12:=z1.mk c12
   clear c12
   obtain ⟨y106,hy106⟩ : ∃ y_ : List Bool,y_ = (x5_1 ++ [((Go.bits .or .u64 (Go.bits .and .u64 a1_1 t104) (Go.bits .and .u64 a1_0 t103)) != 0)]):=⟨_,rfl⟩
   replace H : (zK.l0 k1 y106 ji6 (wrap64 (x14_1 + 1)) a1_0 a1_1) = some r:=by first|(rw [hy106];with_reducible exact H)|(have H2_:=(Option.bind_some _ _).symm.trans H;rw [hy106];with_reducible exact H2_)|(have H2_:=(Option.bind_some _ _).symm.trans H;with_reducible exact H2_)|with_reducible exact H|(rw [hy106];exact H)|exact H
   have Ny106:=z1.mk hy106
   clear hy106
   have H':=z1.mk H
   clear H
   go_wp2_with (first|((with_reducible refine zl (f:=94) rfl ?_);refine goesL_ (some 18) rfl rfl Try.func94 zz78 rfl #[.int .i64 x14_1] rfl zz27 ?_;(with_reducible refine (zI.calls k1 x14_1 t103 t104 _ A11.out).mono ?_);rintro e w13 ⟨rfl,hb⟩;refine ⟨_,rfl,?_⟩;have n0_:=z1.mk (Kd.zJ zz53 hb);have n1_:=z1.mk (zg (g:=gb101) (o:=.cells #[.int .u64 a1_0,.int .u64 a1_1] 30 (0,0)) zz29 hb);have n2_:=z1.mk (z4 zz25 hb);clear HO_5;clear BK101;clear HB;have HO_5:=n0_;have BK101:=n1_;have HB:=n2_;clear n0_ n1_ n2_;(try clear hb);(try clear hb2);(try clear hk);(try clear hi))|((with_reducible refine zF (N:=7) rfl ?_);refine zG ?hg (N:=7) ?hd (cs:=#[.int .u64 0,.int .u64 0]) (t:=30) ?hr ?_;(case hd=>rfl);(case hg=>rfl);(case hr=>first|(go_simp;done)|(go_simp;rfl));intro gb105 hg w14 hbox hb;have n0_:=z1.mk (Kd.zJ zz53 hb);have n1_:=z1.mk (zg (g:=gb101) (o:=.cells #[.int .u64 a1_0,.int .u64 a1_1] 30 (0,0)) zz29 hb);have n2_:=z1.mk (z4 zz25 hb);have n3_:=z1.mk (hbox);have n4_:=z1.mk ((by rw [hg];exact (z5 zz25) : w.heap.size ≤ gb105));have n5_:=z1.mk ((by rw [hg];exact (z5 zz25) : w.heap.size ≤ gb105));have n6_:=z1.mk ((by rw [hg];exact Nat.ne_of_lt (zU (g:=gb101) (o:=.cells #[.int .u64 a1_0,.int .u64 a1_1] 30 (0,0)) zz29) : gb101 ≠ gb105));have n7_:=z1.mk ((by rw [hg];exact Nat.ne_of_gt (zU (g:=gb101) (o:=.cells #[.int .u64 a1_0,.int .u64 a1_1] 30 (0,0)) zz29) : gb105 ≠ gb101));clear HO_5;clear BK101;clear HB;have HO_5:=n0_;have BK101:=n1_;have HB:=n2_;have BK105:=n3_;have GW105:=n4_;have GE105:=n5_;have NB101_105:=n6_;have NB105_101:=n7_;clear n0_ n1_ n2_ n3_ n4_ n5_ n6_ n7_;clear hb hbox hg;have hnb15:=NB105_101.out;have hnc15:=NB101_105.out;have hcz16_0 : w14.cell? ⟨gb105,0,none⟩ = some (.int .u64 0):=(zc BK105.out 0).trans rfl;have hcz16_1 : w14.cell? ⟨gb105,1,none⟩ = some (.int .u64 0):=(zc BK105.out 1).trans rfl;have hfz16_0:=z8 BK105.out 0;have hfz16_1:=z8 BK105.out 1;have hcz17_0 : w14.cell? ⟨gb101,0,none⟩ = some (.int .u64 a1_0):=(zc BK101.out 0).trans rfl;have hcz17_1 : w14.cell? ⟨gb101,1,none⟩ = some (.int .u64 a1_1):=(zc BK101.out 1).trans rfl;have hfz17_0:=z8 BK101.out 0;have hfz17_1:=z8 BK101.out 1)|((with_reducible refine z2k (b:=.append) (xs:=#[.tmp 19,.tmp 32]) rfl ?_);at_builtin;refine Kd.z3T Kd.bool (w0:=w) w.heap.size rfl (.tmp 19) (.tmp 32) 69 4 (.bool false) 1 rfl Try.underlying69 info4 rfl zz79 zz80 u5 x5_1 ((Go.bits .or .u64 (Go.bits .and .u64 a1_1 t104) (Go.bits .and .u64 a1_0 t103)) != 0) [.bool ((Go.bits .or .u64 (Go.bits .and .u64 a1_1 t104) (Go.bits .and .u64 a1_0 t103)) != 0)] (fun _=>True) (fun _=>False) rfl (by first|(go_simp;done)|(go_simp;rfl)) ?aP (fun _ hk=>hk.elim) ?aF ?aO ?aB ?aS ?aL ?_;(case aP=>exact rfl);(case aB=>exact zz23);(case aF=>exact (fun _ _=>trivial));(case aO=>exact (by (with_reducible repeat (first|apply Kd.zC|apply Kd.zD|apply Kd.zO));exact Kd.z16 (Kd.z2u (p:=⟨gb105,1,none⟩) (Kd.z2u (p:=⟨gb105,0,none⟩) (Kd.z6P HO_5.out BK105.out zz79) (fun _ hk=>hk.2) (.int .u64 t103)) (fun _ hk=>hk.2) (.int .u64 t104)) (fun _ hk=>trivial)));(case aS=>exact (z5 zz23));(case aL=>have:=LMc12.out;omega);intro v107 w18 ho hb hg hat;rw [← Ny106.out] at ho;have n0_:=z1.mk (z26 (g:=gb101) (o:=.cells #[.int .u64 a1_0,.int .u64 a1_1] 30 (0,0)) (by (with_reducible repeat (first|refine zb ?_ _|refine zf ?_|refine za ?_ _));refine z1a ?_ NB101_105.out _;(with_reducible repeat (first|refine zb ?_ _|refine zf ?_|refine za ?_ _));refine z1a ?_ NB101_105.out _;(with_reducible repeat (first|refine zb ?_ _|refine zf ?_|refine za ?_ _));exact BK101.out) hg (Kd.R_ne HO_5.out BK101.out zz79));have n1_:=z1.mk (z26 (g:=gb105) (o:=.cells #[.int .u64 t103,.int .u64 t104] 30 (0,0)) (by (with_reducible repeat (first|refine zb ?_ _|refine zf ?_|refine za ?_ _));refine z1m (cs:=#[.int .u64 t103,.int .u64 0]) ?_ 1 _ rfl;(with_reducible repeat (first|refine zb ?_ _|refine zf ?_|refine za ?_ _));refine z1m (cs:=#[.int .u64 0,.int .u64 0]) ?_ 0 _ rfl;(with_reducible repeat (first|refine zb ?_ _|refine zf ?_|refine za ?_ _));exact BK105.out) hg (Kd.R_ne HO_5.out BK105.out zz79));have n2_:=z1.mk (hb);have n3_:=z1.mk (ho);clear BK101;clear BK105;clear HB;clear HO_5;have BK101:=n0_;have BK105:=n1_;have HB:=n2_;have HO108:=n3_;clear n0_ n1_ n2_ n3_;clear ho hb hg hat))
   go_roundg k1
   case measure=>have:=HK1.out;omega
   case rel=>exact ⟨(y106),(wrap64 (x14_1 + 1)),zz75,H',⟨by have:=HK1.out;omega⟩,⟨by (with_reducible repeat (first|apply Kd.zC|apply Kd.zD|apply Kd.zO));exact HO108.out⟩,⟨by (with_reducible repeat (first|refine zb ?_ _|refine zf ?_|refine za ?_ _));exact BK101.out⟩,⟨by repeat (first|(with_reducible first|exact HB.out|apply z7|apply z2|apply z6|refine zd ?_ GE101.out|refine zd ?_ GE105.out)|exact HB.out)⟩⟩
end Go.Proofs.Ytkhmpaooinpfoaa.P

/- Joined texts (pack.py): what the statement's proof needs, part 5. No condition. -/
import Derived.Below
import Derived.Deep.Draws
import Derived.Deep.AppendLies
import Derived.Maps.AppendAt
import Derived.OwnWalk
import Derived.Laws.BytesArg
import Derived.Laws.MakeOwn
import Derived.Laws.OwnMore
import Derived.Deep.OwnRows
import Derived.Tactics
import Derived.Lib.ConvBytes
import Derived.Laws.Slices
import Derived.WalkKit
import Derived.KernelRfl
import Derived.RowKit3
import Derived.Deep.LoopGhost
import Derived.Deep.QuietTactic
import Derived.BigQuiet
import Derived.WideLaws
import Derived.Deep.DeepCutAuto
import Derived.Deep.CutBlock
import Derived.Deep.RegionHeld3
import Derived.Laws.Rows
import Derived.Lib.AppendStr
import Derived.ArgAppend
import Derived.Laws.IdiomCopy
import Derived.RowKit
import Derived.OrdersHeld
import Derived.Laws.BitsLemmas
import Derived.Laws.StructEq
import Derived.Deep.Slices
import Derived.ChangeArms
import Derived.OpenShut
import Derived.Test.YthemhfloablccaaDoorProg
import Derived.Deep.RegionLaw
import Derived.StillTailTactics
import Derived.Deep.Light
import Derived.Deep.RegionHeldLaw
import Derived.Deep.DrawnRows
import Derived.Test.YthemhfloablccaaDoorTie
import Derived.Test.YthemhfloablccaaDoorCards
import Derived.LaidMore
import Derived.Lay
import Derived.SevenTiedAt
import Derived.Stop.Joined
import Derived.ProofKit
import Derived.ShutString
import Derived.ChangeOld
import Derived.SizedLaws
import Derived.Carry
import Derived.Test.YthemhfloablccaaDoorGb1
import Derived.Test.YthemhfloablccaaDoorGb2
import Derived.Test.YthemhfloablccaaDoorGb3
import Derived.Test.YthemhfloablccaaDoorGb4
set_option linter.unusedVariables false
set_option linter.unusedSimpArgs false
section
namespace Go.Proofs.YthemhfloablccaaDoor.Pr
open Go.RowKit Go.Proofs.YthemhfloablccaaDoorW.PrintWords Go.Proofs.YthemhfloablccaaDoorW.PrintLast Go.Proofs.YthemhfloablccaaDoorW.PrintMore
attribute [local go_sem] max2_int min2_int max_two min_two max_three min_three max_four min_four
def samphirelaw20_control.f (a0 : Int) (a1 : Int) (a2 : Int) : Option (Int × Int × Int × Int × ByteArray × Int × Int × Int × Int × Int × Int × Int × ByteArray × ByteArray × Int × (List (S80))) := if 32 ≤ 281474976710656 then (some (a0, 1, a1, 0, strOfNums (List.replicate 32 0), 0, 0, 0, 0, 0, 0, 0, (⟨#[]⟩ : ByteArray), (⟨#[]⟩ : ByteArray), a2, ([] : List (S80)))) else (none)
set_option maxHeartbeats 8000000 in
set_option maxRecDepth 100000 in
theorem samphirelaw20_control.calls (a0 : Int) (a1 : Int) (a2 : Int) (r1 : Int) (r2 : Int) (r3 : Int) (r4 : Int) (r5 : ByteArray) (r6 : Int) (r7 : Int) (r8 : Int) (r9 : Int) (r10 : Int) (r11 : Int) (r12 : Int) (r13 : ByteArray) (r14 : ByteArray) (r15 : Int) (r16 : List (S80)) (w : World) (h : samphirelaw20_control.f a0 a1 a2 = some (r1, r2, r3, r4, r5, r6, r7, r8, r9, r10, r11, r12, r13, r14, r15, r16)) :
  Calls Tryd.prog 31 #[.int .i64 a0, .int .i64 a1, .int .i64 a2] w fun e w' => ∃ v15_ : Value, e = .returned (.agg #[.int .i64 r1, .int .i64 r2, .int .i64 r3, .int .i64 r4, .string r5, .int .i64 r6, .int .i64 r7, .int .i64 r8, .int .i64 r9, .int .i64 r10, .int .i64 r11, .int .i64 r12, .string r13, .string r14, .int .i64 r15, v15_]) ∧ Kd.R k80 80 w' w.heap.size (fun _ => True) v15_ r16 ∧ Below w.heap.size w w' := by
 have hu31 := Tryd.underlying31; have HB := Aside0.mk (Below.refl w.heap.size w); have H : (if 32 ≤ 281474976710656 then (some (a0, 1, a1, 0, strOfNums (List.replicate 32 0), 0, 0, 0, 0, 0, 0, 0, (⟨#[]⟩ : ByteArray), (⟨#[]⟩ : ByteArray), a2, ([] : List (S80)))) else (none)) = some (r1, r2, r3, r4, r5, r6, r7, r8, r9, r10, r11, r12, r13, r14, r15, r16) := h; clear h; by_cases c4 : 32 ≤ 281474976710656
 ·rw [if_pos c4] at H; have c4b0 := eq_true c4; have c4b1 : decide (32 ≤ 281474976710656) = true := decide_eq_true c4; clear c4; obtain ⟨y196, hy196⟩ : ∃ y_ : List Int, y_ = (List.replicate 32 0) := ⟨_, rfl⟩; replace H : (some (a0, 1, a1, 0, strOfNums y196, 0, 0, 0, 0, 0, 0, 0, (⟨#[]⟩ : ByteArray), (⟨#[]⟩ : ByteArray), a2, ([] : List (S80)))) = some (r1, r2, r3, r4, r5, r6, r7, r8, r9, r10, r11, r12, r13, r14, r15, r16) := by first | (rw [hy196]; with_reducible exact H) | (have H2_ := (Option.bind_some _ _).symm.trans H; rw [hy196]; with_reducible exact H2_) | (have H2_ := (Option.bind_some _ _).symm.trans H; with_reducible exact H2_) | with_reducible exact H | (rw [hy196]; exact H) | exact H
  have Ny196 := Aside0.mk hy196; clear hy196; simp only [Option.some.injEq, Prod.mk.injEq] at H; obtain ⟨rfl, rfl, rfl, rfl, rfl, rfl, rfl, rfl, rfl, rfl, rfl, rfl, rfl, rfl, rfl, rfl⟩ := H; go_enter Tryd.func31, Tryd.ntmps31
  go_wp2_with (first | ((with_reducible refine gate_dst (N := 6) rfl ?_); refine box_event ?hg (N := 6) ?hd (cs := #[.int .i64 0, .int .i64 0, .int .i64 0, .int .i64 0, .string (⟨#[]⟩ : ByteArray), .int .i64 0, .int .i64 0, .int .i64 0, .int .i64 0, .int .i64 0, .int .i64 0, .int .i64 0, .string (⟨#[]⟩ : ByteArray), .string (⟨#[]⟩ : ByteArray), .int .i64 0, .slice none 0 0]) (t := 31) ?hr ?_; (case hd => rfl); (case hg => rfl); (case hr => first | (go_simp; done) | (go_simp; rfl)); intro gb195 hg w5 hbox hb; have n0_ := Aside0.mk (below_step hb_ hb); have n1_ := Aside0.mk (hbox); have n2_ := Aside0.mk ((by rw [hg]; exact (below_size hb_) : w.heap.size ≤ gb195)); have n3_ := Aside0.mk ((by rw [hg]; exact (below_size hb_) : w.heap.size ≤ gb195)); clear HB; have HB := n0_; have BK195 := n1_; have GW195 := n2_; have GE195 := n3_; clear n0_ n1_ n2_ n3_; clear hb hbox hg) | ((with_reducible refine gate_dst (N := 9) rfl ?_); refine Kd.R_make (Kd.int .u8) _ 5 rfl (N := 9) rfl 53 _ _ rfl 32 rfl rfl Tryd.underlying53 (.int .u8 0) 1 info5 rfl (by decide) (by omega) 0 (ok := fun _ => True) (okp := fun _ => True) rfl (fun _ hk => hk) trivial (by omega) (by omega) (Below.refl _ _) (Nat.le_refl _) ?_; intro v197 w6 ho7 hb hg_ hnew_; clear hg_ hnew_; (first | rw [← Ny196.out] at ho7 | (simp only [Int.reduceToNat] at ho7; rw [← Ny196.out] at ho7)); have n0_ := Aside0.mk (Kd.R_lower ho7 (below_size (by repeat (first | (with_reducible first | exact HB.out | apply below_alloc | apply pw_below_drewN | apply below_drew1 | refine below_set ?_ GE195.out) | exact HB.out)))); have n1_ := Aside0.mk (blk_below (g := gb195) (o := .cells #[.int .i64 0, .int .i64 0, .int .i64 0, .int .i64 0, .string (⟨#[]⟩ : ByteArray), .int .i64 0, .int .i64 0, .int .i64 0, .int .i64 0, .int .i64 0, .int .i64 0, .int .i64 0, .string (⟨#[]⟩ : ByteArray), .string (⟨#[]⟩ : ByteArray), .int .i64 0, .slice none 0 0] 31 (0, 0)) (by (with_reducible repeat (first | refine blk_drewN ?_ _ | refine blk_drew ?_ | refine blk_alloc ?_ _)); exact BK195.out) hb); have n2_ := Aside0.mk (below_step (by repeat (first | (with_reducible first | exact HB.out | apply below_alloc | apply pw_below_drewN | apply below_drew1 | refine below_set ?_ GE195.out) | exact HB.out)) hb); clear BK195; clear HB; have HO198 := n0_; have BK195 := n1_; have HB := n2_; clear n0_ n1_ n2_; clear hb ho7; have hcv8 := own_string (P := Tryd.prog) Tryd.underlying53 Tryd.underlying5 Tryd.underlying9 (Kd.own_of_R HO198.out); have hcz9_0 : w6.cell? ⟨gb195, 0, none⟩ = some (.int .i64 0) := (blk_cell BK195.out 0).trans rfl; have hcz9_1 : w6.cell? ⟨gb195, 1, none⟩ = some (.int .i64 0) := (blk_cell BK195.out 1).trans rfl; have hcz9_2 : w6.cell? ⟨gb195, 2, none⟩ = some (.int .i64 0) := (blk_cell BK195.out 2).trans rfl; have hcz9_3 : w6.cell? ⟨gb195, 3, none⟩ = some (.int .i64 0) := (blk_cell BK195.out 3).trans rfl; have hcz9_4 : w6.cell? ⟨gb195, 4, none⟩ = some (.string (⟨#[]⟩ : ByteArray)) := (blk_cell BK195.out 4).trans rfl; have hcz9_5 : w6.cell? ⟨gb195, 5, none⟩ = some (.int .i64 0) := (blk_cell BK195.out 5).trans rfl; have hcz9_6 : w6.cell? ⟨gb195, 6, none⟩ = some (.int .i64 0) := (blk_cell BK195.out 6).trans rfl; have hcz9_7 : w6.cell? ⟨gb195, 7, none⟩ = some (.int .i64 0) := (blk_cell BK195.out 7).trans rfl; have hcz9_8 : w6.cell? ⟨gb195, 8, none⟩ = some (.int .i64 0) := (blk_cell BK195.out 8).trans rfl; have hcz9_9 : w6.cell? ⟨gb195, 9, none⟩ = some (.int .i64 0) := (blk_cell BK195.out 9).trans rfl; have hcz9_10 : w6.cell? ⟨gb195, 10, none⟩ = some (.int .i64 0) := (blk_cell BK195.out 10).trans rfl; have hcz9_11 : w6.cell? ⟨gb195, 11, none⟩ = some (.int .i64 0) := (blk_cell BK195.out 11).trans rfl; have hcz9_12 : w6.cell? ⟨gb195, 12, none⟩ = some (.string (⟨#[]⟩ : ByteArray)) := (blk_cell BK195.out 12).trans rfl; have hcz9_13 : w6.cell? ⟨gb195, 13, none⟩ = some (.string (⟨#[]⟩ : ByteArray)) := (blk_cell BK195.out 13).trans rfl; have hcz9_14 : w6.cell? ⟨gb195, 14, none⟩ = some (.int .i64 0) := (blk_cell BK195.out 14).trans rfl; have hcz9_15 : w6.cell? ⟨gb195, 15, none⟩ = some (.slice none 0 0) := (blk_cell BK195.out 15).trans rfl; have hfz9_0 := blk_frozen BK195.out 0; have hfz9_1 := blk_frozen BK195.out 1; have hfz9_2 := blk_frozen BK195.out 2; have hfz9_3 := blk_frozen BK195.out 3; have hfz9_4 := blk_frozen BK195.out 4; have hfz9_5 := blk_frozen BK195.out 5; have hfz9_6 := blk_frozen BK195.out 6; have hfz9_7 := blk_frozen BK195.out 7; have hfz9_8 := blk_frozen BK195.out 8; have hfz9_9 := blk_frozen BK195.out 9; have hfz9_10 := blk_frozen BK195.out 10; have hfz9_11 := blk_frozen BK195.out 11; have hfz9_12 := blk_frozen BK195.out 12; have hfz9_13 := blk_frozen BK195.out 13; have hfz9_14 := blk_frozen BK195.out 14; have hfz9_15 := blk_frozen BK195.out 15))
  refine bodyPost_ret (results_cell_row rfl _ _ gb195 31 #[.int .i64 a0, .int .i64 1, .int .i64 a1, .int .i64 0, .string (strOfNums y196), .int .i64 0, .int .i64 0, .int .i64 0, .int .i64 0, .int .i64 0, .int .i64 0, .int .i64 0, .string (⟨#[]⟩ : ByteArray), .string (⟨#[]⟩ : ByteArray), .int .i64 a2, .slice none 0 0] (0, 0) _ rfl (by (with_reducible repeat (first | refine blk_drewN ?_ _ | refine blk_drew ?_ | refine blk_alloc ?_ _)); refine blk_put (cs := #[.int .i64 a0, .int .i64 1, .int .i64 a1, .int .i64 0, .string (strOfNums y196), .int .i64 0, .int .i64 0, .int .i64 0, .int .i64 0, .int .i64 0, .int .i64 0, .int .i64 0, .string (⟨#[]⟩ : ByteArray), .string (⟨#[]⟩ : ByteArray), .int .i64 a2, .slice none 0 0]) ?_ 15 _ rfl; (with_reducible repeat (first | refine blk_drewN ?_ _ | refine blk_drew ?_ | refine blk_alloc ?_ _)); refine blk_put (cs := #[.int .i64 a0, .int .i64 1, .int .i64 a1, .int .i64 0, .string (strOfNums y196), .int .i64 0, .int .i64 0, .int .i64 0, .int .i64 0, .int .i64 0, .int .i64 0, .int .i64 0, .string (⟨#[]⟩ : ByteArray), .string (⟨#[]⟩ : ByteArray), .int .i64 0, .slice none 0 0]) ?_ 14 _ rfl; (with_reducible repeat (first | refine blk_drewN ?_ _ | refine blk_drew ?_ | refine blk_alloc ?_ _)); refine blk_put (cs := #[.int .i64 a0, .int .i64 1, .int .i64 a1, .int .i64 0, .string (strOfNums y196), .int .i64 0, .int .i64 0, .int .i64 0, .int .i64 0, .int .i64 0, .int .i64 0, .int .i64 0, .string (⟨#[]⟩ : ByteArray), .string (⟨#[]⟩ : ByteArray), .int .i64 0, .slice none 0 0]) ?_ 13 _ rfl; (with_reducible repeat (first | refine blk_drewN ?_ _ | refine blk_drew ?_ | refine blk_alloc ?_ _)); refine blk_put (cs := #[.int .i64 a0, .int .i64 1, .int .i64 a1, .int .i64 0, .string (strOfNums y196), .int .i64 0, .int .i64 0, .int .i64 0, .int .i64 0, .int .i64 0, .int .i64 0, .int .i64 0, .string (⟨#[]⟩ : ByteArray), .string (⟨#[]⟩ : ByteArray), .int .i64 0, .slice none 0 0]) ?_ 12 _ rfl; (with_reducible repeat (first | refine blk_drewN ?_ _ | refine blk_drew ?_ | refine blk_alloc ?_ _)); refine blk_put (cs := #[.int .i64 a0, .int .i64 1, .int .i64 a1, .int .i64 0, .string (strOfNums y196), .int .i64 0, .int .i64 0, .int .i64 0, .int .i64 0, .int .i64 0, .int .i64 0, .int .i64 0, .string (⟨#[]⟩ : ByteArray), .string (⟨#[]⟩ : ByteArray), .int .i64 0, .slice none 0 0]) ?_ 11 _ rfl; (with_reducible repeat (first | refine blk_drewN ?_ _ | refine blk_drew ?_ | refine blk_alloc ?_ _)); refine blk_put (cs := #[.int .i64 a0, .int .i64 1, .int .i64 a1, .int .i64 0, .string (strOfNums y196), .int .i64 0, .int .i64 0, .int .i64 0, .int .i64 0, .int .i64 0, .int .i64 0, .int .i64 0, .string (⟨#[]⟩ : ByteArray), .string (⟨#[]⟩ : ByteArray), .int .i64 0, .slice none 0 0]) ?_ 10 _ rfl; (with_reducible repeat (first | refine blk_drewN ?_ _ | refine blk_drew ?_ | refine blk_alloc ?_ _)); refine blk_put (cs := #[.int .i64 a0, .int .i64 1, .int .i64 a1, .int .i64 0, .string (strOfNums y196), .int .i64 0, .int .i64 0, .int .i64 0, .int .i64 0, .int .i64 0, .int .i64 0, .int .i64 0, .string (⟨#[]⟩ : ByteArray), .string (⟨#[]⟩ : ByteArray), .int .i64 0, .slice none 0 0]) ?_ 9 _ rfl; (with_reducible repeat (first | refine blk_drewN ?_ _ | refine blk_drew ?_ | refine blk_alloc ?_ _)); refine blk_put (cs := #[.int .i64 a0, .int .i64 1, .int .i64 a1, .int .i64 0, .string (strOfNums y196), .int .i64 0, .int .i64 0, .int .i64 0, .int .i64 0, .int .i64 0, .int .i64 0, .int .i64 0, .string (⟨#[]⟩ : ByteArray), .string (⟨#[]⟩ : ByteArray), .int .i64 0, .slice none 0 0]) ?_ 8 _ rfl; (with_reducible repeat (first | refine blk_drewN ?_ _ | refine blk_drew ?_ | refine blk_alloc ?_ _)); refine blk_put (cs := #[.int .i64 a0, .int .i64 1, .int .i64 a1, .int .i64 0, .string (strOfNums y196), .int .i64 0, .int .i64 0, .int .i64 0, .int .i64 0, .int .i64 0, .int .i64 0, .int .i64 0, .string (⟨#[]⟩ : ByteArray), .string (⟨#[]⟩ : ByteArray), .int .i64 0, .slice none 0 0]) ?_ 7 _ rfl; (with_reducible repeat (first | refine blk_drewN ?_ _ | refine blk_drew ?_ | refine blk_alloc ?_ _)); refine blk_put (cs := #[.int .i64 a0, .int .i64 1, .int .i64 a1, .int .i64 0, .string (strOfNums y196), .int .i64 0, .int .i64 0, .int .i64 0, .int .i64 0, .int .i64 0, .int .i64 0, .int .i64 0, .string (⟨#[]⟩ : ByteArray), .string (⟨#[]⟩ : ByteArray), .int .i64 0, .slice none 0 0]) ?_ 6 _ rfl; (with_reducible repeat (first | refine blk_drewN ?_ _ | refine blk_drew ?_ | refine blk_alloc ?_ _)); refine blk_put (cs := #[.int .i64 a0, .int .i64 1, .int .i64 a1, .int .i64 0, .string (strOfNums y196), .int .i64 0, .int .i64 0, .int .i64 0, .int .i64 0, .int .i64 0, .int .i64 0, .int .i64 0, .string (⟨#[]⟩ : ByteArray), .string (⟨#[]⟩ : ByteArray), .int .i64 0, .slice none 0 0]) ?_ 5 _ rfl; (with_reducible repeat (first | refine blk_drewN ?_ _ | refine blk_drew ?_ | refine blk_alloc ?_ _)); refine blk_put (cs := #[.int .i64 a0, .int .i64 1, .int .i64 a1, .int .i64 0, .string (⟨#[]⟩ : ByteArray), .int .i64 0, .int .i64 0, .int .i64 0, .int .i64 0, .int .i64 0, .int .i64 0, .int .i64 0, .string (⟨#[]⟩ : ByteArray), .string (⟨#[]⟩ : ByteArray), .int .i64 0, .slice none 0 0]) ?_ 4 _ rfl; (with_reducible repeat (first | refine blk_drewN ?_ _ | refine blk_drew ?_ | refine blk_alloc ?_ _)); refine blk_put (cs := #[.int .i64 a0, .int .i64 1, .int .i64 a1, .int .i64 0, .string (⟨#[]⟩ : ByteArray), .int .i64 0, .int .i64 0, .int .i64 0, .int .i64 0, .int .i64 0, .int .i64 0, .int .i64 0, .string (⟨#[]⟩ : ByteArray), .string (⟨#[]⟩ : ByteArray), .int .i64 0, .slice none 0 0]) ?_ 3 _ rfl; (with_reducible repeat (first | refine blk_drewN ?_ _ | refine blk_drew ?_ | refine blk_alloc ?_ _)); refine blk_put (cs := #[.int .i64 a0, .int .i64 1, .int .i64 0, .int .i64 0, .string (⟨#[]⟩ : ByteArray), .int .i64 0, .int .i64 0, .int .i64 0, .int .i64 0, .int .i64 0, .int .i64 0, .int .i64 0, .string (⟨#[]⟩ : ByteArray), .string (⟨#[]⟩ : ByteArray), .int .i64 0, .slice none 0 0]) ?_ 2 _ rfl; (with_reducible repeat (first | refine blk_drewN ?_ _ | refine blk_drew ?_ | refine blk_alloc ?_ _)); refine blk_put (cs := #[.int .i64 a0, .int .i64 0, .int .i64 0, .int .i64 0, .string (⟨#[]⟩ : ByteArray), .int .i64 0, .int .i64 0, .int .i64 0, .int .i64 0, .int .i64 0, .int .i64 0, .int .i64 0, .string (⟨#[]⟩ : ByteArray), .string (⟨#[]⟩ : ByteArray), .int .i64 0, .slice none 0 0]) ?_ 1 _ rfl; (with_reducible repeat (first | refine blk_drewN ?_ _ | refine blk_drew ?_ | refine blk_alloc ?_ _)); refine blk_put (cs := #[.int .i64 0, .int .i64 0, .int .i64 0, .int .i64 0, .string (⟨#[]⟩ : ByteArray), .int .i64 0, .int .i64 0, .int .i64 0, .int .i64 0, .int .i64 0, .int .i64 0, .int .i64 0, .string (⟨#[]⟩ : ByteArray), .string (⟨#[]⟩ : ByteArray), .int .i64 0, .slice none 0 0]) ?_ 0 _ rfl; (with_reducible repeat (first | refine blk_drewN ?_ _ | refine blk_drew ?_ | refine blk_alloc ?_ _)); exact BK195.out) Tryd.underlying31 rfl (by kernel_rfl)) rfl ?_
  exact ⟨_, ew_, by first | exact Kd.R_nil _ _ _ _ _ | exact Kd.N_nil _ _ _ _ _ | exact Kd.V_nil _ _ _ _ _ | exact Kd.Q_nil _ _ _ _ _ | exact Kd.S_nil _ _ _ _ _, by repeat (first | (with_reducible first | exact HB.out | apply below_alloc | apply pw_below_drewN | apply below_drew1 | refine below_set ?_ GE195.out) | exact HB.out)⟩
 ·rw [if_neg c4] at H; exact absurd H (by simp)
end Go.Proofs.YthemhfloablccaaDoor.Pr
end

section
namespace Go.Proofs.YthemhfloablccaaDoor.Pr
open Go.RowKit Go.Deep Go.Proofs.YthemhfloablccaaDoorW.PrintWords Go.Proofs.YthemhfloablccaaDoorW.PrintLast Go.Proofs.YthemhfloablccaaDoorW.PrintMore
set_option maxHeartbeats 8000000
def M0 : List Mem := [⟨1, 0, true⟩, ⟨2, 0, false⟩, ⟨3, 0, false⟩, ⟨4, 0, false⟩, ⟨5, 0, false⟩, ⟨6, 0, false⟩]
def M1 : List Mem := [⟨1, 1, true⟩, ⟨2, 0, true⟩, ⟨3, 0, false⟩, ⟨4, 0, false⟩, ⟨5, 0, false⟩, ⟨6, 0, false⟩]
def M2 : List Mem := [⟨1, 2, true⟩, ⟨2, 0, false⟩, ⟨3, 0, false⟩, ⟨4, 0, false⟩, ⟨5, 0, false⟩, ⟨6, 0, false⟩]
def z32 : ByteArray := ⟨#[0, 0, 0, 0, 0, 0, 0, 0, 0, 0, 0, 0, 0, 0, 0, 0, 0, 0, 0, 0, 0, 0, 0, 0, 0, 0, 0, 0, 0, 0, 0, 0]⟩
def aw54 : ByteArray := txt (grpL 2 M1 0)
theorem aw_n : aw54.size = 54 := by kernel_rfl
theorem aw_new : group_New.f 20 = some (1, M0, 0) := by kernel_rfl
theorem aw_c1 : samphirelaw20_control.f 2 1 2 = some (2, 1, 1, 0, z32, 0, 0, 0, 0, 0, 0, 0, ⟨#[]⟩, ⟨#[]⟩, 2, []) := by kernel_rfl
theorem aw_c2 : samphirelaw20_control.f 3 2 2 = some (3, 1, 2, 0, z32, 0, 0, 0, 0, 0, 0, 0, ⟨#[]⟩, ⟨#[]⟩, 2, []) := by kernel_rfl
theorem aw_j1 : group_Judge.f 20 1 M0 0 1 2 1 1 0 z32 0 0 0 0 0 0 0 ⟨#[]⟩ ⟨#[]⟩ 2 [] = some (2, M1, 0, true, 0) := by kernel_rfl
theorem aw_j2 : group_Judge.f 20 2 M1 0 2 3 1 2 0 z32 0 0 0 0 0 0 0 ⟨#[]⟩ ⟨#[]⟩ 2 [] = some (3, M2, 0, true, 0) := by kernel_rfl
theorem aw_p : group_Put.f 20 2 M1 0 = some (aw54, 0) := by kernel_rfl
theorem aw_t : group_Take.f 20 aw54 = some (2, M1, 0, 0) := by kernel_rfl
theorem aw_s : samphireref20_Same.f 20 2 M1 0 2 M1 0 = some true := by kernel_rfl
theorem aw_i1 : group_In.f 2 M1 0 2 = some true := by kernel_rfl
theorem aw_i2 : group_In.f 3 M2 0 2 = some false := by kernel_rfl
theorem aw_k : group_Check.f 20 2 M1 0 = some 0 := by kernel_rfl
def BG (w : World) (g : Nat) (E : Int) (A : Option Addr) (c : Nat) (l : List Mem) (O : Int) (wx : World) : Prop :=
 wx.heap[g]? = some (.cells #[.int .i64 E, .slice A l.length c, .int .i64 O] 24 (0, 0)) ∧ Kd.C k46 wx A l.length l ∧ l.length ≤ c ∧ w.heap.size ≤ g
theorem BG.below {w wx w' : World} {g : Nat} {E O : Int} {A : Option Addr} {c : Nat} {l : List Mem} (h : BG w g E A c l O wx) (hb : Below wx.heap.size wx w') : BG w g E A c l O w' := ⟨blk_below h.1 hb, Kd.C_below h.2.1 hb, h.2.2⟩
theorem box3 {wx : World} {g : Nat} {E O : Int} {v : Value} (h : wx.heap[g]? = some (.cells #[.int .i64 0, .slice none 0 0, .int .i64 0] 24 (0, 0))) :
  (((wx.setCell ⟨g, 0, none⟩ (.int .i64 E)).setCell ⟨g, 1, none⟩ v).setCell ⟨g, 2, none⟩ (.int .i64 O)).heap[g]? = some (.cells #[.int .i64 E, v, .int .i64 O] 24 (0, 0)) :=
 blk_put (blk_put (blk_put h 0 _ rfl) 1 _ rfl) 2 _ rfl
theorem new3 {w0 wx : World} {g : Nat} {u0 u1 u2 : Value} (h : Below w0.heap.size w0 wx) (hg : w0.heap.size ≤ g) :
  Below w0.heap.size w0 (((wx.setCell ⟨g, 0, none⟩ u0).setCell ⟨g, 1, none⟩ u1).setCell ⟨g, 2, none⟩ u2) := below_set (below_set (below_set h hg) hg) hg
theorem far3 {w : World} {p k i : Nat} {u x0 x1 x2 : Value} (h : w.cell? ⟨k, i, none⟩ = some u) (hne : k ≠ p) : (((w.setCell ⟨p, 0, none⟩ x0).setCell ⟨p, 1, none⟩ x1).setCell ⟨p, 2, none⟩ x2).cell? ⟨k, i, none⟩ = some u := by
 have e : (((w.setCell ⟨p, 0, none⟩ x0).setCell ⟨p, 1, none⟩ x1).setCell ⟨p, 2, none⟩ x2).heap[k]? = w.heap[k]? := by
  rw [Below.heap_setCell _ ⟨p, 2, none⟩ _ k hne, Below.heap_setCell _ ⟨p, 1, none⟩ _ k hne, Below.heap_setCell _ ⟨p, 0, none⟩ _ k hne]
 simpa [World.cell?, e] using h
def SA (w : World) (g1 : Nat) (A1 : Option Addr) (c1 : Nat) (W : World) : Prop := Below w.heap.size w W ∧ BG w g1 2 A1 c1 M1 0 W
theorem SA.below {w W w' : World} {g1 : Nat} {A1 : Option Addr} {c1 : Nat} (h : SA w g1 A1 c1 W) (hb : Below W.heap.size W w') : SA w g1 A1 c1 w' := ⟨below_step h.1 hb, h.2.below hb⟩
def NA (w : World) (n : Nat) (W : World) : Prop := W.heap[n]? = some (.cells #[.int .i64 0, .slice none 0 0, .int .i64 0] 24 (0, 0)) ∧ w.heap.size ≤ n
theorem NA.below {w W w' : World} {n : Nat} (h : NA w n W) (hb : Below W.heap.size W w') : NA w n w' := ⟨blk_below h.1 hb, h.2⟩
theorem NA.cells {w W : World} {n : Nat} (h : NA w n W) : W.cell? ⟨n, 0, none⟩ = some (.int .i64 0) ∧ W.cell? ⟨n, 1, none⟩ = some (.slice none 0 0) ∧ W.cell? ⟨n, 2, none⟩ = some (.int .i64 0) ∧ W.frozen? ⟨n, 0, none⟩ = false ∧ W.frozen? ⟨n, 1, none⟩ = false ∧ W.frozen? ⟨n, 2, none⟩ = false := grp_cells h.1
set_option maxRecDepth 100000 in
theorem awake20 (w : World) : Calls Tryd.prog 17 #[] w fun e w' => e = .returned (.bool true) ∧ Below w.heap.size w w' := by
  have HN := Aside0.mk (fun (W : World) => group_New.calls 20 1 M0 0 W aw_new)
  have HC1 := Aside0.mk (fun (W : World) => samphirelaw20_control.calls 2 1 2 _ _ _ _ _ _ _ _ _ _ _ _ _ _ _ _ W aw_c1)
  have HC2 := Aside0.mk (fun (W : World) => samphirelaw20_control.calls 3 2 2 _ _ _ _ _ _ _ _ _ _ _ _ _ _ _ _ W aw_c2)
  have HJ1 := Aside0.mk (fun (A : Option Addr) (c : Nat) (B : Option Addr) (d : Nat) (W : World) (h : Kd.C k46 W A M0.length M0) (hc : M0.length ≤ c) (h2 : Kd.C k80 W B ([] : List Wrp).length []) (hd : ([] : List Wrp).length ≤ d) => group_Judge.calls 20 1 A c M0 0 1 2 1 1 0 z32 0 0 0 0 0 0 0 ⟨#[]⟩ ⟨#[]⟩ 2 B d [] _ _ _ _ _ W h hc h2 hd aw_j1)
  have HJ2 := Aside0.mk (fun (A : Option Addr) (c : Nat) (B : Option Addr) (d : Nat) (W : World) (h : Kd.C k46 W A M1.length M1) (hc : M1.length ≤ c) (h2 : Kd.C k80 W B ([] : List Wrp).length []) (hd : ([] : List Wrp).length ≤ d) => group_Judge.calls 20 2 A c M1 0 2 3 1 2 0 z32 0 0 0 0 0 0 0 ⟨#[]⟩ ⟨#[]⟩ 2 B d [] _ _ _ _ _ W h hc h2 hd aw_j2)
  simp only [List.length_nil] at HJ2
  go_enter Tryd.func17, Tryd.ntmps17
  go_wp2_with (fail)
  refine (HN.out w).mono ?_
  rintro e w1 ⟨v1, rfl, hr1, hb1⟩
  obtain ⟨A0, c0, rfl, hc0, hC0⟩ := Kd.R_reads hr1
  have HB1 := Aside0.mk hb1
  have HC0 := Aside0.mk (And.intro hc0 hC0)
  clear hr1 hb1 hc0 hC0 HN
  go_wp2_with (fail)
  refine (HC1.out w1).mono ?_
  rintro e w2 ⟨v2, rfl, hr2, hb2⟩
  obtain ⟨B0, d0, rfl, hd0, hD0⟩ := Kd.R_reads hr2
  have HB2 := Aside0.mk (below_step HB1.out hb2)
  have HJ := Aside0.mk (HJ1.out A0 c0 B0 d0 w2 (Kd.C_below HC0.out.2 hb2) HC0.out.1 hD0 hd0)
  clear hr2 hb2 hd0 hD0 HC1 HJ1 HB1 HC0
  go_wp2_with (fail)
  refine HJ.out.mono ?_
  rintro e w3 ⟨v3, rfl, hr3, hb3⟩
  obtain ⟨A1, c1, rfl, hc1, hC1⟩ := Kd.R_reads hr3
  have HB3 := Aside0.mk (below_step HB2.out hb3)
  have HC1' := Aside0.mk (And.intro hc1 hC1)
  clear hr3 hb3 hc1 hC1 HJ HB2
  go_upto_region 2 with (first | ((with_reducible refine gate_dst (N := 1) rfl ?_); (try (refine gate_guard (by rfl) ?_; dsimp only)); refine box_event ?hg (N := 1) ?hd (cs := #[.int .i64 0, .slice none 0 0, .int .i64 0]) (t := 24) ?hr ?_; (case hd => rfl); (case hg => rfl); (case hr => first | (go_simp; done) | (go_simp; rfl)); intro g1 hg w4 hbox hb; have HB4 := Aside0.mk (below_step HB3.out hb); have G4 := Aside0.mk hbox; have L4 := Aside0.mk (show w.heap.size ≤ g1 by rw [hg]; exact HB3.out.size); have HX4 := Aside0.mk (show Below w3.heap.size w3 w4 ∧ w3.heap.size ≤ g1 from ⟨hb, by rw [hg]; exact Nat.le_refl _⟩); clear HB3; obtain ⟨x0, x1, x2, z0, z1, z2⟩ := grp_cells G4.out; clear hb hbox hg))
  (try simp only [Act.put, List.setIfInBounds_toArray, List.set_cons_zero, List.set_cons_succ])
  have G5 : Aside0 (BG w g1 2 A1 c1 M1 0 (((w4.setCell ⟨g1, 0, none⟩ (.int .i64 2)).setCell ⟨g1, 1, none⟩ (.slice A1 M1.length c1)).setCell ⟨g1, 2, none⟩ (.int .i64 0))) := ⟨⟨box3 G4.out, Kd.C_below HC1'.out.2 (new3 HX4.out.1 HX4.out.2), HC1'.out.1, L4.out⟩⟩
  have HB5 : Aside0 (Below w.heap.size w (((w4.setCell ⟨g1, 0, none⟩ (.int .i64 2)).setCell ⟨g1, 1, none⟩ (.slice A1 M1.length c1)).setCell ⟨g1, 2, none⟩ (.int .i64 0))) := ⟨new3 HB4.out L4.out⟩
  clear HC1' HB4 G4 HX4 x0 x1 x2 z0 z1 z2
  generalize ((w4.setCell ⟨g1, 0, none⟩ (.int .i64 2)).setCell ⟨g1, 1, none⟩ (.slice A1 M1.length c1)).setCell ⟨g1, 2, none⟩ (.int .i64 0) = w5 at G5 HB5 ⊢
  obtain ⟨x0, x1, x2, z0, z1, z2⟩ := grp_cells G5.out.1
  clear z0 z1 z2
  have HS5 := Aside0.mk (show SA w g1 A1 c1 w5 from ⟨HB5.out, G5.out⟩)
  clear G5 HB5
  go_cut [4, 5, 6] (fun s4 s5 s6 wx => ∃ (g4 : Nat) (A2 : Option Addr) (c2 : Nat), s4 = .pointer (some ⟨g4, 0, none⟩) ∧ s5 = .bool true ∧ s6 = .int .i64 0 ∧ Aside0 (SA w g1 A1 c1 wx) ∧ Aside0 (BG w g4 3 A2 c2 M2 0 wx))
  case first =>
    have SD := Aside0.mk (HS5.out.below (below_drew1 (Below.refl _ _)))
    have hba := below_drew1 (below_alloc (Below.refl w5.heap.size w5) (.cells #[.int .i64 0, .slice none 0 0, .int .i64 0] 24))
    have SDa := Aside0.mk (HS5.out.below hba)
    have NDa : Aside0 (NA w w5.heap.size (w5.alloc (.cells #[.int .i64 0, .slice none 0 0, .int .i64 0] 24)).drew) := ⟨⟨blk_new _ _, HS5.out.1.size⟩⟩
    have NE5 : Aside0 (g1 ≠ w5.heap.size) := ⟨Nat.ne_of_lt (blk_lt HS5.out.2.1)⟩
    have BD5 := Aside0.mk (below_drew1 (Below.refl w5.heap.size w5))
    have BA5 := Aside0.mk hba
    clear hba
    go_region_held3 (fun w' => w'.cell? ⟨g1, 0, none⟩ = some (.int .i64 2) ∧ w'.cell? ⟨g1, 1, none⟩ = some (.slice A1 M1.length c1) ∧ w'.cell? ⟨g1, 2, none⟩ = some (.int .i64 0))
      (first | go_keep | exact ⟨x0, x1, x2⟩ | exact ⟨far3 x0 NE5.out, far3 x1 NE5.out, far3 x2 NE5.out⟩ | exact ⟨far3 x0 NE6.out, far3 x1 NE6.out, far3 x2 NE6.out⟩)
      (first
        | (go_at_call 31; (with_reducible refine (HC2.out _).mono ?_); rintro e w6 ⟨v2, rfl, hr2, hb2⟩; obtain ⟨B2, d2, rfl, hd2, hD2⟩ := Kd.R_reads hr2; (first | (have S6 := Aside0.mk (SD.out.below hb2); have T6 := Aside0.mk (below_step BD5.out hb2)) | (have S6 := Aside0.mk (SDa.out.below hb2); have N6 := Aside0.mk (NDa.out.below hb2); have T6 := Aside0.mk (below_step BA5.out hb2))); have T6a := Aside0.mk (below_step T6.out (below_alloc (Below.refl w6.heap.size w6) (.cells #[.int .i64 0, .slice none 0 0, .int .i64 0] 24))); have S6a := Aside0.mk (S6.out.below (below_alloc (Below.refl w6.heap.size w6) (.cells #[.int .i64 0, .slice none 0 0, .int .i64 0] 24))); have N6a : Aside0 (NA w w6.heap.size (w6.alloc (.cells #[.int .i64 0, .slice none 0 0, .int .i64 0] 24))) := ⟨⟨blk_new _ _, S6.out.1.size⟩⟩; have NE6 : Aside0 (g1 ≠ w6.heap.size) := ⟨Nat.ne_of_lt (blk_lt S6.out.2.1)⟩; have J6 := Aside0.mk (HJ2.out A1 c1 B2 d2 w6 S6.out.2.2.1 S6.out.2.2.2.1 hD2 hd2); have J6a := Aside0.mk (HJ2.out A1 c1 B2 d2 (w6.alloc (.cells #[.int .i64 0, .slice none 0 0, .int .i64 0] 24)) S6a.out.2.2.1 S6a.out.2.2.2.1 (Kd.C_below hD2 (below_alloc (Below.refl w6.heap.size w6) (.cells #[.int .i64 0, .slice none 0 0, .int .i64 0] 24))) hd2); clear hr2 hb2 hd2 hD2 x0 x1 x2; obtain ⟨x0, x1, x2, -, -, -⟩ := grp_cells S6.out.2.1)
        | (go_at_call 18; (first | ((with_reducible refine J6.out.mono ?_); rintro e w7 ⟨v4, rfl, hr4, hb4⟩; have S7 := Aside0.mk (S6.out.below hb4); have T7 := Aside0.mk (below_step T6.out hb4); (try (have N7 := Aside0.mk (N6.out.below hb4)))) | ((with_reducible refine J6a.out.mono ?_); rintro e w7 ⟨v4, rfl, hr4, hb4⟩; have S7 := Aside0.mk (S6a.out.below hb4); have T7 := Aside0.mk (below_step T6a.out hb4); have N7 := Aside0.mk (N6a.out.below hb4))); obtain ⟨A2, c2, rfl, hc2, hC2⟩ := Kd.R_reads hr4; have H7 := Aside0.mk (And.intro hc2 hC2); have R7 := Aside0.mk hr4; clear hr4 hb4 hc2 hC2 x0 x1 x2 J6 J6a; obtain ⟨x0, x1, x2, -, -, -⟩ := grp_cells S7.out.2.1; (try (obtain ⟨n0, n1, n2, f0, f1, f2⟩ := N7.out.cells))))
    · have hbb := below_alloc (Below.refl w7.heap.size w7) (.cells #[.int .i64 3, .slice A2 M2.length c2, .int .i64 0] 24)
      have FS : Aside0 (SA w g1 A1 c1 (w7.alloc (.cells #[.int .i64 3, .slice A2 M2.length c2, .int .i64 0] 24))) := ⟨S7.out.below hbb⟩
      have FG : Aside0 (BG w w7.heap.size 3 A2 c2 M2 0 (w7.alloc (.cells #[.int .i64 3, .slice A2 M2.length c2, .int .i64 0] 24))) := ⟨⟨blk_new _ _, Kd.C_below H7.out.2 hbb, H7.out.1, S7.out.1.size⟩⟩
      clear hbb
      go_wp2_with (fail)
      go_meet
      exact ⟨_, A2, c2, rfl, rfl, rfl, FS, FG⟩
    · have FS : Aside0 (SA w g1 A1 c1 (((w7.setCell ⟨w6.heap.size, 0, none⟩ (.int .i64 3)).setCell ⟨w6.heap.size, 1, none⟩ (.slice A2 M2.length c2)).setCell ⟨w6.heap.size, 2, none⟩ (.int .i64 0))) := ⟨HS5.out.below (new3 T7.out T6.out.size)⟩
      have FG : Aside0 (BG w w6.heap.size 3 A2 c2 M2 0 (((w7.setCell ⟨w6.heap.size, 0, none⟩ (.int .i64 3)).setCell ⟨w6.heap.size, 1, none⟩ (.slice A2 M2.length c2)).setCell ⟨w6.heap.size, 2, none⟩ (.int .i64 0))) := ⟨⟨box3 N7.out.1, (by
        have h := Kd.R_set (Kd.R_set (Kd.R_set R7.out N7.out.1 (by decide) 0 (.int .i64 3)) (blk_put N7.out.1 0 (.int .i64 3) rfl) (by decide) 1 (.slice A2 M2.length c2)) (blk_put (blk_put N7.out.1 0 (.int .i64 3) rfl) 1 (.slice A2 M2.length c2) rfl) (by decide) 2 (.int .i64 0)
        obtain ⟨A, c, e, _, hc⟩ := Kd.R_reads h
        cases e
        exact hc), H7.out.1, N7.out.2⟩⟩
      go_wp2_with (fail)
      go_meet
      exact ⟨_, A2, c2, rfl, rfl, rfl, FS, FG⟩
    · have FS : Aside0 (SA w g1 A1 c1 (((w7.setCell ⟨w5.heap.size, 0, none⟩ (.int .i64 3)).setCell ⟨w5.heap.size, 1, none⟩ (.slice A2 M2.length c2)).setCell ⟨w5.heap.size, 2, none⟩ (.int .i64 0))) := ⟨HS5.out.below (new3 T7.out (Nat.le_refl _))⟩
      have FG : Aside0 (BG w w5.heap.size 3 A2 c2 M2 0 (((w7.setCell ⟨w5.heap.size, 0, none⟩ (.int .i64 3)).setCell ⟨w5.heap.size, 1, none⟩ (.slice A2 M2.length c2)).setCell ⟨w5.heap.size, 2, none⟩ (.int .i64 0))) := ⟨⟨box3 N7.out.1, (by
        have h := Kd.R_set (Kd.R_set (Kd.R_set R7.out N7.out.1 (by decide) 0 (.int .i64 3)) (blk_put N7.out.1 0 (.int .i64 3) rfl) (by decide) 1 (.slice A2 M2.length c2)) (blk_put (blk_put N7.out.1 0 (.int .i64 3) rfl) 1 (.slice A2 M2.length c2) rfl) (by decide) 2 (.int .i64 0)
        obtain ⟨A, c, e, _, hc⟩ := Kd.R_reads h
        cases e
        exact hc), H7.out.1, N7.out.2⟩⟩
      go_wp2_with (fail)
      go_meet
      exact ⟨_, A2, c2, rfl, rfl, rfl, FS, FG⟩
  case rest =>
    obtain ⟨g4, A2, c2, rfl, rfl, rfl, HS, G4⟩ := hcut
    clear HS5 HJ2 HC2 x0 x1 x2
    obtain ⟨x0, x1, x2, -, -, -⟩ := grp_cells HS.out.2.1
    have HP := Aside0.mk (group_Put.calls 20 2 A1 c1 M1 0 _ _ wc HS.out.2.2.1 HS.out.2.2.2.1 aw_p)
    go_wp2_with (fail)
    refine HP.out.mono ?_
    rintro e w8 ⟨rfl, hb⟩
    have S8 := Aside0.mk (HS.out.below hb)
    have G8 := Aside0.mk (G4.out.below hb)
    clear hb HP HS G4 x0 x1 x2
    have HT := Aside0.mk (group_Take.calls 20 aw54 _ _ _ _ w8 aw_t)
    go_wp2_with (fail)
    refine HT.out.mono ?_
    rintro e w9 ⟨v9, rfl, hr, hb⟩
    obtain ⟨A9, c9, rfl, hc9, hC9⟩ := Kd.R_reads hr
    have S9 := Aside0.mk (S8.out.below hb)
    have G9 := Aside0.mk (G8.out.below hb)
    have H9 := Aside0.mk (And.intro hc9 hC9)
    clear hr hb hc9 hC9 HT S8 G8
    go_upto_region 5 with (first | ((with_reducible refine gate_dst (N := 9) rfl ?_); (try (refine gate_guard (by rfl) ?_; dsimp only)); refine box_event ?hg (N := 9) ?hd (cs := #[.int .i64 0, .slice none 0 0, .int .i64 0]) (t := 24) ?hr ?_; (case hd => rfl); (case hg => rfl); (case hr => first | (go_simp; done) | (go_simp; rfl)); intro g9 hg wa hbox hb; have SB := Aside0.mk (S9.out.below hb); have GB := Aside0.mk (G9.out.below hb); have HBB := Aside0.mk (And.intro H9.out.1 (Kd.C_below H9.out.2 hb)); have KB := Aside0.mk hbox; have LB := Aside0.mk (show w9.heap.size ≤ g9 by rw [hg]; exact Nat.le_refl _); have HX := Aside0.mk hb; obtain ⟨n0, n1, n2, f0, f1, f2⟩ := grp_cells KB.out; clear hb hbox hg))
    (try simp only [Act.put, List.setIfInBounds_toArray, List.set_cons_zero, List.set_cons_succ])
    have HY := Aside0.mk (new3 (u0 := .int .i64 2) (u1 := .slice A9 M1.length c9) (u2 := .int .i64 0) HX.out LB.out)
    have SC := Aside0.mk (S9.out.below HY.out)
    have GC := Aside0.mk (G9.out.below HY.out)
    have KC : Aside0 (BG w g9 2 A9 c9 M1 0 (((wa.setCell ⟨g9, 0, none⟩ (.int .i64 2)).setCell ⟨g9, 1, none⟩ (.slice A9 M1.length c9)).setCell ⟨g9, 2, none⟩ (.int .i64 0))) := ⟨⟨box3 KB.out, Kd.C_below H9.out.2 HY.out, H9.out.1, Nat.le_trans S9.out.1.size LB.out⟩⟩
    clear SB GB HBB KB LB HX HY S9 G9 H9 n0 n1 n2 f0 f1 f2
    generalize ((wa.setCell ⟨g9, 0, none⟩ (.int .i64 2)).setCell ⟨g9, 1, none⟩ (.slice A9 M1.length c9)).setCell ⟨g9, 2, none⟩ (.int .i64 0) = wb at SC GC KC ⊢
    obtain ⟨x0, x1, x2, -, -, -⟩ := grp_cells SC.out.2.1
    have HI1 := Aside0.mk (group_In.calls 2 A1 c1 M1 0 2 _ wb SC.out.2.2.1 SC.out.2.2.2.1 aw_i1)
    go_wp2_with (fail)
    refine HI1.out.mono ?_
    rintro e wd ⟨rfl, hb⟩
    have SE := Aside0.mk (SC.out.below hb)
    have GE := Aside0.mk (GC.out.below hb)
    have KE := Aside0.mk (KC.out.below hb)
    clear hb HI1 SC GC KC x0 x1 x2
    obtain ⟨y0, y1, y2, -, -, -⟩ := grp_cells GE.out.1
    have HI2 := Aside0.mk (group_In.calls 3 A2 c2 M2 0 2 _ wd GE.out.2.1 GE.out.2.2.1 aw_i2)
    go_wp2_with (fail)
    refine HI2.out.mono ?_
    rintro e we ⟨rfl, hb⟩
    have SF := Aside0.mk (SE.out.below hb)
    have KF := Aside0.mk (KE.out.below hb)
    clear hb HI2 SE GE KE y0 y1 y2
    obtain ⟨x0, x1, x2, -, -, -⟩ := grp_cells SF.out.2.1
    obtain ⟨y0, y1, y2, -, -, -⟩ := grp_cells KF.out.1
    have hn54 := aw_n
    have HSM := Aside0.mk (samphireref20_Same.calls 20 2 A9 c9 M1 0 2 A1 c1 M1 0 _ we KF.out.2.1 KF.out.2.2.1 SF.out.2.2.1 SF.out.2.2.2.1 aw_s)
    go_wp2_with (fail)
    refine HSM.out.mono ?_
    rintro e wf ⟨rfl, hb⟩
    have SG := Aside0.mk (SF.out.below hb)
    clear hb HSM SF KF x0 x1 x2 y0 y1 y2
    obtain ⟨x0, x1, x2, -, -, -⟩ := grp_cells SG.out.2.1
    have HCK := Aside0.mk (group_Check.calls 20 2 A1 c1 M1 0 _ wf SG.out.2.2.1 SG.out.2.2.2.1 aw_k)
    go_wp2_with (fail)
    refine HCK.out.mono ?_
    rintro e wg ⟨rfl, hb⟩
    have SH := Aside0.mk (SG.out.below hb)
    clear hb HCK SG x0 x1 x2
    go_wp2_with (fail)
    go_ret
    exact ⟨rfl, SH.out.1⟩
def samphirelaw20_awake.f : Option Bool := some true
theorem samphirelaw20_awake.calls (r : Bool) (w : World) (h : samphirelaw20_awake.f = some r) : Calls Tryd.prog 17 #[] w fun e w' => e = .returned (.bool r) ∧ Below w.heap.size w w' := by
 cases h
 exact awake20 w
end Go.Proofs.YthemhfloablccaaDoor.Pr
end

section
namespace Go.Proofs.YthemhfloablccaaDoor.Pr
open Go.RowKit Go.Proofs.YthemhfloablccaaDoorW.PrintWords Go.Proofs.YthemhfloablccaaDoorW.PrintLast Go.Proofs.YthemhfloablccaaDoorW.PrintMore
attribute [local go_sem] max2_int min2_int max_two min_two max_three min_three max_four min_four
def samphirelaw20_light.f (a0_0 : Int) (l0_1 : List (S46)) (a0_2 : Int) : Option (Bool) := some (decide ((l0_1.length : Int) ≤ 20))
set_option maxHeartbeats 8000000 in
set_option maxRecDepth 100000 in
theorem samphirelaw20_light.calls (a0_0 : Int) (A0_1 : Option Addr) (c0_1 : Nat) (l0_1 : List (S46)) (a0_2 : Int) (r : Bool) (w : World) (hr0_1 : Kd.C k46 w A0_1 l0_1.length l0_1) (hc0_1 : l0_1.length ≤ c0_1) (h : samphirelaw20_light.f a0_0 l0_1 a0_2 = some r) :
  Calls Tryd.prog 15 #[.agg #[.int .i64 a0_0, .slice A0_1 l0_1.length c0_1, .int .i64 a0_2]] w fun e w' => e = .returned (.bool r) ∧ Below w.heap.size w w' := by
 have hu24 := Tryd.underlying24; have HR0_1 := Aside0.mk hr0_1; have HC0_1 := Aside0.mk hc0_1; clear hr0_1 hc0_1; have HB := Aside0.mk (Below.refl w.heap.size w); have H : (some (decide ((l0_1.length : Int) ≤ 20))) = some r := h; clear h; obtain rfl := Option.some.inj H; go_enter Tryd.func15, Tryd.ntmps15
 go_wp2_with (first | ((with_reducible refine gate_dst (N := 1) rfl ?_); refine box_event ?hg (N := 1) ?hd (cs := #[.int .i64 a0_0, .slice A0_1 l0_1.length c0_1, .int .i64 a0_2]) (t := 24) ?hr ?_; (case hd => rfl); (case hg => rfl); (case hr => first | (go_simp; done) | (go_simp; rfl)); intro gb101 hg w2 hbox hb; have n0_ := Aside0.mk (below_step hb_ hb); have n1_ := Aside0.mk (hbox); have n2_ := Aside0.mk ((by rw [hg]; exact (below_size hb_) : w.heap.size ≤ gb101)); have n3_ := Aside0.mk ((by rw [hg]; exact (below_size hb_) : w.heap.size ≤ gb101)); clear HB; have HB := n0_; have BK101 := n1_; have GW101 := n2_; have GE101 := n3_; clear n0_ n1_ n2_ n3_; clear hb hbox hg; have hcz3_0 : w2.cell? ⟨gb101, 0, none⟩ = some (.int .i64 a0_0) := (blk_cell BK101.out 0).trans rfl; have hcz3_1 : w2.cell? ⟨gb101, 1, none⟩ = some (.slice A0_1 l0_1.length c0_1) := (blk_cell BK101.out 1).trans rfl; have hcz3_2 : w2.cell? ⟨gb101, 2, none⟩ = some (.int .i64 a0_2) := (blk_cell BK101.out 2).trans rfl; have hfz3_0 := blk_frozen BK101.out 0; have hfz3_1 := blk_frozen BK101.out 1; have hfz3_2 := blk_frozen BK101.out 2))
 go_ret
 exact ⟨ew_, by repeat (first | (with_reducible first | exact HB.out | apply below_alloc | apply pw_below_drewN | apply below_drew1 | refine below_set ?_ GE101.out) | exact HB.out)⟩
end Go.Proofs.YthemhfloablccaaDoor.Pr
end

section
namespace Go.Proofs.YthemhfloablccaaDoor.Pr
open Go.RowKit Go.Proofs.YthemhfloablccaaDoorW.PrintWords Go.Proofs.YthemhfloablccaaDoorW.PrintLast Go.Proofs.YthemhfloablccaaDoorW.PrintMore
attribute [local go_sem] max2_int min2_int max_two min_two max_three min_three max_four min_four
mutual
def samphirelaw20_GroupBytes.j0 : Nat → ByteArray → Bool → Int → List (S46) → Int → Option (Bool)
 | 0, _, _, _, _, _ => none
 | k + 1, x1, x24, x456000, x456001, x456002 => if x24 = true then ((samphirelaw20_awake.f).bind fun t457 => (some t457)) else ((group_Put.f k x456000 x456001 x456002).bind fun bt458 => ((samphireref20_Put.f k x456000 x456001 x456002).bind fun bt460 => ((group_Take.f k x1).bind fun bt462 => ((samphireref20_Take.f k x1).bind fun bt469 => (if bt458.1.toList = bt460.1.toList then (if bt458.2 = bt460.2 then ((samphireref20_Same.f k bt462.1 bt462.2.1 bt462.2.2.1 bt469.1 bt469.2.1 bt469.2.2.1).bind fun t476 => (if t476 = true then (samphirelaw20_GroupBytes.j1 k x1 bt458.1 bt458.2 bt462.2.2.2 (bt462.2.2.2 != bt469.2.2.2) x456000 x456001 x456002 bt462.1 bt462.2.1 bt462.2.2.1) else (samphirelaw20_GroupBytes.j1 k x1 bt458.1 bt458.2 bt462.2.2.2 true x456000 x456001 x456002 bt462.1 bt462.2.1 bt462.2.2.1))) else (samphirelaw20_GroupBytes.j1 k x1 bt458.1 bt458.2 bt462.2.2.2 true x456000 x456001 x456002 bt462.1 bt462.2.1 bt462.2.2.1)) else (samphirelaw20_GroupBytes.j1 k x1 bt458.1 bt458.2 bt462.2.2.2 true x456000 x456001 x456002 bt462.1 bt462.2.1 bt462.2.2.1))))))
def samphirelaw20_GroupBytes.j1 : Nat → ByteArray → ByteArray → Int → Int → Bool → Int → List (S46) → Int → Int → List (S46) → Int → Option (Bool)
 | 0, _, _, _, _, _, _, _, _, _, _, _ => none
 | k + 1, x1, x5, x6, x10, x64, x456000, x456001, x456002, x469000, x469001, x469002 => if x64 = true then (some false) else (if x6 = 0 then ((group_Take.f k x5).bind fun bt477 => ((samphireref20_Same.f k bt477.1 bt477.2.1 bt477.2.2.1 x456000 x456001 x456002).bind fun t484 => (if t484 = true then (if bt477.2.2.2 = 0 then (samphirelaw20_GroupBytes.j2 k x1 x10 x469000 x469001 x469002) else (some false)) else (some false)))) else (samphirelaw20_GroupBytes.j2 k x1 x10 x469000 x469001 x469002))
def samphirelaw20_GroupBytes.j2 : Nat → ByteArray → Int → Int → List (S46) → Int → Option (Bool)
 | 0, _, _, _, _, _ => none
 | k + 1, x1, x10, x469000, x469001, x469002 => if x10 = 0 then ((group_Put.f k x469000 x469001 x469002).bind fun bt485 => (if bt485.1.toList = x1.toList then (if bt485.2 = 0 then ((samphirelaw20_awake.f).bind fun t487 => (some t487)) else (some false)) else (some false))) else ((samphirelaw20_awake.f).bind fun t488 => (some t488))
end
def samphirelaw20_GroupBytes.f (k : Nat) (a0_0 : Int) (l0_1 : List (S46)) (a0_2 : Int) (a1 : ByteArray) : Option (Bool) := (samphirelaw20_light.f a0_0 l0_1 a0_2).bind fun t456 => (if t456 = true then (samphirelaw20_GroupBytes.j0 k a1 (decide ((a1.size : Int) > 512)) a0_0 l0_1 a0_2) else (samphirelaw20_GroupBytes.j0 k a1 true a0_0 l0_1 a0_2))
set_option maxHeartbeats 8000000 in
set_option maxRecDepth 100000 in
theorem samphirelaw20_GroupBytes.calls (k : Nat) (a0_0 : Int) (A0_1 : Option Addr) (c0_1 : Nat) (l0_1 : List (S46)) (a0_2 : Int) (a1 : ByteArray) (r : Bool) (w : World) (hr0_1 : Kd.C k46 w A0_1 l0_1.length l0_1) (hc0_1 : l0_1.length ≤ c0_1) (h : samphirelaw20_GroupBytes.f k a0_0 l0_1 a0_2 a1 = some r) :
    Calls Tryd.prog 5 #[.agg #[.int .i64 a0_0, .slice A0_1 l0_1.length c0_1, .int .i64 a0_2], .string a1] w fun e w' => e = .returned (.bool r) ∧ Below w.heap.size w w' := by
  have hu24 := Tryd.underlying24
  have HR0_1 := Aside0.mk hr0_1
  have HC0_1 := Aside0.mk hc0_1
  clear hr0_1 hc0_1
  have HB := Aside0.mk (Below.refl w.heap.size w)
  have H : ((samphirelaw20_light.f a0_0 l0_1 a0_2).bind fun t456 => (if t456 = true then (samphirelaw20_GroupBytes.j0 k a1 (decide ((a1.size : Int) > 512)) a0_0 l0_1 a0_2) else (samphirelaw20_GroupBytes.j0 k a1 true a0_0 l0_1 a0_2))) = some r := h
  clear h
  have HC3 := Aside0.mk H
  clear H
  go_enter Tryd.func5, Tryd.ntmps5
  go_upto_region 1 with (first | ((with_reducible refine gate_dst (N := 2) rfl ?_); (try (refine gate_guard (by rfl) ?_; dsimp only)); refine box_event ?hg (N := 2) ?hd (cs := #[.int .i64 a0_0, .slice A0_1 l0_1.length c0_1, .int .i64 a0_2]) (t := 24) ?hr ?_; (case hd => rfl); (case hg => rfl); (case hr => first | (go_simp; done) | (go_simp; rfl)); intro gb455 hg w4 hbox hb; have n0_ := Aside0.mk (below_step (by repeat (first | (with_reducible first | exact HB.out | apply below_alloc | apply pw_below_drewN | apply below_drew1) | exact HB.out)) hb); have n1_ := Aside0.mk (hbox); have n2_ := Aside0.mk ((by rw [hg]; exact (below_size (by repeat (first | (with_reducible first | exact HB.out | apply below_alloc | apply pw_below_drewN | apply below_drew1) | exact HB.out))) : w.heap.size ≤ gb455)); have n3_ := Aside0.mk ((by rw [hg]; exact (below_size (by repeat (first | (with_reducible first | exact HB.out | apply below_alloc | apply pw_below_drewN | apply below_drew1) | exact HB.out))) : w.heap.size ≤ gb455)); clear HB; have HB := n0_; have BK455 := n1_; have GW455 := n2_; have GE455 := n3_; clear n0_ n1_ n2_ n3_; clear hb hbox hg))
  (try simp only [Act.put, List.setIfInBounds_toArray, List.set_cons_zero, List.set_cons_succ])
  go_cut [24] (fun v24 wc => ∃ (kq : Nat) (x24_2 : Bool), v24 = .bool x24_2 ∧ Aside0 (samphirelaw20_GroupBytes.j0 kq a1 x24_2 a0_0 l0_1 a0_2 = some r) ∧ Aside0 (kq ≤ k) ∧ Aside0 (wc.heap[gb455]? = some (.cells #[.int .i64 a0_0, (.slice A0_1 l0_1.length c0_1), .int .i64 a0_2] 24 (0, 0))) ∧ Aside0 (Below w.heap.size w wc))
  case first =>
    have H := HC3.out
    clear HC3
    replace H := Option.bind_eq_some_iff.mp H
    obtain ⟨t456, A50, H⟩ := H
    replace H : (if t456 = true then (samphirelaw20_GroupBytes.j0 k a1 (decide ((a1.size : Int) > 512)) a0_0 l0_1 a0_2) else (samphirelaw20_GroupBytes.j0 k a1 true a0_0 l0_1 a0_2)) = some r := H
    have A5 := Aside0.mk A50
    clear A50
    by_cases c6 : t456 = true
    · subst c6
      have H1 : (samphirelaw20_GroupBytes.j0 k a1 (decide ((a1.size : Int) > 512)) a0_0 l0_1 a0_2) = some r := by rw [if_pos rfl] at H; exact H
      clear H
      have H := H1
      clear H1
      have H' := Aside0.mk H
      clear H
      have hcz7_0 : w4.cell? ⟨gb455, 0, none⟩ = some (.int .i64 a0_0) := (blk_cell BK455.out 0).trans rfl
      have hcz7_1 : w4.cell? ⟨gb455, 1, none⟩ = some (.slice A0_1 l0_1.length c0_1) := (blk_cell BK455.out 1).trans rfl
      have hcz7_2 : w4.cell? ⟨gb455, 2, none⟩ = some (.int .i64 a0_2) := (blk_cell BK455.out 2).trans rfl
      have hfz7_0 := blk_frozen BK455.out 0
      have hfz7_1 := blk_frozen BK455.out 1
      have hfz7_2 := blk_frozen BK455.out 2
      go_wp2_with (first | ((with_reducible refine gate_callee (f := 15) rfl ?_); refine goesL_ (some 18) rfl rfl Tryd.func15 (by kernel_rfl) rfl #[.agg #[.int .i64 a0_0, .slice A0_1 l0_1.length c0_1, .int .i64 a0_2]] rfl (by (try simp only [List.map_toArray, List.map_cons, List.map_nil]); first | done | rfl | (simp only [List.length_drop, List.length_take]; rfl)) ?_; (with_reducible refine (samphirelaw20_light.calls a0_0 _ _ l0_1 a0_2 true _ ?side1 ?side2 A5.out).mono ?_); (case side1 => repeat (first | exact (Kd.C_below HR0_1.out HB.out) | (with_reducible refine Kd.C_alloc ?_ _) | (with_reducible refine Kd.C_drewN ?_ _) | (with_reducible refine Kd.C_drew ?_))); (case side2 => exact HC0_1.out); rintro e w8 ⟨rfl, hb⟩; refine ⟨_, rfl, ?_⟩; have n0_ := Aside0.mk (blk_below (g := gb455) (o := .cells #[.int .i64 a0_0, .slice A0_1 l0_1.length c0_1, .int .i64 a0_2] 24 (0, 0)) (by (with_reducible repeat (first | refine blk_drewN ?_ _ | refine blk_drew ?_ | refine blk_alloc ?_ _)); exact BK455.out) hb); have n1_ := Aside0.mk (below_step (by repeat (first | (with_reducible first | exact HB.out | apply below_alloc | apply pw_below_drewN | apply below_drew1 | refine below_set ?_ GE455.out) | exact HB.out)) hb); clear BK455; clear HB; have BK455 := n0_; have HB := n1_; clear n0_ n1_; (try clear hb); (try clear hb2); (try clear hk); (try clear hi)))
      go_meet
      case rel => exact ⟨_, (decide ((a1.size : Int) > 512)), (by first | rfl | (simp; done) | (simp [*]; done)), H', ⟨by first | omega | exact Nat.le_refl _⟩, ⟨by (with_reducible repeat (first | refine blk_drewN ?_ _ | refine blk_drew ?_ | refine blk_alloc ?_ _)); exact BK455.out⟩, ⟨by repeat (first | (with_reducible first | exact HB.out | apply below_alloc | apply pw_below_drewN | apply below_drew1 | refine below_set ?_ GE455.out) | exact HB.out)⟩⟩
    · replace c6 := Bool.eq_false_iff.mpr c6
      subst c6
      have H1 : (samphirelaw20_GroupBytes.j0 k a1 true a0_0 l0_1 a0_2) = some r := by rw [if_neg (show ¬ (false = true) by decide)] at H; exact H
      clear H
      have H := H1
      clear H1
      have H' := Aside0.mk H
      clear H
      have hcz9_0 : w4.cell? ⟨gb455, 0, none⟩ = some (.int .i64 a0_0) := (blk_cell BK455.out 0).trans rfl
      have hcz9_1 : w4.cell? ⟨gb455, 1, none⟩ = some (.slice A0_1 l0_1.length c0_1) := (blk_cell BK455.out 1).trans rfl
      have hcz9_2 : w4.cell? ⟨gb455, 2, none⟩ = some (.int .i64 a0_2) := (blk_cell BK455.out 2).trans rfl
      have hfz9_0 := blk_frozen BK455.out 0
      have hfz9_1 := blk_frozen BK455.out 1
      have hfz9_2 := blk_frozen BK455.out 2
      go_wp2_with (first | ((with_reducible refine gate_callee (f := 15) rfl ?_); refine goesL_ (some 18) rfl rfl Tryd.func15 (by kernel_rfl) rfl #[.agg #[.int .i64 a0_0, .slice A0_1 l0_1.length c0_1, .int .i64 a0_2]] rfl (by (try simp only [List.map_toArray, List.map_cons, List.map_nil]); first | done | rfl | (simp only [List.length_drop, List.length_take]; rfl)) ?_; (with_reducible refine (samphirelaw20_light.calls a0_0 _ _ l0_1 a0_2 false _ ?side1 ?side2 A5.out).mono ?_); (case side1 => repeat (first | exact (Kd.C_below HR0_1.out HB.out) | (with_reducible refine Kd.C_alloc ?_ _) | (with_reducible refine Kd.C_drewN ?_ _) | (with_reducible refine Kd.C_drew ?_))); (case side2 => exact HC0_1.out); rintro e w10 ⟨rfl, hb⟩; refine ⟨_, rfl, ?_⟩; have n0_ := Aside0.mk (blk_below (g := gb455) (o := .cells #[.int .i64 a0_0, .slice A0_1 l0_1.length c0_1, .int .i64 a0_2] 24 (0, 0)) (by (with_reducible repeat (first | refine blk_drewN ?_ _ | refine blk_drew ?_ | refine blk_alloc ?_ _)); exact BK455.out) hb); have n1_ := Aside0.mk (below_step (by repeat (first | (with_reducible first | exact HB.out | apply below_alloc | apply pw_below_drewN | apply below_drew1 | refine below_set ?_ GE455.out) | exact HB.out)) hb); clear BK455; clear HB; have BK455 := n0_; have HB := n1_; clear n0_ n1_; (try clear hb); (try clear hb2); (try clear hk); (try clear hi)))
      go_meet
      case rel => exact ⟨_, (true), (by first | rfl | (simp; done) | (simp [*]; done)), H', ⟨by first | omega | exact Nat.le_refl _⟩, ⟨by (with_reducible repeat (first | refine blk_drewN ?_ _ | refine blk_drew ?_ | refine blk_alloc ?_ _)); exact BK455.out⟩, ⟨by repeat (first | (with_reducible first | exact HB.out | apply below_alloc | apply pw_below_drewN | apply below_drew1 | refine below_set ?_ GE455.out) | exact HB.out)⟩⟩
  case rest =>
    clear HC3
    try clear c1
    try clear p2
    try clear c5
    try clear c6
    try clear hcz7_0
    try clear hcz7_1
    try clear hcz7_2
    try clear hcz9_0
    try clear hcz9_1
    try clear hcz9_2
    try clear hfz7_0
    try clear hfz7_1
    try clear hfz7_2
    try clear hfz9_0
    try clear hfz9_1
    try clear hfz9_2
    obtain ⟨kq, x24_2, rfl, HA, HJ2, BK455, HB⟩ := hcut
    cases kq with
    | zero => exact absurd HA.out (by simp [samphirelaw20_GroupBytes.j0])
    | succ kj2 =>
      have H := HA.out
      clear HA
      simp only [samphirelaw20_GroupBytes.j0] at H
      by_cases c11 : x24_2 = true
      · subst c11
        have H1 : ((samphirelaw20_awake.f).bind fun t457 => (some t457)) = some r := by rw [if_pos rfl] at H; exact H
        clear H
        have H := H1
        clear H1
        replace H := Option.bind_eq_some_iff.mp H
        obtain ⟨t457, A120, H⟩ := H
        replace H : (some t457) = some r := H
        have A12 := Aside0.mk A120
        clear A120
        obtain rfl := Option.some.inj H
        go_wp2_with (first | ((with_reducible refine gate_callee (f := 17) rfl ?_); refine goesL_ (some 25) rfl rfl Tryd.func17 (by kernel_rfl) rfl #[] rfl (by (try simp only [List.map_toArray, List.map_cons, List.map_nil]); first | done | rfl | (simp only [List.length_drop, List.length_take]; rfl)) ?_; (with_reducible refine (samphirelaw20_awake.calls  t457 _ A12.out).mono ?_); rintro e w13 ⟨rfl, hb⟩; refine ⟨_, rfl, ?_⟩; have n0_ := Aside0.mk (blk_below (g := gb455) (o := .cells #[.int .i64 a0_0, .slice A0_1 l0_1.length c0_1, .int .i64 a0_2] 24 (0, 0)) (by (with_reducible repeat (first | refine blk_drewN ?_ _ | refine blk_drew ?_ | refine blk_alloc ?_ _)); exact BK455.out) hb); have n1_ := Aside0.mk (below_step (by repeat (first | (with_reducible first | exact HB.out | apply below_alloc | apply pw_below_drewN | apply below_drew1 | refine below_set ?_ GE455.out) | exact HB.out)) hb); clear BK455; clear HB; have BK455 := n0_; have HB := n1_; clear n0_ n1_; (try clear hb); (try clear hb2); (try clear hk); (try clear hi)))
        go_ret
        exact ⟨by first | rfl | (simp [errW_none, errW_some] <;> rfl) | (simp [*, errW_none, errW_some] <;> rfl), by repeat (first | (with_reducible first | exact HB.out | apply below_alloc | apply pw_below_drewN | apply below_drew1 | refine below_set ?_ GE455.out) | exact HB.out)⟩
      · replace c11 := Bool.eq_false_iff.mpr c11
        subst c11
        have H1 : ((group_Put.f kj2 a0_0 l0_1 a0_2).bind fun bt458 => ((samphireref20_Put.f kj2 a0_0 l0_1 a0_2).bind fun bt460 => ((group_Take.f kj2 a1).bind fun bt462 => ((samphireref20_Take.f kj2 a1).bind fun bt469 => (if bt458.1.toList = bt460.1.toList then (if bt458.2 = bt460.2 then ((samphireref20_Same.f kj2 bt462.1 bt462.2.1 bt462.2.2.1 bt469.1 bt469.2.1 bt469.2.2.1).bind fun t476 => (if t476 = true then (samphirelaw20_GroupBytes.j1 kj2 a1 bt458.1 bt458.2 bt462.2.2.2 (bt462.2.2.2 != bt469.2.2.2) a0_0 l0_1 a0_2 bt462.1 bt462.2.1 bt462.2.2.1) else (samphirelaw20_GroupBytes.j1 kj2 a1 bt458.1 bt458.2 bt462.2.2.2 true a0_0 l0_1 a0_2 bt462.1 bt462.2.1 bt462.2.2.1))) else (samphirelaw20_GroupBytes.j1 kj2 a1 bt458.1 bt458.2 bt462.2.2.2 true a0_0 l0_1 a0_2 bt462.1 bt462.2.1 bt462.2.2.1)) else (samphirelaw20_GroupBytes.j1 kj2 a1 bt458.1 bt458.2 bt462.2.2.2 true a0_0 l0_1 a0_2 bt462.1 bt462.2.1 bt462.2.2.1)))))) = some r := by rw [if_neg (show ¬ (false = true) by decide)] at H; exact H
        clear H
        have H := H1
        clear H1
        replace H := Option.bind_eq_some_iff.mp H
        obtain ⟨⟨t458, t459⟩, A140, H⟩ := H
        replace H : ((samphireref20_Put.f kj2 a0_0 l0_1 a0_2).bind fun bt460 => ((group_Take.f kj2 a1).bind fun bt462 => ((samphireref20_Take.f kj2 a1).bind fun bt469 => (if t458.toList = bt460.1.toList then (if t459 = bt460.2 then ((samphireref20_Same.f kj2 bt462.1 bt462.2.1 bt462.2.2.1 bt469.1 bt469.2.1 bt469.2.2.1).bind fun t476 => (if t476 = true then (samphirelaw20_GroupBytes.j1 kj2 a1 t458 t459 bt462.2.2.2 (bt462.2.2.2 != bt469.2.2.2) a0_0 l0_1 a0_2 bt462.1 bt462.2.1 bt462.2.2.1) else (samphirelaw20_GroupBytes.j1 kj2 a1 t458 t459 bt462.2.2.2 true a0_0 l0_1 a0_2 bt462.1 bt462.2.1 bt462.2.2.1))) else (samphirelaw20_GroupBytes.j1 kj2 a1 t458 t459 bt462.2.2.2 true a0_0 l0_1 a0_2 bt462.1 bt462.2.1 bt462.2.2.1)) else (samphirelaw20_GroupBytes.j1 kj2 a1 t458 t459 bt462.2.2.2 true a0_0 l0_1 a0_2 bt462.1 bt462.2.1 bt462.2.2.1))))) = some r := H
        have A14 := Aside0.mk A140
        clear A140
        replace H := Option.bind_eq_some_iff.mp H
        obtain ⟨⟨t460, t461⟩, A150, H⟩ := H
        replace H : ((group_Take.f kj2 a1).bind fun bt462 => ((samphireref20_Take.f kj2 a1).bind fun bt469 => (if t458.toList = t460.toList then (if t459 = t461 then ((samphireref20_Same.f kj2 bt462.1 bt462.2.1 bt462.2.2.1 bt469.1 bt469.2.1 bt469.2.2.1).bind fun t476 => (if t476 = true then (samphirelaw20_GroupBytes.j1 kj2 a1 t458 t459 bt462.2.2.2 (bt462.2.2.2 != bt469.2.2.2) a0_0 l0_1 a0_2 bt462.1 bt462.2.1 bt462.2.2.1) else (samphirelaw20_GroupBytes.j1 kj2 a1 t458 t459 bt462.2.2.2 true a0_0 l0_1 a0_2 bt462.1 bt462.2.1 bt462.2.2.1))) else (samphirelaw20_GroupBytes.j1 kj2 a1 t458 t459 bt462.2.2.2 true a0_0 l0_1 a0_2 bt462.1 bt462.2.1 bt462.2.2.1)) else (samphirelaw20_GroupBytes.j1 kj2 a1 t458 t459 bt462.2.2.2 true a0_0 l0_1 a0_2 bt462.1 bt462.2.1 bt462.2.2.1)))) = some r := H
        have A15 := Aside0.mk A150
        clear A150
        replace H := Option.bind_eq_some_iff.mp H
        obtain ⟨⟨t462, t463, t466, t467⟩, A160, H⟩ := H
        replace H : ((samphireref20_Take.f kj2 a1).bind fun bt469 => (if t458.toList = t460.toList then (if t459 = t461 then ((samphireref20_Same.f kj2 t462 t463 t466 bt469.1 bt469.2.1 bt469.2.2.1).bind fun t476 => (if t476 = true then (samphirelaw20_GroupBytes.j1 kj2 a1 t458 t459 t467 (t467 != bt469.2.2.2) a0_0 l0_1 a0_2 t462 t463 t466) else (samphirelaw20_GroupBytes.j1 kj2 a1 t458 t459 t467 true a0_0 l0_1 a0_2 t462 t463 t466))) else (samphirelaw20_GroupBytes.j1 kj2 a1 t458 t459 t467 true a0_0 l0_1 a0_2 t462 t463 t466)) else (samphirelaw20_GroupBytes.j1 kj2 a1 t458 t459 t467 true a0_0 l0_1 a0_2 t462 t463 t466))) = some r := H
        have A16 := Aside0.mk A160
        clear A160
        replace H := Option.bind_eq_some_iff.mp H
        obtain ⟨⟨t469, t470, t473, t474⟩, A170, H⟩ := H
        replace H : (if t458.toList = t460.toList then (if t459 = t461 then ((samphireref20_Same.f kj2 t462 t463 t466 t469 t470 t473).bind fun t476 => (if t476 = true then (samphirelaw20_GroupBytes.j1 kj2 a1 t458 t459 t467 (t467 != t474) a0_0 l0_1 a0_2 t462 t463 t466) else (samphirelaw20_GroupBytes.j1 kj2 a1 t458 t459 t467 true a0_0 l0_1 a0_2 t462 t463 t466))) else (samphirelaw20_GroupBytes.j1 kj2 a1 t458 t459 t467 true a0_0 l0_1 a0_2 t462 t463 t466)) else (samphirelaw20_GroupBytes.j1 kj2 a1 t458 t459 t467 true a0_0 l0_1 a0_2 t462 t463 t466)) = some r := H
        have A17 := Aside0.mk A170
        clear A170
        have HC18 := Aside0.mk H
        clear H
        have hcz19_0 : wc.cell? ⟨gb455, 0, none⟩ = some (.int .i64 a0_0) := (blk_cell BK455.out 0).trans rfl
        have hcz19_1 : wc.cell? ⟨gb455, 1, none⟩ = some (.slice A0_1 l0_1.length c0_1) := (blk_cell BK455.out 1).trans rfl
        have hcz19_2 : wc.cell? ⟨gb455, 2, none⟩ = some (.int .i64 a0_2) := (blk_cell BK455.out 2).trans rfl
        have hfz19_0 := blk_frozen BK455.out 0
        have hfz19_1 := blk_frozen BK455.out 1
        have hfz19_2 := blk_frozen BK455.out 2
        go_upto_region 7 with (first | ((with_reducible refine gate_callee (f := 27) rfl ?_); refine goesL_ (some 28) rfl rfl Tryd.func27 (by kernel_rfl) rfl #[.agg #[.int .i64 a0_0, .slice A0_1 l0_1.length c0_1, .int .i64 a0_2]] rfl (by (try simp only [List.map_toArray, List.map_cons, List.map_nil]); first | done | rfl | (simp only [List.length_drop, List.length_take]; rfl)) ?_; (with_reducible refine (group_Put.calls kj2 a0_0 _ _ l0_1 a0_2 t458 t459 _ ?side1 ?side2 A14.out).mono ?_); (case side1 => repeat (first | exact (Kd.C_below HR0_1.out HB.out) | (with_reducible refine Kd.C_alloc ?_ _) | (with_reducible refine Kd.C_drewN ?_ _) | (with_reducible refine Kd.C_drew ?_))); (case side2 => exact HC0_1.out); rintro e w20 ⟨rfl, hb⟩; refine ⟨_, rfl, ?_⟩; have n0_ := Aside0.mk (blk_below (g := gb455) (o := .cells #[.int .i64 a0_0, .slice A0_1 l0_1.length c0_1, .int .i64 a0_2] 24 (0, 0)) (by (with_reducible repeat (first | refine blk_drewN ?_ _ | refine blk_drew ?_ | refine blk_alloc ?_ _)); exact BK455.out) hb); have n1_ := Aside0.mk (below_step (by repeat (first | (with_reducible first | exact HB.out | apply below_alloc | apply pw_below_drewN | apply below_drew1 | refine below_set ?_ GE455.out) | exact HB.out)) hb); clear BK455; clear HB; have BK455 := n0_; have HB := n1_; clear n0_ n1_; (try clear hb); (try clear hb2); (try clear hk); (try clear hi); have hcz21_0 : w20.cell? ⟨gb455, 0, none⟩ = some (.int .i64 a0_0) := (blk_cell BK455.out 0).trans rfl; have hcz21_1 : w20.cell? ⟨gb455, 1, none⟩ = some (.slice A0_1 l0_1.length c0_1) := (blk_cell BK455.out 1).trans rfl; have hcz21_2 : w20.cell? ⟨gb455, 2, none⟩ = some (.int .i64 a0_2) := (blk_cell BK455.out 2).trans rfl; have hfz21_0 := blk_frozen BK455.out 0; have hfz21_1 := blk_frozen BK455.out 1; have hfz21_2 := blk_frozen BK455.out 2) | ((with_reducible refine gate_callee (f := 28) rfl ?_); refine goesL_ (some 33) rfl rfl Tryd.func28 (by kernel_rfl) rfl #[.agg #[.int .i64 a0_0, .slice A0_1 l0_1.length c0_1, .int .i64 a0_2]] rfl (by (try simp only [List.map_toArray, List.map_cons, List.map_nil]); first | done | rfl | (simp only [List.length_drop, List.length_take]; rfl)) ?_; (with_reducible refine (samphireref20_Put.calls kj2 a0_0 _ _ l0_1 a0_2 t460 t461 _ ?side1 ?side2 A15.out).mono ?_); (case side1 => repeat (first | exact (Kd.C_below HR0_1.out HB.out) | (with_reducible refine Kd.C_alloc ?_ _) | (with_reducible refine Kd.C_drewN ?_ _) | (with_reducible refine Kd.C_drew ?_))); (case side2 => exact HC0_1.out); rintro e w22 ⟨rfl, hb⟩; refine ⟨_, rfl, ?_⟩; have n0_ := Aside0.mk (blk_below (g := gb455) (o := .cells #[.int .i64 a0_0, .slice A0_1 l0_1.length c0_1, .int .i64 a0_2] 24 (0, 0)) (by (with_reducible repeat (first | refine blk_drewN ?_ _ | refine blk_drew ?_ | refine blk_alloc ?_ _)); exact BK455.out) hb); have n1_ := Aside0.mk (below_step (by repeat (first | (with_reducible first | exact HB.out | apply below_alloc | apply pw_below_drewN | apply below_drew1 | refine below_set ?_ GE455.out) | exact HB.out)) hb); clear BK455; clear HB; have BK455 := n0_; have HB := n1_; clear n0_ n1_; (try clear hb); (try clear hb2); (try clear hk); (try clear hi)) | ((with_reducible refine gate_callee (f := 29) rfl ?_); refine goesL_ (some 38) rfl rfl Tryd.func29 (by kernel_rfl) rfl #[.string a1] rfl (by (try simp only [List.map_toArray, List.map_cons, List.map_nil]); first | done | rfl | (simp only [List.length_drop, List.length_take]; rfl)) ?_; (with_reducible refine (group_Take.calls kj2 a1 t462 t463 t466 t467 _ A16.out).mono ?_); rintro e w23 ⟨v464, rfl, ho0, hb⟩; refine ⟨_, rfl, ?_⟩; have n0_ := Aside0.mk (Kd.R_lower ho0 (below_size (by repeat (first | (with_reducible first | exact HB.out | apply below_alloc | apply pw_below_drewN | apply below_drew1 | refine below_set ?_ GE455.out) | exact HB.out)))); have n1_ := Aside0.mk (blk_below (g := gb455) (o := .cells #[.int .i64 a0_0, .slice A0_1 l0_1.length c0_1, .int .i64 a0_2] 24 (0, 0)) (by (with_reducible repeat (first | refine blk_drewN ?_ _ | refine blk_drew ?_ | refine blk_alloc ?_ _)); exact BK455.out) hb); have n2_ := Aside0.mk (below_step (by repeat (first | (with_reducible first | exact HB.out | apply below_alloc | apply pw_below_drewN | apply below_drew1 | refine below_set ?_ GE455.out) | exact HB.out)) hb); clear BK455; clear HB; have HO465 := n0_; have BK455 := n1_; have HB := n2_; clear n0_ n1_ n2_; (try clear hb); (try clear hb2); (try clear hk); (try clear hi); (try clear ho0)) | ((with_reducible refine gate_dst (N := 9) rfl ?_); (try (refine gate_guard (by rfl) ?_; dsimp only)); refine box_event ?hg (N := 9) ?hd (cs := #[.int .i64 0, .slice none 0 0, .int .i64 0]) (t := 24) ?hr ?_; (case hd => rfl); (case hg => rfl); (case hr => first | (go_simp; done) | (go_simp; rfl)); intro gb468 hg w24 hbox hb; have n0_ := Aside0.mk (Kd.R_below (by (with_reducible repeat (first | apply Kd.R_alloc | apply Kd.R_drewN | apply Kd.R_drew)); exact HO465.out) hb); have n1_ := Aside0.mk (blk_below (g := gb455) (o := .cells #[.int .i64 a0_0, .slice A0_1 l0_1.length c0_1, .int .i64 a0_2] 24 (0, 0)) (by (with_reducible repeat (first | refine blk_drewN ?_ _ | refine blk_drew ?_ | refine blk_alloc ?_ _)); exact BK455.out) hb); have n2_ := Aside0.mk (below_step (by repeat (first | (with_reducible first | exact HB.out | apply below_alloc | apply pw_below_drewN | apply below_drew1 | refine below_set ?_ GE455.out) | exact HB.out)) hb); have n3_ := Aside0.mk (hbox); have n4_ := Aside0.mk ((by rw [hg]; exact (below_size (by repeat (first | (with_reducible first | exact HB.out | apply below_alloc | apply pw_below_drewN | apply below_drew1 | refine below_set ?_ GE455.out) | exact HB.out))) : w.heap.size ≤ gb468)); have n5_ := Aside0.mk ((by rw [hg]; exact (below_size (by repeat (first | (with_reducible first | exact HB.out | apply below_alloc | apply pw_below_drewN | apply below_drew1 | refine below_set ?_ GE455.out) | exact HB.out))) : w.heap.size ≤ gb468)); have n6_ := Aside0.mk ((by rw [hg]; exact Nat.ne_of_lt (blk_lt (g := gb455) (o := .cells #[.int .i64 a0_0, .slice A0_1 l0_1.length c0_1, .int .i64 a0_2] 24 (0, 0)) (by (with_reducible repeat (first | refine blk_drewN ?_ _ | refine blk_drew ?_ | refine blk_alloc ?_ _)); exact BK455.out)) : gb455 ≠ gb468)); have n7_ := Aside0.mk ((by rw [hg]; exact Nat.ne_of_gt (blk_lt (g := gb455) (o := .cells #[.int .i64 a0_0, .slice A0_1 l0_1.length c0_1, .int .i64 a0_2] 24 (0, 0)) (by (with_reducible repeat (first | refine blk_drewN ?_ _ | refine blk_drew ?_ | refine blk_alloc ?_ _)); exact BK455.out)) : gb468 ≠ gb455)); clear HO465; clear BK455; clear HB; have HO465 := n0_; have BK455 := n1_; have HB := n2_; have BK468 := n3_; have GW468 := n4_; have GE468 := n5_; have NB455_468 := n6_; have NB468_455 := n7_; clear n0_ n1_ n2_ n3_ n4_ n5_ n6_ n7_; clear hb hbox hg; have hnb25 := NB468_455.out; have hnc25 := NB455_468.out; have hcz26_0 : w24.cell? ⟨gb468, 0, none⟩ = some (.int .i64 0) := (blk_cell BK468.out 0).trans rfl; have hcz26_1 : w24.cell? ⟨gb468, 1, none⟩ = some (.slice none 0 0) := (blk_cell BK468.out 1).trans rfl; have hcz26_2 : w24.cell? ⟨gb468, 2, none⟩ = some (.int .i64 0) := (blk_cell BK468.out 2).trans rfl; have hfz26_0 := blk_frozen BK468.out 0; have hfz26_1 := blk_frozen BK468.out 1; have hfz26_2 := blk_frozen BK468.out 2; obtain ⟨Ao27, co27, eo27⟩ := Kd.R_slice HO465.out; subst eo27) | ((with_reducible refine gate_callee (f := 30) rfl ?_); refine goesL_ (some 43) rfl rfl Tryd.func30 (by kernel_rfl) rfl #[.string a1] rfl (by (try simp only [List.map_toArray, List.map_cons, List.map_nil]); first | done | rfl | (simp only [List.length_drop, List.length_take]; rfl)) ?_; (with_reducible refine (samphireref20_Take.calls kj2 a1 t469 t470 t473 t474 _ A17.out).mono ?_); rintro e w28 ⟨v471, rfl, ho0, hb⟩; refine ⟨_, rfl, ?_⟩; have n0_ := Aside0.mk (Kd.R_elder' (by (with_reducible repeat (first | apply Kd.R_alloc | apply Kd.R_drewN | apply Kd.R_drew)); exact (Kd.R_mono (Kd.R_far (p := ⟨gb468, 2, none⟩) (Kd.R_far (p := ⟨gb468, 1, none⟩) (Kd.R_far (p := ⟨gb468, 0, none⟩) (Kd.R_types HO465.out BK468.out (by decide)) (fun _ hk => hk.2) (.int .i64 t462)) (fun _ hk => hk.2) (.slice Ao27 t463.length co27)) (fun _ hk => hk.2) (.int .i64 t466)) (fun _ h_ => h_.1))) (Kd.R_base ho0) hb); have n1_ := Aside0.mk (Kd.R_lower (Kd.R_new' ho0 (Kd.R_lt (by (with_reducible repeat (first | apply Kd.R_alloc | apply Kd.R_drewN | apply Kd.R_drew)); exact (Kd.R_mono (Kd.R_far (p := ⟨gb468, 2, none⟩) (Kd.R_far (p := ⟨gb468, 1, none⟩) (Kd.R_far (p := ⟨gb468, 0, none⟩) (Kd.R_types HO465.out BK468.out (by decide)) (fun _ hk => hk.2) (.int .i64 t462)) (fun _ hk => hk.2) (.slice Ao27 t463.length co27)) (fun _ hk => hk.2) (.int .i64 t466)) (fun _ h_ => h_.1))))) (below_size (by repeat (first | (with_reducible first | exact HB.out | apply below_alloc | apply pw_below_drewN | apply below_drew1 | refine below_set ?_ GE455.out | refine below_set ?_ GE468.out) | exact HB.out)))); have n2_ := Aside0.mk (blk_below (g := gb455) (o := .cells #[.int .i64 a0_0, .slice A0_1 l0_1.length c0_1, .int .i64 a0_2] 24 (0, 0)) (by (with_reducible repeat (first | refine blk_drewN ?_ _ | refine blk_drew ?_ | refine blk_alloc ?_ _)); refine blk_far ?_ NB455_468.out _; (with_reducible repeat (first | refine blk_drewN ?_ _ | refine blk_drew ?_ | refine blk_alloc ?_ _)); refine blk_far ?_ NB455_468.out _; (with_reducible repeat (first | refine blk_drewN ?_ _ | refine blk_drew ?_ | refine blk_alloc ?_ _)); refine blk_far ?_ NB455_468.out _; (with_reducible repeat (first | refine blk_drewN ?_ _ | refine blk_drew ?_ | refine blk_alloc ?_ _)); exact BK455.out) hb); have n3_ := Aside0.mk (blk_below (g := gb468) (o := .cells #[.int .i64 t462, .slice Ao27 t463.length co27, .int .i64 t466] 24 (0, 0)) (by (with_reducible repeat (first | refine blk_drewN ?_ _ | refine blk_drew ?_ | refine blk_alloc ?_ _)); refine blk_put (cs := #[.int .i64 t462, .slice Ao27 t463.length co27, .int .i64 0]) ?_ 2 _ rfl; (with_reducible repeat (first | refine blk_drewN ?_ _ | refine blk_drew ?_ | refine blk_alloc ?_ _)); refine blk_put (cs := #[.int .i64 t462, .slice none 0 0, .int .i64 0]) ?_ 1 _ rfl; (with_reducible repeat (first | refine blk_drewN ?_ _ | refine blk_drew ?_ | refine blk_alloc ?_ _)); refine blk_put (cs := #[.int .i64 0, .slice none 0 0, .int .i64 0]) ?_ 0 _ rfl; (with_reducible repeat (first | refine blk_drewN ?_ _ | refine blk_drew ?_ | refine blk_alloc ?_ _)); exact BK468.out) hb); have n4_ := Aside0.mk (below_step (by repeat (first | (with_reducible first | exact HB.out | apply below_alloc | apply pw_below_drewN | apply below_drew1 | refine below_set ?_ GE455.out | refine below_set ?_ GE468.out) | exact HB.out)) hb); clear HO465; clear BK455; clear BK468; clear HB; have HO465 := n0_; have HO472 := n1_; have BK455 := n2_; have BK468 := n3_; have HB := n4_; clear n0_ n1_ n2_ n3_ n4_; (try clear hb); (try clear hb2); (try clear hk); (try clear hi); (try clear ho0)) | ((with_reducible refine gate_dst (N := 11) rfl ?_); (try (refine gate_guard (by rfl) ?_; dsimp only)); refine box_event ?hg (N := 11) ?hd (cs := #[.int .i64 0, .slice none 0 0, .int .i64 0]) (t := 24) ?hr ?_; (case hd => rfl); (case hg => rfl); (case hr => first | (go_simp; done) | (go_simp; rfl)); intro gb475 hg w29 hbox hb; have n0_ := Aside0.mk (Kd.R_below (by (with_reducible repeat (first | apply Kd.R_alloc | apply Kd.R_drewN | apply Kd.R_drew)); exact HO465.out) hb); have n1_ := Aside0.mk (Kd.R_below (by (with_reducible repeat (first | apply Kd.R_alloc | apply Kd.R_drewN | apply Kd.R_drew)); exact HO472.out) hb); have n2_ := Aside0.mk (blk_below (g := gb455) (o := .cells #[.int .i64 a0_0, .slice A0_1 l0_1.length c0_1, .int .i64 a0_2] 24 (0, 0)) (by (with_reducible repeat (first | refine blk_drewN ?_ _ | refine blk_drew ?_ | refine blk_alloc ?_ _)); exact BK455.out) hb); have n3_ := Aside0.mk (blk_below (g := gb468) (o := .cells #[.int .i64 t462, .slice Ao27 t463.length co27, .int .i64 t466] 24 (0, 0)) (by (with_reducible repeat (first | refine blk_drewN ?_ _ | refine blk_drew ?_ | refine blk_alloc ?_ _)); exact BK468.out) hb); have n4_ := Aside0.mk (below_step (by repeat (first | (with_reducible first | exact HB.out | apply below_alloc | apply pw_below_drewN | apply below_drew1 | refine below_set ?_ GE455.out | refine below_set ?_ GE468.out) | exact HB.out)) hb); have n5_ := Aside0.mk (hbox); have n6_ := Aside0.mk ((by rw [hg]; exact (below_size (by repeat (first | (with_reducible first | exact HB.out | apply below_alloc | apply pw_below_drewN | apply below_drew1 | refine below_set ?_ GE455.out | refine below_set ?_ GE468.out) | exact HB.out))) : w.heap.size ≤ gb475)); have n7_ := Aside0.mk ((by rw [hg]; exact (below_size (by repeat (first | (with_reducible first | exact HB.out | apply below_alloc | apply pw_below_drewN | apply below_drew1 | refine below_set ?_ GE455.out | refine below_set ?_ GE468.out) | exact HB.out))) : w.heap.size ≤ gb475)); have n8_ := Aside0.mk ((by rw [hg]; exact Nat.ne_of_lt (blk_lt (g := gb455) (o := .cells #[.int .i64 a0_0, .slice A0_1 l0_1.length c0_1, .int .i64 a0_2] 24 (0, 0)) (by (with_reducible repeat (first | refine blk_drewN ?_ _ | refine blk_drew ?_ | refine blk_alloc ?_ _)); exact BK455.out)) : gb455 ≠ gb475)); have n9_ := Aside0.mk ((by rw [hg]; exact Nat.ne_of_gt (blk_lt (g := gb455) (o := .cells #[.int .i64 a0_0, .slice A0_1 l0_1.length c0_1, .int .i64 a0_2] 24 (0, 0)) (by (with_reducible repeat (first | refine blk_drewN ?_ _ | refine blk_drew ?_ | refine blk_alloc ?_ _)); exact BK455.out)) : gb475 ≠ gb455)); have n10_ := Aside0.mk ((by rw [hg]; exact Nat.ne_of_lt (blk_lt (g := gb468) (o := .cells #[.int .i64 t462, .slice Ao27 t463.length co27, .int .i64 t466] 24 (0, 0)) (by (with_reducible repeat (first | refine blk_drewN ?_ _ | refine blk_drew ?_ | refine blk_alloc ?_ _)); exact BK468.out)) : gb468 ≠ gb475)); have n11_ := Aside0.mk ((by rw [hg]; exact Nat.ne_of_gt (blk_lt (g := gb468) (o := .cells #[.int .i64 t462, .slice Ao27 t463.length co27, .int .i64 t466] 24 (0, 0)) (by (with_reducible repeat (first | refine blk_drewN ?_ _ | refine blk_drew ?_ | refine blk_alloc ?_ _)); exact BK468.out)) : gb475 ≠ gb468)); clear HO465; clear HO472; clear BK455; clear BK468; clear HB; have HO465 := n0_; have HO472 := n1_; have BK455 := n2_; have BK468 := n3_; have HB := n4_; have BK475 := n5_; have GW475 := n6_; have GE475 := n7_; have NB455_475 := n8_; have NB475_455 := n9_; have NB468_475 := n10_; have NB475_468 := n11_; clear n0_ n1_ n2_ n3_ n4_ n5_ n6_ n7_ n8_ n9_ n10_ n11_; clear hb hbox hg; have hnb30 := NB475_455.out; have hnc30 := NB455_475.out; have hnb31 := NB475_468.out; have hnc31 := NB468_475.out; have hcz32_0 : w29.cell? ⟨gb475, 0, none⟩ = some (.int .i64 0) := (blk_cell BK475.out 0).trans rfl; have hcz32_1 : w29.cell? ⟨gb475, 1, none⟩ = some (.slice none 0 0) := (blk_cell BK475.out 1).trans rfl; have hcz32_2 : w29.cell? ⟨gb475, 2, none⟩ = some (.int .i64 0) := (blk_cell BK475.out 2).trans rfl; have hfz32_0 := blk_frozen BK475.out 0; have hfz32_1 := blk_frozen BK475.out 1; have hfz32_2 := blk_frozen BK475.out 2; obtain ⟨Ao33, co33, eo33⟩ := Kd.R_slice HO472.out; subst eo33))
        (try simp only [Act.put, List.setIfInBounds_toArray, List.set_cons_zero, List.set_cons_succ])
        go_cut [64] (fun v64 wc => ∃ (kq : Nat) (x64_17 : Bool), v64 = .bool x64_17 ∧ Aside0 (samphirelaw20_GroupBytes.j1 kq a1 t458 t459 t467 x64_17 a0_0 l0_1 a0_2 t462 t463 t466 = some r) ∧ Aside0 (kq ≤ kj2) ∧ Aside0 (Kd.R k46 46 wc w.heap.size (fun k_ => some k_ ≠ ((.slice Ao33 t470.length co33) : Value).ownBlock) (.slice Ao27 t463.length co27) t463) ∧ Aside0 (Kd.R k46 46 wc w.heap.size (fun k_ => some k_ ≠ ((.slice Ao27 t463.length co27) : Value).ownBlock) (.slice Ao33 t470.length co33) t470) ∧ Aside0 (wc.heap[gb455]? = some (.cells #[.int .i64 a0_0, (.slice A0_1 l0_1.length c0_1), .int .i64 a0_2] 24 (0, 0))) ∧ Aside0 (wc.heap[gb468]? = some (.cells #[.int .i64 t462, (.slice Ao27 t463.length co27), .int .i64 t466] 24 (0, 0))) ∧ Aside0 (wc.heap[gb475]? = some (.cells #[.int .i64 t469, (.slice Ao33 t470.length co33), .int .i64 t473] 24 (0, 0))) ∧ Aside0 (Below w.heap.size w wc))
        case first =>
          have H := HC18.out
          clear HC18
          by_cases c34 : t458.toList = t460.toList
          · rw [if_pos c34] at H
            have c34b0 : (t458.toList == t460.toList) = true := beq_iff_eq.mpr c34
            have c34b1 : (t458.toList != t460.toList) = false := bne_eq_false_iff_eq.mpr c34
            clear c34
            (first | rw [c34b0] | (simp only [i64_w, i32_w]; rw [c34b0]) | skip)
            by_cases c35 : t459 = t461
            · rw [if_pos c35] at H
              have c35b0 : (t459 == t461) = true := beq_iff_eq.mpr c35
              have c35b1 : (t459 != t461) = false := bne_eq_false_iff_eq.mpr c35
              clear c35
              replace H := Option.bind_eq_some_iff.mp H
              obtain ⟨t476, A360, H⟩ := H
              replace H : (if t476 = true then (samphirelaw20_GroupBytes.j1 kj2 a1 t458 t459 t467 (t467 != t474) a0_0 l0_1 a0_2 t462 t463 t466) else (samphirelaw20_GroupBytes.j1 kj2 a1 t458 t459 t467 true a0_0 l0_1 a0_2 t462 t463 t466)) = some r := H
              have A36 := Aside0.mk A360
              clear A360
              by_cases c37 : t476 = true
              · subst c37
                have H1 : (samphirelaw20_GroupBytes.j1 kj2 a1 t458 t459 t467 (t467 != t474) a0_0 l0_1 a0_2 t462 t463 t466) = some r := by rw [if_pos rfl] at H; exact H
                clear H
                have H := H1
                clear H1
                have H' := Aside0.mk H
                clear H
                have hnb38 := NB468_455.out
                have hnc38 := NB455_468.out
                have hnb39 := NB468_475.out
                have hnc39 := NB475_468.out
                have hcz40_0 : w29.cell? ⟨gb468, 0, none⟩ = some (.int .i64 t462) := (blk_cell BK468.out 0).trans rfl
                have hcz40_1 : w29.cell? ⟨gb468, 1, none⟩ = some (.slice Ao27 t463.length co27) := (blk_cell BK468.out 1).trans rfl
                have hcz40_2 : w29.cell? ⟨gb468, 2, none⟩ = some (.int .i64 t466) := (blk_cell BK468.out 2).trans rfl
                have hfz40_0 := blk_frozen BK468.out 0
                have hfz40_1 := blk_frozen BK468.out 1
                have hfz40_2 := blk_frozen BK468.out 2
                have hnb41 := NB475_455.out
                have hnc41 := NB455_475.out
                have hcz42_0 : w29.cell? ⟨gb475, 0, none⟩ = some (.int .i64 0) := (blk_cell BK475.out 0).trans rfl
                have hcz42_1 : w29.cell? ⟨gb475, 1, none⟩ = some (.slice none 0 0) := (blk_cell BK475.out 1).trans rfl
                have hcz42_2 : w29.cell? ⟨gb475, 2, none⟩ = some (.int .i64 0) := (blk_cell BK475.out 2).trans rfl
                have hfz42_0 := blk_frozen BK475.out 0
                have hfz42_1 := blk_frozen BK475.out 1
                have hfz42_2 := blk_frozen BK475.out 2
                go_wp2_with (first | (go_at_call 20; (with_reducible refine (samphireref20_Same.calls kj2 t462 _ _ t463 t466 t469 _ _ t470 t473 true _ ?side1 ?side2 ?side3 ?side4 A36.out).mono ?_); (case side1 => refine (Kd.R_reads' (e := 46) (base := w.heap.size) (ok := fun k_ => (True ∧ some k_ ≠ (.slice Ao33 t470.length co33 : Value).ownBlock)) (n := t463.length) (c := co27) ?_).2.2; exact (by (with_reducible repeat (first | apply Kd.R_alloc | apply Kd.R_drewN | apply Kd.R_drew)); exact (Kd.R_mono (Kd.R_far (p := ⟨gb475, 2, none⟩) (Kd.R_far (p := ⟨gb475, 1, none⟩) (Kd.R_far (p := ⟨gb475, 0, none⟩) (Kd.R_types HO465.out BK475.out (by decide)) (fun _ hk => hk.2) (.int .i64 t469)) (fun _ hk => hk.2) (.slice Ao33 t470.length co33)) (fun _ hk => hk.2) (.int .i64 t473)) (fun _ h_ => h_.1)))); (case side2 => exact (Kd.R_reads' HO465.out).2.1); (case side3 => refine (Kd.R_reads' (e := 46) (base := w.heap.size) (ok := fun k_ => (True ∧ some k_ ≠ (.slice Ao27 t463.length co27 : Value).ownBlock)) (n := t470.length) (c := co33) ?_).2.2; exact (by (with_reducible repeat (first | apply Kd.R_alloc | apply Kd.R_drewN | apply Kd.R_drew)); exact (Kd.R_mono (Kd.R_far (p := ⟨gb475, 2, none⟩) (Kd.R_far (p := ⟨gb475, 1, none⟩) (Kd.R_far (p := ⟨gb475, 0, none⟩) (Kd.R_types HO472.out BK475.out (by decide)) (fun _ hk => hk.2) (.int .i64 t469)) (fun _ hk => hk.2) (.slice Ao33 t470.length co33)) (fun _ hk => hk.2) (.int .i64 t473)) (fun _ h_ => h_.1)))); (case side4 => exact (Kd.R_reads' HO472.out).2.1); rintro e w43 ⟨rfl, hb⟩; have n0_ := Aside0.mk (Kd.R_below (by (with_reducible repeat (first | apply Kd.R_alloc | apply Kd.R_drewN | apply Kd.R_drew)); exact (Kd.R_mono (Kd.R_far (p := ⟨gb475, 2, none⟩) (Kd.R_far (p := ⟨gb475, 1, none⟩) (Kd.R_far (p := ⟨gb475, 0, none⟩) (Kd.R_types HO465.out BK475.out (by decide)) (fun _ hk => hk.2) (.int .i64 t469)) (fun _ hk => hk.2) (.slice Ao33 t470.length co33)) (fun _ hk => hk.2) (.int .i64 t473)) (fun _ h_ => h_.1))) hb); have n1_ := Aside0.mk (Kd.R_below (by (with_reducible repeat (first | apply Kd.R_alloc | apply Kd.R_drewN | apply Kd.R_drew)); exact (Kd.R_mono (Kd.R_far (p := ⟨gb475, 2, none⟩) (Kd.R_far (p := ⟨gb475, 1, none⟩) (Kd.R_far (p := ⟨gb475, 0, none⟩) (Kd.R_types HO472.out BK475.out (by decide)) (fun _ hk => hk.2) (.int .i64 t469)) (fun _ hk => hk.2) (.slice Ao33 t470.length co33)) (fun _ hk => hk.2) (.int .i64 t473)) (fun _ h_ => h_.1))) hb); have n2_ := Aside0.mk (blk_below (g := gb455) (o := .cells #[.int .i64 a0_0, .slice A0_1 l0_1.length c0_1, .int .i64 a0_2] 24 (0, 0)) (by (with_reducible repeat (first | refine blk_drewN ?_ _ | refine blk_drew ?_ | refine blk_alloc ?_ _)); refine blk_far ?_ NB455_475.out _; (with_reducible repeat (first | refine blk_drewN ?_ _ | refine blk_drew ?_ | refine blk_alloc ?_ _)); refine blk_far ?_ NB455_475.out _; (with_reducible repeat (first | refine blk_drewN ?_ _ | refine blk_drew ?_ | refine blk_alloc ?_ _)); refine blk_far ?_ NB455_475.out _; (with_reducible repeat (first | refine blk_drewN ?_ _ | refine blk_drew ?_ | refine blk_alloc ?_ _)); exact BK455.out) hb); have n3_ := Aside0.mk (blk_below (g := gb468) (o := .cells #[.int .i64 t462, .slice Ao27 t463.length co27, .int .i64 t466] 24 (0, 0)) (by (with_reducible repeat (first | refine blk_drewN ?_ _ | refine blk_drew ?_ | refine blk_alloc ?_ _)); refine blk_far ?_ NB468_475.out _; (with_reducible repeat (first | refine blk_drewN ?_ _ | refine blk_drew ?_ | refine blk_alloc ?_ _)); refine blk_far ?_ NB468_475.out _; (with_reducible repeat (first | refine blk_drewN ?_ _ | refine blk_drew ?_ | refine blk_alloc ?_ _)); refine blk_far ?_ NB468_475.out _; (with_reducible repeat (first | refine blk_drewN ?_ _ | refine blk_drew ?_ | refine blk_alloc ?_ _)); exact BK468.out) hb); have n4_ := Aside0.mk (blk_below (g := gb475) (o := .cells #[.int .i64 t469, .slice Ao33 t470.length co33, .int .i64 t473] 24 (0, 0)) (by (with_reducible repeat (first | refine blk_drewN ?_ _ | refine blk_drew ?_ | refine blk_alloc ?_ _)); refine blk_put (cs := #[.int .i64 t469, .slice Ao33 t470.length co33, .int .i64 0]) ?_ 2 _ rfl; (with_reducible repeat (first | refine blk_drewN ?_ _ | refine blk_drew ?_ | refine blk_alloc ?_ _)); refine blk_put (cs := #[.int .i64 t469, .slice none 0 0, .int .i64 0]) ?_ 1 _ rfl; (with_reducible repeat (first | refine blk_drewN ?_ _ | refine blk_drew ?_ | refine blk_alloc ?_ _)); refine blk_put (cs := #[.int .i64 0, .slice none 0 0, .int .i64 0]) ?_ 0 _ rfl; (with_reducible repeat (first | refine blk_drewN ?_ _ | refine blk_drew ?_ | refine blk_alloc ?_ _)); exact BK475.out) hb); have n5_ := Aside0.mk (below_step (by repeat (first | (with_reducible first | exact HB.out | apply below_alloc | apply pw_below_drewN | apply below_drew1 | refine below_set ?_ GE455.out | refine below_set ?_ GE468.out | refine below_set ?_ GE475.out) | exact HB.out)) hb); clear HO465; clear HO472; clear BK455; clear BK468; clear BK475; clear HB; have HO465 := n0_; have HO472 := n1_; have BK455 := n2_; have BK468 := n3_; have BK475 := n4_; have HB := n5_; clear n0_ n1_ n2_ n3_ n4_ n5_; (try clear hb); (try clear hb2); (try clear hk); (try clear hi)))
                go_meet
                case rel => exact ⟨_, ((t467 != t474)), (by first | rfl | (simp; done) | (simp [*]; done)), H', ⟨by have := HJ2.out; first | omega | exact Nat.le_refl _⟩, ⟨by (with_reducible repeat (first | apply Kd.R_alloc | apply Kd.R_drewN | apply Kd.R_drew)); exact Kd.R_mono HO465.out (fun _ hk => hk.2)⟩, ⟨by (with_reducible repeat (first | apply Kd.R_alloc | apply Kd.R_drewN | apply Kd.R_drew)); exact Kd.R_mono HO472.out (fun _ hk => hk.2)⟩, ⟨by (with_reducible repeat (first | refine blk_drewN ?_ _ | refine blk_drew ?_ | refine blk_alloc ?_ _)); exact BK455.out⟩, ⟨by (with_reducible repeat (first | refine blk_drewN ?_ _ | refine blk_drew ?_ | refine blk_alloc ?_ _)); exact BK468.out⟩, ⟨by (with_reducible repeat (first | refine blk_drewN ?_ _ | refine blk_drew ?_ | refine blk_alloc ?_ _)); exact BK475.out⟩, ⟨by repeat (first | (with_reducible first | exact HB.out | apply below_alloc | apply pw_below_drewN | apply below_drew1 | refine below_set ?_ GE455.out | refine below_set ?_ GE468.out | refine below_set ?_ GE475.out) | exact HB.out)⟩⟩
              · replace c37 := Bool.eq_false_iff.mpr c37
                subst c37
                have H1 : (samphirelaw20_GroupBytes.j1 kj2 a1 t458 t459 t467 true a0_0 l0_1 a0_2 t462 t463 t466) = some r := by rw [if_neg (show ¬ (false = true) by decide)] at H; exact H
                clear H
                have H := H1
                clear H1
                have H' := Aside0.mk H
                clear H
                have hnb44 := NB468_455.out
                have hnc44 := NB455_468.out
                have hnb45 := NB468_475.out
                have hnc45 := NB475_468.out
                have hcz46_0 : w29.cell? ⟨gb468, 0, none⟩ = some (.int .i64 t462) := (blk_cell BK468.out 0).trans rfl
                have hcz46_1 : w29.cell? ⟨gb468, 1, none⟩ = some (.slice Ao27 t463.length co27) := (blk_cell BK468.out 1).trans rfl
                have hcz46_2 : w29.cell? ⟨gb468, 2, none⟩ = some (.int .i64 t466) := (blk_cell BK468.out 2).trans rfl
                have hfz46_0 := blk_frozen BK468.out 0
                have hfz46_1 := blk_frozen BK468.out 1
                have hfz46_2 := blk_frozen BK468.out 2
                have hnb47 := NB475_455.out
                have hnc47 := NB455_475.out
                have hcz48_0 : w29.cell? ⟨gb475, 0, none⟩ = some (.int .i64 0) := (blk_cell BK475.out 0).trans rfl
                have hcz48_1 : w29.cell? ⟨gb475, 1, none⟩ = some (.slice none 0 0) := (blk_cell BK475.out 1).trans rfl
                have hcz48_2 : w29.cell? ⟨gb475, 2, none⟩ = some (.int .i64 0) := (blk_cell BK475.out 2).trans rfl
                have hfz48_0 := blk_frozen BK475.out 0
                have hfz48_1 := blk_frozen BK475.out 1
                have hfz48_2 := blk_frozen BK475.out 2
                go_wp2_with (first | (go_at_call 20; (with_reducible refine (samphireref20_Same.calls kj2 t462 _ _ t463 t466 t469 _ _ t470 t473 false _ ?side1 ?side2 ?side3 ?side4 A36.out).mono ?_); (case side1 => refine (Kd.R_reads' (e := 46) (base := w.heap.size) (ok := fun k_ => (True ∧ some k_ ≠ (.slice Ao33 t470.length co33 : Value).ownBlock)) (n := t463.length) (c := co27) ?_).2.2; exact (by (with_reducible repeat (first | apply Kd.R_alloc | apply Kd.R_drewN | apply Kd.R_drew)); exact (Kd.R_mono (Kd.R_far (p := ⟨gb475, 2, none⟩) (Kd.R_far (p := ⟨gb475, 1, none⟩) (Kd.R_far (p := ⟨gb475, 0, none⟩) (Kd.R_types HO465.out BK475.out (by decide)) (fun _ hk => hk.2) (.int .i64 t469)) (fun _ hk => hk.2) (.slice Ao33 t470.length co33)) (fun _ hk => hk.2) (.int .i64 t473)) (fun _ h_ => h_.1)))); (case side2 => exact (Kd.R_reads' HO465.out).2.1); (case side3 => refine (Kd.R_reads' (e := 46) (base := w.heap.size) (ok := fun k_ => (True ∧ some k_ ≠ (.slice Ao27 t463.length co27 : Value).ownBlock)) (n := t470.length) (c := co33) ?_).2.2; exact (by (with_reducible repeat (first | apply Kd.R_alloc | apply Kd.R_drewN | apply Kd.R_drew)); exact (Kd.R_mono (Kd.R_far (p := ⟨gb475, 2, none⟩) (Kd.R_far (p := ⟨gb475, 1, none⟩) (Kd.R_far (p := ⟨gb475, 0, none⟩) (Kd.R_types HO472.out BK475.out (by decide)) (fun _ hk => hk.2) (.int .i64 t469)) (fun _ hk => hk.2) (.slice Ao33 t470.length co33)) (fun _ hk => hk.2) (.int .i64 t473)) (fun _ h_ => h_.1)))); (case side4 => exact (Kd.R_reads' HO472.out).2.1); rintro e w49 ⟨rfl, hb⟩; have n0_ := Aside0.mk (Kd.R_below (by (with_reducible repeat (first | apply Kd.R_alloc | apply Kd.R_drewN | apply Kd.R_drew)); exact (Kd.R_mono (Kd.R_far (p := ⟨gb475, 2, none⟩) (Kd.R_far (p := ⟨gb475, 1, none⟩) (Kd.R_far (p := ⟨gb475, 0, none⟩) (Kd.R_types HO465.out BK475.out (by decide)) (fun _ hk => hk.2) (.int .i64 t469)) (fun _ hk => hk.2) (.slice Ao33 t470.length co33)) (fun _ hk => hk.2) (.int .i64 t473)) (fun _ h_ => h_.1))) hb); have n1_ := Aside0.mk (Kd.R_below (by (with_reducible repeat (first | apply Kd.R_alloc | apply Kd.R_drewN | apply Kd.R_drew)); exact (Kd.R_mono (Kd.R_far (p := ⟨gb475, 2, none⟩) (Kd.R_far (p := ⟨gb475, 1, none⟩) (Kd.R_far (p := ⟨gb475, 0, none⟩) (Kd.R_types HO472.out BK475.out (by decide)) (fun _ hk => hk.2) (.int .i64 t469)) (fun _ hk => hk.2) (.slice Ao33 t470.length co33)) (fun _ hk => hk.2) (.int .i64 t473)) (fun _ h_ => h_.1))) hb); have n2_ := Aside0.mk (blk_below (g := gb455) (o := .cells #[.int .i64 a0_0, .slice A0_1 l0_1.length c0_1, .int .i64 a0_2] 24 (0, 0)) (by (with_reducible repeat (first | refine blk_drewN ?_ _ | refine blk_drew ?_ | refine blk_alloc ?_ _)); refine blk_far ?_ NB455_475.out _; (with_reducible repeat (first | refine blk_drewN ?_ _ | refine blk_drew ?_ | refine blk_alloc ?_ _)); refine blk_far ?_ NB455_475.out _; (with_reducible repeat (first | refine blk_drewN ?_ _ | refine blk_drew ?_ | refine blk_alloc ?_ _)); refine blk_far ?_ NB455_475.out _; (with_reducible repeat (first | refine blk_drewN ?_ _ | refine blk_drew ?_ | refine blk_alloc ?_ _)); exact BK455.out) hb); have n3_ := Aside0.mk (blk_below (g := gb468) (o := .cells #[.int .i64 t462, .slice Ao27 t463.length co27, .int .i64 t466] 24 (0, 0)) (by (with_reducible repeat (first | refine blk_drewN ?_ _ | refine blk_drew ?_ | refine blk_alloc ?_ _)); refine blk_far ?_ NB468_475.out _; (with_reducible repeat (first | refine blk_drewN ?_ _ | refine blk_drew ?_ | refine blk_alloc ?_ _)); refine blk_far ?_ NB468_475.out _; (with_reducible repeat (first | refine blk_drewN ?_ _ | refine blk_drew ?_ | refine blk_alloc ?_ _)); refine blk_far ?_ NB468_475.out _; (with_reducible repeat (first | refine blk_drewN ?_ _ | refine blk_drew ?_ | refine blk_alloc ?_ _)); exact BK468.out) hb); have n4_ := Aside0.mk (blk_below (g := gb475) (o := .cells #[.int .i64 t469, .slice Ao33 t470.length co33, .int .i64 t473] 24 (0, 0)) (by (with_reducible repeat (first | refine blk_drewN ?_ _ | refine blk_drew ?_ | refine blk_alloc ?_ _)); refine blk_put (cs := #[.int .i64 t469, .slice Ao33 t470.length co33, .int .i64 0]) ?_ 2 _ rfl; (with_reducible repeat (first | refine blk_drewN ?_ _ | refine blk_drew ?_ | refine blk_alloc ?_ _)); refine blk_put (cs := #[.int .i64 t469, .slice none 0 0, .int .i64 0]) ?_ 1 _ rfl; (with_reducible repeat (first | refine blk_drewN ?_ _ | refine blk_drew ?_ | refine blk_alloc ?_ _)); refine blk_put (cs := #[.int .i64 0, .slice none 0 0, .int .i64 0]) ?_ 0 _ rfl; (with_reducible repeat (first | refine blk_drewN ?_ _ | refine blk_drew ?_ | refine blk_alloc ?_ _)); exact BK475.out) hb); have n5_ := Aside0.mk (below_step (by repeat (first | (with_reducible first | exact HB.out | apply below_alloc | apply pw_below_drewN | apply below_drew1 | refine below_set ?_ GE455.out | refine below_set ?_ GE468.out | refine below_set ?_ GE475.out) | exact HB.out)) hb); clear HO465; clear HO472; clear BK455; clear BK468; clear BK475; clear HB; have HO465 := n0_; have HO472 := n1_; have BK455 := n2_; have BK468 := n3_; have BK475 := n4_; have HB := n5_; clear n0_ n1_ n2_ n3_ n4_ n5_; (try clear hb); (try clear hb2); (try clear hk); (try clear hi)))
                go_meet
                case rel => exact ⟨_, (true), (by first | rfl | (simp; done) | (simp [*]; done)), H', ⟨by have := HJ2.out; first | omega | exact Nat.le_refl _⟩, ⟨by (with_reducible repeat (first | apply Kd.R_alloc | apply Kd.R_drewN | apply Kd.R_drew)); exact Kd.R_mono HO465.out (fun _ hk => hk.2)⟩, ⟨by (with_reducible repeat (first | apply Kd.R_alloc | apply Kd.R_drewN | apply Kd.R_drew)); exact Kd.R_mono HO472.out (fun _ hk => hk.2)⟩, ⟨by (with_reducible repeat (first | refine blk_drewN ?_ _ | refine blk_drew ?_ | refine blk_alloc ?_ _)); exact BK455.out⟩, ⟨by (with_reducible repeat (first | refine blk_drewN ?_ _ | refine blk_drew ?_ | refine blk_alloc ?_ _)); exact BK468.out⟩, ⟨by (with_reducible repeat (first | refine blk_drewN ?_ _ | refine blk_drew ?_ | refine blk_alloc ?_ _)); exact BK475.out⟩, ⟨by repeat (first | (with_reducible first | exact HB.out | apply below_alloc | apply pw_below_drewN | apply below_drew1 | refine below_set ?_ GE455.out | refine below_set ?_ GE468.out | refine below_set ?_ GE475.out) | exact HB.out)⟩⟩
            · rw [if_neg c35] at H
              have c35b0 : (t459 == t461) = false := beq_eq_false_iff_ne.mpr c35
              have c35b1 : (t459 != t461) = true := bne_iff_ne.mpr c35
              have H' := Aside0.mk H
              clear H
              go_wp2
              go_meet
              case rel => exact ⟨_, (true), (by first | rfl | (simp; done) | (simp [*]; done)), H', ⟨by have := HJ2.out; first | omega | exact Nat.le_refl _⟩, ⟨by (with_reducible repeat (first | apply Kd.R_alloc | apply Kd.R_drewN | apply Kd.R_drew)); exact Kd.R_mono (Kd.R_far (p := ⟨gb475, 2, none⟩) (Kd.R_far (p := ⟨gb475, 1, none⟩) (Kd.R_far (p := ⟨gb475, 0, none⟩) (Kd.R_types HO465.out BK475.out (by decide)) (fun _ hk => hk.2) (.int .i64 t469)) (fun _ hk => hk.2) (.slice Ao33 t470.length co33)) (fun _ hk => hk.2) (.int .i64 t473)) (fun _ hk => hk.1.2)⟩, ⟨by (with_reducible repeat (first | apply Kd.R_alloc | apply Kd.R_drewN | apply Kd.R_drew)); exact Kd.R_mono (Kd.R_far (p := ⟨gb475, 2, none⟩) (Kd.R_far (p := ⟨gb475, 1, none⟩) (Kd.R_far (p := ⟨gb475, 0, none⟩) (Kd.R_types HO472.out BK475.out (by decide)) (fun _ hk => hk.2) (.int .i64 t469)) (fun _ hk => hk.2) (.slice Ao33 t470.length co33)) (fun _ hk => hk.2) (.int .i64 t473)) (fun _ hk => hk.1.2)⟩, ⟨by (with_reducible repeat (first | refine blk_drewN ?_ _ | refine blk_drew ?_ | refine blk_alloc ?_ _)); refine blk_far ?_ NB455_475.out _; (with_reducible repeat (first | refine blk_drewN ?_ _ | refine blk_drew ?_ | refine blk_alloc ?_ _)); refine blk_far ?_ NB455_475.out _; (with_reducible repeat (first | refine blk_drewN ?_ _ | refine blk_drew ?_ | refine blk_alloc ?_ _)); refine blk_far ?_ NB455_475.out _; (with_reducible repeat (first | refine blk_drewN ?_ _ | refine blk_drew ?_ | refine blk_alloc ?_ _)); exact BK455.out⟩, ⟨by (with_reducible repeat (first | refine blk_drewN ?_ _ | refine blk_drew ?_ | refine blk_alloc ?_ _)); refine blk_far ?_ NB468_475.out _; (with_reducible repeat (first | refine blk_drewN ?_ _ | refine blk_drew ?_ | refine blk_alloc ?_ _)); refine blk_far ?_ NB468_475.out _; (with_reducible repeat (first | refine blk_drewN ?_ _ | refine blk_drew ?_ | refine blk_alloc ?_ _)); refine blk_far ?_ NB468_475.out _; (with_reducible repeat (first | refine blk_drewN ?_ _ | refine blk_drew ?_ | refine blk_alloc ?_ _)); exact BK468.out⟩, ⟨by (with_reducible repeat (first | refine blk_drewN ?_ _ | refine blk_drew ?_ | refine blk_alloc ?_ _)); refine blk_put (cs := #[.int .i64 t469, .slice Ao33 t470.length co33, .int .i64 0]) ?_ 2 _ rfl; (with_reducible repeat (first | refine blk_drewN ?_ _ | refine blk_drew ?_ | refine blk_alloc ?_ _)); refine blk_put (cs := #[.int .i64 t469, .slice none 0 0, .int .i64 0]) ?_ 1 _ rfl; (with_reducible repeat (first | refine blk_drewN ?_ _ | refine blk_drew ?_ | refine blk_alloc ?_ _)); refine blk_put (cs := #[.int .i64 0, .slice none 0 0, .int .i64 0]) ?_ 0 _ rfl; (with_reducible repeat (first | refine blk_drewN ?_ _ | refine blk_drew ?_ | refine blk_alloc ?_ _)); exact BK475.out⟩, ⟨by repeat (first | (with_reducible first | exact HB.out | apply below_alloc | apply pw_below_drewN | apply below_drew1 | refine below_set ?_ GE455.out | refine below_set ?_ GE468.out | refine below_set ?_ GE475.out) | exact HB.out)⟩⟩
          · rw [if_neg c34] at H
            have c34b0 : (t458.toList == t460.toList) = false := beq_eq_false_iff_ne.mpr c34
            have c34b1 : (t458.toList != t460.toList) = true := bne_iff_ne.mpr c34
            (first | rw [c34b0] | (simp only [i64_w, i32_w]; rw [c34b0]) | skip)
            have H' := Aside0.mk H
            clear H
            go_wp2
            go_meet
            case rel => exact ⟨_, (true), (by first | rfl | (simp; done) | (simp [*]; done)), H', ⟨by have := HJ2.out; first | omega | exact Nat.le_refl _⟩, ⟨by (with_reducible repeat (first | apply Kd.R_alloc | apply Kd.R_drewN | apply Kd.R_drew)); exact Kd.R_mono (Kd.R_far (p := ⟨gb475, 2, none⟩) (Kd.R_far (p := ⟨gb475, 1, none⟩) (Kd.R_far (p := ⟨gb475, 0, none⟩) (Kd.R_types HO465.out BK475.out (by decide)) (fun _ hk => hk.2) (.int .i64 t469)) (fun _ hk => hk.2) (.slice Ao33 t470.length co33)) (fun _ hk => hk.2) (.int .i64 t473)) (fun _ hk => hk.1.2)⟩, ⟨by (with_reducible repeat (first | apply Kd.R_alloc | apply Kd.R_drewN | apply Kd.R_drew)); exact Kd.R_mono (Kd.R_far (p := ⟨gb475, 2, none⟩) (Kd.R_far (p := ⟨gb475, 1, none⟩) (Kd.R_far (p := ⟨gb475, 0, none⟩) (Kd.R_types HO472.out BK475.out (by decide)) (fun _ hk => hk.2) (.int .i64 t469)) (fun _ hk => hk.2) (.slice Ao33 t470.length co33)) (fun _ hk => hk.2) (.int .i64 t473)) (fun _ hk => hk.1.2)⟩, ⟨by (with_reducible repeat (first | refine blk_drewN ?_ _ | refine blk_drew ?_ | refine blk_alloc ?_ _)); refine blk_far ?_ NB455_475.out _; (with_reducible repeat (first | refine blk_drewN ?_ _ | refine blk_drew ?_ | refine blk_alloc ?_ _)); refine blk_far ?_ NB455_475.out _; (with_reducible repeat (first | refine blk_drewN ?_ _ | refine blk_drew ?_ | refine blk_alloc ?_ _)); refine blk_far ?_ NB455_475.out _; (with_reducible repeat (first | refine blk_drewN ?_ _ | refine blk_drew ?_ | refine blk_alloc ?_ _)); exact BK455.out⟩, ⟨by (with_reducible repeat (first | refine blk_drewN ?_ _ | refine blk_drew ?_ | refine blk_alloc ?_ _)); refine blk_far ?_ NB468_475.out _; (with_reducible repeat (first | refine blk_drewN ?_ _ | refine blk_drew ?_ | refine blk_alloc ?_ _)); refine blk_far ?_ NB468_475.out _; (with_reducible repeat (first | refine blk_drewN ?_ _ | refine blk_drew ?_ | refine blk_alloc ?_ _)); refine blk_far ?_ NB468_475.out _; (with_reducible repeat (first | refine blk_drewN ?_ _ | refine blk_drew ?_ | refine blk_alloc ?_ _)); exact BK468.out⟩, ⟨by (with_reducible repeat (first | refine blk_drewN ?_ _ | refine blk_drew ?_ | refine blk_alloc ?_ _)); refine blk_put (cs := #[.int .i64 t469, .slice Ao33 t470.length co33, .int .i64 0]) ?_ 2 _ rfl; (with_reducible repeat (first | refine blk_drewN ?_ _ | refine blk_drew ?_ | refine blk_alloc ?_ _)); refine blk_put (cs := #[.int .i64 t469, .slice none 0 0, .int .i64 0]) ?_ 1 _ rfl; (with_reducible repeat (first | refine blk_drewN ?_ _ | refine blk_drew ?_ | refine blk_alloc ?_ _)); refine blk_put (cs := #[.int .i64 0, .slice none 0 0, .int .i64 0]) ?_ 0 _ rfl; (with_reducible repeat (first | refine blk_drewN ?_ _ | refine blk_drew ?_ | refine blk_alloc ?_ _)); exact BK475.out⟩, ⟨by repeat (first | (with_reducible first | exact HB.out | apply below_alloc | apply pw_below_drewN | apply below_drew1 | refine below_set ?_ GE455.out | refine below_set ?_ GE468.out | refine below_set ?_ GE475.out) | exact HB.out)⟩⟩
        case rest =>
          clear HC18
          try clear c1
          try clear c2
          try clear p2
          try clear c3
          try clear c4
          try clear c5
          try clear c6
          try clear c11
          try clear c15
          try clear c17
          try clear c25
          try clear c27
          try clear c28
          try clear c29
          try clear c30
          try clear c31
          try clear c34
          try clear c34b0
          try clear c34b1
          try clear c35
          try clear c35b0
          try clear c35b1
          try clear c37
          try clear c38
          try clear c39
          try clear c41
          try clear c44
          try clear c45
          try clear c47
          try clear hcz19_0
          try clear hcz19_1
          try clear hcz19_2
          try clear hcz21_0
          try clear hcz21_1
          try clear hcz21_2
          try clear hcz26_0
          try clear hcz26_1
          try clear hcz26_2
          try clear hcz32_0
          try clear hcz32_1
          try clear hcz32_2
          try clear hcz40_0
          try clear hcz40_1
          try clear hcz40_2
          try clear hcz42_0
          try clear hcz42_1
          try clear hcz42_2
          try clear hcz46_0
          try clear hcz46_1
          try clear hcz46_2
          try clear hcz48_0
          try clear hcz48_1
          try clear hcz48_2
          try clear hcz7_0
          try clear hcz7_1
          try clear hcz7_2
          try clear hcz9_0
          try clear hcz9_1
          try clear hcz9_2
          try clear hfz19_0
          try clear hfz19_1
          try clear hfz19_2
          try clear hfz21_0
          try clear hfz21_1
          try clear hfz21_2
          try clear hfz26_0
          try clear hfz26_1
          try clear hfz26_2
          try clear hfz32_0
          try clear hfz32_1
          try clear hfz32_2
          try clear hfz40_0
          try clear hfz40_1
          try clear hfz40_2
          try clear hfz42_0
          try clear hfz42_1
          try clear hfz42_2
          try clear hfz46_0
          try clear hfz46_1
          try clear hfz46_2
          try clear hfz48_0
          try clear hfz48_1
          try clear hfz48_2
          try clear hfz7_0
          try clear hfz7_1
          try clear hfz7_2
          try clear hfz9_0
          try clear hfz9_1
          try clear hfz9_2
          try clear p2
          obtain ⟨kq, x64_17, rfl, HA, HJ17, HO_469001, HO_476001, BK455, BK468, BK475, HB⟩ := hcut
          cases kq with
          | zero => exact absurd HA.out (by simp [samphirelaw20_GroupBytes.j1])
          | succ kj17 =>
            have H := HA.out
            clear HA
            simp only [samphirelaw20_GroupBytes.j1] at H
            by_cases c50 : x64_17 = true
            · subst c50
              have H1 : (some false) = some r := by rw [if_pos rfl] at H; exact H
              clear H
              have H := H1
              clear H1
              obtain rfl := Option.some.inj H
              go_wp2
              go_ret
              exact ⟨by first | rfl | (simp [errW_none, errW_some] <;> rfl) | (simp [*, errW_none, errW_some] <;> rfl), by repeat (first | (with_reducible first | exact HB.out | apply below_alloc | apply pw_below_drewN | apply below_drew1 | refine below_set ?_ GE455.out | refine below_set ?_ GE468.out | refine below_set ?_ GE475.out) | exact HB.out)⟩
            · replace c50 := Bool.eq_false_iff.mpr c50
              subst c50
              have H1 : (if t459 = 0 then ((group_Take.f kj17 t458).bind fun bt477 => ((samphireref20_Same.f kj17 bt477.1 bt477.2.1 bt477.2.2.1 a0_0 l0_1 a0_2).bind fun t484 => (if t484 = true then (if bt477.2.2.2 = 0 then (samphirelaw20_GroupBytes.j2 kj17 a1 t467 t462 t463 t466) else (some false)) else (some false)))) else (samphirelaw20_GroupBytes.j2 kj17 a1 t467 t462 t463 t466)) = some r := by rw [if_neg (show ¬ (false = true) by decide)] at H; exact H
              clear H
              have H := H1
              clear H1
              have HC51 := Aside0.mk H
              clear H
              go_upto_if 66 with (fail)
              go_cut [] (fun wc => ∃ (kq : Nat), Aside0 (samphirelaw20_GroupBytes.j2 kq a1 t467 t462 t463 t466 = some r) ∧ Aside0 (kq ≤ kj17) ∧ Aside0 (Kd.R k46 46 wc w.heap.size (fun k_ => some k_ ≠ ((.slice Ao33 t470.length co33) : Value).ownBlock) (.slice Ao27 t463.length co27) t463) ∧ Aside0 (Kd.R k46 46 wc w.heap.size (fun k_ => some k_ ≠ ((.slice Ao27 t463.length co27) : Value).ownBlock) (.slice Ao33 t470.length co33) t470) ∧ Aside0 (wc.heap[gb455]? = some (.cells #[.int .i64 a0_0, (.slice A0_1 l0_1.length c0_1), .int .i64 a0_2] 24 (0, 0))) ∧ Aside0 (wc.heap[gb468]? = some (.cells #[.int .i64 t462, (.slice Ao27 t463.length co27), .int .i64 t466] 24 (0, 0))) ∧ Aside0 (wc.heap[gb475]? = some (.cells #[.int .i64 t469, (.slice Ao33 t470.length co33), .int .i64 t473] 24 (0, 0))) ∧ Aside0 (Below w.heap.size w wc))
              case first =>
                have H := HC51.out
                clear HC51
                by_cases c52 : t459 = 0
                · rw [if_pos c52] at H
                  have c52b0 : (t459 == 0) = true := beq_iff_eq.mpr c52
                  have c52b1 : (t459 != 0) = false := bne_eq_false_iff_eq.mpr c52
                  clear c52
                  (first | rw [c52b0] | (simp only [i64_w, i32_w]; rw [c52b0]) | skip)
                  replace H := Option.bind_eq_some_iff.mp H
                  obtain ⟨⟨t477, t478, t481, t482⟩, A530, H⟩ := H
                  replace H : ((samphireref20_Same.f kj17 t477 t478 t481 a0_0 l0_1 a0_2).bind fun t484 => (if t484 = true then (if t482 = 0 then (samphirelaw20_GroupBytes.j2 kj17 a1 t467 t462 t463 t466) else (some false)) else (some false))) = some r := H
                  have A53 := Aside0.mk A530
                  clear A530
                  replace H := Option.bind_eq_some_iff.mp H
                  obtain ⟨t484, A540, H⟩ := H
                  replace H : (if t484 = true then (if t482 = 0 then (samphirelaw20_GroupBytes.j2 kj17 a1 t467 t462 t463 t466) else (some false)) else (some false)) = some r := H
                  have A54 := Aside0.mk A540
                  clear A540
                  by_cases c55 : t484 = true
                  · subst c55
                    have H1 : (if t482 = 0 then (samphirelaw20_GroupBytes.j2 kj17 a1 t467 t462 t463 t466) else (some false)) = some r := by rw [if_pos rfl] at H; exact H
                    clear H
                    have H := H1
                    clear H1
                    by_cases c56 : t482 = 0
                    · rw [if_pos c56] at H
                      have c56b0 : (t482 == 0) = true := beq_iff_eq.mpr c56
                      have c56b1 : (t482 != 0) = false := bne_eq_false_iff_eq.mpr c56
                      clear c56
                      have H' := Aside0.mk H
                      clear H
                      go_wp2_with (first | ((with_reducible refine gate_callee (f := 29) rfl ?_); refine goesL_ (some 69) rfl rfl Tryd.func29 (by kernel_rfl) rfl #[.string t458] rfl (by (try simp only [List.map_toArray, List.map_cons, List.map_nil]); first | done | rfl | (simp only [List.length_drop, List.length_take]; rfl)) ?_; (with_reducible refine (group_Take.calls kj17 t458 t477 t478 t481 t482 _ A53.out).mono ?_); rintro e w57 ⟨v479, rfl, ho0, hb⟩; refine ⟨_, rfl, ?_⟩; have n0_ := Aside0.mk (Kd.R_elder' (by (with_reducible repeat (first | apply Kd.R_alloc | apply Kd.R_drewN | apply Kd.R_drew)); exact HO_469001.out) (Kd.R_base ho0) hb); have n1_ := Aside0.mk (Kd.R_elder' (by (with_reducible repeat (first | apply Kd.R_alloc | apply Kd.R_drewN | apply Kd.R_drew)); exact HO_476001.out) (Kd.R_base ho0) hb); have n2_ := Aside0.mk (Kd.R_lower (Kd.R_new' (Kd.R_new' ho0 (Kd.R_lt (by (with_reducible repeat (first | apply Kd.R_alloc | apply Kd.R_drewN | apply Kd.R_drew)); exact HO_469001.out))) (Kd.R_lt (by (with_reducible repeat (first | apply Kd.R_alloc | apply Kd.R_drewN | apply Kd.R_drew)); exact HO_476001.out))) (below_size (by repeat (first | (with_reducible first | exact HB.out | apply below_alloc | apply pw_below_drewN | apply below_drew1 | refine below_set ?_ GE455.out | refine below_set ?_ GE468.out | refine below_set ?_ GE475.out) | exact HB.out)))); have n3_ := Aside0.mk (blk_below (g := gb455) (o := .cells #[.int .i64 a0_0, .slice A0_1 l0_1.length c0_1, .int .i64 a0_2] 24 (0, 0)) (by (with_reducible repeat (first | refine blk_drewN ?_ _ | refine blk_drew ?_ | refine blk_alloc ?_ _)); exact BK455.out) hb); have n4_ := Aside0.mk (blk_below (g := gb468) (o := .cells #[.int .i64 t462, .slice Ao27 t463.length co27, .int .i64 t466] 24 (0, 0)) (by (with_reducible repeat (first | refine blk_drewN ?_ _ | refine blk_drew ?_ | refine blk_alloc ?_ _)); exact BK468.out) hb); have n5_ := Aside0.mk (blk_below (g := gb475) (o := .cells #[.int .i64 t469, .slice Ao33 t470.length co33, .int .i64 t473] 24 (0, 0)) (by (with_reducible repeat (first | refine blk_drewN ?_ _ | refine blk_drew ?_ | refine blk_alloc ?_ _)); exact BK475.out) hb); have n6_ := Aside0.mk (below_step (by repeat (first | (with_reducible first | exact HB.out | apply below_alloc | apply pw_below_drewN | apply below_drew1 | refine below_set ?_ GE455.out | refine below_set ?_ GE468.out | refine below_set ?_ GE475.out) | exact HB.out)) hb); clear HO_469001; clear HO_476001; clear BK455; clear BK468; clear BK475; clear HB; have HO_469001 := n0_; have HO_476001 := n1_; have HO480 := n2_; have BK455 := n3_; have BK468 := n4_; have BK475 := n5_; have HB := n6_; clear n0_ n1_ n2_ n3_ n4_ n5_ n6_; (try clear hb); (try clear hb2); (try clear hk); (try clear hi); (try clear ho0)) | ((with_reducible refine gate_dst (N := 13) rfl ?_); (try (refine gate_guard (by rfl) ?_; dsimp only)); refine box_event ?hg (N := 13) ?hd (cs := #[.int .i64 0, .slice none 0 0, .int .i64 0]) (t := 24) ?hr ?_; (case hd => rfl); (case hg => rfl); (case hr => first | (go_simp; done) | (go_simp; rfl)); intro gb483 hg w58 hbox hb; have n0_ := Aside0.mk (Kd.R_below (by (with_reducible repeat (first | apply Kd.R_alloc | apply Kd.R_drewN | apply Kd.R_drew)); exact HO_469001.out) hb); have n1_ := Aside0.mk (Kd.R_below (by (with_reducible repeat (first | apply Kd.R_alloc | apply Kd.R_drewN | apply Kd.R_drew)); exact HO_476001.out) hb); have n2_ := Aside0.mk (Kd.R_below (by (with_reducible repeat (first | apply Kd.R_alloc | apply Kd.R_drewN | apply Kd.R_drew)); exact HO480.out) hb); have n3_ := Aside0.mk (blk_below (g := gb455) (o := .cells #[.int .i64 a0_0, .slice A0_1 l0_1.length c0_1, .int .i64 a0_2] 24 (0, 0)) (by (with_reducible repeat (first | refine blk_drewN ?_ _ | refine blk_drew ?_ | refine blk_alloc ?_ _)); exact BK455.out) hb); have n4_ := Aside0.mk (blk_below (g := gb468) (o := .cells #[.int .i64 t462, .slice Ao27 t463.length co27, .int .i64 t466] 24 (0, 0)) (by (with_reducible repeat (first | refine blk_drewN ?_ _ | refine blk_drew ?_ | refine blk_alloc ?_ _)); exact BK468.out) hb); have n5_ := Aside0.mk (blk_below (g := gb475) (o := .cells #[.int .i64 t469, .slice Ao33 t470.length co33, .int .i64 t473] 24 (0, 0)) (by (with_reducible repeat (first | refine blk_drewN ?_ _ | refine blk_drew ?_ | refine blk_alloc ?_ _)); exact BK475.out) hb); have n6_ := Aside0.mk (below_step (by repeat (first | (with_reducible first | exact HB.out | apply below_alloc | apply pw_below_drewN | apply below_drew1 | refine below_set ?_ GE455.out | refine below_set ?_ GE468.out | refine below_set ?_ GE475.out) | exact HB.out)) hb); have n7_ := Aside0.mk (hbox); have n8_ := Aside0.mk ((by rw [hg]; exact (below_size (by repeat (first | (with_reducible first | exact HB.out | apply below_alloc | apply pw_below_drewN | apply below_drew1 | refine below_set ?_ GE455.out | refine below_set ?_ GE468.out | refine below_set ?_ GE475.out) | exact HB.out))) : w.heap.size ≤ gb483)); have n9_ := Aside0.mk ((by rw [hg]; exact (below_size (by repeat (first | (with_reducible first | exact HB.out | apply below_alloc | apply pw_below_drewN | apply below_drew1 | refine below_set ?_ GE455.out | refine below_set ?_ GE468.out | refine below_set ?_ GE475.out) | exact HB.out))) : w.heap.size ≤ gb483)); have n10_ := Aside0.mk ((by rw [hg]; exact Nat.ne_of_lt (blk_lt (g := gb455) (o := .cells #[.int .i64 a0_0, .slice A0_1 l0_1.length c0_1, .int .i64 a0_2] 24 (0, 0)) (by (with_reducible repeat (first | refine blk_drewN ?_ _ | refine blk_drew ?_ | refine blk_alloc ?_ _)); exact BK455.out)) : gb455 ≠ gb483)); have n11_ := Aside0.mk ((by rw [hg]; exact Nat.ne_of_gt (blk_lt (g := gb455) (o := .cells #[.int .i64 a0_0, .slice A0_1 l0_1.length c0_1, .int .i64 a0_2] 24 (0, 0)) (by (with_reducible repeat (first | refine blk_drewN ?_ _ | refine blk_drew ?_ | refine blk_alloc ?_ _)); exact BK455.out)) : gb483 ≠ gb455)); have n12_ := Aside0.mk ((by rw [hg]; exact Nat.ne_of_lt (blk_lt (g := gb468) (o := .cells #[.int .i64 t462, .slice Ao27 t463.length co27, .int .i64 t466] 24 (0, 0)) (by (with_reducible repeat (first | refine blk_drewN ?_ _ | refine blk_drew ?_ | refine blk_alloc ?_ _)); exact BK468.out)) : gb468 ≠ gb483)); have n13_ := Aside0.mk ((by rw [hg]; exact Nat.ne_of_gt (blk_lt (g := gb468) (o := .cells #[.int .i64 t462, .slice Ao27 t463.length co27, .int .i64 t466] 24 (0, 0)) (by (with_reducible repeat (first | refine blk_drewN ?_ _ | refine blk_drew ?_ | refine blk_alloc ?_ _)); exact BK468.out)) : gb483 ≠ gb468)); have n14_ := Aside0.mk ((by rw [hg]; exact Nat.ne_of_lt (blk_lt (g := gb475) (o := .cells #[.int .i64 t469, .slice Ao33 t470.length co33, .int .i64 t473] 24 (0, 0)) (by (with_reducible repeat (first | refine blk_drewN ?_ _ | refine blk_drew ?_ | refine blk_alloc ?_ _)); exact BK475.out)) : gb475 ≠ gb483)); have n15_ := Aside0.mk ((by rw [hg]; exact Nat.ne_of_gt (blk_lt (g := gb475) (o := .cells #[.int .i64 t469, .slice Ao33 t470.length co33, .int .i64 t473] 24 (0, 0)) (by (with_reducible repeat (first | refine blk_drewN ?_ _ | refine blk_drew ?_ | refine blk_alloc ?_ _)); exact BK475.out)) : gb483 ≠ gb475)); clear HO_469001; clear HO_476001; clear HO480; clear BK455; clear BK468; clear BK475; clear HB; have HO_469001 := n0_; have HO_476001 := n1_; have HO480 := n2_; have BK455 := n3_; have BK468 := n4_; have BK475 := n5_; have HB := n6_; have BK483 := n7_; have GW483 := n8_; have GE483 := n9_; have NB455_483 := n10_; have NB483_455 := n11_; have NB468_483 := n12_; have NB483_468 := n13_; have NB475_483 := n14_; have NB483_475 := n15_; clear n0_ n1_ n2_ n3_ n4_ n5_ n6_ n7_ n8_ n9_ n10_ n11_ n12_ n13_ n14_ n15_; clear hb hbox hg; have hnb59 := NB483_455.out; have hnc59 := NB455_483.out; have hnb60 := NB483_468.out; have hnc60 := NB468_483.out; have hnb61 := NB483_475.out; have hnc61 := NB475_483.out; have hcz62_0 : w58.cell? ⟨gb483, 0, none⟩ = some (.int .i64 0) := (blk_cell BK483.out 0).trans rfl; have hcz62_1 : w58.cell? ⟨gb483, 1, none⟩ = some (.slice none 0 0) := (blk_cell BK483.out 1).trans rfl; have hcz62_2 : w58.cell? ⟨gb483, 2, none⟩ = some (.int .i64 0) := (blk_cell BK483.out 2).trans rfl; have hfz62_0 := blk_frozen BK483.out 0; have hfz62_1 := blk_frozen BK483.out 1; have hfz62_2 := blk_frozen BK483.out 2; obtain ⟨Ao63, co63, eo63⟩ := Kd.R_slice HO480.out; subst eo63; have hnb64 := NB455_468.out; have hnc64 := NB468_455.out; have hnb65 := NB455_475.out; have hnc65 := NB475_455.out; have hcz66_0 : w58.cell? ⟨gb455, 0, none⟩ = some (.int .i64 a0_0) := (blk_cell BK455.out 0).trans rfl; have hcz66_1 : w58.cell? ⟨gb455, 1, none⟩ = some (.slice A0_1 l0_1.length c0_1) := (blk_cell BK455.out 1).trans rfl; have hcz66_2 : w58.cell? ⟨gb455, 2, none⟩ = some (.int .i64 a0_2) := (blk_cell BK455.out 2).trans rfl; have hfz66_0 := blk_frozen BK455.out 0; have hfz66_1 := blk_frozen BK455.out 1; have hfz66_2 := blk_frozen BK455.out 2) | ((with_reducible refine gate_callee (f := 20) rfl ?_); refine goesL_ (some 74) rfl rfl Tryd.func20 (by kernel_rfl) rfl #[.agg #[.int .i64 t477, .slice Ao63 t478.length co63, .int .i64 t481], .agg #[.int .i64 a0_0, .slice A0_1 l0_1.length c0_1, .int .i64 a0_2]] rfl (by (try simp only [List.map_toArray, List.map_cons, List.map_nil]); first | done | rfl | (simp only [List.length_drop, List.length_take]; rfl)) ?_; (with_reducible refine (samphireref20_Same.calls kj17 t477 _ _ t478 t481 a0_0 _ _ l0_1 a0_2 true _ ?side1 ?side2 ?side3 ?side4 A54.out).mono ?_); (case side1 => refine (Kd.R_reads' (e := 46) (base := w.heap.size) (ok := fun k_ => ((True ∧ some k_ ≠ (.slice Ao27 t463.length co27 : Value).ownBlock) ∧ some k_ ≠ (.slice Ao33 t470.length co33 : Value).ownBlock)) (n := t478.length) (c := co63) ?_).2.2; exact (by (with_reducible repeat (first | apply Kd.R_alloc | apply Kd.R_drewN | apply Kd.R_drew)); exact (Kd.R_mono (Kd.R_far (p := ⟨gb483, 2, none⟩) (Kd.R_far (p := ⟨gb483, 1, none⟩) (Kd.R_far (p := ⟨gb483, 0, none⟩) (Kd.R_types HO480.out BK483.out (by decide)) (fun _ hk => hk.2) (.int .i64 t477)) (fun _ hk => hk.2) (.slice Ao63 t478.length co63)) (fun _ hk => hk.2) (.int .i64 t481)) (fun _ h_ => h_.1)))); (case side2 => exact (Kd.R_reads' HO480.out).2.1); (case side3 => exact Kd.C_below HR0_1.out (by repeat (first | (with_reducible first | exact HB.out | apply below_alloc | apply pw_below_drewN | apply below_drew1 | refine below_set ?_ GE455.out | refine below_set ?_ GE468.out | refine below_set ?_ GE475.out | refine below_set ?_ GE483.out) | exact HB.out))); (case side4 => exact HC0_1.out); rintro e w67 ⟨rfl, hb⟩; refine ⟨_, rfl, ?_⟩; have n0_ := Aside0.mk (Kd.R_below (by (with_reducible repeat (first | apply Kd.R_alloc | apply Kd.R_drewN | apply Kd.R_drew)); exact (Kd.R_mono (Kd.R_far (p := ⟨gb483, 2, none⟩) (Kd.R_far (p := ⟨gb483, 1, none⟩) (Kd.R_far (p := ⟨gb483, 0, none⟩) (Kd.R_types HO_469001.out BK483.out (by decide)) (fun _ hk => hk.2) (.int .i64 t477)) (fun _ hk => hk.2) (.slice Ao63 t478.length co63)) (fun _ hk => hk.2) (.int .i64 t481)) (fun _ h_ => h_.1))) hb); have n1_ := Aside0.mk (Kd.R_below (by (with_reducible repeat (first | apply Kd.R_alloc | apply Kd.R_drewN | apply Kd.R_drew)); exact (Kd.R_mono (Kd.R_far (p := ⟨gb483, 2, none⟩) (Kd.R_far (p := ⟨gb483, 1, none⟩) (Kd.R_far (p := ⟨gb483, 0, none⟩) (Kd.R_types HO_476001.out BK483.out (by decide)) (fun _ hk => hk.2) (.int .i64 t477)) (fun _ hk => hk.2) (.slice Ao63 t478.length co63)) (fun _ hk => hk.2) (.int .i64 t481)) (fun _ h_ => h_.1))) hb); have n2_ := Aside0.mk (Kd.R_below (by (with_reducible repeat (first | apply Kd.R_alloc | apply Kd.R_drewN | apply Kd.R_drew)); exact (Kd.R_mono (Kd.R_far (p := ⟨gb483, 2, none⟩) (Kd.R_far (p := ⟨gb483, 1, none⟩) (Kd.R_far (p := ⟨gb483, 0, none⟩) (Kd.R_types HO480.out BK483.out (by decide)) (fun _ hk => hk.2) (.int .i64 t477)) (fun _ hk => hk.2) (.slice Ao63 t478.length co63)) (fun _ hk => hk.2) (.int .i64 t481)) (fun _ h_ => h_.1))) hb); have n3_ := Aside0.mk (blk_below (g := gb455) (o := .cells #[.int .i64 a0_0, .slice A0_1 l0_1.length c0_1, .int .i64 a0_2] 24 (0, 0)) (by (with_reducible repeat (first | refine blk_drewN ?_ _ | refine blk_drew ?_ | refine blk_alloc ?_ _)); refine blk_far ?_ NB455_483.out _; (with_reducible repeat (first | refine blk_drewN ?_ _ | refine blk_drew ?_ | refine blk_alloc ?_ _)); refine blk_far ?_ NB455_483.out _; (with_reducible repeat (first | refine blk_drewN ?_ _ | refine blk_drew ?_ | refine blk_alloc ?_ _)); refine blk_far ?_ NB455_483.out _; (with_reducible repeat (first | refine blk_drewN ?_ _ | refine blk_drew ?_ | refine blk_alloc ?_ _)); exact BK455.out) hb); have n4_ := Aside0.mk (blk_below (g := gb468) (o := .cells #[.int .i64 t462, .slice Ao27 t463.length co27, .int .i64 t466] 24 (0, 0)) (by (with_reducible repeat (first | refine blk_drewN ?_ _ | refine blk_drew ?_ | refine blk_alloc ?_ _)); refine blk_far ?_ NB468_483.out _; (with_reducible repeat (first | refine blk_drewN ?_ _ | refine blk_drew ?_ | refine blk_alloc ?_ _)); refine blk_far ?_ NB468_483.out _; (with_reducible repeat (first | refine blk_drewN ?_ _ | refine blk_drew ?_ | refine blk_alloc ?_ _)); refine blk_far ?_ NB468_483.out _; (with_reducible repeat (first | refine blk_drewN ?_ _ | refine blk_drew ?_ | refine blk_alloc ?_ _)); exact BK468.out) hb); have n5_ := Aside0.mk (blk_below (g := gb475) (o := .cells #[.int .i64 t469, .slice Ao33 t470.length co33, .int .i64 t473] 24 (0, 0)) (by (with_reducible repeat (first | refine blk_drewN ?_ _ | refine blk_drew ?_ | refine blk_alloc ?_ _)); refine blk_far ?_ NB475_483.out _; (with_reducible repeat (first | refine blk_drewN ?_ _ | refine blk_drew ?_ | refine blk_alloc ?_ _)); refine blk_far ?_ NB475_483.out _; (with_reducible repeat (first | refine blk_drewN ?_ _ | refine blk_drew ?_ | refine blk_alloc ?_ _)); refine blk_far ?_ NB475_483.out _; (with_reducible repeat (first | refine blk_drewN ?_ _ | refine blk_drew ?_ | refine blk_alloc ?_ _)); exact BK475.out) hb); have n6_ := Aside0.mk (blk_below (g := gb483) (o := .cells #[.int .i64 t477, .slice Ao63 t478.length co63, .int .i64 t481] 24 (0, 0)) (by (with_reducible repeat (first | refine blk_drewN ?_ _ | refine blk_drew ?_ | refine blk_alloc ?_ _)); refine blk_put (cs := #[.int .i64 t477, .slice Ao63 t478.length co63, .int .i64 0]) ?_ 2 _ rfl; (with_reducible repeat (first | refine blk_drewN ?_ _ | refine blk_drew ?_ | refine blk_alloc ?_ _)); refine blk_put (cs := #[.int .i64 t477, .slice none 0 0, .int .i64 0]) ?_ 1 _ rfl; (with_reducible repeat (first | refine blk_drewN ?_ _ | refine blk_drew ?_ | refine blk_alloc ?_ _)); refine blk_put (cs := #[.int .i64 0, .slice none 0 0, .int .i64 0]) ?_ 0 _ rfl; (with_reducible repeat (first | refine blk_drewN ?_ _ | refine blk_drew ?_ | refine blk_alloc ?_ _)); exact BK483.out) hb); have n7_ := Aside0.mk (below_step (by repeat (first | (with_reducible first | exact HB.out | apply below_alloc | apply pw_below_drewN | apply below_drew1 | refine below_set ?_ GE455.out | refine below_set ?_ GE468.out | refine below_set ?_ GE475.out | refine below_set ?_ GE483.out) | exact HB.out)) hb); clear HO_469001; clear HO_476001; clear HO480; clear BK455; clear BK468; clear BK475; clear BK483; clear HB; have HO_469001 := n0_; have HO_476001 := n1_; have HO480 := n2_; have BK455 := n3_; have BK468 := n4_; have BK475 := n5_; have BK483 := n6_; have HB := n7_; clear n0_ n1_ n2_ n3_ n4_ n5_ n6_ n7_; (try clear hb); (try clear hb2); (try clear hk); (try clear hi)))
                      go_meet
                      case rel => exact ⟨_, H', ⟨by have := HJ2.out; have := HJ17.out; first | omega | exact Nat.le_refl _⟩, ⟨by (with_reducible repeat (first | apply Kd.R_alloc | apply Kd.R_drewN | apply Kd.R_drew)); exact Kd.R_mono HO_469001.out (fun _ hk => hk.1)⟩, ⟨by (with_reducible repeat (first | apply Kd.R_alloc | apply Kd.R_drewN | apply Kd.R_drew)); exact Kd.R_mono HO_476001.out (fun _ hk => hk.1)⟩, ⟨by (with_reducible repeat (first | refine blk_drewN ?_ _ | refine blk_drew ?_ | refine blk_alloc ?_ _)); exact BK455.out⟩, ⟨by (with_reducible repeat (first | refine blk_drewN ?_ _ | refine blk_drew ?_ | refine blk_alloc ?_ _)); exact BK468.out⟩, ⟨by (with_reducible repeat (first | refine blk_drewN ?_ _ | refine blk_drew ?_ | refine blk_alloc ?_ _)); exact BK475.out⟩, ⟨by repeat (first | (with_reducible first | exact HB.out | apply below_alloc | apply pw_below_drewN | apply below_drew1 | refine below_set ?_ GE455.out | refine below_set ?_ GE468.out | refine below_set ?_ GE475.out | refine below_set ?_ GE483.out) | exact HB.out)⟩⟩
                    · rw [if_neg c56] at H
                      have c56b0 : (t482 == 0) = false := beq_eq_false_iff_ne.mpr c56
                      have c56b1 : (t482 != 0) = true := bne_iff_ne.mpr c56
                      obtain rfl := Option.some.inj H
                      go_wp2_with (first | ((with_reducible refine gate_callee (f := 29) rfl ?_); refine goesL_ (some 69) rfl rfl Tryd.func29 (by kernel_rfl) rfl #[.string t458] rfl (by (try simp only [List.map_toArray, List.map_cons, List.map_nil]); first | done | rfl | (simp only [List.length_drop, List.length_take]; rfl)) ?_; (with_reducible refine (group_Take.calls kj17 t458 t477 t478 t481 t482 _ A53.out).mono ?_); rintro e w68 ⟨v479, rfl, ho0, hb⟩; refine ⟨_, rfl, ?_⟩; have n0_ := Aside0.mk (Kd.R_elder' (by (with_reducible repeat (first | apply Kd.R_alloc | apply Kd.R_drewN | apply Kd.R_drew)); exact HO_469001.out) (Kd.R_base ho0) hb); have n1_ := Aside0.mk (Kd.R_elder' (by (with_reducible repeat (first | apply Kd.R_alloc | apply Kd.R_drewN | apply Kd.R_drew)); exact HO_476001.out) (Kd.R_base ho0) hb); have n2_ := Aside0.mk (Kd.R_lower (Kd.R_new' (Kd.R_new' ho0 (Kd.R_lt (by (with_reducible repeat (first | apply Kd.R_alloc | apply Kd.R_drewN | apply Kd.R_drew)); exact HO_469001.out))) (Kd.R_lt (by (with_reducible repeat (first | apply Kd.R_alloc | apply Kd.R_drewN | apply Kd.R_drew)); exact HO_476001.out))) (below_size (by repeat (first | (with_reducible first | exact HB.out | apply below_alloc | apply pw_below_drewN | apply below_drew1 | refine below_set ?_ GE455.out | refine below_set ?_ GE468.out | refine below_set ?_ GE475.out) | exact HB.out)))); have n3_ := Aside0.mk (blk_below (g := gb455) (o := .cells #[.int .i64 a0_0, .slice A0_1 l0_1.length c0_1, .int .i64 a0_2] 24 (0, 0)) (by (with_reducible repeat (first | refine blk_drewN ?_ _ | refine blk_drew ?_ | refine blk_alloc ?_ _)); exact BK455.out) hb); have n4_ := Aside0.mk (blk_below (g := gb468) (o := .cells #[.int .i64 t462, .slice Ao27 t463.length co27, .int .i64 t466] 24 (0, 0)) (by (with_reducible repeat (first | refine blk_drewN ?_ _ | refine blk_drew ?_ | refine blk_alloc ?_ _)); exact BK468.out) hb); have n5_ := Aside0.mk (blk_below (g := gb475) (o := .cells #[.int .i64 t469, .slice Ao33 t470.length co33, .int .i64 t473] 24 (0, 0)) (by (with_reducible repeat (first | refine blk_drewN ?_ _ | refine blk_drew ?_ | refine blk_alloc ?_ _)); exact BK475.out) hb); have n6_ := Aside0.mk (below_step (by repeat (first | (with_reducible first | exact HB.out | apply below_alloc | apply pw_below_drewN | apply below_drew1 | refine below_set ?_ GE455.out | refine below_set ?_ GE468.out | refine below_set ?_ GE475.out) | exact HB.out)) hb); clear HO_469001; clear HO_476001; clear BK455; clear BK468; clear BK475; clear HB; have HO_469001 := n0_; have HO_476001 := n1_; have HO480 := n2_; have BK455 := n3_; have BK468 := n4_; have BK475 := n5_; have HB := n6_; clear n0_ n1_ n2_ n3_ n4_ n5_ n6_; (try clear hb); (try clear hb2); (try clear hk); (try clear hi); (try clear ho0)) | ((with_reducible refine gate_dst (N := 13) rfl ?_); (try (refine gate_guard (by rfl) ?_; dsimp only)); refine box_event ?hg (N := 13) ?hd (cs := #[.int .i64 0, .slice none 0 0, .int .i64 0]) (t := 24) ?hr ?_; (case hd => rfl); (case hg => rfl); (case hr => first | (go_simp; done) | (go_simp; rfl)); intro gb483 hg w69 hbox hb; have n0_ := Aside0.mk (Kd.R_below (by (with_reducible repeat (first | apply Kd.R_alloc | apply Kd.R_drewN | apply Kd.R_drew)); exact HO_469001.out) hb); have n1_ := Aside0.mk (Kd.R_below (by (with_reducible repeat (first | apply Kd.R_alloc | apply Kd.R_drewN | apply Kd.R_drew)); exact HO_476001.out) hb); have n2_ := Aside0.mk (Kd.R_below (by (with_reducible repeat (first | apply Kd.R_alloc | apply Kd.R_drewN | apply Kd.R_drew)); exact HO480.out) hb); have n3_ := Aside0.mk (blk_below (g := gb455) (o := .cells #[.int .i64 a0_0, .slice A0_1 l0_1.length c0_1, .int .i64 a0_2] 24 (0, 0)) (by (with_reducible repeat (first | refine blk_drewN ?_ _ | refine blk_drew ?_ | refine blk_alloc ?_ _)); exact BK455.out) hb); have n4_ := Aside0.mk (blk_below (g := gb468) (o := .cells #[.int .i64 t462, .slice Ao27 t463.length co27, .int .i64 t466] 24 (0, 0)) (by (with_reducible repeat (first | refine blk_drewN ?_ _ | refine blk_drew ?_ | refine blk_alloc ?_ _)); exact BK468.out) hb); have n5_ := Aside0.mk (blk_below (g := gb475) (o := .cells #[.int .i64 t469, .slice Ao33 t470.length co33, .int .i64 t473] 24 (0, 0)) (by (with_reducible repeat (first | refine blk_drewN ?_ _ | refine blk_drew ?_ | refine blk_alloc ?_ _)); exact BK475.out) hb); have n6_ := Aside0.mk (below_step (by repeat (first | (with_reducible first | exact HB.out | apply below_alloc | apply pw_below_drewN | apply below_drew1 | refine below_set ?_ GE455.out | refine below_set ?_ GE468.out | refine below_set ?_ GE475.out) | exact HB.out)) hb); have n7_ := Aside0.mk (hbox); have n8_ := Aside0.mk ((by rw [hg]; exact (below_size (by repeat (first | (with_reducible first | exact HB.out | apply below_alloc | apply pw_below_drewN | apply below_drew1 | refine below_set ?_ GE455.out | refine below_set ?_ GE468.out | refine below_set ?_ GE475.out) | exact HB.out))) : w.heap.size ≤ gb483)); have n9_ := Aside0.mk ((by rw [hg]; exact (below_size (by repeat (first | (with_reducible first | exact HB.out | apply below_alloc | apply pw_below_drewN | apply below_drew1 | refine below_set ?_ GE455.out | refine below_set ?_ GE468.out | refine below_set ?_ GE475.out) | exact HB.out))) : w.heap.size ≤ gb483)); have n10_ := Aside0.mk ((by rw [hg]; exact Nat.ne_of_lt (blk_lt (g := gb455) (o := .cells #[.int .i64 a0_0, .slice A0_1 l0_1.length c0_1, .int .i64 a0_2] 24 (0, 0)) (by (with_reducible repeat (first | refine blk_drewN ?_ _ | refine blk_drew ?_ | refine blk_alloc ?_ _)); exact BK455.out)) : gb455 ≠ gb483)); have n11_ := Aside0.mk ((by rw [hg]; exact Nat.ne_of_gt (blk_lt (g := gb455) (o := .cells #[.int .i64 a0_0, .slice A0_1 l0_1.length c0_1, .int .i64 a0_2] 24 (0, 0)) (by (with_reducible repeat (first | refine blk_drewN ?_ _ | refine blk_drew ?_ | refine blk_alloc ?_ _)); exact BK455.out)) : gb483 ≠ gb455)); have n12_ := Aside0.mk ((by rw [hg]; exact Nat.ne_of_lt (blk_lt (g := gb468) (o := .cells #[.int .i64 t462, .slice Ao27 t463.length co27, .int .i64 t466] 24 (0, 0)) (by (with_reducible repeat (first | refine blk_drewN ?_ _ | refine blk_drew ?_ | refine blk_alloc ?_ _)); exact BK468.out)) : gb468 ≠ gb483)); have n13_ := Aside0.mk ((by rw [hg]; exact Nat.ne_of_gt (blk_lt (g := gb468) (o := .cells #[.int .i64 t462, .slice Ao27 t463.length co27, .int .i64 t466] 24 (0, 0)) (by (with_reducible repeat (first | refine blk_drewN ?_ _ | refine blk_drew ?_ | refine blk_alloc ?_ _)); exact BK468.out)) : gb483 ≠ gb468)); have n14_ := Aside0.mk ((by rw [hg]; exact Nat.ne_of_lt (blk_lt (g := gb475) (o := .cells #[.int .i64 t469, .slice Ao33 t470.length co33, .int .i64 t473] 24 (0, 0)) (by (with_reducible repeat (first | refine blk_drewN ?_ _ | refine blk_drew ?_ | refine blk_alloc ?_ _)); exact BK475.out)) : gb475 ≠ gb483)); have n15_ := Aside0.mk ((by rw [hg]; exact Nat.ne_of_gt (blk_lt (g := gb475) (o := .cells #[.int .i64 t469, .slice Ao33 t470.length co33, .int .i64 t473] 24 (0, 0)) (by (with_reducible repeat (first | refine blk_drewN ?_ _ | refine blk_drew ?_ | refine blk_alloc ?_ _)); exact BK475.out)) : gb483 ≠ gb475)); clear HO_469001; clear HO_476001; clear HO480; clear BK455; clear BK468; clear BK475; clear HB; have HO_469001 := n0_; have HO_476001 := n1_; have HO480 := n2_; have BK455 := n3_; have BK468 := n4_; have BK475 := n5_; have HB := n6_; have BK483 := n7_; have GW483 := n8_; have GE483 := n9_; have NB455_483 := n10_; have NB483_455 := n11_; have NB468_483 := n12_; have NB483_468 := n13_; have NB475_483 := n14_; have NB483_475 := n15_; clear n0_ n1_ n2_ n3_ n4_ n5_ n6_ n7_ n8_ n9_ n10_ n11_ n12_ n13_ n14_ n15_; clear hb hbox hg; have hnb70 := NB483_455.out; have hnc70 := NB455_483.out; have hnb71 := NB483_468.out; have hnc71 := NB468_483.out; have hnb72 := NB483_475.out; have hnc72 := NB475_483.out; have hcz73_0 : w69.cell? ⟨gb483, 0, none⟩ = some (.int .i64 0) := (blk_cell BK483.out 0).trans rfl; have hcz73_1 : w69.cell? ⟨gb483, 1, none⟩ = some (.slice none 0 0) := (blk_cell BK483.out 1).trans rfl; have hcz73_2 : w69.cell? ⟨gb483, 2, none⟩ = some (.int .i64 0) := (blk_cell BK483.out 2).trans rfl; have hfz73_0 := blk_frozen BK483.out 0; have hfz73_1 := blk_frozen BK483.out 1; have hfz73_2 := blk_frozen BK483.out 2; obtain ⟨Ao74, co74, eo74⟩ := Kd.R_slice HO480.out; subst eo74; have hnb75 := NB455_468.out; have hnc75 := NB468_455.out; have hnb76 := NB455_475.out; have hnc76 := NB475_455.out; have hcz77_0 : w69.cell? ⟨gb455, 0, none⟩ = some (.int .i64 a0_0) := (blk_cell BK455.out 0).trans rfl; have hcz77_1 : w69.cell? ⟨gb455, 1, none⟩ = some (.slice A0_1 l0_1.length c0_1) := (blk_cell BK455.out 1).trans rfl; have hcz77_2 : w69.cell? ⟨gb455, 2, none⟩ = some (.int .i64 a0_2) := (blk_cell BK455.out 2).trans rfl; have hfz77_0 := blk_frozen BK455.out 0; have hfz77_1 := blk_frozen BK455.out 1; have hfz77_2 := blk_frozen BK455.out 2) | ((with_reducible refine gate_callee (f := 20) rfl ?_); refine goesL_ (some 74) rfl rfl Tryd.func20 (by kernel_rfl) rfl #[.agg #[.int .i64 t477, .slice Ao74 t478.length co74, .int .i64 t481], .agg #[.int .i64 a0_0, .slice A0_1 l0_1.length c0_1, .int .i64 a0_2]] rfl (by (try simp only [List.map_toArray, List.map_cons, List.map_nil]); first | done | rfl | (simp only [List.length_drop, List.length_take]; rfl)) ?_; (with_reducible refine (samphireref20_Same.calls kj17 t477 _ _ t478 t481 a0_0 _ _ l0_1 a0_2 true _ ?side1 ?side2 ?side3 ?side4 A54.out).mono ?_); (case side1 => refine (Kd.R_reads' (e := 46) (base := w.heap.size) (ok := fun k_ => ((True ∧ some k_ ≠ (.slice Ao27 t463.length co27 : Value).ownBlock) ∧ some k_ ≠ (.slice Ao33 t470.length co33 : Value).ownBlock)) (n := t478.length) (c := co74) ?_).2.2; exact (by (with_reducible repeat (first | apply Kd.R_alloc | apply Kd.R_drewN | apply Kd.R_drew)); exact (Kd.R_mono (Kd.R_far (p := ⟨gb483, 2, none⟩) (Kd.R_far (p := ⟨gb483, 1, none⟩) (Kd.R_far (p := ⟨gb483, 0, none⟩) (Kd.R_types HO480.out BK483.out (by decide)) (fun _ hk => hk.2) (.int .i64 t477)) (fun _ hk => hk.2) (.slice Ao74 t478.length co74)) (fun _ hk => hk.2) (.int .i64 t481)) (fun _ h_ => h_.1)))); (case side2 => exact (Kd.R_reads' HO480.out).2.1); (case side3 => exact Kd.C_below HR0_1.out (by repeat (first | (with_reducible first | exact HB.out | apply below_alloc | apply pw_below_drewN | apply below_drew1 | refine below_set ?_ GE455.out | refine below_set ?_ GE468.out | refine below_set ?_ GE475.out | refine below_set ?_ GE483.out) | exact HB.out))); (case side4 => exact HC0_1.out); rintro e w78 ⟨rfl, hb⟩; refine ⟨_, rfl, ?_⟩; have n0_ := Aside0.mk (Kd.R_below (by (with_reducible repeat (first | apply Kd.R_alloc | apply Kd.R_drewN | apply Kd.R_drew)); exact (Kd.R_mono (Kd.R_far (p := ⟨gb483, 2, none⟩) (Kd.R_far (p := ⟨gb483, 1, none⟩) (Kd.R_far (p := ⟨gb483, 0, none⟩) (Kd.R_types HO_469001.out BK483.out (by decide)) (fun _ hk => hk.2) (.int .i64 t477)) (fun _ hk => hk.2) (.slice Ao74 t478.length co74)) (fun _ hk => hk.2) (.int .i64 t481)) (fun _ h_ => h_.1))) hb); have n1_ := Aside0.mk (Kd.R_below (by (with_reducible repeat (first | apply Kd.R_alloc | apply Kd.R_drewN | apply Kd.R_drew)); exact (Kd.R_mono (Kd.R_far (p := ⟨gb483, 2, none⟩) (Kd.R_far (p := ⟨gb483, 1, none⟩) (Kd.R_far (p := ⟨gb483, 0, none⟩) (Kd.R_types HO_476001.out BK483.out (by decide)) (fun _ hk => hk.2) (.int .i64 t477)) (fun _ hk => hk.2) (.slice Ao74 t478.length co74)) (fun _ hk => hk.2) (.int .i64 t481)) (fun _ h_ => h_.1))) hb); have n2_ := Aside0.mk (Kd.R_below (by (with_reducible repeat (first | apply Kd.R_alloc | apply Kd.R_drewN | apply Kd.R_drew)); exact (Kd.R_mono (Kd.R_far (p := ⟨gb483, 2, none⟩) (Kd.R_far (p := ⟨gb483, 1, none⟩) (Kd.R_far (p := ⟨gb483, 0, none⟩) (Kd.R_types HO480.out BK483.out (by decide)) (fun _ hk => hk.2) (.int .i64 t477)) (fun _ hk => hk.2) (.slice Ao74 t478.length co74)) (fun _ hk => hk.2) (.int .i64 t481)) (fun _ h_ => h_.1))) hb); have n3_ := Aside0.mk (blk_below (g := gb455) (o := .cells #[.int .i64 a0_0, .slice A0_1 l0_1.length c0_1, .int .i64 a0_2] 24 (0, 0)) (by (with_reducible repeat (first | refine blk_drewN ?_ _ | refine blk_drew ?_ | refine blk_alloc ?_ _)); refine blk_far ?_ NB455_483.out _; (with_reducible repeat (first | refine blk_drewN ?_ _ | refine blk_drew ?_ | refine blk_alloc ?_ _)); refine blk_far ?_ NB455_483.out _; (with_reducible repeat (first | refine blk_drewN ?_ _ | refine blk_drew ?_ | refine blk_alloc ?_ _)); refine blk_far ?_ NB455_483.out _; (with_reducible repeat (first | refine blk_drewN ?_ _ | refine blk_drew ?_ | refine blk_alloc ?_ _)); exact BK455.out) hb); have n4_ := Aside0.mk (blk_below (g := gb468) (o := .cells #[.int .i64 t462, .slice Ao27 t463.length co27, .int .i64 t466] 24 (0, 0)) (by (with_reducible repeat (first | refine blk_drewN ?_ _ | refine blk_drew ?_ | refine blk_alloc ?_ _)); refine blk_far ?_ NB468_483.out _; (with_reducible repeat (first | refine blk_drewN ?_ _ | refine blk_drew ?_ | refine blk_alloc ?_ _)); refine blk_far ?_ NB468_483.out _; (with_reducible repeat (first | refine blk_drewN ?_ _ | refine blk_drew ?_ | refine blk_alloc ?_ _)); refine blk_far ?_ NB468_483.out _; (with_reducible repeat (first | refine blk_drewN ?_ _ | refine blk_drew ?_ | refine blk_alloc ?_ _)); exact BK468.out) hb); have n5_ := Aside0.mk (blk_below (g := gb475) (o := .cells #[.int .i64 t469, .slice Ao33 t470.length co33, .int .i64 t473] 24 (0, 0)) (by (with_reducible repeat (first | refine blk_drewN ?_ _ | refine blk_drew ?_ | refine blk_alloc ?_ _)); refine blk_far ?_ NB475_483.out _; (with_reducible repeat (first | refine blk_drewN ?_ _ | refine blk_drew ?_ | refine blk_alloc ?_ _)); refine blk_far ?_ NB475_483.out _; (with_reducible repeat (first | refine blk_drewN ?_ _ | refine blk_drew ?_ | refine blk_alloc ?_ _)); refine blk_far ?_ NB475_483.out _; (with_reducible repeat (first | refine blk_drewN ?_ _ | refine blk_drew ?_ | refine blk_alloc ?_ _)); exact BK475.out) hb); have n6_ := Aside0.mk (blk_below (g := gb483) (o := .cells #[.int .i64 t477, .slice Ao74 t478.length co74, .int .i64 t481] 24 (0, 0)) (by (with_reducible repeat (first | refine blk_drewN ?_ _ | refine blk_drew ?_ | refine blk_alloc ?_ _)); refine blk_put (cs := #[.int .i64 t477, .slice Ao74 t478.length co74, .int .i64 0]) ?_ 2 _ rfl; (with_reducible repeat (first | refine blk_drewN ?_ _ | refine blk_drew ?_ | refine blk_alloc ?_ _)); refine blk_put (cs := #[.int .i64 t477, .slice none 0 0, .int .i64 0]) ?_ 1 _ rfl; (with_reducible repeat (first | refine blk_drewN ?_ _ | refine blk_drew ?_ | refine blk_alloc ?_ _)); refine blk_put (cs := #[.int .i64 0, .slice none 0 0, .int .i64 0]) ?_ 0 _ rfl; (with_reducible repeat (first | refine blk_drewN ?_ _ | refine blk_drew ?_ | refine blk_alloc ?_ _)); exact BK483.out) hb); have n7_ := Aside0.mk (below_step (by repeat (first | (with_reducible first | exact HB.out | apply below_alloc | apply pw_below_drewN | apply below_drew1 | refine below_set ?_ GE455.out | refine below_set ?_ GE468.out | refine below_set ?_ GE475.out | refine below_set ?_ GE483.out) | exact HB.out)) hb); clear HO_469001; clear HO_476001; clear HO480; clear BK455; clear BK468; clear BK475; clear BK483; clear HB; have HO_469001 := n0_; have HO_476001 := n1_; have HO480 := n2_; have BK455 := n3_; have BK468 := n4_; have BK475 := n5_; have BK483 := n6_; have HB := n7_; clear n0_ n1_ n2_ n3_ n4_ n5_ n6_ n7_; (try clear hb); (try clear hb2); (try clear hk); (try clear hi)))
                      go_ret
                      exact ⟨by first | rfl | (simp [errW_none, errW_some] <;> rfl) | (simp [*, errW_none, errW_some] <;> rfl), by repeat (first | (with_reducible first | exact HB.out | apply below_alloc | apply pw_below_drewN | apply below_drew1 | refine below_set ?_ GE455.out | refine below_set ?_ GE468.out | refine below_set ?_ GE475.out | refine below_set ?_ GE483.out) | exact HB.out)⟩
                  · replace c55 := Bool.eq_false_iff.mpr c55
                    subst c55
                    have H1 : (some false) = some r := by rw [if_neg (show ¬ (false = true) by decide)] at H; exact H
                    clear H
                    have H := H1
                    clear H1
                    obtain rfl := Option.some.inj H
                    go_wp2_with (first | ((with_reducible refine gate_callee (f := 29) rfl ?_); refine goesL_ (some 69) rfl rfl Tryd.func29 (by kernel_rfl) rfl #[.string t458] rfl (by (try simp only [List.map_toArray, List.map_cons, List.map_nil]); first | done | rfl | (simp only [List.length_drop, List.length_take]; rfl)) ?_; (with_reducible refine (group_Take.calls kj17 t458 t477 t478 t481 t482 _ A53.out).mono ?_); rintro e w79 ⟨v479, rfl, ho0, hb⟩; refine ⟨_, rfl, ?_⟩; have n0_ := Aside0.mk (Kd.R_elder' (by (with_reducible repeat (first | apply Kd.R_alloc | apply Kd.R_drewN | apply Kd.R_drew)); exact HO_469001.out) (Kd.R_base ho0) hb); have n1_ := Aside0.mk (Kd.R_elder' (by (with_reducible repeat (first | apply Kd.R_alloc | apply Kd.R_drewN | apply Kd.R_drew)); exact HO_476001.out) (Kd.R_base ho0) hb); have n2_ := Aside0.mk (Kd.R_lower (Kd.R_new' (Kd.R_new' ho0 (Kd.R_lt (by (with_reducible repeat (first | apply Kd.R_alloc | apply Kd.R_drewN | apply Kd.R_drew)); exact HO_469001.out))) (Kd.R_lt (by (with_reducible repeat (first | apply Kd.R_alloc | apply Kd.R_drewN | apply Kd.R_drew)); exact HO_476001.out))) (below_size (by repeat (first | (with_reducible first | exact HB.out | apply below_alloc | apply pw_below_drewN | apply below_drew1 | refine below_set ?_ GE455.out | refine below_set ?_ GE468.out | refine below_set ?_ GE475.out) | exact HB.out)))); have n3_ := Aside0.mk (blk_below (g := gb455) (o := .cells #[.int .i64 a0_0, .slice A0_1 l0_1.length c0_1, .int .i64 a0_2] 24 (0, 0)) (by (with_reducible repeat (first | refine blk_drewN ?_ _ | refine blk_drew ?_ | refine blk_alloc ?_ _)); exact BK455.out) hb); have n4_ := Aside0.mk (blk_below (g := gb468) (o := .cells #[.int .i64 t462, .slice Ao27 t463.length co27, .int .i64 t466] 24 (0, 0)) (by (with_reducible repeat (first | refine blk_drewN ?_ _ | refine blk_drew ?_ | refine blk_alloc ?_ _)); exact BK468.out) hb); have n5_ := Aside0.mk (blk_below (g := gb475) (o := .cells #[.int .i64 t469, .slice Ao33 t470.length co33, .int .i64 t473] 24 (0, 0)) (by (with_reducible repeat (first | refine blk_drewN ?_ _ | refine blk_drew ?_ | refine blk_alloc ?_ _)); exact BK475.out) hb); have n6_ := Aside0.mk (below_step (by repeat (first | (with_reducible first | exact HB.out | apply below_alloc | apply pw_below_drewN | apply below_drew1 | refine below_set ?_ GE455.out | refine below_set ?_ GE468.out | refine below_set ?_ GE475.out) | exact HB.out)) hb); clear HO_469001; clear HO_476001; clear BK455; clear BK468; clear BK475; clear HB; have HO_469001 := n0_; have HO_476001 := n1_; have HO480 := n2_; have BK455 := n3_; have BK468 := n4_; have BK475 := n5_; have HB := n6_; clear n0_ n1_ n2_ n3_ n4_ n5_ n6_; (try clear hb); (try clear hb2); (try clear hk); (try clear hi); (try clear ho0)) | ((with_reducible refine gate_dst (N := 13) rfl ?_); (try (refine gate_guard (by rfl) ?_; dsimp only)); refine box_event ?hg (N := 13) ?hd (cs := #[.int .i64 0, .slice none 0 0, .int .i64 0]) (t := 24) ?hr ?_; (case hd => rfl); (case hg => rfl); (case hr => first | (go_simp; done) | (go_simp; rfl)); intro gb483 hg w80 hbox hb; have n0_ := Aside0.mk (Kd.R_below (by (with_reducible repeat (first | apply Kd.R_alloc | apply Kd.R_drewN | apply Kd.R_drew)); exact HO_469001.out) hb); have n1_ := Aside0.mk (Kd.R_below (by (with_reducible repeat (first | apply Kd.R_alloc | apply Kd.R_drewN | apply Kd.R_drew)); exact HO_476001.out) hb); have n2_ := Aside0.mk (Kd.R_below (by (with_reducible repeat (first | apply Kd.R_alloc | apply Kd.R_drewN | apply Kd.R_drew)); exact HO480.out) hb); have n3_ := Aside0.mk (blk_below (g := gb455) (o := .cells #[.int .i64 a0_0, .slice A0_1 l0_1.length c0_1, .int .i64 a0_2] 24 (0, 0)) (by (with_reducible repeat (first | refine blk_drewN ?_ _ | refine blk_drew ?_ | refine blk_alloc ?_ _)); exact BK455.out) hb); have n4_ := Aside0.mk (blk_below (g := gb468) (o := .cells #[.int .i64 t462, .slice Ao27 t463.length co27, .int .i64 t466] 24 (0, 0)) (by (with_reducible repeat (first | refine blk_drewN ?_ _ | refine blk_drew ?_ | refine blk_alloc ?_ _)); exact BK468.out) hb); have n5_ := Aside0.mk (blk_below (g := gb475) (o := .cells #[.int .i64 t469, .slice Ao33 t470.length co33, .int .i64 t473] 24 (0, 0)) (by (with_reducible repeat (first | refine blk_drewN ?_ _ | refine blk_drew ?_ | refine blk_alloc ?_ _)); exact BK475.out) hb); have n6_ := Aside0.mk (below_step (by repeat (first | (with_reducible first | exact HB.out | apply below_alloc | apply pw_below_drewN | apply below_drew1 | refine below_set ?_ GE455.out | refine below_set ?_ GE468.out | refine below_set ?_ GE475.out) | exact HB.out)) hb); have n7_ := Aside0.mk (hbox); have n8_ := Aside0.mk ((by rw [hg]; exact (below_size (by repeat (first | (with_reducible first | exact HB.out | apply below_alloc | apply pw_below_drewN | apply below_drew1 | refine below_set ?_ GE455.out | refine below_set ?_ GE468.out | refine below_set ?_ GE475.out) | exact HB.out))) : w.heap.size ≤ gb483)); have n9_ := Aside0.mk ((by rw [hg]; exact (below_size (by repeat (first | (with_reducible first | exact HB.out | apply below_alloc | apply pw_below_drewN | apply below_drew1 | refine below_set ?_ GE455.out | refine below_set ?_ GE468.out | refine below_set ?_ GE475.out) | exact HB.out))) : w.heap.size ≤ gb483)); have n10_ := Aside0.mk ((by rw [hg]; exact Nat.ne_of_lt (blk_lt (g := gb455) (o := .cells #[.int .i64 a0_0, .slice A0_1 l0_1.length c0_1, .int .i64 a0_2] 24 (0, 0)) (by (with_reducible repeat (first | refine blk_drewN ?_ _ | refine blk_drew ?_ | refine blk_alloc ?_ _)); exact BK455.out)) : gb455 ≠ gb483)); have n11_ := Aside0.mk ((by rw [hg]; exact Nat.ne_of_gt (blk_lt (g := gb455) (o := .cells #[.int .i64 a0_0, .slice A0_1 l0_1.length c0_1, .int .i64 a0_2] 24 (0, 0)) (by (with_reducible repeat (first | refine blk_drewN ?_ _ | refine blk_drew ?_ | refine blk_alloc ?_ _)); exact BK455.out)) : gb483 ≠ gb455)); have n12_ := Aside0.mk ((by rw [hg]; exact Nat.ne_of_lt (blk_lt (g := gb468) (o := .cells #[.int .i64 t462, .slice Ao27 t463.length co27, .int .i64 t466] 24 (0, 0)) (by (with_reducible repeat (first | refine blk_drewN ?_ _ | refine blk_drew ?_ | refine blk_alloc ?_ _)); exact BK468.out)) : gb468 ≠ gb483)); have n13_ := Aside0.mk ((by rw [hg]; exact Nat.ne_of_gt (blk_lt (g := gb468) (o := .cells #[.int .i64 t462, .slice Ao27 t463.length co27, .int .i64 t466] 24 (0, 0)) (by (with_reducible repeat (first | refine blk_drewN ?_ _ | refine blk_drew ?_ | refine blk_alloc ?_ _)); exact BK468.out)) : gb483 ≠ gb468)); have n14_ := Aside0.mk ((by rw [hg]; exact Nat.ne_of_lt (blk_lt (g := gb475) (o := .cells #[.int .i64 t469, .slice Ao33 t470.length co33, .int .i64 t473] 24 (0, 0)) (by (with_reducible repeat (first | refine blk_drewN ?_ _ | refine blk_drew ?_ | refine blk_alloc ?_ _)); exact BK475.out)) : gb475 ≠ gb483)); have n15_ := Aside0.mk ((by rw [hg]; exact Nat.ne_of_gt (blk_lt (g := gb475) (o := .cells #[.int .i64 t469, .slice Ao33 t470.length co33, .int .i64 t473] 24 (0, 0)) (by (with_reducible repeat (first | refine blk_drewN ?_ _ | refine blk_drew ?_ | refine blk_alloc ?_ _)); exact BK475.out)) : gb483 ≠ gb475)); clear HO_469001; clear HO_476001; clear HO480; clear BK455; clear BK468; clear BK475; clear HB; have HO_469001 := n0_; have HO_476001 := n1_; have HO480 := n2_; have BK455 := n3_; have BK468 := n4_; have BK475 := n5_; have HB := n6_; have BK483 := n7_; have GW483 := n8_; have GE483 := n9_; have NB455_483 := n10_; have NB483_455 := n11_; have NB468_483 := n12_; have NB483_468 := n13_; have NB475_483 := n14_; have NB483_475 := n15_; clear n0_ n1_ n2_ n3_ n4_ n5_ n6_ n7_ n8_ n9_ n10_ n11_ n12_ n13_ n14_ n15_; clear hb hbox hg; have hnb81 := NB483_455.out; have hnc81 := NB455_483.out; have hnb82 := NB483_468.out; have hnc82 := NB468_483.out; have hnb83 := NB483_475.out; have hnc83 := NB475_483.out; have hcz84_0 : w80.cell? ⟨gb483, 0, none⟩ = some (.int .i64 0) := (blk_cell BK483.out 0).trans rfl; have hcz84_1 : w80.cell? ⟨gb483, 1, none⟩ = some (.slice none 0 0) := (blk_cell BK483.out 1).trans rfl; have hcz84_2 : w80.cell? ⟨gb483, 2, none⟩ = some (.int .i64 0) := (blk_cell BK483.out 2).trans rfl; have hfz84_0 := blk_frozen BK483.out 0; have hfz84_1 := blk_frozen BK483.out 1; have hfz84_2 := blk_frozen BK483.out 2; obtain ⟨Ao85, co85, eo85⟩ := Kd.R_slice HO480.out; subst eo85; have hnb86 := NB455_468.out; have hnc86 := NB468_455.out; have hnb87 := NB455_475.out; have hnc87 := NB475_455.out; have hcz88_0 : w80.cell? ⟨gb455, 0, none⟩ = some (.int .i64 a0_0) := (blk_cell BK455.out 0).trans rfl; have hcz88_1 : w80.cell? ⟨gb455, 1, none⟩ = some (.slice A0_1 l0_1.length c0_1) := (blk_cell BK455.out 1).trans rfl; have hcz88_2 : w80.cell? ⟨gb455, 2, none⟩ = some (.int .i64 a0_2) := (blk_cell BK455.out 2).trans rfl; have hfz88_0 := blk_frozen BK455.out 0; have hfz88_1 := blk_frozen BK455.out 1; have hfz88_2 := blk_frozen BK455.out 2) | ((with_reducible refine gate_callee (f := 20) rfl ?_); refine goesL_ (some 74) rfl rfl Tryd.func20 (by kernel_rfl) rfl #[.agg #[.int .i64 t477, .slice Ao85 t478.length co85, .int .i64 t481], .agg #[.int .i64 a0_0, .slice A0_1 l0_1.length c0_1, .int .i64 a0_2]] rfl (by (try simp only [List.map_toArray, List.map_cons, List.map_nil]); first | done | rfl | (simp only [List.length_drop, List.length_take]; rfl)) ?_; (with_reducible refine (samphireref20_Same.calls kj17 t477 _ _ t478 t481 a0_0 _ _ l0_1 a0_2 false _ ?side1 ?side2 ?side3 ?side4 A54.out).mono ?_); (case side1 => refine (Kd.R_reads' (e := 46) (base := w.heap.size) (ok := fun k_ => ((True ∧ some k_ ≠ (.slice Ao27 t463.length co27 : Value).ownBlock) ∧ some k_ ≠ (.slice Ao33 t470.length co33 : Value).ownBlock)) (n := t478.length) (c := co85) ?_).2.2; exact (by (with_reducible repeat (first | apply Kd.R_alloc | apply Kd.R_drewN | apply Kd.R_drew)); exact (Kd.R_mono (Kd.R_far (p := ⟨gb483, 2, none⟩) (Kd.R_far (p := ⟨gb483, 1, none⟩) (Kd.R_far (p := ⟨gb483, 0, none⟩) (Kd.R_types HO480.out BK483.out (by decide)) (fun _ hk => hk.2) (.int .i64 t477)) (fun _ hk => hk.2) (.slice Ao85 t478.length co85)) (fun _ hk => hk.2) (.int .i64 t481)) (fun _ h_ => h_.1)))); (case side2 => exact (Kd.R_reads' HO480.out).2.1); (case side3 => exact Kd.C_below HR0_1.out (by repeat (first | (with_reducible first | exact HB.out | apply below_alloc | apply pw_below_drewN | apply below_drew1 | refine below_set ?_ GE455.out | refine below_set ?_ GE468.out | refine below_set ?_ GE475.out | refine below_set ?_ GE483.out) | exact HB.out))); (case side4 => exact HC0_1.out); rintro e w89 ⟨rfl, hb⟩; refine ⟨_, rfl, ?_⟩; have n0_ := Aside0.mk (Kd.R_below (by (with_reducible repeat (first | apply Kd.R_alloc | apply Kd.R_drewN | apply Kd.R_drew)); exact (Kd.R_mono (Kd.R_far (p := ⟨gb483, 2, none⟩) (Kd.R_far (p := ⟨gb483, 1, none⟩) (Kd.R_far (p := ⟨gb483, 0, none⟩) (Kd.R_types HO_469001.out BK483.out (by decide)) (fun _ hk => hk.2) (.int .i64 t477)) (fun _ hk => hk.2) (.slice Ao85 t478.length co85)) (fun _ hk => hk.2) (.int .i64 t481)) (fun _ h_ => h_.1))) hb); have n1_ := Aside0.mk (Kd.R_below (by (with_reducible repeat (first | apply Kd.R_alloc | apply Kd.R_drewN | apply Kd.R_drew)); exact (Kd.R_mono (Kd.R_far (p := ⟨gb483, 2, none⟩) (Kd.R_far (p := ⟨gb483, 1, none⟩) (Kd.R_far (p := ⟨gb483, 0, none⟩) (Kd.R_types HO_476001.out BK483.out (by decide)) (fun _ hk => hk.2) (.int .i64 t477)) (fun _ hk => hk.2) (.slice Ao85 t478.length co85)) (fun _ hk => hk.2) (.int .i64 t481)) (fun _ h_ => h_.1))) hb); have n2_ := Aside0.mk (Kd.R_below (by (with_reducible repeat (first | apply Kd.R_alloc | apply Kd.R_drewN | apply Kd.R_drew)); exact (Kd.R_mono (Kd.R_far (p := ⟨gb483, 2, none⟩) (Kd.R_far (p := ⟨gb483, 1, none⟩) (Kd.R_far (p := ⟨gb483, 0, none⟩) (Kd.R_types HO480.out BK483.out (by decide)) (fun _ hk => hk.2) (.int .i64 t477)) (fun _ hk => hk.2) (.slice Ao85 t478.length co85)) (fun _ hk => hk.2) (.int .i64 t481)) (fun _ h_ => h_.1))) hb); have n3_ := Aside0.mk (blk_below (g := gb455) (o := .cells #[.int .i64 a0_0, .slice A0_1 l0_1.length c0_1, .int .i64 a0_2] 24 (0, 0)) (by (with_reducible repeat (first | refine blk_drewN ?_ _ | refine blk_drew ?_ | refine blk_alloc ?_ _)); refine blk_far ?_ NB455_483.out _; (with_reducible repeat (first | refine blk_drewN ?_ _ | refine blk_drew ?_ | refine blk_alloc ?_ _)); refine blk_far ?_ NB455_483.out _; (with_reducible repeat (first | refine blk_drewN ?_ _ | refine blk_drew ?_ | refine blk_alloc ?_ _)); refine blk_far ?_ NB455_483.out _; (with_reducible repeat (first | refine blk_drewN ?_ _ | refine blk_drew ?_ | refine blk_alloc ?_ _)); exact BK455.out) hb); have n4_ := Aside0.mk (blk_below (g := gb468) (o := .cells #[.int .i64 t462, .slice Ao27 t463.length co27, .int .i64 t466] 24 (0, 0)) (by (with_reducible repeat (first | refine blk_drewN ?_ _ | refine blk_drew ?_ | refine blk_alloc ?_ _)); refine blk_far ?_ NB468_483.out _; (with_reducible repeat (first | refine blk_drewN ?_ _ | refine blk_drew ?_ | refine blk_alloc ?_ _)); refine blk_far ?_ NB468_483.out _; (with_reducible repeat (first | refine blk_drewN ?_ _ | refine blk_drew ?_ | refine blk_alloc ?_ _)); refine blk_far ?_ NB468_483.out _; (with_reducible repeat (first | refine blk_drewN ?_ _ | refine blk_drew ?_ | refine blk_alloc ?_ _)); exact BK468.out) hb); have n5_ := Aside0.mk (blk_below (g := gb475) (o := .cells #[.int .i64 t469, .slice Ao33 t470.length co33, .int .i64 t473] 24 (0, 0)) (by (with_reducible repeat (first | refine blk_drewN ?_ _ | refine blk_drew ?_ | refine blk_alloc ?_ _)); refine blk_far ?_ NB475_483.out _; (with_reducible repeat (first | refine blk_drewN ?_ _ | refine blk_drew ?_ | refine blk_alloc ?_ _)); refine blk_far ?_ NB475_483.out _; (with_reducible repeat (first | refine blk_drewN ?_ _ | refine blk_drew ?_ | refine blk_alloc ?_ _)); refine blk_far ?_ NB475_483.out _; (with_reducible repeat (first | refine blk_drewN ?_ _ | refine blk_drew ?_ | refine blk_alloc ?_ _)); exact BK475.out) hb); have n6_ := Aside0.mk (blk_below (g := gb483) (o := .cells #[.int .i64 t477, .slice Ao85 t478.length co85, .int .i64 t481] 24 (0, 0)) (by (with_reducible repeat (first | refine blk_drewN ?_ _ | refine blk_drew ?_ | refine blk_alloc ?_ _)); refine blk_put (cs := #[.int .i64 t477, .slice Ao85 t478.length co85, .int .i64 0]) ?_ 2 _ rfl; (with_reducible repeat (first | refine blk_drewN ?_ _ | refine blk_drew ?_ | refine blk_alloc ?_ _)); refine blk_put (cs := #[.int .i64 t477, .slice none 0 0, .int .i64 0]) ?_ 1 _ rfl; (with_reducible repeat (first | refine blk_drewN ?_ _ | refine blk_drew ?_ | refine blk_alloc ?_ _)); refine blk_put (cs := #[.int .i64 0, .slice none 0 0, .int .i64 0]) ?_ 0 _ rfl; (with_reducible repeat (first | refine blk_drewN ?_ _ | refine blk_drew ?_ | refine blk_alloc ?_ _)); exact BK483.out) hb); have n7_ := Aside0.mk (below_step (by repeat (first | (with_reducible first | exact HB.out | apply below_alloc | apply pw_below_drewN | apply below_drew1 | refine below_set ?_ GE455.out | refine below_set ?_ GE468.out | refine below_set ?_ GE475.out | refine below_set ?_ GE483.out) | exact HB.out)) hb); clear HO_469001; clear HO_476001; clear HO480; clear BK455; clear BK468; clear BK475; clear BK483; clear HB; have HO_469001 := n0_; have HO_476001 := n1_; have HO480 := n2_; have BK455 := n3_; have BK468 := n4_; have BK475 := n5_; have BK483 := n6_; have HB := n7_; clear n0_ n1_ n2_ n3_ n4_ n5_ n6_ n7_; (try clear hb); (try clear hb2); (try clear hk); (try clear hi)))
                    go_ret
                    exact ⟨by first | rfl | (simp [errW_none, errW_some] <;> rfl) | (simp [*, errW_none, errW_some] <;> rfl), by repeat (first | (with_reducible first | exact HB.out | apply below_alloc | apply pw_below_drewN | apply below_drew1 | refine below_set ?_ GE455.out | refine below_set ?_ GE468.out | refine below_set ?_ GE475.out | refine below_set ?_ GE483.out) | exact HB.out)⟩
                · rw [if_neg c52] at H
                  have c52b0 : (t459 == 0) = false := beq_eq_false_iff_ne.mpr c52
                  have c52b1 : (t459 != 0) = true := bne_iff_ne.mpr c52
                  (first | rw [c52b0] | (simp only [i64_w, i32_w]; rw [c52b0]) | skip)
                  have H' := Aside0.mk H
                  clear H
                  go_wp2
                  go_meet
                  case rel => exact ⟨_, H', ⟨by have := HJ2.out; have := HJ17.out; first | omega | exact Nat.le_refl _⟩, ⟨by (with_reducible repeat (first | apply Kd.R_alloc | apply Kd.R_drewN | apply Kd.R_drew)); exact HO_469001.out⟩, ⟨by (with_reducible repeat (first | apply Kd.R_alloc | apply Kd.R_drewN | apply Kd.R_drew)); exact HO_476001.out⟩, ⟨by (with_reducible repeat (first | refine blk_drewN ?_ _ | refine blk_drew ?_ | refine blk_alloc ?_ _)); exact BK455.out⟩, ⟨by (with_reducible repeat (first | refine blk_drewN ?_ _ | refine blk_drew ?_ | refine blk_alloc ?_ _)); exact BK468.out⟩, ⟨by (with_reducible repeat (first | refine blk_drewN ?_ _ | refine blk_drew ?_ | refine blk_alloc ?_ _)); exact BK475.out⟩, ⟨by repeat (first | (with_reducible first | exact HB.out | apply below_alloc | apply pw_below_drewN | apply below_drew1 | refine below_set ?_ GE455.out | refine below_set ?_ GE468.out | refine below_set ?_ GE475.out) | exact HB.out)⟩⟩
              case rest =>
                clear HC51
                try clear c1
                try clear c2
                try clear p2
                try clear c3
                try clear c4
                try clear c5
                try clear c6
                try clear c7
                try clear c8
                try clear c11
                try clear c15
                try clear c17
                try clear c20
                try clear c25
                try clear c27
                try clear c28
                try clear c29
                try clear c30
                try clear c31
                try clear c34
                try clear c34b0
                try clear c34b1
                try clear c35
                try clear c35b0
                try clear c35b1
                try clear c37
                try clear c38
                try clear c39
                try clear c41
                try clear c44
                try clear c45
                try clear c47
                try clear c50
                try clear c52
                try clear c52b0
                try clear c52b1
                try clear c55
                try clear c56
                try clear c56b0
                try clear c56b1
                try clear c59
                try clear c60
                try clear c61
                try clear c64
                try clear c65
                try clear c70
                try clear c71
                try clear c72
                try clear c75
                try clear c76
                try clear c81
                try clear c82
                try clear c83
                try clear c86
                try clear c87
                try clear hcz19_0
                try clear hcz19_1
                try clear hcz19_2
                try clear hcz21_0
                try clear hcz21_1
                try clear hcz21_2
                try clear hcz26_0
                try clear hcz26_1
                try clear hcz26_2
                try clear hcz32_0
                try clear hcz32_1
                try clear hcz32_2
                try clear hcz40_0
                try clear hcz40_1
                try clear hcz40_2
                try clear hcz42_0
                try clear hcz42_1
                try clear hcz42_2
                try clear hcz46_0
                try clear hcz46_1
                try clear hcz46_2
                try clear hcz48_0
                try clear hcz48_1
                try clear hcz48_2
                try clear hcz62_0
                try clear hcz62_1
                try clear hcz62_2
                try clear hcz66_0
                try clear hcz66_1
                try clear hcz66_2
                try clear hcz73_0
                try clear hcz73_1
                try clear hcz73_2
                try clear hcz77_0
                try clear hcz77_1
                try clear hcz77_2
                try clear hcz7_0
                try clear hcz7_1
                try clear hcz7_2
                try clear hcz84_0
                try clear hcz84_1
                try clear hcz84_2
                try clear hcz88_0
                try clear hcz88_1
                try clear hcz88_2
                try clear hcz9_0
                try clear hcz9_1
                try clear hcz9_2
                try clear hfz19_0
                try clear hfz19_1
                try clear hfz19_2
                try clear hfz21_0
                try clear hfz21_1
                try clear hfz21_2
                try clear hfz26_0
                try clear hfz26_1
                try clear hfz26_2
                try clear hfz32_0
                try clear hfz32_1
                try clear hfz32_2
                try clear hfz40_0
                try clear hfz40_1
                try clear hfz40_2
                try clear hfz42_0
                try clear hfz42_1
                try clear hfz42_2
                try clear hfz46_0
                try clear hfz46_1
                try clear hfz46_2
                try clear hfz48_0
                try clear hfz48_1
                try clear hfz48_2
                try clear hfz62_0
                try clear hfz62_1
                try clear hfz62_2
                try clear hfz66_0
                try clear hfz66_1
                try clear hfz66_2
                try clear hfz73_0
                try clear hfz73_1
                try clear hfz73_2
                try clear hfz77_0
                try clear hfz77_1
                try clear hfz77_2
                try clear hfz7_0
                try clear hfz7_1
                try clear hfz7_2
                try clear hfz84_0
                try clear hfz84_1
                try clear hfz84_2
                try clear hfz88_0
                try clear hfz88_1
                try clear hfz88_2
                try clear hfz9_0
                try clear hfz9_1
                try clear hfz9_2
                try clear p2
                obtain ⟨kq, HA, HJ50, HO_469001, HO_476001, BK455, BK468, BK475, HB⟩ := hcut
                cases kq with
                | zero => exact absurd HA.out (by simp [samphirelaw20_GroupBytes.j2])
                | succ kj50 =>
                  have H := HA.out
                  clear HA
                  simp only [samphirelaw20_GroupBytes.j2] at H
                  by_cases c90 : t467 = 0
                  · rw [if_pos c90] at H
                    have c90b0 : (t467 == 0) = true := beq_iff_eq.mpr c90
                    have c90b1 : (t467 != 0) = false := bne_eq_false_iff_eq.mpr c90
                    clear c90
                    replace H := Option.bind_eq_some_iff.mp H
                    obtain ⟨⟨t485, t486⟩, A910, H⟩ := H
                    replace H : (if t485.toList = a1.toList then (if t486 = 0 then ((samphirelaw20_awake.f).bind fun t487 => (some t487)) else (some false)) else (some false)) = some r := H
                    have A91 := Aside0.mk A910
                    clear A910
                    by_cases c92 : t485.toList = a1.toList
                    · rw [if_pos c92] at H
                      have c92b0 : (t485.toList == a1.toList) = true := beq_iff_eq.mpr c92
                      have c92b1 : (t485.toList != a1.toList) = false := bne_eq_false_iff_eq.mpr c92
                      clear c92
                      by_cases c93 : t486 = 0
                      · rw [if_pos c93] at H
                        have c93b0 : (t486 == 0) = true := beq_iff_eq.mpr c93
                        have c93b1 : (t486 != 0) = false := bne_eq_false_iff_eq.mpr c93
                        clear c93
                        replace H := Option.bind_eq_some_iff.mp H
                        obtain ⟨t487, A940, H⟩ := H
                        replace H : (some t487) = some r := H
                        have A94 := Aside0.mk A940
                        clear A940
                        obtain rfl := Option.some.inj H
                        have hnb95 := NB468_455.out
                        have hnc95 := NB455_468.out
                        have hnb96 := NB468_475.out
                        have hnc96 := NB475_468.out
                        have hcz97_0 : wc.cell? ⟨gb468, 0, none⟩ = some (.int .i64 t462) := (blk_cell BK468.out 0).trans rfl
                        have hcz97_1 : wc.cell? ⟨gb468, 1, none⟩ = some (.slice Ao27 t463.length co27) := (blk_cell BK468.out 1).trans rfl
                        have hcz97_2 : wc.cell? ⟨gb468, 2, none⟩ = some (.int .i64 t466) := (blk_cell BK468.out 2).trans rfl
                        have hfz97_0 := blk_frozen BK468.out 0
                        have hfz97_1 := blk_frozen BK468.out 1
                        have hfz97_2 := blk_frozen BK468.out 2
                        go_wp2_with (first | ((with_reducible refine gate_callee (f := 27) rfl ?_); refine goesL_ (some 84) rfl rfl Tryd.func27 (by kernel_rfl) rfl #[.agg #[.int .i64 t462, .slice Ao27 t463.length co27, .int .i64 t466]] rfl (by (try simp only [List.map_toArray, List.map_cons, List.map_nil]); first | done | rfl | (simp only [List.length_drop, List.length_take]; rfl)) ?_; (with_reducible refine (group_Put.calls kj50 t462 _ _ t463 t466 t485 t486 _ ?side1 ?side2 A91.out).mono ?_); (case side1 => repeat (first | exact (Kd.R_reads' HO_469001.out).2.2 | (with_reducible refine Kd.C_alloc ?_ _) | (with_reducible refine Kd.C_drewN ?_ _) | (with_reducible refine Kd.C_drew ?_))); (case side2 => exact (Kd.R_reads' HO_469001.out).2.1); rintro e w98 ⟨rfl, hb⟩; refine ⟨_, rfl, ?_⟩; have n0_ := Aside0.mk (Kd.R_below (by (with_reducible repeat (first | apply Kd.R_alloc | apply Kd.R_drewN | apply Kd.R_drew)); exact HO_469001.out) hb); have n1_ := Aside0.mk (Kd.R_below (by (with_reducible repeat (first | apply Kd.R_alloc | apply Kd.R_drewN | apply Kd.R_drew)); exact HO_476001.out) hb); have n2_ := Aside0.mk (blk_below (g := gb455) (o := .cells #[.int .i64 a0_0, .slice A0_1 l0_1.length c0_1, .int .i64 a0_2] 24 (0, 0)) (by (with_reducible repeat (first | refine blk_drewN ?_ _ | refine blk_drew ?_ | refine blk_alloc ?_ _)); exact BK455.out) hb); have n3_ := Aside0.mk (blk_below (g := gb468) (o := .cells #[.int .i64 t462, .slice Ao27 t463.length co27, .int .i64 t466] 24 (0, 0)) (by (with_reducible repeat (first | refine blk_drewN ?_ _ | refine blk_drew ?_ | refine blk_alloc ?_ _)); exact BK468.out) hb); have n4_ := Aside0.mk (blk_below (g := gb475) (o := .cells #[.int .i64 t469, .slice Ao33 t470.length co33, .int .i64 t473] 24 (0, 0)) (by (with_reducible repeat (first | refine blk_drewN ?_ _ | refine blk_drew ?_ | refine blk_alloc ?_ _)); exact BK475.out) hb); have n5_ := Aside0.mk (below_step (by repeat (first | (with_reducible first | exact HB.out | apply below_alloc | apply pw_below_drewN | apply below_drew1 | refine below_set ?_ GE455.out | refine below_set ?_ GE468.out | refine below_set ?_ GE475.out) | exact HB.out)) hb); clear HO_469001; clear HO_476001; clear BK455; clear BK468; clear BK475; clear HB; have HO_469001 := n0_; have HO_476001 := n1_; have BK455 := n2_; have BK468 := n3_; have BK475 := n4_; have HB := n5_; clear n0_ n1_ n2_ n3_ n4_ n5_; (try clear hb); (try clear hb2); (try clear hk); (try clear hi)) | ((with_reducible refine gate_callee (f := 17) rfl ?_); refine goesL_ (some 94) rfl rfl Tryd.func17 (by kernel_rfl) rfl #[] rfl (by (try simp only [List.map_toArray, List.map_cons, List.map_nil]); first | done | rfl | (simp only [List.length_drop, List.length_take]; rfl)) ?_; (with_reducible refine (samphirelaw20_awake.calls  t487 _ A94.out).mono ?_); rintro e w99 ⟨rfl, hb⟩; refine ⟨_, rfl, ?_⟩; have n0_ := Aside0.mk (Kd.R_below (by (with_reducible repeat (first | apply Kd.R_alloc | apply Kd.R_drewN | apply Kd.R_drew)); exact HO_469001.out) hb); have n1_ := Aside0.mk (Kd.R_below (by (with_reducible repeat (first | apply Kd.R_alloc | apply Kd.R_drewN | apply Kd.R_drew)); exact HO_476001.out) hb); have n2_ := Aside0.mk (blk_below (g := gb455) (o := .cells #[.int .i64 a0_0, .slice A0_1 l0_1.length c0_1, .int .i64 a0_2] 24 (0, 0)) (by (with_reducible repeat (first | refine blk_drewN ?_ _ | refine blk_drew ?_ | refine blk_alloc ?_ _)); exact BK455.out) hb); have n3_ := Aside0.mk (blk_below (g := gb468) (o := .cells #[.int .i64 t462, .slice Ao27 t463.length co27, .int .i64 t466] 24 (0, 0)) (by (with_reducible repeat (first | refine blk_drewN ?_ _ | refine blk_drew ?_ | refine blk_alloc ?_ _)); exact BK468.out) hb); have n4_ := Aside0.mk (blk_below (g := gb475) (o := .cells #[.int .i64 t469, .slice Ao33 t470.length co33, .int .i64 t473] 24 (0, 0)) (by (with_reducible repeat (first | refine blk_drewN ?_ _ | refine blk_drew ?_ | refine blk_alloc ?_ _)); exact BK475.out) hb); have n5_ := Aside0.mk (below_step (by repeat (first | (with_reducible first | exact HB.out | apply below_alloc | apply pw_below_drewN | apply below_drew1 | refine below_set ?_ GE455.out | refine below_set ?_ GE468.out | refine below_set ?_ GE475.out) | exact HB.out)) hb); clear HO_469001; clear HO_476001; clear BK455; clear BK468; clear BK475; clear HB; have HO_469001 := n0_; have HO_476001 := n1_; have BK455 := n2_; have BK468 := n3_; have BK475 := n4_; have HB := n5_; clear n0_ n1_ n2_ n3_ n4_ n5_; (try clear hb); (try clear hb2); (try clear hk); (try clear hi)))
                        go_ret
                        exact ⟨by first | rfl | (simp [errW_none, errW_some] <;> rfl) | (simp [*, errW_none, errW_some] <;> rfl), by repeat (first | (with_reducible first | exact HB.out | apply below_alloc | apply pw_below_drewN | apply below_drew1 | refine below_set ?_ GE455.out | refine below_set ?_ GE468.out | refine below_set ?_ GE475.out) | exact HB.out)⟩
                      · rw [if_neg c93] at H
                        have c93b0 : (t486 == 0) = false := beq_eq_false_iff_ne.mpr c93
                        have c93b1 : (t486 != 0) = true := bne_iff_ne.mpr c93
                        obtain rfl := Option.some.inj H
                        have hnb100 := NB468_455.out
                        have hnc100 := NB455_468.out
                        have hnb101 := NB468_475.out
                        have hnc101 := NB475_468.out
                        have hcz102_0 : wc.cell? ⟨gb468, 0, none⟩ = some (.int .i64 t462) := (blk_cell BK468.out 0).trans rfl
                        have hcz102_1 : wc.cell? ⟨gb468, 1, none⟩ = some (.slice Ao27 t463.length co27) := (blk_cell BK468.out 1).trans rfl
                        have hcz102_2 : wc.cell? ⟨gb468, 2, none⟩ = some (.int .i64 t466) := (blk_cell BK468.out 2).trans rfl
                        have hfz102_0 := blk_frozen BK468.out 0
                        have hfz102_1 := blk_frozen BK468.out 1
                        have hfz102_2 := blk_frozen BK468.out 2
                        go_wp2_with (first | ((with_reducible refine gate_callee (f := 27) rfl ?_); refine goesL_ (some 84) rfl rfl Tryd.func27 (by kernel_rfl) rfl #[.agg #[.int .i64 t462, .slice Ao27 t463.length co27, .int .i64 t466]] rfl (by (try simp only [List.map_toArray, List.map_cons, List.map_nil]); first | done | rfl | (simp only [List.length_drop, List.length_take]; rfl)) ?_; (with_reducible refine (group_Put.calls kj50 t462 _ _ t463 t466 t485 t486 _ ?side1 ?side2 A91.out).mono ?_); (case side1 => repeat (first | exact (Kd.R_reads' HO_469001.out).2.2 | (with_reducible refine Kd.C_alloc ?_ _) | (with_reducible refine Kd.C_drewN ?_ _) | (with_reducible refine Kd.C_drew ?_))); (case side2 => exact (Kd.R_reads' HO_469001.out).2.1); rintro e w103 ⟨rfl, hb⟩; refine ⟨_, rfl, ?_⟩; have n0_ := Aside0.mk (Kd.R_below (by (with_reducible repeat (first | apply Kd.R_alloc | apply Kd.R_drewN | apply Kd.R_drew)); exact HO_469001.out) hb); have n1_ := Aside0.mk (Kd.R_below (by (with_reducible repeat (first | apply Kd.R_alloc | apply Kd.R_drewN | apply Kd.R_drew)); exact HO_476001.out) hb); have n2_ := Aside0.mk (blk_below (g := gb455) (o := .cells #[.int .i64 a0_0, .slice A0_1 l0_1.length c0_1, .int .i64 a0_2] 24 (0, 0)) (by (with_reducible repeat (first | refine blk_drewN ?_ _ | refine blk_drew ?_ | refine blk_alloc ?_ _)); exact BK455.out) hb); have n3_ := Aside0.mk (blk_below (g := gb468) (o := .cells #[.int .i64 t462, .slice Ao27 t463.length co27, .int .i64 t466] 24 (0, 0)) (by (with_reducible repeat (first | refine blk_drewN ?_ _ | refine blk_drew ?_ | refine blk_alloc ?_ _)); exact BK468.out) hb); have n4_ := Aside0.mk (blk_below (g := gb475) (o := .cells #[.int .i64 t469, .slice Ao33 t470.length co33, .int .i64 t473] 24 (0, 0)) (by (with_reducible repeat (first | refine blk_drewN ?_ _ | refine blk_drew ?_ | refine blk_alloc ?_ _)); exact BK475.out) hb); have n5_ := Aside0.mk (below_step (by repeat (first | (with_reducible first | exact HB.out | apply below_alloc | apply pw_below_drewN | apply below_drew1 | refine below_set ?_ GE455.out | refine below_set ?_ GE468.out | refine below_set ?_ GE475.out) | exact HB.out)) hb); clear HO_469001; clear HO_476001; clear BK455; clear BK468; clear BK475; clear HB; have HO_469001 := n0_; have HO_476001 := n1_; have BK455 := n2_; have BK468 := n3_; have BK475 := n4_; have HB := n5_; clear n0_ n1_ n2_ n3_ n4_ n5_; (try clear hb); (try clear hb2); (try clear hk); (try clear hi)))
                        go_ret
                        exact ⟨by first | rfl | (simp [errW_none, errW_some] <;> rfl) | (simp [*, errW_none, errW_some] <;> rfl), by repeat (first | (with_reducible first | exact HB.out | apply below_alloc | apply pw_below_drewN | apply below_drew1 | refine below_set ?_ GE455.out | refine below_set ?_ GE468.out | refine below_set ?_ GE475.out) | exact HB.out)⟩
                    · rw [if_neg c92] at H
                      have c92b0 : (t485.toList == a1.toList) = false := beq_eq_false_iff_ne.mpr c92
                      have c92b1 : (t485.toList != a1.toList) = true := bne_iff_ne.mpr c92
                      obtain rfl := Option.some.inj H
                      have hnb104 := NB468_455.out
                      have hnc104 := NB455_468.out
                      have hnb105 := NB468_475.out
                      have hnc105 := NB475_468.out
                      have hcz106_0 : wc.cell? ⟨gb468, 0, none⟩ = some (.int .i64 t462) := (blk_cell BK468.out 0).trans rfl
                      have hcz106_1 : wc.cell? ⟨gb468, 1, none⟩ = some (.slice Ao27 t463.length co27) := (blk_cell BK468.out 1).trans rfl
                      have hcz106_2 : wc.cell? ⟨gb468, 2, none⟩ = some (.int .i64 t466) := (blk_cell BK468.out 2).trans rfl
                      have hfz106_0 := blk_frozen BK468.out 0
                      have hfz106_1 := blk_frozen BK468.out 1
                      have hfz106_2 := blk_frozen BK468.out 2
                      go_wp2_with (first | ((with_reducible refine gate_callee (f := 27) rfl ?_); refine goesL_ (some 84) rfl rfl Tryd.func27 (by kernel_rfl) rfl #[.agg #[.int .i64 t462, .slice Ao27 t463.length co27, .int .i64 t466]] rfl (by (try simp only [List.map_toArray, List.map_cons, List.map_nil]); first | done | rfl | (simp only [List.length_drop, List.length_take]; rfl)) ?_; (with_reducible refine (group_Put.calls kj50 t462 _ _ t463 t466 t485 t486 _ ?side1 ?side2 A91.out).mono ?_); (case side1 => repeat (first | exact (Kd.R_reads' HO_469001.out).2.2 | (with_reducible refine Kd.C_alloc ?_ _) | (with_reducible refine Kd.C_drewN ?_ _) | (with_reducible refine Kd.C_drew ?_))); (case side2 => exact (Kd.R_reads' HO_469001.out).2.1); rintro e w107 ⟨rfl, hb⟩; refine ⟨_, rfl, ?_⟩; have n0_ := Aside0.mk (Kd.R_below (by (with_reducible repeat (first | apply Kd.R_alloc | apply Kd.R_drewN | apply Kd.R_drew)); exact HO_469001.out) hb); have n1_ := Aside0.mk (Kd.R_below (by (with_reducible repeat (first | apply Kd.R_alloc | apply Kd.R_drewN | apply Kd.R_drew)); exact HO_476001.out) hb); have n2_ := Aside0.mk (blk_below (g := gb455) (o := .cells #[.int .i64 a0_0, .slice A0_1 l0_1.length c0_1, .int .i64 a0_2] 24 (0, 0)) (by (with_reducible repeat (first | refine blk_drewN ?_ _ | refine blk_drew ?_ | refine blk_alloc ?_ _)); exact BK455.out) hb); have n3_ := Aside0.mk (blk_below (g := gb468) (o := .cells #[.int .i64 t462, .slice Ao27 t463.length co27, .int .i64 t466] 24 (0, 0)) (by (with_reducible repeat (first | refine blk_drewN ?_ _ | refine blk_drew ?_ | refine blk_alloc ?_ _)); exact BK468.out) hb); have n4_ := Aside0.mk (blk_below (g := gb475) (o := .cells #[.int .i64 t469, .slice Ao33 t470.length co33, .int .i64 t473] 24 (0, 0)) (by (with_reducible repeat (first | refine blk_drewN ?_ _ | refine blk_drew ?_ | refine blk_alloc ?_ _)); exact BK475.out) hb); have n5_ := Aside0.mk (below_step (by repeat (first | (with_reducible first | exact HB.out | apply below_alloc | apply pw_below_drewN | apply below_drew1 | refine below_set ?_ GE455.out | refine below_set ?_ GE468.out | refine below_set ?_ GE475.out) | exact HB.out)) hb); clear HO_469001; clear HO_476001; clear BK455; clear BK468; clear BK475; clear HB; have HO_469001 := n0_; have HO_476001 := n1_; have BK455 := n2_; have BK468 := n3_; have BK475 := n4_; have HB := n5_; clear n0_ n1_ n2_ n3_ n4_ n5_; (try clear hb); (try clear hb2); (try clear hk); (try clear hi)))
                      go_ret
                      exact ⟨by first | rfl | (simp [errW_none, errW_some] <;> rfl) | (simp [*, errW_none, errW_some] <;> rfl), by repeat (first | (with_reducible first | exact HB.out | apply below_alloc | apply pw_below_drewN | apply below_drew1 | refine below_set ?_ GE455.out | refine below_set ?_ GE468.out | refine below_set ?_ GE475.out) | exact HB.out)⟩
                  · rw [if_neg c90] at H
                    have c90b0 : (t467 == 0) = false := beq_eq_false_iff_ne.mpr c90
                    have c90b1 : (t467 != 0) = true := bne_iff_ne.mpr c90
                    replace H := Option.bind_eq_some_iff.mp H
                    obtain ⟨t488, A1080, H⟩ := H
                    replace H : (some t488) = some r := H
                    have A108 := Aside0.mk A1080
                    clear A1080
                    obtain rfl := Option.some.inj H
                    go_wp2_with (first | ((with_reducible refine gate_callee (f := 17) rfl ?_); refine goesL_ (some 94) rfl rfl Tryd.func17 (by kernel_rfl) rfl #[] rfl (by (try simp only [List.map_toArray, List.map_cons, List.map_nil]); first | done | rfl | (simp only [List.length_drop, List.length_take]; rfl)) ?_; (with_reducible refine (samphirelaw20_awake.calls  t488 _ A108.out).mono ?_); rintro e w109 ⟨rfl, hb⟩; refine ⟨_, rfl, ?_⟩; have n0_ := Aside0.mk (Kd.R_below (by (with_reducible repeat (first | apply Kd.R_alloc | apply Kd.R_drewN | apply Kd.R_drew)); exact HO_469001.out) hb); have n1_ := Aside0.mk (Kd.R_below (by (with_reducible repeat (first | apply Kd.R_alloc | apply Kd.R_drewN | apply Kd.R_drew)); exact HO_476001.out) hb); have n2_ := Aside0.mk (blk_below (g := gb455) (o := .cells #[.int .i64 a0_0, .slice A0_1 l0_1.length c0_1, .int .i64 a0_2] 24 (0, 0)) (by (with_reducible repeat (first | refine blk_drewN ?_ _ | refine blk_drew ?_ | refine blk_alloc ?_ _)); exact BK455.out) hb); have n3_ := Aside0.mk (blk_below (g := gb468) (o := .cells #[.int .i64 t462, .slice Ao27 t463.length co27, .int .i64 t466] 24 (0, 0)) (by (with_reducible repeat (first | refine blk_drewN ?_ _ | refine blk_drew ?_ | refine blk_alloc ?_ _)); exact BK468.out) hb); have n4_ := Aside0.mk (blk_below (g := gb475) (o := .cells #[.int .i64 t469, .slice Ao33 t470.length co33, .int .i64 t473] 24 (0, 0)) (by (with_reducible repeat (first | refine blk_drewN ?_ _ | refine blk_drew ?_ | refine blk_alloc ?_ _)); exact BK475.out) hb); have n5_ := Aside0.mk (below_step (by repeat (first | (with_reducible first | exact HB.out | apply below_alloc | apply pw_below_drewN | apply below_drew1 | refine below_set ?_ GE455.out | refine below_set ?_ GE468.out | refine below_set ?_ GE475.out) | exact HB.out)) hb); clear HO_469001; clear HO_476001; clear BK455; clear BK468; clear BK475; clear HB; have HO_469001 := n0_; have HO_476001 := n1_; have BK455 := n2_; have BK468 := n3_; have BK475 := n4_; have HB := n5_; clear n0_ n1_ n2_ n3_ n4_ n5_; (try clear hb); (try clear hb2); (try clear hk); (try clear hi)))
                    go_ret
                    exact ⟨by first | rfl | (simp [errW_none, errW_some] <;> rfl) | (simp [*, errW_none, errW_some] <;> rfl), by repeat (first | (with_reducible first | exact HB.out | apply below_alloc | apply pw_below_drewN | apply below_drew1 | refine below_set ?_ GE455.out | refine below_set ?_ GE468.out | refine below_set ?_ GE475.out) | exact HB.out)⟩
end Go.Proofs.YthemhfloablccaaDoor.Pr
end

section
namespace Go.Proofs.YthemhfloablccaaDoor.Pr
open Go.RowKit Go.Deep Go.Proofs.YthemhfloablccaaDoorW.PrintWords Go.Proofs.YthemhfloablccaaDoorW.PrintLast Go.Proofs.YthemhfloablccaaDoorW.PrintMore
set_option maxHeartbeats 2000000
theorem aw_f : samphirelaw20_awake.f = some true := rfl
theorem light_fG (E : Int) (l : List Mem) (O : Int) : samphirelaw20_light.f E l O = some (decide ((l.length : Int) ≤ 20)) := rfl
theorem grpBytes_j2 (k : Nat) (hk : 30 ≤ k) (s : ByteArray) (hs : ∀ x ∈ bys s, x < 256) : samphirelaw20_GroupBytes.j2 (k + 1) s (takeP (bys s)).2.2.2 (takeP (bys s)).1 (takeP (bys s)).2.1 (takeP (bys s)).2.2.1 = some true := by
 simp only [samphirelaw20_GroupBytes.j2]
 by_cases h : (takeP (bys s)).2.2.2 = 0
 ·rw [if_pos h]
  obtain ⟨hg, hb⟩ := put_back hs h
  have hl := takeP_len (bys s)
  rw [put_p _ _ _ (by omega) k (by omega), Option.bind_some, if_pos hg, hb]
  simp only
  rw [txt_bys, if_pos rfl, if_pos trivial, aw_f]
  rfl
 ·rw [if_neg h, aw_f]
  rfl
theorem grpBytes_j1 (k : Nat) (hk : 40 ≤ k) (E : Int) (l : List Mem) (O : Int) (s : ByteArray) (hl : l.length ≤ 20) (hs : ∀ x ∈ bys s, x < 256) :
  samphirelaw20_GroupBytes.j1 (k + 1) s (if okG E l O = true then (txt (grpL E l O), 0) else ((⟨#[]⟩ : ByteArray), (1 : Int))).1 (if okG E l O = true then (txt (grpL E l O), 0) else ((⟨#[]⟩ : ByteArray), (1 : Int))).2 (takeP (bys s)).2.2.2 false E l O (takeP (bys s)).1 (takeP (bys s)).2.1 (takeP (bys s)).2.2.1 = some true := by
 obtain ⟨k, rfl⟩ : ∃ m, k = m + 1 := ⟨k - 1, by omega⟩
 simp only [samphirelaw20_GroupBytes.j1]
 rw [if_neg (by decide)]
 by_cases h : okG E l O = true
 ·simp only [if_pos h]
  rw [if_pos trivial, take_p (grpL E l O) (by
   intro x hx
   unfold grpL memB at hx
   simp only [List.mem_append, List.mem_flatMap] at hx
   rcases hx with (hx | hx) | ⟨m, _, hx | hx⟩ <;> exact byN_lt _ _ x hx) (k + 1) (by omega), Option.bind_some, take_back h]
  simp only
  rw [same_f E l O (by omega) (k + 1) (by omega), Option.bind_some, if_pos rfl, if_pos trivial]
  exact grpBytes_j2 k (by omega) s hs
 ·simp only [if_neg h]
  rw [if_neg (by decide)]
  exact grpBytes_j2 k (by omega) s hs
theorem grpBytes_f (E : Int) (l : List Mem) (O : Int) (s : ByteArray) (hw : ∀ m ∈ l, wfM m) (hs : ∀ x ∈ bys s, x < 256) : samphirelaw20_GroupBytes.f 100 E l O s = some true := by
 unfold samphirelaw20_GroupBytes.f
 rw [light_fG, Option.bind_some]
 have hT : samphirelaw20_GroupBytes.j0 100 s true E l O = some true := by
  simp only [samphirelaw20_GroupBytes.j0]
  rw [if_pos trivial, aw_f]
  rfl
 by_cases hl : (l.length : Int) ≤ 20
 ·rw [if_pos (decide_eq_true hl)]
  by_cases h5 : (s.size : Int) > 512
  ·rw [decide_eq_true h5, hT]
  ·rw [decide_eq_false h5]
   have hl' : l.length ≤ 20 := by omega
   have e1 := take_p (bys s) hs 99 (by omega)
   have e2 := take_r (bys s) hs 99 (by omega)
   rw [txt_bys] at e1 e2
   simp only [samphirelaw20_GroupBytes.j0]
   rw [if_neg (by decide), put_p E l O (by omega) 99 (by omega), Option.bind_some, put_r E l O hw 99 (by omega), Option.bind_some, e1, Option.bind_some, e2, Option.bind_some, if_pos rfl, if_pos rfl,
    same_f _ _ _ (by have := takeP_len (bys s); omega) 99 (by have := takeP_len (bys s); omega), Option.bind_some, if_pos rfl, bne_self_eq_false]
   exact grpBytes_j1 98 (by omega) E l O s hl' hs
 ·rw [if_neg (by simpa using hl), hT]
theorem bys_ltG (s : ByteArray) : ∀ x ∈ bys s, x < 256 := by
 intro x hx
 unfold bys at hx
 rw [List.mem_map] at hx
 obtain ⟨b, _, rfl⟩ := hx
 exact b.toNat_lt
theorem wf_bounds {n : Int} (h : (Lit.int .i64 n).wf = true) : -9223372036854775808 ≤ n ∧ n ≤ 9223372036854775807 := by
 simp [Lit.wf, IntKind.min, IntKind.max, IntKind.signed, IntKind.bits] at h
 omega
set_option maxRecDepth 100000 in
theorem rd_mm : Rd Tryd.prog 46 k46 wfM := by
 have h := Rd.struct (k := Kd.pair (Kd.int .i64) (Kd.pair (Kd.int .i64) Kd.bool)) Tryd.underlying46 (by kernel_rfl) (RdS.cons _ rfl rfl (Rd.int Tryd.underlying3 (by kernel_rfl)) (RdS.cons _ rfl rfl (Rd.int Tryd.underlying3 (by kernel_rfl)) (RdS.last _ rfl rfl (Rd.bool Tryd.underlying4 (by kernel_rfl)) rfl)))
 exact (h.iso (fun x : Mem => (x.f0, x.f1, x.f2)) (fun y => ⟨y.1, y.2.1, y.2.2⟩) (fun _ => rfl)).imp (fun y q => wf_bounds q.1)
abbrev grpK : Kd (Int × List Mem × Int) := Kd.pair (Kd.int .i64) (Kd.pair (Kd.slice 46 k46) (Kd.int .i64))
set_option maxRecDepth 100000 in
theorem rd_grp : Rd Tryd.prog 24 grpK (fun y => ∀ m ∈ y.2.1, wfM m) := by
 have h := Rd.struct (k := grpK) Tryd.underlying24 (by kernel_rfl) (RdS.cons _ rfl rfl (Rd.int Tryd.underlying3 (by kernel_rfl)) (RdS.cons _ rfl rfl (Rd.slice Tryd.underlying22 (by kernel_rfl) rd_mm) (RdS.last _ rfl rfl (Rd.int Tryd.underlying3 (by kernel_rfl)) rfl)))
 exact h.imp (fun y q => q.2.1.1)
theorem grpBytes_row (w : World) (cs : Array Value) (y : Int × List Mem × Int) (hK : grpK.K w y cs.toList) (hQ : ∀ m ∈ y.2.1, wfM m) (s : ByteArray) (hz : s.size ≤ 140737488351232) :
  Calls Tryd.prog 5 #[.agg cs, .string s] w fun e w' => e = .returned (.bool true) ∧ Below w.heap.size w w' := by
 obtain ⟨E, l, O⟩ := y
 obtain ⟨c0, r0, hcs, k0, c1, r1, rfl, ⟨A, c, rfl, hlc, hC⟩, k2⟩ := hK
 have k0' : c0 = [.int .i64 E] := k0
 have k2' : r1 = [.int .i64 O] := k2
 subst k0' k2'
 have e : cs = #[.int .i64 E, .slice A l.length c, .int .i64 O] := by
  apply Array.toList_inj.1
  rw [hcs]
  rfl
 subst e
 exact samphirelaw20_GroupBytes.calls 100 E A c l O s true w hC hlc (grpBytes_f E l O s hQ (bys_ltG s))
end Go.Proofs.YthemhfloablccaaDoor.Pr
end

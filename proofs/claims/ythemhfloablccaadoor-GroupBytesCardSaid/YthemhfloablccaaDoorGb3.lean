/- Joined texts (pack.py): what the statement's proof needs, part 3. No condition. -/
import Derived.Below
import Derived.Deep.Draws
import Derived.Deep.AppendLies
import Derived.Maps.AppendAt
import Derived.OwnWalk
import Derived.Laws.BytesArg
import Derived.Laws.MakeOwn
import Derived.Laws.OwnMore
import Derived.Deep.OwnRows
import Derived.Tactics
import Derived.Lib.ConvBytes
import Derived.Laws.Slices
import Derived.WalkKit
import Derived.KernelRfl
import Derived.RowKit3
import Derived.Deep.LoopGhost
import Derived.Deep.QuietTactic
import Derived.BigQuiet
import Derived.WideLaws
import Derived.Deep.DeepCutAuto
import Derived.Deep.CutBlock
import Derived.Deep.RegionHeld3
import Derived.Laws.Rows
import Derived.Lib.AppendStr
import Derived.ArgAppend
import Derived.Laws.IdiomCopy
import Derived.RowKit
import Derived.OrdersHeld
import Derived.Laws.BitsLemmas
import Derived.Laws.StructEq
import Derived.Deep.Slices
import Derived.ChangeArms
import Derived.OpenShut
import Derived.Test.YthemhfloablccaaDoorProg
import Derived.Deep.RegionLaw
import Derived.StillTailTactics
import Derived.Deep.Light
import Derived.Deep.RegionHeldLaw
import Derived.Deep.DrawnRows
import Derived.Test.YthemhfloablccaaDoorTie
import Derived.Test.YthemhfloablccaaDoorCards
import Derived.LaidMore
import Derived.Lay
import Derived.SevenTiedAt
import Derived.Stop.Joined
import Derived.ProofKit
import Derived.ShutString
import Derived.ChangeOld
import Derived.SizedLaws
import Derived.Carry
import Derived.Test.YthemhfloablccaaDoorGb1
import Derived.Test.YthemhfloablccaaDoorGb2
set_option linter.unusedVariables false
set_option linter.unusedSimpArgs false
section
namespace Go.Proofs.YthemhfloablccaaDoor.Pr
open Go.RowKit Go.Proofs.YthemhfloablccaaDoorW.PrintWords Go.Proofs.YthemhfloablccaaDoorW.PrintLast Go.Proofs.YthemhfloablccaaDoorW.PrintMore
attribute [local go_sem] max2_int min2_int max_two min_two max_three min_three max_four min_four
mutual
def samphireref20_May.j0 : Nat → Bool → Int → List (S46) → Int → Option (Bool)
 | 0, _, _, _, _ => none
 | k + 1, x28, x200000, x200001, x200002 => if x28 = true then (some false) else (samphireref20_May.l0 k 0 x200000 x200001 x200002)
def samphireref20_May.l0 : Nat → Int → Int → List (S46) → Int → Option (Bool)
 | 0, _, _, _, _ => none
 | k + 1, x3, x200000, x200001, x200002 => if x3 < 6 then (if 0 ≤ x3 then (if x3 < (x200001.length : Int) then (if (wrap64 (((rd_T46 x200001 x3).f0) - 1)) = x3 then (if ((rd_T46 x200001 x3).f1) < 0 then (some false) else (if ((rd_T46 x200001 x3).f1) > 1099511627775 then (some false) else (if x3 = 0 then (if ((rd_T46 x200001 x3).f2 = true) then (samphireref20_May.l0 k (wrap64 (x3 + 1)) x200000 x200001 x200002) else (some false)) else (samphireref20_May.l0 k (wrap64 (x3 + 1)) x200000 x200001 x200002)))) else (some false)) else (none)) else (none)) else (some true)
end
def samphireref20_May.f (k : Nat) (a0_0 : Int) (l0_1 : List (S46)) (a0_2 : Int) : Option (Bool) := if a0_0 < 1 then (samphireref20_May.j0 k true a0_0 l0_1 a0_2) else (if a0_0 > 1099511627775 then (samphireref20_May.j0 k true a0_0 l0_1 a0_2) else (if a0_2 < 0 then (samphireref20_May.j0 k true a0_0 l0_1 a0_2) else (if a0_2 > 500 then (samphireref20_May.j0 k true a0_0 l0_1 a0_2) else (samphireref20_May.j0 k ((l0_1.length : Int) != 6) a0_0 l0_1 a0_2))))
set_option maxHeartbeats 8000000 in
set_option maxRecDepth 100000 in
theorem samphireref20_May.calls (k : Nat) (a0_0 : Int) (A0_1 : Option Addr) (c0_1 : Nat) (l0_1 : List (S46)) (a0_2 : Int) (r : Bool) (w : World) (hr0_1 : Kd.C k46 w A0_1 l0_1.length l0_1) (hc0_1 : l0_1.length ≤ c0_1) (h : samphireref20_May.f k a0_0 l0_1 a0_2 = some r) :
    Calls Tryd.prog 49 #[.agg #[.int .i64 a0_0, .slice A0_1 l0_1.length c0_1, .int .i64 a0_2]] w fun e w' => e = .returned (.bool r) ∧ Below w.heap.size w w' := by
  have hu24 := Tryd.underlying24; have hu46 := Tryd.underlying46; have HR0_1 := Aside0.mk hr0_1; have HC0_1 := Aside0.mk hc0_1; clear hr0_1 hc0_1; have HB := Aside0.mk (Below.refl w.heap.size w); have H : (if a0_0 < 1 then (samphireref20_May.j0 k true a0_0 l0_1 a0_2) else (if a0_0 > 1099511627775 then (samphireref20_May.j0 k true a0_0 l0_1 a0_2) else (if a0_2 < 0 then (samphireref20_May.j0 k true a0_0 l0_1 a0_2) else (if a0_2 > 500 then (samphireref20_May.j0 k true a0_0 l0_1 a0_2) else (samphireref20_May.j0 k ((l0_1.length : Int) != 6) a0_0 l0_1 a0_2))))) = some r := h; clear h; have HC2 := Aside0.mk H; clear H; go_enter Tryd.func49, Tryd.ntmps49
  go_upto_region 1 with (first | ((with_reducible refine gate_dst (N := 1) rfl ?_); (try (refine gate_guard (by rfl) ?_; dsimp only)); refine box_event ?hg (N := 1) ?hd (cs := #[.int .i64 a0_0, .slice A0_1 l0_1.length c0_1, .int .i64 a0_2]) (t := 24) ?hr ?_; (case hd => rfl); (case hg => rfl); (case hr => first | (go_simp; done) | (go_simp; rfl)); intro gb199 hg w3 hbox hb; have n0_ := Aside0.mk (below_step hb_ hb); have n1_ := Aside0.mk (hbox); have n2_ := Aside0.mk ((by rw [hg]; exact (below_size hb_) : w.heap.size ≤ gb199)); have n3_ := Aside0.mk ((by rw [hg]; exact (below_size hb_) : w.heap.size ≤ gb199)); clear HB; have HB := n0_; have BK199 := n1_; have GW199 := n2_; have GE199 := n3_; clear n0_ n1_ n2_ n3_; clear hb hbox hg))
  (try simp only [Act.put, List.setIfInBounds_toArray, List.set_cons_zero, List.set_cons_succ])
  go_cut [28] (fun v28 wc => ∃ (kq : Nat) (x28_1 : Bool), v28 = .bool x28_1 ∧ Aside0 (samphireref20_May.j0 kq x28_1 a0_0 l0_1 a0_2 = some r) ∧ Aside0 (kq ≤ k) ∧ Aside0 (wc.heap[gb199]? = some (.cells #[.int .i64 a0_0, (.slice A0_1 l0_1.length c0_1), .int .i64 a0_2] 24 (0, 0))) ∧ Aside0 (Below w.heap.size w wc))
  case first =>
    have H := HC2.out; clear HC2; by_cases c4 : a0_0 < 1
    · rw [if_pos c4] at H; have c4b0 : decide (a0_0 < 1) = true := decide_eq_true c4; clear c4
      (first | rw [c4b0] | (simp only [i64_w, i32_w]; rw [c4b0]) | skip)
      have H' := Aside0.mk H; clear H; have hcz5_0 : w3.cell? ⟨gb199, 0, none⟩ = some (.int .i64 a0_0) := (blk_cell BK199.out 0).trans rfl; have hcz5_1 : w3.cell? ⟨gb199, 1, none⟩ = some (.slice A0_1 l0_1.length c0_1) := (blk_cell BK199.out 1).trans rfl; have hcz5_2 : w3.cell? ⟨gb199, 2, none⟩ = some (.int .i64 a0_2) := (blk_cell BK199.out 2).trans rfl; have hfz5_0 := blk_frozen BK199.out 0; have hfz5_1 := blk_frozen BK199.out 1; have hfz5_2 := blk_frozen BK199.out 2; go_wp2; go_meet
      case rel => exact ⟨_, (true), rz_, H', ⟨by first | omega | exact Nat.le_refl _⟩, ⟨by (with_reducible repeat (first | refine blk_drewN ?_ _ | refine blk_drew ?_ | refine blk_alloc ?_ _)); exact BK199.out⟩, ⟨by repeat (first | (with_reducible first | exact HB.out | apply below_alloc | apply pw_below_drewN | apply below_drew1 | refine below_set ?_ GE199.out) | exact HB.out)⟩⟩
    · rw [if_neg c4] at H; have c4b0 : decide (a0_0 < 1) = false := decide_eq_false c4; clear c4
      (first | rw [c4b0] | (simp only [i64_w, i32_w]; rw [c4b0]) | skip)
      by_cases c6 : a0_0 > 1099511627775
      · rw [if_pos c6] at H; have c6b0 : decide (1099511627775 < a0_0) = true := decide_eq_true c6; clear c6; have H' := Aside0.mk H; clear H; have hcz7_0 : w3.cell? ⟨gb199, 0, none⟩ = some (.int .i64 a0_0) := (blk_cell BK199.out 0).trans rfl; have hcz7_1 : w3.cell? ⟨gb199, 1, none⟩ = some (.slice A0_1 l0_1.length c0_1) := (blk_cell BK199.out 1).trans rfl; have hcz7_2 : w3.cell? ⟨gb199, 2, none⟩ = some (.int .i64 a0_2) := (blk_cell BK199.out 2).trans rfl; have hfz7_0 := blk_frozen BK199.out 0; have hfz7_1 := blk_frozen BK199.out 1; have hfz7_2 := blk_frozen BK199.out 2; go_wp2; go_meet
        case rel => exact ⟨_, (true), rz_, H', ⟨by first | omega | exact Nat.le_refl _⟩, ⟨by (with_reducible repeat (first | refine blk_drewN ?_ _ | refine blk_drew ?_ | refine blk_alloc ?_ _)); exact BK199.out⟩, ⟨by repeat (first | (with_reducible first | exact HB.out | apply below_alloc | apply pw_below_drewN | apply below_drew1 | refine below_set ?_ GE199.out) | exact HB.out)⟩⟩
      · rw [if_neg c6] at H; have c6b0 : decide (1099511627775 < a0_0) = false := decide_eq_false c6; clear c6; by_cases c8 : a0_2 < 0
        · rw [if_pos c8] at H; have c8b0 : decide (a0_2 < 0) = true := decide_eq_true c8; clear c8; have H' := Aside0.mk H; clear H; have hcz9_0 : w3.cell? ⟨gb199, 0, none⟩ = some (.int .i64 a0_0) := (blk_cell BK199.out 0).trans rfl; have hcz9_1 : w3.cell? ⟨gb199, 1, none⟩ = some (.slice A0_1 l0_1.length c0_1) := (blk_cell BK199.out 1).trans rfl; have hcz9_2 : w3.cell? ⟨gb199, 2, none⟩ = some (.int .i64 a0_2) := (blk_cell BK199.out 2).trans rfl; have hfz9_0 := blk_frozen BK199.out 0; have hfz9_1 := blk_frozen BK199.out 1; have hfz9_2 := blk_frozen BK199.out 2; go_wp2; go_meet
          case rel => exact ⟨_, (true), rz_, H', ⟨by first | omega | exact Nat.le_refl _⟩, ⟨by (with_reducible repeat (first | refine blk_drewN ?_ _ | refine blk_drew ?_ | refine blk_alloc ?_ _)); exact BK199.out⟩, ⟨by repeat (first | (with_reducible first | exact HB.out | apply below_alloc | apply pw_below_drewN | apply below_drew1 | refine below_set ?_ GE199.out) | exact HB.out)⟩⟩
        · rw [if_neg c8] at H; have c8b0 : decide (a0_2 < 0) = false := decide_eq_false c8; clear c8; by_cases c10 : a0_2 > 500
          · rw [if_pos c10] at H; have c10b0 : decide (500 < a0_2) = true := decide_eq_true c10; clear c10; have H' := Aside0.mk H; clear H; have hcz11_0 : w3.cell? ⟨gb199, 0, none⟩ = some (.int .i64 a0_0) := (blk_cell BK199.out 0).trans rfl; have hcz11_1 : w3.cell? ⟨gb199, 1, none⟩ = some (.slice A0_1 l0_1.length c0_1) := (blk_cell BK199.out 1).trans rfl; have hcz11_2 : w3.cell? ⟨gb199, 2, none⟩ = some (.int .i64 a0_2) := (blk_cell BK199.out 2).trans rfl; have hfz11_0 := blk_frozen BK199.out 0; have hfz11_1 := blk_frozen BK199.out 1; have hfz11_2 := blk_frozen BK199.out 2; go_wp2; go_meet
            case rel => exact ⟨_, (true), rz_, H', ⟨by first | omega | exact Nat.le_refl _⟩, ⟨by (with_reducible repeat (first | refine blk_drewN ?_ _ | refine blk_drew ?_ | refine blk_alloc ?_ _)); exact BK199.out⟩, ⟨by repeat (first | (with_reducible first | exact HB.out | apply below_alloc | apply pw_below_drewN | apply below_drew1 | refine below_set ?_ GE199.out) | exact HB.out)⟩⟩
          · rw [if_neg c10] at H; have c10b0 : decide (500 < a0_2) = false := decide_eq_false c10; clear c10; have H' := Aside0.mk H; clear H; have hcz12_0 : w3.cell? ⟨gb199, 0, none⟩ = some (.int .i64 a0_0) := (blk_cell BK199.out 0).trans rfl; have hcz12_1 : w3.cell? ⟨gb199, 1, none⟩ = some (.slice A0_1 l0_1.length c0_1) := (blk_cell BK199.out 1).trans rfl; have hcz12_2 : w3.cell? ⟨gb199, 2, none⟩ = some (.int .i64 a0_2) := (blk_cell BK199.out 2).trans rfl; have hfz12_0 := blk_frozen BK199.out 0; have hfz12_1 := blk_frozen BK199.out 1; have hfz12_2 := blk_frozen BK199.out 2; go_wp2; go_meet
            case rel => exact ⟨_, (((l0_1.length : Int) != 6)), rz_, H', ⟨by first | omega | exact Nat.le_refl _⟩, ⟨by (with_reducible repeat (first | refine blk_drewN ?_ _ | refine blk_drew ?_ | refine blk_alloc ?_ _)); exact BK199.out⟩, ⟨by repeat (first | (with_reducible first | exact HB.out | apply below_alloc | apply pw_below_drewN | apply below_drew1 | refine below_set ?_ GE199.out) | exact HB.out)⟩⟩
  case rest =>
    clear HC2; obtain ⟨kq, x28_1, rfl, HA, HJ1, BK199, HB⟩ := hcut; cases kq with
    | zero => exact absurd HA.out (by simp [samphireref20_May.j0])
    | succ kj1 =>
      have H := HA.out; clear HA; simp only [samphireref20_May.j0] at H; by_cases c13 : x28_1 = true
      · subst c13; have H1 : (some false) = some r := by rw [if_pos rfl] at H; exact H
        clear H; have H := H1; clear H1; obtain rfl := Option.some.inj H; go_wp2; go_ret
        exact ⟨ew_, by repeat (first | (with_reducible first | exact HB.out | apply below_alloc | apply pw_below_drewN | apply below_drew1 | refine below_set ?_ GE199.out) | exact HB.out)⟩
      · replace c13 := Bool.eq_false_iff.mpr c13; subst c13; have H1 : (samphireref20_May.l0 kj1 0 a0_0 l0_1 a0_2) = some r := by rw [if_neg (show ¬ (false = true) by decide)] at H; exact H
        clear H; have H := H1; clear H1; have H' := Aside0.mk H; clear H; go_wp2; go_loopg [3] kj1 (fun kq v3 w' => ∃ (x3_2 : Int), v3 = .int .i64 x3_2 ∧ Aside0 (samphireref20_May.l0 kq x3_2 a0_0 l0_1 a0_2 = some r) ∧ Aside0 (kq ≤ kj1) ∧ Aside0 (w'.heap[gb199]? = some (.cells #[.int .i64 a0_0, (.slice A0_1 l0_1.length c0_1), .int .i64 a0_2] 24 (0, 0))) ∧ Aside0 (Below w.heap.size w w'))
        case atStart => exact ⟨(0), rz_, H', ⟨Nat.le_refl _⟩, ⟨by (with_reducible repeat (first | refine blk_drewN ?_ _ | refine blk_drew ?_ | refine blk_alloc ?_ _)); exact BK199.out⟩, ⟨by repeat (first | (with_reducible first | exact HB.out | apply below_alloc | apply pw_below_drewN | apply below_drew1 | refine below_set ?_ GE199.out) | exact HB.out)⟩⟩
        case round =>
          clear H'; obtain ⟨x3_2, rfl, HA, HK2, BK199, HB⟩ := hrel; cases gk with
          | zero => exact absurd HA.out (by simp [samphireref20_May.l0])
          | succ k2 =>
            have H := HA.out; clear HA; simp only [samphireref20_May.l0] at H; by_cases c14 : x3_2 < 6
            · rw [if_pos c14] at H; have c14b0 : decide (x3_2 < 6) = true := decide_eq_true c14; clear c14; by_cases c15 : 0 ≤ x3_2
              · rw [if_pos c15] at H; have c15b0 : decide (0 ≤ x3_2) = true := decide_eq_true c15; clear c15; by_cases c16 : x3_2 < (l0_1.length : Int)
                · rw [if_pos c16] at H; have c16b0 : decide (x3_2 < (l0_1.length : Int)) = true := decide_eq_true c16; clear c16; by_cases c17 : (wrap64 (((rd_T46 l0_1 x3_2).f0) - 1)) = x3_2
                  · rw [if_pos c17] at H; have c17b0 : ((wrap64 (((rd_T46 l0_1 x3_2).f0) - 1)) == x3_2) = true := beq_iff_eq.mpr c17; have c17b1 : ((wrap64 (((rd_T46 l0_1 x3_2).f0) - 1)) != x3_2) = false := bne_eq_false_iff_eq.mpr c17; clear c17; by_cases c18 : ((rd_T46 l0_1 x3_2).f1) < 0
                    · rw [if_pos c18] at H; have c18b0 : decide (((rd_T46 l0_1 x3_2).f1) < 0) = true := decide_eq_true c18; clear c18; obtain rfl := Option.some.inj H; have hcz19_0 : wr.cell? ⟨gb199, 0, none⟩ = some (.int .i64 a0_0) := (blk_cell BK199.out 0).trans rfl; have hcz19_1 : wr.cell? ⟨gb199, 1, none⟩ = some (.slice A0_1 l0_1.length c0_1) := (blk_cell BK199.out 1).trans rfl; have hcz19_2 : wr.cell? ⟨gb199, 2, none⟩ = some (.int .i64 a0_2) := (blk_cell BK199.out 2).trans rfl; have hfz19_0 := blk_frozen BK199.out 0; have hfz19_1 := blk_frozen BK199.out 1; have hfz19_2 := blk_frozen BK199.out 2; have p200 : 0 ≤ (x3_2 : Int) := of_decide_eq_true as_'; have q200 : x3_2 < (l0_1.length : Int) := of_decide_eq_true as_'; obtain ⟨ad200, e200, hx200_0, hx200_1, hx200_2⟩ := at_T46 HR0_1.out x3_2 p200 q200; cases e200; replace hx200_0 := (HB.out.cell (World.block_lt_of_cell? w _ hx200_0)).trans hx200_0; replace hx200_1 := (HB.out.cell (World.block_lt_of_cell? w _ hx200_1)).trans hx200_1; replace hx200_2 := (HB.out.cell (World.block_lt_of_cell? w _ hx200_2)).trans hx200_2; replace p200 := eq_true p200; replace q200 := eq_true q200; go_wp2_with (first | ((with_reducible refine gate_dst (N := 4) rfl ?_); (try (refine gate_guard (by rfl) ?_; dsimp only)); refine box_event ?hg (N := 4) ?hd (cs := #[.int .i64 0, .int .i64 0, .bool false]) (t := 46) ?hr ?_; (case hd => rfl); (case hg => rfl); (case hr => first | (go_simp; done) | (go_simp; rfl)); intro gb201 hg w20 hbox hb; have n0_ := Aside0.mk (blk_below (g := gb199) (o := .cells #[.int .i64 a0_0, .slice (some ad200) l0_1.length c0_1, .int .i64 a0_2] 24 (0, 0)) (by (with_reducible repeat (first | refine blk_drewN ?_ _ | refine blk_drew ?_ | refine blk_alloc ?_ _)); exact BK199.out) hb); have n1_ := Aside0.mk (below_step (by repeat (first | (with_reducible first | exact HB.out | apply below_alloc | apply pw_below_drewN | apply below_drew1 | refine below_set ?_ GE199.out) | exact HB.out)) hb); have n2_ := Aside0.mk (hbox); have n3_ := Aside0.mk ((by rw [hg]; exact (below_size (by repeat (first | (with_reducible first | exact HB.out | apply below_alloc | apply pw_below_drewN | apply below_drew1 | refine below_set ?_ GE199.out) | exact HB.out))) : w.heap.size ≤ gb201)); have n4_ := Aside0.mk ((by rw [hg]; exact (below_size (by repeat (first | (with_reducible first | exact HB.out | apply below_alloc | apply pw_below_drewN | apply below_drew1 | refine below_set ?_ GE199.out) | exact HB.out))) : w.heap.size ≤ gb201)); have n5_ := Aside0.mk ((by rw [hg]; exact Nat.ne_of_lt (blk_lt (g := gb199) (o := .cells #[.int .i64 a0_0, .slice (some ad200) l0_1.length c0_1, .int .i64 a0_2] 24 (0, 0)) (by (with_reducible repeat (first | refine blk_drewN ?_ _ | refine blk_drew ?_ | refine blk_alloc ?_ _)); exact BK199.out)) : gb199 ≠ gb201)); have n6_ := Aside0.mk ((by rw [hg]; exact Nat.ne_of_gt (blk_lt (g := gb199) (o := .cells #[.int .i64 a0_0, .slice (some ad200) l0_1.length c0_1, .int .i64 a0_2] 24 (0, 0)) (by (with_reducible repeat (first | refine blk_drewN ?_ _ | refine blk_drew ?_ | refine blk_alloc ?_ _)); exact BK199.out)) : gb201 ≠ gb199)); clear BK199; clear HB; have BK199 := n0_; have HB := n1_; have BK201 := n2_; have GW201 := n3_; have GE201 := n4_; have NB199_201 := n5_; have NB201_199 := n6_; clear n0_ n1_ n2_ n3_ n4_ n5_ n6_; clear hb hbox hg; have hnb21 := NB201_199.out; have hnc21 := NB199_201.out; have hcz22_0 : w20.cell? ⟨gb201, 0, none⟩ = some (.int .i64 0) := (blk_cell BK201.out 0).trans rfl; have hcz22_1 : w20.cell? ⟨gb201, 1, none⟩ = some (.int .i64 0) := (blk_cell BK201.out 1).trans rfl; have hcz22_2 : w20.cell? ⟨gb201, 2, none⟩ = some (.bool false) := (blk_cell BK201.out 2).trans rfl; have hfz22_0 := blk_frozen BK201.out 0; have hfz22_1 := blk_frozen BK201.out 1; have hfz22_2 := blk_frozen BK201.out 2))
                      go_ret
                      exact ⟨ew_, by repeat (first | (with_reducible first | exact HB.out | apply below_alloc | apply pw_below_drewN | apply below_drew1 | refine below_set ?_ GE199.out | refine below_set ?_ GE201.out) | exact HB.out)⟩
                    · rw [if_neg c18] at H; have c18b0 : decide (((rd_T46 l0_1 x3_2).f1) < 0) = false := decide_eq_false c18; clear c18; by_cases c23 : ((rd_T46 l0_1 x3_2).f1) > 1099511627775
                      · rw [if_pos c23] at H; have c23b0 : decide (1099511627775 < ((rd_T46 l0_1 x3_2).f1)) = true := decide_eq_true c23; clear c23; obtain rfl := Option.some.inj H; have hcz24_0 : wr.cell? ⟨gb199, 0, none⟩ = some (.int .i64 a0_0) := (blk_cell BK199.out 0).trans rfl; have hcz24_1 : wr.cell? ⟨gb199, 1, none⟩ = some (.slice A0_1 l0_1.length c0_1) := (blk_cell BK199.out 1).trans rfl; have hcz24_2 : wr.cell? ⟨gb199, 2, none⟩ = some (.int .i64 a0_2) := (blk_cell BK199.out 2).trans rfl; have hfz24_0 := blk_frozen BK199.out 0; have hfz24_1 := blk_frozen BK199.out 1; have hfz24_2 := blk_frozen BK199.out 2; have p200 : 0 ≤ (x3_2 : Int) := of_decide_eq_true as_'; have q200 : x3_2 < (l0_1.length : Int) := of_decide_eq_true as_'; obtain ⟨ad200, e200, hx200_0, hx200_1, hx200_2⟩ := at_T46 HR0_1.out x3_2 p200 q200; cases e200; replace hx200_0 := (HB.out.cell (World.block_lt_of_cell? w _ hx200_0)).trans hx200_0; replace hx200_1 := (HB.out.cell (World.block_lt_of_cell? w _ hx200_1)).trans hx200_1; replace hx200_2 := (HB.out.cell (World.block_lt_of_cell? w _ hx200_2)).trans hx200_2; replace p200 := eq_true p200; replace q200 := eq_true q200; go_wp2_with (first | ((with_reducible refine gate_dst (N := 4) rfl ?_); (try (refine gate_guard (by rfl) ?_; dsimp only)); refine box_event ?hg (N := 4) ?hd (cs := #[.int .i64 0, .int .i64 0, .bool false]) (t := 46) ?hr ?_; (case hd => rfl); (case hg => rfl); (case hr => first | (go_simp; done) | (go_simp; rfl)); intro gb201 hg w25 hbox hb; have n0_ := Aside0.mk (blk_below (g := gb199) (o := .cells #[.int .i64 a0_0, .slice (some ad200) l0_1.length c0_1, .int .i64 a0_2] 24 (0, 0)) (by (with_reducible repeat (first | refine blk_drewN ?_ _ | refine blk_drew ?_ | refine blk_alloc ?_ _)); exact BK199.out) hb); have n1_ := Aside0.mk (below_step (by repeat (first | (with_reducible first | exact HB.out | apply below_alloc | apply pw_below_drewN | apply below_drew1 | refine below_set ?_ GE199.out) | exact HB.out)) hb); have n2_ := Aside0.mk (hbox); have n3_ := Aside0.mk ((by rw [hg]; exact (below_size (by repeat (first | (with_reducible first | exact HB.out | apply below_alloc | apply pw_below_drewN | apply below_drew1 | refine below_set ?_ GE199.out) | exact HB.out))) : w.heap.size ≤ gb201)); have n4_ := Aside0.mk ((by rw [hg]; exact (below_size (by repeat (first | (with_reducible first | exact HB.out | apply below_alloc | apply pw_below_drewN | apply below_drew1 | refine below_set ?_ GE199.out) | exact HB.out))) : w.heap.size ≤ gb201)); have n5_ := Aside0.mk ((by rw [hg]; exact Nat.ne_of_lt (blk_lt (g := gb199) (o := .cells #[.int .i64 a0_0, .slice (some ad200) l0_1.length c0_1, .int .i64 a0_2] 24 (0, 0)) (by (with_reducible repeat (first | refine blk_drewN ?_ _ | refine blk_drew ?_ | refine blk_alloc ?_ _)); exact BK199.out)) : gb199 ≠ gb201)); have n6_ := Aside0.mk ((by rw [hg]; exact Nat.ne_of_gt (blk_lt (g := gb199) (o := .cells #[.int .i64 a0_0, .slice (some ad200) l0_1.length c0_1, .int .i64 a0_2] 24 (0, 0)) (by (with_reducible repeat (first | refine blk_drewN ?_ _ | refine blk_drew ?_ | refine blk_alloc ?_ _)); exact BK199.out)) : gb201 ≠ gb199)); clear BK199; clear HB; have BK199 := n0_; have HB := n1_; have BK201 := n2_; have GW201 := n3_; have GE201 := n4_; have NB199_201 := n5_; have NB201_199 := n6_; clear n0_ n1_ n2_ n3_ n4_ n5_ n6_; clear hb hbox hg; have hnb26 := NB201_199.out; have hnc26 := NB199_201.out; have hcz27_0 : w25.cell? ⟨gb201, 0, none⟩ = some (.int .i64 0) := (blk_cell BK201.out 0).trans rfl; have hcz27_1 : w25.cell? ⟨gb201, 1, none⟩ = some (.int .i64 0) := (blk_cell BK201.out 1).trans rfl; have hcz27_2 : w25.cell? ⟨gb201, 2, none⟩ = some (.bool false) := (blk_cell BK201.out 2).trans rfl; have hfz27_0 := blk_frozen BK201.out 0; have hfz27_1 := blk_frozen BK201.out 1; have hfz27_2 := blk_frozen BK201.out 2))
                        go_ret
                        exact ⟨ew_, by repeat (first | (with_reducible first | exact HB.out | apply below_alloc | apply pw_below_drewN | apply below_drew1 | refine below_set ?_ GE199.out | refine below_set ?_ GE201.out) | exact HB.out)⟩
                      · rw [if_neg c23] at H; have c23b0 : decide (1099511627775 < ((rd_T46 l0_1 x3_2).f1)) = false := decide_eq_false c23; clear c23; by_cases c28 : x3_2 = 0
                        · rw [if_pos c28] at H; have c28b0 : (x3_2 == 0) = true := beq_iff_eq.mpr c28; have c28b1 : (x3_2 != 0) = false := bne_eq_false_iff_eq.mpr c28; clear c28; obtain ⟨bq29, hbq29⟩ : ∃ b_ : Bool, b_ = ((rd_T46 l0_1 x3_2).f2) := ⟨_, rfl⟩; replace H : (if (bq29 = true) then (samphireref20_May.l0 k2 (wrap64 (x3_2 + 1)) a0_0 l0_1 a0_2) else (some false)) = some r := by rw [← hbq29] at H; exact H
                          have Nbq29 := Aside0.mk hbq29; clear hbq29; by_cases c30 : (bq29 = true)
                          · subst c30; have H1 : (samphireref20_May.l0 k2 (wrap64 (x3_2 + 1)) a0_0 l0_1 a0_2) = some r := by rw [if_pos rfl] at H; exact H
                            clear H; have H := H1; clear H1; have H' := Aside0.mk H; clear H; have hcz31_0 : wr.cell? ⟨gb199, 0, none⟩ = some (.int .i64 a0_0) := (blk_cell BK199.out 0).trans rfl; have hcz31_1 : wr.cell? ⟨gb199, 1, none⟩ = some (.slice A0_1 l0_1.length c0_1) := (blk_cell BK199.out 1).trans rfl; have hcz31_2 : wr.cell? ⟨gb199, 2, none⟩ = some (.int .i64 a0_2) := (blk_cell BK199.out 2).trans rfl; have hfz31_0 := blk_frozen BK199.out 0; have hfz31_1 := blk_frozen BK199.out 1; have hfz31_2 := blk_frozen BK199.out 2; have p200 : 0 ≤ (x3_2 : Int) := of_decide_eq_true as_'; have q200 : x3_2 < (l0_1.length : Int) := of_decide_eq_true as_'; obtain ⟨ad200, e200, hx200_0, hx200_1, hx200_2⟩ := at_T46 HR0_1.out x3_2 p200 q200
                            (try rw [← Nbq29.out] at hx200_2)
                            (try rw [← Nbq29.out] at hw200_2)
                            cases e200; replace hx200_0 := (HB.out.cell (World.block_lt_of_cell? w _ hx200_0)).trans hx200_0; replace hx200_1 := (HB.out.cell (World.block_lt_of_cell? w _ hx200_1)).trans hx200_1; replace hx200_2 := (HB.out.cell (World.block_lt_of_cell? w _ hx200_2)).trans hx200_2; replace p200 := eq_true p200; replace q200 := eq_true q200; go_wp2_with (first | ((with_reducible refine gate_dst (N := 4) rfl ?_); (try (refine gate_guard (by rfl) ?_; dsimp only)); refine box_event ?hg (N := 4) ?hd (cs := #[.int .i64 0, .int .i64 0, .bool false]) (t := 46) ?hr ?_; (case hd => rfl); (case hg => rfl); (case hr => first | (go_simp; done) | (go_simp; rfl)); intro gb201 hg w32 hbox hb; have n0_ := Aside0.mk (blk_below (g := gb199) (o := .cells #[.int .i64 a0_0, .slice (some ad200) l0_1.length c0_1, .int .i64 a0_2] 24 (0, 0)) (by (with_reducible repeat (first | refine blk_drewN ?_ _ | refine blk_drew ?_ | refine blk_alloc ?_ _)); exact BK199.out) hb); have n1_ := Aside0.mk (below_step (by repeat (first | (with_reducible first | exact HB.out | apply below_alloc | apply pw_below_drewN | apply below_drew1 | refine below_set ?_ GE199.out) | exact HB.out)) hb); have n2_ := Aside0.mk (hbox); have n3_ := Aside0.mk ((by rw [hg]; exact (below_size (by repeat (first | (with_reducible first | exact HB.out | apply below_alloc | apply pw_below_drewN | apply below_drew1 | refine below_set ?_ GE199.out) | exact HB.out))) : w.heap.size ≤ gb201)); have n4_ := Aside0.mk ((by rw [hg]; exact (below_size (by repeat (first | (with_reducible first | exact HB.out | apply below_alloc | apply pw_below_drewN | apply below_drew1 | refine below_set ?_ GE199.out) | exact HB.out))) : w.heap.size ≤ gb201)); have n5_ := Aside0.mk ((by rw [hg]; exact Nat.ne_of_lt (blk_lt (g := gb199) (o := .cells #[.int .i64 a0_0, .slice (some ad200) l0_1.length c0_1, .int .i64 a0_2] 24 (0, 0)) (by (with_reducible repeat (first | refine blk_drewN ?_ _ | refine blk_drew ?_ | refine blk_alloc ?_ _)); exact BK199.out)) : gb199 ≠ gb201)); have n6_ := Aside0.mk ((by rw [hg]; exact Nat.ne_of_gt (blk_lt (g := gb199) (o := .cells #[.int .i64 a0_0, .slice (some ad200) l0_1.length c0_1, .int .i64 a0_2] 24 (0, 0)) (by (with_reducible repeat (first | refine blk_drewN ?_ _ | refine blk_drew ?_ | refine blk_alloc ?_ _)); exact BK199.out)) : gb201 ≠ gb199)); clear BK199; clear HB; have BK199 := n0_; have HB := n1_; have BK201 := n2_; have GW201 := n3_; have GE201 := n4_; have NB199_201 := n5_; have NB201_199 := n6_; clear n0_ n1_ n2_ n3_ n4_ n5_ n6_; clear hb hbox hg; have hnb33 := NB201_199.out; have hnc33 := NB199_201.out; have hcz34_0 : w32.cell? ⟨gb201, 0, none⟩ = some (.int .i64 0) := (blk_cell BK201.out 0).trans rfl; have hcz34_1 : w32.cell? ⟨gb201, 1, none⟩ = some (.int .i64 0) := (blk_cell BK201.out 1).trans rfl; have hcz34_2 : w32.cell? ⟨gb201, 2, none⟩ = some (.bool false) := (blk_cell BK201.out 2).trans rfl; have hfz34_0 := blk_frozen BK201.out 0; have hfz34_1 := blk_frozen BK201.out 1; have hfz34_2 := blk_frozen BK201.out 2))
                            go_roundg k2
                            case measure => have := HJ1.out; have := HK2.out; omega
                            case rel => exact ⟨(wrap64 (x3_2 + 1)), rz_, H', ⟨by have := HJ1.out; have := HK2.out; omega⟩, ⟨by (with_reducible repeat (first | refine blk_drewN ?_ _ | refine blk_drew ?_ | refine blk_alloc ?_ _)); refine blk_far ?_ NB199_201.out _; (with_reducible repeat (first | refine blk_drewN ?_ _ | refine blk_drew ?_ | refine blk_alloc ?_ _)); refine blk_far ?_ NB199_201.out _; (with_reducible repeat (first | refine blk_drewN ?_ _ | refine blk_drew ?_ | refine blk_alloc ?_ _)); refine blk_far ?_ NB199_201.out _; (with_reducible repeat (first | refine blk_drewN ?_ _ | refine blk_drew ?_ | refine blk_alloc ?_ _)); exact BK199.out⟩, ⟨by repeat (first | (with_reducible first | exact HB.out | apply below_alloc | apply pw_below_drewN | apply below_drew1 | refine below_set ?_ GE199.out | refine below_set ?_ GE201.out) | exact HB.out)⟩⟩
                          · replace c30 := Bool.eq_false_iff.mpr c30; subst c30; have H1 : (some false) = some r := by rw [if_neg (show ¬ (false = true) by decide)] at H; exact H
                            clear H; have H := H1; clear H1; obtain rfl := Option.some.inj H; have hcz35_0 : wr.cell? ⟨gb199, 0, none⟩ = some (.int .i64 a0_0) := (blk_cell BK199.out 0).trans rfl; have hcz35_1 : wr.cell? ⟨gb199, 1, none⟩ = some (.slice A0_1 l0_1.length c0_1) := (blk_cell BK199.out 1).trans rfl; have hcz35_2 : wr.cell? ⟨gb199, 2, none⟩ = some (.int .i64 a0_2) := (blk_cell BK199.out 2).trans rfl; have hfz35_0 := blk_frozen BK199.out 0; have hfz35_1 := blk_frozen BK199.out 1; have hfz35_2 := blk_frozen BK199.out 2; have p200 : 0 ≤ (x3_2 : Int) := of_decide_eq_true as_'; have q200 : x3_2 < (l0_1.length : Int) := of_decide_eq_true as_'; obtain ⟨ad200, e200, hx200_0, hx200_1, hx200_2⟩ := at_T46 HR0_1.out x3_2 p200 q200
                            (try rw [← Nbq29.out] at hx200_2)
                            (try rw [← Nbq29.out] at hw200_2)
                            cases e200; replace hx200_0 := (HB.out.cell (World.block_lt_of_cell? w _ hx200_0)).trans hx200_0; replace hx200_1 := (HB.out.cell (World.block_lt_of_cell? w _ hx200_1)).trans hx200_1; replace hx200_2 := (HB.out.cell (World.block_lt_of_cell? w _ hx200_2)).trans hx200_2; replace p200 := eq_true p200; replace q200 := eq_true q200; go_wp2_with (first | ((with_reducible refine gate_dst (N := 4) rfl ?_); (try (refine gate_guard (by rfl) ?_; dsimp only)); refine box_event ?hg (N := 4) ?hd (cs := #[.int .i64 0, .int .i64 0, .bool false]) (t := 46) ?hr ?_; (case hd => rfl); (case hg => rfl); (case hr => first | (go_simp; done) | (go_simp; rfl)); intro gb201 hg w36 hbox hb; have n0_ := Aside0.mk (blk_below (g := gb199) (o := .cells #[.int .i64 a0_0, .slice (some ad200) l0_1.length c0_1, .int .i64 a0_2] 24 (0, 0)) (by (with_reducible repeat (first | refine blk_drewN ?_ _ | refine blk_drew ?_ | refine blk_alloc ?_ _)); exact BK199.out) hb); have n1_ := Aside0.mk (below_step (by repeat (first | (with_reducible first | exact HB.out | apply below_alloc | apply pw_below_drewN | apply below_drew1 | refine below_set ?_ GE199.out) | exact HB.out)) hb); have n2_ := Aside0.mk (hbox); have n3_ := Aside0.mk ((by rw [hg]; exact (below_size (by repeat (first | (with_reducible first | exact HB.out | apply below_alloc | apply pw_below_drewN | apply below_drew1 | refine below_set ?_ GE199.out) | exact HB.out))) : w.heap.size ≤ gb201)); have n4_ := Aside0.mk ((by rw [hg]; exact (below_size (by repeat (first | (with_reducible first | exact HB.out | apply below_alloc | apply pw_below_drewN | apply below_drew1 | refine below_set ?_ GE199.out) | exact HB.out))) : w.heap.size ≤ gb201)); have n5_ := Aside0.mk ((by rw [hg]; exact Nat.ne_of_lt (blk_lt (g := gb199) (o := .cells #[.int .i64 a0_0, .slice (some ad200) l0_1.length c0_1, .int .i64 a0_2] 24 (0, 0)) (by (with_reducible repeat (first | refine blk_drewN ?_ _ | refine blk_drew ?_ | refine blk_alloc ?_ _)); exact BK199.out)) : gb199 ≠ gb201)); have n6_ := Aside0.mk ((by rw [hg]; exact Nat.ne_of_gt (blk_lt (g := gb199) (o := .cells #[.int .i64 a0_0, .slice (some ad200) l0_1.length c0_1, .int .i64 a0_2] 24 (0, 0)) (by (with_reducible repeat (first | refine blk_drewN ?_ _ | refine blk_drew ?_ | refine blk_alloc ?_ _)); exact BK199.out)) : gb201 ≠ gb199)); clear BK199; clear HB; have BK199 := n0_; have HB := n1_; have BK201 := n2_; have GW201 := n3_; have GE201 := n4_; have NB199_201 := n5_; have NB201_199 := n6_; clear n0_ n1_ n2_ n3_ n4_ n5_ n6_; clear hb hbox hg; have hnb37 := NB201_199.out; have hnc37 := NB199_201.out; have hcz38_0 : w36.cell? ⟨gb201, 0, none⟩ = some (.int .i64 0) := (blk_cell BK201.out 0).trans rfl; have hcz38_1 : w36.cell? ⟨gb201, 1, none⟩ = some (.int .i64 0) := (blk_cell BK201.out 1).trans rfl; have hcz38_2 : w36.cell? ⟨gb201, 2, none⟩ = some (.bool false) := (blk_cell BK201.out 2).trans rfl; have hfz38_0 := blk_frozen BK201.out 0; have hfz38_1 := blk_frozen BK201.out 1; have hfz38_2 := blk_frozen BK201.out 2))
                            go_ret
                            exact ⟨ew_, by repeat (first | (with_reducible first | exact HB.out | apply below_alloc | apply pw_below_drewN | apply below_drew1 | refine below_set ?_ GE199.out | refine below_set ?_ GE201.out) | exact HB.out)⟩
                        · rw [if_neg c28] at H; have c28b0 : (x3_2 == 0) = false := beq_eq_false_iff_ne.mpr c28; have c28b1 : (x3_2 != 0) = true := bne_iff_ne.mpr c28; have H' := Aside0.mk H; clear H; have hcz39_0 : wr.cell? ⟨gb199, 0, none⟩ = some (.int .i64 a0_0) := (blk_cell BK199.out 0).trans rfl; have hcz39_1 : wr.cell? ⟨gb199, 1, none⟩ = some (.slice A0_1 l0_1.length c0_1) := (blk_cell BK199.out 1).trans rfl; have hcz39_2 : wr.cell? ⟨gb199, 2, none⟩ = some (.int .i64 a0_2) := (blk_cell BK199.out 2).trans rfl; have hfz39_0 := blk_frozen BK199.out 0; have hfz39_1 := blk_frozen BK199.out 1; have hfz39_2 := blk_frozen BK199.out 2; have p200 : 0 ≤ (x3_2 : Int) := of_decide_eq_true as_'; have q200 : x3_2 < (l0_1.length : Int) := of_decide_eq_true as_'; obtain ⟨ad200, e200, hx200_0, hx200_1, hx200_2⟩ := at_T46 HR0_1.out x3_2 p200 q200; cases e200; replace hx200_0 := (HB.out.cell (World.block_lt_of_cell? w _ hx200_0)).trans hx200_0; replace hx200_1 := (HB.out.cell (World.block_lt_of_cell? w _ hx200_1)).trans hx200_1; replace hx200_2 := (HB.out.cell (World.block_lt_of_cell? w _ hx200_2)).trans hx200_2; replace p200 := eq_true p200; replace q200 := eq_true q200; go_wp2_with (first | ((with_reducible refine gate_dst (N := 4) rfl ?_); (try (refine gate_guard (by rfl) ?_; dsimp only)); refine box_event ?hg (N := 4) ?hd (cs := #[.int .i64 0, .int .i64 0, .bool false]) (t := 46) ?hr ?_; (case hd => rfl); (case hg => rfl); (case hr => first | (go_simp; done) | (go_simp; rfl)); intro gb201 hg w40 hbox hb; have n0_ := Aside0.mk (blk_below (g := gb199) (o := .cells #[.int .i64 a0_0, .slice (some ad200) l0_1.length c0_1, .int .i64 a0_2] 24 (0, 0)) (by (with_reducible repeat (first | refine blk_drewN ?_ _ | refine blk_drew ?_ | refine blk_alloc ?_ _)); exact BK199.out) hb); have n1_ := Aside0.mk (below_step (by repeat (first | (with_reducible first | exact HB.out | apply below_alloc | apply pw_below_drewN | apply below_drew1 | refine below_set ?_ GE199.out) | exact HB.out)) hb); have n2_ := Aside0.mk (hbox); have n3_ := Aside0.mk ((by rw [hg]; exact (below_size (by repeat (first | (with_reducible first | exact HB.out | apply below_alloc | apply pw_below_drewN | apply below_drew1 | refine below_set ?_ GE199.out) | exact HB.out))) : w.heap.size ≤ gb201)); have n4_ := Aside0.mk ((by rw [hg]; exact (below_size (by repeat (first | (with_reducible first | exact HB.out | apply below_alloc | apply pw_below_drewN | apply below_drew1 | refine below_set ?_ GE199.out) | exact HB.out))) : w.heap.size ≤ gb201)); have n5_ := Aside0.mk ((by rw [hg]; exact Nat.ne_of_lt (blk_lt (g := gb199) (o := .cells #[.int .i64 a0_0, .slice (some ad200) l0_1.length c0_1, .int .i64 a0_2] 24 (0, 0)) (by (with_reducible repeat (first | refine blk_drewN ?_ _ | refine blk_drew ?_ | refine blk_alloc ?_ _)); exact BK199.out)) : gb199 ≠ gb201)); have n6_ := Aside0.mk ((by rw [hg]; exact Nat.ne_of_gt (blk_lt (g := gb199) (o := .cells #[.int .i64 a0_0, .slice (some ad200) l0_1.length c0_1, .int .i64 a0_2] 24 (0, 0)) (by (with_reducible repeat (first | refine blk_drewN ?_ _ | refine blk_drew ?_ | refine blk_alloc ?_ _)); exact BK199.out)) : gb201 ≠ gb199)); clear BK199; clear HB; have BK199 := n0_; have HB := n1_; have BK201 := n2_; have GW201 := n3_; have GE201 := n4_; have NB199_201 := n5_; have NB201_199 := n6_; clear n0_ n1_ n2_ n3_ n4_ n5_ n6_; clear hb hbox hg; have hnb41 := NB201_199.out; have hnc41 := NB199_201.out; have hcz42_0 : w40.cell? ⟨gb201, 0, none⟩ = some (.int .i64 0) := (blk_cell BK201.out 0).trans rfl; have hcz42_1 : w40.cell? ⟨gb201, 1, none⟩ = some (.int .i64 0) := (blk_cell BK201.out 1).trans rfl; have hcz42_2 : w40.cell? ⟨gb201, 2, none⟩ = some (.bool false) := (blk_cell BK201.out 2).trans rfl; have hfz42_0 := blk_frozen BK201.out 0; have hfz42_1 := blk_frozen BK201.out 1; have hfz42_2 := blk_frozen BK201.out 2))
                          go_roundg k2
                          case measure => have := HJ1.out; have := HK2.out; omega
                          case rel => exact ⟨(wrap64 (x3_2 + 1)), rz_, H', ⟨by have := HJ1.out; have := HK2.out; omega⟩, ⟨by (with_reducible repeat (first | refine blk_drewN ?_ _ | refine blk_drew ?_ | refine blk_alloc ?_ _)); refine blk_far ?_ NB199_201.out _; (with_reducible repeat (first | refine blk_drewN ?_ _ | refine blk_drew ?_ | refine blk_alloc ?_ _)); refine blk_far ?_ NB199_201.out _; (with_reducible repeat (first | refine blk_drewN ?_ _ | refine blk_drew ?_ | refine blk_alloc ?_ _)); refine blk_far ?_ NB199_201.out _; (with_reducible repeat (first | refine blk_drewN ?_ _ | refine blk_drew ?_ | refine blk_alloc ?_ _)); exact BK199.out⟩, ⟨by repeat (first | (with_reducible first | exact HB.out | apply below_alloc | apply pw_below_drewN | apply below_drew1 | refine below_set ?_ GE199.out | refine below_set ?_ GE201.out) | exact HB.out)⟩⟩
                  · rw [if_neg c17] at H; have c17b0 : ((wrap64 (((rd_T46 l0_1 x3_2).f0) - 1)) == x3_2) = false := beq_eq_false_iff_ne.mpr c17; have c17b1 : ((wrap64 (((rd_T46 l0_1 x3_2).f0) - 1)) != x3_2) = true := bne_iff_ne.mpr c17; obtain rfl := Option.some.inj H; have hcz43_0 : wr.cell? ⟨gb199, 0, none⟩ = some (.int .i64 a0_0) := (blk_cell BK199.out 0).trans rfl; have hcz43_1 : wr.cell? ⟨gb199, 1, none⟩ = some (.slice A0_1 l0_1.length c0_1) := (blk_cell BK199.out 1).trans rfl; have hcz43_2 : wr.cell? ⟨gb199, 2, none⟩ = some (.int .i64 a0_2) := (blk_cell BK199.out 2).trans rfl; have hfz43_0 := blk_frozen BK199.out 0; have hfz43_1 := blk_frozen BK199.out 1; have hfz43_2 := blk_frozen BK199.out 2; have p200 : 0 ≤ (x3_2 : Int) := of_decide_eq_true as_'; have q200 : x3_2 < (l0_1.length : Int) := of_decide_eq_true as_'; obtain ⟨ad200, e200, hx200_0, hx200_1, hx200_2⟩ := at_T46 HR0_1.out x3_2 p200 q200; cases e200; replace hx200_0 := (HB.out.cell (World.block_lt_of_cell? w _ hx200_0)).trans hx200_0; replace hx200_1 := (HB.out.cell (World.block_lt_of_cell? w _ hx200_1)).trans hx200_1; replace hx200_2 := (HB.out.cell (World.block_lt_of_cell? w _ hx200_2)).trans hx200_2; replace p200 := eq_true p200; replace q200 := eq_true q200; go_wp2_with (first | ((with_reducible refine gate_dst (N := 4) rfl ?_); (try (refine gate_guard (by rfl) ?_; dsimp only)); refine box_event ?hg (N := 4) ?hd (cs := #[.int .i64 0, .int .i64 0, .bool false]) (t := 46) ?hr ?_; (case hd => rfl); (case hg => rfl); (case hr => first | (go_simp; done) | (go_simp; rfl)); intro gb201 hg w44 hbox hb; have n0_ := Aside0.mk (blk_below (g := gb199) (o := .cells #[.int .i64 a0_0, .slice (some ad200) l0_1.length c0_1, .int .i64 a0_2] 24 (0, 0)) (by (with_reducible repeat (first | refine blk_drewN ?_ _ | refine blk_drew ?_ | refine blk_alloc ?_ _)); exact BK199.out) hb); have n1_ := Aside0.mk (below_step (by repeat (first | (with_reducible first | exact HB.out | apply below_alloc | apply pw_below_drewN | apply below_drew1 | refine below_set ?_ GE199.out) | exact HB.out)) hb); have n2_ := Aside0.mk (hbox); have n3_ := Aside0.mk ((by rw [hg]; exact (below_size (by repeat (first | (with_reducible first | exact HB.out | apply below_alloc | apply pw_below_drewN | apply below_drew1 | refine below_set ?_ GE199.out) | exact HB.out))) : w.heap.size ≤ gb201)); have n4_ := Aside0.mk ((by rw [hg]; exact (below_size (by repeat (first | (with_reducible first | exact HB.out | apply below_alloc | apply pw_below_drewN | apply below_drew1 | refine below_set ?_ GE199.out) | exact HB.out))) : w.heap.size ≤ gb201)); have n5_ := Aside0.mk ((by rw [hg]; exact Nat.ne_of_lt (blk_lt (g := gb199) (o := .cells #[.int .i64 a0_0, .slice (some ad200) l0_1.length c0_1, .int .i64 a0_2] 24 (0, 0)) (by (with_reducible repeat (first | refine blk_drewN ?_ _ | refine blk_drew ?_ | refine blk_alloc ?_ _)); exact BK199.out)) : gb199 ≠ gb201)); have n6_ := Aside0.mk ((by rw [hg]; exact Nat.ne_of_gt (blk_lt (g := gb199) (o := .cells #[.int .i64 a0_0, .slice (some ad200) l0_1.length c0_1, .int .i64 a0_2] 24 (0, 0)) (by (with_reducible repeat (first | refine blk_drewN ?_ _ | refine blk_drew ?_ | refine blk_alloc ?_ _)); exact BK199.out)) : gb201 ≠ gb199)); clear BK199; clear HB; have BK199 := n0_; have HB := n1_; have BK201 := n2_; have GW201 := n3_; have GE201 := n4_; have NB199_201 := n5_; have NB201_199 := n6_; clear n0_ n1_ n2_ n3_ n4_ n5_ n6_; clear hb hbox hg; have hnb45 := NB201_199.out; have hnc45 := NB199_201.out; have hcz46_0 : w44.cell? ⟨gb201, 0, none⟩ = some (.int .i64 0) := (blk_cell BK201.out 0).trans rfl; have hcz46_1 : w44.cell? ⟨gb201, 1, none⟩ = some (.int .i64 0) := (blk_cell BK201.out 1).trans rfl; have hcz46_2 : w44.cell? ⟨gb201, 2, none⟩ = some (.bool false) := (blk_cell BK201.out 2).trans rfl; have hfz46_0 := blk_frozen BK201.out 0; have hfz46_1 := blk_frozen BK201.out 1; have hfz46_2 := blk_frozen BK201.out 2))
                    go_ret
                    exact ⟨ew_, by repeat (first | (with_reducible first | exact HB.out | apply below_alloc | apply pw_below_drewN | apply below_drew1 | refine below_set ?_ GE199.out | refine below_set ?_ GE201.out) | exact HB.out)⟩
                · rw [if_neg c16] at H; exact absurd H (by simp)
              · rw [if_neg c15] at H; exact absurd H (by simp)
            · rw [if_neg c14] at H; have c14b0 : decide (x3_2 < 6) = false := decide_eq_false c14; clear c14; obtain rfl := Option.some.inj H; go_wp2; go_ret
              exact ⟨ew_, by repeat (first | (with_reducible first | exact HB.out | apply below_alloc | apply pw_below_drewN | apply below_drew1 | refine below_set ?_ GE199.out) | exact HB.out)⟩
end Go.Proofs.YthemhfloablccaaDoor.Pr
end

section
namespace Go.Proofs.YthemhfloablccaaDoor.Pr
open Go.RowKit Go.Proofs.YthemhfloablccaaDoorW.PrintWords Go.Proofs.YthemhfloablccaaDoorW.PrintLast Go.Proofs.YthemhfloablccaaDoorW.PrintMore
attribute [local go_sem] max2_int min2_int max_two min_two max_three min_three max_four min_four
def samphireref20_Take.l0 : Nat → Int → Int → List (S46) → Int → ByteArray → Int → Option (Int × (List (S46)) × Int × Int)
 | 0, _, _, _, _, _, _ => none
 | k + 1, x7, x437000, x437001, x437002, x441000, x441001 => if x7 ≤ 6 then ((samphireref09_InNum.f k x441000 x441001).bind fun bt444 => ((samphireref09_InByte.f k bt444.1 bt444.2.1).bind fun bt447 => (if bt447.2.2 > 1 then (some (0, ([] : List (S46)), 0, 91)) else (if x437001.length < 5864062014805 then (samphireref20_Take.l0 k (wrap64 (x7 + 1)) x437000 (x437001 ++ [(⟨x7, bt444.2.2, (bt447.2.2 == 1)⟩ : S46)]) x437002 bt447.1 bt447.2.1) else (none))))) else ((samphireref09_InDone.f x441000 x441001).bind fun t453 => (if t453 = 0 then ((samphireref20_May.f k x437000 x437001 x437002).bind fun t454 => (if t454 = true then (some (x437000, x437001, x437002, 0)) else (some (0, ([] : List (S46)), 0, 91)))) else (some (0, ([] : List (S46)), 0, 91))))
def samphireref20_Take.f (k : Nat) (a0 : ByteArray) : Option (Int × (List (S46)) × Int × Int) := (samphireref09_InNum.f k a0 0).bind fun bt437 => ((samphireref09_InNum.f k bt437.1 bt437.2.1).bind fun bt441 => (samphireref20_Take.l0 k 1 bt437.2.2 ([] : List (S46)) bt441.2.2 bt441.1 bt441.2.1))
set_option maxHeartbeats 8000000 in
set_option maxRecDepth 100000 in
theorem samphireref20_Take.calls (k : Nat) (a0 : ByteArray) (r1 : Int) (r2 : List (S46)) (r3 : Int) (r4 : Int) (w : World) (h : samphireref20_Take.f k a0 = some (r1, r2, r3, r4)) :
    Calls Tryd.prog 30 #[.string a0] w fun e w' => ∃ v1_ : Value, e = .returned (.tuple #[.agg #[.int .i64 r1, v1_, .int .i64 r3], .int .i64 r4]) ∧ Kd.R k46 46 w' w.heap.size (fun _ => True) v1_ r2 ∧ Below w.heap.size w w' := by
  have hu24 := Tryd.underlying24; have hu105 := Tryd.underlying105; have hu46 := Tryd.underlying46; have HB := Aside0.mk (Below.refl w.heap.size w); have H : ((samphireref09_InNum.f k a0 0).bind fun bt437 => ((samphireref09_InNum.f k bt437.1 bt437.2.1).bind fun bt441 => (samphireref20_Take.l0 k 1 bt437.2.2 ([] : List (S46)) bt441.2.2 bt441.1 bt441.2.1))) = some (r1, r2, r3, r4) := h; clear h; replace H := Option.bind_eq_some_iff.mp H; obtain ⟨⟨t437, t438, t439⟩, A20, H⟩ := H; try dsimp only at H
  have A2 := Aside0.mk A20; clear A20; replace H := Option.bind_eq_some_iff.mp H; obtain ⟨⟨t441, t442, t443⟩, A30, H⟩ := H; try dsimp only at H
  have A3 := Aside0.mk A30; clear A30; have H' := Aside0.mk H; clear H; go_enter Tryd.func30, Tryd.ntmps30
  go_wp2_with (first | ((with_reducible refine gate_dst (N := 2) rfl ?_); refine box_event ?hg (N := 2) ?hd (cs := #[.int .i64 0, .slice none 0 0, .int .i64 0]) (t := 24) ?hr ?_; (case hd => rfl); (case hg => rfl); (case hr => first | (go_simp; done) | (go_simp; rfl)); intro gb435 hg w4 hbox hb; have n0_ := Aside0.mk (below_step hb_ hb); have n1_ := Aside0.mk (hbox); have n2_ := Aside0.mk ((by rw [hg]; exact (below_size hb_) : w.heap.size ≤ gb435)); have n3_ := Aside0.mk ((by rw [hg]; exact (below_size hb_) : w.heap.size ≤ gb435)); clear HB; have HB := n0_; have BK435 := n1_; have GW435 := n2_; have GE435 := n3_; clear n0_ n1_ n2_ n3_; clear hb hbox hg) | ((with_reducible refine gate_dst (N := 4) rfl ?_); refine box_event ?hg (N := 4) ?hd (cs := #[.int .i64 0, .slice none 0 0, .int .i64 0]) (t := 24) ?hr ?_; (case hd => rfl); (case hg => rfl); (case hr => first | (go_simp; done) | (go_simp; rfl)); intro gb436 hg w5 hbox hb; have n0_ := Aside0.mk (blk_below (g := gb435) (o := .cells #[.int .i64 0, .slice none 0 0, .int .i64 0] 24 (0, 0)) (by (with_reducible repeat (first | refine blk_drewN ?_ _ | refine blk_drew ?_ | refine blk_alloc ?_ _)); exact BK435.out) hb); have n1_ := Aside0.mk (below_step (by repeat (first | (with_reducible first | exact HB.out | apply below_alloc | apply pw_below_drewN | apply below_drew1 | refine below_set ?_ GE435.out) | exact HB.out)) hb); have n2_ := Aside0.mk (hbox); have n3_ := Aside0.mk ((by rw [hg]; exact (below_size (by repeat (first | (with_reducible first | exact HB.out | apply below_alloc | apply pw_below_drewN | apply below_drew1 | refine below_set ?_ GE435.out) | exact HB.out))) : w.heap.size ≤ gb436)); have n4_ := Aside0.mk ((by rw [hg]; exact (below_size (by repeat (first | (with_reducible first | exact HB.out | apply below_alloc | apply pw_below_drewN | apply below_drew1 | refine below_set ?_ GE435.out) | exact HB.out))) : w.heap.size ≤ gb436)); have n5_ := Aside0.mk ((by rw [hg]; exact Nat.ne_of_lt (blk_lt (g := gb435) (o := .cells #[.int .i64 0, .slice none 0 0, .int .i64 0] 24 (0, 0)) (by (with_reducible repeat (first | refine blk_drewN ?_ _ | refine blk_drew ?_ | refine blk_alloc ?_ _)); exact BK435.out)) : gb435 ≠ gb436)); have n6_ := Aside0.mk ((by rw [hg]; exact Nat.ne_of_gt (blk_lt (g := gb435) (o := .cells #[.int .i64 0, .slice none 0 0, .int .i64 0] 24 (0, 0)) (by (with_reducible repeat (first | refine blk_drewN ?_ _ | refine blk_drew ?_ | refine blk_alloc ?_ _)); exact BK435.out)) : gb436 ≠ gb435)); clear BK435; clear HB; have BK435 := n0_; have HB := n1_; have BK436 := n2_; have GW436 := n3_; have GE436 := n4_; have NB435_436 := n5_; have NB436_435 := n6_; clear n0_ n1_ n2_ n3_ n4_ n5_ n6_; clear hb hbox hg; have hnb6 := NB436_435.out; have hnc6 := NB435_436.out; have hcz7_0 : w5.cell? ⟨gb436, 0, none⟩ = some (.int .i64 0) := (blk_cell BK436.out 0).trans rfl; have hcz7_1 : w5.cell? ⟨gb436, 1, none⟩ = some (.slice none 0 0) := (blk_cell BK436.out 1).trans rfl; have hcz7_2 : w5.cell? ⟨gb436, 2, none⟩ = some (.int .i64 0) := (blk_cell BK436.out 2).trans rfl; have hfz7_0 := blk_frozen BK436.out 0; have hfz7_1 := blk_frozen BK436.out 1; have hfz7_2 := blk_frozen BK436.out 2) | ((with_reducible refine gate_callee (f := 67) rfl ?_); refine gl_ 14 Tryd.func67 #[.agg #[.string a0, .int .i64 0]] ?_; (with_reducible refine (samphireref09_InNum.calls k a0 0 t437 t438 t439 _ A2.out).mono ?_); rintro e w8 ⟨rfl, hb⟩; refine ⟨_, rfl, ?_⟩; have n0_ := Aside0.mk (blk_below (g := gb435) (o := .cells #[.int .i64 0, .slice none 0 0, .int .i64 0] 24 (0, 0)) (by (with_reducible repeat (first | refine blk_drewN ?_ _ | refine blk_drew ?_ | refine blk_alloc ?_ _)); refine blk_far ?_ NB435_436.out _; (with_reducible repeat (first | refine blk_drewN ?_ _ | refine blk_drew ?_ | refine blk_alloc ?_ _)); refine blk_far ?_ NB435_436.out _; (with_reducible repeat (first | refine blk_drewN ?_ _ | refine blk_drew ?_ | refine blk_alloc ?_ _)); refine blk_far ?_ NB435_436.out _; (with_reducible repeat (first | refine blk_drewN ?_ _ | refine blk_drew ?_ | refine blk_alloc ?_ _)); exact BK435.out) hb); have n1_ := Aside0.mk (blk_below (g := gb436) (o := .cells #[.int .i64 0, .slice none 0 0, .int .i64 0] 24 (0, 0)) (by (with_reducible repeat (first | refine blk_drewN ?_ _ | refine blk_drew ?_ | refine blk_alloc ?_ _)); refine blk_put (cs := #[.int .i64 0, .slice none 0 0, .int .i64 0]) ?_ 2 _ rfl; (with_reducible repeat (first | refine blk_drewN ?_ _ | refine blk_drew ?_ | refine blk_alloc ?_ _)); refine blk_put (cs := #[.int .i64 0, .slice none 0 0, .int .i64 0]) ?_ 1 _ rfl; (with_reducible repeat (first | refine blk_drewN ?_ _ | refine blk_drew ?_ | refine blk_alloc ?_ _)); refine blk_put (cs := #[.int .i64 0, .slice none 0 0, .int .i64 0]) ?_ 0 _ rfl; (with_reducible repeat (first | refine blk_drewN ?_ _ | refine blk_drew ?_ | refine blk_alloc ?_ _)); exact BK436.out) hb); have n2_ := Aside0.mk (below_step (by repeat (first | (with_reducible first | exact HB.out | apply below_alloc | apply pw_below_drewN | apply below_drew1 | refine below_set ?_ GE435.out | refine below_set ?_ GE436.out) | exact HB.out)) hb); clear BK435; clear BK436; clear HB; have BK435 := n0_; have BK436 := n1_; have HB := n2_; clear n0_ n1_ n2_) | ((with_reducible refine gate_dst (N := 5) rfl ?_); refine box_event ?hg (N := 5) ?hd (cs := #[.string (⟨#[]⟩ : ByteArray), .int .i64 0]) (t := 105) ?hr ?_; (case hd => rfl); (case hg => rfl); (case hr => first | (go_simp; done) | (go_simp; rfl)); intro gb440 hg w9 hbox hb; have n0_ := Aside0.mk (blk_below (g := gb435) (o := .cells #[.int .i64 0, .slice none 0 0, .int .i64 0] 24 (0, 0)) (by (with_reducible repeat (first | refine blk_drewN ?_ _ | refine blk_drew ?_ | refine blk_alloc ?_ _)); exact BK435.out) hb); have n1_ := Aside0.mk (blk_below (g := gb436) (o := .cells #[.int .i64 0, .slice none 0 0, .int .i64 0] 24 (0, 0)) (by (with_reducible repeat (first | refine blk_drewN ?_ _ | refine blk_drew ?_ | refine blk_alloc ?_ _)); exact BK436.out) hb); have n2_ := Aside0.mk (below_step (by repeat (first | (with_reducible first | exact HB.out | apply below_alloc | apply pw_below_drewN | apply below_drew1 | refine below_set ?_ GE435.out | refine below_set ?_ GE436.out) | exact HB.out)) hb); have n3_ := Aside0.mk (hbox); have n4_ := Aside0.mk ((by rw [hg]; exact (below_size (by repeat (first | (with_reducible first | exact HB.out | apply below_alloc | apply pw_below_drewN | apply below_drew1 | refine below_set ?_ GE435.out | refine below_set ?_ GE436.out) | exact HB.out))) : w.heap.size ≤ gb440)); have n5_ := Aside0.mk ((by rw [hg]; exact (below_size (by repeat (first | (with_reducible first | exact HB.out | apply below_alloc | apply pw_below_drewN | apply below_drew1 | refine below_set ?_ GE435.out | refine below_set ?_ GE436.out) | exact HB.out))) : w.heap.size ≤ gb440)); have n6_ := Aside0.mk ((by rw [hg]; exact Nat.ne_of_lt (blk_lt (g := gb435) (o := .cells #[.int .i64 0, .slice none 0 0, .int .i64 0] 24 (0, 0)) (by (with_reducible repeat (first | refine blk_drewN ?_ _ | refine blk_drew ?_ | refine blk_alloc ?_ _)); exact BK435.out)) : gb435 ≠ gb440)); have n7_ := Aside0.mk ((by rw [hg]; exact Nat.ne_of_gt (blk_lt (g := gb435) (o := .cells #[.int .i64 0, .slice none 0 0, .int .i64 0] 24 (0, 0)) (by (with_reducible repeat (first | refine blk_drewN ?_ _ | refine blk_drew ?_ | refine blk_alloc ?_ _)); exact BK435.out)) : gb440 ≠ gb435)); have n8_ := Aside0.mk ((by rw [hg]; exact Nat.ne_of_lt (blk_lt (g := gb436) (o := .cells #[.int .i64 0, .slice none 0 0, .int .i64 0] 24 (0, 0)) (by (with_reducible repeat (first | refine blk_drewN ?_ _ | refine blk_drew ?_ | refine blk_alloc ?_ _)); exact BK436.out)) : gb436 ≠ gb440)); have n9_ := Aside0.mk ((by rw [hg]; exact Nat.ne_of_gt (blk_lt (g := gb436) (o := .cells #[.int .i64 0, .slice none 0 0, .int .i64 0] 24 (0, 0)) (by (with_reducible repeat (first | refine blk_drewN ?_ _ | refine blk_drew ?_ | refine blk_alloc ?_ _)); exact BK436.out)) : gb440 ≠ gb436)); clear BK435; clear BK436; clear HB; have BK435 := n0_; have BK436 := n1_; have HB := n2_; have BK440 := n3_; have GW440 := n4_; have GE440 := n5_; have NB435_440 := n6_; have NB440_435 := n7_; have NB436_440 := n8_; have NB440_436 := n9_; clear n0_ n1_ n2_ n3_ n4_ n5_ n6_ n7_ n8_ n9_; clear hb hbox hg; have hnb10 := NB440_435.out; have hnc10 := NB435_440.out; have hnb11 := NB440_436.out; have hnc11 := NB436_440.out; have hcz12_0 : w9.cell? ⟨gb440, 0, none⟩ = some (.string (⟨#[]⟩ : ByteArray)) := (blk_cell BK440.out 0).trans rfl; have hcz12_1 : w9.cell? ⟨gb440, 1, none⟩ = some (.int .i64 0) := (blk_cell BK440.out 1).trans rfl; have hfz12_0 := blk_frozen BK440.out 0; have hfz12_1 := blk_frozen BK440.out 1; have hcz13_0 : w9.cell? ⟨gb436, 0, none⟩ = some (.int .i64 0) := (blk_cell BK436.out 0).trans rfl; have hcz13_1 : w9.cell? ⟨gb436, 1, none⟩ = some (.slice none 0 0) := (blk_cell BK436.out 1).trans rfl; have hcz13_2 : w9.cell? ⟨gb436, 2, none⟩ = some (.int .i64 0) := (blk_cell BK436.out 2).trans rfl; have hfz13_0 := blk_frozen BK436.out 0; have hfz13_1 := blk_frozen BK436.out 1; have hfz13_2 := blk_frozen BK436.out 2) | ((with_reducible refine gate_callee (f := 67) rfl ?_); refine gl_ 21 Tryd.func67 #[.agg #[.string t437, .int .i64 t438]] ?_; (with_reducible refine (samphireref09_InNum.calls k t437 t438 t441 t442 t443 _ A3.out).mono ?_); rintro e w14 ⟨rfl, hb⟩; refine ⟨_, rfl, ?_⟩; have n0_ := Aside0.mk (blk_below (g := gb435) (o := .cells #[.int .i64 0, .slice none 0 0, .int .i64 0] 24 (0, 0)) (by (with_reducible repeat (first | refine blk_drewN ?_ _ | refine blk_drew ?_ | refine blk_alloc ?_ _)); refine blk_far ?_ NB435_436.out _; (with_reducible repeat (first | refine blk_drewN ?_ _ | refine blk_drew ?_ | refine blk_alloc ?_ _)); refine blk_far ?_ NB435_440.out _; (with_reducible repeat (first | refine blk_drewN ?_ _ | refine blk_drew ?_ | refine blk_alloc ?_ _)); refine blk_far ?_ NB435_440.out _; (with_reducible repeat (first | refine blk_drewN ?_ _ | refine blk_drew ?_ | refine blk_alloc ?_ _)); exact BK435.out) hb); have n1_ := Aside0.mk (blk_below (g := gb436) (o := .cells #[.int .i64 t439, .slice none 0 0, .int .i64 0] 24 (0, 0)) (by (with_reducible repeat (first | refine blk_drewN ?_ _ | refine blk_drew ?_ | refine blk_alloc ?_ _)); refine blk_put (cs := #[.int .i64 0, .slice none 0 0, .int .i64 0]) ?_ 0 _ rfl; (with_reducible repeat (first | refine blk_drewN ?_ _ | refine blk_drew ?_ | refine blk_alloc ?_ _)); refine blk_far ?_ NB436_440.out _; (with_reducible repeat (first | refine blk_drewN ?_ _ | refine blk_drew ?_ | refine blk_alloc ?_ _)); refine blk_far ?_ NB436_440.out _; (with_reducible repeat (first | refine blk_drewN ?_ _ | refine blk_drew ?_ | refine blk_alloc ?_ _)); exact BK436.out) hb); have n2_ := Aside0.mk (blk_below (g := gb440) (o := .cells #[.string t437, .int .i64 t438] 105 (0, 0)) (by (with_reducible repeat (first | refine blk_drewN ?_ _ | refine blk_drew ?_ | refine blk_alloc ?_ _)); refine blk_far ?_ NB440_436.out _; (with_reducible repeat (first | refine blk_drewN ?_ _ | refine blk_drew ?_ | refine blk_alloc ?_ _)); refine blk_put (cs := #[.string t437, .int .i64 0]) ?_ 1 _ rfl; (with_reducible repeat (first | refine blk_drewN ?_ _ | refine blk_drew ?_ | refine blk_alloc ?_ _)); refine blk_put (cs := #[.string (⟨#[]⟩ : ByteArray), .int .i64 0]) ?_ 0 _ rfl; (with_reducible repeat (first | refine blk_drewN ?_ _ | refine blk_drew ?_ | refine blk_alloc ?_ _)); exact BK440.out) hb); have n3_ := Aside0.mk (below_step (by repeat (first | (with_reducible first | exact HB.out | apply below_alloc | apply pw_below_drewN | apply below_drew1 | refine below_set ?_ GE435.out | refine below_set ?_ GE436.out | refine below_set ?_ GE440.out) | exact HB.out)) hb); clear BK435; clear BK436; clear BK440; clear HB; have BK435 := n0_; have BK436 := n1_; have BK440 := n2_; have HB := n3_; clear n0_ n1_ n2_ n3_; have hcz15_0 : w14.cell? ⟨gb440, 0, none⟩ = some (.string t437) := (blk_cell BK440.out 0).trans rfl; have hcz15_1 : w14.cell? ⟨gb440, 1, none⟩ = some (.int .i64 t438) := (blk_cell BK440.out 1).trans rfl; have hfz15_0 := blk_frozen BK440.out 0; have hfz15_1 := blk_frozen BK440.out 1; have hcz16_0 : w14.cell? ⟨gb436, 0, none⟩ = some (.int .i64 t439) := (blk_cell BK436.out 0).trans rfl; have hcz16_1 : w14.cell? ⟨gb436, 1, none⟩ = some (.slice none 0 0) := (blk_cell BK436.out 1).trans rfl; have hcz16_2 : w14.cell? ⟨gb436, 2, none⟩ = some (.int .i64 0) := (blk_cell BK436.out 2).trans rfl; have hfz16_0 := blk_frozen BK436.out 0; have hfz16_1 := blk_frozen BK436.out 1; have hfz16_2 := blk_frozen BK436.out 2))
  go_loopg [7] k (fun kq v7 w' => ∃ (x7_1 : Int) (x436000_1 : Int) (x436002_1 : Int) (x437001_1 : List (S46)) (x441000_1 : ByteArray) (x441001_1 : Int) (u437001 : Value), v7 = .int .i64 x7_1 ∧ Aside0 (samphireref20_Take.l0 kq x7_1 t439 x437001_1 t443 x441000_1 x441001_1 = some (r1, r2, r3, r4)) ∧ Aside0 (kq ≤ k) ∧ Aside0 (Kd.R k46 46 w' w.heap.size (fun _ => True) u437001 x437001_1) ∧ Aside0 (w'.heap[gb435]? = some (.cells #[.int .i64 x436000_1, (.slice none 0 0), .int .i64 x436002_1] 24 (0, 0))) ∧ Aside0 (w'.heap[gb436]? = some (.cells #[.int .i64 t439, u437001, .int .i64 t443] 24 (0, 0))) ∧ Aside0 (w'.heap[gb440]? = some (.cells #[.string x441000_1, .int .i64 x441001_1] 105 (0, 0))) ∧ Aside0 (Below w.heap.size w w'))
  case atStart => exact ⟨(1), (0), (0), (([] : List (S46))), (t441), (t442), (.slice none 0 0), rz_, H', ⟨Nat.le_refl _⟩, ⟨by first | exact Kd.R_nil _ _ _ _ _ | exact Kd.N_nil _ _ _ _ _ | exact Kd.V_nil _ _ _ _ _ | exact Kd.Q_nil _ _ _ _ _ | exact Kd.S_nil _ _ _ _ _⟩, ⟨by (with_reducible repeat (first | refine blk_drewN ?_ _ | refine blk_drew ?_ | refine blk_alloc ?_ _)); refine blk_far ?_ NB435_436.out _; (with_reducible repeat (first | refine blk_drewN ?_ _ | refine blk_drew ?_ | refine blk_alloc ?_ _)); refine blk_far ?_ NB435_440.out _; (with_reducible repeat (first | refine blk_drewN ?_ _ | refine blk_drew ?_ | refine blk_alloc ?_ _)); refine blk_far ?_ NB435_440.out _; (with_reducible repeat (first | refine blk_drewN ?_ _ | refine blk_drew ?_ | refine blk_alloc ?_ _)); exact BK435.out⟩, ⟨by (with_reducible repeat (first | refine blk_drewN ?_ _ | refine blk_drew ?_ | refine blk_alloc ?_ _)); refine blk_put (cs := #[.int .i64 t439, .slice none 0 0, .int .i64 0]) ?_ 2 _ rfl; (with_reducible repeat (first | refine blk_drewN ?_ _ | refine blk_drew ?_ | refine blk_alloc ?_ _)); refine blk_far ?_ NB436_440.out _; (with_reducible repeat (first | refine blk_drewN ?_ _ | refine blk_drew ?_ | refine blk_alloc ?_ _)); refine blk_far ?_ NB436_440.out _; (with_reducible repeat (first | refine blk_drewN ?_ _ | refine blk_drew ?_ | refine blk_alloc ?_ _)); exact BK436.out⟩, ⟨by (with_reducible repeat (first | refine blk_drewN ?_ _ | refine blk_drew ?_ | refine blk_alloc ?_ _)); refine blk_far ?_ NB440_436.out _; (with_reducible repeat (first | refine blk_drewN ?_ _ | refine blk_drew ?_ | refine blk_alloc ?_ _)); refine blk_put (cs := #[.string t441, .int .i64 t438]) ?_ 1 _ rfl; (with_reducible repeat (first | refine blk_drewN ?_ _ | refine blk_drew ?_ | refine blk_alloc ?_ _)); refine blk_put (cs := #[.string t437, .int .i64 t438]) ?_ 0 _ rfl; (with_reducible repeat (first | refine blk_drewN ?_ _ | refine blk_drew ?_ | refine blk_alloc ?_ _)); exact BK440.out⟩, ⟨by repeat (first | (with_reducible first | exact HB.out | apply below_alloc | apply pw_below_drewN | apply below_drew1 | refine below_set ?_ GE435.out | refine below_set ?_ GE436.out | refine below_set ?_ GE440.out) | exact HB.out)⟩⟩
  case round =>
    clear H'; obtain ⟨x7_1, x436000_1, x436002_1, x437001_1, x441000_1, x441001_1, u437001, rfl, HA, HK1, HO_437001, BK435, BK436, BK440, HB⟩ := hrel; cases gk with
    | zero => exact absurd HA.out (by simp [samphireref20_Take.l0])
    | succ k1 =>
      have H := HA.out; clear HA; simp only [samphireref20_Take.l0] at H; by_cases c17 : x7_1 ≤ 6
      · rw [if_pos c17] at H; have c17b0 : decide (x7_1 ≤ 6) = true := decide_eq_true c17; clear c17; replace H := Option.bind_eq_some_iff.mp H; obtain ⟨⟨t444, t445, t446⟩, A180, H⟩ := H; try dsimp only at H
        have A18 := Aside0.mk A180; clear A180; replace H := Option.bind_eq_some_iff.mp H; obtain ⟨⟨t447, t448, t449⟩, A190, H⟩ := H; try dsimp only at H
        have A19 := Aside0.mk A190; clear A190; by_cases c20 : t449 > 1
        · rw [if_pos c20] at H; have c20b0 : decide (1 < t449) = true := decide_eq_true c20; clear c20; simp only [Option.some.injEq, Prod.mk.injEq] at H; obtain ⟨rfl, rfl, rfl, rfl⟩ := H; have hnb21 := NB440_435.out; have hnc21 := NB435_440.out; have hnb22 := NB440_436.out; have hnc22 := NB436_440.out; have hcz23_0 : wr.cell? ⟨gb440, 0, none⟩ = some (.string x441000_1) := (blk_cell BK440.out 0).trans rfl; have hcz23_1 : wr.cell? ⟨gb440, 1, none⟩ = some (.int .i64 x441001_1) := (blk_cell BK440.out 1).trans rfl; have hfz23_0 := blk_frozen BK440.out 0; have hfz23_1 := blk_frozen BK440.out 1; go_wp2_with (first | ((with_reducible refine gate_callee (f := 67) rfl ?_); refine gl_ 31 Tryd.func67 #[.agg #[.string x441000_1, .int .i64 x441001_1]] ?_; (with_reducible refine (samphireref09_InNum.calls k1 x441000_1 x441001_1 t444 t445 t446 _ A18.out).mono ?_); rintro e w24 ⟨rfl, hb⟩; refine ⟨_, rfl, ?_⟩; have n0_ := Aside0.mk (Kd.R_below (ra_ HO_437001.out) hb); have n1_ := Aside0.mk (blk_below (g := gb435) (o := .cells #[.int .i64 x436000_1, .slice none 0 0, .int .i64 x436002_1] 24 (0, 0)) (by (with_reducible repeat (first | refine blk_drewN ?_ _ | refine blk_drew ?_ | refine blk_alloc ?_ _)); exact BK435.out) hb); have n2_ := Aside0.mk (blk_below (g := gb436) (o := .cells #[.int .i64 t439, u437001, .int .i64 t443] 24 (0, 0)) (by (with_reducible repeat (first | refine blk_drewN ?_ _ | refine blk_drew ?_ | refine blk_alloc ?_ _)); exact BK436.out) hb); have n3_ := Aside0.mk (blk_below (g := gb440) (o := .cells #[.string x441000_1, .int .i64 x441001_1] 105 (0, 0)) (by (with_reducible repeat (first | refine blk_drewN ?_ _ | refine blk_drew ?_ | refine blk_alloc ?_ _)); exact BK440.out) hb); have n4_ := Aside0.mk (below_step (by repeat (first | (with_reducible first | exact HB.out | apply below_alloc | apply pw_below_drewN | apply below_drew1 | refine below_set ?_ GE435.out | refine below_set ?_ GE436.out | refine below_set ?_ GE440.out) | exact HB.out)) hb); clear HO_437001; clear BK435; clear BK436; clear BK440; clear HB; have HO_437001 := n0_; have BK435 := n1_; have BK436 := n2_; have BK440 := n3_; have HB := n4_; clear n0_ n1_ n2_ n3_ n4_; have hcz25_0 : w24.cell? ⟨gb440, 0, none⟩ = some (.string x441000_1) := (blk_cell BK440.out 0).trans rfl; have hcz25_1 : w24.cell? ⟨gb440, 1, none⟩ = some (.int .i64 x441001_1) := (blk_cell BK440.out 1).trans rfl; have hfz25_0 := blk_frozen BK440.out 0; have hfz25_1 := blk_frozen BK440.out 1) | ((with_reducible refine gate_callee (f := 68) rfl ?_); refine gl_ 36 Tryd.func68 #[.agg #[.string t444, .int .i64 t445]] ?_; (with_reducible refine (samphireref09_InByte.calls k1 t444 t445 t447 t448 t449 _ A19.out).mono ?_); rintro e w26 ⟨rfl, hb⟩; refine ⟨_, rfl, ?_⟩; have n0_ := Aside0.mk (Kd.R_below (by (with_reducible repeat (first | apply Kd.R_alloc | apply Kd.R_drewN | apply Kd.R_drew)); exact (Kd.R_mono (Kd.R_far (p := ⟨gb440, 1, none⟩) (Kd.R_far (p := ⟨gb440, 0, none⟩) (Kd.R_types HO_437001.out BK440.out (by decide)) (fun _ hk => hk.2) (.string t444)) (fun _ hk => hk.2) (.int .i64 t445)) (fun _ h_ => h_.1))) hb); have n1_ := Aside0.mk (blk_below (g := gb435) (o := .cells #[.int .i64 x436000_1, .slice none 0 0, .int .i64 x436002_1] 24 (0, 0)) (by (with_reducible repeat (first | refine blk_drewN ?_ _ | refine blk_drew ?_ | refine blk_alloc ?_ _)); refine blk_far ?_ NB435_440.out _; (with_reducible repeat (first | refine blk_drewN ?_ _ | refine blk_drew ?_ | refine blk_alloc ?_ _)); refine blk_far ?_ NB435_440.out _; (with_reducible repeat (first | refine blk_drewN ?_ _ | refine blk_drew ?_ | refine blk_alloc ?_ _)); exact BK435.out) hb); have n2_ := Aside0.mk (blk_below (g := gb436) (o := .cells #[.int .i64 t439, u437001, .int .i64 t443] 24 (0, 0)) (by (with_reducible repeat (first | refine blk_drewN ?_ _ | refine blk_drew ?_ | refine blk_alloc ?_ _)); refine blk_far ?_ NB436_440.out _; (with_reducible repeat (first | refine blk_drewN ?_ _ | refine blk_drew ?_ | refine blk_alloc ?_ _)); refine blk_far ?_ NB436_440.out _; (with_reducible repeat (first | refine blk_drewN ?_ _ | refine blk_drew ?_ | refine blk_alloc ?_ _)); exact BK436.out) hb); have n3_ := Aside0.mk (blk_below (g := gb440) (o := .cells #[.string t444, .int .i64 t445] 105 (0, 0)) (by (with_reducible repeat (first | refine blk_drewN ?_ _ | refine blk_drew ?_ | refine blk_alloc ?_ _)); refine blk_put (cs := #[.string t444, .int .i64 x441001_1]) ?_ 1 _ rfl; (with_reducible repeat (first | refine blk_drewN ?_ _ | refine blk_drew ?_ | refine blk_alloc ?_ _)); refine blk_put (cs := #[.string x441000_1, .int .i64 x441001_1]) ?_ 0 _ rfl; (with_reducible repeat (first | refine blk_drewN ?_ _ | refine blk_drew ?_ | refine blk_alloc ?_ _)); exact BK440.out) hb); have n4_ := Aside0.mk (below_step (by repeat (first | (with_reducible first | exact HB.out | apply below_alloc | apply pw_below_drewN | apply below_drew1 | refine below_set ?_ GE435.out | refine below_set ?_ GE436.out | refine below_set ?_ GE440.out) | exact HB.out)) hb); clear HO_437001; clear BK435; clear BK436; clear BK440; clear HB; have HO_437001 := n0_; have BK435 := n1_; have BK436 := n2_; have BK440 := n3_; have HB := n4_; clear n0_ n1_ n2_ n3_ n4_; have hcz27_0 : w26.cell? ⟨gb440, 0, none⟩ = some (.string t444) := (blk_cell BK440.out 0).trans rfl; have hcz27_1 : w26.cell? ⟨gb440, 1, none⟩ = some (.int .i64 t445) := (blk_cell BK440.out 1).trans rfl; have hfz27_0 := blk_frozen BK440.out 0; have hfz27_1 := blk_frozen BK440.out 1; have hnb28 := NB435_436.out; have hnc28 := NB436_435.out; have hcz29_0 : w26.cell? ⟨gb435, 0, none⟩ = some (.int .i64 x436000_1) := (blk_cell BK435.out 0).trans rfl; have hcz29_1 : w26.cell? ⟨gb435, 1, none⟩ = some (.slice none 0 0) := (blk_cell BK435.out 1).trans rfl; have hcz29_2 : w26.cell? ⟨gb435, 2, none⟩ = some (.int .i64 x436002_1) := (blk_cell BK435.out 2).trans rfl; have hfz29_0 := blk_frozen BK435.out 0; have hfz29_1 := blk_frozen BK435.out 1; have hfz29_2 := blk_frozen BK435.out 2))
          refine bodyPost_ret (results_ct rfl _ _ gb435 24 #[.int .i64 0, .slice none 0 0, .int .i64 0] (0, 0) _ rfl (by (with_reducible repeat (first | refine blk_drewN ?_ _ | refine blk_drew ?_ | refine blk_alloc ?_ _)); refine blk_put (cs := #[.int .i64 0, .slice none 0 0, .int .i64 x436002_1]) ?_ 2 _ rfl; (with_reducible repeat (first | refine blk_drewN ?_ _ | refine blk_drew ?_ | refine blk_alloc ?_ _)); refine blk_put (cs := #[.int .i64 0, .slice none 0 0, .int .i64 x436002_1]) ?_ 1 _ rfl; (with_reducible repeat (first | refine blk_drewN ?_ _ | refine blk_drew ?_ | refine blk_alloc ?_ _)); refine blk_put (cs := #[.int .i64 x436000_1, .slice none 0 0, .int .i64 x436002_1]) ?_ 0 _ rfl; (with_reducible repeat (first | refine blk_drewN ?_ _ | refine blk_drew ?_ | refine blk_alloc ?_ _)); refine blk_far ?_ NB435_440.out _; (with_reducible repeat (first | refine blk_drewN ?_ _ | refine blk_drew ?_ | refine blk_alloc ?_ _)); refine blk_far ?_ NB435_440.out _; (with_reducible repeat (first | refine blk_drewN ?_ _ | refine blk_drew ?_ | refine blk_alloc ?_ _)); exact BK435.out) Tryd.underlying24 rfl (by kernel_rfl)) rfl ?_; exact ⟨_, ew_, by first | exact Kd.R_nil _ _ _ _ _ | exact Kd.N_nil _ _ _ _ _ | exact Kd.V_nil _ _ _ _ _ | exact Kd.Q_nil _ _ _ _ _ | exact Kd.S_nil _ _ _ _ _, by repeat (first | (with_reducible first | exact HB.out | apply below_alloc | apply pw_below_drewN | apply below_drew1 | refine below_set ?_ GE435.out | refine below_set ?_ GE436.out | refine below_set ?_ GE440.out) | exact HB.out)⟩
        · rw [if_neg c20] at H; have c20b0 : decide (1 < t449) = false := decide_eq_false c20; clear c20; by_cases c30 : x437001_1.length < 5864062014805
          · rw [if_pos c30] at H; have LMc30 := Aside0.mk c30; clear c30; obtain ⟨y450, hy450⟩ : ∃ y_ : List (S46), y_ = (x437001_1 ++ [(⟨x7_1, t446, (t449 == 1)⟩ : S46)]) := ⟨_, rfl⟩; replace H : (samphireref20_Take.l0 k1 (wrap64 (x7_1 + 1)) t439 y450 t443 t447 t448) = some (r1, r2, r3, r4) := by first | (rw [hy450]; with_reducible exact H) | (have H2_ := (Option.bind_some _ _).symm.trans H; rw [hy450]; with_reducible exact H2_) | (have H2_ := (Option.bind_some _ _).symm.trans H; with_reducible exact H2_) | with_reducible exact H | (rw [hy450]; exact H) | exact H
            have Ny450 := Aside0.mk hy450; clear hy450; have H' := Aside0.mk H; clear H; have hnb31 := NB440_435.out; have hnc31 := NB435_440.out; have hnb32 := NB440_436.out; have hnc32 := NB436_440.out; have hcz33_0 : wr.cell? ⟨gb440, 0, none⟩ = some (.string x441000_1) := (blk_cell BK440.out 0).trans rfl; have hcz33_1 : wr.cell? ⟨gb440, 1, none⟩ = some (.int .i64 x441001_1) := (blk_cell BK440.out 1).trans rfl; have hfz33_0 := blk_frozen BK440.out 0; have hfz33_1 := blk_frozen BK440.out 1; go_wp2_with (first | ((with_reducible refine gate_callee (f := 67) rfl ?_); refine gl_ 31 Tryd.func67 #[.agg #[.string x441000_1, .int .i64 x441001_1]] ?_; (with_reducible refine (samphireref09_InNum.calls k1 x441000_1 x441001_1 t444 t445 t446 _ A18.out).mono ?_); rintro e w34 ⟨rfl, hb⟩; refine ⟨_, rfl, ?_⟩; have n0_ := Aside0.mk (Kd.R_below (ra_ HO_437001.out) hb); have n1_ := Aside0.mk (blk_below (g := gb435) (o := .cells #[.int .i64 x436000_1, .slice none 0 0, .int .i64 x436002_1] 24 (0, 0)) (by (with_reducible repeat (first | refine blk_drewN ?_ _ | refine blk_drew ?_ | refine blk_alloc ?_ _)); exact BK435.out) hb); have n2_ := Aside0.mk (blk_below (g := gb436) (o := .cells #[.int .i64 t439, u437001, .int .i64 t443] 24 (0, 0)) (by (with_reducible repeat (first | refine blk_drewN ?_ _ | refine blk_drew ?_ | refine blk_alloc ?_ _)); exact BK436.out) hb); have n3_ := Aside0.mk (blk_below (g := gb440) (o := .cells #[.string x441000_1, .int .i64 x441001_1] 105 (0, 0)) (by (with_reducible repeat (first | refine blk_drewN ?_ _ | refine blk_drew ?_ | refine blk_alloc ?_ _)); exact BK440.out) hb); have n4_ := Aside0.mk (below_step (by repeat (first | (with_reducible first | exact HB.out | apply below_alloc | apply pw_below_drewN | apply below_drew1 | refine below_set ?_ GE435.out | refine below_set ?_ GE436.out | refine below_set ?_ GE440.out) | exact HB.out)) hb); clear HO_437001; clear BK435; clear BK436; clear BK440; clear HB; have HO_437001 := n0_; have BK435 := n1_; have BK436 := n2_; have BK440 := n3_; have HB := n4_; clear n0_ n1_ n2_ n3_ n4_; have hcz35_0 : w34.cell? ⟨gb440, 0, none⟩ = some (.string x441000_1) := (blk_cell BK440.out 0).trans rfl; have hcz35_1 : w34.cell? ⟨gb440, 1, none⟩ = some (.int .i64 x441001_1) := (blk_cell BK440.out 1).trans rfl; have hfz35_0 := blk_frozen BK440.out 0; have hfz35_1 := blk_frozen BK440.out 1) | ((with_reducible refine gate_callee (f := 68) rfl ?_); refine gl_ 36 Tryd.func68 #[.agg #[.string t444, .int .i64 t445]] ?_; (with_reducible refine (samphireref09_InByte.calls k1 t444 t445 t447 t448 t449 _ A19.out).mono ?_); rintro e w36 ⟨rfl, hb⟩; refine ⟨_, rfl, ?_⟩; have n0_ := Aside0.mk (Kd.R_below (by (with_reducible repeat (first | apply Kd.R_alloc | apply Kd.R_drewN | apply Kd.R_drew)); exact (Kd.R_mono (Kd.R_far (p := ⟨gb440, 1, none⟩) (Kd.R_far (p := ⟨gb440, 0, none⟩) (Kd.R_types HO_437001.out BK440.out (by decide)) (fun _ hk => hk.2) (.string t444)) (fun _ hk => hk.2) (.int .i64 t445)) (fun _ h_ => h_.1))) hb); have n1_ := Aside0.mk (blk_below (g := gb435) (o := .cells #[.int .i64 x436000_1, .slice none 0 0, .int .i64 x436002_1] 24 (0, 0)) (by (with_reducible repeat (first | refine blk_drewN ?_ _ | refine blk_drew ?_ | refine blk_alloc ?_ _)); refine blk_far ?_ NB435_440.out _; (with_reducible repeat (first | refine blk_drewN ?_ _ | refine blk_drew ?_ | refine blk_alloc ?_ _)); refine blk_far ?_ NB435_440.out _; (with_reducible repeat (first | refine blk_drewN ?_ _ | refine blk_drew ?_ | refine blk_alloc ?_ _)); exact BK435.out) hb); have n2_ := Aside0.mk (blk_below (g := gb436) (o := .cells #[.int .i64 t439, u437001, .int .i64 t443] 24 (0, 0)) (by (with_reducible repeat (first | refine blk_drewN ?_ _ | refine blk_drew ?_ | refine blk_alloc ?_ _)); refine blk_far ?_ NB436_440.out _; (with_reducible repeat (first | refine blk_drewN ?_ _ | refine blk_drew ?_ | refine blk_alloc ?_ _)); refine blk_far ?_ NB436_440.out _; (with_reducible repeat (first | refine blk_drewN ?_ _ | refine blk_drew ?_ | refine blk_alloc ?_ _)); exact BK436.out) hb); have n3_ := Aside0.mk (blk_below (g := gb440) (o := .cells #[.string t444, .int .i64 t445] 105 (0, 0)) (by (with_reducible repeat (first | refine blk_drewN ?_ _ | refine blk_drew ?_ | refine blk_alloc ?_ _)); refine blk_put (cs := #[.string t444, .int .i64 x441001_1]) ?_ 1 _ rfl; (with_reducible repeat (first | refine blk_drewN ?_ _ | refine blk_drew ?_ | refine blk_alloc ?_ _)); refine blk_put (cs := #[.string x441000_1, .int .i64 x441001_1]) ?_ 0 _ rfl; (with_reducible repeat (first | refine blk_drewN ?_ _ | refine blk_drew ?_ | refine blk_alloc ?_ _)); exact BK440.out) hb); have n4_ := Aside0.mk (below_step (by repeat (first | (with_reducible first | exact HB.out | apply below_alloc | apply pw_below_drewN | apply below_drew1 | refine below_set ?_ GE435.out | refine below_set ?_ GE436.out | refine below_set ?_ GE440.out) | exact HB.out)) hb); clear HO_437001; clear BK435; clear BK436; clear BK440; clear HB; have HO_437001 := n0_; have BK435 := n1_; have BK436 := n2_; have BK440 := n3_; have HB := n4_; clear n0_ n1_ n2_ n3_ n4_; have hcz37_0 : w36.cell? ⟨gb440, 0, none⟩ = some (.string t444) := (blk_cell BK440.out 0).trans rfl; have hcz37_1 : w36.cell? ⟨gb440, 1, none⟩ = some (.int .i64 t445) := (blk_cell BK440.out 1).trans rfl; have hfz37_0 := blk_frozen BK440.out 0; have hfz37_1 := blk_frozen BK440.out 1; have hnb38 := NB436_435.out; have hnc38 := NB435_436.out; have hcz39_0 : w36.cell? ⟨gb436, 0, none⟩ = some (.int .i64 t439) := (blk_cell BK436.out 0).trans rfl; have hcz39_1 : w36.cell? ⟨gb436, 1, none⟩ = some (u437001) := (blk_cell BK436.out 1).trans rfl; have hcz39_2 : w36.cell? ⟨gb436, 2, none⟩ = some (.int .i64 t443) := (blk_cell BK436.out 2).trans rfl; have hfz39_0 := blk_frozen BK436.out 0; have hfz39_1 := blk_frozen BK436.out 1; have hfz39_2 := blk_frozen BK436.out 2) | ((with_reducible refine gate_builtin (b := .append) (xs := #[.tmp 43, .tmp 49]) rfl ?_); at_builtin; refine Kd.R_append k46 (w0 := w) w.heap.size rfl (.tmp 43) (.tmp 49) 22 46 (.agg #[(.int .i64 0), (.int .i64 0), (.bool false)]) 24 rfl Tryd.underlying22 info46 rfl (by decide) (by omega) u437001 x437001_1 (⟨x7_1, t446, (t449 == 1)⟩ : S46) [.int .i64 x7_1, .int .i64 t446, .bool (t449 == 1)] (fun _ => True) (fun _ => False) rfl (by first | (go_simp; done) | (go_simp; rfl)) ?aP (fun _ hk => hk.elim) ?aF ?aO ?aB ?aS ?aL ?_; (case aP => exact k46_mkM _ _ _ (⟨x7_1, t446, (t449 == 1)⟩ : S46)); (case aB => exact (by repeat (first | (with_reducible first | exact HB.out | apply below_alloc | apply pw_below_drewN | apply below_drew1 | refine below_set ?_ GE435.out | refine below_set ?_ GE436.out | refine below_set ?_ GE440.out) | exact HB.out))); (case aF => exact (fun _ _ => trivial)); (case aO => exact (by (with_reducible repeat (first | apply Kd.R_alloc | apply Kd.R_drewN | apply Kd.R_drew)); exact Kd.R_mono (Kd.R_far (p := ⟨gb440, 1, none⟩) (Kd.R_far (p := ⟨gb440, 0, none⟩) (Kd.R_types HO_437001.out BK440.out (by decide)) (fun _ hk => hk.2) (.string t447)) (fun _ hk => hk.2) (.int .i64 t448)) (fun _ hk => trivial))); (case aS => exact (below_size (by repeat (first | (with_reducible first | exact HB.out | apply below_alloc | apply pw_below_drewN | apply below_drew1 | refine below_set ?_ GE435.out | refine below_set ?_ GE436.out | refine below_set ?_ GE440.out) | exact HB.out)))); (case aL => have := LMc30.out; omega); intro v451 w40 ho hb hg hat; rw [← Ny450.out] at ho; have n0_ := Aside0.mk (blk_grown (g := gb435) (o := .cells #[.int .i64 x436000_1, .slice none 0 0, .int .i64 x436002_1] 24 (0, 0)) (by (with_reducible repeat (first | refine blk_drewN ?_ _ | refine blk_drew ?_ | refine blk_alloc ?_ _)); refine blk_far ?_ NB435_440.out _; (with_reducible repeat (first | refine blk_drewN ?_ _ | refine blk_drew ?_ | refine blk_alloc ?_ _)); refine blk_far ?_ NB435_440.out _; (with_reducible repeat (first | refine blk_drewN ?_ _ | refine blk_drew ?_ | refine blk_alloc ?_ _)); exact BK435.out) hg (Kd.R_ne HO_437001.out BK435.out (by decide))); have n1_ := Aside0.mk (blk_grown (g := gb436) (o := .cells #[.int .i64 t439, u437001, .int .i64 t443] 24 (0, 0)) (by (with_reducible repeat (first | refine blk_drewN ?_ _ | refine blk_drew ?_ | refine blk_alloc ?_ _)); refine blk_far ?_ NB436_440.out _; (with_reducible repeat (first | refine blk_drewN ?_ _ | refine blk_drew ?_ | refine blk_alloc ?_ _)); refine blk_far ?_ NB436_440.out _; (with_reducible repeat (first | refine blk_drewN ?_ _ | refine blk_drew ?_ | refine blk_alloc ?_ _)); exact BK436.out) hg (Kd.R_ne HO_437001.out BK436.out (by decide))); have n2_ := Aside0.mk (blk_grown (g := gb440) (o := .cells #[.string t447, .int .i64 t448] 105 (0, 0)) (by (with_reducible repeat (first | refine blk_drewN ?_ _ | refine blk_drew ?_ | refine blk_alloc ?_ _)); refine blk_put (cs := #[.string t447, .int .i64 t445]) ?_ 1 _ rfl; (with_reducible repeat (first | refine blk_drewN ?_ _ | refine blk_drew ?_ | refine blk_alloc ?_ _)); refine blk_put (cs := #[.string t444, .int .i64 t445]) ?_ 0 _ rfl; (with_reducible repeat (first | refine blk_drewN ?_ _ | refine blk_drew ?_ | refine blk_alloc ?_ _)); exact BK440.out) hg (Kd.R_ne HO_437001.out BK440.out (by decide))); have n3_ := Aside0.mk (hb); have n4_ := Aside0.mk (ho); clear BK435; clear BK436; clear BK440; clear HB; clear HO_437001; have BK435 := n0_; have BK436 := n1_; have BK440 := n2_; have HB := n3_; have HO452 := n4_; clear n0_ n1_ n2_ n3_ n4_; clear ho hb hg hat; obtain ⟨Ao41, co41, eo41⟩ := Kd.R_slice HO452.out; subst eo41; have hcz42_0 : w40.cell? ⟨gb436, 0, none⟩ = some (.int .i64 t439) := (blk_cell BK436.out 0).trans rfl; have hcz42_1 : w40.cell? ⟨gb436, 1, none⟩ = some (u437001) := (blk_cell BK436.out 1).trans rfl; have hcz42_2 : w40.cell? ⟨gb436, 2, none⟩ = some (.int .i64 t443) := (blk_cell BK436.out 2).trans rfl; have hfz42_0 := blk_frozen BK436.out 0; have hfz42_1 := blk_frozen BK436.out 1; have hfz42_2 := blk_frozen BK436.out 2))
            go_roundg k1
            case measure => have := HK1.out; omega
            case rel => exact ⟨(wrap64 (x7_1 + 1)), (x436000_1), (x436002_1), (y450), (t447), (t448), (.slice Ao41 y450.length co41), rz_, H', ⟨by have := HK1.out; omega⟩, ⟨by (with_reducible repeat (first | apply Kd.R_alloc | apply Kd.R_drewN | apply Kd.R_drew)); exact Kd.R_mono (Kd.R_far (p := ⟨gb436, 1, none⟩) (Kd.R_types HO452.out BK436.out (by decide)) (fun _ hk => hk.2) (.slice Ao41 y450.length co41)) (fun _ hk => trivial)⟩, ⟨by (with_reducible repeat (first | refine blk_drewN ?_ _ | refine blk_drew ?_ | refine blk_alloc ?_ _)); refine blk_far ?_ NB435_436.out _; (with_reducible repeat (first | refine blk_drewN ?_ _ | refine blk_drew ?_ | refine blk_alloc ?_ _)); exact BK435.out⟩, ⟨by (with_reducible repeat (first | refine blk_drewN ?_ _ | refine blk_drew ?_ | refine blk_alloc ?_ _)); refine blk_put (cs := #[.int .i64 t439, u437001, .int .i64 t443]) ?_ 1 _ rfl; (with_reducible repeat (first | refine blk_drewN ?_ _ | refine blk_drew ?_ | refine blk_alloc ?_ _)); exact BK436.out⟩, ⟨by (with_reducible repeat (first | refine blk_drewN ?_ _ | refine blk_drew ?_ | refine blk_alloc ?_ _)); refine blk_far ?_ NB440_436.out _; (with_reducible repeat (first | refine blk_drewN ?_ _ | refine blk_drew ?_ | refine blk_alloc ?_ _)); exact BK440.out⟩, ⟨by repeat (first | (with_reducible first | exact HB.out | apply below_alloc | apply pw_below_drewN | apply below_drew1 | refine below_set ?_ GE435.out | refine below_set ?_ GE436.out | refine below_set ?_ GE440.out) | exact HB.out)⟩⟩
          · rw [if_neg c30] at H; exact absurd H (by simp)
      · rw [if_neg c17] at H; have c17b0 : decide (x7_1 ≤ 6) = false := decide_eq_false c17; clear c17; replace H := Option.bind_eq_some_iff.mp H; obtain ⟨t453, A430, H⟩ := H; have A43 := Aside0.mk A430; clear A430; by_cases c44 : t453 = 0
        · rw [if_pos c44] at H; have c44b0 : (t453 == 0) = true := beq_iff_eq.mpr c44; have c44b1 : (t453 != 0) = false := bne_eq_false_iff_eq.mpr c44; clear c44; replace H := Option.bind_eq_some_iff.mp H; obtain ⟨t454, A450, H⟩ := H; have A45 := Aside0.mk A450; clear A450; by_cases c46 : t454 = true
          · subst c46; have H1 : (some (t439, x437001_1, t443, 0)) = some (r1, r2, r3, r4) := by rw [if_pos rfl] at H; exact H
            clear H; have H := H1; clear H1; simp only [Option.some.injEq, Prod.mk.injEq] at H; obtain ⟨rfl, rfl, rfl, rfl⟩ := H; have hnb47 := NB440_435.out; have hnc47 := NB435_440.out; have hnb48 := NB440_436.out; have hnc48 := NB436_440.out; have hcz49_0 : wr.cell? ⟨gb440, 0, none⟩ = some (.string x441000_1) := (blk_cell BK440.out 0).trans rfl; have hcz49_1 : wr.cell? ⟨gb440, 1, none⟩ = some (.int .i64 x441001_1) := (blk_cell BK440.out 1).trans rfl; have hfz49_0 := blk_frozen BK440.out 0; have hfz49_1 := blk_frozen BK440.out 1; go_wp2_with (first | ((with_reducible refine gate_callee (f := 69) rfl ?_); refine gl_ 53 Tryd.func69 #[.agg #[.string x441000_1, .int .i64 x441001_1]] ?_; (with_reducible refine (samphireref09_InDone.calls x441000_1 x441001_1 t453 _ A43.out).mono ?_); rintro e w50 ⟨rfl, hb⟩; refine ⟨_, rfl, ?_⟩; have n0_ := Aside0.mk (Kd.R_below (ra_ HO_437001.out) hb); have n1_ := Aside0.mk (blk_below (g := gb435) (o := .cells #[.int .i64 x436000_1, .slice none 0 0, .int .i64 x436002_1] 24 (0, 0)) (by (with_reducible repeat (first | refine blk_drewN ?_ _ | refine blk_drew ?_ | refine blk_alloc ?_ _)); exact BK435.out) hb); have n2_ := Aside0.mk (blk_below (g := gb436) (o := .cells #[.int .i64 t439, u437001, .int .i64 t443] 24 (0, 0)) (by (with_reducible repeat (first | refine blk_drewN ?_ _ | refine blk_drew ?_ | refine blk_alloc ?_ _)); exact BK436.out) hb); have n3_ := Aside0.mk (blk_below (g := gb440) (o := .cells #[.string x441000_1, .int .i64 x441001_1] 105 (0, 0)) (by (with_reducible repeat (first | refine blk_drewN ?_ _ | refine blk_drew ?_ | refine blk_alloc ?_ _)); exact BK440.out) hb); have n4_ := Aside0.mk (below_step (by repeat (first | (with_reducible first | exact HB.out | apply below_alloc | apply pw_below_drewN | apply below_drew1 | refine below_set ?_ GE435.out | refine below_set ?_ GE436.out | refine below_set ?_ GE440.out) | exact HB.out)) hb); clear HO_437001; clear BK435; clear BK436; clear BK440; clear HB; have HO_437001 := n0_; have BK435 := n1_; have BK436 := n2_; have BK440 := n3_; have HB := n4_; clear n0_ n1_ n2_ n3_ n4_; have hnb51 := NB436_435.out; have hnc51 := NB435_436.out; have hcz52_0 : w50.cell? ⟨gb436, 0, none⟩ = some (.int .i64 t439) := (blk_cell BK436.out 0).trans rfl; have hcz52_1 : w50.cell? ⟨gb436, 1, none⟩ = some (u437001) := (blk_cell BK436.out 1).trans rfl; have hcz52_2 : w50.cell? ⟨gb436, 2, none⟩ = some (.int .i64 t443) := (blk_cell BK436.out 2).trans rfl; have hfz52_0 := blk_frozen BK436.out 0; have hfz52_1 := blk_frozen BK436.out 1; have hfz52_2 := blk_frozen BK436.out 2; obtain ⟨Ao53, co53, eo53⟩ := Kd.R_slice HO_437001.out; subst eo53) | (go_at_call 49; (with_reducible refine (samphireref20_May.calls k1 t439 _ _ x437001_1 t443 true _ ?side1 ?side2 A45.out).mono ?_); (case side1 => exact ca_ (Kd.R_reads' HO_437001.out).2.2); (case side2 => exact (Kd.R_reads' HO_437001.out).2.1); rintro e w54 ⟨rfl, hb⟩; have n0_ := Aside0.mk (Kd.R_below (ra_ HO_437001.out) hb); have n1_ := Aside0.mk (blk_below (g := gb435) (o := .cells #[.int .i64 x436000_1, .slice none 0 0, .int .i64 x436002_1] 24 (0, 0)) (by (with_reducible repeat (first | refine blk_drewN ?_ _ | refine blk_drew ?_ | refine blk_alloc ?_ _)); exact BK435.out) hb); have n2_ := Aside0.mk (blk_below (g := gb436) (o := .cells #[.int .i64 t439, .slice Ao53 x437001_1.length co53, .int .i64 t443] 24 (0, 0)) (by (with_reducible repeat (first | refine blk_drewN ?_ _ | refine blk_drew ?_ | refine blk_alloc ?_ _)); exact BK436.out) hb); have n3_ := Aside0.mk (blk_below (g := gb440) (o := .cells #[.string x441000_1, .int .i64 x441001_1] 105 (0, 0)) (by (with_reducible repeat (first | refine blk_drewN ?_ _ | refine blk_drew ?_ | refine blk_alloc ?_ _)); exact BK440.out) hb); have n4_ := Aside0.mk (below_step (by repeat (first | (with_reducible first | exact HB.out | apply below_alloc | apply pw_below_drewN | apply below_drew1 | refine below_set ?_ GE435.out | refine below_set ?_ GE436.out | refine below_set ?_ GE440.out) | exact HB.out)) hb); clear HO_437001; clear BK435; clear BK436; clear BK440; clear HB; have HO_437001 := n0_; have BK435 := n1_; have BK436 := n2_; have BK440 := n3_; have HB := n4_; clear n0_ n1_ n2_ n3_ n4_; have hcz55_0 : w54.cell? ⟨gb436, 0, none⟩ = some (.int .i64 t439) := (blk_cell BK436.out 0).trans rfl; have hcz55_1 : w54.cell? ⟨gb436, 1, none⟩ = some (.slice Ao53 x437001_1.length co53) := (blk_cell BK436.out 1).trans rfl; have hcz55_2 : w54.cell? ⟨gb436, 2, none⟩ = some (.int .i64 t443) := (blk_cell BK436.out 2).trans rfl; have hfz55_0 := blk_frozen BK436.out 0; have hfz55_1 := blk_frozen BK436.out 1; have hfz55_2 := blk_frozen BK436.out 2; have hcz56_0 : w54.cell? ⟨gb435, 0, none⟩ = some (.int .i64 x436000_1) := (blk_cell BK435.out 0).trans rfl; have hcz56_1 : w54.cell? ⟨gb435, 1, none⟩ = some (.slice none 0 0) := (blk_cell BK435.out 1).trans rfl; have hcz56_2 : w54.cell? ⟨gb435, 2, none⟩ = some (.int .i64 x436002_1) := (blk_cell BK435.out 2).trans rfl; have hfz56_0 := blk_frozen BK435.out 0; have hfz56_1 := blk_frozen BK435.out 1; have hfz56_2 := blk_frozen BK435.out 2))
            refine bodyPost_ret (results_ct rfl _ _ gb435 24 #[.int .i64 t439, .slice Ao53 x437001_1.length co53, .int .i64 t443] (0, 0) _ rfl (by (with_reducible repeat (first | refine blk_drewN ?_ _ | refine blk_drew ?_ | refine blk_alloc ?_ _)); refine blk_put (cs := #[.int .i64 t439, .slice Ao53 x437001_1.length co53, .int .i64 x436002_1]) ?_ 2 _ rfl; (with_reducible repeat (first | refine blk_drewN ?_ _ | refine blk_drew ?_ | refine blk_alloc ?_ _)); refine blk_put (cs := #[.int .i64 t439, .slice none 0 0, .int .i64 x436002_1]) ?_ 1 _ rfl; (with_reducible repeat (first | refine blk_drewN ?_ _ | refine blk_drew ?_ | refine blk_alloc ?_ _)); refine blk_put (cs := #[.int .i64 x436000_1, .slice none 0 0, .int .i64 x436002_1]) ?_ 0 _ rfl; (with_reducible repeat (first | refine blk_drewN ?_ _ | refine blk_drew ?_ | refine blk_alloc ?_ _)); exact BK435.out) Tryd.underlying24 rfl (by kernel_rfl)) rfl ?_; exact ⟨_, ew_, by (with_reducible repeat (first | apply Kd.R_alloc | apply Kd.R_drewN | apply Kd.R_drew)); exact Kd.R_mono (Kd.R_far (p := ⟨gb435, 2, none⟩) (Kd.R_far (p := ⟨gb435, 1, none⟩) (Kd.R_far (p := ⟨gb435, 0, none⟩) (Kd.R_types HO_437001.out BK435.out (by decide)) (fun _ hk => hk.2) (.int .i64 t439)) (fun _ hk => hk.2) (.slice Ao53 x437001_1.length co53)) (fun _ hk => hk.2) (.int .i64 t443)) (fun _ hk => trivial), by repeat (first | (with_reducible first | exact HB.out | apply below_alloc | apply pw_below_drewN | apply below_drew1 | refine below_set ?_ GE435.out | refine below_set ?_ GE436.out | refine below_set ?_ GE440.out) | exact HB.out)⟩
          · replace c46 := Bool.eq_false_iff.mpr c46; subst c46; have H1 : (some (0, ([] : List (S46)), 0, 91)) = some (r1, r2, r3, r4) := by rw [if_neg (show ¬ (false = true) by decide)] at H; exact H
            clear H; have H := H1; clear H1; simp only [Option.some.injEq, Prod.mk.injEq] at H; obtain ⟨rfl, rfl, rfl, rfl⟩ := H; have hnb57 := NB440_435.out; have hnc57 := NB435_440.out; have hnb58 := NB440_436.out; have hnc58 := NB436_440.out; have hcz59_0 : wr.cell? ⟨gb440, 0, none⟩ = some (.string x441000_1) := (blk_cell BK440.out 0).trans rfl; have hcz59_1 : wr.cell? ⟨gb440, 1, none⟩ = some (.int .i64 x441001_1) := (blk_cell BK440.out 1).trans rfl; have hfz59_0 := blk_frozen BK440.out 0; have hfz59_1 := blk_frozen BK440.out 1; go_wp2_with (first | ((with_reducible refine gate_callee (f := 69) rfl ?_); refine gl_ 53 Tryd.func69 #[.agg #[.string x441000_1, .int .i64 x441001_1]] ?_; (with_reducible refine (samphireref09_InDone.calls x441000_1 x441001_1 t453 _ A43.out).mono ?_); rintro e w60 ⟨rfl, hb⟩; refine ⟨_, rfl, ?_⟩; have n0_ := Aside0.mk (Kd.R_below (ra_ HO_437001.out) hb); have n1_ := Aside0.mk (blk_below (g := gb435) (o := .cells #[.int .i64 x436000_1, .slice none 0 0, .int .i64 x436002_1] 24 (0, 0)) (by (with_reducible repeat (first | refine blk_drewN ?_ _ | refine blk_drew ?_ | refine blk_alloc ?_ _)); exact BK435.out) hb); have n2_ := Aside0.mk (blk_below (g := gb436) (o := .cells #[.int .i64 t439, u437001, .int .i64 t443] 24 (0, 0)) (by (with_reducible repeat (first | refine blk_drewN ?_ _ | refine blk_drew ?_ | refine blk_alloc ?_ _)); exact BK436.out) hb); have n3_ := Aside0.mk (blk_below (g := gb440) (o := .cells #[.string x441000_1, .int .i64 x441001_1] 105 (0, 0)) (by (with_reducible repeat (first | refine blk_drewN ?_ _ | refine blk_drew ?_ | refine blk_alloc ?_ _)); exact BK440.out) hb); have n4_ := Aside0.mk (below_step (by repeat (first | (with_reducible first | exact HB.out | apply below_alloc | apply pw_below_drewN | apply below_drew1 | refine below_set ?_ GE435.out | refine below_set ?_ GE436.out | refine below_set ?_ GE440.out) | exact HB.out)) hb); clear HO_437001; clear BK435; clear BK436; clear BK440; clear HB; have HO_437001 := n0_; have BK435 := n1_; have BK436 := n2_; have BK440 := n3_; have HB := n4_; clear n0_ n1_ n2_ n3_ n4_; have hnb61 := NB436_435.out; have hnc61 := NB435_436.out; have hcz62_0 : w60.cell? ⟨gb436, 0, none⟩ = some (.int .i64 t439) := (blk_cell BK436.out 0).trans rfl; have hcz62_1 : w60.cell? ⟨gb436, 1, none⟩ = some (u437001) := (blk_cell BK436.out 1).trans rfl; have hcz62_2 : w60.cell? ⟨gb436, 2, none⟩ = some (.int .i64 t443) := (blk_cell BK436.out 2).trans rfl; have hfz62_0 := blk_frozen BK436.out 0; have hfz62_1 := blk_frozen BK436.out 1; have hfz62_2 := blk_frozen BK436.out 2; obtain ⟨Ao63, co63, eo63⟩ := Kd.R_slice HO_437001.out; subst eo63) | (go_at_call 49; (with_reducible refine (samphireref20_May.calls k1 t439 _ _ x437001_1 t443 false _ ?side1 ?side2 A45.out).mono ?_); (case side1 => exact ca_ (Kd.R_reads' HO_437001.out).2.2); (case side2 => exact (Kd.R_reads' HO_437001.out).2.1); rintro e w64 ⟨rfl, hb⟩; have n0_ := Aside0.mk (Kd.R_below (ra_ HO_437001.out) hb); have n1_ := Aside0.mk (blk_below (g := gb435) (o := .cells #[.int .i64 x436000_1, .slice none 0 0, .int .i64 x436002_1] 24 (0, 0)) (by (with_reducible repeat (first | refine blk_drewN ?_ _ | refine blk_drew ?_ | refine blk_alloc ?_ _)); exact BK435.out) hb); have n2_ := Aside0.mk (blk_below (g := gb436) (o := .cells #[.int .i64 t439, .slice Ao63 x437001_1.length co63, .int .i64 t443] 24 (0, 0)) (by (with_reducible repeat (first | refine blk_drewN ?_ _ | refine blk_drew ?_ | refine blk_alloc ?_ _)); exact BK436.out) hb); have n3_ := Aside0.mk (blk_below (g := gb440) (o := .cells #[.string x441000_1, .int .i64 x441001_1] 105 (0, 0)) (by (with_reducible repeat (first | refine blk_drewN ?_ _ | refine blk_drew ?_ | refine blk_alloc ?_ _)); exact BK440.out) hb); have n4_ := Aside0.mk (below_step (by repeat (first | (with_reducible first | exact HB.out | apply below_alloc | apply pw_below_drewN | apply below_drew1 | refine below_set ?_ GE435.out | refine below_set ?_ GE436.out | refine below_set ?_ GE440.out) | exact HB.out)) hb); clear HO_437001; clear BK435; clear BK436; clear BK440; clear HB; have HO_437001 := n0_; have BK435 := n1_; have BK436 := n2_; have BK440 := n3_; have HB := n4_; clear n0_ n1_ n2_ n3_ n4_; have hcz65_0 : w64.cell? ⟨gb435, 0, none⟩ = some (.int .i64 x436000_1) := (blk_cell BK435.out 0).trans rfl; have hcz65_1 : w64.cell? ⟨gb435, 1, none⟩ = some (.slice none 0 0) := (blk_cell BK435.out 1).trans rfl; have hcz65_2 : w64.cell? ⟨gb435, 2, none⟩ = some (.int .i64 x436002_1) := (blk_cell BK435.out 2).trans rfl; have hfz65_0 := blk_frozen BK435.out 0; have hfz65_1 := blk_frozen BK435.out 1; have hfz65_2 := blk_frozen BK435.out 2))
            refine bodyPost_ret (results_ct rfl _ _ gb435 24 #[.int .i64 0, .slice none 0 0, .int .i64 0] (0, 0) _ rfl (by (with_reducible repeat (first | refine blk_drewN ?_ _ | refine blk_drew ?_ | refine blk_alloc ?_ _)); refine blk_put (cs := #[.int .i64 0, .slice none 0 0, .int .i64 x436002_1]) ?_ 2 _ rfl; (with_reducible repeat (first | refine blk_drewN ?_ _ | refine blk_drew ?_ | refine blk_alloc ?_ _)); refine blk_put (cs := #[.int .i64 0, .slice none 0 0, .int .i64 x436002_1]) ?_ 1 _ rfl; (with_reducible repeat (first | refine blk_drewN ?_ _ | refine blk_drew ?_ | refine blk_alloc ?_ _)); refine blk_put (cs := #[.int .i64 x436000_1, .slice none 0 0, .int .i64 x436002_1]) ?_ 0 _ rfl; (with_reducible repeat (first | refine blk_drewN ?_ _ | refine blk_drew ?_ | refine blk_alloc ?_ _)); exact BK435.out) Tryd.underlying24 rfl (by kernel_rfl)) rfl ?_; exact ⟨_, ew_, by first | exact Kd.R_nil _ _ _ _ _ | exact Kd.N_nil _ _ _ _ _ | exact Kd.V_nil _ _ _ _ _ | exact Kd.Q_nil _ _ _ _ _ | exact Kd.S_nil _ _ _ _ _, by repeat (first | (with_reducible first | exact HB.out | apply below_alloc | apply pw_below_drewN | apply below_drew1 | refine below_set ?_ GE435.out | refine below_set ?_ GE436.out | refine below_set ?_ GE440.out) | exact HB.out)⟩
        · rw [if_neg c44] at H; have c44b0 : (t453 == 0) = false := beq_eq_false_iff_ne.mpr c44; have c44b1 : (t453 != 0) = true := bne_iff_ne.mpr c44; simp only [Option.some.injEq, Prod.mk.injEq] at H; obtain ⟨rfl, rfl, rfl, rfl⟩ := H; have hnb66 := NB440_435.out; have hnc66 := NB435_440.out; have hnb67 := NB440_436.out; have hnc67 := NB436_440.out; have hcz68_0 : wr.cell? ⟨gb440, 0, none⟩ = some (.string x441000_1) := (blk_cell BK440.out 0).trans rfl; have hcz68_1 : wr.cell? ⟨gb440, 1, none⟩ = some (.int .i64 x441001_1) := (blk_cell BK440.out 1).trans rfl; have hfz68_0 := blk_frozen BK440.out 0; have hfz68_1 := blk_frozen BK440.out 1; go_wp2_with (first | ((with_reducible refine gate_callee (f := 69) rfl ?_); refine gl_ 53 Tryd.func69 #[.agg #[.string x441000_1, .int .i64 x441001_1]] ?_; (with_reducible refine (samphireref09_InDone.calls x441000_1 x441001_1 t453 _ A43.out).mono ?_); rintro e w69 ⟨rfl, hb⟩; refine ⟨_, rfl, ?_⟩; have n0_ := Aside0.mk (Kd.R_below (ra_ HO_437001.out) hb); have n1_ := Aside0.mk (blk_below (g := gb435) (o := .cells #[.int .i64 x436000_1, .slice none 0 0, .int .i64 x436002_1] 24 (0, 0)) (by (with_reducible repeat (first | refine blk_drewN ?_ _ | refine blk_drew ?_ | refine blk_alloc ?_ _)); exact BK435.out) hb); have n2_ := Aside0.mk (blk_below (g := gb436) (o := .cells #[.int .i64 t439, u437001, .int .i64 t443] 24 (0, 0)) (by (with_reducible repeat (first | refine blk_drewN ?_ _ | refine blk_drew ?_ | refine blk_alloc ?_ _)); exact BK436.out) hb); have n3_ := Aside0.mk (blk_below (g := gb440) (o := .cells #[.string x441000_1, .int .i64 x441001_1] 105 (0, 0)) (by (with_reducible repeat (first | refine blk_drewN ?_ _ | refine blk_drew ?_ | refine blk_alloc ?_ _)); exact BK440.out) hb); have n4_ := Aside0.mk (below_step (by repeat (first | (with_reducible first | exact HB.out | apply below_alloc | apply pw_below_drewN | apply below_drew1 | refine below_set ?_ GE435.out | refine below_set ?_ GE436.out | refine below_set ?_ GE440.out) | exact HB.out)) hb); clear HO_437001; clear BK435; clear BK436; clear BK440; clear HB; have HO_437001 := n0_; have BK435 := n1_; have BK436 := n2_; have BK440 := n3_; have HB := n4_; clear n0_ n1_ n2_ n3_ n4_; have hnb70 := NB435_436.out; have hnc70 := NB436_435.out; have hcz71_0 : w69.cell? ⟨gb435, 0, none⟩ = some (.int .i64 x436000_1) := (blk_cell BK435.out 0).trans rfl; have hcz71_1 : w69.cell? ⟨gb435, 1, none⟩ = some (.slice none 0 0) := (blk_cell BK435.out 1).trans rfl; have hcz71_2 : w69.cell? ⟨gb435, 2, none⟩ = some (.int .i64 x436002_1) := (blk_cell BK435.out 2).trans rfl; have hfz71_0 := blk_frozen BK435.out 0; have hfz71_1 := blk_frozen BK435.out 1; have hfz71_2 := blk_frozen BK435.out 2))
          refine bodyPost_ret (results_ct rfl _ _ gb435 24 #[.int .i64 0, .slice none 0 0, .int .i64 0] (0, 0) _ rfl (by (with_reducible repeat (first | refine blk_drewN ?_ _ | refine blk_drew ?_ | refine blk_alloc ?_ _)); refine blk_put (cs := #[.int .i64 0, .slice none 0 0, .int .i64 x436002_1]) ?_ 2 _ rfl; (with_reducible repeat (first | refine blk_drewN ?_ _ | refine blk_drew ?_ | refine blk_alloc ?_ _)); refine blk_put (cs := #[.int .i64 0, .slice none 0 0, .int .i64 x436002_1]) ?_ 1 _ rfl; (with_reducible repeat (first | refine blk_drewN ?_ _ | refine blk_drew ?_ | refine blk_alloc ?_ _)); refine blk_put (cs := #[.int .i64 x436000_1, .slice none 0 0, .int .i64 x436002_1]) ?_ 0 _ rfl; (with_reducible repeat (first | refine blk_drewN ?_ _ | refine blk_drew ?_ | refine blk_alloc ?_ _)); exact BK435.out) Tryd.underlying24 rfl (by kernel_rfl)) rfl ?_; exact ⟨_, ew_, by first | exact Kd.R_nil _ _ _ _ _ | exact Kd.N_nil _ _ _ _ _ | exact Kd.V_nil _ _ _ _ _ | exact Kd.Q_nil _ _ _ _ _ | exact Kd.S_nil _ _ _ _ _, by repeat (first | (with_reducible first | exact HB.out | apply below_alloc | apply pw_below_drewN | apply below_drew1 | refine below_set ?_ GE435.out | refine below_set ?_ GE436.out | refine below_set ?_ GE440.out) | exact HB.out)⟩
def samphireref09_Done.f (a0_0 : ByteArray) (a0_1 : Bool) : Option (ByteArray × Int) := if a0_1 = true then (some ((⟨#[]⟩ : ByteArray), 1)) else (some (a0_0, 0))
set_option maxHeartbeats 8000000 in
set_option maxRecDepth 100000 in
theorem samphireref09_Done.calls (a0_0 : ByteArray) (a0_1 : Bool) (r1 : ByteArray) (r2 : Int) (w : World) (h : samphireref09_Done.f a0_0 a0_1 = some (r1, r2)) :
  Calls Tryd.prog 62 #[.agg #[.string a0_0, .bool a0_1]] w fun e w' => e = .returned (.tuple #[.string r1, .int .i64 r2]) ∧ Below w.heap.size w w' := by
 have hu97 := Tryd.underlying97; have HB := Aside0.mk (Below.refl w.heap.size w); have H : (if a0_1 = true then (some ((⟨#[]⟩ : ByteArray), 1)) else (some (a0_0, 0))) = some (r1, r2) := h; clear h; by_cases c2 : a0_1 = true
 ·subst c2; have H1 : (some ((⟨#[]⟩ : ByteArray), 1)) = some (r1, r2) := by rw [if_pos rfl] at H; exact H
  clear H; have H := H1; clear H1; simp only [Option.some.injEq, Prod.mk.injEq] at H; obtain ⟨rfl, rfl⟩ := H; go_enter Tryd.func62, Tryd.ntmps62
  go_wp2_with (first | ((with_reducible refine gate_dst (N := 1) rfl ?_); refine box_event ?hg (N := 1) ?hd (cs := #[.string a0_0, .bool true]) (t := 97) ?hr ?_; (case hd => rfl); (case hg => rfl); (case hr => first | (go_simp; done) | (go_simp; rfl)); intro gb394 hg w3 hbox hb; have n0_ := Aside0.mk (below_step hb_ hb); have n1_ := Aside0.mk (hbox); have n2_ := Aside0.mk ((by rw [hg]; exact (below_size hb_) : w.heap.size ≤ gb394)); have n3_ := Aside0.mk ((by rw [hg]; exact (below_size hb_) : w.heap.size ≤ gb394)); clear HB; have HB := n0_; have BK394 := n1_; have GW394 := n2_; have GE394 := n3_; clear n0_ n1_ n2_ n3_; clear hb hbox hg; have hcz4_0 : w3.cell? ⟨gb394, 0, none⟩ = some (.string a0_0) := (blk_cell BK394.out 0).trans rfl; have hcz4_1 : w3.cell? ⟨gb394, 1, none⟩ = some (.bool true) := (blk_cell BK394.out 1).trans rfl; have hfz4_0 := blk_frozen BK394.out 0; have hfz4_1 := blk_frozen BK394.out 1))
  go_ret2
  exact ⟨ew_, by repeat (first | (with_reducible first | exact HB.out | apply below_alloc | apply pw_below_drewN | apply below_drew1 | refine below_set ?_ GE394.out) | exact HB.out)⟩
 ·replace c2 := Bool.eq_false_iff.mpr c2; subst c2; have H1 : (some (a0_0, 0)) = some (r1, r2) := by rw [if_neg (show ¬ (false = true) by decide)] at H; exact H
  clear H; have H := H1; clear H1; simp only [Option.some.injEq, Prod.mk.injEq] at H; obtain ⟨rfl, rfl⟩ := H; go_enter Tryd.func62, Tryd.ntmps62
  go_wp2_with (first | ((with_reducible refine gate_dst (N := 1) rfl ?_); refine box_event ?hg (N := 1) ?hd (cs := #[.string a0_0, .bool false]) (t := 97) ?hr ?_; (case hd => rfl); (case hg => rfl); (case hr => first | (go_simp; done) | (go_simp; rfl)); intro gb394 hg w5 hbox hb; have n0_ := Aside0.mk (below_step hb_ hb); have n1_ := Aside0.mk (hbox); have n2_ := Aside0.mk ((by rw [hg]; exact (below_size hb_) : w.heap.size ≤ gb394)); have n3_ := Aside0.mk ((by rw [hg]; exact (below_size hb_) : w.heap.size ≤ gb394)); clear HB; have HB := n0_; have BK394 := n1_; have GW394 := n2_; have GE394 := n3_; clear n0_ n1_ n2_ n3_; clear hb hbox hg; have hcz6_0 : w5.cell? ⟨gb394, 0, none⟩ = some (.string a0_0) := (blk_cell BK394.out 0).trans rfl; have hcz6_1 : w5.cell? ⟨gb394, 1, none⟩ = some (.bool false) := (blk_cell BK394.out 1).trans rfl; have hfz6_0 := blk_frozen BK394.out 0; have hfz6_1 := blk_frozen BK394.out 1))
  go_ret2
  exact ⟨ew_, by repeat (first | (with_reducible first | exact HB.out | apply below_alloc | apply pw_below_drewN | apply below_drew1 | refine below_set ?_ GE394.out) | exact HB.out)⟩
def samphireref20_Put.l0 : Nat → Int → Int → List (S46) → Int → ByteArray → Bool → Option (ByteArray × Int)
 | 0, _, _, _, _, _, _ => none
 | k + 1, x5, x396000, x396001, x396002, x402000, x402001 => if x5 < 6 then (if 0 ≤ x5 then (if x5 < (x396001.length : Int) then (if (rd_T46 x396001 x5).f2 = true then ((samphireref09_Num.f k x402000 x402001 ((rd_T46 x396001 x5).f1)).bind fun bt406 => ((samphireref09_Byte.f k bt406.1 bt406.2 1).bind fun bt408 => (samphireref20_Put.l0 k (wrap64 (x5 + 1)) x396000 x396001 x396002 bt408.1 bt408.2))) else ((samphireref09_Num.f k x402000 x402001 ((rd_T46 x396001 x5).f1)).bind fun bt411 => ((samphireref09_Byte.f k bt411.1 bt411.2 0).bind fun bt413 => (samphireref20_Put.l0 k (wrap64 (x5 + 1)) x396000 x396001 x396002 bt413.1 bt413.2)))) else (none)) else (none)) else ((samphireref09_Done.f x402000 x402001).bind fun bt402 => (some (bt402.1, bt402.2)))
def samphireref20_Put.f (k : Nat) (a0_0 : Int) (l0_1 : List (S46)) (a0_2 : Int) : Option (ByteArray × Int) := (samphireref20_May.f k a0_0 l0_1 a0_2).bind fun t396 => (if t396 = true then ((samphireref09_Num.f k (⟨#[]⟩ : ByteArray) false a0_0).bind fun bt397 => ((samphireref09_Num.f k bt397.1 bt397.2 a0_2).bind fun bt399 => (samphireref20_Put.l0 k 0 a0_0 l0_1 a0_2 bt399.1 bt399.2))) else (some ((⟨#[]⟩ : ByteArray), 1)))
def samphireref20_Put.T3 : Bool × List (List Nat × List Nat) := (true, [([], []), ([], []), ([1], [1]), ([0, 2], [0, 2]), ([], []), ([4], [4]), ([3, 5, 3], [3, 5]), ([], []), ([7, 6, 6, 0, 1, 2, 3, 4, 5, 6, 7], [6, 7])])
def samphireref20_Put.B3 : List Nat := [0, 0, 2, 7, 0, 16, 63, 0, 255]
theorem samphireref20_Put.tab3 : rtab .any (opsOf Tryd.f28 3) = samphireref20_Put.T3 := by kernel_rfl
theorem samphireref20_Put.bits3 : waitsOk samphireref20_Put.T3.2 samphireref20_Put.B3 = true := by kernel_rfl
def samphireref20_Put.T10 : Bool × List (List Nat × List Nat) := (true, [([], []), ([], []), ([1], [1]), ([], []), ([2, 3], [2, 3]), ([4], [4]), ([5], [5]), ([0, 6], [0, 6]), ([], []), ([7, 8, 7], [7, 8]), ([9, 9, 0, 1, 2, 3, 4, 5, 6, 7, 8, 9], [9])])
def samphireref20_Put.B10 : List Nat := [0, 0, 2, 0, 14, 30, 62, 127, 0, 511, 1023]
theorem samphireref20_Put.tab10 : rtab .any (opsOf Tryd.f28 10) = samphireref20_Put.T10 := by kernel_rfl
theorem samphireref20_Put.bits10 : waitsOk samphireref20_Put.T10.2 samphireref20_Put.B10 = true := by kernel_rfl
set_option maxHeartbeats 8000000 in
set_option maxRecDepth 100000 in
theorem samphireref20_Put.calls (k : Nat) (a0_0 : Int) (A0_1 : Option Addr) (c0_1 : Nat) (l0_1 : List (S46)) (a0_2 : Int) (r1 : ByteArray) (r2 : Int) (w : World) (hr0_1 : Kd.C k46 w A0_1 l0_1.length l0_1) (hc0_1 : l0_1.length ≤ c0_1) (h : samphireref20_Put.f k a0_0 l0_1 a0_2 = some (r1, r2)) :
    Calls Tryd.prog 28 #[.agg #[.int .i64 a0_0, .slice A0_1 l0_1.length c0_1, .int .i64 a0_2]] w fun e w' => e = .returned (.tuple #[.string r1, .int .i64 r2]) ∧ Below w.heap.size w w' := by
  have hu24 := Tryd.underlying24
  have hu97 := Tryd.underlying97
  have HR0_1 := Aside0.mk hr0_1
  have HC0_1 := Aside0.mk hc0_1
  clear hr0_1 hc0_1
  have HB := Aside0.mk (Below.refl w.heap.size w)
  have H : ((samphireref20_May.f k a0_0 l0_1 a0_2).bind fun t396 => (if t396 = true then ((samphireref09_Num.f k (⟨#[]⟩ : ByteArray) false a0_0).bind fun bt397 => ((samphireref09_Num.f k bt397.1 bt397.2 a0_2).bind fun bt399 => (samphireref20_Put.l0 k 0 a0_0 l0_1 a0_2 bt399.1 bt399.2))) else (some ((⟨#[]⟩ : ByteArray), 1)))) = some (r1, r2) := h
  clear h
  replace H := Option.bind_eq_some_iff.mp H
  obtain ⟨t396, A20, H⟩ := H
  replace H : (if t396 = true then ((samphireref09_Num.f k (⟨#[]⟩ : ByteArray) false a0_0).bind fun bt397 => ((samphireref09_Num.f k bt397.1 bt397.2 a0_2).bind fun bt399 => (samphireref20_Put.l0 k 0 a0_0 l0_1 a0_2 bt399.1 bt399.2))) else (some ((⟨#[]⟩ : ByteArray), 1))) = some (r1, r2) := H
  have A2 := Aside0.mk A20
  clear A20
  by_cases c3 : t396 = true
  · subst c3
    have H1 : ((samphireref09_Num.f k (⟨#[]⟩ : ByteArray) false a0_0).bind fun bt397 => ((samphireref09_Num.f k bt397.1 bt397.2 a0_2).bind fun bt399 => (samphireref20_Put.l0 k 0 a0_0 l0_1 a0_2 bt399.1 bt399.2))) = some (r1, r2) := by rw [if_pos rfl] at H; exact H
    clear H
    have H := H1
    clear H1
    replace H := Option.bind_eq_some_iff.mp H
    obtain ⟨⟨t397, t398⟩, A40, H⟩ := H
    replace H : ((samphireref09_Num.f k t397 t398 a0_2).bind fun bt399 => (samphireref20_Put.l0 k 0 a0_0 l0_1 a0_2 bt399.1 bt399.2)) = some (r1, r2) := H
    have A4 := Aside0.mk A40
    clear A40
    replace H := Option.bind_eq_some_iff.mp H
    obtain ⟨⟨t399, t400⟩, A50, H⟩ := H
    replace H : (samphireref20_Put.l0 k 0 a0_0 l0_1 a0_2 t399 t400) = some (r1, r2) := H
    have A5 := Aside0.mk A50
    clear A50
    have H' := Aside0.mk H
    clear H
    go_enter Tryd.func28, Tryd.ntmps28
    try go_wp2_with (first | ((with_reducible refine gate_dst (N := 1) rfl ?_); refine box_event ?hg (N := 1) ?hd (cs := #[.int .i64 a0_0, .slice A0_1 l0_1.length c0_1, .int .i64 a0_2]) (t := 24) ?hr ?_; (case hd => rfl); (case hg => rfl); (case hr => first | (go_simp; done) | (go_simp; rfl)); intro gb395 hg w6 hbox hb; have n0_ := Aside0.mk (below_step (by repeat (first | (with_reducible first | exact HB.out | apply below_alloc | apply pw_below_drewN | apply below_drew1) | exact HB.out)) hb); have n1_ := Aside0.mk (hbox); have n2_ := Aside0.mk ((by rw [hg]; exact (below_size (by repeat (first | (with_reducible first | exact HB.out | apply below_alloc | apply pw_below_drewN | apply below_drew1) | exact HB.out))) : w.heap.size ≤ gb395)); have n3_ := Aside0.mk ((by rw [hg]; exact (below_size (by repeat (first | (with_reducible first | exact HB.out | apply below_alloc | apply pw_below_drewN | apply below_drew1) | exact HB.out))) : w.heap.size ≤ gb395)); clear HB; have HB := n0_; have BK395 := n1_; have GW395 := n2_; have GE395 := n3_; clear n0_ n1_ n2_ n3_; clear hb hbox hg; have hcz7_0 : w6.cell? ⟨gb395, 0, none⟩ = some (.int .i64 a0_0) := (blk_cell BK395.out 0).trans rfl; have hcz7_1 : w6.cell? ⟨gb395, 1, none⟩ = some (.slice A0_1 l0_1.length c0_1) := (blk_cell BK395.out 1).trans rfl; have hcz7_2 : w6.cell? ⟨gb395, 2, none⟩ = some (.int .i64 a0_2) := (blk_cell BK395.out 2).trans rfl; have hfz7_0 := blk_frozen BK395.out 0; have hfz7_1 := blk_frozen BK395.out 1; have hfz7_2 := blk_frozen BK395.out 2) | ((with_reducible refine gate_callee (f := 49) rfl ?_); refine goesL_ (some 8) rfl rfl Tryd.func49 (by kernel_rfl) rfl #[.agg #[.int .i64 a0_0, .slice A0_1 l0_1.length c0_1, .int .i64 a0_2]] rfl (by (try simp only [List.map_toArray, List.map_cons, List.map_nil]); first | done | rfl | (simp only [List.length_drop, List.length_take]; rfl)) ?_; (with_reducible refine (samphireref20_May.calls k a0_0 _ _ l0_1 a0_2 true _ ?side1 ?side2 A2.out).mono ?_); (case side1 => repeat (first | exact (Kd.C_below HR0_1.out HB.out) | (with_reducible refine Kd.C_alloc ?_ _) | (with_reducible refine Kd.C_drewN ?_ _) | (with_reducible refine Kd.C_drew ?_))); (case side2 => exact HC0_1.out); rintro e w8 ⟨rfl, hb⟩; refine ⟨_, rfl, ?_⟩; have n0_ := Aside0.mk (blk_below (g := gb395) (o := .cells #[.int .i64 a0_0, .slice A0_1 l0_1.length c0_1, .int .i64 a0_2] 24 (0, 0)) (by (with_reducible repeat (first | refine blk_drewN ?_ _ | refine blk_drew ?_ | refine blk_alloc ?_ _)); exact BK395.out) hb); have n1_ := Aside0.mk (below_step (by repeat (first | (with_reducible first | exact HB.out | apply below_alloc | apply pw_below_drewN | apply below_drew1 | refine below_set ?_ GE395.out) | exact HB.out)) hb); clear BK395; clear HB; have BK395 := n0_; have HB := n1_; clear n0_ n1_; (try clear hb); (try clear hb2); (try clear hk); (try clear hi)))
    have n0_ := Aside0.mk (blk_drew BK395.out)
    have n1_ := Aside0.mk (below_drew1 HB.out)
    clear BK395
    clear HB
    have BK395 := n0_
    have HB := n1_
    clear n0_ n1_
    refine start_ (n := 9) (S := fun w' => w'.cell? ⟨gb395, 0, none⟩ = some (.int .i64 a0_0) ∧ w'.cell? ⟨gb395, 1, none⟩ = some (.slice A0_1 l0_1.length c0_1) ∧ w'.cell? ⟨gb395, 2, none⟩ = some (.int .i64 a0_2)) (ds := []) #[false, false, false, false, false, false, false, false, false] (by kernel_rfl) rfl rfl ⟨(blk_cell BK395.out 0).trans rfl, (blk_cell BK395.out 1).trans rfl, (blk_cell BK395.out 2).trans rfl⟩ (fun hHeld => ?_); refine with_tabW samphireref20_Put.tab3 samphireref20_Put.bits3 (fun HT_ HW_ => ?_)
    generalize w8.drew = w9 at BK395 HB hHeld ⊢
    refine pure_ (i := 0) (N := some 10) (v := ?_) (a' := ?_) #[true, false, false, false, false, false, false, false, false] rfl rfl (any_of HT_.out (by kernel_rfl)) (fun _ _ _ h => h) (Or.inl ⟨by rfl, ?_⟩) ?_ ?_
    rotate_left
    · intro w'
      go_simp
      with_reducible rfl
    rotate_left
    · simp only [Act.put, List.setIfInBounds_toArray, List.set_cons_zero, List.set_cons_succ, i64_w, i32_w]
      rfl
    refine pure_ (i := 1) (N := some 11) (v := ?_) (a' := ?_) #[true, true, false, false, false, false, false, false, false] rfl rfl (any_of HT_.out (by kernel_rfl)) (fun _ _ _ h => h) (Or.inl ⟨by rfl, ?_⟩) ?_ ?_
    rotate_left
    · intro w'
      go_simp
      with_reducible rfl
    rotate_left
    · simp only [Act.put, List.setIfInBounds_toArray, List.set_cons_zero, List.set_cons_succ, i64_w, i32_w]
      rfl
    refine pure_ (i := 4) (N := some 14) (v := ?_) (a' := ?_) #[true, true, false, false, true, false, false, false, false] rfl rfl (any_of HT_.out (by kernel_rfl)) (fun _ _ _ h => h) (Or.inl ⟨by rfl, ?_⟩) ?_ ?_
    rotate_left
    · intro w'
      go_simp
      with_reducible rfl
    rotate_left
    · simp only [Act.put, List.setIfInBounds_toArray, List.set_cons_zero, List.set_cons_succ, i64_w, i32_w]
      rfl
    refine take_ (i := 2) (N := some 12) (v := ?_) (a' := ?_) #[true, true, true, false, true, false, false, false, false] rfl rfl (take_ofW HT_.out HW_.out (by kernel_rfl)) (fun _ _ _ h => h) (Or.inl ⟨by rfl, ?_⟩) hHeld ?_ ?_
    rotate_left
    · rintro w' ⟨s0, s1, s2⟩
      go_simp
      with_reducible rfl
    rotate_left
    · simp only [Act.put, List.setIfInBounds_toArray, List.set_cons_zero, List.set_cons_succ, i64_w, i32_w]
      rfl
    refine take_ (i := 5) (N := some 15) (v := ?_) (a' := ?_) #[true, true, true, false, true, true, false, false, false] rfl rfl (take_ofW HT_.out HW_.out (by kernel_rfl)) (fun _ _ _ h => h) (Or.inl ⟨by rfl, ?_⟩) hHeld ?_ ?_
    rotate_left
    · rintro w' ⟨s0, s1, s2⟩
      go_simp
      with_reducible rfl
    rotate_left
    · simp only [Act.put, List.setIfInBounds_toArray, List.set_cons_zero, List.set_cons_succ, i64_w, i32_w]
      rfl
    refine join_ (σ := Nat) 1 #[true, true, true, true, true, true, true, true, false] (fun s_ => [(13, .agg #[.string t397, .bool t398]), (16, .agg #[.string t399, .bool t400]), (4, .pointer (some ⟨s_, 0, none⟩))]) (fun s_ w' => (w'.cell? ⟨gb395, 0, none⟩ = some (.int .i64 a0_0) ∧ w'.cell? ⟨gb395, 1, none⟩ = some (.slice A0_1 l0_1.length c0_1) ∧ w'.cell? ⟨gb395, 2, none⟩ = some (.int .i64 a0_2)) ∧ (w'.heap[gb395]? = some (.cells #[.int .i64 a0_0, .slice A0_1 l0_1.length c0_1, .int .i64 a0_2] 24 (0, 0))) ∧ (w'.heap[s_]? = some (.cells #[.string (⟨#[]⟩ : ByteArray), .bool false] 97 (0, 0))) ∧ (w.heap.size ≤ s_) ∧ (w.heap.size ≤ s_) ∧ (gb395 ≠ s_) ∧ (s_ ≠ gb395) ∧ (Below w.heap.size w w')) ?_ ?_
    rotate_left
    · intro hCont
      refine two_ (i := 3) (j := 7) (Ni := some 13) (Nj := some 4) #[true, true, true, true, true, true, false, false, false] #[true, true, true, false, true, true, false, true, false] rfl rfl rfl rfl (two_of HT_.out (by kernel_rfl)) (by decide) (by decide) (fun K hK => ?_) (fun K hK => ?_)
      · skip
        refine goes_ Tryd.func60 (by kernel_rfl) rfl #[.agg #[.string (⟨#[]⟩ : ByteArray), .bool false], .int .i64 a0_0] (by rfl) rfl rfl (by (try simp only [List.map_toArray, List.map_cons, List.map_nil]); first | done | rfl | (simp only [List.length_drop, List.length_take]; rfl)) ?_
        with_reducible refine (samphireref09_Num.calls k (⟨#[]⟩ : ByteArray) false a0_0 t397 t398 _ A4.out).mono ?_
        rintro e w10 ⟨rfl, hb⟩
        refine ⟨_, rfl, ?_⟩
        have n0_ := Aside0.mk (blk_below (g := gb395) (o := .cells #[.int .i64 a0_0, .slice A0_1 l0_1.length c0_1, .int .i64 a0_2] 24 (0, 0)) (by (with_reducible repeat (first | refine blk_drewN ?_ _ | refine blk_drew ?_ | refine blk_alloc ?_ _)); exact BK395.out) hb)
        have n1_ := Aside0.mk (below_step (by repeat (first | (with_reducible first | exact HB.out | apply below_alloc | apply pw_below_drewN | apply below_drew1 | refine below_set ?_ GE395.out) | exact HB.out)) hb)
        clear BK395
        clear HB
        have BK395 := n0_
        have HB := n1_
        clear n0_ n1_
        (try clear hb)
        (try clear hb2)
        (try clear hk)
        (try clear hi)
        refine hK.out _ _ ⟨(blk_cell BK395.out 0).trans rfl, (blk_cell BK395.out 1).trans rfl, (blk_cell BK395.out 2).trans rfl⟩ (fun hHeld => ?_)
        clear hK K
        refine norm_ (a' := ?_) ?_ ?_
        rotate_left
        · show Act.put _ (some 13) _ = _
          simp only [Act.put, List.setIfInBounds_toArray, List.set_cons_zero, List.set_cons_succ, i64_w, i32_w]
          rfl
        refine two_ (i := 6) (j := 7) (Ni := some 16) (Nj := some 4) #[true, true, true, true, true, true, true, false, false] #[true, true, true, true, true, true, false, true, false] rfl rfl rfl rfl (two_of HT_.out (by kernel_rfl)) (by decide) (by decide) (fun K hK => ?_) (fun K hK => ?_)
        · skip
          refine goes_ Tryd.func60 (by kernel_rfl) rfl #[.agg #[.string t397, .bool t398], .int .i64 a0_2] (by rfl) rfl rfl (by (try simp only [List.map_toArray, List.map_cons, List.map_nil]); first | done | rfl | (simp only [List.length_drop, List.length_take]; rfl)) ?_
          with_reducible refine (samphireref09_Num.calls k t397 t398 a0_2 t399 t400 _ A5.out).mono ?_
          rintro e w11 ⟨rfl, hb⟩
          refine ⟨_, rfl, ?_⟩
          have n0_ := Aside0.mk (blk_below (g := gb395) (o := .cells #[.int .i64 a0_0, .slice A0_1 l0_1.length c0_1, .int .i64 a0_2] 24 (0, 0)) (by (with_reducible repeat (first | refine blk_drewN ?_ _ | refine blk_drew ?_ | refine blk_alloc ?_ _)); exact BK395.out) hb)
          have n1_ := Aside0.mk (below_step (by repeat (first | (with_reducible first | exact HB.out | apply below_alloc | apply pw_below_drewN | apply below_drew1 | refine below_set ?_ GE395.out) | exact HB.out)) hb)
          clear BK395
          clear HB
          have BK395 := n0_
          have HB := n1_
          clear n0_ n1_
          (try clear hb)
          (try clear hb2)
          (try clear hk)
          (try clear hi)
          refine hK.out _ _ ⟨(blk_cell BK395.out 0).trans rfl, (blk_cell BK395.out 1).trans rfl, (blk_cell BK395.out 2).trans rfl⟩ (fun hHeld => ?_)
          clear hK K
          refine norm_ (a' := ?_) ?_ ?_
          rotate_left
          · show Act.put _ (some 16) _ = _
            simp only [Act.put, List.setIfInBounds_toArray, List.set_cons_zero, List.set_cons_succ, i64_w, i32_w]
            rfl
          refine one_ (i := 7) (N := some 4) #[true, true, true, true, true, true, true, true, false] rfl rfl (one_of HT_.out (by kernel_rfl)) (by decide) (fun K hK => ?_)
          refine box_step ?hg (N := 4) ?hd (cs := #[.string (⟨#[]⟩ : ByteArray), .bool false]) (t := 97) ?hr ?_; (case hd => rfl); (case hg => rfl); (case hr => first | (go_simp; done) | (go_simp; rfl))
          intro gb401 hg w12 hbox hb
          have n0_ := Aside0.mk (blk_below (g := gb395) (o := .cells #[.int .i64 a0_0, .slice A0_1 l0_1.length c0_1, .int .i64 a0_2] 24 (0, 0)) (by (with_reducible repeat (first | refine blk_drewN ?_ _ | refine blk_drew ?_ | refine blk_alloc ?_ _)); exact BK395.out) hb)
          have n1_ := Aside0.mk (below_step (by repeat (first | (with_reducible first | exact HB.out | apply below_alloc | apply pw_below_drewN | apply below_drew1 | refine below_set ?_ GE395.out) | exact HB.out)) hb)
          have n2_ := Aside0.mk (hbox)
          have n3_ := Aside0.mk ((by rw [hg]; exact (below_size (by repeat (first | (with_reducible first | exact HB.out | apply below_alloc | apply pw_below_drewN | apply below_drew1 | refine below_set ?_ GE395.out) | exact HB.out))) : w.heap.size ≤ gb401))
          have n4_ := Aside0.mk ((by rw [hg]; exact (below_size (by repeat (first | (with_reducible first | exact HB.out | apply below_alloc | apply pw_below_drewN | apply below_drew1 | refine below_set ?_ GE395.out) | exact HB.out))) : w.heap.size ≤ gb401))
          have n5_ := Aside0.mk ((by rw [hg]; exact Nat.ne_of_lt (blk_lt (g := gb395) (o := .cells #[.int .i64 a0_0, .slice A0_1 l0_1.length c0_1, .int .i64 a0_2] 24 (0, 0)) (by (with_reducible repeat (first | refine blk_drewN ?_ _ | refine blk_drew ?_ | refine blk_alloc ?_ _)); exact BK395.out)) : gb395 ≠ gb401))
          have n6_ := Aside0.mk ((by rw [hg]; exact Nat.ne_of_gt (blk_lt (g := gb395) (o := .cells #[.int .i64 a0_0, .slice A0_1 l0_1.length c0_1, .int .i64 a0_2] 24 (0, 0)) (by (with_reducible repeat (first | refine blk_drewN ?_ _ | refine blk_drew ?_ | refine blk_alloc ?_ _)); exact BK395.out)) : gb401 ≠ gb395))
          clear BK395
          clear HB
          have BK395 := n0_
          have HB := n1_
          have BK401 := n2_
          have GW401 := n3_
          have GE401 := n4_
          have NB395_401 := n5_
          have NB401_395 := n6_
          clear n0_ n1_ n2_ n3_ n4_ n5_ n6_
          clear hb hbox hg
          refine hK.out _ _ ⟨(blk_cell BK395.out 0).trans rfl, (blk_cell BK395.out 1).trans rfl, (blk_cell BK395.out 2).trans rfl⟩ (fun hHeld => ?_)
          clear hK K
          refine norm_ (a' := ?_) ?_ ?_
          rotate_left
          · show Act.put _ (some 4) _ = _
            simp only [Act.put, List.setIfInBounds_toArray, List.set_cons_zero, List.set_cons_succ, i64_w, i32_w]
            rfl
          exact norm_ (by simp only [putAll, Act.put, List.setIfInBounds_toArray, List.set_cons_zero, List.set_cons_succ]) (hCont (gb401) _ ⟨hHeld, (by (with_reducible repeat (first | refine blk_drewN ?_ _ | refine blk_drew ?_ | refine blk_alloc ?_ _)); exact BK395.out), (by (with_reducible repeat (first | refine blk_drewN ?_ _ | refine blk_drew ?_ | refine blk_alloc ?_ _)); exact BK401.out), GW401.out, GE401.out, NB395_401.out, NB401_395.out, (by repeat (first | (with_reducible first | exact HB.out | apply below_alloc | apply pw_below_drewN | apply below_drew1 | refine below_set ?_ GE395.out | refine below_set ?_ GE401.out) | exact HB.out))⟩)
        · skip
          refine box_step ?hg (N := 4) ?hd (cs := #[.string (⟨#[]⟩ : ByteArray), .bool false]) (t := 97) ?hr ?_; (case hd => rfl); (case hg => rfl); (case hr => first | (go_simp; done) | (go_simp; rfl))
          intro gb401 hg w11 hbox hb
          have n0_ := Aside0.mk (blk_below (g := gb395) (o := .cells #[.int .i64 a0_0, .slice A0_1 l0_1.length c0_1, .int .i64 a0_2] 24 (0, 0)) (by (with_reducible repeat (first | refine blk_drewN ?_ _ | refine blk_drew ?_ | refine blk_alloc ?_ _)); exact BK395.out) hb)
          have n1_ := Aside0.mk (below_step (by repeat (first | (with_reducible first | exact HB.out | apply below_alloc | apply pw_below_drewN | apply below_drew1 | refine below_set ?_ GE395.out) | exact HB.out)) hb)
          have n2_ := Aside0.mk (hbox)
          have n3_ := Aside0.mk ((by rw [hg]; exact (below_size (by repeat (first | (with_reducible first | exact HB.out | apply below_alloc | apply pw_below_drewN | apply below_drew1 | refine below_set ?_ GE395.out) | exact HB.out))) : w.heap.size ≤ gb401))
          have n4_ := Aside0.mk ((by rw [hg]; exact (below_size (by repeat (first | (with_reducible first | exact HB.out | apply below_alloc | apply pw_below_drewN | apply below_drew1 | refine below_set ?_ GE395.out) | exact HB.out))) : w.heap.size ≤ gb401))
          have n5_ := Aside0.mk ((by rw [hg]; exact Nat.ne_of_lt (blk_lt (g := gb395) (o := .cells #[.int .i64 a0_0, .slice A0_1 l0_1.length c0_1, .int .i64 a0_2] 24 (0, 0)) (by (with_reducible repeat (first | refine blk_drewN ?_ _ | refine blk_drew ?_ | refine blk_alloc ?_ _)); exact BK395.out)) : gb395 ≠ gb401))
          have n6_ := Aside0.mk ((by rw [hg]; exact Nat.ne_of_gt (blk_lt (g := gb395) (o := .cells #[.int .i64 a0_0, .slice A0_1 l0_1.length c0_1, .int .i64 a0_2] 24 (0, 0)) (by (with_reducible repeat (first | refine blk_drewN ?_ _ | refine blk_drew ?_ | refine blk_alloc ?_ _)); exact BK395.out)) : gb401 ≠ gb395))
          clear BK395
          clear HB
          have BK395 := n0_
          have HB := n1_
          have BK401 := n2_
          have GW401 := n3_
          have GE401 := n4_
          have NB395_401 := n5_
          have NB401_395 := n6_
          clear n0_ n1_ n2_ n3_ n4_ n5_ n6_
          clear hb hbox hg
          refine hK.out _ _ ⟨(blk_cell BK395.out 0).trans rfl, (blk_cell BK395.out 1).trans rfl, (blk_cell BK395.out 2).trans rfl⟩ (fun hHeld => ?_)
          clear hK K
          refine norm_ (a' := ?_) ?_ ?_
          rotate_left
          · show Act.put _ (some 4) _ = _
            simp only [Act.put, List.setIfInBounds_toArray, List.set_cons_zero, List.set_cons_succ, i64_w, i32_w]
            rfl
          refine one_ (i := 6) (N := some 16) #[true, true, true, true, true, true, true, true, false] rfl rfl (one_of HT_.out (by kernel_rfl)) (by decide) (fun K hK => ?_)
          refine goes_ Tryd.func60 (by kernel_rfl) rfl #[.agg #[.string t397, .bool t398], .int .i64 a0_2] (by rfl) rfl rfl (by (try simp only [List.map_toArray, List.map_cons, List.map_nil]); first | done | rfl | (simp only [List.length_drop, List.length_take]; rfl)) ?_
          with_reducible refine (samphireref09_Num.calls k t397 t398 a0_2 t399 t400 _ A5.out).mono ?_
          rintro e w12 ⟨rfl, hb⟩
          refine ⟨_, rfl, ?_⟩
          have n0_ := Aside0.mk (blk_below (g := gb395) (o := .cells #[.int .i64 a0_0, .slice A0_1 l0_1.length c0_1, .int .i64 a0_2] 24 (0, 0)) (by (with_reducible repeat (first | refine blk_drewN ?_ _ | refine blk_drew ?_ | refine blk_alloc ?_ _)); exact BK395.out) hb)
          have n1_ := Aside0.mk (blk_below (g := gb401) (o := .cells #[.string (⟨#[]⟩ : ByteArray), .bool false] 97 (0, 0)) (by (with_reducible repeat (first | refine blk_drewN ?_ _ | refine blk_drew ?_ | refine blk_alloc ?_ _)); exact BK401.out) hb)
          have n2_ := Aside0.mk (below_step (by repeat (first | (with_reducible first | exact HB.out | apply below_alloc | apply pw_below_drewN | apply below_drew1 | refine below_set ?_ GE395.out | refine below_set ?_ GE401.out) | exact HB.out)) hb)
          clear BK395
          clear BK401
          clear HB
          have BK395 := n0_
          have BK401 := n1_
          have HB := n2_
          clear n0_ n1_ n2_
          (try clear hb)
          (try clear hb2)
          (try clear hk)
          (try clear hi)
          refine hK.out _ _ ⟨(blk_cell BK395.out 0).trans rfl, (blk_cell BK395.out 1).trans rfl, (blk_cell BK395.out 2).trans rfl⟩ (fun hHeld => ?_)
          clear hK K
          refine norm_ (a' := ?_) ?_ ?_
          rotate_left
          · show Act.put _ (some 16) _ = _
            simp only [Act.put, List.setIfInBounds_toArray, List.set_cons_zero, List.set_cons_succ, i64_w, i32_w]
            rfl
          exact norm_ (by simp only [putAll, Act.put, List.setIfInBounds_toArray, List.set_cons_zero, List.set_cons_succ]) (hCont (gb401) _ ⟨hHeld, (by (with_reducible repeat (first | refine blk_drewN ?_ _ | refine blk_drew ?_ | refine blk_alloc ?_ _)); exact BK395.out), (by (with_reducible repeat (first | refine blk_drewN ?_ _ | refine blk_drew ?_ | refine blk_alloc ?_ _)); exact BK401.out), GW401.out, GE401.out, NB395_401.out, NB401_395.out, (by repeat (first | (with_reducible first | exact HB.out | apply below_alloc | apply pw_below_drewN | apply below_drew1 | refine below_set ?_ GE395.out | refine below_set ?_ GE401.out) | exact HB.out))⟩)
      · skip
        refine box_step ?hg (N := 4) ?hd (cs := #[.string (⟨#[]⟩ : ByteArray), .bool false]) (t := 97) ?hr ?_; (case hd => rfl); (case hg => rfl); (case hr => first | (go_simp; done) | (go_simp; rfl))
        intro gb401 hg w10 hbox hb
        have n0_ := Aside0.mk (blk_below (g := gb395) (o := .cells #[.int .i64 a0_0, .slice A0_1 l0_1.length c0_1, .int .i64 a0_2] 24 (0, 0)) (by (with_reducible repeat (first | refine blk_drewN ?_ _ | refine blk_drew ?_ | refine blk_alloc ?_ _)); exact BK395.out) hb)
        have n1_ := Aside0.mk (below_step (by repeat (first | (with_reducible first | exact HB.out | apply below_alloc | apply pw_below_drewN | apply below_drew1 | refine below_set ?_ GE395.out) | exact HB.out)) hb)
        have n2_ := Aside0.mk (hbox)
        have n3_ := Aside0.mk ((by rw [hg]; exact (below_size (by repeat (first | (with_reducible first | exact HB.out | apply below_alloc | apply pw_below_drewN | apply below_drew1 | refine below_set ?_ GE395.out) | exact HB.out))) : w.heap.size ≤ gb401))
        have n4_ := Aside0.mk ((by rw [hg]; exact (below_size (by repeat (first | (with_reducible first | exact HB.out | apply below_alloc | apply pw_below_drewN | apply below_drew1 | refine below_set ?_ GE395.out) | exact HB.out))) : w.heap.size ≤ gb401))
        have n5_ := Aside0.mk ((by rw [hg]; exact Nat.ne_of_lt (blk_lt (g := gb395) (o := .cells #[.int .i64 a0_0, .slice A0_1 l0_1.length c0_1, .int .i64 a0_2] 24 (0, 0)) (by (with_reducible repeat (first | refine blk_drewN ?_ _ | refine blk_drew ?_ | refine blk_alloc ?_ _)); exact BK395.out)) : gb395 ≠ gb401))
        have n6_ := Aside0.mk ((by rw [hg]; exact Nat.ne_of_gt (blk_lt (g := gb395) (o := .cells #[.int .i64 a0_0, .slice A0_1 l0_1.length c0_1, .int .i64 a0_2] 24 (0, 0)) (by (with_reducible repeat (first | refine blk_drewN ?_ _ | refine blk_drew ?_ | refine blk_alloc ?_ _)); exact BK395.out)) : gb401 ≠ gb395))
        clear BK395
        clear HB
        have BK395 := n0_
        have HB := n1_
        have BK401 := n2_
        have GW401 := n3_
        have GE401 := n4_
        have NB395_401 := n5_
        have NB401_395 := n6_
        clear n0_ n1_ n2_ n3_ n4_ n5_ n6_
        clear hb hbox hg
        refine hK.out _ _ ⟨(blk_cell BK395.out 0).trans rfl, (blk_cell BK395.out 1).trans rfl, (blk_cell BK395.out 2).trans rfl⟩ (fun hHeld => ?_)
        clear hK K
        refine norm_ (a' := ?_) ?_ ?_
        rotate_left
        · show Act.put _ (some 4) _ = _
          simp only [Act.put, List.setIfInBounds_toArray, List.set_cons_zero, List.set_cons_succ, i64_w, i32_w]
          rfl
        refine one_ (i := 3) (N := some 13) #[true, true, true, true, true, true, false, true, false] rfl rfl (one_of HT_.out (by kernel_rfl)) (by decide) (fun K hK => ?_)
        refine goes_ Tryd.func60 (by kernel_rfl) rfl #[.agg #[.string (⟨#[]⟩ : ByteArray), .bool false], .int .i64 a0_0] (by rfl) rfl rfl (by (try simp only [List.map_toArray, List.map_cons, List.map_nil]); first | done | rfl | (simp only [List.length_drop, List.length_take]; rfl)) ?_
        with_reducible refine (samphireref09_Num.calls k (⟨#[]⟩ : ByteArray) false a0_0 t397 t398 _ A4.out).mono ?_
        rintro e w11 ⟨rfl, hb⟩
        refine ⟨_, rfl, ?_⟩
        have n0_ := Aside0.mk (blk_below (g := gb395) (o := .cells #[.int .i64 a0_0, .slice A0_1 l0_1.length c0_1, .int .i64 a0_2] 24 (0, 0)) (by (with_reducible repeat (first | refine blk_drewN ?_ _ | refine blk_drew ?_ | refine blk_alloc ?_ _)); exact BK395.out) hb)
        have n1_ := Aside0.mk (blk_below (g := gb401) (o := .cells #[.string (⟨#[]⟩ : ByteArray), .bool false] 97 (0, 0)) (by (with_reducible repeat (first | refine blk_drewN ?_ _ | refine blk_drew ?_ | refine blk_alloc ?_ _)); exact BK401.out) hb)
        have n2_ := Aside0.mk (below_step (by repeat (first | (with_reducible first | exact HB.out | apply below_alloc | apply pw_below_drewN | apply below_drew1 | refine below_set ?_ GE395.out | refine below_set ?_ GE401.out) | exact HB.out)) hb)
        clear BK395
        clear BK401
        clear HB
        have BK395 := n0_
        have BK401 := n1_
        have HB := n2_
        clear n0_ n1_ n2_
        (try clear hb)
        (try clear hb2)
        (try clear hk)
        (try clear hi)
        refine hK.out _ _ ⟨(blk_cell BK395.out 0).trans rfl, (blk_cell BK395.out 1).trans rfl, (blk_cell BK395.out 2).trans rfl⟩ (fun hHeld => ?_)
        clear hK K
        refine norm_ (a' := ?_) ?_ ?_
        rotate_left
        · show Act.put _ (some 13) _ = _
          simp only [Act.put, List.setIfInBounds_toArray, List.set_cons_zero, List.set_cons_succ, i64_w, i32_w]
          rfl
        refine one_ (i := 6) (N := some 16) #[true, true, true, true, true, true, true, true, false] rfl rfl (one_of HT_.out (by kernel_rfl)) (by decide) (fun K hK => ?_)
        refine goes_ Tryd.func60 (by kernel_rfl) rfl #[.agg #[.string t397, .bool t398], .int .i64 a0_2] (by rfl) rfl rfl (by (try simp only [List.map_toArray, List.map_cons, List.map_nil]); first | done | rfl | (simp only [List.length_drop, List.length_take]; rfl)) ?_
        with_reducible refine (samphireref09_Num.calls k t397 t398 a0_2 t399 t400 _ A5.out).mono ?_
        rintro e w12 ⟨rfl, hb⟩
        refine ⟨_, rfl, ?_⟩
        have n0_ := Aside0.mk (blk_below (g := gb395) (o := .cells #[.int .i64 a0_0, .slice A0_1 l0_1.length c0_1, .int .i64 a0_2] 24 (0, 0)) (by (with_reducible repeat (first | refine blk_drewN ?_ _ | refine blk_drew ?_ | refine blk_alloc ?_ _)); exact BK395.out) hb)
        have n1_ := Aside0.mk (blk_below (g := gb401) (o := .cells #[.string (⟨#[]⟩ : ByteArray), .bool false] 97 (0, 0)) (by (with_reducible repeat (first | refine blk_drewN ?_ _ | refine blk_drew ?_ | refine blk_alloc ?_ _)); exact BK401.out) hb)
        have n2_ := Aside0.mk (below_step (by repeat (first | (with_reducible first | exact HB.out | apply below_alloc | apply pw_below_drewN | apply below_drew1 | refine below_set ?_ GE395.out | refine below_set ?_ GE401.out) | exact HB.out)) hb)
        clear BK395
        clear BK401
        clear HB
        have BK395 := n0_
        have BK401 := n1_
        have HB := n2_
        clear n0_ n1_ n2_
        (try clear hb)
        (try clear hb2)
        (try clear hk)
        (try clear hi)
        refine hK.out _ _ ⟨(blk_cell BK395.out 0).trans rfl, (blk_cell BK395.out 1).trans rfl, (blk_cell BK395.out 2).trans rfl⟩ (fun hHeld => ?_)
        clear hK K
        refine norm_ (a' := ?_) ?_ ?_
        rotate_left
        · show Act.put _ (some 16) _ = _
          simp only [Act.put, List.setIfInBounds_toArray, List.set_cons_zero, List.set_cons_succ, i64_w, i32_w]
          rfl
        exact norm_ (by simp only [putAll, Act.put, List.setIfInBounds_toArray, List.set_cons_zero, List.set_cons_succ]) (hCont (gb401) _ ⟨hHeld, (by (with_reducible repeat (first | refine blk_drewN ?_ _ | refine blk_drew ?_ | refine blk_alloc ?_ _)); exact BK395.out), (by (with_reducible repeat (first | refine blk_drewN ?_ _ | refine blk_drew ?_ | refine blk_alloc ?_ _)); exact BK401.out), GW401.out, GE401.out, NB395_401.out, NB401_395.out, (by repeat (first | (with_reducible first | exact HB.out | apply below_alloc | apply pw_below_drewN | apply below_drew1 | refine below_set ?_ GE395.out | refine below_set ?_ GE401.out) | exact HB.out))⟩)
    rintro gb401 w13 ⟨hS_, h0_, h1_, h2_, h3_, h4_, h5_, h6_⟩
    have n0_ : Aside0 (w13.heap[gb395]? = some (.cells #[.int .i64 a0_0, .slice A0_1 l0_1.length c0_1, .int .i64 a0_2] 24 (0, 0))) := ⟨h0_⟩
    have n1_ : Aside0 (w13.heap[gb401]? = some (.cells #[.string (⟨#[]⟩ : ByteArray), .bool false] 97 (0, 0))) := ⟨h1_⟩
    have n2_ : Aside0 (w.heap.size ≤ gb401) := ⟨h2_⟩
    have n3_ : Aside0 (w.heap.size ≤ gb401) := ⟨h3_⟩
    have n4_ : Aside0 (gb395 ≠ gb401) := ⟨h4_⟩
    have n5_ : Aside0 (gb401 ≠ gb395) := ⟨h5_⟩
    have n6_ : Aside0 (Below w.heap.size w w13) := ⟨h6_⟩
    clear BK395
    clear HB
    clear h0_ h1_ h2_ h3_ h4_ h5_ h6_
    have BK395 := n0_
    have BK401 := n1_
    have GW401 := n2_
    have GE401 := n3_
    have NB395_401 := n4_
    have NB401_395 := n5_
    have HB := n6_
    clear n0_ n1_ n2_ n3_ n4_ n5_ n6_
    have hHeld : w13.cell? ⟨gb395, 0, none⟩ = some (.int .i64 a0_0) ∧ w13.cell? ⟨gb395, 1, none⟩ = some (.slice A0_1 l0_1.length c0_1) ∧ w13.cell? ⟨gb395, 2, none⟩ = some (.int .i64 a0_2) := hS_
    refine norm_ (a' := ?_) ?_ ?_
    rotate_left
    · simp only [putAll, Act.put, List.setIfInBounds_toArray, List.set_cons_zero, List.set_cons_succ]
      rfl
    refine one_ (i := 8) (N := none) #[true, true, true, true, true, true, true, true, true] rfl rfl (one_of HT_.out (by kernel_rfl)) (by decide) (fun K hK => ?_)
    have hs14 : w13.cell? ⟨gb401, 0, none⟩ = some (.string (⟨#[]⟩ : ByteArray)) := (blk_cell BK401.out 0).trans rfl
    have hfs14 := blk_frozen BK401.out 0
    have hns14_0 := NB395_401.out
    have hms14_0 := NB401_395.out
    have hs15 : w13.cell? ⟨gb401, 1, none⟩ = some (.bool false) := (blk_cell BK401.out 1).trans rfl
    have hfs15 := blk_frozen BK401.out 1
    have hns15_0 := NB395_401.out
    have hms15_0 := NB401_395.out
    refine skip_ (w1 := ?_) (by rfl) rfl ?_ ?_
    rotate_left
    · go_simp
      rfl
    refine hK.out _ _ ⟨((cell_far (p := ⟨gb401, _, none⟩) NB395_401.out _).trans (((cell_far (p := ⟨gb401, _, none⟩) NB395_401.out _).trans (hHeld.1)))), ((cell_far (p := ⟨gb401, _, none⟩) NB395_401.out _).trans (((cell_far (p := ⟨gb401, _, none⟩) NB395_401.out _).trans (hHeld.2.1)))), ((cell_far (p := ⟨gb401, _, none⟩) NB395_401.out _).trans (((cell_far (p := ⟨gb401, _, none⟩) NB395_401.out _).trans (hHeld.2.2))))⟩ (fun hHeld => ?_)
    clear hK K
    refine done_ (done_of HT_.out (by kernel_rfl)) ?_
    try go_wp2
    go_loopg [5] k (fun kq v5 w' => ∃ (x5_1 : Int) (x402000_1 : ByteArray) (x402001_1 : Bool), v5 = .int .i64 x5_1 ∧ Aside0 (samphireref20_Put.l0 kq x5_1 a0_0 l0_1 a0_2 x402000_1 x402001_1 = some (r1, r2)) ∧ Aside0 (kq ≤ k) ∧ Aside0 (w'.heap[gb395]? = some (.cells #[.int .i64 a0_0, (.slice A0_1 l0_1.length c0_1), .int .i64 a0_2] 24 (0, 0))) ∧ Aside0 (w'.heap[gb401]? = some (.cells #[.string x402000_1, .bool x402001_1] 97 (0, 0))) ∧ Aside0 (Below w.heap.size w w'))
    case atStart => exact ⟨(0), (t399), (t400), (by first | rfl | (simp; done) | (simp [*]; done)), H', ⟨Nat.le_refl _⟩, ⟨by (with_reducible repeat (first | refine blk_drewN ?_ _ | refine blk_drew ?_ | refine blk_alloc ?_ _)); refine blk_far ?_ NB395_401.out _; (with_reducible repeat (first | refine blk_drewN ?_ _ | refine blk_drew ?_ | refine blk_alloc ?_ _)); refine blk_far ?_ NB395_401.out _; (with_reducible repeat (first | refine blk_drewN ?_ _ | refine blk_drew ?_ | refine blk_alloc ?_ _)); exact BK395.out⟩, ⟨by (with_reducible repeat (first | refine blk_drewN ?_ _ | refine blk_drew ?_ | refine blk_alloc ?_ _)); refine blk_put (cs := #[.string t399, .bool false]) ?_ 1 _ rfl; (with_reducible repeat (first | refine blk_drewN ?_ _ | refine blk_drew ?_ | refine blk_alloc ?_ _)); refine blk_put (cs := #[.string (⟨#[]⟩ : ByteArray), .bool false]) ?_ 0 _ rfl; (with_reducible repeat (first | refine blk_drewN ?_ _ | refine blk_drew ?_ | refine blk_alloc ?_ _)); exact BK401.out⟩, ⟨by repeat (first | (with_reducible first | exact HB.out | apply below_alloc | apply pw_below_drewN | apply below_drew1 | refine below_set ?_ GE395.out | refine below_set ?_ GE401.out) | exact HB.out)⟩⟩
    case round =>
      clear H'
      try clear c2
      try clear p2
      try clear c3
      try clear c4
      try clear c6
      try clear hcz7_0
      try clear hcz7_1
      try clear hcz7_2
      try clear hfz7_0
      try clear hfz7_1
      try clear hfz7_2
      obtain ⟨x5_1, x402000_1, x402001_1, rfl, HA, HK1, BK395, BK401, HB⟩ := hrel
      cases gk with
      | zero => exact absurd HA.out (by simp [samphireref20_Put.l0])
      | succ k1 =>
        have H := HA.out
        clear HA
        simp only [samphireref20_Put.l0] at H
        by_cases c16 : x5_1 < 6
        · rw [if_pos c16] at H
          have c16b0 : decide (x5_1 < 6) = true := decide_eq_true c16
          clear c16
          by_cases c17 : 0 ≤ x5_1
          · rw [if_pos c17] at H
            have c17b0 : decide (0 ≤ x5_1) = true := decide_eq_true c17
            clear c17
            by_cases c18 : x5_1 < (l0_1.length : Int)
            · rw [if_pos c18] at H
              have c18b0 : decide (x5_1 < (l0_1.length : Int)) = true := decide_eq_true c18
              clear c18
              obtain ⟨bq19, hbq19⟩ : ∃ b_ : Bool, b_ = ((rd_T46 l0_1 x5_1).f2) := ⟨_, rfl⟩
              replace H : (if bq19 = true then ((samphireref09_Num.f k1 x402000_1 x402001_1 ((rd_T46 l0_1 x5_1).f1)).bind fun bt406 => ((samphireref09_Byte.f k1 bt406.1 bt406.2 1).bind fun bt408 => (samphireref20_Put.l0 k1 (wrap64 (x5_1 + 1)) a0_0 l0_1 a0_2 bt408.1 bt408.2))) else ((samphireref09_Num.f k1 x402000_1 x402001_1 ((rd_T46 l0_1 x5_1).f1)).bind fun bt411 => ((samphireref09_Byte.f k1 bt411.1 bt411.2 0).bind fun bt413 => (samphireref20_Put.l0 k1 (wrap64 (x5_1 + 1)) a0_0 l0_1 a0_2 bt413.1 bt413.2)))) = some (r1, r2) := by rw [← hbq19] at H; exact H
              have Nbq19 := Aside0.mk hbq19
              clear hbq19
              by_cases c20 : bq19 = true
              · subst c20
                have H1 : ((samphireref09_Num.f k1 x402000_1 x402001_1 ((rd_T46 l0_1 x5_1).f1)).bind fun bt406 => ((samphireref09_Byte.f k1 bt406.1 bt406.2 1).bind fun bt408 => (samphireref20_Put.l0 k1 (wrap64 (x5_1 + 1)) a0_0 l0_1 a0_2 bt408.1 bt408.2))) = some (r1, r2) := by rw [if_pos rfl] at H; exact H
                clear H
                have H := H1
                clear H1
                replace H := Option.bind_eq_some_iff.mp H
                obtain ⟨⟨t406, t407⟩, A210, H⟩ := H
                replace H : ((samphireref09_Byte.f k1 t406 t407 1).bind fun bt408 => (samphireref20_Put.l0 k1 (wrap64 (x5_1 + 1)) a0_0 l0_1 a0_2 bt408.1 bt408.2)) = some (r1, r2) := H
                have A21 := Aside0.mk A210
                clear A210
                replace H := Option.bind_eq_some_iff.mp H
                obtain ⟨⟨t408, t409⟩, A220, H⟩ := H
                replace H : (samphireref20_Put.l0 k1 (wrap64 (x5_1 + 1)) a0_0 l0_1 a0_2 t408 t409) = some (r1, r2) := H
                have A22 := Aside0.mk A220
                clear A220
                have H' := Aside0.mk H
                clear H
                have hnb23 := NB395_401.out
                have hnc23 := NB401_395.out
                have hcz24_0 : wr.cell? ⟨gb395, 0, none⟩ = some (.int .i64 a0_0) := (blk_cell BK395.out 0).trans rfl
                have hcz24_1 : wr.cell? ⟨gb395, 1, none⟩ = some (.slice A0_1 l0_1.length c0_1) := (blk_cell BK395.out 1).trans rfl
                have hcz24_2 : wr.cell? ⟨gb395, 2, none⟩ = some (.int .i64 a0_2) := (blk_cell BK395.out 2).trans rfl
                have hfz24_0 := blk_frozen BK395.out 0
                have hfz24_1 := blk_frozen BK395.out 1
                have hfz24_2 := blk_frozen BK395.out 2
                have p404 : 0 ≤ (x5_1 : Int) := of_decide_eq_true (by first | (with_reducible assumption) | assumption)
                have q404 : x5_1 < (l0_1.length : Int) := of_decide_eq_true (by first | (with_reducible assumption) | assumption)
                obtain ⟨ad404, e404, hx404_0, hx404_1, hx404_2⟩ := at_T46 HR0_1.out x5_1 p404 q404
                (try rw [← Nbq19.out] at hx404_2)
                (try rw [← Nbq19.out] at hw404_2)
                cases e404
                replace hx404_0 := (HB.out.cell (World.block_lt_of_cell? w _ hx404_0)).trans hx404_0
                replace hx404_1 := (HB.out.cell (World.block_lt_of_cell? w _ hx404_1)).trans hx404_1
                replace hx404_2 := (HB.out.cell (World.block_lt_of_cell? w _ hx404_2)).trans hx404_2
                replace p404 := eq_true p404
                replace q404 := eq_true q404
                try go_wp2
                have n0_ := Aside0.mk (blk_drew BK395.out)
                have n1_ := Aside0.mk (blk_drew BK401.out)
                have n2_ := Aside0.mk (below_drew1 HB.out)
                clear BK395
                clear BK401
                clear HB
                have BK395 := n0_
                have BK401 := n1_
                have HB := n2_
                clear n0_ n1_ n2_
                have p405 : 0 ≤ (x5_1 : Int) := of_decide_eq_true (by first | (with_reducible assumption) | assumption)
                have q405 : x5_1 < (l0_1.length : Int) := of_decide_eq_true (by first | (with_reducible assumption) | assumption)
                obtain ⟨ad405, e405, hx405_0, hx405_1, hx405_2⟩ := at_T46 HR0_1.out x5_1 p405 q405
                have hw405_2 := hx405_2
                have hw405_1 := hx405_1
                have hw405_0 := hx405_0
                (try rw [← Nbq19.out] at hx405_2)
                (try rw [← Nbq19.out] at hw405_2)
                obtain rfl : ad404 = ad405 := (by injection e405)
                replace hx405_0 := (HB.out.cell (World.block_lt_of_cell? w _ hx405_0)).trans hx405_0
                replace hx405_1 := (HB.out.cell (World.block_lt_of_cell? w _ hx405_1)).trans hx405_1
                replace hx405_2 := (HB.out.cell (World.block_lt_of_cell? w _ hx405_2)).trans hx405_2
                replace p405 := eq_true p405
                replace q405 := eq_true q405
                refine start_ (n := 11) (S := fun w' => w'.cell? ⟨gb401, 0, none⟩ = some (.string x402000_1) ∧ w'.cell? ⟨gb401, 1, none⟩ = some (.bool x402001_1) ∧ w'.cell? ⟨gb395, 0, none⟩ = some (.int .i64 a0_0) ∧ w'.cell? ⟨gb395, 1, none⟩ = some (.slice (some ad404) l0_1.length c0_1) ∧ w'.cell? ⟨gb395, 2, none⟩ = some (.int .i64 a0_2) ∧ w'.cell? (ad404.add ((x5_1).toNat * 3)) = some (.int .i64 ((rd_T46 l0_1 x5_1).f0)) ∧ w'.cell? ⟨(ad404.add ((x5_1).toNat * 3)).block, (ad404.add ((x5_1).toNat * 3)).off + 1, none⟩ = some (.int .i64 ((rd_T46 l0_1 x5_1).f1)) ∧ w'.cell? ⟨(ad404.add ((x5_1).toNat * 3)).block, (ad404.add ((x5_1).toNat * 3)).off + 2, none⟩ = some (.bool (true))) (ds := [10]) #[false, false, false, false, false, false, false, false, false, false, false] (by kernel_rfl) rfl rfl ⟨(blk_cell BK401.out 0).trans rfl, (blk_cell BK401.out 1).trans rfl, (blk_cell BK395.out 0).trans rfl, (blk_cell BK395.out 1).trans rfl, (blk_cell BK395.out 2).trans rfl, ((HB.out.cell (World.block_lt_of_cell? w _ hw405_0)).trans hw405_0), ((HB.out.cell (World.block_lt_of_cell? w _ hw405_1)).trans hw405_1), ((HB.out.cell (World.block_lt_of_cell? w _ hw405_2)).trans hw405_2)⟩ (fun hHeld => ?_); refine with_tabW samphireref20_Put.tab10 samphireref20_Put.bits10 (fun HT_ HW_ => ?_)
                generalize wr.drew = w25 at BK395 BK401 HB hx405_0 hx405_1 hx405_2 hHeld ⊢
                refine pure_ (i := 1) (N := some 28) (v := ?_) (a' := ?_) #[false, true, false, false, false, false, false, false, false, false, false] rfl rfl (any_of HT_.out (by kernel_rfl)) (fun _ _ _ h => h) (Or.inl ⟨by rfl, ?_⟩) ?_ ?_
                rotate_left
                · intro w'
                  go_simp
                  with_reducible rfl
                rotate_left
                · simp only [Act.put, List.setIfInBounds_toArray, List.set_cons_zero, List.set_cons_succ, i64_w, i32_w]
                  rfl
                refine pure_ (i := 3) (N := some 30) (v := ?_) (a' := ?_) #[false, true, false, true, false, false, false, false, false, false, false] rfl rfl (any_of HT_.out (by kernel_rfl)) (fun _ _ _ h => h) (Or.inl ⟨by rfl, ?_⟩) ?_ ?_
                rotate_left
                · intro w'
                  go_simp
                  with_reducible rfl
                rotate_left
                · simp only [Act.put, List.setIfInBounds_toArray, List.set_cons_zero, List.set_cons_succ, i64_w, i32_w]
                  rfl
                refine pure_ (i := 8) (N := some 35) (v := ?_) (a' := ?_) #[false, true, false, true, false, false, false, false, true, false, false] rfl rfl (any_of HT_.out (by kernel_rfl)) (fun _ _ _ h => h) (Or.inl ⟨by rfl, ?_⟩) ?_ ?_
                rotate_left
                · intro w'
                  go_simp
                  with_reducible rfl
                rotate_left
                · simp only [Act.put, List.setIfInBounds_toArray, List.set_cons_zero, List.set_cons_succ, i64_w, i32_w]
                  rfl
                refine take_ (i := 0) (N := some 27) (v := ?_) (a' := ?_) #[true, true, false, true, false, false, false, false, true, false, false] rfl rfl (take_ofW HT_.out HW_.out (by kernel_rfl)) (fun _ _ _ h => h) (Or.inl ⟨by rfl, ?_⟩) hHeld ?_ ?_
                rotate_left
                · rintro w' ⟨s0, s1, s2, s3, s4, s5, s6, s7⟩
                  go_simp
                  with_reducible rfl
                rotate_left
                · simp only [Act.put, List.setIfInBounds_toArray, List.set_cons_zero, List.set_cons_succ, i64_w, i32_w]
                  rfl
                refine take_ (i := 2) (N := some 29) (v := ?_) (a' := ?_) #[true, true, true, true, false, false, false, false, true, false, false] rfl rfl (take_ofW HT_.out HW_.out (by kernel_rfl)) (fun _ _ _ h => h) (Or.inl ⟨by rfl, ?_⟩) hHeld ?_ ?_
                rotate_left
                · rintro w' ⟨s0, s1, s2, s3, s4, s5, s6, s7⟩
                  go_simp
                  with_reducible rfl
                rotate_left
                · simp only [Act.put, List.setIfInBounds_toArray, List.set_cons_zero, List.set_cons_succ, i64_w, i32_w]
                  rfl
                refine pure_ (i := 4) (N := some 31) (v := ?_) (a' := ?_) #[true, true, true, true, true, false, false, false, true, false, false] rfl rfl (any_of HT_.out (by kernel_rfl)) (fun _ _ _ h => h) (Or.inl ⟨by rfl, ?_⟩) ?_ ?_
                rotate_left
                · intro w'
                  go_simp
                  with_reducible rfl
                rotate_left
                · simp only [Act.put, List.setIfInBounds_toArray, List.set_cons_zero, List.set_cons_succ, i64_w, i32_w]
                  rfl
                refine pure_ (i := 5) (N := some 32) (v := ?_) (a' := ?_) #[true, true, true, true, true, true, false, false, true, false, false] rfl rfl (any_of HT_.out (by kernel_rfl)) (fun _ _ _ h => h) (Or.inl ⟨by rfl, ?_⟩) ?_ ?_
                rotate_left
                · intro w'
                  go_simp
                  with_reducible rfl
                rotate_left
                · simp only [Act.put, List.setIfInBounds_toArray, List.set_cons_zero, List.set_cons_succ, i64_w, i32_w]
                  rfl
                refine take_ (i := 6) (N := some 33) (v := ?_) (a' := ?_) #[true, true, true, true, true, true, true, false, true, false, false] rfl rfl (take_ofW HT_.out HW_.out (by kernel_rfl)) (fun _ _ _ h => h) (Or.inl ⟨by rfl, ?_⟩) hHeld ?_ ?_
                rotate_left
                · rintro w' ⟨s0, s1, s2, s3, s4, s5, s6, s7⟩
                  go_simp
                  with_reducible rfl
                rotate_left
                · simp only [Act.put, List.setIfInBounds_toArray, List.set_cons_zero, List.set_cons_succ, i64_w, i32_w]
                  rfl
                refine one_ (i := 7) (N := some 34) #[true, true, true, true, true, true, true, true, true, false, false] rfl rfl (one_of HT_.out (by kernel_rfl)) (by decide) (fun K hK => ?_)
                refine goes_ Tryd.func60 (by kernel_rfl) rfl #[.agg #[.string x402000_1, .bool x402001_1], .int .i64 ((rd_T46 l0_1 x5_1).f1)] (by rfl) rfl rfl (by (try simp only [List.map_toArray, List.map_cons, List.map_nil]); first | done | rfl | (simp only [List.length_drop, List.length_take]; rfl)) ?_
                with_reducible refine (samphireref09_Num.calls k1 x402000_1 x402001_1 ((rd_T46 l0_1 x5_1).f1) t406 t407 _ A21.out).mono ?_
                rintro e w26 ⟨rfl, hb⟩
                refine ⟨_, rfl, ?_⟩
                have n0_ := Aside0.mk (blk_below (g := gb395) (o := .cells #[.int .i64 a0_0, .slice (some ad404) l0_1.length c0_1, .int .i64 a0_2] 24 (0, 0)) (by (with_reducible repeat (first | refine blk_drewN ?_ _ | refine blk_drew ?_ | refine blk_alloc ?_ _)); exact BK395.out) hb)
                have n1_ := Aside0.mk (blk_below (g := gb401) (o := .cells #[.string x402000_1, .bool x402001_1] 97 (0, 0)) (by (with_reducible repeat (first | refine blk_drewN ?_ _ | refine blk_drew ?_ | refine blk_alloc ?_ _)); exact BK401.out) hb)
                have n2_ := Aside0.mk (below_step (by repeat (first | (with_reducible first | exact HB.out | apply below_alloc | apply pw_below_drewN | apply below_drew1 | refine below_set ?_ GE395.out | refine below_set ?_ GE401.out) | exact HB.out)) hb)
                clear BK395
                clear BK401
                clear HB
                have BK395 := n0_
                have BK401 := n1_
                have HB := n2_
                clear n0_ n1_ n2_
                (try clear hb)
                (try clear hb2)
                (try clear hk)
                (try clear hi)
                refine hK.out _ _ ⟨(blk_cell BK401.out 0).trans rfl, (blk_cell BK401.out 1).trans rfl, (blk_cell BK395.out 0).trans rfl, (blk_cell BK395.out 1).trans rfl, (blk_cell BK395.out 2).trans rfl, ((HB.out.cell (World.block_lt_of_cell? w _ hw405_0)).trans hw405_0), ((HB.out.cell (World.block_lt_of_cell? w _ hw405_1)).trans hw405_1), ((HB.out.cell (World.block_lt_of_cell? w _ hw405_2)).trans hw405_2)⟩ (fun hHeld => ?_)
                clear hK K
                refine norm_ (a' := ?_) ?_ ?_
                rotate_left
                · show Act.put _ (some 34) _ = _
                  simp only [Act.put, List.setIfInBounds_toArray, List.set_cons_zero, List.set_cons_succ, i64_w, i32_w]
                  rfl
                refine one_ (i := 9) (N := some 36) #[true, true, true, true, true, true, true, true, true, true, false] rfl rfl (one_of HT_.out (by kernel_rfl)) (by decide) (fun K hK => ?_)
                refine goes_ Tryd.func61 (by kernel_rfl) rfl #[.agg #[.string t406, .bool t407], .int .i64 1] (by rfl) rfl rfl (by (try simp only [List.map_toArray, List.map_cons, List.map_nil]); first | done | rfl | (simp only [List.length_drop, List.length_take]; rfl)) ?_
                with_reducible refine (samphireref09_Byte.calls k1 t406 t407 1 t408 t409 _ A22.out).mono ?_
                rintro e w27 ⟨rfl, hb⟩
                refine ⟨_, rfl, ?_⟩
                have n0_ := Aside0.mk (blk_below (g := gb395) (o := .cells #[.int .i64 a0_0, .slice (some ad404) l0_1.length c0_1, .int .i64 a0_2] 24 (0, 0)) (by (with_reducible repeat (first | refine blk_drewN ?_ _ | refine blk_drew ?_ | refine blk_alloc ?_ _)); exact BK395.out) hb)
                have n1_ := Aside0.mk (blk_below (g := gb401) (o := .cells #[.string x402000_1, .bool x402001_1] 97 (0, 0)) (by (with_reducible repeat (first | refine blk_drewN ?_ _ | refine blk_drew ?_ | refine blk_alloc ?_ _)); exact BK401.out) hb)
                have n2_ := Aside0.mk (below_step (by repeat (first | (with_reducible first | exact HB.out | apply below_alloc | apply pw_below_drewN | apply below_drew1 | refine below_set ?_ GE395.out | refine below_set ?_ GE401.out) | exact HB.out)) hb)
                clear BK395
                clear BK401
                clear HB
                have BK395 := n0_
                have BK401 := n1_
                have HB := n2_
                clear n0_ n1_ n2_
                (try clear hb)
                (try clear hb2)
                (try clear hk)
                (try clear hi)
                refine hK.out _ _ ⟨(blk_cell BK401.out 0).trans rfl, (blk_cell BK401.out 1).trans rfl, (blk_cell BK395.out 0).trans rfl, (blk_cell BK395.out 1).trans rfl, (blk_cell BK395.out 2).trans rfl, ((HB.out.cell (World.block_lt_of_cell? w _ hw405_0)).trans hw405_0), ((HB.out.cell (World.block_lt_of_cell? w _ hw405_1)).trans hw405_1), ((HB.out.cell (World.block_lt_of_cell? w _ hw405_2)).trans hw405_2)⟩ (fun hHeld => ?_)
                clear hK K
                refine norm_ (a' := ?_) ?_ ?_
                rotate_left
                · show Act.put _ (some 36) _ = _
                  simp only [Act.put, List.setIfInBounds_toArray, List.set_cons_zero, List.set_cons_succ, i64_w, i32_w]
                  rfl
                refine last_ (i := 10) (N := none) #[true, true, true, true, true, true, true, true, true, true, true] rfl rfl (one_of HT_.out (by kernel_rfl)) (by decide) (fun K hK => ?_)
                have hs28 : w27.cell? ⟨gb401, 0, none⟩ = some (.string x402000_1) := (blk_cell BK401.out 0).trans rfl
                have hfs28 := blk_frozen BK401.out 0
                have hns28_0 := NB395_401.out
                have hms28_0 := NB401_395.out
                have hs29 : w27.cell? ⟨gb401, 1, none⟩ = some (.bool x402001_1) := (blk_cell BK401.out 1).trans rfl
                have hfs29 := blk_frozen BK401.out 1
                have hns29_0 := NB395_401.out
                have hms29_0 := NB401_395.out
                refine skip_ (w1 := ?_) (by rfl) rfl ?_ ?_
                rotate_left
                · go_simp
                  rfl
                refine hK.out _ _ ?_
                clear hK K
                refine done_ (done_of HT_.out (by kernel_rfl)) ?_
                try go_wp2
                go_roundg k1
                case measure => have := HK1.out; omega
                case rel => exact ⟨(wrap64 (x5_1 + 1)), (t408), (t409), (by first | rfl | (simp; done) | (simp [*]; done)), H', ⟨by have := HK1.out; omega⟩, ⟨by (with_reducible repeat (first | refine blk_drewN ?_ _ | refine blk_drew ?_ | refine blk_alloc ?_ _)); refine blk_far ?_ NB395_401.out _; (with_reducible repeat (first | refine blk_drewN ?_ _ | refine blk_drew ?_ | refine blk_alloc ?_ _)); refine blk_far ?_ NB395_401.out _; (with_reducible repeat (first | refine blk_drewN ?_ _ | refine blk_drew ?_ | refine blk_alloc ?_ _)); exact BK395.out⟩, ⟨by (with_reducible repeat (first | refine blk_drewN ?_ _ | refine blk_drew ?_ | refine blk_alloc ?_ _)); refine blk_put (cs := #[.string t408, .bool x402001_1]) ?_ 1 _ rfl; (with_reducible repeat (first | refine blk_drewN ?_ _ | refine blk_drew ?_ | refine blk_alloc ?_ _)); refine blk_put (cs := #[.string x402000_1, .bool x402001_1]) ?_ 0 _ rfl; (with_reducible repeat (first | refine blk_drewN ?_ _ | refine blk_drew ?_ | refine blk_alloc ?_ _)); exact BK401.out⟩, ⟨by repeat (first | (with_reducible first | exact HB.out | apply below_alloc | apply pw_below_drewN | apply below_drew1 | refine below_set ?_ GE395.out | refine below_set ?_ GE401.out) | exact HB.out)⟩⟩
              · replace c20 := Bool.eq_false_iff.mpr c20
                subst c20
                have H1 : ((samphireref09_Num.f k1 x402000_1 x402001_1 ((rd_T46 l0_1 x5_1).f1)).bind fun bt411 => ((samphireref09_Byte.f k1 bt411.1 bt411.2 0).bind fun bt413 => (samphireref20_Put.l0 k1 (wrap64 (x5_1 + 1)) a0_0 l0_1 a0_2 bt413.1 bt413.2))) = some (r1, r2) := by rw [if_neg (show ¬ (false = true) by decide)] at H; exact H
                clear H
                have H := H1
                clear H1
                replace H := Option.bind_eq_some_iff.mp H
                obtain ⟨⟨t411, t412⟩, A300, H⟩ := H
                replace H : ((samphireref09_Byte.f k1 t411 t412 0).bind fun bt413 => (samphireref20_Put.l0 k1 (wrap64 (x5_1 + 1)) a0_0 l0_1 a0_2 bt413.1 bt413.2)) = some (r1, r2) := H
                have A30 := Aside0.mk A300
                clear A300
                replace H := Option.bind_eq_some_iff.mp H
                obtain ⟨⟨t413, t414⟩, A310, H⟩ := H
                replace H : (samphireref20_Put.l0 k1 (wrap64 (x5_1 + 1)) a0_0 l0_1 a0_2 t413 t414) = some (r1, r2) := H
                have A31 := Aside0.mk A310
                clear A310
                have H' := Aside0.mk H
                clear H
                have hnb32 := NB395_401.out
                have hnc32 := NB401_395.out
                have hcz33_0 : wr.cell? ⟨gb395, 0, none⟩ = some (.int .i64 a0_0) := (blk_cell BK395.out 0).trans rfl
                have hcz33_1 : wr.cell? ⟨gb395, 1, none⟩ = some (.slice A0_1 l0_1.length c0_1) := (blk_cell BK395.out 1).trans rfl
                have hcz33_2 : wr.cell? ⟨gb395, 2, none⟩ = some (.int .i64 a0_2) := (blk_cell BK395.out 2).trans rfl
                have hfz33_0 := blk_frozen BK395.out 0
                have hfz33_1 := blk_frozen BK395.out 1
                have hfz33_2 := blk_frozen BK395.out 2
                have p404 : 0 ≤ (x5_1 : Int) := of_decide_eq_true (by first | (with_reducible assumption) | assumption)
                have q404 : x5_1 < (l0_1.length : Int) := of_decide_eq_true (by first | (with_reducible assumption) | assumption)
                obtain ⟨ad404, e404, hx404_0, hx404_1, hx404_2⟩ := at_T46 HR0_1.out x5_1 p404 q404
                (try rw [← Nbq19.out] at hx404_2)
                (try rw [← Nbq19.out] at hw404_2)
                cases e404
                replace hx404_0 := (HB.out.cell (World.block_lt_of_cell? w _ hx404_0)).trans hx404_0
                replace hx404_1 := (HB.out.cell (World.block_lt_of_cell? w _ hx404_1)).trans hx404_1
                replace hx404_2 := (HB.out.cell (World.block_lt_of_cell? w _ hx404_2)).trans hx404_2
                replace p404 := eq_true p404
                replace q404 := eq_true q404
                try go_wp2
                have n0_ := Aside0.mk (blk_drew BK395.out)
                have n1_ := Aside0.mk (blk_drew BK401.out)
                have n2_ := Aside0.mk (below_drew1 HB.out)
                clear BK395
                clear BK401
                clear HB
                have BK395 := n0_
                have BK401 := n1_
                have HB := n2_
                clear n0_ n1_ n2_
                have p410 : 0 ≤ (x5_1 : Int) := of_decide_eq_true (by first | (with_reducible assumption) | assumption)
                have q410 : x5_1 < (l0_1.length : Int) := of_decide_eq_true (by first | (with_reducible assumption) | assumption)
                obtain ⟨ad410, e410, hx410_0, hx410_1, hx410_2⟩ := at_T46 HR0_1.out x5_1 p410 q410
                have hw410_2 := hx410_2
                have hw410_1 := hx410_1
                have hw410_0 := hx410_0
                (try rw [← Nbq19.out] at hx410_2)
                (try rw [← Nbq19.out] at hw410_2)
                obtain rfl : ad404 = ad410 := (by injection e410)
                replace hx410_0 := (HB.out.cell (World.block_lt_of_cell? w _ hx410_0)).trans hx410_0
                replace hx410_1 := (HB.out.cell (World.block_lt_of_cell? w _ hx410_1)).trans hx410_1
                replace hx410_2 := (HB.out.cell (World.block_lt_of_cell? w _ hx410_2)).trans hx410_2
                replace p410 := eq_true p410
                replace q410 := eq_true q410
                refine start_ (n := 11) (S := fun w' => w'.cell? ⟨gb401, 0, none⟩ = some (.string x402000_1) ∧ w'.cell? ⟨gb401, 1, none⟩ = some (.bool x402001_1) ∧ w'.cell? ⟨gb395, 0, none⟩ = some (.int .i64 a0_0) ∧ w'.cell? ⟨gb395, 1, none⟩ = some (.slice (some ad404) l0_1.length c0_1) ∧ w'.cell? ⟨gb395, 2, none⟩ = some (.int .i64 a0_2) ∧ w'.cell? (ad404.add ((x5_1).toNat * 3)) = some (.int .i64 ((rd_T46 l0_1 x5_1).f0)) ∧ w'.cell? ⟨(ad404.add ((x5_1).toNat * 3)).block, (ad404.add ((x5_1).toNat * 3)).off + 1, none⟩ = some (.int .i64 ((rd_T46 l0_1 x5_1).f1)) ∧ w'.cell? ⟨(ad404.add ((x5_1).toNat * 3)).block, (ad404.add ((x5_1).toNat * 3)).off + 2, none⟩ = some (.bool (false))) (ds := [10]) #[false, false, false, false, false, false, false, false, false, false, false] (by kernel_rfl) rfl rfl ⟨(blk_cell BK401.out 0).trans rfl, (blk_cell BK401.out 1).trans rfl, (blk_cell BK395.out 0).trans rfl, (blk_cell BK395.out 1).trans rfl, (blk_cell BK395.out 2).trans rfl, ((HB.out.cell (World.block_lt_of_cell? w _ hw410_0)).trans hw410_0), ((HB.out.cell (World.block_lt_of_cell? w _ hw410_1)).trans hw410_1), ((HB.out.cell (World.block_lt_of_cell? w _ hw410_2)).trans hw410_2)⟩ (fun hHeld => ?_); refine with_tabW samphireref20_Put.tab10 samphireref20_Put.bits10 (fun HT_ HW_ => ?_)
                generalize wr.drew = w34 at BK395 BK401 HB hx410_0 hx410_1 hx410_2 hHeld ⊢
                refine pure_ (i := 1) (N := some 28) (v := ?_) (a' := ?_) #[false, true, false, false, false, false, false, false, false, false, false] rfl rfl (any_of HT_.out (by kernel_rfl)) (fun _ _ _ h => h) (Or.inl ⟨by rfl, ?_⟩) ?_ ?_
                rotate_left
                · intro w'
                  go_simp
                  with_reducible rfl
                rotate_left
                · simp only [Act.put, List.setIfInBounds_toArray, List.set_cons_zero, List.set_cons_succ, i64_w, i32_w]
                  rfl
                refine pure_ (i := 3) (N := some 30) (v := ?_) (a' := ?_) #[false, true, false, true, false, false, false, false, false, false, false] rfl rfl (any_of HT_.out (by kernel_rfl)) (fun _ _ _ h => h) (Or.inl ⟨by rfl, ?_⟩) ?_ ?_
                rotate_left
                · intro w'
                  go_simp
                  with_reducible rfl
                rotate_left
                · simp only [Act.put, List.setIfInBounds_toArray, List.set_cons_zero, List.set_cons_succ, i64_w, i32_w]
                  rfl
                refine pure_ (i := 8) (N := some 35) (v := ?_) (a' := ?_) #[false, true, false, true, false, false, false, false, true, false, false] rfl rfl (any_of HT_.out (by kernel_rfl)) (fun _ _ _ h => h) (Or.inl ⟨by rfl, ?_⟩) ?_ ?_
                rotate_left
                · intro w'
                  go_simp
                  with_reducible rfl
                rotate_left
                · simp only [Act.put, List.setIfInBounds_toArray, List.set_cons_zero, List.set_cons_succ, i64_w, i32_w]
                  rfl
                refine take_ (i := 0) (N := some 27) (v := ?_) (a' := ?_) #[true, true, false, true, false, false, false, false, true, false, false] rfl rfl (take_ofW HT_.out HW_.out (by kernel_rfl)) (fun _ _ _ h => h) (Or.inl ⟨by rfl, ?_⟩) hHeld ?_ ?_
                rotate_left
                · rintro w' ⟨s0, s1, s2, s3, s4, s5, s6, s7⟩
                  go_simp
                  with_reducible rfl
                rotate_left
                · simp only [Act.put, List.setIfInBounds_toArray, List.set_cons_zero, List.set_cons_succ, i64_w, i32_w]
                  rfl
                refine take_ (i := 2) (N := some 29) (v := ?_) (a' := ?_) #[true, true, true, true, false, false, false, false, true, false, false] rfl rfl (take_ofW HT_.out HW_.out (by kernel_rfl)) (fun _ _ _ h => h) (Or.inl ⟨by rfl, ?_⟩) hHeld ?_ ?_
                rotate_left
                · rintro w' ⟨s0, s1, s2, s3, s4, s5, s6, s7⟩
                  go_simp
                  with_reducible rfl
                rotate_left
                · simp only [Act.put, List.setIfInBounds_toArray, List.set_cons_zero, List.set_cons_succ, i64_w, i32_w]
                  rfl
                refine pure_ (i := 4) (N := some 31) (v := ?_) (a' := ?_) #[true, true, true, true, true, false, false, false, true, false, false] rfl rfl (any_of HT_.out (by kernel_rfl)) (fun _ _ _ h => h) (Or.inl ⟨by rfl, ?_⟩) ?_ ?_
                rotate_left
                · intro w'
                  go_simp
                  with_reducible rfl
                rotate_left
                · simp only [Act.put, List.setIfInBounds_toArray, List.set_cons_zero, List.set_cons_succ, i64_w, i32_w]
                  rfl
                refine pure_ (i := 5) (N := some 32) (v := ?_) (a' := ?_) #[true, true, true, true, true, true, false, false, true, false, false] rfl rfl (any_of HT_.out (by kernel_rfl)) (fun _ _ _ h => h) (Or.inl ⟨by rfl, ?_⟩) ?_ ?_
                rotate_left
                · intro w'
                  go_simp
                  with_reducible rfl
                rotate_left
                · simp only [Act.put, List.setIfInBounds_toArray, List.set_cons_zero, List.set_cons_succ, i64_w, i32_w]
                  rfl
                refine take_ (i := 6) (N := some 33) (v := ?_) (a' := ?_) #[true, true, true, true, true, true, true, false, true, false, false] rfl rfl (take_ofW HT_.out HW_.out (by kernel_rfl)) (fun _ _ _ h => h) (Or.inl ⟨by rfl, ?_⟩) hHeld ?_ ?_
                rotate_left
                · rintro w' ⟨s0, s1, s2, s3, s4, s5, s6, s7⟩
                  go_simp
                  with_reducible rfl
                rotate_left
                · simp only [Act.put, List.setIfInBounds_toArray, List.set_cons_zero, List.set_cons_succ, i64_w, i32_w]
                  rfl
                refine one_ (i := 7) (N := some 34) #[true, true, true, true, true, true, true, true, true, false, false] rfl rfl (one_of HT_.out (by kernel_rfl)) (by decide) (fun K hK => ?_)
                refine goes_ Tryd.func60 (by kernel_rfl) rfl #[.agg #[.string x402000_1, .bool x402001_1], .int .i64 ((rd_T46 l0_1 x5_1).f1)] (by rfl) rfl rfl (by (try simp only [List.map_toArray, List.map_cons, List.map_nil]); first | done | rfl | (simp only [List.length_drop, List.length_take]; rfl)) ?_
                with_reducible refine (samphireref09_Num.calls k1 x402000_1 x402001_1 ((rd_T46 l0_1 x5_1).f1) t411 t412 _ A30.out).mono ?_
                rintro e w35 ⟨rfl, hb⟩
                refine ⟨_, rfl, ?_⟩
                have n0_ := Aside0.mk (blk_below (g := gb395) (o := .cells #[.int .i64 a0_0, .slice (some ad404) l0_1.length c0_1, .int .i64 a0_2] 24 (0, 0)) (by (with_reducible repeat (first | refine blk_drewN ?_ _ | refine blk_drew ?_ | refine blk_alloc ?_ _)); exact BK395.out) hb)
                have n1_ := Aside0.mk (blk_below (g := gb401) (o := .cells #[.string x402000_1, .bool x402001_1] 97 (0, 0)) (by (with_reducible repeat (first | refine blk_drewN ?_ _ | refine blk_drew ?_ | refine blk_alloc ?_ _)); exact BK401.out) hb)
                have n2_ := Aside0.mk (below_step (by repeat (first | (with_reducible first | exact HB.out | apply below_alloc | apply pw_below_drewN | apply below_drew1 | refine below_set ?_ GE395.out | refine below_set ?_ GE401.out) | exact HB.out)) hb)
                clear BK395
                clear BK401
                clear HB
                have BK395 := n0_
                have BK401 := n1_
                have HB := n2_
                clear n0_ n1_ n2_
                (try clear hb)
                (try clear hb2)
                (try clear hk)
                (try clear hi)
                refine hK.out _ _ ⟨(blk_cell BK401.out 0).trans rfl, (blk_cell BK401.out 1).trans rfl, (blk_cell BK395.out 0).trans rfl, (blk_cell BK395.out 1).trans rfl, (blk_cell BK395.out 2).trans rfl, ((HB.out.cell (World.block_lt_of_cell? w _ hw410_0)).trans hw410_0), ((HB.out.cell (World.block_lt_of_cell? w _ hw410_1)).trans hw410_1), ((HB.out.cell (World.block_lt_of_cell? w _ hw410_2)).trans hw410_2)⟩ (fun hHeld => ?_)
                clear hK K
                refine norm_ (a' := ?_) ?_ ?_
                rotate_left
                · show Act.put _ (some 34) _ = _
                  simp only [Act.put, List.setIfInBounds_toArray, List.set_cons_zero, List.set_cons_succ, i64_w, i32_w]
                  rfl
                refine one_ (i := 9) (N := some 36) #[true, true, true, true, true, true, true, true, true, true, false] rfl rfl (one_of HT_.out (by kernel_rfl)) (by decide) (fun K hK => ?_)
                refine goes_ Tryd.func61 (by kernel_rfl) rfl #[.agg #[.string t411, .bool t412], .int .i64 0] (by rfl) rfl rfl (by (try simp only [List.map_toArray, List.map_cons, List.map_nil]); first | done | rfl | (simp only [List.length_drop, List.length_take]; rfl)) ?_
                with_reducible refine (samphireref09_Byte.calls k1 t411 t412 0 t413 t414 _ A31.out).mono ?_
                rintro e w36 ⟨rfl, hb⟩
                refine ⟨_, rfl, ?_⟩
                have n0_ := Aside0.mk (blk_below (g := gb395) (o := .cells #[.int .i64 a0_0, .slice (some ad404) l0_1.length c0_1, .int .i64 a0_2] 24 (0, 0)) (by (with_reducible repeat (first | refine blk_drewN ?_ _ | refine blk_drew ?_ | refine blk_alloc ?_ _)); exact BK395.out) hb)
                have n1_ := Aside0.mk (blk_below (g := gb401) (o := .cells #[.string x402000_1, .bool x402001_1] 97 (0, 0)) (by (with_reducible repeat (first | refine blk_drewN ?_ _ | refine blk_drew ?_ | refine blk_alloc ?_ _)); exact BK401.out) hb)
                have n2_ := Aside0.mk (below_step (by repeat (first | (with_reducible first | exact HB.out | apply below_alloc | apply pw_below_drewN | apply below_drew1 | refine below_set ?_ GE395.out | refine below_set ?_ GE401.out) | exact HB.out)) hb)
                clear BK395
                clear BK401
                clear HB
                have BK395 := n0_
                have BK401 := n1_
                have HB := n2_
                clear n0_ n1_ n2_
                (try clear hb)
                (try clear hb2)
                (try clear hk)
                (try clear hi)
                refine hK.out _ _ ⟨(blk_cell BK401.out 0).trans rfl, (blk_cell BK401.out 1).trans rfl, (blk_cell BK395.out 0).trans rfl, (blk_cell BK395.out 1).trans rfl, (blk_cell BK395.out 2).trans rfl, ((HB.out.cell (World.block_lt_of_cell? w _ hw410_0)).trans hw410_0), ((HB.out.cell (World.block_lt_of_cell? w _ hw410_1)).trans hw410_1), ((HB.out.cell (World.block_lt_of_cell? w _ hw410_2)).trans hw410_2)⟩ (fun hHeld => ?_)
                clear hK K
                refine norm_ (a' := ?_) ?_ ?_
                rotate_left
                · show Act.put _ (some 36) _ = _
                  simp only [Act.put, List.setIfInBounds_toArray, List.set_cons_zero, List.set_cons_succ, i64_w, i32_w]
                  rfl
                refine last_ (i := 10) (N := none) #[true, true, true, true, true, true, true, true, true, true, true] rfl rfl (one_of HT_.out (by kernel_rfl)) (by decide) (fun K hK => ?_)
                have hs37 : w36.cell? ⟨gb401, 0, none⟩ = some (.string x402000_1) := (blk_cell BK401.out 0).trans rfl
                have hfs37 := blk_frozen BK401.out 0
                have hns37_0 := NB395_401.out
                have hms37_0 := NB401_395.out
                have hs38 : w36.cell? ⟨gb401, 1, none⟩ = some (.bool x402001_1) := (blk_cell BK401.out 1).trans rfl
                have hfs38 := blk_frozen BK401.out 1
                have hns38_0 := NB395_401.out
                have hms38_0 := NB401_395.out
                refine skip_ (w1 := ?_) (by rfl) rfl ?_ ?_
                rotate_left
                · go_simp
                  rfl
                refine hK.out _ _ ?_
                clear hK K
                refine done_ (done_of HT_.out (by kernel_rfl)) ?_
                try go_wp2
                go_roundg k1
                case measure => have := HK1.out; omega
                case rel => exact ⟨(wrap64 (x5_1 + 1)), (t413), (t414), (by first | rfl | (simp; done) | (simp [*]; done)), H', ⟨by have := HK1.out; omega⟩, ⟨by (with_reducible repeat (first | refine blk_drewN ?_ _ | refine blk_drew ?_ | refine blk_alloc ?_ _)); refine blk_far ?_ NB395_401.out _; (with_reducible repeat (first | refine blk_drewN ?_ _ | refine blk_drew ?_ | refine blk_alloc ?_ _)); refine blk_far ?_ NB395_401.out _; (with_reducible repeat (first | refine blk_drewN ?_ _ | refine blk_drew ?_ | refine blk_alloc ?_ _)); exact BK395.out⟩, ⟨by (with_reducible repeat (first | refine blk_drewN ?_ _ | refine blk_drew ?_ | refine blk_alloc ?_ _)); refine blk_put (cs := #[.string t413, .bool x402001_1]) ?_ 1 _ rfl; (with_reducible repeat (first | refine blk_drewN ?_ _ | refine blk_drew ?_ | refine blk_alloc ?_ _)); refine blk_put (cs := #[.string x402000_1, .bool x402001_1]) ?_ 0 _ rfl; (with_reducible repeat (first | refine blk_drewN ?_ _ | refine blk_drew ?_ | refine blk_alloc ?_ _)); exact BK401.out⟩, ⟨by repeat (first | (with_reducible first | exact HB.out | apply below_alloc | apply pw_below_drewN | apply below_drew1 | refine below_set ?_ GE395.out | refine below_set ?_ GE401.out) | exact HB.out)⟩⟩
            · rw [if_neg c18] at H
              exact absurd H (by simp)
          · rw [if_neg c17] at H
            exact absurd H (by simp)
        · rw [if_neg c16] at H
          have c16b0 : decide (x5_1 < 6) = false := decide_eq_false c16
          clear c16
          replace H := Option.bind_eq_some_iff.mp H
          obtain ⟨⟨t402, t403⟩, A390, H⟩ := H
          replace H : (some (t402, t403)) = some (r1, r2) := H
          have A39 := Aside0.mk A390
          clear A390
          simp only [Option.some.injEq, Prod.mk.injEq] at H
          obtain ⟨rfl, rfl⟩ := H
          have hnb40 := NB401_395.out
          have hnc40 := NB395_401.out
          have hcz41_0 : wr.cell? ⟨gb401, 0, none⟩ = some (.string x402000_1) := (blk_cell BK401.out 0).trans rfl
          have hcz41_1 : wr.cell? ⟨gb401, 1, none⟩ = some (.bool x402001_1) := (blk_cell BK401.out 1).trans rfl
          have hfz41_0 := blk_frozen BK401.out 0
          have hfz41_1 := blk_frozen BK401.out 1
          go_wp2_with (first | ((with_reducible refine gate_callee (f := 62) rfl ?_); refine goesL_ (some 38) rfl rfl Tryd.func62 (by kernel_rfl) rfl #[.agg #[.string x402000_1, .bool x402001_1]] rfl (by (try simp only [List.map_toArray, List.map_cons, List.map_nil]); first | done | rfl | (simp only [List.length_drop, List.length_take]; rfl)) ?_; (with_reducible refine (samphireref09_Done.calls x402000_1 x402001_1 t402 t403 _ A39.out).mono ?_); rintro e w42 ⟨rfl, hb⟩; refine ⟨_, rfl, ?_⟩; have n0_ := Aside0.mk (blk_below (g := gb395) (o := .cells #[.int .i64 a0_0, .slice A0_1 l0_1.length c0_1, .int .i64 a0_2] 24 (0, 0)) (by (with_reducible repeat (first | refine blk_drewN ?_ _ | refine blk_drew ?_ | refine blk_alloc ?_ _)); exact BK395.out) hb); have n1_ := Aside0.mk (blk_below (g := gb401) (o := .cells #[.string x402000_1, .bool x402001_1] 97 (0, 0)) (by (with_reducible repeat (first | refine blk_drewN ?_ _ | refine blk_drew ?_ | refine blk_alloc ?_ _)); exact BK401.out) hb); have n2_ := Aside0.mk (below_step (by repeat (first | (with_reducible first | exact HB.out | apply below_alloc | apply pw_below_drewN | apply below_drew1 | refine below_set ?_ GE395.out | refine below_set ?_ GE401.out) | exact HB.out)) hb); clear BK395; clear BK401; clear HB; have BK395 := n0_; have BK401 := n1_; have HB := n2_; clear n0_ n1_ n2_; (try clear hb); (try clear hb2); (try clear hk); (try clear hi)))
          go_ret2
          exact ⟨by first | rfl | (simp [errW_none, errW_some] <;> rfl) | (simp [*, errW_none, errW_some] <;> rfl), by repeat (first | (with_reducible first | exact HB.out | apply below_alloc | apply pw_below_drewN | apply below_drew1 | refine below_set ?_ GE395.out | refine below_set ?_ GE401.out) | exact HB.out)⟩
  · replace c3 := Bool.eq_false_iff.mpr c3
    subst c3
    have H1 : (some ((⟨#[]⟩ : ByteArray), 1)) = some (r1, r2) := by rw [if_neg (show ¬ (false = true) by decide)] at H; exact H
    clear H
    have H := H1
    clear H1
    simp only [Option.some.injEq, Prod.mk.injEq] at H
    obtain ⟨rfl, rfl⟩ := H
    go_enter Tryd.func28, Tryd.ntmps28
    go_wp2_with (first | ((with_reducible refine gate_dst (N := 1) rfl ?_); refine box_event ?hg (N := 1) ?hd (cs := #[.int .i64 a0_0, .slice A0_1 l0_1.length c0_1, .int .i64 a0_2]) (t := 24) ?hr ?_; (case hd => rfl); (case hg => rfl); (case hr => first | (go_simp; done) | (go_simp; rfl)); intro gb395 hg w43 hbox hb; have n0_ := Aside0.mk (below_step (by repeat (first | (with_reducible first | exact HB.out | apply below_alloc | apply pw_below_drewN | apply below_drew1) | exact HB.out)) hb); have n1_ := Aside0.mk (hbox); have n2_ := Aside0.mk ((by rw [hg]; exact (below_size (by repeat (first | (with_reducible first | exact HB.out | apply below_alloc | apply pw_below_drewN | apply below_drew1) | exact HB.out))) : w.heap.size ≤ gb395)); have n3_ := Aside0.mk ((by rw [hg]; exact (below_size (by repeat (first | (with_reducible first | exact HB.out | apply below_alloc | apply pw_below_drewN | apply below_drew1) | exact HB.out))) : w.heap.size ≤ gb395)); clear HB; have HB := n0_; have BK395 := n1_; have GW395 := n2_; have GE395 := n3_; clear n0_ n1_ n2_ n3_; clear hb hbox hg; have hcz44_0 : w43.cell? ⟨gb395, 0, none⟩ = some (.int .i64 a0_0) := (blk_cell BK395.out 0).trans rfl; have hcz44_1 : w43.cell? ⟨gb395, 1, none⟩ = some (.slice A0_1 l0_1.length c0_1) := (blk_cell BK395.out 1).trans rfl; have hcz44_2 : w43.cell? ⟨gb395, 2, none⟩ = some (.int .i64 a0_2) := (blk_cell BK395.out 2).trans rfl; have hfz44_0 := blk_frozen BK395.out 0; have hfz44_1 := blk_frozen BK395.out 1; have hfz44_2 := blk_frozen BK395.out 2) | ((with_reducible refine gate_callee (f := 49) rfl ?_); refine goesL_ (some 8) rfl rfl Tryd.func49 (by kernel_rfl) rfl #[.agg #[.int .i64 a0_0, .slice A0_1 l0_1.length c0_1, .int .i64 a0_2]] rfl (by (try simp only [List.map_toArray, List.map_cons, List.map_nil]); first | done | rfl | (simp only [List.length_drop, List.length_take]; rfl)) ?_; (with_reducible refine (samphireref20_May.calls k a0_0 _ _ l0_1 a0_2 false _ ?side1 ?side2 A2.out).mono ?_); (case side1 => repeat (first | exact (Kd.C_below HR0_1.out HB.out) | (with_reducible refine Kd.C_alloc ?_ _) | (with_reducible refine Kd.C_drewN ?_ _) | (with_reducible refine Kd.C_drew ?_))); (case side2 => exact HC0_1.out); rintro e w45 ⟨rfl, hb⟩; refine ⟨_, rfl, ?_⟩; have n0_ := Aside0.mk (blk_below (g := gb395) (o := .cells #[.int .i64 a0_0, .slice A0_1 l0_1.length c0_1, .int .i64 a0_2] 24 (0, 0)) (by (with_reducible repeat (first | refine blk_drewN ?_ _ | refine blk_drew ?_ | refine blk_alloc ?_ _)); exact BK395.out) hb); have n1_ := Aside0.mk (below_step (by repeat (first | (with_reducible first | exact HB.out | apply below_alloc | apply pw_below_drewN | apply below_drew1 | refine below_set ?_ GE395.out) | exact HB.out)) hb); clear BK395; clear HB; have BK395 := n0_; have HB := n1_; clear n0_ n1_; (try clear hb); (try clear hb2); (try clear hk); (try clear hi)))
    go_ret2
    exact ⟨by first | rfl | (simp [errW_none, errW_some] <;> rfl) | (simp [*, errW_none, errW_some] <;> rfl), by repeat (first | (with_reducible first | exact HB.out | apply below_alloc | apply pw_below_drewN | apply below_drew1 | refine below_set ?_ GE395.out) | exact HB.out)⟩
end Go.Proofs.YthemhfloablccaaDoor.Pr
end

section
namespace Go.Proofs.YthemhfloablccaaDoor.Pr
open Go.RowKit Go.Deep Go.Proofs.YthemhfloablccaaDoorW.PrintWords Go.Proofs.YthemhfloablccaaDoorW.PrintLast Go.Proofs.YthemhfloablccaaDoorW.PrintMore
set_option maxHeartbeats 2000000
def okM (k : Nat) (m : Mem) : Bool := decide (m.f0 = (k : Int) + 1 ∧ 0 ≤ m.f1 ∧ m.f1 ≤ 1099511627775)
def okMs : Nat → List Mem → Bool
 | _, [] => true
 | k, m :: l => okM k m && okMs (k + 1) l
def okG (E : Int) (l : List Mem) (O : Int) : Bool := decide (1 ≤ E ∧ E ≤ 1099511627775 ∧ 0 ≤ O ∧ O ≤ 500 ∧ l.length = 6) && (okMs 0 l && (l.headD ⟨0, 0, false⟩).f2)
def wfM (m : Mem) : Prop := -9223372036854775808 ≤ m.f0 ∧ m.f0 ≤ 9223372036854775807
theorem rd_at (l : List Mem) (j : Nat) (m : Mem) (h : l[j]? = some m) : rd_T46 l (j : Int) = m := rd_mem l j m h
theorem check_l0 (E : Int) (l : List Mem) (O : Int) (hl : l.length ≤ 1000) : ∀ (d j k : Nat) (b : Bool), j + d = l.length → d < k → (b = true → l.length = 6) →
    group_Check.l0 k b l (l.length : Int) (j : Int) E l O = some (if (b && okMs j (l.drop j) && (l.headD ⟨0, 0, false⟩).f2) = true then 0 else 1)
  | 0, j, k + 1, b, hj, _, hb => by
    have e : l.drop j = [] := List.drop_eq_nil_of_le (by omega)
    simp only [group_Check.l0]
    rw [if_neg (by omega), e]
    cases b with
    | false => rw [if_neg (by decide)]; simp
    | true =>
      rw [if_pos rfl]
      have h6 := hb rfl
      obtain ⟨m, r, rfl⟩ : ∃ m r, l = m :: r := by cases l with | nil => simp at h6 | cons m r => exact ⟨m, r, rfl⟩
      have e0 : rd_T46 (m :: r) 0 = m := rd_at (m :: r) 0 m rfl
      rw [if_pos (by simp), e0]
      cases hm : m.f2 <;> simp [okMs, hm]
  | d + 1, j, k + 1, b, hj, hk, hb => by
    have hlt : j < l.length := by omega
    have hx := List.getElem?_eq_getElem hlt
    generalize l[j] = m at hx
    have e1 : wrap64 ((j : Int) + 1) = ((j + 1 : Nat) : Int) := by unfold wrap64; omega
    have ed : l.drop j = m :: l.drop (j + 1) := by rw [List.drop_eq_getElem_cons hlt]; congr 1; rw [List.getElem?_eq_getElem hlt] at hx; exact Option.some.inj hx
    have ih := fun b' => check_l0 E l O hl d (j + 1) k b' (by omega) (by omega)
    simp only [group_Check.l0]
    rw [if_pos (by omega), if_pos (by omega), if_pos (by omega), rd_at l j m hx, e1, ed]
    cases b with
    | false =>
      rw [if_neg (by decide), ih false (fun h => by cases h)]
      simp
    | true =>
      rw [if_pos rfl]
      by_cases h1 : m.f0 = ((j + 1 : Nat) : Int)
      · rw [if_pos h1]
        by_cases h2 : m.f1 ≥ 0
        · rw [if_pos h2]
          by_cases h3 : m.f1 ≤ 1099511627775
          · rw [decide_eq_true h3, ih true hb]
            have : okM j m = true := decide_eq_true ⟨by omega, h2, h3⟩
            simp [okMs, this]
          · rw [decide_eq_false h3, ih false (fun h => by cases h)]
            have : okM j m = false := decide_eq_false (fun q => h3 q.2.2)
            simp [okMs, this]
        · rw [if_neg h2, ih false (fun h => by cases h)]
          have : okM j m = false := decide_eq_false (fun q => h2 q.2.1)
          simp [okMs, this]
      · rw [if_neg h1, ih false (fun h => by cases h)]
        have : okM j m = false := decide_eq_false (fun q => h1 (by omega))
        simp [okMs, this]
theorem check_f (E : Int) (l : List Mem) (O : Int) (hl : l.length ≤ 1000) (k : Nat) (hk : l.length + 2 ≤ k) : group_Check.f k E l O = some (if okG E l O = true then 0 else 1) := by
 obtain ⟨k, rfl⟩ : ∃ m, k = m + 1 := ⟨k - 1, by omega⟩
 have h := fun b hb => check_l0 E l O hl l.length 0 k b (by omega) (by omega) hb
 have hF : group_Check.j0 (k + 1) false E l O = some 1 := by
  simp only [group_Check.j0]
  have := h false (fun q => by cases q)
  simpa using this
 unfold group_Check.f okG
 by_cases h1 : E ≥ 1
 ·rw [if_pos h1]
  by_cases h2 : E ≤ 1099511627775
  ·rw [if_pos h2]
   by_cases h3 : O ≥ 0
   ·rw [if_pos h3]
    by_cases h4 : O ≤ 500
    ·rw [if_pos h4]
     simp only [group_Check.j0]
     by_cases h5 : l.length = 6
     ·have e5 : ((l.length : Int) == 6) = true := by rw [h5]; rfl
      rw [e5]
      have := h true (fun _ => h5)
      rw [decide_eq_true (show 1 ≤ E ∧ E ≤ 1099511627775 ∧ 0 ≤ O ∧ O ≤ 500 ∧ l.length = 6 from ⟨h1, h2, h3, h4, h5⟩)]
      simpa using this
     ·have e5 : ((l.length : Int) == 6) = false := beq_eq_false_iff_ne.2 (by omega)
      rw [e5, decide_eq_false (fun q => h5 q.2.2.2.2)]
      have := h false (fun q => by cases q)
      simpa using this
    ·rw [if_neg h4, hF, decide_eq_false (fun q => h4 q.2.2.2.1)]; rfl
   ·rw [if_neg h3, hF, decide_eq_false (fun q => h3 q.2.2.1)]; rfl
  ·rw [if_neg h2, hF, decide_eq_false (fun q => h2 q.2.1)]; rfl
 ·rw [if_neg h1, hF, decide_eq_false (fun q => h1 q.1)]; rfl
theorem drop_at {l : List Mem} {j : Nat} {m : Mem} (hx : l[j]? = some m) : l.drop j = m :: l.drop (j + 1) := by
 have hlt : j < l.length := (List.getElem?_eq_some_iff.1 hx).1
 rw [List.drop_eq_getElem_cons hlt]
 congr 1
 rw [List.getElem?_eq_getElem hlt] at hx
 exact Option.some.inj hx
theorem may_l0 (E : Int) (l : List Mem) (O : Int) (hl : l.length = 6) (hw : ∀ m ∈ l, wfM m) : ∀ (d j k : Nat), j + d = 6 → d < k →
    samphireref20_May.l0 k (j : Int) E l O = some (okMs j (l.drop j) && (decide (j ≠ 0) || (l.headD ⟨0, 0, false⟩).f2))
  | 0, j, k + 1, hj, _ => by
    obtain rfl : j = 6 := by omega
    have e : l.drop 6 = [] := List.drop_eq_nil_of_le (by omega)
    simp only [samphireref20_May.l0]
    rw [if_neg (by decide), e]
    rfl
  | d + 1, j, k + 1, hj, hk => by
    have hlt : j < l.length := by omega
    have hx := List.getElem?_eq_getElem hlt
    generalize l[j] = m at hx
    have hm := hw m (List.mem_of_getElem? hx)
    unfold wfM at hm
    have e1 : wrap64 ((j : Int) + 1) = ((j + 1 : Nat) : Int) := by unfold wrap64; omega
    have ih := may_l0 E l O hl hw d (j + 1) k (by omega) (by omega)
    rw [decide_eq_true (by omega : j + 1 ≠ 0), Bool.true_or, Bool.and_true] at ih
    simp only [samphireref20_May.l0]
    rw [if_pos (by omega), if_pos (by omega), if_pos (by omega), rd_at l j m hx, e1, drop_at hx]
    by_cases h1 : m.f0 = (j : Int) + 1
    · rw [if_pos (by unfold wrap64; omega)]
      by_cases h2 : m.f1 < 0
      · rw [if_pos h2]
        have : okM j m = false := decide_eq_false (fun q => absurd q.2.1 (by omega))
        simp [okMs, this]
      · rw [if_neg h2]
        by_cases h3 : m.f1 > 1099511627775
        · rw [if_pos h3]
          have : okM j m = false := decide_eq_false (fun q => absurd q.2.2 (by omega))
          simp [okMs, this]
        · rw [if_neg h3]
          have : okM j m = true := decide_eq_true ⟨h1, by omega, by omega⟩
          by_cases h0 : j = 0
          · subst h0
            obtain ⟨m', r, rfl⟩ : ∃ m r, l = m :: r := by cases l with | nil => simp at hl | cons m r => exact ⟨m, r, rfl⟩
            cases hx
            rw [if_pos (show ((0 : Nat) : Int) = 0 from rfl), ih]
            cases hf : m.f2 <;> simp [okMs, this, hf]
          · rw [if_neg (by omega), ih, decide_eq_true h0]
            simp [okMs, this]
    · rw [if_neg (by unfold wrap64; omega)]
      have : okM j m = false := decide_eq_false (fun q => h1 q.1)
      simp [okMs, this]
theorem may_f (E : Int) (l : List Mem) (O : Int) (hw : ∀ m ∈ l, wfM m) (k : Nat) (hk : 9 ≤ k) : samphireref20_May.f k E l O = some (okG E l O) := by
 obtain ⟨k, rfl⟩ : ∃ m, k = m + 1 := ⟨k - 1, by omega⟩
 have hT : samphireref20_May.j0 (k + 1) true E l O = some false := by simp only [samphireref20_May.j0]; rw [if_pos trivial]
 unfold samphireref20_May.f okG
 by_cases h1 : E < 1
 ·rw [if_pos h1, hT, decide_eq_false (fun q => by omega)]; rfl
 rw [if_neg h1]
 by_cases h2 : E > 1099511627775
 ·rw [if_pos h2, hT, decide_eq_false (fun q => by omega)]; rfl
 rw [if_neg h2]
 by_cases h3 : O < 0
 ·rw [if_pos h3, hT, decide_eq_false (fun q => by omega)]; rfl
 rw [if_neg h3]
 by_cases h4 : O > 500
 ·rw [if_pos h4, hT, decide_eq_false (fun q => by omega)]; rfl
 rw [if_neg h4]
 by_cases h5 : l.length = 6
 ·have e5 : ((l.length : Int) != 6) = false := by rw [h5]; rfl
  rw [e5, decide_eq_true (show 1 ≤ E ∧ E ≤ 1099511627775 ∧ 0 ≤ O ∧ O ≤ 500 ∧ l.length = 6 from ⟨by omega, by omega, by omega, by omega, h5⟩)]
  simp only [samphireref20_May.j0]
  rw [if_neg (by decide)]
  have := may_l0 E l O h5 hw 6 0 k (by omega) (by omega)
  simpa using this
 ·have e5 : ((l.length : Int) != 6) = true := bne_iff_ne.2 (by omega)
  rw [e5, hT, decide_eq_false (fun q => h5 q.2.2.2.2)]; rfl
theorem okMs_all : ∀ (l : List Mem) (k : Nat), okMs k l = true → ∀ m ∈ l, 0 ≤ m.f1 ∧ m.f1 ≤ 1099511627775
  | [], _, _, m, h => by cases h
  | x :: l, k, hk, m, h => by
    simp only [okMs, Bool.and_eq_true] at hk
    rcases List.mem_cons.1 h with rfl | h
    · exact (of_decide_eq_true hk.1).2
    · exact okMs_all l (k + 1) hk.2 m h
theorem okG_good {E : Int} {l : List Mem} {O : Int} (h : okG E l O = true) : goodG E l O := by
 unfold okG at h
 simp only [Bool.and_eq_true, decide_eq_true_eq] at h
 exact ⟨h.1.2.2.2.2, by omega, by omega, by omega, by omega, okMs_all l 0 h.2.1⟩
theorem put_p (E : Int) (l : List Mem) (O : Int) (hl : l.length ≤ 1000) (k : Nat) (hk : l.length + 2 ≤ k) : group_Put.f k E l O = some (if okG E l O = true then (txt (grpL E l O), 0) else (⟨#[]⟩, 1)) := by
 unfold group_Put.f
 rw [check_f E l O hl k hk, Option.bind_some]
 by_cases h : okG E l O = true
 ·rw [if_pos h, if_pos rfl, if_pos (okG_good h), if_pos h]
 ·rw [if_neg h, if_neg (by decide), if_neg h]
theorem rnum_up (L : List Nat) (n : Int) (h0 : 0 ≤ n) (h1 : n ≤ 1099511627775) (hL : L.length ≤ 60000) (k : Nat) (hk : 10 ≤ k) : samphireref09_Num.f k (txt L) false n = some (txt (L ++ byN n 6), false) := by
 obtain ⟨d, rfl⟩ : ∃ d, k = 10 + d := ⟨k - 10, by omega⟩
 refine up10 (f := fun k => samphireref09_Num.f k (txt L) false n) (fun k => samphireref09_Num.mono _ _ _ k) ?_ d
 show samphireref09_Num.f 10 (txt L) false n = _
 rw [ref_Num (txt L) false n (by rw [txt_size]; omega), show timeB n = true from decide_eq_true ⟨h0, h1⟩]
 unfold refStep
 rw [if_neg (by rw [txt_size, byN_length _ _ (by decide)]; intro q; rcases q with q | q | q; cases q; cases q; omega), txt_append]
theorem rbyte_up (L : List Nat) (n : Int) (h0 : 0 ≤ n) (h1 : n ≤ 255) (hL : L.length ≤ 60000) (k : Nat) (hk : 10 ≤ k) : samphireref09_Byte.f k (txt L) false n = some (txt (L ++ byN n 1), false) := by
 obtain ⟨d, rfl⟩ : ∃ d, k = 10 + d := ⟨k - 10, by omega⟩
 refine up10 (f := fun k => samphireref09_Byte.f k (txt L) false n) (fun k => samphireref09_Byte.mono _ _ _ k) ?_ d
 show samphireref09_Byte.f 10 (txt L) false n = _
 rw [ref_Byte (txt L) false n (by rw [txt_size]; omega), show oneB n = true from decide_eq_true ⟨h0, h1⟩]
 unfold refStep
 rw [if_neg (by rw [txt_size, byN_length _ _ (by decide)]; intro q; rcases q with q | q | q; cases q; cases q; omega), txt_append]
theorem rput_l0 (E : Int) (l : List Mem) (O : Int) (hl : l.length = 6) (hm : ∀ m ∈ l, 0 ≤ m.f1 ∧ m.f1 ≤ 1099511627775) : ∀ (d j k : Nat) (L : List Nat), j + d = 6 → d + 12 ≤ k → L.length ≤ 12 + 7 * j →
    samphireref20_Put.l0 k (j : Int) E l O (txt L) false = some (txt (L ++ (l.drop j).flatMap memB), 0)
  | 0, j, k + 1, L, hj, _, _ => by
    obtain rfl : j = 6 := by omega
    have e : l.drop 6 = [] := List.drop_eq_nil_of_le (by omega)
    simp only [samphireref20_Put.l0]
    rw [if_neg (by decide), e]
    unfold samphireref09_Done.f
    simp
  | d + 1, j, k + 1, L, hj, hk, hL => by
    have hlt : j < l.length := by omega
    have hx := List.getElem?_eq_getElem hlt
    generalize l[j] = m at hx
    have hr := hm m (List.mem_of_getElem? hx)
    have e1 : wrap64 ((j : Int) + 1) = ((j + 1 : Nat) : Int) := by unfold wrap64; omega
    have hn := rnum_up L m.f1 hr.1 hr.2 (by omega) k (by omega)
    have lN : (L ++ byN m.f1 6).length = L.length + 6 := by rw [List.length_append, byN_length _ _ (by decide)]
    have hb1 := rbyte_up (L ++ byN m.f1 6) 1 (by decide) (by decide) (by omega) k (by omega)
    have hb0 := rbyte_up (L ++ byN m.f1 6) 0 (by decide) (by decide) (by omega) k (by omega)
    have ih := fun L' h => rput_l0 E l O hl hm d (j + 1) k L' (by omega) (by omega) h
    simp only [samphireref20_Put.l0]
    rw [if_pos (by omega), if_pos (by omega), if_pos (by omega), rd_at l j m hx, e1, drop_at hx, hn]
    simp only [Option.bind_some]
    rw [hb1, hb0]
    simp only [Option.bind_some]
    rw [ih _ (by rw [List.length_append, lN, byN_length _ _ (by decide)]; omega), ih _ (by rw [List.length_append, lN, byN_length _ _ (by decide)]; omega)]
    cases hf : m.f2
    · rw [if_neg (by decide)]
      simp [memB, flagN, hf]
    · rw [if_pos rfl]
      simp [memB, flagN, hf]
theorem put_r (E : Int) (l : List Mem) (O : Int) (hw : ∀ m ∈ l, wfM m) (k : Nat) (hk : 30 ≤ k) : samphireref20_Put.f k E l O = some (if okG E l O = true then (txt (grpL E l O), 0) else (⟨#[]⟩, 1)) := by
 unfold samphireref20_Put.f
 rw [may_f E l O hw k (by omega), Option.bind_some]
 by_cases h : okG E l O = true
 ·have hg := okG_good h
  rw [if_pos h, if_pos h, show (⟨#[]⟩ : ByteArray) = txt [] from rfl, rnum_up [] E hg.2.1 hg.2.2.1 (by simp) k (by omega), Option.bind_some]
  simp only
  rw [rnum_up _ O hg.2.2.2.1 hg.2.2.2.2.1 (by rw [List.length_append, byN_length _ _ (by decide)]; simp) k (by omega), Option.bind_some]
  simp only
  have := rput_l0 E l O hg.1 hg.2.2.2.2.2 6 0 k ([] ++ byN E 6 ++ byN O 6) (by omega) (by omega) (by simp [byN_length])
  rw [show ((0 : Nat) : Int) = 0 from rfl] at this
  rw [this]
  simp [grpL]
 ·rw [if_neg h, if_neg h]
end Go.Proofs.YthemhfloablccaaDoor.Pr
end

section
namespace Go.Proofs.YthemhfloablccaaDoor.Pr
open Go.RowKit Go.Proofs.YthemhfloablccaaDoorW.PrintWords Go.Proofs.YthemhfloablccaaDoorW.PrintLast Go.Proofs.YthemhfloablccaaDoorW.PrintMore
attribute [local go_sem] max2_int min2_int max_two min_two max_three min_three max_four min_four
theorem eqA46 (d : Nat) (w : World) (x0 y0 : Int) (x1 y1 : Int) (x2 y2 : Bool) :
  (Op.equalIn (d + 2) 46 (.agg #[.int .i64 x0, .int .i64 x1, .bool x2]) (.agg #[.int .i64 y0, .int .i64 y1, .bool y2])).run Tryd.prog w = .ok (x0 == y0 && (x1 == y1 && (x2 == y2))) w := by
 refine eqA_of Tryd.underlying46 (by kernel_rfl) ?_; refine eqf_cons (by rfl) (by go_simp; rfl) (by go_simp; rfl) (by go_simp) ?_; refine eqf_cons (by rfl) (by go_simp; rfl) (by go_simp; rfl) (by go_simp) ?_; exact eqf_last (by rfl) (by go_simp; rfl) (by go_simp; rfl) (by go_simp)
end Go.Proofs.YthemhfloablccaaDoor.Pr
end

section
namespace Go.Proofs.YthemhfloablccaaDoor.Pr
open Go.RowKit Go.Proofs.YthemhfloablccaaDoorW.PrintWords Go.Proofs.YthemhfloablccaaDoorW.PrintLast Go.Proofs.YthemhfloablccaaDoorW.PrintMore
attribute [local go_sem] max2_int min2_int max_two min_two max_three min_three max_four min_four
attribute [local go_sem high] eqA46
mutual
def samphireref20_Same.j0 : Nat → Bool → Int → List (S46) → Int → Int → List (S46) → Int → Option (Bool)
 | 0, _, _, _, _, _, _, _ => none
 | k + 1, x26, x130000, x130001, x130002, x131000, x131001, x131002 => if x26 = true then (some false) else (samphireref20_Same.l0 k 0 x130000 x130001 x130002 x131000 x131001 x131002)
def samphireref20_Same.l0 : Nat → Int → Int → List (S46) → Int → Int → List (S46) → Int → Option (Bool)
 | 0, _, _, _, _, _, _, _ => none
 | k + 1, x5, x130000, x130001, x130002, x131000, x131001, x131002 => if x5 < (x130001.length : Int) then (if 0 ≤ x5 then (if x5 < (x131001.length : Int) then (if (!(((rd_T46 x130001 x5).f0) == ((rd_T46 x131001 x5).f0)) || (!(((rd_T46 x130001 x5).f1) == ((rd_T46 x131001 x5).f1)) || (!(((rd_T46 x130001 x5).f2) == ((rd_T46 x131001 x5).f2))))) = true then (some false) else (samphireref20_Same.l0 k (wrap64 (x5 + 1)) x130000 x130001 x130002 x131000 x131001 x131002)) else (none)) else (none)) else (some true)
end
def samphireref20_Same.f (k : Nat) (a0_0 : Int) (l0_1 : List (S46)) (a0_2 : Int) (a1_0 : Int) (l1_1 : List (S46)) (a1_2 : Int) : Option (Bool) := if a0_0 = a1_0 then (if a0_2 = a1_2 then (samphireref20_Same.j0 k ((l0_1.length : Int) != (l1_1.length : Int)) a0_0 l0_1 a0_2 a1_0 l1_1 a1_2) else (samphireref20_Same.j0 k true a0_0 l0_1 a0_2 a1_0 l1_1 a1_2)) else (samphireref20_Same.j0 k true a0_0 l0_1 a0_2 a1_0 l1_1 a1_2)
set_option maxHeartbeats 8000000 in
set_option maxRecDepth 100000 in
theorem samphireref20_Same.calls (k : Nat) (a0_0 : Int) (A0_1 : Option Addr) (c0_1 : Nat) (l0_1 : List (S46)) (a0_2 : Int) (a1_0 : Int) (A1_1 : Option Addr) (c1_1 : Nat) (l1_1 : List (S46)) (a1_2 : Int) (r : Bool) (w : World) (hr0_1 : Kd.C k46 w A0_1 l0_1.length l0_1) (hc0_1 : l0_1.length ≤ c0_1) (hr1_1 : Kd.C k46 w A1_1 l1_1.length l1_1) (hc1_1 : l1_1.length ≤ c1_1) (h : samphireref20_Same.f k a0_0 l0_1 a0_2 a1_0 l1_1 a1_2 = some r) :
    Calls Tryd.prog 20 #[.agg #[.int .i64 a0_0, .slice A0_1 l0_1.length c0_1, .int .i64 a0_2], .agg #[.int .i64 a1_0, .slice A1_1 l1_1.length c1_1, .int .i64 a1_2]] w fun e w' => e = .returned (.bool r) ∧ Below w.heap.size w w' := by
  have hu24 := Tryd.underlying24; have hu46 := Tryd.underlying46; have HR0_1 := Aside0.mk hr0_1; have HC0_1 := Aside0.mk hc0_1; clear hr0_1 hc0_1; have HR1_1 := Aside0.mk hr1_1; have HC1_1 := Aside0.mk hc1_1; clear hr1_1 hc1_1; have HB := Aside0.mk (Below.refl w.heap.size w); have H : (if a0_0 = a1_0 then (if a0_2 = a1_2 then (samphireref20_Same.j0 k ((l0_1.length : Int) != (l1_1.length : Int)) a0_0 l0_1 a0_2 a1_0 l1_1 a1_2) else (samphireref20_Same.j0 k true a0_0 l0_1 a0_2 a1_0 l1_1 a1_2)) else (samphireref20_Same.j0 k true a0_0 l0_1 a0_2 a1_0 l1_1 a1_2)) = some r := h; clear h; have HC3 := Aside0.mk H; clear H; go_enter Tryd.func20, Tryd.ntmps20
  go_upto_region 1 with (first | ((with_reducible refine gate_dst (N := 2) rfl ?_); (try (refine gate_guard (by rfl) ?_; dsimp only)); refine box_event ?hg (N := 2) ?hd (cs := #[.int .i64 a0_0, .slice A0_1 l0_1.length c0_1, .int .i64 a0_2]) (t := 24) ?hr ?_; (case hd => rfl); (case hg => rfl); (case hr => first | (go_simp; done) | (go_simp; rfl)); intro gb129 hg w4 hbox hb; have n0_ := Aside0.mk (below_step hb_ hb); have n1_ := Aside0.mk (hbox); have n2_ := Aside0.mk ((by rw [hg]; exact (below_size hb_) : w.heap.size ≤ gb129)); have n3_ := Aside0.mk ((by rw [hg]; exact (below_size hb_) : w.heap.size ≤ gb129)); clear HB; have HB := n0_; have BK129 := n1_; have GW129 := n2_; have GE129 := n3_; clear n0_ n1_ n2_ n3_; clear hb hbox hg) | ((with_reducible refine gate_dst (N := 3) rfl ?_); (try (refine gate_guard (by rfl) ?_; dsimp only)); refine box_event ?hg (N := 3) ?hd (cs := #[.int .i64 a1_0, .slice A1_1 l1_1.length c1_1, .int .i64 a1_2]) (t := 24) ?hr ?_; (case hd => rfl); (case hg => rfl); (case hr => first | (go_simp; done) | (go_simp; rfl)); intro gb130 hg w5 hbox hb; have n0_ := Aside0.mk (blk_below (g := gb129) (o := .cells #[.int .i64 a0_0, .slice A0_1 l0_1.length c0_1, .int .i64 a0_2] 24 (0, 0)) (by (with_reducible repeat (first | refine blk_drewN ?_ _ | refine blk_drew ?_ | refine blk_alloc ?_ _)); exact BK129.out) hb); have n1_ := Aside0.mk (below_step (by repeat (first | (with_reducible first | exact HB.out | apply below_alloc | apply pw_below_drewN | apply below_drew1 | refine below_set ?_ GE129.out) | exact HB.out)) hb); have n2_ := Aside0.mk (hbox); have n3_ := Aside0.mk ((by rw [hg]; exact (below_size (by repeat (first | (with_reducible first | exact HB.out | apply below_alloc | apply pw_below_drewN | apply below_drew1 | refine below_set ?_ GE129.out) | exact HB.out))) : w.heap.size ≤ gb130)); have n4_ := Aside0.mk ((by rw [hg]; exact (below_size (by repeat (first | (with_reducible first | exact HB.out | apply below_alloc | apply pw_below_drewN | apply below_drew1 | refine below_set ?_ GE129.out) | exact HB.out))) : w.heap.size ≤ gb130)); have n5_ := Aside0.mk ((by rw [hg]; exact Nat.ne_of_lt (blk_lt (g := gb129) (o := .cells #[.int .i64 a0_0, .slice A0_1 l0_1.length c0_1, .int .i64 a0_2] 24 (0, 0)) (by (with_reducible repeat (first | refine blk_drewN ?_ _ | refine blk_drew ?_ | refine blk_alloc ?_ _)); exact BK129.out)) : gb129 ≠ gb130)); have n6_ := Aside0.mk ((by rw [hg]; exact Nat.ne_of_gt (blk_lt (g := gb129) (o := .cells #[.int .i64 a0_0, .slice A0_1 l0_1.length c0_1, .int .i64 a0_2] 24 (0, 0)) (by (with_reducible repeat (first | refine blk_drewN ?_ _ | refine blk_drew ?_ | refine blk_alloc ?_ _)); exact BK129.out)) : gb130 ≠ gb129)); clear BK129; clear HB; have BK129 := n0_; have HB := n1_; have BK130 := n2_; have GW130 := n3_; have GE130 := n4_; have NB129_130 := n5_; have NB130_129 := n6_; clear n0_ n1_ n2_ n3_ n4_ n5_ n6_; clear hb hbox hg))
  repeat (go_quiet (first | ((with_reducible refine gate_dst (N := 2) rfl ?_); (try (refine gate_guard (by rfl) ?_; dsimp only)); refine box_event ?hg (N := 2) ?hd (cs := #[.int .i64 a0_0, .slice A0_1 l0_1.length c0_1, .int .i64 a0_2]) (t := 24) ?hr ?_; (case hd => rfl); (case hg => rfl); (case hr => first | (go_simp; done) | (go_simp; rfl)); intro gb129 hg w4 hbox hb; have n0_ := Aside0.mk (below_step hb_ hb); have n1_ := Aside0.mk (hbox); have n2_ := Aside0.mk ((by rw [hg]; exact (below_size hb_) : w.heap.size ≤ gb129)); have n3_ := Aside0.mk ((by rw [hg]; exact (below_size hb_) : w.heap.size ≤ gb129)); clear HB; have HB := n0_; have BK129 := n1_; have GW129 := n2_; have GE129 := n3_; clear n0_ n1_ n2_ n3_; clear hb hbox hg) | ((with_reducible refine gate_dst (N := 3) rfl ?_); (try (refine gate_guard (by rfl) ?_; dsimp only)); refine box_event ?hg (N := 3) ?hd (cs := #[.int .i64 a1_0, .slice A1_1 l1_1.length c1_1, .int .i64 a1_2]) (t := 24) ?hr ?_; (case hd => rfl); (case hg => rfl); (case hr => first | (go_simp; done) | (go_simp; rfl)); intro gb130 hg w5 hbox hb; have n0_ := Aside0.mk (blk_below (g := gb129) (o := .cells #[.int .i64 a0_0, .slice A0_1 l0_1.length c0_1, .int .i64 a0_2] 24 (0, 0)) (by (with_reducible repeat (first | refine blk_drewN ?_ _ | refine blk_drew ?_ | refine blk_alloc ?_ _)); exact BK129.out) hb); have n1_ := Aside0.mk (below_step (by repeat (first | (with_reducible first | exact HB.out | apply below_alloc | apply pw_below_drewN | apply below_drew1 | refine below_set ?_ GE129.out) | exact HB.out)) hb); have n2_ := Aside0.mk (hbox); have n3_ := Aside0.mk ((by rw [hg]; exact (below_size (by repeat (first | (with_reducible first | exact HB.out | apply below_alloc | apply pw_below_drewN | apply below_drew1 | refine below_set ?_ GE129.out) | exact HB.out))) : w.heap.size ≤ gb130)); have n4_ := Aside0.mk ((by rw [hg]; exact (below_size (by repeat (first | (with_reducible first | exact HB.out | apply below_alloc | apply pw_below_drewN | apply below_drew1 | refine below_set ?_ GE129.out) | exact HB.out))) : w.heap.size ≤ gb130)); have n5_ := Aside0.mk ((by rw [hg]; exact Nat.ne_of_lt (blk_lt (g := gb129) (o := .cells #[.int .i64 a0_0, .slice A0_1 l0_1.length c0_1, .int .i64 a0_2] 24 (0, 0)) (by (with_reducible repeat (first | refine blk_drewN ?_ _ | refine blk_drew ?_ | refine blk_alloc ?_ _)); exact BK129.out)) : gb129 ≠ gb130)); have n6_ := Aside0.mk ((by rw [hg]; exact Nat.ne_of_gt (blk_lt (g := gb129) (o := .cells #[.int .i64 a0_0, .slice A0_1 l0_1.length c0_1, .int .i64 a0_2] 24 (0, 0)) (by (with_reducible repeat (first | refine blk_drewN ?_ _ | refine blk_drew ?_ | refine blk_alloc ?_ _)); exact BK129.out)) : gb130 ≠ gb129)); clear BK129; clear HB; have BK129 := n0_; have HB := n1_; have BK130 := n2_; have GW130 := n3_; have GE130 := n4_; have NB129_130 := n5_; have NB130_129 := n6_; clear n0_ n1_ n2_ n3_ n4_ n5_ n6_; clear hb hbox hg)); go_upto_region 1 with (first | ((with_reducible refine gate_dst (N := 2) rfl ?_); (try (refine gate_guard (by rfl) ?_; dsimp only)); refine box_event ?hg (N := 2) ?hd (cs := #[.int .i64 a0_0, .slice A0_1 l0_1.length c0_1, .int .i64 a0_2]) (t := 24) ?hr ?_; (case hd => rfl); (case hg => rfl); (case hr => first | (go_simp; done) | (go_simp; rfl)); intro gb129 hg w4 hbox hb; have n0_ := Aside0.mk (below_step hb_ hb); have n1_ := Aside0.mk (hbox); have n2_ := Aside0.mk ((by rw [hg]; exact (below_size hb_) : w.heap.size ≤ gb129)); have n3_ := Aside0.mk ((by rw [hg]; exact (below_size hb_) : w.heap.size ≤ gb129)); clear HB; have HB := n0_; have BK129 := n1_; have GW129 := n2_; have GE129 := n3_; clear n0_ n1_ n2_ n3_; clear hb hbox hg) | ((with_reducible refine gate_dst (N := 3) rfl ?_); (try (refine gate_guard (by rfl) ?_; dsimp only)); refine box_event ?hg (N := 3) ?hd (cs := #[.int .i64 a1_0, .slice A1_1 l1_1.length c1_1, .int .i64 a1_2]) (t := 24) ?hr ?_; (case hd => rfl); (case hg => rfl); (case hr => first | (go_simp; done) | (go_simp; rfl)); intro gb130 hg w5 hbox hb; have n0_ := Aside0.mk (blk_below (g := gb129) (o := .cells #[.int .i64 a0_0, .slice A0_1 l0_1.length c0_1, .int .i64 a0_2] 24 (0, 0)) (by (with_reducible repeat (first | refine blk_drewN ?_ _ | refine blk_drew ?_ | refine blk_alloc ?_ _)); exact BK129.out) hb); have n1_ := Aside0.mk (below_step (by repeat (first | (with_reducible first | exact HB.out | apply below_alloc | apply pw_below_drewN | apply below_drew1 | refine below_set ?_ GE129.out) | exact HB.out)) hb); have n2_ := Aside0.mk (hbox); have n3_ := Aside0.mk ((by rw [hg]; exact (below_size (by repeat (first | (with_reducible first | exact HB.out | apply below_alloc | apply pw_below_drewN | apply below_drew1 | refine below_set ?_ GE129.out) | exact HB.out))) : w.heap.size ≤ gb130)); have n4_ := Aside0.mk ((by rw [hg]; exact (below_size (by repeat (first | (with_reducible first | exact HB.out | apply below_alloc | apply pw_below_drewN | apply below_drew1 | refine below_set ?_ GE129.out) | exact HB.out))) : w.heap.size ≤ gb130)); have n5_ := Aside0.mk ((by rw [hg]; exact Nat.ne_of_lt (blk_lt (g := gb129) (o := .cells #[.int .i64 a0_0, .slice A0_1 l0_1.length c0_1, .int .i64 a0_2] 24 (0, 0)) (by (with_reducible repeat (first | refine blk_drewN ?_ _ | refine blk_drew ?_ | refine blk_alloc ?_ _)); exact BK129.out)) : gb129 ≠ gb130)); have n6_ := Aside0.mk ((by rw [hg]; exact Nat.ne_of_gt (blk_lt (g := gb129) (o := .cells #[.int .i64 a0_0, .slice A0_1 l0_1.length c0_1, .int .i64 a0_2] 24 (0, 0)) (by (with_reducible repeat (first | refine blk_drewN ?_ _ | refine blk_drew ?_ | refine blk_alloc ?_ _)); exact BK129.out)) : gb130 ≠ gb129)); clear BK129; clear HB; have BK129 := n0_; have HB := n1_; have BK130 := n2_; have GW130 := n3_; have GE130 := n4_; have NB129_130 := n5_; have NB130_129 := n6_; clear n0_ n1_ n2_ n3_ n4_ n5_ n6_; clear hb hbox hg)))
  (try simp only [Act.put, List.setIfInBounds_toArray, List.set_cons_zero, List.set_cons_succ])
  go_cut [26] (fun v26 wc => ∃ (kq : Nat) (x26_2 : Bool), v26 = .bool x26_2 ∧ Aside0 (samphireref20_Same.j0 kq x26_2 a0_0 l0_1 a0_2 a1_0 l1_1 a1_2 = some r) ∧ Aside0 (kq ≤ k) ∧ Aside0 (wc.heap[gb129]? = some (.cells #[.int .i64 a0_0, (.slice A0_1 l0_1.length c0_1), .int .i64 a0_2] 24 (0, 0))) ∧ Aside0 (wc.heap[gb130]? = some (.cells #[.int .i64 a1_0, (.slice A1_1 l1_1.length c1_1), .int .i64 a1_2] 24 (0, 0))) ∧ Aside0 (Below w.heap.size w wc))
  case first =>
    have H := HC3.out; clear HC3; by_cases c6 : a0_0 = a1_0
    · rw [if_pos c6] at H; have c6b0 : (a0_0 == a1_0) = true := beq_iff_eq.mpr c6; have c6b1 : (a0_0 != a1_0) = false := bne_eq_false_iff_eq.mpr c6; clear c6
      (first | rw [c6b0] | (simp only [i64_w, i32_w]; rw [c6b0]) | skip)
      by_cases c7 : a0_2 = a1_2
      · rw [if_pos c7] at H; have c7b0 : (a0_2 == a1_2) = true := beq_iff_eq.mpr c7; have c7b1 : (a0_2 != a1_2) = false := bne_eq_false_iff_eq.mpr c7; clear c7; have H' := Aside0.mk H; clear H; have hnb8 := NB129_130.out; have hnc8 := NB130_129.out; have hcz9_0 : w5.cell? ⟨gb129, 0, none⟩ = some (.int .i64 a0_0) := (blk_cell BK129.out 0).trans rfl; have hcz9_1 : w5.cell? ⟨gb129, 1, none⟩ = some (.slice A0_1 l0_1.length c0_1) := (blk_cell BK129.out 1).trans rfl; have hcz9_2 : w5.cell? ⟨gb129, 2, none⟩ = some (.int .i64 a0_2) := (blk_cell BK129.out 2).trans rfl; have hfz9_0 := blk_frozen BK129.out 0; have hfz9_1 := blk_frozen BK129.out 1; have hfz9_2 := blk_frozen BK129.out 2; have hcz10_0 : w5.cell? ⟨gb130, 0, none⟩ = some (.int .i64 a1_0) := (blk_cell BK130.out 0).trans rfl; have hcz10_1 : w5.cell? ⟨gb130, 1, none⟩ = some (.slice A1_1 l1_1.length c1_1) := (blk_cell BK130.out 1).trans rfl; have hcz10_2 : w5.cell? ⟨gb130, 2, none⟩ = some (.int .i64 a1_2) := (blk_cell BK130.out 2).trans rfl; have hfz10_0 := blk_frozen BK130.out 0; have hfz10_1 := blk_frozen BK130.out 1; have hfz10_2 := blk_frozen BK130.out 2; go_wp2; repeat (go_quiet (fail); try go_wp2)
        go_meet
        case rel => exact ⟨_, (((l0_1.length : Int) != (l1_1.length : Int))), rz_, H', ⟨by first | omega | exact Nat.le_refl _⟩, ⟨by (with_reducible repeat (first | refine blk_drewN ?_ _ | refine blk_drew ?_ | refine blk_alloc ?_ _)); exact BK129.out⟩, ⟨by (with_reducible repeat (first | refine blk_drewN ?_ _ | refine blk_drew ?_ | refine blk_alloc ?_ _)); exact BK130.out⟩, ⟨by repeat (first | (with_reducible first | exact HB.out | apply below_alloc | apply pw_below_drewN | apply below_drew1 | refine below_set ?_ GE129.out | refine below_set ?_ GE130.out) | exact HB.out)⟩⟩
      · rw [if_neg c7] at H; have c7b0 : (a0_2 == a1_2) = false := beq_eq_false_iff_ne.mpr c7; have c7b1 : (a0_2 != a1_2) = true := bne_iff_ne.mpr c7; have H' := Aside0.mk H; clear H; have hnb11 := NB129_130.out; have hnc11 := NB130_129.out; have hcz12_0 : w5.cell? ⟨gb129, 0, none⟩ = some (.int .i64 a0_0) := (blk_cell BK129.out 0).trans rfl; have hcz12_1 : w5.cell? ⟨gb129, 1, none⟩ = some (.slice A0_1 l0_1.length c0_1) := (blk_cell BK129.out 1).trans rfl; have hcz12_2 : w5.cell? ⟨gb129, 2, none⟩ = some (.int .i64 a0_2) := (blk_cell BK129.out 2).trans rfl; have hfz12_0 := blk_frozen BK129.out 0; have hfz12_1 := blk_frozen BK129.out 1; have hfz12_2 := blk_frozen BK129.out 2; have hcz13_0 : w5.cell? ⟨gb130, 0, none⟩ = some (.int .i64 a1_0) := (blk_cell BK130.out 0).trans rfl; have hcz13_1 : w5.cell? ⟨gb130, 1, none⟩ = some (.slice A1_1 l1_1.length c1_1) := (blk_cell BK130.out 1).trans rfl; have hcz13_2 : w5.cell? ⟨gb130, 2, none⟩ = some (.int .i64 a1_2) := (blk_cell BK130.out 2).trans rfl; have hfz13_0 := blk_frozen BK130.out 0; have hfz13_1 := blk_frozen BK130.out 1; have hfz13_2 := blk_frozen BK130.out 2; go_wp2; repeat (go_quiet (fail); try go_wp2)
        go_meet
        case rel => exact ⟨_, (true), rz_, H', ⟨by first | omega | exact Nat.le_refl _⟩, ⟨by (with_reducible repeat (first | refine blk_drewN ?_ _ | refine blk_drew ?_ | refine blk_alloc ?_ _)); exact BK129.out⟩, ⟨by (with_reducible repeat (first | refine blk_drewN ?_ _ | refine blk_drew ?_ | refine blk_alloc ?_ _)); exact BK130.out⟩, ⟨by repeat (first | (with_reducible first | exact HB.out | apply below_alloc | apply pw_below_drewN | apply below_drew1 | refine below_set ?_ GE129.out | refine below_set ?_ GE130.out) | exact HB.out)⟩⟩
    · rw [if_neg c6] at H; have c6b0 : (a0_0 == a1_0) = false := beq_eq_false_iff_ne.mpr c6; have c6b1 : (a0_0 != a1_0) = true := bne_iff_ne.mpr c6
      (first | rw [c6b0] | (simp only [i64_w, i32_w]; rw [c6b0]) | skip)
      have H' := Aside0.mk H; clear H; have hnb14 := NB129_130.out; have hnc14 := NB130_129.out; have hcz15_0 : w5.cell? ⟨gb129, 0, none⟩ = some (.int .i64 a0_0) := (blk_cell BK129.out 0).trans rfl; have hcz15_1 : w5.cell? ⟨gb129, 1, none⟩ = some (.slice A0_1 l0_1.length c0_1) := (blk_cell BK129.out 1).trans rfl; have hcz15_2 : w5.cell? ⟨gb129, 2, none⟩ = some (.int .i64 a0_2) := (blk_cell BK129.out 2).trans rfl; have hfz15_0 := blk_frozen BK129.out 0; have hfz15_1 := blk_frozen BK129.out 1; have hfz15_2 := blk_frozen BK129.out 2; have hcz16_0 : w5.cell? ⟨gb130, 0, none⟩ = some (.int .i64 a1_0) := (blk_cell BK130.out 0).trans rfl; have hcz16_1 : w5.cell? ⟨gb130, 1, none⟩ = some (.slice A1_1 l1_1.length c1_1) := (blk_cell BK130.out 1).trans rfl; have hcz16_2 : w5.cell? ⟨gb130, 2, none⟩ = some (.int .i64 a1_2) := (blk_cell BK130.out 2).trans rfl; have hfz16_0 := blk_frozen BK130.out 0; have hfz16_1 := blk_frozen BK130.out 1; have hfz16_2 := blk_frozen BK130.out 2; go_wp2; repeat (go_quiet (fail); try go_wp2)
      go_meet
      case rel => exact ⟨_, (true), rz_, H', ⟨by first | omega | exact Nat.le_refl _⟩, ⟨by (with_reducible repeat (first | refine blk_drewN ?_ _ | refine blk_drew ?_ | refine blk_alloc ?_ _)); exact BK129.out⟩, ⟨by (with_reducible repeat (first | refine blk_drewN ?_ _ | refine blk_drew ?_ | refine blk_alloc ?_ _)); exact BK130.out⟩, ⟨by repeat (first | (with_reducible first | exact HB.out | apply below_alloc | apply pw_below_drewN | apply below_drew1 | refine below_set ?_ GE129.out | refine below_set ?_ GE130.out) | exact HB.out)⟩⟩
  case rest =>
    clear HC3; obtain ⟨kq, x26_2, rfl, HA, HJ2, BK129, BK130, HB⟩ := hcut; cases kq with
    | zero => exact absurd HA.out (by simp [samphireref20_Same.j0])
    | succ kj2 =>
      have H := HA.out; clear HA; simp only [samphireref20_Same.j0] at H; by_cases c17 : x26_2 = true
      · subst c17; have H1 : (some false) = some r := by rw [if_pos rfl] at H; exact H
        clear H; have H := H1; clear H1; obtain rfl := Option.some.inj H; go_wp2; repeat (go_quiet (fail); try go_wp2)
        go_ret
        exact ⟨ew_, by repeat (first | (with_reducible first | exact HB.out | apply below_alloc | apply pw_below_drewN | apply below_drew1 | refine below_set ?_ GE129.out | refine below_set ?_ GE130.out) | exact HB.out)⟩
      · replace c17 := Bool.eq_false_iff.mpr c17; subst c17; have H1 : (samphireref20_Same.l0 kj2 0 a0_0 l0_1 a0_2 a1_0 l1_1 a1_2) = some r := by rw [if_neg (show ¬ (false = true) by decide)] at H; exact H
        clear H; have H := H1; clear H1; have H' := Aside0.mk H; clear H; go_wp2; repeat (go_quiet (fail); try go_wp2)
        go_loopg [5] kj2 (fun kq v5 w' => ∃ (x5_2 : Int), v5 = .int .i64 x5_2 ∧ Aside0 (samphireref20_Same.l0 kq x5_2 a0_0 l0_1 a0_2 a1_0 l1_1 a1_2 = some r) ∧ Aside0 (kq ≤ kj2) ∧ Aside0 (w'.heap[gb129]? = some (.cells #[.int .i64 a0_0, (.slice A0_1 l0_1.length c0_1), .int .i64 a0_2] 24 (0, 0))) ∧ Aside0 (w'.heap[gb130]? = some (.cells #[.int .i64 a1_0, (.slice A1_1 l1_1.length c1_1), .int .i64 a1_2] 24 (0, 0))) ∧ Aside0 (Below w.heap.size w w'))
        case atStart => exact ⟨(0), rz_, H', ⟨Nat.le_refl _⟩, ⟨by (with_reducible repeat (first | refine blk_drewN ?_ _ | refine blk_drew ?_ | refine blk_alloc ?_ _)); exact BK129.out⟩, ⟨by (with_reducible repeat (first | refine blk_drewN ?_ _ | refine blk_drew ?_ | refine blk_alloc ?_ _)); exact BK130.out⟩, ⟨by repeat (first | (with_reducible first | exact HB.out | apply below_alloc | apply pw_below_drewN | apply below_drew1 | refine below_set ?_ GE129.out | refine below_set ?_ GE130.out) | exact HB.out)⟩⟩
        case round =>
          clear H'; obtain ⟨x5_2, rfl, HA, HK2, BK129, BK130, HB⟩ := hrel; cases gk with
          | zero => exact absurd HA.out (by simp [samphireref20_Same.l0])
          | succ k2 =>
            have H := HA.out; clear HA; simp only [samphireref20_Same.l0] at H; by_cases c18 : x5_2 < (l0_1.length : Int)
            · rw [if_pos c18] at H; have c18b0 : decide (x5_2 < (l0_1.length : Int)) = true := decide_eq_true c18; clear c18; by_cases c19 : 0 ≤ x5_2
              · rw [if_pos c19] at H; have c19b0 : decide (0 ≤ x5_2) = true := decide_eq_true c19; clear c19; by_cases c20 : x5_2 < (l1_1.length : Int)
                · rw [if_pos c20] at H; have c20b0 : decide (x5_2 < (l1_1.length : Int)) = true := decide_eq_true c20; clear c20; by_cases c21 : (!(((rd_T46 l0_1 x5_2).f0) == ((rd_T46 l1_1 x5_2).f0)) || (!(((rd_T46 l0_1 x5_2).f1) == ((rd_T46 l1_1 x5_2).f1)) || (!(((rd_T46 l0_1 x5_2).f2) == ((rd_T46 l1_1 x5_2).f2))))) = true
                  · rw [if_pos c21] at H; have c21b0 : (!(((rd_T46 l0_1 x5_2).f0) == ((rd_T46 l1_1 x5_2).f0)) || (!(((rd_T46 l0_1 x5_2).f1) == ((rd_T46 l1_1 x5_2).f1)) || (!(((rd_T46 l0_1 x5_2).f2) == ((rd_T46 l1_1 x5_2).f2))))) = true := c21; clear c21; obtain rfl := Option.some.inj H; have hnb22 := NB129_130.out; have hnc22 := NB130_129.out; have hcz23_0 : wr.cell? ⟨gb129, 0, none⟩ = some (.int .i64 a0_0) := (blk_cell BK129.out 0).trans rfl; have hcz23_1 : wr.cell? ⟨gb129, 1, none⟩ = some (.slice A0_1 l0_1.length c0_1) := (blk_cell BK129.out 1).trans rfl; have hcz23_2 : wr.cell? ⟨gb129, 2, none⟩ = some (.int .i64 a0_2) := (blk_cell BK129.out 2).trans rfl; have hfz23_0 := blk_frozen BK129.out 0; have hfz23_1 := blk_frozen BK129.out 1; have hfz23_2 := blk_frozen BK129.out 2; have p131 : 0 ≤ (x5_2 : Int) := of_decide_eq_true as_'; have q131 : x5_2 < (l0_1.length : Int) := of_decide_eq_true as_'; obtain ⟨ad131, e131, hx131_0, hx131_1, hx131_2⟩ := at_T46 HR0_1.out x5_2 p131 q131; cases e131; replace hx131_0 := (HB.out.cell (World.block_lt_of_cell? w _ hx131_0)).trans hx131_0; replace hx131_1 := (HB.out.cell (World.block_lt_of_cell? w _ hx131_1)).trans hx131_1; replace hx131_2 := (HB.out.cell (World.block_lt_of_cell? w _ hx131_2)).trans hx131_2; replace p131 := eq_true p131; replace q131 := eq_true q131; have hcz24_0 : wr.cell? ⟨gb130, 0, none⟩ = some (.int .i64 a1_0) := (blk_cell BK130.out 0).trans rfl; have hcz24_1 : wr.cell? ⟨gb130, 1, none⟩ = some (.slice A1_1 l1_1.length c1_1) := (blk_cell BK130.out 1).trans rfl; have hcz24_2 : wr.cell? ⟨gb130, 2, none⟩ = some (.int .i64 a1_2) := (blk_cell BK130.out 2).trans rfl; have hfz24_0 := blk_frozen BK130.out 0; have hfz24_1 := blk_frozen BK130.out 1; have hfz24_2 := blk_frozen BK130.out 2; have p132 : 0 ≤ (x5_2 : Int) := of_decide_eq_true as_'; have q132 : x5_2 < (l1_1.length : Int) := of_decide_eq_true as_'; obtain ⟨ad132, e132, hx132_0, hx132_1, hx132_2⟩ := at_T46 HR1_1.out x5_2 p132 q132; cases e132; replace hx132_0 := (HB.out.cell (World.block_lt_of_cell? w _ hx132_0)).trans hx132_0; replace hx132_1 := (HB.out.cell (World.block_lt_of_cell? w _ hx132_1)).trans hx132_1; replace hx132_2 := (HB.out.cell (World.block_lt_of_cell? w _ hx132_2)).trans hx132_2; replace p132 := eq_true p132; replace q132 := eq_true q132; go_wp2; repeat (go_quiet (fail); try go_wp2)
                    go_ret
                    exact ⟨ew_, by repeat (first | (with_reducible first | exact HB.out | apply below_alloc | apply pw_below_drewN | apply below_drew1 | refine below_set ?_ GE129.out | refine below_set ?_ GE130.out) | exact HB.out)⟩
                  · rw [if_neg c21] at H; have c21b0 : (!(((rd_T46 l0_1 x5_2).f0) == ((rd_T46 l1_1 x5_2).f0)) || (!(((rd_T46 l0_1 x5_2).f1) == ((rd_T46 l1_1 x5_2).f1)) || (!(((rd_T46 l0_1 x5_2).f2) == ((rd_T46 l1_1 x5_2).f2))))) = false := by simpa using c21
                    clear c21; have H' := Aside0.mk H; clear H; have hnb25 := NB129_130.out; have hnc25 := NB130_129.out; have hcz26_0 : wr.cell? ⟨gb129, 0, none⟩ = some (.int .i64 a0_0) := (blk_cell BK129.out 0).trans rfl; have hcz26_1 : wr.cell? ⟨gb129, 1, none⟩ = some (.slice A0_1 l0_1.length c0_1) := (blk_cell BK129.out 1).trans rfl; have hcz26_2 : wr.cell? ⟨gb129, 2, none⟩ = some (.int .i64 a0_2) := (blk_cell BK129.out 2).trans rfl; have hfz26_0 := blk_frozen BK129.out 0; have hfz26_1 := blk_frozen BK129.out 1; have hfz26_2 := blk_frozen BK129.out 2; have p131 : 0 ≤ (x5_2 : Int) := of_decide_eq_true as_'; have q131 : x5_2 < (l0_1.length : Int) := of_decide_eq_true as_'; obtain ⟨ad131, e131, hx131_0, hx131_1, hx131_2⟩ := at_T46 HR0_1.out x5_2 p131 q131; cases e131; replace hx131_0 := (HB.out.cell (World.block_lt_of_cell? w _ hx131_0)).trans hx131_0; replace hx131_1 := (HB.out.cell (World.block_lt_of_cell? w _ hx131_1)).trans hx131_1; replace hx131_2 := (HB.out.cell (World.block_lt_of_cell? w _ hx131_2)).trans hx131_2; replace p131 := eq_true p131; replace q131 := eq_true q131; have hcz27_0 : wr.cell? ⟨gb130, 0, none⟩ = some (.int .i64 a1_0) := (blk_cell BK130.out 0).trans rfl; have hcz27_1 : wr.cell? ⟨gb130, 1, none⟩ = some (.slice A1_1 l1_1.length c1_1) := (blk_cell BK130.out 1).trans rfl; have hcz27_2 : wr.cell? ⟨gb130, 2, none⟩ = some (.int .i64 a1_2) := (blk_cell BK130.out 2).trans rfl; have hfz27_0 := blk_frozen BK130.out 0; have hfz27_1 := blk_frozen BK130.out 1; have hfz27_2 := blk_frozen BK130.out 2; have p132 : 0 ≤ (x5_2 : Int) := of_decide_eq_true as_'; have q132 : x5_2 < (l1_1.length : Int) := of_decide_eq_true as_'; obtain ⟨ad132, e132, hx132_0, hx132_1, hx132_2⟩ := at_T46 HR1_1.out x5_2 p132 q132; cases e132; replace hx132_0 := (HB.out.cell (World.block_lt_of_cell? w _ hx132_0)).trans hx132_0; replace hx132_1 := (HB.out.cell (World.block_lt_of_cell? w _ hx132_1)).trans hx132_1; replace hx132_2 := (HB.out.cell (World.block_lt_of_cell? w _ hx132_2)).trans hx132_2; replace p132 := eq_true p132; replace q132 := eq_true q132; go_wp2; repeat (go_quiet (fail); try go_wp2)
                    go_roundg k2
                    case measure => have := HJ2.out; have := HK2.out; omega
                    case rel => exact ⟨(wrap64 (x5_2 + 1)), rz_, H', ⟨by have := HJ2.out; have := HK2.out; omega⟩, ⟨by (with_reducible repeat (first | refine blk_drewN ?_ _ | refine blk_drew ?_ | refine blk_alloc ?_ _)); exact BK129.out⟩, ⟨by (with_reducible repeat (first | refine blk_drewN ?_ _ | refine blk_drew ?_ | refine blk_alloc ?_ _)); exact BK130.out⟩, ⟨by repeat (first | (with_reducible first | exact HB.out | apply below_alloc | apply pw_below_drewN | apply below_drew1 | refine below_set ?_ GE129.out | refine below_set ?_ GE130.out) | exact HB.out)⟩⟩
                · rw [if_neg c20] at H; exact absurd H (by simp)
              · rw [if_neg c19] at H; exact absurd H (by simp)
            · rw [if_neg c18] at H; have c18b0 : decide (x5_2 < (l0_1.length : Int)) = false := decide_eq_false c18; clear c18; obtain rfl := Option.some.inj H; have hnb28 := NB129_130.out; have hnc28 := NB130_129.out; have hcz29_0 : wr.cell? ⟨gb129, 0, none⟩ = some (.int .i64 a0_0) := (blk_cell BK129.out 0).trans rfl; have hcz29_1 : wr.cell? ⟨gb129, 1, none⟩ = some (.slice A0_1 l0_1.length c0_1) := (blk_cell BK129.out 1).trans rfl; have hcz29_2 : wr.cell? ⟨gb129, 2, none⟩ = some (.int .i64 a0_2) := (blk_cell BK129.out 2).trans rfl; have hfz29_0 := blk_frozen BK129.out 0; have hfz29_1 := blk_frozen BK129.out 1; have hfz29_2 := blk_frozen BK129.out 2; go_wp2; repeat (go_quiet (fail); try go_wp2)
              go_ret
              exact ⟨ew_, by repeat (first | (with_reducible first | exact HB.out | apply below_alloc | apply pw_below_drewN | apply below_drew1 | refine below_set ?_ GE129.out | refine below_set ?_ GE130.out) | exact HB.out)⟩
end Go.Proofs.YthemhfloablccaaDoor.Pr
end

section
namespace Go.Proofs.YthemhfloablccaaDoor.Pr
open Go.RowKit Go.Deep Go.Proofs.YthemhfloablccaaDoorW.PrintWords Go.Proofs.YthemhfloablccaaDoorW.PrintLast Go.Proofs.YthemhfloablccaaDoorW.PrintMore
set_option maxHeartbeats 2000000
def memsP : Nat → Nat → List Nat → Int → List Mem × Bool × List Nat × Int
  | 0, _, T, e => ([], true, T, e)
  | d + 1, j, T, e =>
    (⟨(j : Int) + 1, (numQ T e).1, (byteQ (numQ T e).2.1 (numQ T e).2.2).1 == 1⟩ :: (memsP d (j + 1) (byteQ (numQ T e).2.1 (numQ T e).2.2).2.1 (byteQ (numQ T e).2.1 (numQ T e).2.2).2.2).1,
     decide ((byteQ (numQ T e).2.1 (numQ T e).2.2).1 ≤ 1) && (memsP d (j + 1) (byteQ (numQ T e).2.1 (numQ T e).2.2).2.1 (byteQ (numQ T e).2.1 (numQ T e).2.2).2.2).2.1,
     (memsP d (j + 1) (byteQ (numQ T e).2.1 (numQ T e).2.2).2.1 (byteQ (numQ T e).2.1 (numQ T e).2.2).2.2).2.2.1,
     (memsP d (j + 1) (byteQ (numQ T e).2.1 (numQ T e).2.2).2.1 (byteQ (numQ T e).2.1 (numQ T e).2.2).2.2).2.2.2)
def fin (ok : Bool) (T : List Nat) (e E : Int) (l : List Mem) (O : Int) : Int × List Mem × Int × Int := if (ok && doneQ T e && okG E l O) = true then (E, l, O, 0) else (0, [], 0, 91)
theorem done_p (T : List Nat) (e : Int) : ∃ v, code_In_Done.f true (txt T) e = some v ∧ (v.1 = 0 ↔ doneQ T e = true) := by
 unfold code_In_Done.f doneQ
 rw [if_pos rfl]
 by_cases he : e = 0
 ·rw [if_pos he]
  by_cases hT : T = []
  ·rw [if_pos ((txt_nil_iff T).2 hT), he, hT]; exact ⟨_, rfl, by simp⟩
  ·rw [if_neg (fun q => hT ((txt_nil_iff T).1 q))]
   refine ⟨_, rfl, ?_⟩
   cases T with
   | nil => exact absurd rfl hT
   | cons a T => simp
 ·rw [if_neg he]; exact ⟨_, rfl, by simp [he]⟩
theorem done_r (T : List Nat) (e : Int) : ∃ v, samphireref09_InDone.f (txt T) e = some v ∧ (v = 0 ↔ doneQ T e = true) := by
 unfold samphireref09_InDone.f doneQ
 by_cases he : e = 0
 ·rw [if_pos he]
  by_cases hT : T = []
  ·rw [if_pos ((txt_nil_iff T).2 hT), he, hT]; exact ⟨_, rfl, by simp⟩
  ·rw [if_neg (fun q => hT ((txt_nil_iff T).1 q))]
   refine ⟨_, rfl, ?_⟩
   cases T with
   | nil => exact absurd rfl hT
   | cons a T => simp
 ·rw [if_neg he]; exact ⟨_, rfl, by simp [he]⟩
theorem take_l0 (E O : Int) : ∀ (d j k : Nat) (ok : Bool) (T : List Nat) (e : Int) (acc : List Mem), j + d = 6 → d + 20 ≤ k → InOk T e → acc.length = j →
    group_Take.l0 k ok (j : Int) true (txt T) e E acc O = some (fin (ok && (memsP d j T e).2.1) (memsP d j T e).2.2.1 (memsP d j T e).2.2.2 E (acc ++ (memsP d j T e).1) O)
  | 0, j, k + 1, ok, T, e, acc, hj, hk, hi, ha => by
    obtain rfl : j = 6 := by omega
    obtain ⟨v, hv, hd⟩ := done_p T e
    simp only [group_Take.l0, memsP]
    rw [if_neg (by decide), hv, Option.bind_some, check_f E acc O (by omega) k (by omega), Option.bind_some, List.append_nil, Bool.and_true]
    unfold fin
    cases ok
    · rw [if_neg (by decide)]; rfl
    · rw [if_pos rfl]
      by_cases h : v.1 = 0
      · rw [if_pos h, hd.1 h]
        by_cases hg : okG E acc O = true
        · rw [if_pos hg, if_pos rfl, if_pos (by rw [hg]; rfl)]
        · rw [if_neg hg, if_neg (by decide), if_neg (by simpa using hg)]
      · rw [if_neg h, if_neg (by simp only [Bool.true_and, Bool.and_eq_true]; exact fun q => h (hd.2 q.1))]
  | d + 1, j, k + 1, ok, T, e, acc, hj, hk, hi, ha => by
    have e1 : wrap64 ((j : Int) + 1) = ((j + 1 : Nat) : Int) := by unfold wrap64; omega
    have i1 := numQ_ok hi
    have i2 := byteQ_ok i1
    have ih := fun ok' acc' h => take_l0 E O d (j + 1) k ok' _ _ acc' (by omega) (by omega) i2 h
    simp only [group_Take.l0]
    rw [if_pos (by omega), num_p hi k (by omega)]
    simp only [Option.bind_some]
    rw [byte_p i1 k (by omega)]
    simp only [Option.bind_some]
    have hc : ((j + 1 : Nat) : Int) = (j : Int) + 1 := by omega
    cases ok
    · rw [if_neg (by decide), if_pos (by omega), e1, ih false _ (by simp [ha])]
      simp [memsP, hc]
    · rw [if_pos rfl, if_pos (by omega), e1, ih _ _ (by simp [ha])]
      simp [memsP, hc]
theorem take_rl0 (E O : Int) : ∀ (d j k : Nat) (T : List Nat) (e : Int) (acc : List Mem), j + d = 6 → d + 20 ≤ k → InOk T e → acc.length = j → (∀ m ∈ acc, wfM m) →
    samphireref20_Take.l0 k ((j : Int) + 1) E acc O (txt T) e = some (fin (memsP d j T e).2.1 (memsP d j T e).2.2.1 (memsP d j T e).2.2.2 E (acc ++ (memsP d j T e).1) O)
  | 0, j, k + 1, T, e, acc, hj, hk, hi, ha, hw => by
    obtain rfl : j = 6 := by omega
    obtain ⟨v, hv, hd⟩ := done_r T e
    simp only [samphireref20_Take.l0, memsP]
    rw [if_neg (by decide), hv, Option.bind_some, may_f E acc O hw k (by omega), Option.bind_some, List.append_nil]
    unfold fin
    by_cases h : v = 0
    · rw [if_pos h, hd.1 h]
      by_cases hg : okG E acc O = true
      · rw [if_pos hg, if_pos (by rw [hg]; rfl)]
      · rw [if_neg hg, if_neg (by simpa using hg)]
    · rw [if_neg h, if_neg (by simp only [Bool.true_and, Bool.and_eq_true]; exact fun q => h (hd.2 q.1))]
  | d + 1, j, k + 1, T, e, acc, hj, hk, hi, ha, hw => by
    have e1 : wrap64 ((j : Int) + 1 + 1) = ((j + 1 : Nat) : Int) + 1 := by unfold wrap64; omega
    have i1 := numQ_ok hi
    have i2 := byteQ_ok i1
    have ih := fun acc' h h2 => take_rl0 E O d (j + 1) k _ _ acc' (by omega) (by omega) i2 h h2
    simp only [samphireref20_Take.l0]
    rw [if_pos (by omega), num_r hi k (by omega)]
    simp only [Option.bind_some]
    rw [byte_r i1 k (by omega)]
    simp only [Option.bind_some]
    by_cases hb : (byteQ (numQ T e).2.1 (numQ T e).2.2).1 > 1
    · rw [if_pos hb]
      have : decide ((byteQ (numQ T e).2.1 (numQ T e).2.2).1 ≤ 1) = false := decide_eq_false (by omega)
      simp [memsP, this, fin]
    · rw [if_neg hb, if_pos (by omega), e1, ih _ (by simp [ha]) (by
        intro m hm
        rcases List.mem_append.1 hm with h | h
        · exact hw m h
        · rw [List.mem_singleton.1 h]; constructor <;> simp <;> omega)]
      have : decide ((byteQ (numQ T e).2.1 (numQ T e).2.2).1 ≤ 1) = true := decide_eq_true (by omega)
      simp [memsP, this]
def takeP (T : List Nat) : Int × List Mem × Int × Int :=
 fin (memsP 6 0 (numQ (numQ T 0).2.1 (numQ T 0).2.2).2.1 (numQ (numQ T 0).2.1 (numQ T 0).2.2).2.2).2.1 (memsP 6 0 (numQ (numQ T 0).2.1 (numQ T 0).2.2).2.1 (numQ (numQ T 0).2.1 (numQ T 0).2.2).2.2).2.2.1
  (memsP 6 0 (numQ (numQ T 0).2.1 (numQ T 0).2.2).2.1 (numQ (numQ T 0).2.1 (numQ T 0).2.2).2.2).2.2.2 (numQ T 0).1 (memsP 6 0 (numQ (numQ T 0).2.1 (numQ T 0).2.2).2.1 (numQ (numQ T 0).2.1 (numQ T 0).2.2).2.2).1 (numQ (numQ T 0).2.1 (numQ T 0).2.2).1
theorem take_p (T : List Nat) (hT : ∀ x ∈ T, x < 256) (k : Nat) (hk : 30 ≤ k) : group_Take.f k (txt T) = some (takeP T) := by
 have i0 : InOk T 0 := ⟨hT, fun h => absurd rfl h⟩
 have i1 := numQ_ok i0
 have i2 := numQ_ok i1
 unfold group_Take.f code_NewIn.f
 simp only [Option.bind_some]
 rw [num_p i0 k (by omega)]
 simp only [Option.bind_some]
 rw [num_p i1 k (by omega)]
 simp only [Option.bind_some]
 have := take_l0 (numQ T 0).1 (numQ (numQ T 0).2.1 (numQ T 0).2.2).1 6 0 k true _ _ [] (by omega) (by omega) i2 rfl
 simpa [takeP] using this
theorem take_r (T : List Nat) (hT : ∀ x ∈ T, x < 256) (k : Nat) (hk : 30 ≤ k) : samphireref20_Take.f k (txt T) = some (takeP T) := by
 have i0 : InOk T 0 := ⟨hT, fun h => absurd rfl h⟩
 have i1 := numQ_ok i0
 have i2 := numQ_ok i1
 unfold samphireref20_Take.f
 rw [num_r i0 k (by omega)]
 simp only [Option.bind_some]
 rw [num_r i1 k (by omega)]
 simp only [Option.bind_some]
 have := take_rl0 (numQ T 0).1 (numQ (numQ T 0).2.1 (numQ T 0).2.2).1 6 0 k _ _ [] (by omega) (by omega) i2 rfl (by simp)
 simpa [takeP] using this
theorem byteP_byN (n : Int) (R : List Nat) (h0 : 0 ≤ n) (h1 : n ≤ 255) : byteP (byN n 1 ++ R) = (n, R, 0) := by
 obtain ⟨p, rfl⟩ := Int.eq_ofNat_of_zero_le h0
 have hl : (byN (p : Int) 1).length = 1 := byN_length _ _ (by decide)
 unfold byteP
 rw [if_neg (by rw [List.length_append, hl]; omega), List.take_left' hl, List.drop_left' hl, ← (downN_byN (p : Int)).1, valS_down p 1 (by decide) (by omega)]
theorem memsP_back : ∀ (l : List Mem) (j : Nat), okMs j l = true → memsP l.length j (l.flatMap memB) 0 = (l, true, [], 0)
  | [], j, _ => rfl
  | m :: l, j, h => by
    simp only [okMs, Bool.and_eq_true] at h
    have hm := of_decide_eq_true h.1
    have ih := memsP_back l (j + 1) h.2
    have e1 : numQ ((m :: l).flatMap memB) 0 = (m.f1, byN (flagN m.f2) 1 ++ l.flatMap memB, 0) := by
      unfold numQ
      rw [if_pos rfl, List.flatMap_cons, memB, List.append_assoc]
      exact numP_byN m.f1 _ (decide_eq_true ⟨hm.2.1, hm.2.2⟩)
    have e2 : byteQ (byN (flagN m.f2) 1 ++ l.flatMap memB) 0 = (flagN m.f2, l.flatMap memB, 0) := by
      unfold byteQ
      rw [if_pos rfl]
      exact byteP_byN _ _ (by unfold flagN; split <;> omega) (by unfold flagN; split <;> omega)
    have e3 : (flagN m.f2 == 1) = m.f2 := by unfold flagN; cases m.f2 <;> rfl
    have e4 : decide (flagN m.f2 ≤ 1) = true := decide_eq_true (by unfold flagN; split <;> omega)
    rw [List.length_cons]
    simp only [memsP, e1, e2, ih, e3, e4, ← hm.1]
    rfl
theorem okG_parts {E : Int} {l : List Mem} {O : Int} (h : okG E l O = true) : okMs 0 l = true := by
 unfold okG at h
 simp only [Bool.and_eq_true] at h
 exact h.2.1
theorem take_back {E : Int} {l : List Mem} {O : Int} (h : okG E l O = true) : takeP (grpL E l O) = (E, l, O, 0) := by
 have hg := okG_good h
 have e1 : numQ (grpL E l O) 0 = (E, byN O 6 ++ l.flatMap memB, 0) := by
  unfold numQ grpL
  rw [if_pos rfl, List.append_assoc]
  exact numP_byN E _ (decide_eq_true ⟨hg.2.1, hg.2.2.1⟩)
 have e2 : numQ (byN O 6 ++ l.flatMap memB) 0 = (O, l.flatMap memB, 0) := by
  unfold numQ
  rw [if_pos rfl]
  exact numP_byN O _ (decide_eq_true ⟨hg.2.2.2.1, hg.2.2.2.2.1⟩)
 have e3 := memsP_back l 0 (okG_parts h)
 rw [hg.1] at e3
 unfold takeP
 simp only [e1, e2, e3]
 unfold fin
 rw [if_pos (by rw [h]; rfl)]
theorem numP_inv {T : List Nat} (hT : ∀ x ∈ T, x < 256) {v : Int} {R : List Nat} (h : numP T = (v, R, 0)) : T = byN v 6 ++ R := by
 unfold numP at h
 split at h
 ·cases h
 ·split at h
  ·simp only [Prod.mk.injEq] at h
   obtain ⟨rfl, rfl, _⟩ := h
   have hl : (T.take 6).length = 6 := by rw [List.length_take]; omega
   rw [byN_valS (T.take 6) (fun x hx => hT x (List.mem_of_mem_take hx)) 6 hl (by decide) (downN_byN _).2.2, List.take_append_drop]
  ·cases h
theorem byteP_inv {T : List Nat} (hT : ∀ x ∈ T, x < 256) {v : Int} {R : List Nat} (h : byteP T = (v, R, 0)) : T = byN v 1 ++ R ∧ 0 ≤ v := by
 unfold byteP at h
 split at h
 ·cases h
 ·simp only [Prod.mk.injEq] at h
  obtain ⟨rfl, rfl, _⟩ := h
  have hl : (T.take 1).length = 1 := by rw [List.length_take]; omega
  rw [byN_valS (T.take 1) (fun x hx => hT x (List.mem_of_mem_take hx)) 1 hl (by decide) (downN_byN _).1, List.take_append_drop]
  exact ⟨rfl, by omega⟩
theorem numQ_inv {T : List Nat} {e : Int} (hi : InOk T e) (h : (numQ T e).2.2 = 0) : e = 0 ∧ T = byN (numQ T e).1 6 ++ (numQ T e).2.1 := by
 unfold numQ at h ⊢
 by_cases he : e = 0
 ·rw [if_pos he] at h ⊢
  exact ⟨he, numP_inv hi.1 (by rw [← h])⟩
 ·rw [if_neg he] at h; exact absurd h he
theorem byteQ_inv {T : List Nat} {e : Int} (hi : InOk T e) (h : (byteQ T e).2.2 = 0) : e = 0 ∧ T = byN (byteQ T e).1 1 ++ (byteQ T e).2.1 ∧ 0 ≤ (byteQ T e).1 := by
 unfold byteQ at h ⊢
 by_cases he : e = 0
 ·rw [if_pos he] at h ⊢
  exact ⟨he, byteP_inv hi.1 (by rw [← h])⟩
 ·rw [if_neg he] at h; exact absurd h he
theorem memsP_inv : ∀ (d j : Nat) (T : List Nat) (e : Int), InOk T e → (memsP d j T e).2.1 = true → (memsP d j T e).2.2.2 = 0 → e = 0 ∧ T = (memsP d j T e).1.flatMap memB ++ (memsP d j T e).2.2.1
  | 0, j, T, e, _, _, h => ⟨h, by simp [memsP]⟩
  | d + 1, j, T, e, hi, hok, h => by
    simp only [memsP] at hok h ⊢
    have i1 := numQ_ok hi
    have i2 := byteQ_ok i1
    simp only [Bool.and_eq_true, decide_eq_true_eq] at hok
    obtain ⟨q1, q2⟩ := memsP_inv d (j + 1) _ _ i2 hok.2 h
    obtain ⟨q3, q4, q5⟩ := byteQ_inv i1 q1
    obtain ⟨q6, q7⟩ := numQ_inv hi q3
    refine ⟨q6, ?_⟩
    have hf : flagN ((byteQ (numQ T e).2.1 (numQ T e).2.2).1 == 1) = (byteQ (numQ T e).2.1 (numQ T e).2.2).1 := by
      generalize (byteQ (numQ T e).2.1 (numQ T e).2.2).1 = b at hok q5
      have : b = 0 ∨ b = 1 := by omega
      rcases this with rfl | rfl <;> rfl
    rw [List.flatMap_cons, memB, hf, List.append_assoc, List.append_assoc, ← q2, ← q4]
    exact q7
theorem put_back {T : List Nat} (hT : ∀ x ∈ T, x < 256) (h : (takeP T).2.2.2 = 0) : okG (takeP T).1 (takeP T).2.1 (takeP T).2.2.1 = true ∧ grpL (takeP T).1 (takeP T).2.1 (takeP T).2.2.1 = T := by
 have i0 : InOk T 0 := ⟨hT, fun h => absurd rfl h⟩
 have i1 := numQ_ok i0
 have i2 := numQ_ok i1
 unfold takeP fin at h ⊢
 split at h
 ·rename_i hc
  rw [if_pos hc]
  simp only [Bool.and_eq_true] at hc
  refine ⟨hc.2, ?_⟩
  have hd := hc.1.2
  unfold doneQ at hd
  simp only [Bool.and_eq_true, beq_iff_eq, List.isEmpty_iff] at hd
  obtain ⟨q1, q2⟩ := memsP_inv 6 0 _ _ i2 hc.1.1 hd.1
  rw [hd.2, List.append_nil] at q2
  obtain ⟨q3, q4⟩ := numQ_inv i1 q1
  obtain ⟨_, q5⟩ := numQ_inv i0 q3
  unfold grpL
  rw [← q2, List.append_assoc, ← q4, ← q5]
 ·cases h
theorem same_l0 (E : Int) (l : List Mem) (O : Int) (hl : l.length ≤ 1000) : ∀ (d j k : Nat), j + d = l.length → d < k → samphireref20_Same.l0 k (j : Int) E l O E l O = some true
  | 0, j, k + 1, hj, _ => by
    simp only [samphireref20_Same.l0]
    rw [if_neg (by omega)]
  | d + 1, j, k + 1, hj, hk => by
    have e1 : wrap64 ((j : Int) + 1) = ((j + 1 : Nat) : Int) := by unfold wrap64; omega
    simp only [samphireref20_Same.l0]
    rw [if_pos (by omega), if_pos (by omega), if_pos (by omega), if_neg (by simp), e1]
    exact same_l0 E l O hl d (j + 1) k (by omega) (by omega)
theorem same_f (E : Int) (l : List Mem) (O : Int) (hl : l.length ≤ 1000) (k : Nat) (hk : l.length + 2 ≤ k) : samphireref20_Same.f k E l O E l O = some true := by
 obtain ⟨k, rfl⟩ : ∃ m, k = m + 1 := ⟨k - 1, by omega⟩
 unfold samphireref20_Same.f
 rw [if_pos rfl, if_pos rfl, bne_self_eq_false]
 simp only [samphireref20_Same.j0]
 rw [if_neg (by decide)]
 exact same_l0 E l O hl l.length 0 k (by omega) (by omega)
theorem takeP_len (T : List Nat) : (takeP T).2.1.length ≤ 6 := by
 have hm : ∀ d j T e, (memsP d j T e).1.length = d := by
  intro d
  induction d with
  | zero => intros; rfl
  | succ d ih => intro j T e; simp only [memsP]; rw [List.length_cons, ih]
 unfold takeP fin
 split
 ·simp [hm]
 ·simp
end Go.Proofs.YthemhfloablccaaDoor.Pr
end

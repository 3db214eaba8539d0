/- Joined texts (pack.py): what the statement's proof needs, part 2. No condition. -/
import Derived.Below
import Derived.Deep.Draws
import Derived.Deep.AppendLies
import Derived.Maps.AppendAt
import Derived.OwnWalk
import Derived.Laws.BytesArg
import Derived.Laws.MakeOwn
import Derived.Laws.OwnMore
import Derived.Deep.OwnRows
import Derived.Tactics
import Derived.Lib.ConvBytes
import Derived.Laws.Slices
import Derived.WalkKit
import Derived.KernelRfl
import Derived.RowKit3
import Derived.Deep.LoopGhost
import Derived.Deep.QuietTactic
import Derived.BigQuiet
import Derived.WideLaws
import Derived.Deep.DeepCutAuto
import Derived.Deep.CutBlock
import Derived.Deep.RegionHeld3
import Derived.Laws.Rows
import Derived.Lib.AppendStr
import Derived.ArgAppend
import Derived.Laws.IdiomCopy
import Derived.RowKit
import Derived.OrdersHeld
import Derived.Laws.BitsLemmas
import Derived.Laws.StructEq
import Derived.Test.YthemhfloablccaaDoorProg
import Derived.Deep.Light
import Derived.StillTailTactics
import Derived.Deep.RegionLaw
import Derived.Deep.RegionHeldLaw
import Derived.Deep.DrawnRows
import Derived.Test.YthemhfloablccaaDoorTie
import Derived.Test.YthemhfloablccaaDoorCards
import Derived.LaidMore
import Derived.Lay
import Derived.SevenTiedAt
import Derived.Stop.Joined
import Derived.ProofKit
import Derived.OpenShut
import Derived.ShutString
import Derived.ChangeOld
import Derived.SizedLaws
import Derived.Test.YthemhfloablccaaDoorGf1
set_option linter.unusedVariables false
set_option linter.unusedSimpArgs false
section
namespace Go.Proofs.YthemhfloablccaaDoor.Pr
open Go.RowKit Go.Proofs.YthemhfloablccaaDoorW.PrintWords Go.Proofs.YthemhfloablccaaDoorW.PrintLast Go.Proofs.YthemhfloablccaaDoorW.PrintMore
attribute [local go_sem] max2_int min2_int max_two min_two max_three min_three max_four min_four
def wire_wraps.l0 : Nat → Int → List (S80) → Int → Int → Option (Bool)
 | 0, _, _, _, _ => none
 | k + 1, x3, x6, x7, x8 => if x8 < x7 then (if 0 ≤ x8 then (if x8 < (x6.length : Int) then ((wire_member.f ((rd_T80 x6 x8).f0)).bind fun t118 => (if t118 = true then (if ((rd_T80 x6 x8).f0) ≤ x3 then (some false) else (if (((rd_T80 x6 x8).f1).size : Int) = 48 then (wire_wraps.l0 k ((rd_T80 x6 x8).f0) x6 x7 (wrap64 (x8 + 1))) else (some false))) else (some false))) else (none)) else (none)) else (some true)
def wire_wraps.f (k : Nat) (l0 : List (S80)) : Option (Bool) := wire_wraps.l0 k 0 l0 (l0.length : Int) 0
set_option maxHeartbeats 8000000 in
set_option maxRecDepth 100000 in
theorem wire_wraps.calls (k : Nat) (A0 : Option Addr) (c0 : Nat) (l0 : List (S80)) (r : Bool) (w : World) (hr0 : Kd.C k80 w A0 l0.length l0) (hc0 : l0.length ≤ c0) (h : wire_wraps.f k l0 = some r) :
    Calls Tryd.prog 77 #[.slice A0 l0.length c0] w fun e w' => e = .returned (.bool r) ∧ Below w.heap.size w w' := by
  have hu80 := Tryd.underlying80; have HR0 := Aside0.mk hr0; have HC0 := Aside0.mk hc0; clear hr0 hc0; have HB := Aside0.mk (Below.refl w.heap.size w); have H : (wire_wraps.l0 k 0 l0 (l0.length : Int) 0) = some r := h; clear h; have H' := Aside0.mk H; clear H; go_enter Tryd.func77, Tryd.ntmps77
  go_wp2; go_loopg [3, 8] k (fun kq v3 v8 w' => ∃ (x3_1 : Int) (x8_1 : Int), v3 = .int .i64 x3_1 ∧ v8 = .int .i64 x8_1 ∧ Aside0 (wire_wraps.l0 kq x3_1 l0 (l0.length : Int) x8_1 = some r) ∧ Aside0 (kq ≤ k) ∧ Aside0 (Below w.heap.size w w'))
  case atStart => exact ⟨(0), (0), rz_, rz_, H', ⟨Nat.le_refl _⟩, ⟨hb_⟩⟩
  case round =>
    clear H'; obtain ⟨x3_1, x8_1, rfl, rfl, HA, HK1, HB⟩ := hrel; cases gk with
    | zero => exact absurd HA.out (by simp [wire_wraps.l0])
    | succ k1 =>
      have H := HA.out; clear HA; simp only [wire_wraps.l0] at H; by_cases c2 : x8_1 < (l0.length : Int)
      · rw [if_pos c2] at H; have c2b0 : decide (x8_1 < (l0.length : Int)) = true := decide_eq_true c2; clear c2; by_cases c3 : 0 ≤ x8_1
        · rw [if_pos c3] at H; have c3b0 : decide (0 ≤ x8_1) = true := decide_eq_true c3; clear c3; by_cases c4 : x8_1 < (l0.length : Int)
          · rw [if_pos c4] at H; have c4b0 : decide (x8_1 < (l0.length : Int)) = true := decide_eq_true c4; clear c4; replace H := Option.bind_eq_some_iff.mp H; obtain ⟨t118, A50, H⟩ := H; have A5 := Aside0.mk A50; clear A50; by_cases c6 : t118 = true
            · subst c6; have H1 : (if ((rd_T80 l0 x8_1).f0) ≤ x3_1 then (some false) else (if (((rd_T80 l0 x8_1).f1).size : Int) = 48 then (wire_wraps.l0 k1 ((rd_T80 l0 x8_1).f0) l0 (l0.length : Int) (wrap64 (x8_1 + 1))) else (some false))) = some r := by rw [if_pos rfl] at H; exact H
              clear H; have H := H1; clear H1; by_cases c7 : ((rd_T80 l0 x8_1).f0) ≤ x3_1
              · rw [if_pos c7] at H; have c7b0 : decide (((rd_T80 l0 x8_1).f0) ≤ x3_1) = true := decide_eq_true c7; clear c7; obtain rfl := Option.some.inj H; have p116 : 0 ≤ (x8_1 : Int) := of_decide_eq_true as_'; have q116 : x8_1 < (l0.length : Int) := of_decide_eq_true as_'; obtain ⟨ad116, e116, hx116_0, hx116_1⟩ := at_T80 HR0.out x8_1 p116 q116; cases e116; replace hx116_0 := (HB.out.cell (World.block_lt_of_cell? w _ hx116_0)).trans hx116_0; replace hx116_1 := (HB.out.cell (World.block_lt_of_cell? w _ hx116_1)).trans hx116_1; replace p116 := eq_true p116; replace q116 := eq_true q116; go_wp2_with (first | ((with_reducible refine gate_dst (N := 5) rfl ?_); (try (refine gate_guard (by rfl) ?_; dsimp only)); refine box_event ?hg (N := 5) ?hd (cs := #[.int .i64 0, .string (⟨#[]⟩ : ByteArray)]) (t := 80) ?hr ?_; (case hd => rfl); (case hg => rfl); (case hr => first | (go_simp; done) | (go_simp; rfl)); intro gb117 hg w8 hbox hb; have n0_ := Aside0.mk (below_step hb_ hb); have n1_ := Aside0.mk (hbox); have n2_ := Aside0.mk ((by rw [hg]; exact (below_size hb_) : w.heap.size ≤ gb117)); have n3_ := Aside0.mk ((by rw [hg]; exact (below_size hb_) : w.heap.size ≤ gb117)); clear HB; have HB := n0_; have BK117 := n1_; have GW117 := n2_; have GE117 := n3_; clear n0_ n1_ n2_ n3_; clear hb hbox hg; have hcz9_0 : w8.cell? ⟨gb117, 0, none⟩ = some (.int .i64 0) := (blk_cell BK117.out 0).trans rfl; have hcz9_1 : w8.cell? ⟨gb117, 1, none⟩ = some (.string (⟨#[]⟩ : ByteArray)) := (blk_cell BK117.out 1).trans rfl; have hfz9_0 := blk_frozen BK117.out 0; have hfz9_1 := blk_frozen BK117.out 1) | ((with_reducible refine gate_callee (f := 74) rfl ?_); refine gl_ 14 Tryd.func74 #[.int .i64 ((rd_T80 l0 x8_1).f0)] ?_; (with_reducible refine (wire_member.calls ((rd_T80 l0 x8_1).f0) true _ A5.out).mono ?_); rintro e w' ⟨rfl, ⟨nd, rfl⟩⟩; refine ⟨_, rfl, ?_⟩))
                go_ret
                exact ⟨ew_, by repeat (first | (with_reducible first | exact HB.out | apply below_alloc | apply pw_below_drewN | apply below_drew1 | refine below_set ?_ GE117.out) | exact HB.out)⟩
              · rw [if_neg c7] at H; have c7b0 : decide (((rd_T80 l0 x8_1).f0) ≤ x3_1) = false := decide_eq_false c7; clear c7; by_cases c10 : (((rd_T80 l0 x8_1).f1).size : Int) = 48
                · rw [if_pos c10] at H; have c10b0 : ((((rd_T80 l0 x8_1).f1).size : Int) == 48) = true := beq_iff_eq.mpr c10; have c10b1 : ((((rd_T80 l0 x8_1).f1).size : Int) != 48) = false := bne_eq_false_iff_eq.mpr c10; clear c10; have H' := Aside0.mk H; clear H; have p116 : 0 ≤ (x8_1 : Int) := of_decide_eq_true as_'; have q116 : x8_1 < (l0.length : Int) := of_decide_eq_true as_'; obtain ⟨ad116, e116, hx116_0, hx116_1⟩ := at_T80 HR0.out x8_1 p116 q116; cases e116; replace hx116_0 := (HB.out.cell (World.block_lt_of_cell? w _ hx116_0)).trans hx116_0; replace hx116_1 := (HB.out.cell (World.block_lt_of_cell? w _ hx116_1)).trans hx116_1; replace p116 := eq_true p116; replace q116 := eq_true q116; go_wp2_with (first | ((with_reducible refine gate_dst (N := 5) rfl ?_); (try (refine gate_guard (by rfl) ?_; dsimp only)); refine box_event ?hg (N := 5) ?hd (cs := #[.int .i64 0, .string (⟨#[]⟩ : ByteArray)]) (t := 80) ?hr ?_; (case hd => rfl); (case hg => rfl); (case hr => first | (go_simp; done) | (go_simp; rfl)); intro gb117 hg w11 hbox hb; have n0_ := Aside0.mk (below_step hb_ hb); have n1_ := Aside0.mk (hbox); have n2_ := Aside0.mk ((by rw [hg]; exact (below_size hb_) : w.heap.size ≤ gb117)); have n3_ := Aside0.mk ((by rw [hg]; exact (below_size hb_) : w.heap.size ≤ gb117)); clear HB; have HB := n0_; have BK117 := n1_; have GW117 := n2_; have GE117 := n3_; clear n0_ n1_ n2_ n3_; clear hb hbox hg; have hcz12_0 : w11.cell? ⟨gb117, 0, none⟩ = some (.int .i64 0) := (blk_cell BK117.out 0).trans rfl; have hcz12_1 : w11.cell? ⟨gb117, 1, none⟩ = some (.string (⟨#[]⟩ : ByteArray)) := (blk_cell BK117.out 1).trans rfl; have hfz12_0 := blk_frozen BK117.out 0; have hfz12_1 := blk_frozen BK117.out 1) | ((with_reducible refine gate_callee (f := 74) rfl ?_); refine gl_ 14 Tryd.func74 #[.int .i64 ((rd_T80 l0 x8_1).f0)] ?_; (with_reducible refine (wire_member.calls ((rd_T80 l0 x8_1).f0) true _ A5.out).mono ?_); rintro e w' ⟨rfl, ⟨nd, rfl⟩⟩; refine ⟨_, rfl, ?_⟩))
                  go_roundg k1
                  case measure => have := HK1.out; omega
                  case rel => exact ⟨((rd_T80 l0 x8_1).f0), (wrap64 (x8_1 + 1)), rz_, rz_, H', ⟨by have := HK1.out; omega⟩, ⟨by repeat (first | (with_reducible first | exact HB.out | apply below_alloc | apply pw_below_drewN | apply below_drew1 | refine below_set ?_ GE117.out) | exact HB.out)⟩⟩
                · rw [if_neg c10] at H; have c10b0 : ((((rd_T80 l0 x8_1).f1).size : Int) == 48) = false := beq_eq_false_iff_ne.mpr c10; have c10b1 : ((((rd_T80 l0 x8_1).f1).size : Int) != 48) = true := bne_iff_ne.mpr c10; obtain rfl := Option.some.inj H; have p116 : 0 ≤ (x8_1 : Int) := of_decide_eq_true as_'; have q116 : x8_1 < (l0.length : Int) := of_decide_eq_true as_'; obtain ⟨ad116, e116, hx116_0, hx116_1⟩ := at_T80 HR0.out x8_1 p116 q116; cases e116; replace hx116_0 := (HB.out.cell (World.block_lt_of_cell? w _ hx116_0)).trans hx116_0; replace hx116_1 := (HB.out.cell (World.block_lt_of_cell? w _ hx116_1)).trans hx116_1; replace p116 := eq_true p116; replace q116 := eq_true q116; go_wp2_with (first | ((with_reducible refine gate_dst (N := 5) rfl ?_); (try (refine gate_guard (by rfl) ?_; dsimp only)); refine box_event ?hg (N := 5) ?hd (cs := #[.int .i64 0, .string (⟨#[]⟩ : ByteArray)]) (t := 80) ?hr ?_; (case hd => rfl); (case hg => rfl); (case hr => first | (go_simp; done) | (go_simp; rfl)); intro gb117 hg w13 hbox hb; have n0_ := Aside0.mk (below_step hb_ hb); have n1_ := Aside0.mk (hbox); have n2_ := Aside0.mk ((by rw [hg]; exact (below_size hb_) : w.heap.size ≤ gb117)); have n3_ := Aside0.mk ((by rw [hg]; exact (below_size hb_) : w.heap.size ≤ gb117)); clear HB; have HB := n0_; have BK117 := n1_; have GW117 := n2_; have GE117 := n3_; clear n0_ n1_ n2_ n3_; clear hb hbox hg; have hcz14_0 : w13.cell? ⟨gb117, 0, none⟩ = some (.int .i64 0) := (blk_cell BK117.out 0).trans rfl; have hcz14_1 : w13.cell? ⟨gb117, 1, none⟩ = some (.string (⟨#[]⟩ : ByteArray)) := (blk_cell BK117.out 1).trans rfl; have hfz14_0 := blk_frozen BK117.out 0; have hfz14_1 := blk_frozen BK117.out 1) | ((with_reducible refine gate_callee (f := 74) rfl ?_); refine gl_ 14 Tryd.func74 #[.int .i64 ((rd_T80 l0 x8_1).f0)] ?_; (with_reducible refine (wire_member.calls ((rd_T80 l0 x8_1).f0) true _ A5.out).mono ?_); rintro e w' ⟨rfl, ⟨nd, rfl⟩⟩; refine ⟨_, rfl, ?_⟩))
                  go_ret
                  exact ⟨ew_, by repeat (first | (with_reducible first | exact HB.out | apply below_alloc | apply pw_below_drewN | apply below_drew1 | refine below_set ?_ GE117.out) | exact HB.out)⟩
            · replace c6 := Bool.eq_false_iff.mpr c6; subst c6; have H1 : (some false) = some r := by rw [if_neg (show ¬ (false = true) by decide)] at H; exact H
              clear H; have H := H1; clear H1; obtain rfl := Option.some.inj H; have p116 : 0 ≤ (x8_1 : Int) := of_decide_eq_true as_'; have q116 : x8_1 < (l0.length : Int) := of_decide_eq_true as_'; obtain ⟨ad116, e116, hx116_0, hx116_1⟩ := at_T80 HR0.out x8_1 p116 q116; cases e116; replace hx116_0 := (HB.out.cell (World.block_lt_of_cell? w _ hx116_0)).trans hx116_0; replace hx116_1 := (HB.out.cell (World.block_lt_of_cell? w _ hx116_1)).trans hx116_1; replace p116 := eq_true p116; replace q116 := eq_true q116; go_wp2_with (first | ((with_reducible refine gate_dst (N := 5) rfl ?_); (try (refine gate_guard (by rfl) ?_; dsimp only)); refine box_event ?hg (N := 5) ?hd (cs := #[.int .i64 0, .string (⟨#[]⟩ : ByteArray)]) (t := 80) ?hr ?_; (case hd => rfl); (case hg => rfl); (case hr => first | (go_simp; done) | (go_simp; rfl)); intro gb117 hg w15 hbox hb; have n0_ := Aside0.mk (below_step hb_ hb); have n1_ := Aside0.mk (hbox); have n2_ := Aside0.mk ((by rw [hg]; exact (below_size hb_) : w.heap.size ≤ gb117)); have n3_ := Aside0.mk ((by rw [hg]; exact (below_size hb_) : w.heap.size ≤ gb117)); clear HB; have HB := n0_; have BK117 := n1_; have GW117 := n2_; have GE117 := n3_; clear n0_ n1_ n2_ n3_; clear hb hbox hg; have hcz16_0 : w15.cell? ⟨gb117, 0, none⟩ = some (.int .i64 0) := (blk_cell BK117.out 0).trans rfl; have hcz16_1 : w15.cell? ⟨gb117, 1, none⟩ = some (.string (⟨#[]⟩ : ByteArray)) := (blk_cell BK117.out 1).trans rfl; have hfz16_0 := blk_frozen BK117.out 0; have hfz16_1 := blk_frozen BK117.out 1) | ((with_reducible refine gate_callee (f := 74) rfl ?_); refine gl_ 14 Tryd.func74 #[.int .i64 ((rd_T80 l0 x8_1).f0)] ?_; (with_reducible refine (wire_member.calls ((rd_T80 l0 x8_1).f0) false _ A5.out).mono ?_); rintro e w' ⟨rfl, ⟨nd, rfl⟩⟩; refine ⟨_, rfl, ?_⟩))
              go_ret
              exact ⟨ew_, by repeat (first | (with_reducible first | exact HB.out | apply below_alloc | apply pw_below_drewN | apply below_drew1 | refine below_set ?_ GE117.out) | exact HB.out)⟩
          · rw [if_neg c4] at H; exact absurd H (by simp)
        · rw [if_neg c3] at H; exact absurd H (by simp)
      · rw [if_neg c2] at H; have c2b0 : decide (x8_1 < (l0.length : Int)) = false := decide_eq_false c2; clear c2; obtain rfl := Option.some.inj H; go_wp2; go_ret
        exact ⟨ew_, hb_⟩
end Go.Proofs.YthemhfloablccaaDoor.Pr
end

section
namespace Go.Proofs.YthemhfloablccaaDoor.Pr
open Go.RowKit Go.Proofs.YthemhfloablccaaDoorW.PrintWords Go.Proofs.YthemhfloablccaaDoorW.PrintLast Go.Proofs.YthemhfloablccaaDoorW.PrintMore
attribute [local go_sem] max2_int min2_int max_two min_two max_three min_three max_four min_four
attribute [local go_sem high] eqA28
mutual
def wire_Check.j0 : Nat → Bool → Int → Int → Int → Int → ByteArray → Int → Int → Int → Int → Int → Int → Int → ByteArray → ByteArray → Int → List (S80) → Option (Int)
 | 0, _, _, _, _, _, _, _, _, _, _, _, _, _, _, _, _, _ => none
 | k + 1, x3, x120000, x120001, x120002, x120003, x120004, x120005, x120006, x120007, x120008, x120009, x120010, x120011, x120012, x120013, x120014, x120015 => if x120000 = 1 then (if x3 = true then ((tree_Check.f x120005 x120006 x120007 x120008 x120009 x120010 x120011 x120012 x120013).bind fun t125 => (if t125 = 0 then (if x120007 = x120001 then (if x120014 = 0 then (if ((x120015.length : Int) = 0) then (some 0) else (some 1)) else (some 1)) else (some 1)) else (some 1))) else (some 1)) else (if x120000 = 2 then (wire_Check.j1 k x3 x120000 (x120000 == 2) x120000 x120001 x120002 x120003 x120004 x120005 x120006 x120007 x120008 x120009 x120010 x120011 x120012 x120013 x120014 x120015) else (wire_Check.j1 k x3 x120000 (x120000 == 3) x120000 x120001 x120002 x120003 x120004 x120005 x120006 x120007 x120008 x120009 x120010 x120011 x120012 x120013 x120014 x120015))
def wire_Check.j1 : Nat → Bool → Int → Bool → Int → Int → Int → Int → ByteArray → Int → Int → Int → Int → Int → Int → Int → ByteArray → ByteArray → Int → List (S80) → Option (Int)
 | 0, _, _, _, _, _, _, _, _, _, _, _, _, _, _, _, _, _, _, _ => none
 | k + 1, x3, x27, x57, x120000, x120001, x120002, x120003, x120004, x120005, x120006, x120007, x120008, x120009, x120010, x120011, x120012, x120013, x120014, x120015 => if x57 = true then (if x3 = true then (if (x120005 == 0 && ((x120006 == 0 && (x120007 == 0)) && ((x120008 == 0 && (x120009 == 0)) && ((x120010 == 0 && (x120011 == 0)) && (x120012.toList == ([] : List UInt8) && (x120013.toList == ([] : List UInt8))))))) = true then ((wire_member.f x120014).bind fun t126 => (if t126 = true then ((wire_wraps.f k x120015).bind fun t127 => (if t127 = true then (some 0) else (some 1))) else (some 1))) else (some 1)) else (some 1)) else (if x27 = 4 then (if x3 = true then (if (x120005 == 0 && ((x120006 == 0 && (x120007 == 0)) && ((x120008 == 0 && (x120009 == 0)) && ((x120010 == 0 && (x120011 == 0)) && (x120012.toList == ([] : List UInt8) && (x120013.toList == ([] : List UInt8))))))) = true then (if x120014 = 0 then ((wire_wraps.f k x120015).bind fun t128 => (if t128 = true then (some 0) else (some 1))) else (some 1)) else (some 1)) else (some 1)) else (some 1))
end
def wire_Check.f (k : Nat) (a0_0 : Int) (a0_1 : Int) (a0_2 : Int) (a0_3 : Int) (a0_4 : ByteArray) (a0_5 : Int) (a0_6 : Int) (a0_7 : Int) (a0_8 : Int) (a0_9 : Int) (a0_10 : Int) (a0_11 : Int) (a0_12 : ByteArray) (a0_13 : ByteArray) (a0_14 : Int) (l0_15 : List (S80)) : Option (Int) := (wire_member.f a0_1).bind fun t120 => (if t120 = true then (if a0_2 ≥ 1 then ((wire_number.f (([a0_2, a0_3] : List Int))).bind fun t124 => (if t124 = true then (wire_Check.j0 k ((a0_4.size : Int) == 32) a0_0 a0_1 a0_2 a0_3 a0_4 a0_5 a0_6 a0_7 a0_8 a0_9 a0_10 a0_11 a0_12 a0_13 a0_14 l0_15) else (wire_Check.j0 k false a0_0 a0_1 a0_2 a0_3 a0_4 a0_5 a0_6 a0_7 a0_8 a0_9 a0_10 a0_11 a0_12 a0_13 a0_14 l0_15))) else (wire_Check.j0 k false a0_0 a0_1 a0_2 a0_3 a0_4 a0_5 a0_6 a0_7 a0_8 a0_9 a0_10 a0_11 a0_12 a0_13 a0_14 l0_15)) else (wire_Check.j0 k false a0_0 a0_1 a0_2 a0_3 a0_4 a0_5 a0_6 a0_7 a0_8 a0_9 a0_10 a0_11 a0_12 a0_13 a0_14 l0_15))
set_option maxHeartbeats 8000000 in
set_option maxRecDepth 100000 in
theorem wire_Check.calls (k : Nat) (a0_0 : Int) (a0_1 : Int) (a0_2 : Int) (a0_3 : Int) (a0_4 : ByteArray) (a0_5 : Int) (a0_6 : Int) (a0_7 : Int) (a0_8 : Int) (a0_9 : Int) (a0_10 : Int) (a0_11 : Int) (a0_12 : ByteArray) (a0_13 : ByteArray) (a0_14 : Int) (A0_15 : Option Addr) (c0_15 : Nat) (l0_15 : List (S80)) (r : Int) (w : World) (hr0_15 : Kd.C k80 w A0_15 l0_15.length l0_15) (hc0_15 : l0_15.length ≤ c0_15) (h : wire_Check.f k a0_0 a0_1 a0_2 a0_3 a0_4 a0_5 a0_6 a0_7 a0_8 a0_9 a0_10 a0_11 a0_12 a0_13 a0_14 l0_15 = some r) :
    Calls Tryd.prog 35 #[.agg #[.int .i64 a0_0, .int .i64 a0_1, .int .i64 a0_2, .int .i64 a0_3, .string a0_4, .int .i64 a0_5, .int .i64 a0_6, .int .i64 a0_7, .int .i64 a0_8, .int .i64 a0_9, .int .i64 a0_10, .int .i64 a0_11, .string a0_12, .string a0_13, .int .i64 a0_14, .slice A0_15 l0_15.length c0_15]] w fun e w' => e = .returned (.int .i64 r) ∧ Below w.heap.size w w' := by
  have hu31 := Tryd.underlying31; have hu28 := Tryd.underlying28; have HR0_15 := Aside0.mk hr0_15; have HC0_15 := Aside0.mk hc0_15; clear hr0_15 hc0_15; have HB := Aside0.mk (Below.refl w.heap.size w); have H : ((wire_member.f a0_1).bind fun t120 => (if t120 = true then (if a0_2 ≥ 1 then ((wire_number.f (([a0_2, a0_3] : List Int))).bind fun t124 => (if t124 = true then (wire_Check.j0 k ((a0_4.size : Int) == 32) a0_0 a0_1 a0_2 a0_3 a0_4 a0_5 a0_6 a0_7 a0_8 a0_9 a0_10 a0_11 a0_12 a0_13 a0_14 l0_15) else (wire_Check.j0 k false a0_0 a0_1 a0_2 a0_3 a0_4 a0_5 a0_6 a0_7 a0_8 a0_9 a0_10 a0_11 a0_12 a0_13 a0_14 l0_15))) else (wire_Check.j0 k false a0_0 a0_1 a0_2 a0_3 a0_4 a0_5 a0_6 a0_7 a0_8 a0_9 a0_10 a0_11 a0_12 a0_13 a0_14 l0_15)) else (wire_Check.j0 k false a0_0 a0_1 a0_2 a0_3 a0_4 a0_5 a0_6 a0_7 a0_8 a0_9 a0_10 a0_11 a0_12 a0_13 a0_14 l0_15))) = some r := h; clear h; have HC2 := Aside0.mk H; clear H; go_enter Tryd.func35, Tryd.ntmps35
  go_upto_region 1 with (first | ((with_reducible refine gate_dst (N := 1) rfl ?_); (try (refine gate_guard (by rfl) ?_; dsimp only)); refine box_event ?hg (N := 1) ?hd (cs := #[.int .i64 a0_0, .int .i64 a0_1, .int .i64 a0_2, .int .i64 a0_3, .string a0_4, .int .i64 a0_5, .int .i64 a0_6, .int .i64 a0_7, .int .i64 a0_8, .int .i64 a0_9, .int .i64 a0_10, .int .i64 a0_11, .string a0_12, .string a0_13, .int .i64 a0_14, .slice A0_15 l0_15.length c0_15]) (t := 31) ?hr ?_; (case hd => rfl); (case hg => rfl); (case hr => first | (go_simp; done) | (go_simp; rfl)); intro gb119 hg w3 hbox hb; have n0_ := Aside0.mk (below_step hb_ hb); have n1_ := Aside0.mk (hbox); have n2_ := Aside0.mk ((by rw [hg]; exact (below_size hb_) : w.heap.size ≤ gb119)); have n3_ := Aside0.mk ((by rw [hg]; exact (below_size hb_) : w.heap.size ≤ gb119)); clear HB; have HB := n0_; have BK119 := n1_; have GW119 := n2_; have GE119 := n3_; clear n0_ n1_ n2_ n3_; clear hb hbox hg))
  (try simp only [Act.put, List.setIfInBounds_toArray, List.set_cons_zero, List.set_cons_succ])
  go_cut [3] (fun v3 wc => ∃ (kq : Nat) (x3_1 : Bool), v3 = .bool x3_1 ∧ Aside0 (wire_Check.j0 kq x3_1 a0_0 a0_1 a0_2 a0_3 a0_4 a0_5 a0_6 a0_7 a0_8 a0_9 a0_10 a0_11 a0_12 a0_13 a0_14 l0_15 = some r) ∧ Aside0 (kq ≤ k) ∧ Aside0 (wc.heap[gb119]? = some (.cells #[.int .i64 a0_0, .int .i64 a0_1, .int .i64 a0_2, .int .i64 a0_3, .string a0_4, .int .i64 a0_5, .int .i64 a0_6, .int .i64 a0_7, .int .i64 a0_8, .int .i64 a0_9, .int .i64 a0_10, .int .i64 a0_11, .string a0_12, .string a0_13, .int .i64 a0_14, (.slice A0_15 l0_15.length c0_15)] 31 (0, 0))) ∧ Aside0 (Below w.heap.size w wc))
  case first =>
    have H := HC2.out; clear HC2; replace H := Option.bind_eq_some_iff.mp H; obtain ⟨t120, A40, H⟩ := H; have A4 := Aside0.mk A40; clear A40; by_cases c5 : t120 = true
    · subst c5; have H1 : (if a0_2 ≥ 1 then ((wire_number.f (([a0_2, a0_3] : List Int))).bind fun t124 => (if t124 = true then (wire_Check.j0 k ((a0_4.size : Int) == 32) a0_0 a0_1 a0_2 a0_3 a0_4 a0_5 a0_6 a0_7 a0_8 a0_9 a0_10 a0_11 a0_12 a0_13 a0_14 l0_15) else (wire_Check.j0 k false a0_0 a0_1 a0_2 a0_3 a0_4 a0_5 a0_6 a0_7 a0_8 a0_9 a0_10 a0_11 a0_12 a0_13 a0_14 l0_15))) else (wire_Check.j0 k false a0_0 a0_1 a0_2 a0_3 a0_4 a0_5 a0_6 a0_7 a0_8 a0_9 a0_10 a0_11 a0_12 a0_13 a0_14 l0_15)) = some r := by rw [if_pos rfl] at H; exact H
      clear H; have H := H1; clear H1; by_cases c6 : a0_2 ≥ 1
      · rw [if_pos c6] at H; have c6b0 : decide (1 ≤ a0_2) = true := decide_eq_true c6; clear c6
        (first | rw [c6b0] | (simp only [i64_w, i32_w]; rw [c6b0]) | skip)
        obtain ⟨y121, hy121⟩ : ∃ y_ : List Int, y_ = (([a0_2, a0_3] : List Int)) := ⟨_, rfl⟩; replace H : ((wire_number.f y121).bind fun t124 => (if t124 = true then (wire_Check.j0 k ((a0_4.size : Int) == 32) a0_0 a0_1 a0_2 a0_3 a0_4 a0_5 a0_6 a0_7 a0_8 a0_9 a0_10 a0_11 a0_12 a0_13 a0_14 l0_15) else (wire_Check.j0 k false a0_0 a0_1 a0_2 a0_3 a0_4 a0_5 a0_6 a0_7 a0_8 a0_9 a0_10 a0_11 a0_12 a0_13 a0_14 l0_15))) = some r := by first | (rw [hy121]; with_reducible exact H) | (have H2_ := (Option.bind_some _ _).symm.trans H; rw [hy121]; with_reducible exact H2_) | (have H2_ := (Option.bind_some _ _).symm.trans H; with_reducible exact H2_) | with_reducible exact H | (rw [hy121]; exact H) | exact H
        have Ny121 := Aside0.mk hy121; clear hy121; replace H := Option.bind_eq_some_iff.mp H; obtain ⟨t124, A70, H⟩ := H; have A7 := Aside0.mk A70; clear A70; by_cases c8 : t124 = true
        · subst c8; have H1 : (wire_Check.j0 k ((a0_4.size : Int) == 32) a0_0 a0_1 a0_2 a0_3 a0_4 a0_5 a0_6 a0_7 a0_8 a0_9 a0_10 a0_11 a0_12 a0_13 a0_14 l0_15) = some r := by rw [if_pos rfl] at H; exact H
          clear H; have H := H1; clear H1; have H' := Aside0.mk H; clear H; have hcz9_0 : w3.cell? ⟨gb119, 0, none⟩ = some (.int .i64 a0_0) := (blk_cell BK119.out 0).trans rfl; have hcz9_1 : w3.cell? ⟨gb119, 1, none⟩ = some (.int .i64 a0_1) := (blk_cell BK119.out 1).trans rfl; have hcz9_2 : w3.cell? ⟨gb119, 2, none⟩ = some (.int .i64 a0_2) := (blk_cell BK119.out 2).trans rfl; have hcz9_3 : w3.cell? ⟨gb119, 3, none⟩ = some (.int .i64 a0_3) := (blk_cell BK119.out 3).trans rfl; have hcz9_4 : w3.cell? ⟨gb119, 4, none⟩ = some (.string a0_4) := (blk_cell BK119.out 4).trans rfl; have hcz9_5 : w3.cell? ⟨gb119, 5, none⟩ = some (.int .i64 a0_5) := (blk_cell BK119.out 5).trans rfl; have hcz9_6 : w3.cell? ⟨gb119, 6, none⟩ = some (.int .i64 a0_6) := (blk_cell BK119.out 6).trans rfl; have hcz9_7 : w3.cell? ⟨gb119, 7, none⟩ = some (.int .i64 a0_7) := (blk_cell BK119.out 7).trans rfl; have hcz9_8 : w3.cell? ⟨gb119, 8, none⟩ = some (.int .i64 a0_8) := (blk_cell BK119.out 8).trans rfl; have hcz9_9 : w3.cell? ⟨gb119, 9, none⟩ = some (.int .i64 a0_9) := (blk_cell BK119.out 9).trans rfl; have hcz9_10 : w3.cell? ⟨gb119, 10, none⟩ = some (.int .i64 a0_10) := (blk_cell BK119.out 10).trans rfl; have hcz9_11 : w3.cell? ⟨gb119, 11, none⟩ = some (.int .i64 a0_11) := (blk_cell BK119.out 11).trans rfl; have hcz9_12 : w3.cell? ⟨gb119, 12, none⟩ = some (.string a0_12) := (blk_cell BK119.out 12).trans rfl; have hcz9_13 : w3.cell? ⟨gb119, 13, none⟩ = some (.string a0_13) := (blk_cell BK119.out 13).trans rfl; have hcz9_14 : w3.cell? ⟨gb119, 14, none⟩ = some (.int .i64 a0_14) := (blk_cell BK119.out 14).trans rfl; have hcz9_15 : w3.cell? ⟨gb119, 15, none⟩ = some (.slice A0_15 l0_15.length c0_15) := (blk_cell BK119.out 15).trans rfl; have hfz9_0 := blk_frozen BK119.out 0; have hfz9_1 := blk_frozen BK119.out 1; have hfz9_2 := blk_frozen BK119.out 2; have hfz9_3 := blk_frozen BK119.out 3; have hfz9_4 := blk_frozen BK119.out 4; have hfz9_5 := blk_frozen BK119.out 5; have hfz9_6 := blk_frozen BK119.out 6; have hfz9_7 := blk_frozen BK119.out 7; have hfz9_8 := blk_frozen BK119.out 8; have hfz9_9 := blk_frozen BK119.out 9; have hfz9_10 := blk_frozen BK119.out 10; have hfz9_11 := blk_frozen BK119.out 11; have hfz9_12 := blk_frozen BK119.out 12; have hfz9_13 := blk_frozen BK119.out 13; have hfz9_14 := blk_frozen BK119.out 14; have hfz9_15 := blk_frozen BK119.out 15; go_wp2_with (first | ((with_reducible refine gate_callee (f := 74) rfl ?_); refine gl_ 6 Tryd.func74 #[.int .i64 a0_1] ?_; (with_reducible refine (wire_member.calls a0_1 true _ A4.out).mono ?_); rintro e w' ⟨rfl, ⟨nd, rfl⟩⟩; refine ⟨_, rfl, ?_⟩) | ((with_reducible refine gate_dst (N := 17) rfl ?_); (try (refine gate_guard (by rfl) ?_; dsimp only)); refine Kd.R_lit (Kd.int .i64) _ 3 ?hg (N := 17) ?hd (xs := ([a0_2, a0_3] : List Int)) (inner := [.int .i64 a0_2, .int .i64 a0_3]) (ok := fun _ => True) (okp := fun _ => True) ?hr ?hp (fun _ hk => hk) trivial (Below.refl _ _) (Nat.le_refl _) (by simp) ?_; (case hd => rfl); (case hg => rfl); (case hr => first | (go_simp; done) | (go_simp; rfl)); (case hp => exact (ro_ (ro_ (Reps.none _ _)))); intro v122 w10 ho11 hb hg_ hnew_; clear hg_ hnew_; (first | rw [← Ny121.out] at ho11 | (simp only [Int.reduceToNat] at ho11; rw [← Ny121.out] at ho11)); have n0_ := Aside0.mk (Kd.R_lower ho11 (below_size (by repeat (first | (with_reducible first | exact HB.out | apply below_alloc | apply pw_below_drewN | apply below_drew1 | refine below_set ?_ GE119.out) | exact HB.out)))); have n1_ := Aside0.mk (blk_below (g := gb119) (o := .cells #[.int .i64 a0_0, .int .i64 a0_1, .int .i64 a0_2, .int .i64 a0_3, .string a0_4, .int .i64 a0_5, .int .i64 a0_6, .int .i64 a0_7, .int .i64 a0_8, .int .i64 a0_9, .int .i64 a0_10, .int .i64 a0_11, .string a0_12, .string a0_13, .int .i64 a0_14, .slice A0_15 l0_15.length c0_15] 31 (0, 0)) (by (with_reducible repeat (first | refine blk_drewN ?_ _ | refine blk_drew ?_ | refine blk_alloc ?_ _)); exact BK119.out) hb); have n2_ := Aside0.mk (below_step (by repeat (first | (with_reducible first | exact HB.out | apply below_alloc | apply pw_below_drewN | apply below_drew1 | refine below_set ?_ GE119.out) | exact HB.out)) hb); clear BK119; clear HB; have HO123 := n0_; have BK119 := n1_; have HB := n2_; clear n0_ n1_ n2_; clear hb ho11; obtain ⟨Ao12, co12, eo12⟩ := Kd.R_slice HO123.out; subst eo12) | (go_at_call 75; (with_reducible refine (wire_number.calls _ _ y121 true _ ?side1 ?side2 A7.out).mono ?_); (case side1 => exact ca_ (Kd.R_reads' HO123.out).2.2); (case side2 => exact (Kd.R_reads' HO123.out).2.1); rintro e w13 ⟨rfl, hb⟩; have n0_ := Aside0.mk (Kd.R_below (ra_ HO123.out) hb); have n1_ := Aside0.mk (blk_below (g := gb119) (o := .cells #[.int .i64 a0_0, .int .i64 a0_1, .int .i64 a0_2, .int .i64 a0_3, .string a0_4, .int .i64 a0_5, .int .i64 a0_6, .int .i64 a0_7, .int .i64 a0_8, .int .i64 a0_9, .int .i64 a0_10, .int .i64 a0_11, .string a0_12, .string a0_13, .int .i64 a0_14, .slice A0_15 l0_15.length c0_15] 31 (0, 0)) (by (with_reducible repeat (first | refine blk_drewN ?_ _ | refine blk_drew ?_ | refine blk_alloc ?_ _)); exact BK119.out) hb); have n2_ := Aside0.mk (below_step (by repeat (first | (with_reducible first | exact HB.out | apply below_alloc | apply pw_below_drewN | apply below_drew1 | refine below_set ?_ GE119.out) | exact HB.out)) hb); clear HO123; clear BK119; clear HB; have HO123 := n0_; have BK119 := n1_; have HB := n2_; clear n0_ n1_ n2_; have hcz14_0 : w13.cell? ⟨gb119, 0, none⟩ = some (.int .i64 a0_0) := (blk_cell BK119.out 0).trans rfl; have hcz14_1 : w13.cell? ⟨gb119, 1, none⟩ = some (.int .i64 a0_1) := (blk_cell BK119.out 1).trans rfl; have hcz14_2 : w13.cell? ⟨gb119, 2, none⟩ = some (.int .i64 a0_2) := (blk_cell BK119.out 2).trans rfl; have hcz14_3 : w13.cell? ⟨gb119, 3, none⟩ = some (.int .i64 a0_3) := (blk_cell BK119.out 3).trans rfl; have hcz14_4 : w13.cell? ⟨gb119, 4, none⟩ = some (.string a0_4) := (blk_cell BK119.out 4).trans rfl; have hcz14_5 : w13.cell? ⟨gb119, 5, none⟩ = some (.int .i64 a0_5) := (blk_cell BK119.out 5).trans rfl; have hcz14_6 : w13.cell? ⟨gb119, 6, none⟩ = some (.int .i64 a0_6) := (blk_cell BK119.out 6).trans rfl; have hcz14_7 : w13.cell? ⟨gb119, 7, none⟩ = some (.int .i64 a0_7) := (blk_cell BK119.out 7).trans rfl; have hcz14_8 : w13.cell? ⟨gb119, 8, none⟩ = some (.int .i64 a0_8) := (blk_cell BK119.out 8).trans rfl; have hcz14_9 : w13.cell? ⟨gb119, 9, none⟩ = some (.int .i64 a0_9) := (blk_cell BK119.out 9).trans rfl; have hcz14_10 : w13.cell? ⟨gb119, 10, none⟩ = some (.int .i64 a0_10) := (blk_cell BK119.out 10).trans rfl; have hcz14_11 : w13.cell? ⟨gb119, 11, none⟩ = some (.int .i64 a0_11) := (blk_cell BK119.out 11).trans rfl; have hcz14_12 : w13.cell? ⟨gb119, 12, none⟩ = some (.string a0_12) := (blk_cell BK119.out 12).trans rfl; have hcz14_13 : w13.cell? ⟨gb119, 13, none⟩ = some (.string a0_13) := (blk_cell BK119.out 13).trans rfl; have hcz14_14 : w13.cell? ⟨gb119, 14, none⟩ = some (.int .i64 a0_14) := (blk_cell BK119.out 14).trans rfl; have hcz14_15 : w13.cell? ⟨gb119, 15, none⟩ = some (.slice A0_15 l0_15.length c0_15) := (blk_cell BK119.out 15).trans rfl; have hfz14_0 := blk_frozen BK119.out 0; have hfz14_1 := blk_frozen BK119.out 1; have hfz14_2 := blk_frozen BK119.out 2; have hfz14_3 := blk_frozen BK119.out 3; have hfz14_4 := blk_frozen BK119.out 4; have hfz14_5 := blk_frozen BK119.out 5; have hfz14_6 := blk_frozen BK119.out 6; have hfz14_7 := blk_frozen BK119.out 7; have hfz14_8 := blk_frozen BK119.out 8; have hfz14_9 := blk_frozen BK119.out 9; have hfz14_10 := blk_frozen BK119.out 10; have hfz14_11 := blk_frozen BK119.out 11; have hfz14_12 := blk_frozen BK119.out 12; have hfz14_13 := blk_frozen BK119.out 13; have hfz14_14 := blk_frozen BK119.out 14; have hfz14_15 := blk_frozen BK119.out 15))
          go_meet
          case rel => exact ⟨_, (((a0_4.size : Int) == 32)), rz_, H', ⟨by first | omega | exact Nat.le_refl _⟩, ⟨by (with_reducible repeat (first | refine blk_drewN ?_ _ | refine blk_drew ?_ | refine blk_alloc ?_ _)); exact BK119.out⟩, ⟨by repeat (first | (with_reducible first | exact HB.out | apply below_alloc | apply pw_below_drewN | apply below_drew1 | refine below_set ?_ GE119.out) | exact HB.out)⟩⟩
        · replace c8 := Bool.eq_false_iff.mpr c8; subst c8; have H1 : (wire_Check.j0 k false a0_0 a0_1 a0_2 a0_3 a0_4 a0_5 a0_6 a0_7 a0_8 a0_9 a0_10 a0_11 a0_12 a0_13 a0_14 l0_15) = some r := by rw [if_neg (show ¬ (false = true) by decide)] at H; exact H
          clear H; have H := H1; clear H1; have H' := Aside0.mk H; clear H; have hcz15_0 : w3.cell? ⟨gb119, 0, none⟩ = some (.int .i64 a0_0) := (blk_cell BK119.out 0).trans rfl; have hcz15_1 : w3.cell? ⟨gb119, 1, none⟩ = some (.int .i64 a0_1) := (blk_cell BK119.out 1).trans rfl; have hcz15_2 : w3.cell? ⟨gb119, 2, none⟩ = some (.int .i64 a0_2) := (blk_cell BK119.out 2).trans rfl; have hcz15_3 : w3.cell? ⟨gb119, 3, none⟩ = some (.int .i64 a0_3) := (blk_cell BK119.out 3).trans rfl; have hcz15_4 : w3.cell? ⟨gb119, 4, none⟩ = some (.string a0_4) := (blk_cell BK119.out 4).trans rfl; have hcz15_5 : w3.cell? ⟨gb119, 5, none⟩ = some (.int .i64 a0_5) := (blk_cell BK119.out 5).trans rfl; have hcz15_6 : w3.cell? ⟨gb119, 6, none⟩ = some (.int .i64 a0_6) := (blk_cell BK119.out 6).trans rfl; have hcz15_7 : w3.cell? ⟨gb119, 7, none⟩ = some (.int .i64 a0_7) := (blk_cell BK119.out 7).trans rfl; have hcz15_8 : w3.cell? ⟨gb119, 8, none⟩ = some (.int .i64 a0_8) := (blk_cell BK119.out 8).trans rfl; have hcz15_9 : w3.cell? ⟨gb119, 9, none⟩ = some (.int .i64 a0_9) := (blk_cell BK119.out 9).trans rfl; have hcz15_10 : w3.cell? ⟨gb119, 10, none⟩ = some (.int .i64 a0_10) := (blk_cell BK119.out 10).trans rfl; have hcz15_11 : w3.cell? ⟨gb119, 11, none⟩ = some (.int .i64 a0_11) := (blk_cell BK119.out 11).trans rfl; have hcz15_12 : w3.cell? ⟨gb119, 12, none⟩ = some (.string a0_12) := (blk_cell BK119.out 12).trans rfl; have hcz15_13 : w3.cell? ⟨gb119, 13, none⟩ = some (.string a0_13) := (blk_cell BK119.out 13).trans rfl; have hcz15_14 : w3.cell? ⟨gb119, 14, none⟩ = some (.int .i64 a0_14) := (blk_cell BK119.out 14).trans rfl; have hcz15_15 : w3.cell? ⟨gb119, 15, none⟩ = some (.slice A0_15 l0_15.length c0_15) := (blk_cell BK119.out 15).trans rfl; have hfz15_0 := blk_frozen BK119.out 0; have hfz15_1 := blk_frozen BK119.out 1; have hfz15_2 := blk_frozen BK119.out 2; have hfz15_3 := blk_frozen BK119.out 3; have hfz15_4 := blk_frozen BK119.out 4; have hfz15_5 := blk_frozen BK119.out 5; have hfz15_6 := blk_frozen BK119.out 6; have hfz15_7 := blk_frozen BK119.out 7; have hfz15_8 := blk_frozen BK119.out 8; have hfz15_9 := blk_frozen BK119.out 9; have hfz15_10 := blk_frozen BK119.out 10; have hfz15_11 := blk_frozen BK119.out 11; have hfz15_12 := blk_frozen BK119.out 12; have hfz15_13 := blk_frozen BK119.out 13; have hfz15_14 := blk_frozen BK119.out 14; have hfz15_15 := blk_frozen BK119.out 15; go_wp2_with (first | ((with_reducible refine gate_callee (f := 74) rfl ?_); refine gl_ 6 Tryd.func74 #[.int .i64 a0_1] ?_; (with_reducible refine (wire_member.calls a0_1 true _ A4.out).mono ?_); rintro e w' ⟨rfl, ⟨nd, rfl⟩⟩; refine ⟨_, rfl, ?_⟩) | ((with_reducible refine gate_dst (N := 17) rfl ?_); (try (refine gate_guard (by rfl) ?_; dsimp only)); refine Kd.R_lit (Kd.int .i64) _ 3 ?hg (N := 17) ?hd (xs := ([a0_2, a0_3] : List Int)) (inner := [.int .i64 a0_2, .int .i64 a0_3]) (ok := fun _ => True) (okp := fun _ => True) ?hr ?hp (fun _ hk => hk) trivial (Below.refl _ _) (Nat.le_refl _) (by simp) ?_; (case hd => rfl); (case hg => rfl); (case hr => first | (go_simp; done) | (go_simp; rfl)); (case hp => exact (ro_ (ro_ (Reps.none _ _)))); intro v122 w16 ho17 hb hg_ hnew_; clear hg_ hnew_; (first | rw [← Ny121.out] at ho17 | (simp only [Int.reduceToNat] at ho17; rw [← Ny121.out] at ho17)); have n0_ := Aside0.mk (Kd.R_lower ho17 (below_size (by repeat (first | (with_reducible first | exact HB.out | apply below_alloc | apply pw_below_drewN | apply below_drew1 | refine below_set ?_ GE119.out) | exact HB.out)))); have n1_ := Aside0.mk (blk_below (g := gb119) (o := .cells #[.int .i64 a0_0, .int .i64 a0_1, .int .i64 a0_2, .int .i64 a0_3, .string a0_4, .int .i64 a0_5, .int .i64 a0_6, .int .i64 a0_7, .int .i64 a0_8, .int .i64 a0_9, .int .i64 a0_10, .int .i64 a0_11, .string a0_12, .string a0_13, .int .i64 a0_14, .slice A0_15 l0_15.length c0_15] 31 (0, 0)) (by (with_reducible repeat (first | refine blk_drewN ?_ _ | refine blk_drew ?_ | refine blk_alloc ?_ _)); exact BK119.out) hb); have n2_ := Aside0.mk (below_step (by repeat (first | (with_reducible first | exact HB.out | apply below_alloc | apply pw_below_drewN | apply below_drew1 | refine below_set ?_ GE119.out) | exact HB.out)) hb); clear BK119; clear HB; have HO123 := n0_; have BK119 := n1_; have HB := n2_; clear n0_ n1_ n2_; clear hb ho17; obtain ⟨Ao18, co18, eo18⟩ := Kd.R_slice HO123.out; subst eo18) | (go_at_call 75; (with_reducible refine (wire_number.calls _ _ y121 false _ ?side1 ?side2 A7.out).mono ?_); (case side1 => exact ca_ (Kd.R_reads' HO123.out).2.2); (case side2 => exact (Kd.R_reads' HO123.out).2.1); rintro e w19 ⟨rfl, hb⟩; have n0_ := Aside0.mk (Kd.R_below (ra_ HO123.out) hb); have n1_ := Aside0.mk (blk_below (g := gb119) (o := .cells #[.int .i64 a0_0, .int .i64 a0_1, .int .i64 a0_2, .int .i64 a0_3, .string a0_4, .int .i64 a0_5, .int .i64 a0_6, .int .i64 a0_7, .int .i64 a0_8, .int .i64 a0_9, .int .i64 a0_10, .int .i64 a0_11, .string a0_12, .string a0_13, .int .i64 a0_14, .slice A0_15 l0_15.length c0_15] 31 (0, 0)) (by (with_reducible repeat (first | refine blk_drewN ?_ _ | refine blk_drew ?_ | refine blk_alloc ?_ _)); exact BK119.out) hb); have n2_ := Aside0.mk (below_step (by repeat (first | (with_reducible first | exact HB.out | apply below_alloc | apply pw_below_drewN | apply below_drew1 | refine below_set ?_ GE119.out) | exact HB.out)) hb); clear HO123; clear BK119; clear HB; have HO123 := n0_; have BK119 := n1_; have HB := n2_; clear n0_ n1_ n2_))
          go_meet
          case rel => exact ⟨_, (false), rz_, H', ⟨by first | omega | exact Nat.le_refl _⟩, ⟨by (with_reducible repeat (first | refine blk_drewN ?_ _ | refine blk_drew ?_ | refine blk_alloc ?_ _)); exact BK119.out⟩, ⟨by repeat (first | (with_reducible first | exact HB.out | apply below_alloc | apply pw_below_drewN | apply below_drew1 | refine below_set ?_ GE119.out) | exact HB.out)⟩⟩
      · rw [if_neg c6] at H; have c6b0 : decide (1 ≤ a0_2) = false := decide_eq_false c6; clear c6
        (first | rw [c6b0] | (simp only [i64_w, i32_w]; rw [c6b0]) | skip)
        have H' := Aside0.mk H; clear H; have hcz20_0 : w3.cell? ⟨gb119, 0, none⟩ = some (.int .i64 a0_0) := (blk_cell BK119.out 0).trans rfl; have hcz20_1 : w3.cell? ⟨gb119, 1, none⟩ = some (.int .i64 a0_1) := (blk_cell BK119.out 1).trans rfl; have hcz20_2 : w3.cell? ⟨gb119, 2, none⟩ = some (.int .i64 a0_2) := (blk_cell BK119.out 2).trans rfl; have hcz20_3 : w3.cell? ⟨gb119, 3, none⟩ = some (.int .i64 a0_3) := (blk_cell BK119.out 3).trans rfl; have hcz20_4 : w3.cell? ⟨gb119, 4, none⟩ = some (.string a0_4) := (blk_cell BK119.out 4).trans rfl; have hcz20_5 : w3.cell? ⟨gb119, 5, none⟩ = some (.int .i64 a0_5) := (blk_cell BK119.out 5).trans rfl; have hcz20_6 : w3.cell? ⟨gb119, 6, none⟩ = some (.int .i64 a0_6) := (blk_cell BK119.out 6).trans rfl; have hcz20_7 : w3.cell? ⟨gb119, 7, none⟩ = some (.int .i64 a0_7) := (blk_cell BK119.out 7).trans rfl; have hcz20_8 : w3.cell? ⟨gb119, 8, none⟩ = some (.int .i64 a0_8) := (blk_cell BK119.out 8).trans rfl; have hcz20_9 : w3.cell? ⟨gb119, 9, none⟩ = some (.int .i64 a0_9) := (blk_cell BK119.out 9).trans rfl; have hcz20_10 : w3.cell? ⟨gb119, 10, none⟩ = some (.int .i64 a0_10) := (blk_cell BK119.out 10).trans rfl; have hcz20_11 : w3.cell? ⟨gb119, 11, none⟩ = some (.int .i64 a0_11) := (blk_cell BK119.out 11).trans rfl; have hcz20_12 : w3.cell? ⟨gb119, 12, none⟩ = some (.string a0_12) := (blk_cell BK119.out 12).trans rfl; have hcz20_13 : w3.cell? ⟨gb119, 13, none⟩ = some (.string a0_13) := (blk_cell BK119.out 13).trans rfl; have hcz20_14 : w3.cell? ⟨gb119, 14, none⟩ = some (.int .i64 a0_14) := (blk_cell BK119.out 14).trans rfl; have hcz20_15 : w3.cell? ⟨gb119, 15, none⟩ = some (.slice A0_15 l0_15.length c0_15) := (blk_cell BK119.out 15).trans rfl; have hfz20_0 := blk_frozen BK119.out 0; have hfz20_1 := blk_frozen BK119.out 1; have hfz20_2 := blk_frozen BK119.out 2; have hfz20_3 := blk_frozen BK119.out 3; have hfz20_4 := blk_frozen BK119.out 4; have hfz20_5 := blk_frozen BK119.out 5; have hfz20_6 := blk_frozen BK119.out 6; have hfz20_7 := blk_frozen BK119.out 7; have hfz20_8 := blk_frozen BK119.out 8; have hfz20_9 := blk_frozen BK119.out 9; have hfz20_10 := blk_frozen BK119.out 10; have hfz20_11 := blk_frozen BK119.out 11; have hfz20_12 := blk_frozen BK119.out 12; have hfz20_13 := blk_frozen BK119.out 13; have hfz20_14 := blk_frozen BK119.out 14; have hfz20_15 := blk_frozen BK119.out 15; go_wp2_with (first | ((with_reducible refine gate_callee (f := 74) rfl ?_); refine gl_ 6 Tryd.func74 #[.int .i64 a0_1] ?_; (with_reducible refine (wire_member.calls a0_1 true _ A4.out).mono ?_); rintro e w' ⟨rfl, ⟨nd, rfl⟩⟩; refine ⟨_, rfl, ?_⟩))
        go_meet
        case rel => exact ⟨_, (false), rz_, H', ⟨by first | omega | exact Nat.le_refl _⟩, ⟨by (with_reducible repeat (first | refine blk_drewN ?_ _ | refine blk_drew ?_ | refine blk_alloc ?_ _)); exact BK119.out⟩, ⟨by repeat (first | (with_reducible first | exact HB.out | apply below_alloc | apply pw_below_drewN | apply below_drew1 | refine below_set ?_ GE119.out) | exact HB.out)⟩⟩
    · replace c5 := Bool.eq_false_iff.mpr c5; subst c5; have H1 : (wire_Check.j0 k false a0_0 a0_1 a0_2 a0_3 a0_4 a0_5 a0_6 a0_7 a0_8 a0_9 a0_10 a0_11 a0_12 a0_13 a0_14 l0_15) = some r := by rw [if_neg (show ¬ (false = true) by decide)] at H; exact H
      clear H; have H := H1; clear H1; have H' := Aside0.mk H; clear H; have hcz21_0 : w3.cell? ⟨gb119, 0, none⟩ = some (.int .i64 a0_0) := (blk_cell BK119.out 0).trans rfl; have hcz21_1 : w3.cell? ⟨gb119, 1, none⟩ = some (.int .i64 a0_1) := (blk_cell BK119.out 1).trans rfl; have hcz21_2 : w3.cell? ⟨gb119, 2, none⟩ = some (.int .i64 a0_2) := (blk_cell BK119.out 2).trans rfl; have hcz21_3 : w3.cell? ⟨gb119, 3, none⟩ = some (.int .i64 a0_3) := (blk_cell BK119.out 3).trans rfl; have hcz21_4 : w3.cell? ⟨gb119, 4, none⟩ = some (.string a0_4) := (blk_cell BK119.out 4).trans rfl; have hcz21_5 : w3.cell? ⟨gb119, 5, none⟩ = some (.int .i64 a0_5) := (blk_cell BK119.out 5).trans rfl; have hcz21_6 : w3.cell? ⟨gb119, 6, none⟩ = some (.int .i64 a0_6) := (blk_cell BK119.out 6).trans rfl; have hcz21_7 : w3.cell? ⟨gb119, 7, none⟩ = some (.int .i64 a0_7) := (blk_cell BK119.out 7).trans rfl; have hcz21_8 : w3.cell? ⟨gb119, 8, none⟩ = some (.int .i64 a0_8) := (blk_cell BK119.out 8).trans rfl; have hcz21_9 : w3.cell? ⟨gb119, 9, none⟩ = some (.int .i64 a0_9) := (blk_cell BK119.out 9).trans rfl; have hcz21_10 : w3.cell? ⟨gb119, 10, none⟩ = some (.int .i64 a0_10) := (blk_cell BK119.out 10).trans rfl; have hcz21_11 : w3.cell? ⟨gb119, 11, none⟩ = some (.int .i64 a0_11) := (blk_cell BK119.out 11).trans rfl; have hcz21_12 : w3.cell? ⟨gb119, 12, none⟩ = some (.string a0_12) := (blk_cell BK119.out 12).trans rfl; have hcz21_13 : w3.cell? ⟨gb119, 13, none⟩ = some (.string a0_13) := (blk_cell BK119.out 13).trans rfl; have hcz21_14 : w3.cell? ⟨gb119, 14, none⟩ = some (.int .i64 a0_14) := (blk_cell BK119.out 14).trans rfl; have hcz21_15 : w3.cell? ⟨gb119, 15, none⟩ = some (.slice A0_15 l0_15.length c0_15) := (blk_cell BK119.out 15).trans rfl; have hfz21_0 := blk_frozen BK119.out 0; have hfz21_1 := blk_frozen BK119.out 1; have hfz21_2 := blk_frozen BK119.out 2; have hfz21_3 := blk_frozen BK119.out 3; have hfz21_4 := blk_frozen BK119.out 4; have hfz21_5 := blk_frozen BK119.out 5; have hfz21_6 := blk_frozen BK119.out 6; have hfz21_7 := blk_frozen BK119.out 7; have hfz21_8 := blk_frozen BK119.out 8; have hfz21_9 := blk_frozen BK119.out 9; have hfz21_10 := blk_frozen BK119.out 10; have hfz21_11 := blk_frozen BK119.out 11; have hfz21_12 := blk_frozen BK119.out 12; have hfz21_13 := blk_frozen BK119.out 13; have hfz21_14 := blk_frozen BK119.out 14; have hfz21_15 := blk_frozen BK119.out 15; go_wp2_with (first | ((with_reducible refine gate_callee (f := 74) rfl ?_); refine gl_ 6 Tryd.func74 #[.int .i64 a0_1] ?_; (with_reducible refine (wire_member.calls a0_1 false _ A4.out).mono ?_); rintro e w' ⟨rfl, ⟨nd, rfl⟩⟩; refine ⟨_, rfl, ?_⟩))
      go_meet
      case rel => exact ⟨_, (false), rz_, H', ⟨by first | omega | exact Nat.le_refl _⟩, ⟨by (with_reducible repeat (first | refine blk_drewN ?_ _ | refine blk_drew ?_ | refine blk_alloc ?_ _)); exact BK119.out⟩, ⟨by repeat (first | (with_reducible first | exact HB.out | apply below_alloc | apply pw_below_drewN | apply below_drew1 | refine below_set ?_ GE119.out) | exact HB.out)⟩⟩
  case rest =>
    clear HC2; obtain ⟨kq, x3_1, rfl, HA, HJ1, BK119, HB⟩ := hcut; cases kq with
    | zero => exact absurd HA.out (by simp [wire_Check.j0])
    | succ kj1 =>
      have H := HA.out; clear HA; simp only [wire_Check.j0] at H; by_cases c22 : a0_0 = 1
      · rw [if_pos c22] at H; have c22b0 : (a0_0 == 1) = true := beq_iff_eq.mpr c22; have c22b1 : (a0_0 != 1) = false := bne_eq_false_iff_eq.mpr c22; clear c22; by_cases c23 : x3_1 = true
        · subst c23; have H1 : ((tree_Check.f a0_5 a0_6 a0_7 a0_8 a0_9 a0_10 a0_11 a0_12 a0_13).bind fun t125 => (if t125 = 0 then (if a0_7 = a0_1 then (if a0_14 = 0 then (if ((l0_15.length : Int) = 0) then (some 0) else (some 1)) else (some 1)) else (some 1)) else (some 1))) = some r := by rw [if_pos rfl] at H; exact H
          clear H; have H := H1; clear H1; replace H := Option.bind_eq_some_iff.mp H; obtain ⟨t125, A240, H⟩ := H; have A24 := Aside0.mk A240; clear A240; by_cases c25 : t125 = 0
          · rw [if_pos c25] at H; have c25b0 : (t125 == 0) = true := beq_iff_eq.mpr c25; have c25b1 : (t125 != 0) = false := bne_eq_false_iff_eq.mpr c25; clear c25; by_cases c26 : a0_7 = a0_1
            · rw [if_pos c26] at H; have c26b0 : (a0_7 == a0_1) = true := beq_iff_eq.mpr c26; have c26b1 : (a0_7 != a0_1) = false := bne_eq_false_iff_eq.mpr c26; clear c26; by_cases c27 : a0_14 = 0
              · rw [if_pos c27] at H; have c27b0 : (a0_14 == 0) = true := beq_iff_eq.mpr c27; have c27b1 : (a0_14 != 0) = false := bne_eq_false_iff_eq.mpr c27; clear c27; by_cases c28 : ((l0_15.length : Int) = 0)
                · rw [if_pos c28] at H; have c28b0 : ((l0_15.length : Int) == 0) = true := beq_iff_eq.mpr c28; have c28b1 : ((l0_15.length : Int) != 0) = false := bne_eq_false_iff_eq.mpr c28; clear c28; obtain rfl := Option.some.inj H; have hcz29_0 : wc.cell? ⟨gb119, 0, none⟩ = some (.int .i64 a0_0) := (blk_cell BK119.out 0).trans rfl; have hcz29_1 : wc.cell? ⟨gb119, 1, none⟩ = some (.int .i64 a0_1) := (blk_cell BK119.out 1).trans rfl; have hcz29_2 : wc.cell? ⟨gb119, 2, none⟩ = some (.int .i64 a0_2) := (blk_cell BK119.out 2).trans rfl; have hcz29_3 : wc.cell? ⟨gb119, 3, none⟩ = some (.int .i64 a0_3) := (blk_cell BK119.out 3).trans rfl; have hcz29_4 : wc.cell? ⟨gb119, 4, none⟩ = some (.string a0_4) := (blk_cell BK119.out 4).trans rfl; have hcz29_5 : wc.cell? ⟨gb119, 5, none⟩ = some (.int .i64 a0_5) := (blk_cell BK119.out 5).trans rfl; have hcz29_6 : wc.cell? ⟨gb119, 6, none⟩ = some (.int .i64 a0_6) := (blk_cell BK119.out 6).trans rfl; have hcz29_7 : wc.cell? ⟨gb119, 7, none⟩ = some (.int .i64 a0_7) := (blk_cell BK119.out 7).trans rfl; have hcz29_8 : wc.cell? ⟨gb119, 8, none⟩ = some (.int .i64 a0_8) := (blk_cell BK119.out 8).trans rfl; have hcz29_9 : wc.cell? ⟨gb119, 9, none⟩ = some (.int .i64 a0_9) := (blk_cell BK119.out 9).trans rfl; have hcz29_10 : wc.cell? ⟨gb119, 10, none⟩ = some (.int .i64 a0_10) := (blk_cell BK119.out 10).trans rfl; have hcz29_11 : wc.cell? ⟨gb119, 11, none⟩ = some (.int .i64 a0_11) := (blk_cell BK119.out 11).trans rfl; have hcz29_12 : wc.cell? ⟨gb119, 12, none⟩ = some (.string a0_12) := (blk_cell BK119.out 12).trans rfl; have hcz29_13 : wc.cell? ⟨gb119, 13, none⟩ = some (.string a0_13) := (blk_cell BK119.out 13).trans rfl; have hcz29_14 : wc.cell? ⟨gb119, 14, none⟩ = some (.int .i64 a0_14) := (blk_cell BK119.out 14).trans rfl; have hcz29_15 : wc.cell? ⟨gb119, 15, none⟩ = some (.slice A0_15 l0_15.length c0_15) := (blk_cell BK119.out 15).trans rfl; have hfz29_0 := blk_frozen BK119.out 0; have hfz29_1 := blk_frozen BK119.out 1; have hfz29_2 := blk_frozen BK119.out 2; have hfz29_3 := blk_frozen BK119.out 3; have hfz29_4 := blk_frozen BK119.out 4; have hfz29_5 := blk_frozen BK119.out 5; have hfz29_6 := blk_frozen BK119.out 6; have hfz29_7 := blk_frozen BK119.out 7; have hfz29_8 := blk_frozen BK119.out 8; have hfz29_9 := blk_frozen BK119.out 9; have hfz29_10 := blk_frozen BK119.out 10; have hfz29_11 := blk_frozen BK119.out 11; have hfz29_12 := blk_frozen BK119.out 12; have hfz29_13 := blk_frozen BK119.out 13; have hfz29_14 := blk_frozen BK119.out 14; have hfz29_15 := blk_frozen BK119.out 15; go_wp2_with (first | (go_at_call 76; (with_reducible refine (tree_Check.calls a0_5 a0_6 a0_7 a0_8 a0_9 a0_10 a0_11 a0_12 a0_13 t125 _ A24.out).mono ?_); rintro e w30 ⟨rfl, hb⟩; have n0_ := Aside0.mk (blk_below (g := gb119) (o := .cells #[.int .i64 a0_0, .int .i64 a0_1, .int .i64 a0_2, .int .i64 a0_3, .string a0_4, .int .i64 a0_5, .int .i64 a0_6, .int .i64 a0_7, .int .i64 a0_8, .int .i64 a0_9, .int .i64 a0_10, .int .i64 a0_11, .string a0_12, .string a0_13, .int .i64 a0_14, .slice A0_15 l0_15.length c0_15] 31 (0, 0)) (by (with_reducible repeat (first | refine blk_drewN ?_ _ | refine blk_drew ?_ | refine blk_alloc ?_ _)); exact BK119.out) hb); have n1_ := Aside0.mk (below_step (by repeat (first | (with_reducible first | exact HB.out | apply below_alloc | apply pw_below_drewN | apply below_drew1 | refine below_set ?_ GE119.out) | exact HB.out)) hb); clear BK119; clear HB; have BK119 := n0_; have HB := n1_; clear n0_ n1_; have hcz31_0 : w30.cell? ⟨gb119, 0, none⟩ = some (.int .i64 a0_0) := (blk_cell BK119.out 0).trans rfl; have hcz31_1 : w30.cell? ⟨gb119, 1, none⟩ = some (.int .i64 a0_1) := (blk_cell BK119.out 1).trans rfl; have hcz31_2 : w30.cell? ⟨gb119, 2, none⟩ = some (.int .i64 a0_2) := (blk_cell BK119.out 2).trans rfl; have hcz31_3 : w30.cell? ⟨gb119, 3, none⟩ = some (.int .i64 a0_3) := (blk_cell BK119.out 3).trans rfl; have hcz31_4 : w30.cell? ⟨gb119, 4, none⟩ = some (.string a0_4) := (blk_cell BK119.out 4).trans rfl; have hcz31_5 : w30.cell? ⟨gb119, 5, none⟩ = some (.int .i64 a0_5) := (blk_cell BK119.out 5).trans rfl; have hcz31_6 : w30.cell? ⟨gb119, 6, none⟩ = some (.int .i64 a0_6) := (blk_cell BK119.out 6).trans rfl; have hcz31_7 : w30.cell? ⟨gb119, 7, none⟩ = some (.int .i64 a0_7) := (blk_cell BK119.out 7).trans rfl; have hcz31_8 : w30.cell? ⟨gb119, 8, none⟩ = some (.int .i64 a0_8) := (blk_cell BK119.out 8).trans rfl; have hcz31_9 : w30.cell? ⟨gb119, 9, none⟩ = some (.int .i64 a0_9) := (blk_cell BK119.out 9).trans rfl; have hcz31_10 : w30.cell? ⟨gb119, 10, none⟩ = some (.int .i64 a0_10) := (blk_cell BK119.out 10).trans rfl; have hcz31_11 : w30.cell? ⟨gb119, 11, none⟩ = some (.int .i64 a0_11) := (blk_cell BK119.out 11).trans rfl; have hcz31_12 : w30.cell? ⟨gb119, 12, none⟩ = some (.string a0_12) := (blk_cell BK119.out 12).trans rfl; have hcz31_13 : w30.cell? ⟨gb119, 13, none⟩ = some (.string a0_13) := (blk_cell BK119.out 13).trans rfl; have hcz31_14 : w30.cell? ⟨gb119, 14, none⟩ = some (.int .i64 a0_14) := (blk_cell BK119.out 14).trans rfl; have hcz31_15 : w30.cell? ⟨gb119, 15, none⟩ = some (.slice A0_15 l0_15.length c0_15) := (blk_cell BK119.out 15).trans rfl; have hfz31_0 := blk_frozen BK119.out 0; have hfz31_1 := blk_frozen BK119.out 1; have hfz31_2 := blk_frozen BK119.out 2; have hfz31_3 := blk_frozen BK119.out 3; have hfz31_4 := blk_frozen BK119.out 4; have hfz31_5 := blk_frozen BK119.out 5; have hfz31_6 := blk_frozen BK119.out 6; have hfz31_7 := blk_frozen BK119.out 7; have hfz31_8 := blk_frozen BK119.out 8; have hfz31_9 := blk_frozen BK119.out 9; have hfz31_10 := blk_frozen BK119.out 10; have hfz31_11 := blk_frozen BK119.out 11; have hfz31_12 := blk_frozen BK119.out 12; have hfz31_13 := blk_frozen BK119.out 13; have hfz31_14 := blk_frozen BK119.out 14; have hfz31_15 := blk_frozen BK119.out 15))
                  go_ret
                  exact ⟨ew_, by repeat (first | (with_reducible first | exact HB.out | apply below_alloc | apply pw_below_drewN | apply below_drew1 | refine below_set ?_ GE119.out) | exact HB.out)⟩
                · rw [if_neg c28] at H; have c28b0 : ((l0_15.length : Int) == 0) = false := beq_eq_false_iff_ne.mpr c28; have c28b1 : ((l0_15.length : Int) != 0) = true := bne_iff_ne.mpr c28; have c28b2 : ¬ (l0_15 = []) := fun h_ => c28 (by rw [h_]; rfl)
                  obtain rfl := Option.some.inj H; have hcz32_0 : wc.cell? ⟨gb119, 0, none⟩ = some (.int .i64 a0_0) := (blk_cell BK119.out 0).trans rfl; have hcz32_1 : wc.cell? ⟨gb119, 1, none⟩ = some (.int .i64 a0_1) := (blk_cell BK119.out 1).trans rfl; have hcz32_2 : wc.cell? ⟨gb119, 2, none⟩ = some (.int .i64 a0_2) := (blk_cell BK119.out 2).trans rfl; have hcz32_3 : wc.cell? ⟨gb119, 3, none⟩ = some (.int .i64 a0_3) := (blk_cell BK119.out 3).trans rfl; have hcz32_4 : wc.cell? ⟨gb119, 4, none⟩ = some (.string a0_4) := (blk_cell BK119.out 4).trans rfl; have hcz32_5 : wc.cell? ⟨gb119, 5, none⟩ = some (.int .i64 a0_5) := (blk_cell BK119.out 5).trans rfl; have hcz32_6 : wc.cell? ⟨gb119, 6, none⟩ = some (.int .i64 a0_6) := (blk_cell BK119.out 6).trans rfl; have hcz32_7 : wc.cell? ⟨gb119, 7, none⟩ = some (.int .i64 a0_7) := (blk_cell BK119.out 7).trans rfl; have hcz32_8 : wc.cell? ⟨gb119, 8, none⟩ = some (.int .i64 a0_8) := (blk_cell BK119.out 8).trans rfl; have hcz32_9 : wc.cell? ⟨gb119, 9, none⟩ = some (.int .i64 a0_9) := (blk_cell BK119.out 9).trans rfl; have hcz32_10 : wc.cell? ⟨gb119, 10, none⟩ = some (.int .i64 a0_10) := (blk_cell BK119.out 10).trans rfl; have hcz32_11 : wc.cell? ⟨gb119, 11, none⟩ = some (.int .i64 a0_11) := (blk_cell BK119.out 11).trans rfl; have hcz32_12 : wc.cell? ⟨gb119, 12, none⟩ = some (.string a0_12) := (blk_cell BK119.out 12).trans rfl; have hcz32_13 : wc.cell? ⟨gb119, 13, none⟩ = some (.string a0_13) := (blk_cell BK119.out 13).trans rfl; have hcz32_14 : wc.cell? ⟨gb119, 14, none⟩ = some (.int .i64 a0_14) := (blk_cell BK119.out 14).trans rfl; have hcz32_15 : wc.cell? ⟨gb119, 15, none⟩ = some (.slice A0_15 l0_15.length c0_15) := (blk_cell BK119.out 15).trans rfl; have hfz32_0 := blk_frozen BK119.out 0; have hfz32_1 := blk_frozen BK119.out 1; have hfz32_2 := blk_frozen BK119.out 2; have hfz32_3 := blk_frozen BK119.out 3; have hfz32_4 := blk_frozen BK119.out 4; have hfz32_5 := blk_frozen BK119.out 5; have hfz32_6 := blk_frozen BK119.out 6; have hfz32_7 := blk_frozen BK119.out 7; have hfz32_8 := blk_frozen BK119.out 8; have hfz32_9 := blk_frozen BK119.out 9; have hfz32_10 := blk_frozen BK119.out 10; have hfz32_11 := blk_frozen BK119.out 11; have hfz32_12 := blk_frozen BK119.out 12; have hfz32_13 := blk_frozen BK119.out 13; have hfz32_14 := blk_frozen BK119.out 14; have hfz32_15 := blk_frozen BK119.out 15; go_wp2_with (first | (go_at_call 76; (with_reducible refine (tree_Check.calls a0_5 a0_6 a0_7 a0_8 a0_9 a0_10 a0_11 a0_12 a0_13 t125 _ A24.out).mono ?_); rintro e w33 ⟨rfl, hb⟩; have n0_ := Aside0.mk (blk_below (g := gb119) (o := .cells #[.int .i64 a0_0, .int .i64 a0_1, .int .i64 a0_2, .int .i64 a0_3, .string a0_4, .int .i64 a0_5, .int .i64 a0_6, .int .i64 a0_7, .int .i64 a0_8, .int .i64 a0_9, .int .i64 a0_10, .int .i64 a0_11, .string a0_12, .string a0_13, .int .i64 a0_14, .slice A0_15 l0_15.length c0_15] 31 (0, 0)) (by (with_reducible repeat (first | refine blk_drewN ?_ _ | refine blk_drew ?_ | refine blk_alloc ?_ _)); exact BK119.out) hb); have n1_ := Aside0.mk (below_step (by repeat (first | (with_reducible first | exact HB.out | apply below_alloc | apply pw_below_drewN | apply below_drew1 | refine below_set ?_ GE119.out) | exact HB.out)) hb); clear BK119; clear HB; have BK119 := n0_; have HB := n1_; clear n0_ n1_; have hcz34_0 : w33.cell? ⟨gb119, 0, none⟩ = some (.int .i64 a0_0) := (blk_cell BK119.out 0).trans rfl; have hcz34_1 : w33.cell? ⟨gb119, 1, none⟩ = some (.int .i64 a0_1) := (blk_cell BK119.out 1).trans rfl; have hcz34_2 : w33.cell? ⟨gb119, 2, none⟩ = some (.int .i64 a0_2) := (blk_cell BK119.out 2).trans rfl; have hcz34_3 : w33.cell? ⟨gb119, 3, none⟩ = some (.int .i64 a0_3) := (blk_cell BK119.out 3).trans rfl; have hcz34_4 : w33.cell? ⟨gb119, 4, none⟩ = some (.string a0_4) := (blk_cell BK119.out 4).trans rfl; have hcz34_5 : w33.cell? ⟨gb119, 5, none⟩ = some (.int .i64 a0_5) := (blk_cell BK119.out 5).trans rfl; have hcz34_6 : w33.cell? ⟨gb119, 6, none⟩ = some (.int .i64 a0_6) := (blk_cell BK119.out 6).trans rfl; have hcz34_7 : w33.cell? ⟨gb119, 7, none⟩ = some (.int .i64 a0_7) := (blk_cell BK119.out 7).trans rfl; have hcz34_8 : w33.cell? ⟨gb119, 8, none⟩ = some (.int .i64 a0_8) := (blk_cell BK119.out 8).trans rfl; have hcz34_9 : w33.cell? ⟨gb119, 9, none⟩ = some (.int .i64 a0_9) := (blk_cell BK119.out 9).trans rfl; have hcz34_10 : w33.cell? ⟨gb119, 10, none⟩ = some (.int .i64 a0_10) := (blk_cell BK119.out 10).trans rfl; have hcz34_11 : w33.cell? ⟨gb119, 11, none⟩ = some (.int .i64 a0_11) := (blk_cell BK119.out 11).trans rfl; have hcz34_12 : w33.cell? ⟨gb119, 12, none⟩ = some (.string a0_12) := (blk_cell BK119.out 12).trans rfl; have hcz34_13 : w33.cell? ⟨gb119, 13, none⟩ = some (.string a0_13) := (blk_cell BK119.out 13).trans rfl; have hcz34_14 : w33.cell? ⟨gb119, 14, none⟩ = some (.int .i64 a0_14) := (blk_cell BK119.out 14).trans rfl; have hcz34_15 : w33.cell? ⟨gb119, 15, none⟩ = some (.slice A0_15 l0_15.length c0_15) := (blk_cell BK119.out 15).trans rfl; have hfz34_0 := blk_frozen BK119.out 0; have hfz34_1 := blk_frozen BK119.out 1; have hfz34_2 := blk_frozen BK119.out 2; have hfz34_3 := blk_frozen BK119.out 3; have hfz34_4 := blk_frozen BK119.out 4; have hfz34_5 := blk_frozen BK119.out 5; have hfz34_6 := blk_frozen BK119.out 6; have hfz34_7 := blk_frozen BK119.out 7; have hfz34_8 := blk_frozen BK119.out 8; have hfz34_9 := blk_frozen BK119.out 9; have hfz34_10 := blk_frozen BK119.out 10; have hfz34_11 := blk_frozen BK119.out 11; have hfz34_12 := blk_frozen BK119.out 12; have hfz34_13 := blk_frozen BK119.out 13; have hfz34_14 := blk_frozen BK119.out 14; have hfz34_15 := blk_frozen BK119.out 15))
                  go_ret
                  exact ⟨ew_, by repeat (first | (with_reducible first | exact HB.out | apply below_alloc | apply pw_below_drewN | apply below_drew1 | refine below_set ?_ GE119.out) | exact HB.out)⟩
              · rw [if_neg c27] at H; have c27b0 : (a0_14 == 0) = false := beq_eq_false_iff_ne.mpr c27; have c27b1 : (a0_14 != 0) = true := bne_iff_ne.mpr c27; obtain rfl := Option.some.inj H; have hcz35_0 : wc.cell? ⟨gb119, 0, none⟩ = some (.int .i64 a0_0) := (blk_cell BK119.out 0).trans rfl; have hcz35_1 : wc.cell? ⟨gb119, 1, none⟩ = some (.int .i64 a0_1) := (blk_cell BK119.out 1).trans rfl; have hcz35_2 : wc.cell? ⟨gb119, 2, none⟩ = some (.int .i64 a0_2) := (blk_cell BK119.out 2).trans rfl; have hcz35_3 : wc.cell? ⟨gb119, 3, none⟩ = some (.int .i64 a0_3) := (blk_cell BK119.out 3).trans rfl; have hcz35_4 : wc.cell? ⟨gb119, 4, none⟩ = some (.string a0_4) := (blk_cell BK119.out 4).trans rfl; have hcz35_5 : wc.cell? ⟨gb119, 5, none⟩ = some (.int .i64 a0_5) := (blk_cell BK119.out 5).trans rfl; have hcz35_6 : wc.cell? ⟨gb119, 6, none⟩ = some (.int .i64 a0_6) := (blk_cell BK119.out 6).trans rfl; have hcz35_7 : wc.cell? ⟨gb119, 7, none⟩ = some (.int .i64 a0_7) := (blk_cell BK119.out 7).trans rfl; have hcz35_8 : wc.cell? ⟨gb119, 8, none⟩ = some (.int .i64 a0_8) := (blk_cell BK119.out 8).trans rfl; have hcz35_9 : wc.cell? ⟨gb119, 9, none⟩ = some (.int .i64 a0_9) := (blk_cell BK119.out 9).trans rfl; have hcz35_10 : wc.cell? ⟨gb119, 10, none⟩ = some (.int .i64 a0_10) := (blk_cell BK119.out 10).trans rfl; have hcz35_11 : wc.cell? ⟨gb119, 11, none⟩ = some (.int .i64 a0_11) := (blk_cell BK119.out 11).trans rfl; have hcz35_12 : wc.cell? ⟨gb119, 12, none⟩ = some (.string a0_12) := (blk_cell BK119.out 12).trans rfl; have hcz35_13 : wc.cell? ⟨gb119, 13, none⟩ = some (.string a0_13) := (blk_cell BK119.out 13).trans rfl; have hcz35_14 : wc.cell? ⟨gb119, 14, none⟩ = some (.int .i64 a0_14) := (blk_cell BK119.out 14).trans rfl; have hcz35_15 : wc.cell? ⟨gb119, 15, none⟩ = some (.slice A0_15 l0_15.length c0_15) := (blk_cell BK119.out 15).trans rfl; have hfz35_0 := blk_frozen BK119.out 0; have hfz35_1 := blk_frozen BK119.out 1; have hfz35_2 := blk_frozen BK119.out 2; have hfz35_3 := blk_frozen BK119.out 3; have hfz35_4 := blk_frozen BK119.out 4; have hfz35_5 := blk_frozen BK119.out 5; have hfz35_6 := blk_frozen BK119.out 6; have hfz35_7 := blk_frozen BK119.out 7; have hfz35_8 := blk_frozen BK119.out 8; have hfz35_9 := blk_frozen BK119.out 9; have hfz35_10 := blk_frozen BK119.out 10; have hfz35_11 := blk_frozen BK119.out 11; have hfz35_12 := blk_frozen BK119.out 12; have hfz35_13 := blk_frozen BK119.out 13; have hfz35_14 := blk_frozen BK119.out 14; have hfz35_15 := blk_frozen BK119.out 15; go_wp2_with (first | (go_at_call 76; (with_reducible refine (tree_Check.calls a0_5 a0_6 a0_7 a0_8 a0_9 a0_10 a0_11 a0_12 a0_13 t125 _ A24.out).mono ?_); rintro e w36 ⟨rfl, hb⟩; have n0_ := Aside0.mk (blk_below (g := gb119) (o := .cells #[.int .i64 a0_0, .int .i64 a0_1, .int .i64 a0_2, .int .i64 a0_3, .string a0_4, .int .i64 a0_5, .int .i64 a0_6, .int .i64 a0_7, .int .i64 a0_8, .int .i64 a0_9, .int .i64 a0_10, .int .i64 a0_11, .string a0_12, .string a0_13, .int .i64 a0_14, .slice A0_15 l0_15.length c0_15] 31 (0, 0)) (by (with_reducible repeat (first | refine blk_drewN ?_ _ | refine blk_drew ?_ | refine blk_alloc ?_ _)); exact BK119.out) hb); have n1_ := Aside0.mk (below_step (by repeat (first | (with_reducible first | exact HB.out | apply below_alloc | apply pw_below_drewN | apply below_drew1 | refine below_set ?_ GE119.out) | exact HB.out)) hb); clear BK119; clear HB; have BK119 := n0_; have HB := n1_; clear n0_ n1_; have hcz37_0 : w36.cell? ⟨gb119, 0, none⟩ = some (.int .i64 a0_0) := (blk_cell BK119.out 0).trans rfl; have hcz37_1 : w36.cell? ⟨gb119, 1, none⟩ = some (.int .i64 a0_1) := (blk_cell BK119.out 1).trans rfl; have hcz37_2 : w36.cell? ⟨gb119, 2, none⟩ = some (.int .i64 a0_2) := (blk_cell BK119.out 2).trans rfl; have hcz37_3 : w36.cell? ⟨gb119, 3, none⟩ = some (.int .i64 a0_3) := (blk_cell BK119.out 3).trans rfl; have hcz37_4 : w36.cell? ⟨gb119, 4, none⟩ = some (.string a0_4) := (blk_cell BK119.out 4).trans rfl; have hcz37_5 : w36.cell? ⟨gb119, 5, none⟩ = some (.int .i64 a0_5) := (blk_cell BK119.out 5).trans rfl; have hcz37_6 : w36.cell? ⟨gb119, 6, none⟩ = some (.int .i64 a0_6) := (blk_cell BK119.out 6).trans rfl; have hcz37_7 : w36.cell? ⟨gb119, 7, none⟩ = some (.int .i64 a0_7) := (blk_cell BK119.out 7).trans rfl; have hcz37_8 : w36.cell? ⟨gb119, 8, none⟩ = some (.int .i64 a0_8) := (blk_cell BK119.out 8).trans rfl; have hcz37_9 : w36.cell? ⟨gb119, 9, none⟩ = some (.int .i64 a0_9) := (blk_cell BK119.out 9).trans rfl; have hcz37_10 : w36.cell? ⟨gb119, 10, none⟩ = some (.int .i64 a0_10) := (blk_cell BK119.out 10).trans rfl; have hcz37_11 : w36.cell? ⟨gb119, 11, none⟩ = some (.int .i64 a0_11) := (blk_cell BK119.out 11).trans rfl; have hcz37_12 : w36.cell? ⟨gb119, 12, none⟩ = some (.string a0_12) := (blk_cell BK119.out 12).trans rfl; have hcz37_13 : w36.cell? ⟨gb119, 13, none⟩ = some (.string a0_13) := (blk_cell BK119.out 13).trans rfl; have hcz37_14 : w36.cell? ⟨gb119, 14, none⟩ = some (.int .i64 a0_14) := (blk_cell BK119.out 14).trans rfl; have hcz37_15 : w36.cell? ⟨gb119, 15, none⟩ = some (.slice A0_15 l0_15.length c0_15) := (blk_cell BK119.out 15).trans rfl; have hfz37_0 := blk_frozen BK119.out 0; have hfz37_1 := blk_frozen BK119.out 1; have hfz37_2 := blk_frozen BK119.out 2; have hfz37_3 := blk_frozen BK119.out 3; have hfz37_4 := blk_frozen BK119.out 4; have hfz37_5 := blk_frozen BK119.out 5; have hfz37_6 := blk_frozen BK119.out 6; have hfz37_7 := blk_frozen BK119.out 7; have hfz37_8 := blk_frozen BK119.out 8; have hfz37_9 := blk_frozen BK119.out 9; have hfz37_10 := blk_frozen BK119.out 10; have hfz37_11 := blk_frozen BK119.out 11; have hfz37_12 := blk_frozen BK119.out 12; have hfz37_13 := blk_frozen BK119.out 13; have hfz37_14 := blk_frozen BK119.out 14; have hfz37_15 := blk_frozen BK119.out 15))
                go_ret
                exact ⟨ew_, by repeat (first | (with_reducible first | exact HB.out | apply below_alloc | apply pw_below_drewN | apply below_drew1 | refine below_set ?_ GE119.out) | exact HB.out)⟩
            · rw [if_neg c26] at H; have c26b0 : (a0_7 == a0_1) = false := beq_eq_false_iff_ne.mpr c26; have c26b1 : (a0_7 != a0_1) = true := bne_iff_ne.mpr c26; obtain rfl := Option.some.inj H; have hcz38_0 : wc.cell? ⟨gb119, 0, none⟩ = some (.int .i64 a0_0) := (blk_cell BK119.out 0).trans rfl; have hcz38_1 : wc.cell? ⟨gb119, 1, none⟩ = some (.int .i64 a0_1) := (blk_cell BK119.out 1).trans rfl; have hcz38_2 : wc.cell? ⟨gb119, 2, none⟩ = some (.int .i64 a0_2) := (blk_cell BK119.out 2).trans rfl; have hcz38_3 : wc.cell? ⟨gb119, 3, none⟩ = some (.int .i64 a0_3) := (blk_cell BK119.out 3).trans rfl; have hcz38_4 : wc.cell? ⟨gb119, 4, none⟩ = some (.string a0_4) := (blk_cell BK119.out 4).trans rfl; have hcz38_5 : wc.cell? ⟨gb119, 5, none⟩ = some (.int .i64 a0_5) := (blk_cell BK119.out 5).trans rfl; have hcz38_6 : wc.cell? ⟨gb119, 6, none⟩ = some (.int .i64 a0_6) := (blk_cell BK119.out 6).trans rfl; have hcz38_7 : wc.cell? ⟨gb119, 7, none⟩ = some (.int .i64 a0_7) := (blk_cell BK119.out 7).trans rfl; have hcz38_8 : wc.cell? ⟨gb119, 8, none⟩ = some (.int .i64 a0_8) := (blk_cell BK119.out 8).trans rfl; have hcz38_9 : wc.cell? ⟨gb119, 9, none⟩ = some (.int .i64 a0_9) := (blk_cell BK119.out 9).trans rfl; have hcz38_10 : wc.cell? ⟨gb119, 10, none⟩ = some (.int .i64 a0_10) := (blk_cell BK119.out 10).trans rfl; have hcz38_11 : wc.cell? ⟨gb119, 11, none⟩ = some (.int .i64 a0_11) := (blk_cell BK119.out 11).trans rfl; have hcz38_12 : wc.cell? ⟨gb119, 12, none⟩ = some (.string a0_12) := (blk_cell BK119.out 12).trans rfl; have hcz38_13 : wc.cell? ⟨gb119, 13, none⟩ = some (.string a0_13) := (blk_cell BK119.out 13).trans rfl; have hcz38_14 : wc.cell? ⟨gb119, 14, none⟩ = some (.int .i64 a0_14) := (blk_cell BK119.out 14).trans rfl; have hcz38_15 : wc.cell? ⟨gb119, 15, none⟩ = some (.slice A0_15 l0_15.length c0_15) := (blk_cell BK119.out 15).trans rfl; have hfz38_0 := blk_frozen BK119.out 0; have hfz38_1 := blk_frozen BK119.out 1; have hfz38_2 := blk_frozen BK119.out 2; have hfz38_3 := blk_frozen BK119.out 3; have hfz38_4 := blk_frozen BK119.out 4; have hfz38_5 := blk_frozen BK119.out 5; have hfz38_6 := blk_frozen BK119.out 6; have hfz38_7 := blk_frozen BK119.out 7; have hfz38_8 := blk_frozen BK119.out 8; have hfz38_9 := blk_frozen BK119.out 9; have hfz38_10 := blk_frozen BK119.out 10; have hfz38_11 := blk_frozen BK119.out 11; have hfz38_12 := blk_frozen BK119.out 12; have hfz38_13 := blk_frozen BK119.out 13; have hfz38_14 := blk_frozen BK119.out 14; have hfz38_15 := blk_frozen BK119.out 15; go_wp2_with (first | (go_at_call 76; (with_reducible refine (tree_Check.calls a0_5 a0_6 a0_7 a0_8 a0_9 a0_10 a0_11 a0_12 a0_13 t125 _ A24.out).mono ?_); rintro e w39 ⟨rfl, hb⟩; have n0_ := Aside0.mk (blk_below (g := gb119) (o := .cells #[.int .i64 a0_0, .int .i64 a0_1, .int .i64 a0_2, .int .i64 a0_3, .string a0_4, .int .i64 a0_5, .int .i64 a0_6, .int .i64 a0_7, .int .i64 a0_8, .int .i64 a0_9, .int .i64 a0_10, .int .i64 a0_11, .string a0_12, .string a0_13, .int .i64 a0_14, .slice A0_15 l0_15.length c0_15] 31 (0, 0)) (by (with_reducible repeat (first | refine blk_drewN ?_ _ | refine blk_drew ?_ | refine blk_alloc ?_ _)); exact BK119.out) hb); have n1_ := Aside0.mk (below_step (by repeat (first | (with_reducible first | exact HB.out | apply below_alloc | apply pw_below_drewN | apply below_drew1 | refine below_set ?_ GE119.out) | exact HB.out)) hb); clear BK119; clear HB; have BK119 := n0_; have HB := n1_; clear n0_ n1_; have hcz40_0 : w39.cell? ⟨gb119, 0, none⟩ = some (.int .i64 a0_0) := (blk_cell BK119.out 0).trans rfl; have hcz40_1 : w39.cell? ⟨gb119, 1, none⟩ = some (.int .i64 a0_1) := (blk_cell BK119.out 1).trans rfl; have hcz40_2 : w39.cell? ⟨gb119, 2, none⟩ = some (.int .i64 a0_2) := (blk_cell BK119.out 2).trans rfl; have hcz40_3 : w39.cell? ⟨gb119, 3, none⟩ = some (.int .i64 a0_3) := (blk_cell BK119.out 3).trans rfl; have hcz40_4 : w39.cell? ⟨gb119, 4, none⟩ = some (.string a0_4) := (blk_cell BK119.out 4).trans rfl; have hcz40_5 : w39.cell? ⟨gb119, 5, none⟩ = some (.int .i64 a0_5) := (blk_cell BK119.out 5).trans rfl; have hcz40_6 : w39.cell? ⟨gb119, 6, none⟩ = some (.int .i64 a0_6) := (blk_cell BK119.out 6).trans rfl; have hcz40_7 : w39.cell? ⟨gb119, 7, none⟩ = some (.int .i64 a0_7) := (blk_cell BK119.out 7).trans rfl; have hcz40_8 : w39.cell? ⟨gb119, 8, none⟩ = some (.int .i64 a0_8) := (blk_cell BK119.out 8).trans rfl; have hcz40_9 : w39.cell? ⟨gb119, 9, none⟩ = some (.int .i64 a0_9) := (blk_cell BK119.out 9).trans rfl; have hcz40_10 : w39.cell? ⟨gb119, 10, none⟩ = some (.int .i64 a0_10) := (blk_cell BK119.out 10).trans rfl; have hcz40_11 : w39.cell? ⟨gb119, 11, none⟩ = some (.int .i64 a0_11) := (blk_cell BK119.out 11).trans rfl; have hcz40_12 : w39.cell? ⟨gb119, 12, none⟩ = some (.string a0_12) := (blk_cell BK119.out 12).trans rfl; have hcz40_13 : w39.cell? ⟨gb119, 13, none⟩ = some (.string a0_13) := (blk_cell BK119.out 13).trans rfl; have hcz40_14 : w39.cell? ⟨gb119, 14, none⟩ = some (.int .i64 a0_14) := (blk_cell BK119.out 14).trans rfl; have hcz40_15 : w39.cell? ⟨gb119, 15, none⟩ = some (.slice A0_15 l0_15.length c0_15) := (blk_cell BK119.out 15).trans rfl; have hfz40_0 := blk_frozen BK119.out 0; have hfz40_1 := blk_frozen BK119.out 1; have hfz40_2 := blk_frozen BK119.out 2; have hfz40_3 := blk_frozen BK119.out 3; have hfz40_4 := blk_frozen BK119.out 4; have hfz40_5 := blk_frozen BK119.out 5; have hfz40_6 := blk_frozen BK119.out 6; have hfz40_7 := blk_frozen BK119.out 7; have hfz40_8 := blk_frozen BK119.out 8; have hfz40_9 := blk_frozen BK119.out 9; have hfz40_10 := blk_frozen BK119.out 10; have hfz40_11 := blk_frozen BK119.out 11; have hfz40_12 := blk_frozen BK119.out 12; have hfz40_13 := blk_frozen BK119.out 13; have hfz40_14 := blk_frozen BK119.out 14; have hfz40_15 := blk_frozen BK119.out 15))
              go_ret
              exact ⟨ew_, by repeat (first | (with_reducible first | exact HB.out | apply below_alloc | apply pw_below_drewN | apply below_drew1 | refine below_set ?_ GE119.out) | exact HB.out)⟩
          · rw [if_neg c25] at H; have c25b0 : (t125 == 0) = false := beq_eq_false_iff_ne.mpr c25; have c25b1 : (t125 != 0) = true := bne_iff_ne.mpr c25; obtain rfl := Option.some.inj H; have hcz41_0 : wc.cell? ⟨gb119, 0, none⟩ = some (.int .i64 a0_0) := (blk_cell BK119.out 0).trans rfl; have hcz41_1 : wc.cell? ⟨gb119, 1, none⟩ = some (.int .i64 a0_1) := (blk_cell BK119.out 1).trans rfl; have hcz41_2 : wc.cell? ⟨gb119, 2, none⟩ = some (.int .i64 a0_2) := (blk_cell BK119.out 2).trans rfl; have hcz41_3 : wc.cell? ⟨gb119, 3, none⟩ = some (.int .i64 a0_3) := (blk_cell BK119.out 3).trans rfl; have hcz41_4 : wc.cell? ⟨gb119, 4, none⟩ = some (.string a0_4) := (blk_cell BK119.out 4).trans rfl; have hcz41_5 : wc.cell? ⟨gb119, 5, none⟩ = some (.int .i64 a0_5) := (blk_cell BK119.out 5).trans rfl; have hcz41_6 : wc.cell? ⟨gb119, 6, none⟩ = some (.int .i64 a0_6) := (blk_cell BK119.out 6).trans rfl; have hcz41_7 : wc.cell? ⟨gb119, 7, none⟩ = some (.int .i64 a0_7) := (blk_cell BK119.out 7).trans rfl; have hcz41_8 : wc.cell? ⟨gb119, 8, none⟩ = some (.int .i64 a0_8) := (blk_cell BK119.out 8).trans rfl; have hcz41_9 : wc.cell? ⟨gb119, 9, none⟩ = some (.int .i64 a0_9) := (blk_cell BK119.out 9).trans rfl; have hcz41_10 : wc.cell? ⟨gb119, 10, none⟩ = some (.int .i64 a0_10) := (blk_cell BK119.out 10).trans rfl; have hcz41_11 : wc.cell? ⟨gb119, 11, none⟩ = some (.int .i64 a0_11) := (blk_cell BK119.out 11).trans rfl; have hcz41_12 : wc.cell? ⟨gb119, 12, none⟩ = some (.string a0_12) := (blk_cell BK119.out 12).trans rfl; have hcz41_13 : wc.cell? ⟨gb119, 13, none⟩ = some (.string a0_13) := (blk_cell BK119.out 13).trans rfl; have hcz41_14 : wc.cell? ⟨gb119, 14, none⟩ = some (.int .i64 a0_14) := (blk_cell BK119.out 14).trans rfl; have hcz41_15 : wc.cell? ⟨gb119, 15, none⟩ = some (.slice A0_15 l0_15.length c0_15) := (blk_cell BK119.out 15).trans rfl; have hfz41_0 := blk_frozen BK119.out 0; have hfz41_1 := blk_frozen BK119.out 1; have hfz41_2 := blk_frozen BK119.out 2; have hfz41_3 := blk_frozen BK119.out 3; have hfz41_4 := blk_frozen BK119.out 4; have hfz41_5 := blk_frozen BK119.out 5; have hfz41_6 := blk_frozen BK119.out 6; have hfz41_7 := blk_frozen BK119.out 7; have hfz41_8 := blk_frozen BK119.out 8; have hfz41_9 := blk_frozen BK119.out 9; have hfz41_10 := blk_frozen BK119.out 10; have hfz41_11 := blk_frozen BK119.out 11; have hfz41_12 := blk_frozen BK119.out 12; have hfz41_13 := blk_frozen BK119.out 13; have hfz41_14 := blk_frozen BK119.out 14; have hfz41_15 := blk_frozen BK119.out 15; go_wp2_with (first | (go_at_call 76; (with_reducible refine (tree_Check.calls a0_5 a0_6 a0_7 a0_8 a0_9 a0_10 a0_11 a0_12 a0_13 t125 _ A24.out).mono ?_); rintro e w42 ⟨rfl, hb⟩; have n0_ := Aside0.mk (blk_below (g := gb119) (o := .cells #[.int .i64 a0_0, .int .i64 a0_1, .int .i64 a0_2, .int .i64 a0_3, .string a0_4, .int .i64 a0_5, .int .i64 a0_6, .int .i64 a0_7, .int .i64 a0_8, .int .i64 a0_9, .int .i64 a0_10, .int .i64 a0_11, .string a0_12, .string a0_13, .int .i64 a0_14, .slice A0_15 l0_15.length c0_15] 31 (0, 0)) (by (with_reducible repeat (first | refine blk_drewN ?_ _ | refine blk_drew ?_ | refine blk_alloc ?_ _)); exact BK119.out) hb); have n1_ := Aside0.mk (below_step (by repeat (first | (with_reducible first | exact HB.out | apply below_alloc | apply pw_below_drewN | apply below_drew1 | refine below_set ?_ GE119.out) | exact HB.out)) hb); clear BK119; clear HB; have BK119 := n0_; have HB := n1_; clear n0_ n1_))
            go_ret
            exact ⟨ew_, by repeat (first | (with_reducible first | exact HB.out | apply below_alloc | apply pw_below_drewN | apply below_drew1 | refine below_set ?_ GE119.out) | exact HB.out)⟩
        · replace c23 := Bool.eq_false_iff.mpr c23; subst c23; have H1 : (some 1) = some r := by rw [if_neg (show ¬ (false = true) by decide)] at H; exact H
          clear H; have H := H1; clear H1; obtain rfl := Option.some.inj H; have hcz43_0 : wc.cell? ⟨gb119, 0, none⟩ = some (.int .i64 a0_0) := (blk_cell BK119.out 0).trans rfl; have hcz43_1 : wc.cell? ⟨gb119, 1, none⟩ = some (.int .i64 a0_1) := (blk_cell BK119.out 1).trans rfl; have hcz43_2 : wc.cell? ⟨gb119, 2, none⟩ = some (.int .i64 a0_2) := (blk_cell BK119.out 2).trans rfl; have hcz43_3 : wc.cell? ⟨gb119, 3, none⟩ = some (.int .i64 a0_3) := (blk_cell BK119.out 3).trans rfl; have hcz43_4 : wc.cell? ⟨gb119, 4, none⟩ = some (.string a0_4) := (blk_cell BK119.out 4).trans rfl; have hcz43_5 : wc.cell? ⟨gb119, 5, none⟩ = some (.int .i64 a0_5) := (blk_cell BK119.out 5).trans rfl; have hcz43_6 : wc.cell? ⟨gb119, 6, none⟩ = some (.int .i64 a0_6) := (blk_cell BK119.out 6).trans rfl; have hcz43_7 : wc.cell? ⟨gb119, 7, none⟩ = some (.int .i64 a0_7) := (blk_cell BK119.out 7).trans rfl; have hcz43_8 : wc.cell? ⟨gb119, 8, none⟩ = some (.int .i64 a0_8) := (blk_cell BK119.out 8).trans rfl; have hcz43_9 : wc.cell? ⟨gb119, 9, none⟩ = some (.int .i64 a0_9) := (blk_cell BK119.out 9).trans rfl; have hcz43_10 : wc.cell? ⟨gb119, 10, none⟩ = some (.int .i64 a0_10) := (blk_cell BK119.out 10).trans rfl; have hcz43_11 : wc.cell? ⟨gb119, 11, none⟩ = some (.int .i64 a0_11) := (blk_cell BK119.out 11).trans rfl; have hcz43_12 : wc.cell? ⟨gb119, 12, none⟩ = some (.string a0_12) := (blk_cell BK119.out 12).trans rfl; have hcz43_13 : wc.cell? ⟨gb119, 13, none⟩ = some (.string a0_13) := (blk_cell BK119.out 13).trans rfl; have hcz43_14 : wc.cell? ⟨gb119, 14, none⟩ = some (.int .i64 a0_14) := (blk_cell BK119.out 14).trans rfl; have hcz43_15 : wc.cell? ⟨gb119, 15, none⟩ = some (.slice A0_15 l0_15.length c0_15) := (blk_cell BK119.out 15).trans rfl; have hfz43_0 := blk_frozen BK119.out 0; have hfz43_1 := blk_frozen BK119.out 1; have hfz43_2 := blk_frozen BK119.out 2; have hfz43_3 := blk_frozen BK119.out 3; have hfz43_4 := blk_frozen BK119.out 4; have hfz43_5 := blk_frozen BK119.out 5; have hfz43_6 := blk_frozen BK119.out 6; have hfz43_7 := blk_frozen BK119.out 7; have hfz43_8 := blk_frozen BK119.out 8; have hfz43_9 := blk_frozen BK119.out 9; have hfz43_10 := blk_frozen BK119.out 10; have hfz43_11 := blk_frozen BK119.out 11; have hfz43_12 := blk_frozen BK119.out 12; have hfz43_13 := blk_frozen BK119.out 13; have hfz43_14 := blk_frozen BK119.out 14; have hfz43_15 := blk_frozen BK119.out 15; go_wp2; go_ret
          exact ⟨ew_, by repeat (first | (with_reducible first | exact HB.out | apply below_alloc | apply pw_below_drewN | apply below_drew1 | refine below_set ?_ GE119.out) | exact HB.out)⟩
      · rw [if_neg c22] at H; have c22b0 : (a0_0 == 1) = false := beq_eq_false_iff_ne.mpr c22; have c22b1 : (a0_0 != 1) = true := bne_iff_ne.mpr c22; have HC44 := Aside0.mk H; clear H; have hcz45_0 : wc.cell? ⟨gb119, 0, none⟩ = some (.int .i64 a0_0) := (blk_cell BK119.out 0).trans rfl; have hcz45_1 : wc.cell? ⟨gb119, 1, none⟩ = some (.int .i64 a0_1) := (blk_cell BK119.out 1).trans rfl; have hcz45_2 : wc.cell? ⟨gb119, 2, none⟩ = some (.int .i64 a0_2) := (blk_cell BK119.out 2).trans rfl; have hcz45_3 : wc.cell? ⟨gb119, 3, none⟩ = some (.int .i64 a0_3) := (blk_cell BK119.out 3).trans rfl; have hcz45_4 : wc.cell? ⟨gb119, 4, none⟩ = some (.string a0_4) := (blk_cell BK119.out 4).trans rfl; have hcz45_5 : wc.cell? ⟨gb119, 5, none⟩ = some (.int .i64 a0_5) := (blk_cell BK119.out 5).trans rfl; have hcz45_6 : wc.cell? ⟨gb119, 6, none⟩ = some (.int .i64 a0_6) := (blk_cell BK119.out 6).trans rfl; have hcz45_7 : wc.cell? ⟨gb119, 7, none⟩ = some (.int .i64 a0_7) := (blk_cell BK119.out 7).trans rfl; have hcz45_8 : wc.cell? ⟨gb119, 8, none⟩ = some (.int .i64 a0_8) := (blk_cell BK119.out 8).trans rfl; have hcz45_9 : wc.cell? ⟨gb119, 9, none⟩ = some (.int .i64 a0_9) := (blk_cell BK119.out 9).trans rfl; have hcz45_10 : wc.cell? ⟨gb119, 10, none⟩ = some (.int .i64 a0_10) := (blk_cell BK119.out 10).trans rfl; have hcz45_11 : wc.cell? ⟨gb119, 11, none⟩ = some (.int .i64 a0_11) := (blk_cell BK119.out 11).trans rfl; have hcz45_12 : wc.cell? ⟨gb119, 12, none⟩ = some (.string a0_12) := (blk_cell BK119.out 12).trans rfl; have hcz45_13 : wc.cell? ⟨gb119, 13, none⟩ = some (.string a0_13) := (blk_cell BK119.out 13).trans rfl; have hcz45_14 : wc.cell? ⟨gb119, 14, none⟩ = some (.int .i64 a0_14) := (blk_cell BK119.out 14).trans rfl; have hcz45_15 : wc.cell? ⟨gb119, 15, none⟩ = some (.slice A0_15 l0_15.length c0_15) := (blk_cell BK119.out 15).trans rfl; have hfz45_0 := blk_frozen BK119.out 0; have hfz45_1 := blk_frozen BK119.out 1; have hfz45_2 := blk_frozen BK119.out 2; have hfz45_3 := blk_frozen BK119.out 3; have hfz45_4 := blk_frozen BK119.out 4; have hfz45_5 := blk_frozen BK119.out 5; have hfz45_6 := blk_frozen BK119.out 6; have hfz45_7 := blk_frozen BK119.out 7; have hfz45_8 := blk_frozen BK119.out 8; have hfz45_9 := blk_frozen BK119.out 9; have hfz45_10 := blk_frozen BK119.out 10; have hfz45_11 := blk_frozen BK119.out 11; have hfz45_12 := blk_frozen BK119.out 12; have hfz45_13 := blk_frozen BK119.out 13; have hfz45_14 := blk_frozen BK119.out 14; have hfz45_15 := blk_frozen BK119.out 15; go_upto_if 57 with (fail)
        go_cut [57] (fun v57 wc => ∃ (kq : Nat) (x57_43 : Bool), v57 = .bool x57_43 ∧ Aside0 (wire_Check.j1 kq x3_1 a0_0 x57_43 a0_0 a0_1 a0_2 a0_3 a0_4 a0_5 a0_6 a0_7 a0_8 a0_9 a0_10 a0_11 a0_12 a0_13 a0_14 l0_15 = some r) ∧ Aside0 (kq ≤ kj1) ∧ Aside0 (wc.heap[gb119]? = some (.cells #[.int .i64 a0_0, .int .i64 a0_1, .int .i64 a0_2, .int .i64 a0_3, .string a0_4, .int .i64 a0_5, .int .i64 a0_6, .int .i64 a0_7, .int .i64 a0_8, .int .i64 a0_9, .int .i64 a0_10, .int .i64 a0_11, .string a0_12, .string a0_13, .int .i64 a0_14, (.slice A0_15 l0_15.length c0_15)] 31 (0, 0))) ∧ Aside0 (Below w.heap.size w wc))
        case first =>
          have H := HC44.out; clear HC44; by_cases c46 : a0_0 = 2
          · rw [if_pos c46] at H; have c46b0 : (a0_0 == 2) = true := beq_iff_eq.mpr c46; have c46b1 : (a0_0 != 2) = false := bne_eq_false_iff_eq.mpr c46; clear c46
            (first | rw [c46b0] | (simp only [i64_w, i32_w]; rw [c46b0]) | skip)
            have H' := Aside0.mk H; clear H; go_wp2; go_meet
            case rel => exact ⟨_, ((a0_0 == 2)), rz_, H', ⟨by have := HJ1.out; first | omega | exact Nat.le_refl _⟩, ⟨by (with_reducible repeat (first | refine blk_drewN ?_ _ | refine blk_drew ?_ | refine blk_alloc ?_ _)); exact BK119.out⟩, ⟨by repeat (first | (with_reducible first | exact HB.out | apply below_alloc | apply pw_below_drewN | apply below_drew1 | refine below_set ?_ GE119.out) | exact HB.out)⟩⟩
          · rw [if_neg c46] at H; have c46b0 : (a0_0 == 2) = false := beq_eq_false_iff_ne.mpr c46; have c46b1 : (a0_0 != 2) = true := bne_iff_ne.mpr c46
            (first | rw [c46b0] | (simp only [i64_w, i32_w]; rw [c46b0]) | skip)
            have H' := Aside0.mk H; clear H; go_wp2; go_meet
            case rel => exact ⟨_, ((a0_0 == 3)), rz_, H', ⟨by have := HJ1.out; first | omega | exact Nat.le_refl _⟩, ⟨by (with_reducible repeat (first | refine blk_drewN ?_ _ | refine blk_drew ?_ | refine blk_alloc ?_ _)); exact BK119.out⟩, ⟨by repeat (first | (with_reducible first | exact HB.out | apply below_alloc | apply pw_below_drewN | apply below_drew1 | refine below_set ?_ GE119.out) | exact HB.out)⟩⟩
        case rest =>
          clear HC44; obtain ⟨kq, x57_43, rfl, HA, HJ43, BK119, HB⟩ := hcut; cases kq with
          | zero => exact absurd HA.out (by simp [wire_Check.j1])
          | succ kj43 =>
            have H := HA.out; clear HA; simp only [wire_Check.j1] at H; by_cases c47 : x57_43 = true
            · subst c47; have H1 : (if x3_1 = true then (if (a0_5 == 0 && ((a0_6 == 0 && (a0_7 == 0)) && ((a0_8 == 0 && (a0_9 == 0)) && ((a0_10 == 0 && (a0_11 == 0)) && (a0_12.toList == ([] : List UInt8) && (a0_13.toList == ([] : List UInt8))))))) = true then ((wire_member.f a0_14).bind fun t126 => (if t126 = true then ((wire_wraps.f kj43 l0_15).bind fun t127 => (if t127 = true then (some 0) else (some 1))) else (some 1))) else (some 1)) else (some 1)) = some r := by rw [if_pos rfl] at H; exact H
              clear H; have H := H1; clear H1; by_cases c48 : x3_1 = true
              · subst c48; have H1 : (if (a0_5 == 0 && ((a0_6 == 0 && (a0_7 == 0)) && ((a0_8 == 0 && (a0_9 == 0)) && ((a0_10 == 0 && (a0_11 == 0)) && (a0_12.toList == ([] : List UInt8) && (a0_13.toList == ([] : List UInt8))))))) = true then ((wire_member.f a0_14).bind fun t126 => (if t126 = true then ((wire_wraps.f kj43 l0_15).bind fun t127 => (if t127 = true then (some 0) else (some 1))) else (some 1))) else (some 1)) = some r := by rw [if_pos rfl] at H; exact H
                clear H; have H := H1; clear H1; by_cases c49 : (a0_5 == 0 && ((a0_6 == 0 && (a0_7 == 0)) && ((a0_8 == 0 && (a0_9 == 0)) && ((a0_10 == 0 && (a0_11 == 0)) && (a0_12.toList == ([] : List UInt8) && (a0_13.toList == ([] : List UInt8))))))) = true
                · rw [if_pos c49] at H; have c49b0 : (a0_5 == 0 && ((a0_6 == 0 && (a0_7 == 0)) && ((a0_8 == 0 && (a0_9 == 0)) && ((a0_10 == 0 && (a0_11 == 0)) && (a0_12.toList == ([] : List UInt8) && (a0_13.toList == ([] : List UInt8))))))) = true := c49; have c49e0 : (a0_5 == 0 && ((a0_6 == 0 && (a0_7 == 0)) && ((a0_8 == 0 && (a0_9 == 0)) && ((a0_10 == 0 && (a0_11 == 0)) && (a0_12.toList.isEmpty && (a0_13.toList.isEmpty)))))) = true := by simpa only [show ∀ l_ : List UInt8, (l_ == ([] : List UInt8)) = l_.isEmpty from fun l_ => by cases l_ <;> rfl] using c49b0
                  (try (have c49b1 : decide (a0_5 = 0 && ((a0_6 == 0 && (a0_7 == 0)) && ((a0_8 == 0 && (a0_9 == 0)) && ((a0_10 == 0 && (a0_11 == 0)) && (a0_12.toList == ([] : List UInt8) && (a0_13.toList == ([] : List UInt8))))))) = true := by simpa using c49))
                  (try (have c49b2 : (a0_5 == 0 && ((a0_6 == 0 && (a0_7 == 0)) && ((a0_8 == 0 && (a0_9 == 0)) && ((a0_10 == 0 && (a0_11 == 0)) && (a0_12.toList == ([] : List UInt8) && (a0_13.toList == ([] : List UInt8))))))) = true := by simpa using c49))
                  clear c49; replace H := Option.bind_eq_some_iff.mp H; obtain ⟨t126, A500, H⟩ := H; have A50 := Aside0.mk A500; clear A500; by_cases c51 : t126 = true
                  · subst c51; have H1 : ((wire_wraps.f kj43 l0_15).bind fun t127 => (if t127 = true then (some 0) else (some 1))) = some r := by rw [if_pos rfl] at H; exact H
                    clear H; have H := H1; clear H1; replace H := Option.bind_eq_some_iff.mp H; obtain ⟨t127, A520, H⟩ := H; have A52 := Aside0.mk A520; clear A520; by_cases c53 : t127 = true
                    · subst c53; have H1 : (some 0) = some r := by rw [if_pos rfl] at H; exact H
                      clear H; have H := H1; clear H1; obtain rfl := Option.some.inj H; have hcz54_0 : wc.cell? ⟨gb119, 0, none⟩ = some (.int .i64 a0_0) := (blk_cell BK119.out 0).trans rfl; have hcz54_1 : wc.cell? ⟨gb119, 1, none⟩ = some (.int .i64 a0_1) := (blk_cell BK119.out 1).trans rfl; have hcz54_2 : wc.cell? ⟨gb119, 2, none⟩ = some (.int .i64 a0_2) := (blk_cell BK119.out 2).trans rfl; have hcz54_3 : wc.cell? ⟨gb119, 3, none⟩ = some (.int .i64 a0_3) := (blk_cell BK119.out 3).trans rfl; have hcz54_4 : wc.cell? ⟨gb119, 4, none⟩ = some (.string a0_4) := (blk_cell BK119.out 4).trans rfl; have hcz54_5 : wc.cell? ⟨gb119, 5, none⟩ = some (.int .i64 a0_5) := (blk_cell BK119.out 5).trans rfl; have hcz54_6 : wc.cell? ⟨gb119, 6, none⟩ = some (.int .i64 a0_6) := (blk_cell BK119.out 6).trans rfl; have hcz54_7 : wc.cell? ⟨gb119, 7, none⟩ = some (.int .i64 a0_7) := (blk_cell BK119.out 7).trans rfl; have hcz54_8 : wc.cell? ⟨gb119, 8, none⟩ = some (.int .i64 a0_8) := (blk_cell BK119.out 8).trans rfl; have hcz54_9 : wc.cell? ⟨gb119, 9, none⟩ = some (.int .i64 a0_9) := (blk_cell BK119.out 9).trans rfl; have hcz54_10 : wc.cell? ⟨gb119, 10, none⟩ = some (.int .i64 a0_10) := (blk_cell BK119.out 10).trans rfl; have hcz54_11 : wc.cell? ⟨gb119, 11, none⟩ = some (.int .i64 a0_11) := (blk_cell BK119.out 11).trans rfl; have hcz54_12 : wc.cell? ⟨gb119, 12, none⟩ = some (.string a0_12) := (blk_cell BK119.out 12).trans rfl; have hcz54_13 : wc.cell? ⟨gb119, 13, none⟩ = some (.string a0_13) := (blk_cell BK119.out 13).trans rfl; have hcz54_14 : wc.cell? ⟨gb119, 14, none⟩ = some (.int .i64 a0_14) := (blk_cell BK119.out 14).trans rfl; have hcz54_15 : wc.cell? ⟨gb119, 15, none⟩ = some (.slice A0_15 l0_15.length c0_15) := (blk_cell BK119.out 15).trans rfl; have hfz54_0 := blk_frozen BK119.out 0; have hfz54_1 := blk_frozen BK119.out 1; have hfz54_2 := blk_frozen BK119.out 2; have hfz54_3 := blk_frozen BK119.out 3; have hfz54_4 := blk_frozen BK119.out 4; have hfz54_5 := blk_frozen BK119.out 5; have hfz54_6 := blk_frozen BK119.out 6; have hfz54_7 := blk_frozen BK119.out 7; have hfz54_8 := blk_frozen BK119.out 8; have hfz54_9 := blk_frozen BK119.out 9; have hfz54_10 := blk_frozen BK119.out 10; have hfz54_11 := blk_frozen BK119.out 11; have hfz54_12 := blk_frozen BK119.out 12; have hfz54_13 := blk_frozen BK119.out 13; have hfz54_14 := blk_frozen BK119.out 14; have hfz54_15 := blk_frozen BK119.out 15; go_wp2_with (first | (go_at_call 74; (with_reducible refine (wire_member.calls a0_14 true _ A50.out).mono ?_); rintro e w' ⟨rfl, ⟨nd, rfl⟩⟩) | (go_at_call 77; (with_reducible refine (wire_wraps.calls kj43 _ _ l0_15 true _ ?side1 ?side2 A52.out).mono ?_); (case side1 => repeat (first | exact (Kd.C_below HR0_15.out (by repeat (first | (with_reducible first | exact HB.out | apply below_alloc | apply pw_below_drewN | apply below_drew1 | refine below_set ?_ GE119.out) | exact HB.out))) | (with_reducible refine Kd.C_alloc ?_ _) | (with_reducible refine Kd.C_drewN ?_ _) | (with_reducible refine Kd.C_drew ?_))); (case side2 => exact HC0_15.out); rintro e w55 ⟨rfl, hb⟩; have n0_ := Aside0.mk (blk_below (g := gb119) (o := .cells #[.int .i64 a0_0, .int .i64 a0_1, .int .i64 a0_2, .int .i64 a0_3, .string a0_4, .int .i64 a0_5, .int .i64 a0_6, .int .i64 a0_7, .int .i64 a0_8, .int .i64 a0_9, .int .i64 a0_10, .int .i64 a0_11, .string a0_12, .string a0_13, .int .i64 a0_14, .slice A0_15 l0_15.length c0_15] 31 (0, 0)) (by (with_reducible repeat (first | refine blk_drewN ?_ _ | refine blk_drew ?_ | refine blk_alloc ?_ _)); exact BK119.out) hb); have n1_ := Aside0.mk (below_step (by repeat (first | (with_reducible first | exact HB.out | apply below_alloc | apply pw_below_drewN | apply below_drew1 | refine below_set ?_ GE119.out) | exact HB.out)) hb); clear BK119; clear HB; have BK119 := n0_; have HB := n1_; clear n0_ n1_))
                      go_ret
                      exact ⟨ew_, by repeat (first | (with_reducible first | exact HB.out | apply below_alloc | apply pw_below_drewN | apply below_drew1 | refine below_set ?_ GE119.out) | exact HB.out)⟩
                    · replace c53 := Bool.eq_false_iff.mpr c53; subst c53; have H1 : (some 1) = some r := by rw [if_neg (show ¬ (false = true) by decide)] at H; exact H
                      clear H; have H := H1; clear H1; obtain rfl := Option.some.inj H; have hcz56_0 : wc.cell? ⟨gb119, 0, none⟩ = some (.int .i64 a0_0) := (blk_cell BK119.out 0).trans rfl; have hcz56_1 : wc.cell? ⟨gb119, 1, none⟩ = some (.int .i64 a0_1) := (blk_cell BK119.out 1).trans rfl; have hcz56_2 : wc.cell? ⟨gb119, 2, none⟩ = some (.int .i64 a0_2) := (blk_cell BK119.out 2).trans rfl; have hcz56_3 : wc.cell? ⟨gb119, 3, none⟩ = some (.int .i64 a0_3) := (blk_cell BK119.out 3).trans rfl; have hcz56_4 : wc.cell? ⟨gb119, 4, none⟩ = some (.string a0_4) := (blk_cell BK119.out 4).trans rfl; have hcz56_5 : wc.cell? ⟨gb119, 5, none⟩ = some (.int .i64 a0_5) := (blk_cell BK119.out 5).trans rfl; have hcz56_6 : wc.cell? ⟨gb119, 6, none⟩ = some (.int .i64 a0_6) := (blk_cell BK119.out 6).trans rfl; have hcz56_7 : wc.cell? ⟨gb119, 7, none⟩ = some (.int .i64 a0_7) := (blk_cell BK119.out 7).trans rfl; have hcz56_8 : wc.cell? ⟨gb119, 8, none⟩ = some (.int .i64 a0_8) := (blk_cell BK119.out 8).trans rfl; have hcz56_9 : wc.cell? ⟨gb119, 9, none⟩ = some (.int .i64 a0_9) := (blk_cell BK119.out 9).trans rfl; have hcz56_10 : wc.cell? ⟨gb119, 10, none⟩ = some (.int .i64 a0_10) := (blk_cell BK119.out 10).trans rfl; have hcz56_11 : wc.cell? ⟨gb119, 11, none⟩ = some (.int .i64 a0_11) := (blk_cell BK119.out 11).trans rfl; have hcz56_12 : wc.cell? ⟨gb119, 12, none⟩ = some (.string a0_12) := (blk_cell BK119.out 12).trans rfl; have hcz56_13 : wc.cell? ⟨gb119, 13, none⟩ = some (.string a0_13) := (blk_cell BK119.out 13).trans rfl; have hcz56_14 : wc.cell? ⟨gb119, 14, none⟩ = some (.int .i64 a0_14) := (blk_cell BK119.out 14).trans rfl; have hcz56_15 : wc.cell? ⟨gb119, 15, none⟩ = some (.slice A0_15 l0_15.length c0_15) := (blk_cell BK119.out 15).trans rfl; have hfz56_0 := blk_frozen BK119.out 0; have hfz56_1 := blk_frozen BK119.out 1; have hfz56_2 := blk_frozen BK119.out 2; have hfz56_3 := blk_frozen BK119.out 3; have hfz56_4 := blk_frozen BK119.out 4; have hfz56_5 := blk_frozen BK119.out 5; have hfz56_6 := blk_frozen BK119.out 6; have hfz56_7 := blk_frozen BK119.out 7; have hfz56_8 := blk_frozen BK119.out 8; have hfz56_9 := blk_frozen BK119.out 9; have hfz56_10 := blk_frozen BK119.out 10; have hfz56_11 := blk_frozen BK119.out 11; have hfz56_12 := blk_frozen BK119.out 12; have hfz56_13 := blk_frozen BK119.out 13; have hfz56_14 := blk_frozen BK119.out 14; have hfz56_15 := blk_frozen BK119.out 15; go_wp2_with (first | (go_at_call 74; (with_reducible refine (wire_member.calls a0_14 true _ A50.out).mono ?_); rintro e w' ⟨rfl, ⟨nd, rfl⟩⟩) | (go_at_call 77; (with_reducible refine (wire_wraps.calls kj43 _ _ l0_15 false _ ?side1 ?side2 A52.out).mono ?_); (case side1 => repeat (first | exact (Kd.C_below HR0_15.out (by repeat (first | (with_reducible first | exact HB.out | apply below_alloc | apply pw_below_drewN | apply below_drew1 | refine below_set ?_ GE119.out) | exact HB.out))) | (with_reducible refine Kd.C_alloc ?_ _) | (with_reducible refine Kd.C_drewN ?_ _) | (with_reducible refine Kd.C_drew ?_))); (case side2 => exact HC0_15.out); rintro e w57 ⟨rfl, hb⟩; have n0_ := Aside0.mk (blk_below (g := gb119) (o := .cells #[.int .i64 a0_0, .int .i64 a0_1, .int .i64 a0_2, .int .i64 a0_3, .string a0_4, .int .i64 a0_5, .int .i64 a0_6, .int .i64 a0_7, .int .i64 a0_8, .int .i64 a0_9, .int .i64 a0_10, .int .i64 a0_11, .string a0_12, .string a0_13, .int .i64 a0_14, .slice A0_15 l0_15.length c0_15] 31 (0, 0)) (by (with_reducible repeat (first | refine blk_drewN ?_ _ | refine blk_drew ?_ | refine blk_alloc ?_ _)); exact BK119.out) hb); have n1_ := Aside0.mk (below_step (by repeat (first | (with_reducible first | exact HB.out | apply below_alloc | apply pw_below_drewN | apply below_drew1 | refine below_set ?_ GE119.out) | exact HB.out)) hb); clear BK119; clear HB; have BK119 := n0_; have HB := n1_; clear n0_ n1_))
                      go_ret
                      exact ⟨ew_, by repeat (first | (with_reducible first | exact HB.out | apply below_alloc | apply pw_below_drewN | apply below_drew1 | refine below_set ?_ GE119.out) | exact HB.out)⟩
                  · replace c51 := Bool.eq_false_iff.mpr c51; subst c51; have H1 : (some 1) = some r := by rw [if_neg (show ¬ (false = true) by decide)] at H; exact H
                    clear H; have H := H1; clear H1; obtain rfl := Option.some.inj H; have hcz58_0 : wc.cell? ⟨gb119, 0, none⟩ = some (.int .i64 a0_0) := (blk_cell BK119.out 0).trans rfl; have hcz58_1 : wc.cell? ⟨gb119, 1, none⟩ = some (.int .i64 a0_1) := (blk_cell BK119.out 1).trans rfl; have hcz58_2 : wc.cell? ⟨gb119, 2, none⟩ = some (.int .i64 a0_2) := (blk_cell BK119.out 2).trans rfl; have hcz58_3 : wc.cell? ⟨gb119, 3, none⟩ = some (.int .i64 a0_3) := (blk_cell BK119.out 3).trans rfl; have hcz58_4 : wc.cell? ⟨gb119, 4, none⟩ = some (.string a0_4) := (blk_cell BK119.out 4).trans rfl; have hcz58_5 : wc.cell? ⟨gb119, 5, none⟩ = some (.int .i64 a0_5) := (blk_cell BK119.out 5).trans rfl; have hcz58_6 : wc.cell? ⟨gb119, 6, none⟩ = some (.int .i64 a0_6) := (blk_cell BK119.out 6).trans rfl; have hcz58_7 : wc.cell? ⟨gb119, 7, none⟩ = some (.int .i64 a0_7) := (blk_cell BK119.out 7).trans rfl; have hcz58_8 : wc.cell? ⟨gb119, 8, none⟩ = some (.int .i64 a0_8) := (blk_cell BK119.out 8).trans rfl; have hcz58_9 : wc.cell? ⟨gb119, 9, none⟩ = some (.int .i64 a0_9) := (blk_cell BK119.out 9).trans rfl; have hcz58_10 : wc.cell? ⟨gb119, 10, none⟩ = some (.int .i64 a0_10) := (blk_cell BK119.out 10).trans rfl; have hcz58_11 : wc.cell? ⟨gb119, 11, none⟩ = some (.int .i64 a0_11) := (blk_cell BK119.out 11).trans rfl; have hcz58_12 : wc.cell? ⟨gb119, 12, none⟩ = some (.string a0_12) := (blk_cell BK119.out 12).trans rfl; have hcz58_13 : wc.cell? ⟨gb119, 13, none⟩ = some (.string a0_13) := (blk_cell BK119.out 13).trans rfl; have hcz58_14 : wc.cell? ⟨gb119, 14, none⟩ = some (.int .i64 a0_14) := (blk_cell BK119.out 14).trans rfl; have hcz58_15 : wc.cell? ⟨gb119, 15, none⟩ = some (.slice A0_15 l0_15.length c0_15) := (blk_cell BK119.out 15).trans rfl; have hfz58_0 := blk_frozen BK119.out 0; have hfz58_1 := blk_frozen BK119.out 1; have hfz58_2 := blk_frozen BK119.out 2; have hfz58_3 := blk_frozen BK119.out 3; have hfz58_4 := blk_frozen BK119.out 4; have hfz58_5 := blk_frozen BK119.out 5; have hfz58_6 := blk_frozen BK119.out 6; have hfz58_7 := blk_frozen BK119.out 7; have hfz58_8 := blk_frozen BK119.out 8; have hfz58_9 := blk_frozen BK119.out 9; have hfz58_10 := blk_frozen BK119.out 10; have hfz58_11 := blk_frozen BK119.out 11; have hfz58_12 := blk_frozen BK119.out 12; have hfz58_13 := blk_frozen BK119.out 13; have hfz58_14 := blk_frozen BK119.out 14; have hfz58_15 := blk_frozen BK119.out 15; go_wp2_with (first | (go_at_call 74; (with_reducible refine (wire_member.calls a0_14 false _ A50.out).mono ?_); rintro e w' ⟨rfl, ⟨nd, rfl⟩⟩))
                    go_ret
                    exact ⟨ew_, by repeat (first | (with_reducible first | exact HB.out | apply below_alloc | apply pw_below_drewN | apply below_drew1 | refine below_set ?_ GE119.out) | exact HB.out)⟩
                · rw [if_neg c49] at H; have c49b0 : (a0_5 == 0 && ((a0_6 == 0 && (a0_7 == 0)) && ((a0_8 == 0 && (a0_9 == 0)) && ((a0_10 == 0 && (a0_11 == 0)) && (a0_12.toList == ([] : List UInt8) && (a0_13.toList == ([] : List UInt8))))))) = false := by simpa using c49
                  have c49e0 : (a0_5 == 0 && ((a0_6 == 0 && (a0_7 == 0)) && ((a0_8 == 0 && (a0_9 == 0)) && ((a0_10 == 0 && (a0_11 == 0)) && (a0_12.toList.isEmpty && (a0_13.toList.isEmpty)))))) = false := by simpa only [show ∀ l_ : List UInt8, (l_ == ([] : List UInt8)) = l_.isEmpty from fun l_ => by cases l_ <;> rfl] using c49b0
                  (try (have c49b1 : decide (a0_5 = 0 && ((a0_6 == 0 && (a0_7 == 0)) && ((a0_8 == 0 && (a0_9 == 0)) && ((a0_10 == 0 && (a0_11 == 0)) && (a0_12.toList == ([] : List UInt8) && (a0_13.toList == ([] : List UInt8))))))) = false := by simpa using c49))
                  (try (have c49b2 : (a0_5 == 0 && ((a0_6 == 0 && (a0_7 == 0)) && ((a0_8 == 0 && (a0_9 == 0)) && ((a0_10 == 0 && (a0_11 == 0)) && (a0_12.toList == ([] : List UInt8) && (a0_13.toList == ([] : List UInt8))))))) = false := by simpa using c49))
                  (try (have c49b3 : ¬ (a0_5 = 0 && ((a0_6 == 0 && (a0_7 == 0)) && ((a0_8 == 0 && (a0_9 == 0)) && ((a0_10 == 0 && (a0_11 == 0)) && (a0_12.toList == ([] : List UInt8) && (a0_13.toList == ([] : List UInt8))))))) := by simpa using c49))
                  clear c49; obtain rfl := Option.some.inj H; have hcz59_0 : wc.cell? ⟨gb119, 0, none⟩ = some (.int .i64 a0_0) := (blk_cell BK119.out 0).trans rfl; have hcz59_1 : wc.cell? ⟨gb119, 1, none⟩ = some (.int .i64 a0_1) := (blk_cell BK119.out 1).trans rfl; have hcz59_2 : wc.cell? ⟨gb119, 2, none⟩ = some (.int .i64 a0_2) := (blk_cell BK119.out 2).trans rfl; have hcz59_3 : wc.cell? ⟨gb119, 3, none⟩ = some (.int .i64 a0_3) := (blk_cell BK119.out 3).trans rfl; have hcz59_4 : wc.cell? ⟨gb119, 4, none⟩ = some (.string a0_4) := (blk_cell BK119.out 4).trans rfl; have hcz59_5 : wc.cell? ⟨gb119, 5, none⟩ = some (.int .i64 a0_5) := (blk_cell BK119.out 5).trans rfl; have hcz59_6 : wc.cell? ⟨gb119, 6, none⟩ = some (.int .i64 a0_6) := (blk_cell BK119.out 6).trans rfl; have hcz59_7 : wc.cell? ⟨gb119, 7, none⟩ = some (.int .i64 a0_7) := (blk_cell BK119.out 7).trans rfl; have hcz59_8 : wc.cell? ⟨gb119, 8, none⟩ = some (.int .i64 a0_8) := (blk_cell BK119.out 8).trans rfl; have hcz59_9 : wc.cell? ⟨gb119, 9, none⟩ = some (.int .i64 a0_9) := (blk_cell BK119.out 9).trans rfl; have hcz59_10 : wc.cell? ⟨gb119, 10, none⟩ = some (.int .i64 a0_10) := (blk_cell BK119.out 10).trans rfl; have hcz59_11 : wc.cell? ⟨gb119, 11, none⟩ = some (.int .i64 a0_11) := (blk_cell BK119.out 11).trans rfl; have hcz59_12 : wc.cell? ⟨gb119, 12, none⟩ = some (.string a0_12) := (blk_cell BK119.out 12).trans rfl; have hcz59_13 : wc.cell? ⟨gb119, 13, none⟩ = some (.string a0_13) := (blk_cell BK119.out 13).trans rfl; have hcz59_14 : wc.cell? ⟨gb119, 14, none⟩ = some (.int .i64 a0_14) := (blk_cell BK119.out 14).trans rfl; have hcz59_15 : wc.cell? ⟨gb119, 15, none⟩ = some (.slice A0_15 l0_15.length c0_15) := (blk_cell BK119.out 15).trans rfl; have hfz59_0 := blk_frozen BK119.out 0; have hfz59_1 := blk_frozen BK119.out 1; have hfz59_2 := blk_frozen BK119.out 2; have hfz59_3 := blk_frozen BK119.out 3; have hfz59_4 := blk_frozen BK119.out 4; have hfz59_5 := blk_frozen BK119.out 5; have hfz59_6 := blk_frozen BK119.out 6; have hfz59_7 := blk_frozen BK119.out 7; have hfz59_8 := blk_frozen BK119.out 8; have hfz59_9 := blk_frozen BK119.out 9; have hfz59_10 := blk_frozen BK119.out 10; have hfz59_11 := blk_frozen BK119.out 11; have hfz59_12 := blk_frozen BK119.out 12; have hfz59_13 := blk_frozen BK119.out 13; have hfz59_14 := blk_frozen BK119.out 14; have hfz59_15 := blk_frozen BK119.out 15; go_wp2; go_ret
                  exact ⟨ew_, by repeat (first | (with_reducible first | exact HB.out | apply below_alloc | apply pw_below_drewN | apply below_drew1 | refine below_set ?_ GE119.out) | exact HB.out)⟩
              · replace c48 := Bool.eq_false_iff.mpr c48; subst c48; have H1 : (some 1) = some r := by rw [if_neg (show ¬ (false = true) by decide)] at H; exact H
                clear H; have H := H1; clear H1; obtain rfl := Option.some.inj H; go_wp2; go_ret
                exact ⟨ew_, by repeat (first | (with_reducible first | exact HB.out | apply below_alloc | apply pw_below_drewN | apply below_drew1 | refine below_set ?_ GE119.out) | exact HB.out)⟩
            · replace c47 := Bool.eq_false_iff.mpr c47; subst c47; have H1 : (if a0_0 = 4 then (if x3_1 = true then (if (a0_5 == 0 && ((a0_6 == 0 && (a0_7 == 0)) && ((a0_8 == 0 && (a0_9 == 0)) && ((a0_10 == 0 && (a0_11 == 0)) && (a0_12.toList == ([] : List UInt8) && (a0_13.toList == ([] : List UInt8))))))) = true then (if a0_14 = 0 then ((wire_wraps.f kj43 l0_15).bind fun t128 => (if t128 = true then (some 0) else (some 1))) else (some 1)) else (some 1)) else (some 1)) else (some 1)) = some r := by rw [if_neg (show ¬ (false = true) by decide)] at H; exact H
              clear H; have H := H1; clear H1; by_cases c60 : a0_0 = 4
              · rw [if_pos c60] at H; have c60b0 : (a0_0 == 4) = true := beq_iff_eq.mpr c60; have c60b1 : (a0_0 != 4) = false := bne_eq_false_iff_eq.mpr c60; clear c60; by_cases c61 : x3_1 = true
                · subst c61; have H1 : (if (a0_5 == 0 && ((a0_6 == 0 && (a0_7 == 0)) && ((a0_8 == 0 && (a0_9 == 0)) && ((a0_10 == 0 && (a0_11 == 0)) && (a0_12.toList == ([] : List UInt8) && (a0_13.toList == ([] : List UInt8))))))) = true then (if a0_14 = 0 then ((wire_wraps.f kj43 l0_15).bind fun t128 => (if t128 = true then (some 0) else (some 1))) else (some 1)) else (some 1)) = some r := by rw [if_pos rfl] at H; exact H
                  clear H; have H := H1; clear H1; by_cases c62 : (a0_5 == 0 && ((a0_6 == 0 && (a0_7 == 0)) && ((a0_8 == 0 && (a0_9 == 0)) && ((a0_10 == 0 && (a0_11 == 0)) && (a0_12.toList == ([] : List UInt8) && (a0_13.toList == ([] : List UInt8))))))) = true
                  · rw [if_pos c62] at H; have c62b0 : (a0_5 == 0 && ((a0_6 == 0 && (a0_7 == 0)) && ((a0_8 == 0 && (a0_9 == 0)) && ((a0_10 == 0 && (a0_11 == 0)) && (a0_12.toList == ([] : List UInt8) && (a0_13.toList == ([] : List UInt8))))))) = true := c62; have c62e0 : (a0_5 == 0 && ((a0_6 == 0 && (a0_7 == 0)) && ((a0_8 == 0 && (a0_9 == 0)) && ((a0_10 == 0 && (a0_11 == 0)) && (a0_12.toList.isEmpty && (a0_13.toList.isEmpty)))))) = true := by simpa only [show ∀ l_ : List UInt8, (l_ == ([] : List UInt8)) = l_.isEmpty from fun l_ => by cases l_ <;> rfl] using c62b0
                    (try (have c62b1 : decide (a0_5 = 0 && ((a0_6 == 0 && (a0_7 == 0)) && ((a0_8 == 0 && (a0_9 == 0)) && ((a0_10 == 0 && (a0_11 == 0)) && (a0_12.toList == ([] : List UInt8) && (a0_13.toList == ([] : List UInt8))))))) = true := by simpa using c62))
                    (try (have c62b2 : (a0_5 == 0 && ((a0_6 == 0 && (a0_7 == 0)) && ((a0_8 == 0 && (a0_9 == 0)) && ((a0_10 == 0 && (a0_11 == 0)) && (a0_12.toList == ([] : List UInt8) && (a0_13.toList == ([] : List UInt8))))))) = true := by simpa using c62))
                    clear c62; by_cases c63 : a0_14 = 0
                    · rw [if_pos c63] at H; have c63b0 : (a0_14 == 0) = true := beq_iff_eq.mpr c63; have c63b1 : (a0_14 != 0) = false := bne_eq_false_iff_eq.mpr c63; clear c63; replace H := Option.bind_eq_some_iff.mp H; obtain ⟨t128, A640, H⟩ := H; have A64 := Aside0.mk A640; clear A640; by_cases c65 : t128 = true
                      · subst c65; have H1 : (some 0) = some r := by rw [if_pos rfl] at H; exact H
                        clear H; have H := H1; clear H1; obtain rfl := Option.some.inj H; have hcz66_0 : wc.cell? ⟨gb119, 0, none⟩ = some (.int .i64 a0_0) := (blk_cell BK119.out 0).trans rfl; have hcz66_1 : wc.cell? ⟨gb119, 1, none⟩ = some (.int .i64 a0_1) := (blk_cell BK119.out 1).trans rfl; have hcz66_2 : wc.cell? ⟨gb119, 2, none⟩ = some (.int .i64 a0_2) := (blk_cell BK119.out 2).trans rfl; have hcz66_3 : wc.cell? ⟨gb119, 3, none⟩ = some (.int .i64 a0_3) := (blk_cell BK119.out 3).trans rfl; have hcz66_4 : wc.cell? ⟨gb119, 4, none⟩ = some (.string a0_4) := (blk_cell BK119.out 4).trans rfl; have hcz66_5 : wc.cell? ⟨gb119, 5, none⟩ = some (.int .i64 a0_5) := (blk_cell BK119.out 5).trans rfl; have hcz66_6 : wc.cell? ⟨gb119, 6, none⟩ = some (.int .i64 a0_6) := (blk_cell BK119.out 6).trans rfl; have hcz66_7 : wc.cell? ⟨gb119, 7, none⟩ = some (.int .i64 a0_7) := (blk_cell BK119.out 7).trans rfl; have hcz66_8 : wc.cell? ⟨gb119, 8, none⟩ = some (.int .i64 a0_8) := (blk_cell BK119.out 8).trans rfl; have hcz66_9 : wc.cell? ⟨gb119, 9, none⟩ = some (.int .i64 a0_9) := (blk_cell BK119.out 9).trans rfl; have hcz66_10 : wc.cell? ⟨gb119, 10, none⟩ = some (.int .i64 a0_10) := (blk_cell BK119.out 10).trans rfl; have hcz66_11 : wc.cell? ⟨gb119, 11, none⟩ = some (.int .i64 a0_11) := (blk_cell BK119.out 11).trans rfl; have hcz66_12 : wc.cell? ⟨gb119, 12, none⟩ = some (.string a0_12) := (blk_cell BK119.out 12).trans rfl; have hcz66_13 : wc.cell? ⟨gb119, 13, none⟩ = some (.string a0_13) := (blk_cell BK119.out 13).trans rfl; have hcz66_14 : wc.cell? ⟨gb119, 14, none⟩ = some (.int .i64 a0_14) := (blk_cell BK119.out 14).trans rfl; have hcz66_15 : wc.cell? ⟨gb119, 15, none⟩ = some (.slice A0_15 l0_15.length c0_15) := (blk_cell BK119.out 15).trans rfl; have hfz66_0 := blk_frozen BK119.out 0; have hfz66_1 := blk_frozen BK119.out 1; have hfz66_2 := blk_frozen BK119.out 2; have hfz66_3 := blk_frozen BK119.out 3; have hfz66_4 := blk_frozen BK119.out 4; have hfz66_5 := blk_frozen BK119.out 5; have hfz66_6 := blk_frozen BK119.out 6; have hfz66_7 := blk_frozen BK119.out 7; have hfz66_8 := blk_frozen BK119.out 8; have hfz66_9 := blk_frozen BK119.out 9; have hfz66_10 := blk_frozen BK119.out 10; have hfz66_11 := blk_frozen BK119.out 11; have hfz66_12 := blk_frozen BK119.out 12; have hfz66_13 := blk_frozen BK119.out 13; have hfz66_14 := blk_frozen BK119.out 14; have hfz66_15 := blk_frozen BK119.out 15; go_wp2_with (first | (go_at_call 77; (with_reducible refine (wire_wraps.calls kj43 _ _ l0_15 true _ ?side1 ?side2 A64.out).mono ?_); (case side1 => exact ca_ (Kd.C_below HR0_15.out HB.out)); (case side2 => exact HC0_15.out); rintro e w67 ⟨rfl, hb⟩; have n0_ := Aside0.mk (blk_below (g := gb119) (o := .cells #[.int .i64 a0_0, .int .i64 a0_1, .int .i64 a0_2, .int .i64 a0_3, .string a0_4, .int .i64 a0_5, .int .i64 a0_6, .int .i64 a0_7, .int .i64 a0_8, .int .i64 a0_9, .int .i64 a0_10, .int .i64 a0_11, .string a0_12, .string a0_13, .int .i64 a0_14, .slice A0_15 l0_15.length c0_15] 31 (0, 0)) (by (with_reducible repeat (first | refine blk_drewN ?_ _ | refine blk_drew ?_ | refine blk_alloc ?_ _)); exact BK119.out) hb); have n1_ := Aside0.mk (below_step (by repeat (first | (with_reducible first | exact HB.out | apply below_alloc | apply pw_below_drewN | apply below_drew1 | refine below_set ?_ GE119.out) | exact HB.out)) hb); clear BK119; clear HB; have BK119 := n0_; have HB := n1_; clear n0_ n1_))
                        go_ret
                        exact ⟨ew_, by repeat (first | (with_reducible first | exact HB.out | apply below_alloc | apply pw_below_drewN | apply below_drew1 | refine below_set ?_ GE119.out) | exact HB.out)⟩
                      · replace c65 := Bool.eq_false_iff.mpr c65; subst c65; have H1 : (some 1) = some r := by rw [if_neg (show ¬ (false = true) by decide)] at H; exact H
                        clear H; have H := H1; clear H1; obtain rfl := Option.some.inj H; have hcz68_0 : wc.cell? ⟨gb119, 0, none⟩ = some (.int .i64 a0_0) := (blk_cell BK119.out 0).trans rfl; have hcz68_1 : wc.cell? ⟨gb119, 1, none⟩ = some (.int .i64 a0_1) := (blk_cell BK119.out 1).trans rfl; have hcz68_2 : wc.cell? ⟨gb119, 2, none⟩ = some (.int .i64 a0_2) := (blk_cell BK119.out 2).trans rfl; have hcz68_3 : wc.cell? ⟨gb119, 3, none⟩ = some (.int .i64 a0_3) := (blk_cell BK119.out 3).trans rfl; have hcz68_4 : wc.cell? ⟨gb119, 4, none⟩ = some (.string a0_4) := (blk_cell BK119.out 4).trans rfl; have hcz68_5 : wc.cell? ⟨gb119, 5, none⟩ = some (.int .i64 a0_5) := (blk_cell BK119.out 5).trans rfl; have hcz68_6 : wc.cell? ⟨gb119, 6, none⟩ = some (.int .i64 a0_6) := (blk_cell BK119.out 6).trans rfl; have hcz68_7 : wc.cell? ⟨gb119, 7, none⟩ = some (.int .i64 a0_7) := (blk_cell BK119.out 7).trans rfl; have hcz68_8 : wc.cell? ⟨gb119, 8, none⟩ = some (.int .i64 a0_8) := (blk_cell BK119.out 8).trans rfl; have hcz68_9 : wc.cell? ⟨gb119, 9, none⟩ = some (.int .i64 a0_9) := (blk_cell BK119.out 9).trans rfl; have hcz68_10 : wc.cell? ⟨gb119, 10, none⟩ = some (.int .i64 a0_10) := (blk_cell BK119.out 10).trans rfl; have hcz68_11 : wc.cell? ⟨gb119, 11, none⟩ = some (.int .i64 a0_11) := (blk_cell BK119.out 11).trans rfl; have hcz68_12 : wc.cell? ⟨gb119, 12, none⟩ = some (.string a0_12) := (blk_cell BK119.out 12).trans rfl; have hcz68_13 : wc.cell? ⟨gb119, 13, none⟩ = some (.string a0_13) := (blk_cell BK119.out 13).trans rfl; have hcz68_14 : wc.cell? ⟨gb119, 14, none⟩ = some (.int .i64 a0_14) := (blk_cell BK119.out 14).trans rfl; have hcz68_15 : wc.cell? ⟨gb119, 15, none⟩ = some (.slice A0_15 l0_15.length c0_15) := (blk_cell BK119.out 15).trans rfl; have hfz68_0 := blk_frozen BK119.out 0; have hfz68_1 := blk_frozen BK119.out 1; have hfz68_2 := blk_frozen BK119.out 2; have hfz68_3 := blk_frozen BK119.out 3; have hfz68_4 := blk_frozen BK119.out 4; have hfz68_5 := blk_frozen BK119.out 5; have hfz68_6 := blk_frozen BK119.out 6; have hfz68_7 := blk_frozen BK119.out 7; have hfz68_8 := blk_frozen BK119.out 8; have hfz68_9 := blk_frozen BK119.out 9; have hfz68_10 := blk_frozen BK119.out 10; have hfz68_11 := blk_frozen BK119.out 11; have hfz68_12 := blk_frozen BK119.out 12; have hfz68_13 := blk_frozen BK119.out 13; have hfz68_14 := blk_frozen BK119.out 14; have hfz68_15 := blk_frozen BK119.out 15; go_wp2_with (first | (go_at_call 77; (with_reducible refine (wire_wraps.calls kj43 _ _ l0_15 false _ ?side1 ?side2 A64.out).mono ?_); (case side1 => exact ca_ (Kd.C_below HR0_15.out HB.out)); (case side2 => exact HC0_15.out); rintro e w69 ⟨rfl, hb⟩; have n0_ := Aside0.mk (blk_below (g := gb119) (o := .cells #[.int .i64 a0_0, .int .i64 a0_1, .int .i64 a0_2, .int .i64 a0_3, .string a0_4, .int .i64 a0_5, .int .i64 a0_6, .int .i64 a0_7, .int .i64 a0_8, .int .i64 a0_9, .int .i64 a0_10, .int .i64 a0_11, .string a0_12, .string a0_13, .int .i64 a0_14, .slice A0_15 l0_15.length c0_15] 31 (0, 0)) (by (with_reducible repeat (first | refine blk_drewN ?_ _ | refine blk_drew ?_ | refine blk_alloc ?_ _)); exact BK119.out) hb); have n1_ := Aside0.mk (below_step (by repeat (first | (with_reducible first | exact HB.out | apply below_alloc | apply pw_below_drewN | apply below_drew1 | refine below_set ?_ GE119.out) | exact HB.out)) hb); clear BK119; clear HB; have BK119 := n0_; have HB := n1_; clear n0_ n1_))
                        go_ret
                        exact ⟨ew_, by repeat (first | (with_reducible first | exact HB.out | apply below_alloc | apply pw_below_drewN | apply below_drew1 | refine below_set ?_ GE119.out) | exact HB.out)⟩
                    · rw [if_neg c63] at H; have c63b0 : (a0_14 == 0) = false := beq_eq_false_iff_ne.mpr c63; have c63b1 : (a0_14 != 0) = true := bne_iff_ne.mpr c63; obtain rfl := Option.some.inj H; have hcz70_0 : wc.cell? ⟨gb119, 0, none⟩ = some (.int .i64 a0_0) := (blk_cell BK119.out 0).trans rfl; have hcz70_1 : wc.cell? ⟨gb119, 1, none⟩ = some (.int .i64 a0_1) := (blk_cell BK119.out 1).trans rfl; have hcz70_2 : wc.cell? ⟨gb119, 2, none⟩ = some (.int .i64 a0_2) := (blk_cell BK119.out 2).trans rfl; have hcz70_3 : wc.cell? ⟨gb119, 3, none⟩ = some (.int .i64 a0_3) := (blk_cell BK119.out 3).trans rfl; have hcz70_4 : wc.cell? ⟨gb119, 4, none⟩ = some (.string a0_4) := (blk_cell BK119.out 4).trans rfl; have hcz70_5 : wc.cell? ⟨gb119, 5, none⟩ = some (.int .i64 a0_5) := (blk_cell BK119.out 5).trans rfl; have hcz70_6 : wc.cell? ⟨gb119, 6, none⟩ = some (.int .i64 a0_6) := (blk_cell BK119.out 6).trans rfl; have hcz70_7 : wc.cell? ⟨gb119, 7, none⟩ = some (.int .i64 a0_7) := (blk_cell BK119.out 7).trans rfl; have hcz70_8 : wc.cell? ⟨gb119, 8, none⟩ = some (.int .i64 a0_8) := (blk_cell BK119.out 8).trans rfl; have hcz70_9 : wc.cell? ⟨gb119, 9, none⟩ = some (.int .i64 a0_9) := (blk_cell BK119.out 9).trans rfl; have hcz70_10 : wc.cell? ⟨gb119, 10, none⟩ = some (.int .i64 a0_10) := (blk_cell BK119.out 10).trans rfl; have hcz70_11 : wc.cell? ⟨gb119, 11, none⟩ = some (.int .i64 a0_11) := (blk_cell BK119.out 11).trans rfl; have hcz70_12 : wc.cell? ⟨gb119, 12, none⟩ = some (.string a0_12) := (blk_cell BK119.out 12).trans rfl; have hcz70_13 : wc.cell? ⟨gb119, 13, none⟩ = some (.string a0_13) := (blk_cell BK119.out 13).trans rfl; have hcz70_14 : wc.cell? ⟨gb119, 14, none⟩ = some (.int .i64 a0_14) := (blk_cell BK119.out 14).trans rfl; have hcz70_15 : wc.cell? ⟨gb119, 15, none⟩ = some (.slice A0_15 l0_15.length c0_15) := (blk_cell BK119.out 15).trans rfl; have hfz70_0 := blk_frozen BK119.out 0; have hfz70_1 := blk_frozen BK119.out 1; have hfz70_2 := blk_frozen BK119.out 2; have hfz70_3 := blk_frozen BK119.out 3; have hfz70_4 := blk_frozen BK119.out 4; have hfz70_5 := blk_frozen BK119.out 5; have hfz70_6 := blk_frozen BK119.out 6; have hfz70_7 := blk_frozen BK119.out 7; have hfz70_8 := blk_frozen BK119.out 8; have hfz70_9 := blk_frozen BK119.out 9; have hfz70_10 := blk_frozen BK119.out 10; have hfz70_11 := blk_frozen BK119.out 11; have hfz70_12 := blk_frozen BK119.out 12; have hfz70_13 := blk_frozen BK119.out 13; have hfz70_14 := blk_frozen BK119.out 14; have hfz70_15 := blk_frozen BK119.out 15; go_wp2; go_ret
                      exact ⟨ew_, by repeat (first | (with_reducible first | exact HB.out | apply below_alloc | apply pw_below_drewN | apply below_drew1 | refine below_set ?_ GE119.out) | exact HB.out)⟩
                  · rw [if_neg c62] at H; have c62b0 : (a0_5 == 0 && ((a0_6 == 0 && (a0_7 == 0)) && ((a0_8 == 0 && (a0_9 == 0)) && ((a0_10 == 0 && (a0_11 == 0)) && (a0_12.toList == ([] : List UInt8) && (a0_13.toList == ([] : List UInt8))))))) = false := by simpa using c62
                    have c62e0 : (a0_5 == 0 && ((a0_6 == 0 && (a0_7 == 0)) && ((a0_8 == 0 && (a0_9 == 0)) && ((a0_10 == 0 && (a0_11 == 0)) && (a0_12.toList.isEmpty && (a0_13.toList.isEmpty)))))) = false := by simpa only [show ∀ l_ : List UInt8, (l_ == ([] : List UInt8)) = l_.isEmpty from fun l_ => by cases l_ <;> rfl] using c62b0
                    (try (have c62b1 : decide (a0_5 = 0 && ((a0_6 == 0 && (a0_7 == 0)) && ((a0_8 == 0 && (a0_9 == 0)) && ((a0_10 == 0 && (a0_11 == 0)) && (a0_12.toList == ([] : List UInt8) && (a0_13.toList == ([] : List UInt8))))))) = false := by simpa using c62))
                    (try (have c62b2 : (a0_5 == 0 && ((a0_6 == 0 && (a0_7 == 0)) && ((a0_8 == 0 && (a0_9 == 0)) && ((a0_10 == 0 && (a0_11 == 0)) && (a0_12.toList == ([] : List UInt8) && (a0_13.toList == ([] : List UInt8))))))) = false := by simpa using c62))
                    (try (have c62b3 : ¬ (a0_5 = 0 && ((a0_6 == 0 && (a0_7 == 0)) && ((a0_8 == 0 && (a0_9 == 0)) && ((a0_10 == 0 && (a0_11 == 0)) && (a0_12.toList == ([] : List UInt8) && (a0_13.toList == ([] : List UInt8))))))) := by simpa using c62))
                    clear c62; obtain rfl := Option.some.inj H; have hcz71_0 : wc.cell? ⟨gb119, 0, none⟩ = some (.int .i64 a0_0) := (blk_cell BK119.out 0).trans rfl; have hcz71_1 : wc.cell? ⟨gb119, 1, none⟩ = some (.int .i64 a0_1) := (blk_cell BK119.out 1).trans rfl; have hcz71_2 : wc.cell? ⟨gb119, 2, none⟩ = some (.int .i64 a0_2) := (blk_cell BK119.out 2).trans rfl; have hcz71_3 : wc.cell? ⟨gb119, 3, none⟩ = some (.int .i64 a0_3) := (blk_cell BK119.out 3).trans rfl; have hcz71_4 : wc.cell? ⟨gb119, 4, none⟩ = some (.string a0_4) := (blk_cell BK119.out 4).trans rfl; have hcz71_5 : wc.cell? ⟨gb119, 5, none⟩ = some (.int .i64 a0_5) := (blk_cell BK119.out 5).trans rfl; have hcz71_6 : wc.cell? ⟨gb119, 6, none⟩ = some (.int .i64 a0_6) := (blk_cell BK119.out 6).trans rfl; have hcz71_7 : wc.cell? ⟨gb119, 7, none⟩ = some (.int .i64 a0_7) := (blk_cell BK119.out 7).trans rfl; have hcz71_8 : wc.cell? ⟨gb119, 8, none⟩ = some (.int .i64 a0_8) := (blk_cell BK119.out 8).trans rfl; have hcz71_9 : wc.cell? ⟨gb119, 9, none⟩ = some (.int .i64 a0_9) := (blk_cell BK119.out 9).trans rfl; have hcz71_10 : wc.cell? ⟨gb119, 10, none⟩ = some (.int .i64 a0_10) := (blk_cell BK119.out 10).trans rfl; have hcz71_11 : wc.cell? ⟨gb119, 11, none⟩ = some (.int .i64 a0_11) := (blk_cell BK119.out 11).trans rfl; have hcz71_12 : wc.cell? ⟨gb119, 12, none⟩ = some (.string a0_12) := (blk_cell BK119.out 12).trans rfl; have hcz71_13 : wc.cell? ⟨gb119, 13, none⟩ = some (.string a0_13) := (blk_cell BK119.out 13).trans rfl; have hcz71_14 : wc.cell? ⟨gb119, 14, none⟩ = some (.int .i64 a0_14) := (blk_cell BK119.out 14).trans rfl; have hcz71_15 : wc.cell? ⟨gb119, 15, none⟩ = some (.slice A0_15 l0_15.length c0_15) := (blk_cell BK119.out 15).trans rfl; have hfz71_0 := blk_frozen BK119.out 0; have hfz71_1 := blk_frozen BK119.out 1; have hfz71_2 := blk_frozen BK119.out 2; have hfz71_3 := blk_frozen BK119.out 3; have hfz71_4 := blk_frozen BK119.out 4; have hfz71_5 := blk_frozen BK119.out 5; have hfz71_6 := blk_frozen BK119.out 6; have hfz71_7 := blk_frozen BK119.out 7; have hfz71_8 := blk_frozen BK119.out 8; have hfz71_9 := blk_frozen BK119.out 9; have hfz71_10 := blk_frozen BK119.out 10; have hfz71_11 := blk_frozen BK119.out 11; have hfz71_12 := blk_frozen BK119.out 12; have hfz71_13 := blk_frozen BK119.out 13; have hfz71_14 := blk_frozen BK119.out 14; have hfz71_15 := blk_frozen BK119.out 15; go_wp2; go_ret
                    exact ⟨ew_, by repeat (first | (with_reducible first | exact HB.out | apply below_alloc | apply pw_below_drewN | apply below_drew1 | refine below_set ?_ GE119.out) | exact HB.out)⟩
                · replace c61 := Bool.eq_false_iff.mpr c61; subst c61; have H1 : (some 1) = some r := by rw [if_neg (show ¬ (false = true) by decide)] at H; exact H
                  clear H; have H := H1; clear H1; obtain rfl := Option.some.inj H; go_wp2; go_ret
                  exact ⟨ew_, by repeat (first | (with_reducible first | exact HB.out | apply below_alloc | apply pw_below_drewN | apply below_drew1 | refine below_set ?_ GE119.out) | exact HB.out)⟩
              · rw [if_neg c60] at H; have c60b0 : (a0_0 == 4) = false := beq_eq_false_iff_ne.mpr c60; have c60b1 : (a0_0 != 4) = true := bne_iff_ne.mpr c60; obtain rfl := Option.some.inj H; go_wp2; go_ret
                exact ⟨ew_, by repeat (first | (with_reducible first | exact HB.out | apply below_alloc | apply pw_below_drewN | apply below_drew1 | refine below_set ?_ GE119.out) | exact HB.out)⟩
end Go.Proofs.YthemhfloablccaaDoor.Pr
end

section
namespace Go.Proofs.YthemhfloablccaaDoor.Pr
open Go.RowKit Go.Deep Go.Proofs.YthemhfloablccaaDoorW.PrintWords Go.Proofs.YthemhfloablccaaDoorW.PrintLast Go.Proofs.YthemhfloablccaaDoorW.PrintMore
set_option maxHeartbeats 4000000
abbrev Wrp := S80
def judgeM (E : Int) (l : List Mem) (O ep kind frm count who : Int) : Int × List Mem × Int × Bool × Int :=
  match l[(frm - 1).toNat]? with
  | none => (0, [], 0, false, 1)
  | some m =>
    if 1099511627775 ≤ m.f1 ∨ count ≠ m.f1 + 1 then (0, [], 0, false, 1)
    else if ep < 1 ∨ E < ep ∨ ep < E - 1 then (0, [], 0, false, 201)
    else ((doesM E (l.set (frm - 1).toNat { m with f1 := m.f1 + 1 }) O ep kind frm who).1, (doesM E (l.set (frm - 1).toNat { m with f1 := m.f1 + 1 }) O ep kind frm who).2.1, (doesM E (l.set (frm - 1).toNat { m with f1 := m.f1 + 1 }) O ep kind frm who).2.2.1, (doesM E (l.set (frm - 1).toNat { m with f1 := m.f1 + 1 }) O ep kind frm who).2.2.2, 0)
def goodJ (E : Int) (l : List Mem) (O kind frm who : Int) : Prop :=
 l.length = 6 ∧ 1 ≤ E ∧ E ≤ 1099511627775 ∧ 0 ≤ O ∧ O ≤ 500 ∧ 1 ≤ frm ∧ frm ≤ 6 ∧ 1 ≤ kind ∧ kind ≤ 4 ∧ (kind = 2 ∨ kind = 3 → 1 ≤ who ∧ who ≤ 6) ∧ ∀ m ∈ l, 0 ≤ m.f1 ∧ m.f1 ≤ 1099511627775
instance (E : Int) (l : List Mem) (O kind frm who : Int) : Decidable (goodJ E l O kind frm who) := by unfold goodJ; infer_instance
def group_Judge.f (k : Nat) (a0_0 : Int) (l0_1 : List Mem) (a0_2 a1 a2_0 a2_1 a2_2 a2_3 : Int) (a2_4 : ByteArray) (a2_5 a2_6 a2_7 a2_8 a2_9 a2_10 a2_11 : Int) (a2_12 a2_13 : ByteArray) (a2_14 : Int) (l2_15 : List Wrp) : Option (Int × List Mem × Int × Bool × Int) :=
 (group_Check.f k a0_0 l0_1 a0_2).bind fun c => if c = 0 then ((wire_Check.f k a2_0 a2_1 a2_2 a2_3 a2_4 a2_5 a2_6 a2_7 a2_8 a2_9 a2_10 a2_11 a2_12 a2_13 a2_14 l2_15).bind fun d => if d = 0 then (if goodJ a0_0 l0_1 a0_2 a2_0 a2_1 a2_14 then some (judgeM a0_0 l0_1 a0_2 a1 a2_0 a2_1 a2_2 a2_14) else none) else some (0, [], 0, false, 1)) else some (0, [], 0, false, 1)
def JAt (w : World) (gb rb ob : Nat) (gv rv : Array Value) (wx : World) : Prop :=
 Below w.heap.size w wx ∧ wx.heap[gb]? = some (.cells gv 24 (0, 0)) ∧ wx.heap[rb]? = some (.cells rv 31 (0, 0)) ∧ wx.heap[ob]? = some (.cells #[.int .i64 0, .slice none 0 0, .int .i64 0] 24 (0, 0)) ∧ w.heap.size ≤ gb ∧ w.heap.size ≤ ob ∧ gb ≠ rb ∧ gb ≠ ob ∧ rb ≠ ob
theorem JAt.below {w wx w' : World} {gb rb ob : Nat} {gv rv : Array Value} (h : JAt w gb rb ob gv rv wx) (hb : Below wx.heap.size wx w') : JAt w gb rb ob gv rv w' :=
 ⟨below_then h.1 h.1.size hb, blk_below h.2.1 hb, blk_below h.2.2.1 hb, blk_below h.2.2.2.1 hb, h.2.2.2.2⟩
theorem JAt.zero {w wx : World} {gb rb ob : Nat} {gv rv : Array Value} (h : JAt w gb rb ob gv rv wx) :
  (((wx.setCell ⟨ob, 0, none⟩ (.int .i64 0)).setCell ⟨ob, 1, none⟩ (.slice none 0 0)).setCell ⟨ob, 2, none⟩ (.int .i64 0)).heap[ob]? = some (.cells #[.int .i64 0, .slice none 0 0, .int .i64 0] 24 (0, 0)) ∧
  Below w.heap.size w (((wx.setCell ⟨ob, 0, none⟩ (.int .i64 0)).setCell ⟨ob, 1, none⟩ (.slice none 0 0)).setCell ⟨ob, 2, none⟩ (.int .i64 0)) :=
 ⟨blk_put (blk_put (blk_put h.2.2.2.1 0 _ rfl) 1 _ rfl) 2 _ rfl, below_set (below_set (below_set h.1 h.2.2.2.2.2.1) h.2.2.2.2.2.1) h.2.2.2.2.2.1⟩
theorem rec_cells {wx : World} {rb : Nat} {a2_0 a2_1 a2_2 a2_3 : Int} {a2_4 : ByteArray} {a2_5 a2_6 a2_7 a2_8 a2_9 a2_10 a2_11 : Int} {a2_12 a2_13 : ByteArray} {a2_14 : Int} {wv : Value} (h : wx.heap[rb]? = some (.cells (RecV a2_0 a2_1 a2_2 a2_3 a2_4 a2_5 a2_6 a2_7 a2_8 a2_9 a2_10 a2_11 a2_12 a2_13 a2_14 wv) 31 (0, 0))) :
  wx.cell? ⟨rb, 0, none⟩ = some (.int .i64 a2_0) ∧ wx.cell? ⟨rb, 1, none⟩ = some (.int .i64 a2_1) ∧ wx.cell? ⟨rb, 2, none⟩ = some (.int .i64 a2_2) ∧ wx.cell? ⟨rb, 3, none⟩ = some (.int .i64 a2_3) ∧ wx.cell? ⟨rb, 4, none⟩ = some (.string a2_4) ∧ wx.cell? ⟨rb, 5, none⟩ = some (.int .i64 a2_5) ∧ wx.cell? ⟨rb, 6, none⟩ = some (.int .i64 a2_6) ∧ wx.cell? ⟨rb, 7, none⟩ = some (.int .i64 a2_7) ∧ wx.cell? ⟨rb, 8, none⟩ = some (.int .i64 a2_8) ∧ wx.cell? ⟨rb, 9, none⟩ = some (.int .i64 a2_9) ∧ wx.cell? ⟨rb, 10, none⟩ = some (.int .i64 a2_10) ∧ wx.cell? ⟨rb, 11, none⟩ = some (.int .i64 a2_11) ∧ wx.cell? ⟨rb, 12, none⟩ = some (.string a2_12) ∧ wx.cell? ⟨rb, 13, none⟩ = some (.string a2_13) ∧ wx.cell? ⟨rb, 14, none⟩ = some (.int .i64 a2_14) ∧ wx.cell? ⟨rb, 15, none⟩ = some wv :=
 ⟨(blk_cell h 0).trans rfl, (blk_cell h 1).trans rfl, (blk_cell h 2).trans rfl, (blk_cell h 3).trans rfl, (blk_cell h 4).trans rfl, (blk_cell h 5).trans rfl, (blk_cell h 6).trans rfl, (blk_cell h 7).trans rfl, (blk_cell h 8).trans rfl, (blk_cell h 9).trans rfl, (blk_cell h 10).trans rfl, (blk_cell h 11).trans rfl, (blk_cell h 12).trans rfl, (blk_cell h 13).trans rfl, (blk_cell h 14).trans rfl, (blk_cell h 15).trans rfl⟩
theorem grp_cells {wx : World} {gb : Nat} {x z : Int} {y : Value} {t : TypeId} (h : wx.heap[gb]? = some (.cells #[.int .i64 x, y, .int .i64 z] t (0, 0))) :
  wx.cell? ⟨gb, 0, none⟩ = some (.int .i64 x) ∧ wx.cell? ⟨gb, 1, none⟩ = some y ∧ wx.cell? ⟨gb, 2, none⟩ = some (.int .i64 z) ∧ wx.frozen? ⟨gb, 0, none⟩ = false ∧ wx.frozen? ⟨gb, 1, none⟩ = false ∧ wx.frozen? ⟨gb, 2, none⟩ = false :=
 ⟨(blk_cell h 0).trans rfl, (blk_cell h 1).trans rfl, (blk_cell h 2).trans rfl, blk_frozen h 0, blk_frozen h 1, blk_frozen h 2⟩
set_option maxRecDepth 100000 in
theorem group_Judge.calls (k : Nat) (a0_0 : Int) (A0_1 : Option Addr) (c0_1 : Nat) (l0_1 : List Mem) (a0_2 a1 a2_0 a2_1 a2_2 a2_3 : Int) (a2_4 : ByteArray) (a2_5 a2_6 a2_7 a2_8 a2_9 a2_10 a2_11 : Int) (a2_12 a2_13 : ByteArray) (a2_14 : Int) (A2_15 : Option Addr) (c2_15 : Nat) (l2_15 : List Wrp)
    (r1 : Int) (r2 : List Mem) (r3 : Int) (r4 : Bool) (r5 : Int) (w : World) (hr0_1 : Kd.C k46 w A0_1 l0_1.length l0_1) (hc0_1 : l0_1.length ≤ c0_1) (hr2_15 : Kd.C k80 w A2_15 l2_15.length l2_15) (hc2_15 : l2_15.length ≤ c2_15)
    (h : group_Judge.f k a0_0 l0_1 a0_2 a1 a2_0 a2_1 a2_2 a2_3 a2_4 a2_5 a2_6 a2_7 a2_8 a2_9 a2_10 a2_11 a2_12 a2_13 a2_14 l2_15 = some (r1, r2, r3, r4, r5)) :
    Calls Tryd.prog 18 #[.agg #[.int .i64 a0_0, .slice A0_1 l0_1.length c0_1, .int .i64 a0_2], .int .i64 a1, .agg #[.int .i64 a2_0, .int .i64 a2_1, .int .i64 a2_2, .int .i64 a2_3, .string a2_4, .int .i64 a2_5, .int .i64 a2_6, .int .i64 a2_7, .int .i64 a2_8, .int .i64 a2_9, .int .i64 a2_10, .int .i64 a2_11, .string a2_12, .string a2_13, .int .i64 a2_14, .slice A2_15 l2_15.length c2_15]] w fun e w' => ∃ v1_ : Value, e = .returned (.tuple #[.agg #[.int .i64 r1, v1_, .int .i64 r3], .bool r4, .int .i64 r5]) ∧ Kd.R k46 46 w' w.heap.size (fun _ => True) v1_ r2 ∧ Below w.heap.size w w' := by
  unfold group_Judge.f at h
  obtain ⟨c, hgc, h1⟩ := Option.bind_eq_some_iff.1 h
  have HGC := Aside0.mk (fun (W : World) (hb : Below w.heap.size w W) => group_Check.calls k a0_0 A0_1 c0_1 l0_1 a0_2 c W (Kd.C_below hr0_1 hb) hc0_1 hgc)
  have H := Aside0.mk h1
  have HWC := Aside0.mk (fun (d : Int) (hd : wire_Check.f k a2_0 a2_1 a2_2 a2_3 a2_4 a2_5 a2_6 a2_7 a2_8 a2_9 a2_10 a2_11 a2_12 a2_13 a2_14 l2_15 = some d) (W : World) (hb : Below w.heap.size w W) => wire_Check.calls k a2_0 a2_1 a2_2 a2_3 a2_4 a2_5 a2_6 a2_7 a2_8 a2_9 a2_10 a2_11 a2_12 a2_13 a2_14 A2_15 c2_15 l2_15 d W (Kd.C_below hr2_15 hb) hc2_15 hd)
  have HR0 := Aside0.mk hr0_1
  have HCC := Aside0.mk hc0_1
  clear h h1 hgc hr0_1 hr2_15 hc2_15 hc0_1
  have hu1 := Tryd.underlying24
  have hu2 := Tryd.underlying31
  go_enter Tryd.func18, Tryd.ntmps18
  go_upto_region 1 with (first | ((with_reducible refine gate_dst (N := 3) rfl ?_); (try (refine gate_guard (by rfl) ?_; dsimp only)); refine box_event ?hg (N := 3) ?hd (cs := #[.int .i64 a0_0, .slice A0_1 l0_1.length c0_1, .int .i64 a0_2]) (t := 24) ?hr ?_; (case hd => rfl); (case hg => rfl); (case hr => first | (go_simp; done) | (go_simp; rfl)); intro gb hg w1 hbox hb; have HB1 := Aside0.mk (below_step (Below.refl w.heap.size w) hb); have G1 := Aside0.mk hbox; have L1 := Aside0.mk (show w.heap.size ≤ gb by rw [hg]; exact Nat.le_refl _); clear hb hbox hg) | ((with_reducible refine gate_dst (N := 5) rfl ?_); (try (refine gate_guard (by rfl) ?_; dsimp only)); refine box_event ?hg (N := 5) ?hd (cs := (RecV a2_0 a2_1 a2_2 a2_3 a2_4 a2_5 a2_6 a2_7 a2_8 a2_9 a2_10 a2_11 a2_12 a2_13 a2_14 (.slice A2_15 l2_15.length c2_15))) (t := 31) ?hr ?_; (case hd => rfl); (case hg => rfl); (case hr => first | (go_simp; done) | (go_simp; rfl)); intro rb hg w2 hbox hb; have HB2 := Aside0.mk (below_step HB1.out hb); have G2 := Aside0.mk (blk_below G1.out hb); have R2 := Aside0.mk hbox; have L2 := Aside0.mk (show w.heap.size ≤ rb by rw [hg]; exact HB1.out.size); have N12 := Aside0.mk (show gb ≠ rb by rw [hg]; exact Nat.ne_of_lt (blk_lt G1.out)); clear HB1 G1; clear hb hbox hg) | ((with_reducible refine gate_dst (N := 6) rfl ?_); (try (refine gate_guard (by rfl) ?_; dsimp only)); refine box_event ?hg (N := 6) ?hd (cs := #[.int .i64 0, .slice none 0 0, .int .i64 0]) (t := 24) ?hr ?_; (case hd => rfl); (case hg => rfl); (case hr => first | (go_simp; done) | (go_simp; rfl)); intro ob hg w3 hbox hb; have J0 := Aside0.mk (show JAt w gb rb ob #[.int .i64 a0_0, .slice A0_1 l0_1.length c0_1, .int .i64 a0_2] (RecV a2_0 a2_1 a2_2 a2_3 a2_4 a2_5 a2_6 a2_7 a2_8 a2_9 a2_10 a2_11 a2_12 a2_13 a2_14 (.slice A2_15 l2_15.length c2_15)) w3 from ⟨below_step HB2.out hb, blk_below G2.out hb, blk_below R2.out hb, hbox, L1.out, by rw [hg]; exact HB2.out.size, N12.out, by rw [hg]; exact Nat.ne_of_lt (blk_lt G2.out), by rw [hg]; exact Nat.ne_of_lt (blk_lt R2.out)⟩); clear HB2 G2 R2 L1 L2 N12; clear hb hbox hg))
  (try simp only [Act.put, List.setIfInBounds_toArray, List.set_cons_zero, List.set_cons_succ])
  by_cases hc : c = 0
  · subst hc
    have H1 := H.out
    rw [if_pos rfl] at H1
    obtain ⟨d, hd, hr⟩ := Option.bind_eq_some_iff.1 H1
    have HWD := Aside0.mk (HWC.out d hd)
    have HR := Aside0.mk hr
    clear H H1 hd hr HWC
    by_cases hd0 : d = 0
    · subst hd0
      have hr := HR.out
      rw [if_pos rfl] at hr
      by_cases hg : goodJ a0_0 l0_1 a0_2 a2_0 a2_1 a2_14
      · rw [if_pos hg] at hr
        have HJ := Aside0.mk (Option.some.inj hr)
        have HGD := Aside0.mk hg
        clear hr hg HR
        obtain ⟨b0, b1, b2, -, -, -⟩ := grp_cells J0.out.2.1
        go_wp2_with (fail)
        refine (HGC.out _ J0.out.1).mono ?_
        rintro e w4 ⟨rfl, hb⟩
        have J1 := Aside0.mk (J0.out.below hb)
        clear hb b0 b1 b2
        obtain ⟨y0, y1, y2, y3, y4, y5, y6, y7, y8, y9, y10, y11, y12, y13, y14, y15⟩ := rec_cells J1.out.2.2.1
        go_wp2_with (fail)
        refine (HWD.out _ J1.out.1).mono ?_
        rintro e w5 ⟨rfl, hb⟩
        have J2 := Aside0.mk (J1.out.below hb)
        clear hb y0 y1 y2 y3 y4 y5 y6 y7 y8 y9 y10 y11 y12 y13 y14 y15
        obtain ⟨ad, hA, -⟩ := HR0.out.2.2 (by have := HGD.out.1; omega)
        subst hA
        obtain ⟨b0, b1, b2, f0, f1, f2⟩ := grp_cells J2.out.2.1
        have HCL := Aside0.mk (clone_calls ad c0_1 l0_1 w5 (Kd.C_below HR0.out J2.out.1) (by have := HGD.out.1; omega) (by have := HGD.out.1; omega))
        go_wp2_with (fail)
        refine HCL.out.mono ?_
        rintro e w6 ⟨g, cap, rfl, hge, hM, hb⟩
        have GQ := Aside0.mk (show GrpAt w gb g cap ob (.cells #[.int .i64 0, .slice none 0 0, .int .i64 0] 24 (0, 0)) a0_0 l0_1 a0_2 (w6.setCell ⟨gb, 1, none⟩ (.slice (some ⟨g, 0, none⟩) l0_1.length cap)) from
          ⟨below_set (below_then J2.out.1 J2.out.1.size hb) J2.out.2.2.2.2.1, blk_put (blk_below J2.out.2.1 hb) 1 _ rfl, hM.far (fun q => by have := blk_lt J2.out.2.1; omega) 1 _, J2.out.2.2.2.2.1, Nat.le_trans J2.out.1.size hge, (fun q => by have := blk_lt J2.out.2.1; omega),
           blk_far (blk_below J2.out.2.2.2.1 hb) (fun q => J2.out.2.2.2.2.2.2.2.1 q.symm) _, (fun q => J2.out.2.2.2.2.2.2.2.1 q.symm), (fun q => by have := blk_lt J2.out.2.2.2.1; omega)⟩)
        have RQ := Aside0.mk (show (w6.setCell ⟨gb, 1, none⟩ (.slice (some ⟨g, 0, none⟩) l0_1.length cap)).heap[rb]? = some (.cells (RecV a2_0 a2_1 a2_2 a2_3 a2_4 a2_5 a2_6 a2_7 a2_8 a2_9 a2_10 a2_11 a2_12 a2_13 a2_14 (.slice A2_15 l2_15.length c2_15)) 31 (0, 0)) from blk_far (blk_below J2.out.2.2.1 hb) (fun q => J2.out.2.2.2.2.2.2.1 q.symm) _)
        have NGR := Aside0.mk (show rb ≠ g from fun q => by have := blk_lt J2.out.2.2.1; omega)
        have JQ := Aside0.mk (show JAt w gb rb ob #[.int .i64 a0_0, (.slice (some ⟨g, 0, none⟩) l0_1.length cap), .int .i64 a0_2] (RecV a2_0 a2_1 a2_2 a2_3 a2_4 a2_5 a2_6 a2_7 a2_8 a2_9 a2_10 a2_11 a2_12 a2_13 a2_14 (.slice A2_15 l2_15.length c2_15)) (w6.setCell ⟨gb, 1, none⟩ (.slice (some ⟨g, 0, none⟩) l0_1.length cap)) from ⟨GQ.out.1, GQ.out.2.1, RQ.out, GQ.out.2.2.2.2.2.2.1, J2.out.2.2.2.2⟩)
        obtain ⟨b0, b1, b2, f0, f1, f2⟩ := grp_cells (blk_below J2.out.2.1 hb)
        clear hge hM hb HCL
        go_upto_region 4 with (fail)
        clear b0 b1 b2 f0 f1 f2
        generalize w6.setCell ⟨gb, 1, none⟩ (.slice (some ⟨g, 0, none⟩) l0_1.length cap) = wq at GQ RQ JQ ⊢
        obtain ⟨k, hk⟩ : ∃ k : Nat, a2_1 = (k : Int) + 1 := ⟨(a2_1 - 1).toNat, by have := HGD.out; unfold goodJ at this; omega⟩
        have hlt : k < l0_1.length := by have := HGD.out; unfold goodJ at this; omega
        have hx := List.getElem?_eq_getElem hlt
        generalize l0_1[k] = m at hx
        have hmr : 0 ≤ m.f1 ∧ m.f1 ≤ 1099511627775 := HGD.out.2.2.2.2.2.2.2.2.2.2 m (List.mem_of_getElem? hx)
        have hJ := HJ.out
        unfold judgeM at hJ
        rw [show (a2_1 - 1).toNat = k by omega, hx] at hJ
        simp only at hJ
        have HJ2 := Aside0.mk hJ
        have HX := Aside0.mk hx
        have hr : wrap64 (a2_1 - 1) = (k : Int) := by have := HGD.out.1; unfold wrap64; omega
        have HMR := Aside0.mk hmr
        have e5 := eq_true hlt
        have e6 : wrap64 (m.f1 + 1) = m.f1 + 1 := by unfold wrap64; omega
        have E6 := Aside0.mk e6
        have e7 : IntKind.i64.wrap (m.f1 + 1) = m.f1 + 1 := by rw [IntKind.wrap_i64]; omega
        have HKK := Aside0.mk hk
        clear hJ hk hx hlt hmr HJ e6
        obtain ⟨b0, b1, b2, f0, f1, f2⟩ := grp_cells GQ.out.2.1
        obtain ⟨y0, y1, y2, y3, y4, y5, y6, y7, y8, y9, y10, y11, y12, y13, y14, y15⟩ := rec_cells RQ.out
        go_upto_region 5 with (fail)
        clear hr e5
        have mc := (GQ.out.2.2.1.cell k m HX.out).2.1
        have JQD := Aside0.mk (JQ.out.below (below_drew1 (Below.refl _ _)))
        have oc := JQD.out
        obtain ⟨o0, o1, o2, p0, p1, p2⟩ := grp_cells oc.2.2.2.1
        clear oc
        by_cases hA : 1099511627775 ≤ m.f1
        · have hJ := HJ2.out
          rw [if_pos (.inl hA)] at hJ
          cases hJ
          have q1 : decide (1099511627775 ≤ m.f1) = true := decide_eq_true hA
          clear hA e7
          refine start_ (n := 16) (S := fun w' => w'.cell? ⟨g, k * 3 + 1, none⟩ = some (.int .i64 m.f1) ∧ w'.cell? ⟨rb, 2, none⟩ = some (.int .i64 a2_2)) (ds := []) #[false, false, false, false, false, false, false, false, false, false, false, false, false, false, false, false] (by kernel_rfl) rfl rfl ⟨mc, y2⟩ (fun hHeld => ?_)
          refine pz_ 0 31 rfl rfl (by kernel_rfl) ?_
          refine pz_ 1 32 rfl rfl (by kernel_rfl) ?_
          refine pz_ 2 33 rfl rfl (by kernel_rfl) ?_
          refine take_ (i := 3) (N := some 34) (v := ?_) (a' := ?_) #[true, true, true, true, false, false, false, false, false, false, false, false, false, false, false, false] rfl rfl (by kernel_rfl) (fun _ _ _ h => h) (Or.inl ⟨by rfl, ?_⟩) hHeld ?_ ?_
          rotate_left
          · rintro w' ⟨s0, s1⟩
            go_simp
            with_reducible rfl
          rotate_left
          · simp only [Act.put, List.setIfInBounds_toArray, List.set_cons_zero, List.set_cons_succ, i64_w, i32_w]
            rfl
          refine pz_ 4 35 rfl rfl (by kernel_rfl) ?_
          refine pz_ 5 36 rfl rfl (by kernel_rfl) ?_
          refine pure_ (i := 6) (N := some 37) (v := undef) (a' := ?_) #[true, true, true, true, true, true, true, false, false, false, false, false, false, false, false, false] rfl rfl (by kernel_rfl) (fun _ _ _ h => h) (Or.inr ⟨by rfl, rfl⟩) ?_ ?_
          rotate_left
          · simp only [Act.put, List.setIfInBounds_toArray, List.set_cons_zero, List.set_cons_succ, i64_w, i32_w]
            rfl
          refine pure_ (i := 7) (N := some 38) (v := undef) (a' := ?_) #[true, true, true, true, true, true, true, true, false, false, false, false, false, false, false, false] rfl rfl (by kernel_rfl) (fun _ _ _ h => h) (Or.inr ⟨by rfl, rfl⟩) ?_ ?_
          rotate_left
          · simp only [Act.put, List.setIfInBounds_toArray, List.set_cons_zero, List.set_cons_succ, i64_w, i32_w]
            rfl
          refine pure_ (i := 8) (N := some 39) (v := undef) (a' := ?_) #[true, true, true, true, true, true, true, true, true, false, false, false, false, false, false, false] rfl rfl (by kernel_rfl) (fun _ _ _ h => h) (Or.inr ⟨by rfl, rfl⟩) ?_ ?_
          rotate_left
          · simp only [Act.put, List.setIfInBounds_toArray, List.set_cons_zero, List.set_cons_succ, i64_w, i32_w]
            rfl
          refine pure_ (i := 9) (N := some 40) (v := undef) (a' := ?_) #[true, true, true, true, true, true, true, true, true, true, false, false, false, false, false, false] rfl rfl (by kernel_rfl) (fun _ _ _ h => h) (Or.inr ⟨by rfl, rfl⟩) ?_ ?_
          rotate_left
          · simp only [Act.put, List.setIfInBounds_toArray, List.set_cons_zero, List.set_cons_succ, i64_w, i32_w]
            rfl
          refine pure_ (i := 10) (N := some 41) (v := undef) (a' := ?_) #[true, true, true, true, true, true, true, true, true, true, true, false, false, false, false, false] rfl rfl (by kernel_rfl) (fun _ _ _ h => h) (Or.inr ⟨by rfl, rfl⟩) ?_ ?_
          rotate_left
          · simp only [Act.put, List.setIfInBounds_toArray, List.set_cons_zero, List.set_cons_succ, i64_w, i32_w]
            rfl
          refine pure_ (i := 11) (N := some 42) (v := undef) (a' := ?_) #[true, true, true, true, true, true, true, true, true, true, true, true, false, false, false, false] rfl rfl (by kernel_rfl) (fun _ _ _ h => h) (Or.inr ⟨by rfl, rfl⟩) ?_ ?_
          rotate_left
          · simp only [Act.put, List.setIfInBounds_toArray, List.set_cons_zero, List.set_cons_succ, i64_w, i32_w]
            rfl
          refine pure_ (i := 12) (N := some 43) (v := undef) (a' := ?_) #[true, true, true, true, true, true, true, true, true, true, true, true, true, false, false, false] rfl rfl (by kernel_rfl) (fun _ _ _ h => h) (Or.inr ⟨by rfl, rfl⟩) ?_ ?_
          rotate_left
          · simp only [Act.put, List.setIfInBounds_toArray, List.set_cons_zero, List.set_cons_succ, i64_w, i32_w]
            rfl
          refine pure_ (i := 13) (N := some 44) (v := undef) (a' := ?_) #[true, true, true, true, true, true, true, true, true, true, true, true, true, true, false, false] rfl rfl (by kernel_rfl) (fun _ _ _ h => h) (Or.inr ⟨by rfl, rfl⟩) ?_ ?_
          rotate_left
          · simp only [Act.put, List.setIfInBounds_toArray, List.set_cons_zero, List.set_cons_succ, i64_w, i32_w]
            rfl
          refine pz_ 14 45 rfl rfl (by kernel_rfl) ?_
          refine pz_ 15 30 rfl rfl (by kernel_rfl) ?_
          refine done_ (by kernel_rfl) ?_
          generalize wq.drew = wd at JQD o0 o1 o2 p0 p1 p2 ⊢
          go_wp2_with (fail)
          refine bodyPost_ret (results_ctt rfl _ _ ob 24 #[.int .i64 0, .slice none 0 0, .int .i64 0] (0, 0) _ rfl JQD.out.zero.1 Tryd.underlying24 rfl (by kernel_rfl)) rfl ?_
          exact ⟨_, rfl, Kd.R_nil _ _ _ _ _, JQD.out.zero.2⟩
        · have q1 : decide (1099511627775 ≤ m.f1) = false := decide_eq_false hA
          by_cases hB : a2_2 = m.f1 + 1
          · have q2 : (a2_2 != m.f1 + 1) = false := by rw [hB]; exact bne_self_eq_false _
            have hJ := HJ2.out
            rw [if_neg (show ¬ (1099511627775 ≤ m.f1 ∨ a2_2 ≠ m.f1 + 1) by omega)] at hJ
            have HJ3 := Aside0.mk hJ
            have HAA := Aside0.mk hA
            clear hA hB hJ HJ2
            refine start_ (n := 16) (S := fun w' => w'.cell? ⟨g, k * 3 + 1, none⟩ = some (.int .i64 m.f1) ∧ w'.cell? ⟨rb, 2, none⟩ = some (.int .i64 a2_2)) (ds := []) #[false, false, false, false, false, false, false, false, false, false, false, false, false, false, false, false] (by kernel_rfl) rfl rfl ⟨mc, y2⟩ (fun hHeld => ?_)
            refine pz_ 0 31 rfl rfl (by kernel_rfl) ?_
            refine pz_ 1 32 rfl rfl (by kernel_rfl) ?_
            refine pz_ 2 33 rfl rfl (by kernel_rfl) ?_
            refine take_ (i := 3) (N := some 34) (v := ?_) (a' := ?_) #[true, true, true, true, false, false, false, false, false, false, false, false, false, false, false, false] rfl rfl (by kernel_rfl) (fun _ _ _ h => h) (Or.inl ⟨by rfl, ?_⟩) hHeld ?_ ?_
            rotate_left
            · rintro w' ⟨s0, s1⟩
              go_simp
              with_reducible rfl
            rotate_left
            · simp only [Act.put, List.setIfInBounds_toArray, List.set_cons_zero, List.set_cons_succ, i64_w, i32_w]
              rfl
            refine pz_ 4 35 rfl rfl (by kernel_rfl) ?_
            refine pz_ 5 36 rfl rfl (by kernel_rfl) ?_
            refine pz_ 6 37 rfl rfl (by kernel_rfl) ?_
            refine pz_ 8 39 rfl rfl (by kernel_rfl) ?_
            refine pz_ 9 40 rfl rfl (by kernel_rfl) ?_
            refine pz_ 10 41 rfl rfl (by kernel_rfl) ?_
            refine take_ (i := 7) (N := some 38) (v := ?_) (a' := ?_) #[true, true, true, true, true, true, true, true, true, true, true, false, false, false, false, false] rfl rfl (by kernel_rfl) (fun _ _ _ h => h) (Or.inl ⟨by rfl, ?_⟩) hHeld ?_ ?_
            rotate_left
            · rintro w' ⟨s0, s1⟩
              go_simp
              with_reducible rfl
            rotate_left
            · simp only [Act.put, List.setIfInBounds_toArray, List.set_cons_zero, List.set_cons_succ, i64_w, i32_w]
              rfl
            refine take_ (i := 11) (N := some 42) (v := ?_) (a' := ?_) #[true, true, true, true, true, true, true, true, true, true, true, true, false, false, false, false] rfl rfl (by kernel_rfl) (fun _ _ _ h => h) (Or.inl ⟨by rfl, ?_⟩) hHeld ?_ ?_
            rotate_left
            · rintro w' ⟨s0, s1⟩
              go_simp
              with_reducible rfl
            rotate_left
            · simp only [Act.put, List.setIfInBounds_toArray, List.set_cons_zero, List.set_cons_succ, i64_w, i32_w]
              rfl
            refine pz_ 12 43 rfl rfl (by kernel_rfl) ?_
            refine pz_ 13 44 rfl rfl (by kernel_rfl) ?_
            refine pz_ 14 45 rfl rfl (by kernel_rfl) ?_
            refine pz_ 15 30 rfl rfl (by kernel_rfl) ?_
            refine done_ (by kernel_rfl) ?_
            have GQD := Aside0.mk (GQ.out.below (below_drew1 (Below.refl _ _)))
            have RQD := Aside0.mk (show wq.drew.heap[rb]? = _ from RQ.out)
            clear mc y0 y1 y2 y3 y4 y5 y6 y7 y8 y9 y10 y11 y12 y13 y14 y15 b0 b1 b2 f0 f1 f2
            generalize wq.drew = wd at JQD GQD RQD o0 o1 o2 p0 p1 p2 ⊢
            clear GQ RQ JQ
            obtain ⟨b0, b1, b2, f0, f1, f2⟩ := grp_cells GQD.out.2.1
            have mc := (GQD.out.2.2.1.cell k m HX.out).2.1
            have w7 : wrap64 (a0_0 - 1) = a0_0 - 1 := by have := HGD.out; unfold goodJ at this; unfold wrap64; omega
            by_cases hE : a1 < 1 ∨ a0_0 < a1 ∨ a1 < a0_0 - 1
            · have hJ := HJ3.out
              rw [if_pos hE] at hJ
              cases hJ
              by_cases h1 : a1 < 1
              · have q3 : decide (a1 < 1) = true := decide_eq_true h1
                clear h1 hE e7 w7
                go_wp2_with (fail)
                refine bodyPost_ret (results_ctt rfl _ _ ob 24 #[.int .i64 0, .slice none 0 0, .int .i64 0] (0, 0) _ rfl JQD.out.zero.1 Tryd.underlying24 rfl (by kernel_rfl)) rfl ?_
                exact ⟨_, rfl, Kd.R_nil _ _ _ _ _, JQD.out.zero.2⟩
              · have q3 : decide (a1 < 1) = false := decide_eq_false h1
                by_cases h2 : a0_0 < a1
                · have q4 : decide (a0_0 < a1) = true := decide_eq_true h2
                  clear h1 h2 hE e7 w7
                  go_wp2_with (fail)
                  refine bodyPost_ret (results_ctt rfl _ _ ob 24 #[.int .i64 0, .slice none 0 0, .int .i64 0] (0, 0) _ rfl JQD.out.zero.1 Tryd.underlying24 rfl (by kernel_rfl)) rfl ?_
                  exact ⟨_, rfl, Kd.R_nil _ _ _ _ _, JQD.out.zero.2⟩
                · have q4 : decide (a0_0 < a1) = false := decide_eq_false h2
                  have q5 : decide (a1 < a0_0 - 1) = true := decide_eq_true (by omega)
                  clear h1 h2 hE e7
                  go_wp2_with (fail)
                  refine bodyPost_ret (results_ctt rfl _ _ ob 24 #[.int .i64 0, .slice none 0 0, .int .i64 0] (0, 0) _ rfl JQD.out.zero.1 Tryd.underlying24 rfl (by kernel_rfl)) rfl ?_
                  exact ⟨_, rfl, Kd.R_nil _ _ _ _ _, JQD.out.zero.2⟩
            · have hJ := HJ3.out
              rw [if_neg hE] at hJ
              have q3 : decide (a1 < 1) = false := decide_eq_false (fun q => hE (.inl q))
              have q4 : decide (a0_0 < a1) = false := decide_eq_false (fun q => hE (.inr (.inl q)))
              have q5 : decide (a1 < a0_0 - 1) = false := decide_eq_false (fun q => hE (.inr (.inr q)))
              have HJ4 := Aside0.mk hJ
              clear hE hJ HJ3
              go_upto_region 9 with (fail)
              clear q3 q4 q5 w7
              have e6 := E6.out
              obtain ⟨cs, hcs, _⟩ := GQD.out.2.2.1
              have fz := blk_frozen hcs (k * 3 + 1)
              clear hcs
              have GS := Aside0.mk (GQD.out.setM k 1 (by decide) m { m with f1 := m.f1 + 1 } (.int .i64 (m.f1 + 1)) HX.out rfl)
              have RS := Aside0.mk (show (wd.setCell ⟨g, k * 3 + 1, none⟩ (.int .i64 (m.f1 + 1))).heap[rb]? = some (.cells (RecV a2_0 a2_1 a2_2 a2_3 a2_4 a2_5 a2_6 a2_7 a2_8 a2_9 a2_10 a2_11 a2_12 a2_13 a2_14 (.slice A2_15 l2_15.length c2_15)) 31 (0, 0)) from blk_far RQD.out NGR.out _)
              go_upto_region 10 with (fail)
              clear e6 e7 mc fz b0 b1 b2 f0 f1 f2
              generalize wd.setCell ⟨g, k * 3 + 1, none⟩ (.int .i64 (m.f1 + 1)) = ws at GS RS ⊢
              obtain ⟨y0, y1, y2, y3, y4, y5, y6, y7, y8, y9, y10, y11, y12, y13, y14, y15⟩ := rec_cells RS.out
              have HDO := Aside0.mk (does_calls w gb g cap ob (.cells #[.int .i64 0, .slice none 0 0, .int .i64 0] 24 (0, 0)) a0_0 a0_2 a1 (l0_1.set k { m with f1 := m.f1 + 1 }) a2_0 a2_1 a2_2 a2_3 a2_4 a2_5 a2_6 a2_7 a2_8 a2_9 a2_10 a2_11 a2_12 a2_13 a2_14 (.slice A2_15 l2_15.length c2_15) ws GS.out (by rw [List.length_set]; exact HGD.out.1) ⟨HGD.out.2.1, HGD.out.2.2.1⟩ ⟨HGD.out.2.2.2.1, HGD.out.2.2.2.2.1⟩ HGD.out.2.2.2.2.2.2.2.2.2.1 ⟨HGD.out.2.2.2.2.2.2.2.1, HGD.out.2.2.2.2.2.2.2.2.1⟩)
              generalize doesM a0_0 (l0_1.set k { m with f1 := m.f1 + 1 }) a0_2 a1 a2_0 a2_1 a2_14 = D at HDO HJ4
              obtain ⟨D1, D2, D3, D4⟩ := D
              have hJ := HJ4.out
              simp only [Prod.mk.injEq] at hJ
              obtain ⟨rfl, rfl, rfl, rfl, rfl⟩ := hJ
              simp only at HDO
              go_wp2_with (fail)
              refine HDO.out.mono ?_
              rintro e wf ⟨rfl, hG⟩
              have GF := Aside0.mk hG
              clear hG y0 y1 y2 y3 y4 y5 y6 y7 y8 y9 y10 y11 y12 y13 y14 y15 o0 o1 o2 p0 p1 p2 HDO
              obtain ⟨b0, b1, b2, f0, f1, f2⟩ := grp_cells GF.out.2.1
              obtain ⟨o0, o1, o2, p0, p1, p2⟩ := grp_cells GF.out.2.2.2.2.2.2.1
              go_wp2_with (fail)
              refine bodyPost_ret (results_ctt rfl _ _ ob 24 #[.int .i64 D1, .slice (some ⟨g, 0, none⟩) D2.length cap, .int .i64 D3] (0, 0) _ rfl (blk_put (blk_put (blk_put GF.out.2.2.2.2.2.2.1 0 _ rfl) 1 _ rfl) 2 _ rfl) Tryd.underlying24 rfl (by kernel_rfl)) rfl ?_
              exact ⟨_, rfl, MemAt.R (((GF.out.2.2.1.far GF.out.2.2.2.2.2.2.2.2.symm 0 _).far GF.out.2.2.2.2.2.2.2.2.symm 1 _).far GF.out.2.2.2.2.2.2.2.2.symm 2 _) _ GF.out.2.2.2.2.1 _ trivial, below_set (below_set (below_set GF.out.1 JQD.out.2.2.2.2.2.1) JQD.out.2.2.2.2.2.1) JQD.out.2.2.2.2.2.1⟩
          · have q2 : (a2_2 != m.f1 + 1) = true := bne_iff_ne.2 hB
            have hJ := HJ2.out
            rw [if_pos (.inr hB)] at hJ
            cases hJ
            clear hA hB
            refine start_ (n := 16) (S := fun w' => w'.cell? ⟨g, k * 3 + 1, none⟩ = some (.int .i64 m.f1) ∧ w'.cell? ⟨rb, 2, none⟩ = some (.int .i64 a2_2)) (ds := []) #[false, false, false, false, false, false, false, false, false, false, false, false, false, false, false, false] (by kernel_rfl) rfl rfl ⟨mc, y2⟩ (fun hHeld => ?_)
            refine pz_ 0 31 rfl rfl (by kernel_rfl) ?_
            refine pz_ 1 32 rfl rfl (by kernel_rfl) ?_
            refine pz_ 2 33 rfl rfl (by kernel_rfl) ?_
            refine take_ (i := 3) (N := some 34) (v := ?_) (a' := ?_) #[true, true, true, true, false, false, false, false, false, false, false, false, false, false, false, false] rfl rfl (by kernel_rfl) (fun _ _ _ h => h) (Or.inl ⟨by rfl, ?_⟩) hHeld ?_ ?_
            rotate_left
            · rintro w' ⟨s0, s1⟩
              go_simp
              with_reducible rfl
            rotate_left
            · simp only [Act.put, List.setIfInBounds_toArray, List.set_cons_zero, List.set_cons_succ, i64_w, i32_w]
              rfl
            refine pz_ 4 35 rfl rfl (by kernel_rfl) ?_
            refine pz_ 5 36 rfl rfl (by kernel_rfl) ?_
            refine pz_ 6 37 rfl rfl (by kernel_rfl) ?_
            refine pz_ 8 39 rfl rfl (by kernel_rfl) ?_
            refine pz_ 9 40 rfl rfl (by kernel_rfl) ?_
            refine pz_ 10 41 rfl rfl (by kernel_rfl) ?_
            refine take_ (i := 7) (N := some 38) (v := ?_) (a' := ?_) #[true, true, true, true, true, true, true, true, true, true, true, false, false, false, false, false] rfl rfl (by kernel_rfl) (fun _ _ _ h => h) (Or.inl ⟨by rfl, ?_⟩) hHeld ?_ ?_
            rotate_left
            · rintro w' ⟨s0, s1⟩
              go_simp
              with_reducible rfl
            rotate_left
            · simp only [Act.put, List.setIfInBounds_toArray, List.set_cons_zero, List.set_cons_succ, i64_w, i32_w]
              rfl
            refine take_ (i := 11) (N := some 42) (v := ?_) (a' := ?_) #[true, true, true, true, true, true, true, true, true, true, true, true, false, false, false, false] rfl rfl (by kernel_rfl) (fun _ _ _ h => h) (Or.inl ⟨by rfl, ?_⟩) hHeld ?_ ?_
            rotate_left
            · rintro w' ⟨s0, s1⟩
              go_simp
              with_reducible rfl
            rotate_left
            · simp only [Act.put, List.setIfInBounds_toArray, List.set_cons_zero, List.set_cons_succ, i64_w, i32_w]
              rfl
            refine pz_ 12 43 rfl rfl (by kernel_rfl) ?_
            refine pz_ 13 44 rfl rfl (by kernel_rfl) ?_
            refine pz_ 14 45 rfl rfl (by kernel_rfl) ?_
            refine pz_ 15 30 rfl rfl (by kernel_rfl) ?_
            refine done_ (by kernel_rfl) ?_
            generalize wq.drew = wd at JQD o0 o1 o2 p0 p1 p2 ⊢
            go_wp2_with (fail)
            refine bodyPost_ret (results_ctt rfl _ _ ob 24 #[.int .i64 0, .slice none 0 0, .int .i64 0] (0, 0) _ rfl JQD.out.zero.1 Tryd.underlying24 rfl (by kernel_rfl)) rfl ?_
            exact ⟨_, rfl, Kd.R_nil _ _ _ _ _, JQD.out.zero.2⟩
      · rw [if_neg hg] at hr
        cases hr
    · have hr := HR.out
      rw [if_neg hd0] at hr
      cases hr
      have dn : (d != 0) = true := bne_iff_ne.2 hd0
      clear hd0 HR
      obtain ⟨b0, b1, b2, -, -, -⟩ := grp_cells J0.out.2.1
      go_wp2_with (fail)
      refine (HGC.out _ J0.out.1).mono ?_
      rintro e w4 ⟨rfl, hb⟩
      have J1 := Aside0.mk (J0.out.below hb)
      clear hb b0 b1 b2
      obtain ⟨y0, y1, y2, y3, y4, y5, y6, y7, y8, y9, y10, y11, y12, y13, y14, y15⟩ := rec_cells J1.out.2.2.1
      go_wp2_with (fail)
      refine (HWD.out _ J1.out.1).mono ?_
      rintro e w5 ⟨rfl, hb⟩
      have J2 := Aside0.mk (J1.out.below hb)
      clear hb y0 y1 y2 y3 y4 y5 y6 y7 y8 y9 y10 y11 y12 y13 y14 y15
      obtain ⟨o0, o1, o2, p0, p1, p2⟩ := grp_cells J2.out.2.2.2.1
      go_wp2_with (fail)
      refine bodyPost_ret (results_ctt rfl _ _ ob 24 #[.int .i64 0, .slice none 0 0, .int .i64 0] (0, 0) _ rfl J2.out.zero.1 Tryd.underlying24 rfl (by kernel_rfl)) rfl ?_
      exact ⟨_, rfl, Kd.R_nil _ _ _ _ _, J2.out.zero.2⟩
  · have hr := H.out
    rw [if_neg hc] at hr
    cases hr
    have dn : (c != 0) = true := bne_iff_ne.2 hc
    clear hc H HWC
    obtain ⟨b0, b1, b2, -, -, -⟩ := grp_cells J0.out.2.1
    go_wp2_with (fail)
    refine (HGC.out _ J0.out.1).mono ?_
    rintro e w4 ⟨rfl, hb⟩
    have J1 := Aside0.mk (J0.out.below hb)
    clear hb b0 b1 b2
    obtain ⟨o0, o1, o2, p0, p1, p2⟩ := grp_cells J1.out.2.2.2.1
    go_wp2_with (fail)
    refine bodyPost_ret (results_ctt rfl _ _ ob 24 #[.int .i64 0, .slice none 0 0, .int .i64 0] (0, 0) _ rfl J1.out.zero.1 Tryd.underlying24 rfl (by kernel_rfl)) rfl ?_
    exact ⟨_, rfl, Kd.R_nil _ _ _ _ _, J1.out.zero.2⟩
end Go.Proofs.YthemhfloablccaaDoor.Pr
end

section
namespace Go.Proofs.YthemhfloablccaaDoor.Pr
open Go.RowKit Go.Proofs.YthemhfloablccaaDoorW.PrintWords Go.Proofs.YthemhfloablccaaDoorW.PrintLast
def bys (s : ByteArray) : List Nat := s.data.toList.map UInt8.toNat
def txt (l : List Nat) : ByteArray := ⟨(l.map fun n => UInt8.ofNat n).toArray⟩
theorem bys_length (s : ByteArray) : (bys s).length = s.size := by rw [bys, List.length_map, data_length]
theorem str_nats (l : List Nat) : strOfNums (l.map fun (n : Nat) => (n : Int)) = txt l := by
 unfold strOfNums txt
 rw [List.map_map]
 rfl
end Go.Proofs.YthemhfloablccaaDoor.Pr
end

section
namespace Go.Proofs.YthemhfloablccaaDoor.Pr
open Go.RowKit Go.Proofs.YthemhfloablccaaDoorW.PrintWords Go.Proofs.YthemhfloablccaaDoorW.PrintLast Go.Proofs.YthemhfloablccaaDoorW.PrintMore
attribute [local go_sem] max2_int min2_int max_two min_two max_three min_three max_four min_four
def code_one.f (a0 : Int) : Option (Bool) := if a0 ≥ 0 then (some (decide (a0 ≤ 255))) else (some false)
set_option maxHeartbeats 8000000 in
set_option maxRecDepth 100000 in
theorem code_one.calls (a0 : Int) (r : Bool) (w : World) (h : code_one.f a0 = some r) :
  Calls Tryd.prog 90 #[.int .i64 a0] w fun e w' => e = .returned (.bool r) ∧ Drawn0 w w' := by
 have H : (if a0 ≥ 0 then (some (decide (a0 ≤ 255))) else (some false)) = some r := h; clear h; by_cases c2 : a0 ≥ 0
 ·rw [if_pos c2] at H; have c2b0 : decide (0 ≤ a0) = true := decide_eq_true c2; clear c2; obtain rfl := Option.some.inj H; go_enter Tryd.func90, Tryd.ntmps90
  go_wp2; go_ret
  exact ⟨rz_, dz_⟩
 ·rw [if_neg c2] at H; have c2b0 : decide (0 ≤ a0) = false := decide_eq_false c2; clear c2; obtain rfl := Option.some.inj H; go_enter Tryd.func90, Tryd.ntmps90
  go_wp2; go_ret
  exact ⟨rz_, dz_⟩
def code_time.f (a0 : Int) : Option (Bool) := if a0 ≥ 0 then (some (decide (a0 ≤ 1099511627775))) else (some false)
set_option maxHeartbeats 8000000 in
set_option maxRecDepth 100000 in
theorem code_time.calls (a0 : Int) (r : Bool) (w : World) (h : code_time.f a0 = some r) :
  Calls Tryd.prog 89 #[.int .i64 a0] w fun e w' => e = .returned (.bool r) ∧ Drawn0 w w' := by
 have H : (if a0 ≥ 0 then (some (decide (a0 ≤ 1099511627775))) else (some false)) = some r := h; clear h; by_cases c2 : a0 ≥ 0
 ·rw [if_pos c2] at H; have c2b0 : decide (0 ≤ a0) = true := decide_eq_true c2; clear c2; obtain rfl := Option.some.inj H; go_enter Tryd.func89, Tryd.ntmps89
  go_wp2; go_ret
  exact ⟨rz_, dz_⟩
 ·rw [if_neg c2] at H; have c2b0 : decide (0 ≤ a0) = false := decide_eq_false c2; clear c2; obtain rfl := Option.some.inj H; go_enter Tryd.func89, Tryd.ntmps89
  go_wp2; go_ret
  exact ⟨rz_, dz_⟩
end Go.Proofs.YthemhfloablccaaDoor.Pr
end

section
namespace Go.Proofs.YthemhfloablccaaDoor.Pr
open Go.RowKit Go.Deep Go.Proofs.YthemhfloablccaaDoorW.PrintWords Go.Proofs.YthemhfloablccaaDoorW.PrintLast Go.Proofs.YthemhfloablccaaDoorW.PrintMore
set_option maxHeartbeats 1000000
def cellsN (l : List Nat) : List Value := l.map fun (n : Nat) => Value.int .u8 (n : Int)
theorem cellsN_length (l : List Nat) : (cellsN l).length = l.length := by simp [cellsN]
theorem cellsN_append (a b : List Nat) : cellsN (a ++ b) = cellsN a ++ cellsN b := by simp [cellsN]
theorem cellsN_one (l : List Nat) : ∀ u ∈ cellsN l, u.oneCell' = true := by
 intro u hu
 unfold cellsN at hu
 rw [List.mem_map] at hu
 obtain ⟨n, _, rfl⟩ := hu
 rfl
def FrO (w w' : World) : Prop := w.heap.size ≤ w'.heap.size ∧ ∀ (k : Nat) (o : Obj), w.heap[k]? = some o → (∀ cs t z, o = Obj.cells cs t z → t ≠ 122 ∧ t ≠ 5) → w'.heap[k]? = some o
section
variable {w w' w1 w2 : World} {g : Nat} {cs : Array Value} {t : TypeId} {z : Nat × Nat} {B : Nat} {mk bad : Bool} {L : List Nat}
theorem FrO.refl (w : World) : FrO w w := ⟨Nat.le_refl _, fun _ _ h _ => h⟩
theorem FrO.trans (h : FrO w w1) (k : FrO w1 w2) : FrO w w2 := ⟨Nat.le_trans h.1 k.1, fun i o hi ho => k.2 i o (h.2 i o hi ho) ho⟩
theorem FrO.of_below (h : Below w.heap.size w w') : FrO w w' := ⟨h.size, fun k o hk _ => (h.block k (by
 rcases Nat.lt_or_ge k w.heap.size with h1 | h1
 ·exact h1
 ·rw [Array.getElem?_eq_none h1] at hk; cases hk)).trans hk⟩
theorem FrO.blk (h : FrO w w') (hb : w.heap[g]? = some (.cells cs t z)) (h1 : t ≠ 122) (h2 : t ≠ 5) : w'.heap[g]? = some (.cells cs t z) :=
 h.2 g _ hb (fun _ _ _ e => by injection e with _ e _; rw [← e]; exact ⟨h1, h2⟩)
theorem FrO.put (h : FrO w w1) (hb : w1.heap[g]? = some (.cells cs t z)) (ht : t = 122 ∨ t = 5) (j : Nat) (u : Value) : FrO w (w1.setCell ⟨g, j, none⟩ u) := by
 refine h.trans ⟨by simp [World.setCell], fun k o hk ho => ?_⟩
 by_cases e : k = g
 ·subst e
  rw [hb] at hk
  injection hk with hk
  have := ho _ _ _ hk.symm
  rcases ht with ht | ht
  ·exact absurd ht this.1
  ·exact absurd ht this.2
 ·exact (Below.heap_setCell w1 ⟨g, j, none⟩ u k e).trans hk
theorem FrO.new (h : FrO w w1) (hg : w.heap.size ≤ g) (j : Nat) (u : Value) : FrO w (w1.setCell ⟨g, j, none⟩ u) := by
 refine ⟨by simpa [World.setCell] using h.1, fun k o hk ho => ?_⟩
 have hlt : k < w.heap.size := by
  rcases Nat.lt_or_ge k w.heap.size with h1 | h1
  ·exact h1
  ·rw [Array.getElem?_eq_none h1] at hk; cases hk
 exact (Below.heap_setCell w1 ⟨g, j, none⟩ u k (by show k ≠ g; omega)).trans (h.2 k o hk ho)
theorem FrO.alloc (h : FrO w w1) (o : Obj) : FrO w (w1.alloc o) := h.trans (FrO.of_below (below_alloc (Below.refl _ _) o))
theorem FrO.drewN (h : FrO w w1) (n : Nat) : FrO w (w1.drewN n) := h
theorem FrO.grown {row : Option Nat} (h : FrO w w1) (hg : w1.grownBy w2 row) (hr : ∀ k, row = some k → ∃ cs z, w1.heap[k]? = some (.cells cs 5 z)) : FrO w w2 := by
 refine h.trans ⟨hg.size, fun k o hk ho => ?_⟩
 by_cases e : row = some k
 ·obtain ⟨cs, z, hc⟩ := hr k e
  rw [hc] at hk
  injection hk with hk
  exact absurd rfl (ho _ _ _ hk.symm).2
 ·have hlt : k < w1.heap.size := by
   rcases Nat.lt_or_ge k w1.heap.size with h1 | h1
   ·exact h1
   ·rw [Array.getElem?_eq_none h1] at hk; cases hk
  exact (hg.block k hlt (fun h => e h.symm)).trans hk
def OutAt (B g : Nat) (mk bad : Bool) (L : List Nat) (w : World) : Prop :=
 B ≤ g ∧ ∃ v, w.heap[g]? = some (.cells #[.bool mk, .bool bad, v] 122 (0, 0)) ∧ w.ownsRow B 5 1 v L.length (cellsN L)
theorem own_u8 {v : Value} {n : Nat} {xs : List Value} (h : w.ownsRow B 5 1 v n xs) : ∀ k, v.ownBlock = some k → ∃ cs z, w.heap[k]? = some (.cells cs 5 z) := by
 intro k hk
 rcases h.2 with ⟨rfl, _⟩ | ⟨g', cap, cur, rfl, _, hh, _⟩
 ·simp [Value.ownBlock] at hk
 ·have : g' = k := by simpa [Value.ownBlock] using hk
  subst this
  exact ⟨_, _, hh⟩
theorem own_ne {v : Value} {n : Nat} {xs : List Value} (h : w.ownsRow B 5 1 v n xs) (hb : w.heap[g]? = some (.cells cs t z)) (ht : t ≠ 5) : v.ownBlock ≠ some g := by
 intro e
 obtain ⟨cs', z', hc⟩ := own_u8 h g e
 rw [hb] at hc
 injection hc with hc
 injection hc with _ hc _
 exact ht hc
theorem OutAt.lt (h : OutAt B g mk bad L w) : g < w.heap.size := by
 obtain ⟨_, v, hb, _⟩ := h
 exact blk_lt hb
theorem OutAt.below (h : OutAt B g mk bad L w) (hb : Below w.heap.size w w1) : OutAt B g mk bad L w1 := by
 obtain ⟨h0, v, h1, h2⟩ := h
 exact ⟨h0, v, blk_below h1 hb, pw_own_below h2 hb⟩
theorem OutAt.alloc (h : OutAt B g mk bad L w) (o : Obj) : OutAt B g mk bad L (w.alloc o) := h.below (below_alloc (Below.refl _ _) o)
theorem OutAt.drewN (h : OutAt B g mk bad L w) (n : Nat) : OutAt B g mk bad L (w.drewN n) := h.below (pw_below_drewN (Below.refl _ _) n)
theorem own_far {v : Value} {n : Nat} {xs : List Value} (h : w.ownsRow B 5 1 v n xs) {p : Nat} (hp : v.ownBlock ≠ some p) (j : Nat) (u : Value) : (w.setCell ⟨p, j, none⟩ u).ownsRow B 5 1 v n xs := by
 refine ⟨h.1, ?_⟩
 rcases h.2 with ⟨rfl, h2⟩ | ⟨g', cap, cur, rfl, hb, hh, hc, hr⟩
 ·exact .inl ⟨rfl, h2⟩
 ·have hne : g' ≠ p := fun e => hp (by simp [Value.ownBlock, e])
  exact .inr ⟨g', cap, cur, rfl, hb, (Below.heap_setCell w ⟨p, j, none⟩ u g' hne).trans hh, hc, hr⟩
theorem OutAt.far (h : OutAt B g mk bad L w) {p : Nat} (hp : w.heap[p]? = some (.cells cs t z)) (h1 : t ≠ 122) (h2 : t ≠ 5) (j : Nat) (u : Value) : OutAt B g mk bad L (w.setCell ⟨p, j, none⟩ u) := by
 obtain ⟨h0, v, hb, ho⟩ := h
 have hne : g ≠ p := by
  rintro rfl
  rw [hb] at hp
  injection hp with hp
  injection hp with _ hp _
  exact h1 hp.symm
 exact ⟨h0, v, (Below.heap_setCell w ⟨p, j, none⟩ u g hne).trans hb, own_far ho (own_ne ho hp h2) j u⟩
theorem blk_thaw {fr : World} (h : fr.heap[g]? = some (.cells cs t (0, 0))) (i : Nat) : fr.frozen? ⟨g, i, none⟩ = false := by simp [World.frozen?, h]
theorem OutAt.flag (h : OutAt B g mk bad L w) (b : Bool) : OutAt B g mk b L (w.setCell ⟨g, 1, none⟩ (.bool b)) := by
 obtain ⟨h0, v, hb, ho⟩ := h
 exact ⟨h0, v, blk_put hb 1 _ rfl, own_far ho (own_ne ho hb (by decide)) 1 _⟩
theorem OutAt.fro (h : OutAt B g mk bad L w1) (hF : FrO w w1) (j : Nat) (u : Value) : FrO w (w1.setCell ⟨g, j, none⟩ u) := by
 obtain ⟨h0, v, hb, ho⟩ := h
 exact hF.put hb (.inl rfl) j u
theorem OutAt.appended {v v5 : Value} {n n5 : Nat} {M : List Nat} {w5 : World} (hB : B ≤ g) (hb : w.heap[g]? = some (.cells #[.bool mk, .bool bad, v] 122 (0, 0))) (hown : w.ownsRow B 5 1 v n (cellsN L)) (hg : w.grownBy w5 v.ownBlock)
  (hown5 : w5.ownsRow B 5 1 v5 n5 (cellsN L ++ cellsN M)) (hn : n5 = L.length + M.length) : OutAt B g mk bad (L ++ M) (w5.setCell ⟨g, 2, none⟩ v5) := by
 subst hn
 have hb5 : w5.heap[g]? = some (.cells #[.bool mk, .bool bad, v] 122 (0, 0)) := (hg.block g (blk_lt hb) (fun e => own_ne hown hb (by decide) e.symm)).trans hb
 refine ⟨hB, v5, blk_put hb5 2 _ rfl, ?_⟩
 rw [List.length_append, cellsN_append]
 exact own_far hown5 (own_ne hown5 hb5 (by decide)) 2 _
theorem FrO.appended {w0 w5 : World} {v v5 : Value} {n : Nat} {xs : List Value} (hF : FrO w0 w) (hb : w.heap[g]? = some (.cells #[.bool mk, .bool bad, v] 122 (0, 0))) (hown : w.ownsRow B 5 1 v n xs) (hg : w.grownBy w5 v.ownBlock) : FrO w0 (w5.setCell ⟨g, 2, none⟩ v5) := by
 have hb5 : w5.heap[g]? = some (.cells #[.bool mk, .bool bad, v] 122 (0, 0)) := (hg.block g (blk_lt hb) (fun e => own_ne hown hb (by decide) e.symm)).trans hb
 exact (hF.grown hg (own_u8 hown)).put hb5 (.inl rfl) 2 _
theorem below_appended {w0 w5 : World} {v v5 : Value} {n : Nat} {xs : List Value} (hW : Below B w0 w) (hB : B ≤ g) (hBw : B ≤ w.heap.size) (hown : w.ownsRow B 5 1 v n xs) (hg : w.grownBy w5 v.ownBlock) : Below B w0 (w5.setCell ⟨g, 2, none⟩ v5) :=
 (hW.grown hg hBw (fun k hk => own_base hown k hk)).setCell (p := ⟨g, 2, none⟩) hB _
end
def roomL (p : Int) (k : Nat) : List Nat := (List.range 8).map fun i => if i < k then (p / 2 ^ (8 * (7 - i)) % 256).toNat else 0
def byN (p : Int) (m : Nat) : List Nat := (roomL p 8).drop (8 - m)
theorem roomL_length (p : Int) (k : Nat) : (roomL p k).length = 8 := by simp [roomL]
theorem byN_length (p : Int) (m : Nat) (h : m ≤ 8) : (byN p m).length = m := by rw [byN, List.length_drop, roomL_length]; omega
theorem roomL_succ (p : Int) (k : Nat) (hk : k < 8) : (roomL p k).set k (p / 2 ^ (8 * (7 - k)) % 256).toNat = roomL p (k + 1) := by
 apply List.ext_getElem?
 intro i
 rw [List.getElem?_set]
 unfold roomL
 rw [List.length_map, List.length_range]
 by_cases e : k = i
 ·subst e
  rw [if_pos rfl, if_pos hk, List.getElem?_map, List.getElem?_range hk]
  simp
 ·rw [if_neg e, List.getElem?_map, List.getElem?_map]
  by_cases hi : i < 8
  ·rw [List.getElem?_range hi]
   by_cases h2 : i < k
   ·simp [h2, show i < k + 1 by omega]
   ·simp [h2, show ¬ i < k + 1 by omega]
  ·rw [List.getElem?_eq_none (by simpa using hi)]
   rfl
section
open Go.RowKit Go.Deep Go.Proofs.YthemhfloablccaaDoorW.PrintWords Go.Proofs.YthemhfloablccaaDoorW.PrintLast Go.Proofs.YthemhfloablccaaDoorW.PrintMore
set_option maxHeartbeats 1000000
attribute [local go_sem ↓] Go.wp_at_zero Go.wp_at_succ
def pairsV (ps : List (Int × Nat)) : List Value := ps.flatMap fun p => [.int .i64 p.1, .int .i64 (p.2 : Int)]
def sumN (ps : List (Int × Nat)) : Nat := (ps.map (·.2)).foldl (· + ·) 0
def byAll (ps : List (Int × Nat)) : List Nat := ps.flatMap fun p => byN p.1 p.2
theorem foldl_add (l : List Nat) (a : Nat) : l.foldl (· + ·) a = a + l.foldl (· + ·) 0 := by
 induction l generalizing a with
 | nil => simp
 | cons x l ih => rw [List.foldl_cons, ih, List.foldl_cons, ih (0 + x)]; omega
theorem sumN_cons (p : Int × Nat) (ps : List (Int × Nat)) : sumN (p :: ps) = p.2 + sumN ps := by
 unfold sumN
 rw [List.map_cons, List.foldl_cons, foldl_add]
 omega
theorem sumN_append (a b : List (Int × Nat)) : sumN (a ++ b) = sumN a + sumN b := by
 unfold sumN
 rw [List.map_append, List.foldl_append, foldl_add]
theorem sum_le {n m : Nat} {ps : List (Int × Nat)} (h : n + m + sumN ps ≤ 65536) (k : Nat) : m + sumN (ps.take k) ≤ 65536 := by
 have := sumN_append (ps.take k) (ps.drop k)
 rw [List.take_append_drop] at this
 omega
theorem sum_le3 {n m : Nat} {ps : List (Int × Nat)} (h : n + m + sumN ps ≤ 65536) (k : Nat) : n + m + sumN (ps.take k) ≤ 65536 := by
 have := sumN_append (ps.take k) (ps.drop k)
 rw [List.take_append_drop] at this
 omega
theorem slice_room1 (gr : Nat) (W : World) : (Instr.sliceAt 150 (.pointer (some ⟨gr, 0, none⟩)) (some (.int .i64 (IntKind.i64.wrap (8 - (((1 : Nat) : Int) : Int))))) (some (.int .i64 8)) (some (.int .i64 8))).run Tryd.prog W = .ok (.slice (some ⟨gr, 8 - 1, none⟩) 1 1) W := by kernel_rfl
theorem slice_room2 (gr : Nat) (W : World) : (Instr.sliceAt 150 (.pointer (some ⟨gr, 0, none⟩)) (some (.int .i64 (IntKind.i64.wrap (8 - (((2 : Nat) : Int) : Int))))) (some (.int .i64 8)) (some (.int .i64 8))).run Tryd.prog W = .ok (.slice (some ⟨gr, 8 - 2, none⟩) 2 2) W := by kernel_rfl
theorem slice_room3 (gr : Nat) (W : World) : (Instr.sliceAt 150 (.pointer (some ⟨gr, 0, none⟩)) (some (.int .i64 (IntKind.i64.wrap (8 - (((3 : Nat) : Int) : Int))))) (some (.int .i64 8)) (some (.int .i64 8))).run Tryd.prog W = .ok (.slice (some ⟨gr, 8 - 3, none⟩) 3 3) W := by kernel_rfl
theorem slice_room4 (gr : Nat) (W : World) : (Instr.sliceAt 150 (.pointer (some ⟨gr, 0, none⟩)) (some (.int .i64 (IntKind.i64.wrap (8 - (((4 : Nat) : Int) : Int))))) (some (.int .i64 8)) (some (.int .i64 8))).run Tryd.prog W = .ok (.slice (some ⟨gr, 8 - 4, none⟩) 4 4) W := by kernel_rfl
theorem slice_room5 (gr : Nat) (W : World) : (Instr.sliceAt 150 (.pointer (some ⟨gr, 0, none⟩)) (some (.int .i64 (IntKind.i64.wrap (8 - (((5 : Nat) : Int) : Int))))) (some (.int .i64 8)) (some (.int .i64 8))).run Tryd.prog W = .ok (.slice (some ⟨gr, 8 - 5, none⟩) 5 5) W := by kernel_rfl
theorem slice_room6 (gr : Nat) (W : World) : (Instr.sliceAt 150 (.pointer (some ⟨gr, 0, none⟩)) (some (.int .i64 (IntKind.i64.wrap (8 - (((6 : Nat) : Int) : Int))))) (some (.int .i64 8)) (some (.int .i64 8))).run Tryd.prog W = .ok (.slice (some ⟨gr, 8 - 6, none⟩) 6 6) W := by kernel_rfl
theorem slice_room7 (gr : Nat) (W : World) : (Instr.sliceAt 150 (.pointer (some ⟨gr, 0, none⟩)) (some (.int .i64 (IntKind.i64.wrap (8 - (((7 : Nat) : Int) : Int))))) (some (.int .i64 8)) (some (.int .i64 8))).run Tryd.prog W = .ok (.slice (some ⟨gr, 8 - 7, none⟩) 7 7) W := by kernel_rfl
theorem slice_room8 (gr : Nat) (W : World) : (Instr.sliceAt 150 (.pointer (some ⟨gr, 0, none⟩)) (some (.int .i64 (IntKind.i64.wrap (8 - (((8 : Nat) : Int) : Int))))) (some (.int .i64 8)) (some (.int .i64 8))).run Tryd.prog W = .ok (.slice (some ⟨gr, 8 - 8, none⟩) 8 8) W := by kernel_rfl
theorem slice_room (gr m : Nat) (h1 : 1 ≤ m) (h2 : m ≤ 8) (W : World) : (Instr.sliceAt 150 (.pointer (some ⟨gr, 0, none⟩)) (some (.int .i64 (IntKind.i64.wrap (8 - (m : Int))))) (some (.int .i64 8)) (some (.int .i64 8))).run Tryd.prog W = .ok (.slice (some ⟨gr, 8 - m, none⟩) m m) W := by
 have h : m = 1 ∨ m = 2 ∨ m = 3 ∨ m = 4 ∨ m = 5 ∨ m = 6 ∨ m = 7 ∨ m = 8 := by omega
 rcases h with rfl | rfl | rfl | rfl | rfl | rfl | rfl | rfl
 ·exact slice_room1 gr W
 ·exact slice_room2 gr W
 ·exact slice_room3 gr W
 ·exact slice_room4 gr W
 ·exact slice_room5 gr W
 ·exact slice_room6 gr W
 ·exact slice_room7 gr W
 ·exact slice_room8 gr W
theorem sum_next {ps : List (Int × Nat)} {k : Nat} {p : Int × Nat} (h : ps[k]? = some p) : sumN (ps.take (k + 1)) = sumN (ps.take k) + p.2 := by
 obtain ⟨hk, rfl⟩ := List.getElem?_eq_some_iff.1 h
 rw [List.take_succ_eq_append_getElem hk, sumN_append, sumN_cons]
 rfl
theorem pairsV_get : ∀ (ps : List (Int × Nat)) (k : Nat) (p : Int × Nat), ps[k]? = some p → ∀ j, (pairsV ps)[k * 2 + j]? = if j < 2 then [Value.int .i64 p.1, Value.int .i64 (p.2 : Int)][j]? else (pairsV ps)[k * 2 + j]?
  | [], k, p, h => by simp at h
  | q :: ps, 0, p, h => by
    intro j
    simp only [List.getElem?_cons_zero, Option.some.injEq] at h
    subst h
    match j with
    | 0 => rfl
    | 1 => rfl
    | j + 2 => rw [if_neg (by omega)]
  | q :: ps, k + 1, p, h => by
    intro j
    have h' : ps[k]? = some p := by simpa using h
    have := pairsV_get ps k p h' j
    have e : pairsV (q :: ps) = Value.int .i64 q.1 :: Value.int .i64 (q.2 : Int) :: pairsV ps := rfl
    rw [e, show (k + 1) * 2 + j = (k * 2 + j) + 1 + 1 by omega, List.getElem?_cons_succ, List.getElem?_cons_succ]
    exact this
theorem pair_cell {w wr : World} {gp t : Nat} {ps : List (Int × Nat)} {z : Nat × Nat} (hb : Below w.heap.size w wr) (hgp : w.heap[gp]? = some (.cells (pairsV ps).toArray t z)) {k : Nat} {p : Int × Nat} (hp : ps[k]? = some p) (j : Nat) (hj : j < 2) :
  wr.cell? ⟨gp, k * 2 + j, none⟩ = [Value.int .i64 p.1, Value.int .i64 (p.2 : Int)][j]? := by
 rw [cell_of_row wr gp _ _ _ _ (blk_below hgp hb), List.getElem?_toArray, pairsV_get ps k p hp j, if_pos hj]
theorem cellsN_set (l : List Nat) (i n : Nat) : cellsN (l.set i n) = (cellsN l).set i (.int .u8 (n : Int)) := by simp [cellsN, List.map_set]
theorem nat_byte (x : Int) : x % 256 = ((x % 256).toNat : Int) := by omega
theorem byAll_length (ps : List (Int × Nat)) (h : ∀ p ∈ ps, p.2 ≤ 8) : (byAll ps).length = sumN ps := by
  induction ps with
  | nil => rfl
  | cons p ps ih =>
    have e : byAll (p :: ps) = byN p.1 p.2 ++ byAll ps := rfl
    rw [e, List.length_append, sumN_cons, byN_length _ _ (h p (List.mem_cons_self ..)), ih (fun q hq => h q (List.mem_cons_of_mem _ hq))]
theorem byAll_next {ps : List (Int × Nat)} {k : Nat} {p : Int × Nat} (h : ps[k]? = some p) : byAll (ps.take (k + 1)) = byAll (ps.take k) ++ byN p.1 p.2 := by
 obtain ⟨hk, rfl⟩ := List.getElem?_eq_some_iff.1 h
 rw [List.take_succ_eq_append_getElem hk, byAll, List.flatMap_append]
 simp [byAll]
theorem grown_of_drew {w w' : World} {r : Option Nat} (h : w.drew.grownBy w' r) : w.grownBy w' r := ⟨h.os, h.tape, h.output, h.size, h.block⟩
theorem strCells_bys (s : ByteArray) : Lib.strCells s = cellsN (bys s) := by
 simp [Lib.strCells, cellsN, bys]
theorem Tryd.info_u8 : (Tryd.prog.info? 5).map (fun i => (i.zero, i.size, i.bytes)) = some (some (.int .u8 0), 1, 1) := by kernel_rfl
theorem room_news {w : World} {gr t m : Nat} {p : Int} {z : Nat × Nat} (h : w.heap[gr]? = some (.cells (cellsN (roomL p 8)).toArray t z)) (hm : m ≤ 8) :
  ∀ (j : Nat) (u : Value), (cellsN (byN p m))[j]? = some u → w.drew.cell? ((⟨gr, 8 - m, none⟩ : Addr).add j) = some u := by
 intro j u hu
 rw [add_at]
 have h' : w.drew.heap[gr]? = some (.cells (cellsN (roomL p 8)).toArray t z) := h
 rw [cell_of_row _ _ _ _ _ _ h', List.getElem?_toArray]
 unfold byN cellsN at hu
 rw [List.map_drop, List.getElem?_drop] at hu
 exact hu
theorem app_max {m n : Nat} (h : n + m ≤ 65536) : n + m ≤ maxLen := by
 unfold maxLen; omega
theorem app_bytes {m n : Nat} (h : n + m ≤ 65536) : (n + m) * 1 ≤ 140737488355328 := by omega
set_option maxRecDepth 100000 in
theorem puts_ok (B g gp : Nat) (mk : Bool) (L : List Nat) (s : ByteArray) (ps : List (Int × Nat)) (w : World) (hO : OutAt B g mk false L w) (hgp : w.heap[gp]? = some (.cells (pairsV ps).toArray 124 (0, 0)))
    (hps : ∀ p ∈ ps, 1 ≤ p.2 ∧ p.2 ≤ 8) (hpl : ps.length ≤ 2) (hL : L.length + s.size + sumN ps ≤ 65536) (hB : B ≤ w.heap.size) :
    Calls Tryd.prog 88 #[.pointer (some ⟨g, 0, none⟩), .bool true, .string s, .slice (some ⟨gp, 0, none⟩) ps.length ps.length] w fun e w' => e = .returned (.tuple #[]) ∧ OutAt B g mk false (L ++ byAll ps ++ bys s) w' ∧ FrO w w' ∧ Below B w w' := by
  go_enter Tryd.func88, Tryd.ntmps88
  go_wp2_with (fail)
  go_loopw [8, 21] (fun n i wr => ∃ k : Nat, k ≤ ps.length ∧ i = .int .i64 k ∧ n = .int .i64 ((s.size + sumN (ps.take k) : Nat) : Int) ∧ Aside0 (Below w.heap.size w wr)) (fun _ i _ => ps.length - (intOf i).toNat)
  case atStart => exact ⟨0, by omega, rfl, rfl, ⟨Below.refl _ _⟩⟩
  case round =>
    obtain ⟨k, hk, rfl, rfl, HB1⟩ := hrel
    have hsum : s.size + sumN (ps.take k) ≤ 65536 := sum_le hL k
    by_cases hlt : k < ps.length
    · obtain ⟨⟨p, m⟩, hp⟩ : ∃ p, ps[k]? = some p := ⟨_, List.getElem?_eq_getElem hlt⟩
      have hm := hps _ (List.mem_of_getElem? hp)
      have hm1 : m ≤ 8 := hm.2
      have c0 : wr.cell? ⟨gp, k * 2, none⟩ = some (.int .i64 p) := pair_cell HB1.out hgp hp 0 (by omega)
      have c1 : wr.cell? ⟨gp, k * 2 + 1, none⟩ = some (.int .i64 (m : Int)) := pair_cell HB1.out hgp hp 1 (by omega)
      have HP := Aside0.mk hp
      clear hp hm
      go_wp2_with (fail)
      refine ⟨⟨k + 1, by omega, by go_num, ?_, ⟨below_alloc HB1.out _⟩⟩, by simp [intOf]; omega⟩
      rw [sum_next HP.out, ← Nat.add_assoc]
      go_num
    · obtain rfl : k = ps.length := by omega
      clear hlt hk
      rw [List.take_length] at hsum ⊢
      have HO1 := Aside0.mk (hO.below HB1.out)
      have HG1 := Aside0.mk (blk_below hgp HB1.out)
      have hN2 : L.length + (s.size + sumN ps) ≤ 65536 := by omega
      generalize hN : s.size + sumN ps = N at hsum hN2
      have HN := Aside0.mk hN
      clear hN
      obtain ⟨hBg, v, hbk, hown⟩ := HO1.out
      obtain ⟨A, c, rfl⟩ := own_slice hown
      have g1 : wr.cell? ⟨g, 1, none⟩ = some (.bool false) := by rw [cell_of_row wr g _ _ _ _ hbk]; rfl
      have g2 : wr.cell? ⟨g, 2, none⟩ = some (.slice A L.length c) := by rw [cell_of_row wr g _ _ _ _ hbk]; rfl
      have f1 : wr.frozen? ⟨g, 1, none⟩ = false := blk_thaw hbk 1
      have d1 : decide (65536 < (L.length : Int) + (N : Int)) = false := decide_eq_false (by omega)
      have HBK := Aside0.mk hbk
      have HOWN := Aside0.mk hown
      have HO2 := Aside0.mk (HO1.out.flag false)
      have HG2 := Aside0.mk (show (wr.setCell ⟨g, 1, none⟩ (.bool false)).heap[gp]? = _ from (HO1.out.fro (FrO.refl wr) 1 (.bool false)).blk HG1.out (by decide) (by decide))
      have HF2 := Aside0.mk (HO1.out.fro (FrO.of_below HB1.out) 1 (.bool false))
      have HB2 := Aside0.mk (((HB1.out.mono hB).setCell (p := ⟨g, 1, none⟩) hBg (.bool false)))
      clear hbk hown hgp hO
      go_wp2_with (fail)
      clear d1 g1 g2 f1
      generalize wr.setCell ⟨g, 1, none⟩ (.bool false) = w2 at HO2 HG2 HF2 HB2 ⊢
      clear HO1 HG1 HB1 HBK HOWN
      go_loopw [57] (fun i wr => ∃ k : Nat, k ≤ ps.length ∧ i = .int .i64 k ∧ Aside0 (OutAt B g mk false (L ++ byAll (ps.take k)) wr) ∧ Aside0 (wr.heap[gp]? = some (.cells (pairsV ps).toArray 124 (0, 0))) ∧ Aside0 (FrO w wr) ∧ Aside0 (Below B w wr)) (fun i _ => ps.length - (intOf i).toNat)
      case atStart => exact ⟨0, by omega, rfl, ⟨by simpa [byAll] using HO2.out⟩, HG2, HF2, HB2⟩
      case round =>
        obtain ⟨k, hk, rfl, HO3, HG3, HF3, HB3⟩ := hrel
        by_cases hlt : k < ps.length
        · obtain ⟨⟨p, m⟩, hp⟩ : ∃ p, ps[k]? = some p := ⟨_, List.getElem?_eq_getElem hlt⟩
          have hm := hps _ (List.mem_of_getElem? hp)
          have hm1 : m ≤ 8 := hm.2
          have hm0 : 1 ≤ m := hm.1
          have c0 : wr.cell? ⟨gp, k * 2, none⟩ = some (.int .i64 p) := pair_cell (Below.refl _ _) HG3.out hp 0 (by omega)
          have c1 : wr.cell? ⟨gp, k * 2 + 1, none⟩ = some (.int .i64 (m : Int)) := pair_cell (Below.refl _ _) HG3.out hp 1 (by omega)
          have HP := Aside0.mk hp
          clear hp hm
          go_wp2_with (fail)
          clear c0 c1
          obtain ⟨wo, hwo⟩ : ∃ wo : World, wo = wr := ⟨_, rfl⟩
          subst hwo
          go_loopw [61] (fun i W => ∃ j : Nat, j ≤ 8 ∧ i = .int .i64 j ∧ Aside0 (OutAt B g mk false (L ++ byAll (ps.take k)) W) ∧ Aside0 (W.heap[gp]? = some (.cells (pairsV ps).toArray 124 (0, 0))) ∧ Aside0 (FrO w W) ∧ Aside0 (Below B w W) ∧ Aside0 (W.heap[wo.heap.size]? = some (.cells #[.int .i64 p, .int .i64 (m : Int)] 124 (0, 0))) ∧ Aside0 (W.heap[wo.heap.size + 1]? = some (.cells (cellsN (roomL p j)).toArray 150 (0, 0)))) (fun i _ => 8 - (intOf i).toNat)
          case atStart =>
            refine ⟨0, by omega, rfl, ⟨(HO3.out.alloc _).alloc _⟩, ⟨blk_alloc (blk_alloc HG3.out _) _⟩, ⟨(HF3.out.alloc _).alloc _⟩, ⟨(HB3.out.alloc (Nat.le_trans hB HF3.out.1) _).alloc (by have := HF3.out.1; simp; omega) _⟩, ⟨blk_alloc (heap_alloc_new wo _) _⟩, ⟨?_⟩⟩
            have := heap_alloc_new (wo.alloc (.cells #[.int .i64 p, .int .i64 (m : Int)] 124)) (.cells (cellsN (roomL p 0)).toArray 150)
            simpa [roomL, cellsN, List.range, List.range.loop] using this
          case round =>
            obtain ⟨j, hj, rfl, HO4, HG4, HF4, HB4, HQ4, HR4⟩ := hrel
            by_cases hlj : j < 8
            · have q0 : wr.cell? ⟨wo.heap.size, 0, none⟩ = some (.int .i64 p) := by rw [cell_of_row wr _ _ _ _ _ HQ4.out]; rfl
              obtain ⟨r0, hr0⟩ : ∃ x, (cellsN (roomL p j))[j]? = some x := ⟨_, List.getElem?_eq_getElem (by rw [cellsN_length, roomL_length]; exact hlj)⟩
              have r1 : wr.cell? ⟨wo.heap.size + 1, j, none⟩ = some r0 := by rw [cell_of_row wr _ _ _ _ _ HR4.out, List.getElem?_toArray]; exact hr0
              have r2 : wr.frozen? ⟨wo.heap.size + 1, j, none⟩ = false := blk_thaw HR4.out j
              clear hr0
              go_wp2_with (fail)
              refine ⟨⟨j + 1, by omega, by go_num, ⟨HO4.out.far HR4.out (by decide) (by decide) j _⟩, ⟨blk_far HG4.out (fun e => by have := blk_lt HG3.out; have e2 : gp = wo.heap.size + 1 := e; omega) _⟩, ⟨HF4.out.new (by have := HF3.out.1; omega) j _⟩, ⟨HB4.out.setCell (p := ⟨wo.heap.size + 1, j, none⟩) (by have := HF3.out.1; show B ≤ wo.heap.size + 1; omega) _⟩, ⟨blk_far HQ4.out (fun e => by have e2 : wo.heap.size = wo.heap.size + 1 := e; omega) _⟩, ⟨blk_put HR4.out j _ ?_⟩⟩, by simp [intOf]; omega⟩
              rw [← roomL_succ p j hlj, List.setIfInBounds_toArray, cellsN_set, ← nat_byte]
            · obtain rfl : j = 8 := by omega
              clear hlj hj
              have hlen : L.length + (byAll (ps.take k)).length + m ≤ 65536 := by
                rw [byAll_length _ (fun q hq => (hps q (List.mem_of_mem_take hq)).2)]
                have := sum_le3 hL (k + 1)
                rw [sum_next HP.out] at this
                omega
              rw [← List.length_append] at hlen
              generalize hL2 : L ++ byAll (ps.take k) = L2 at HO4 hlen
              have HL2 := Aside0.mk hL2
              clear hL2
              obtain ⟨hBg3, v3, hbk, hown⟩ := HO4.out
              obtain ⟨A3, c3, rfl⟩ := own_slice hown
              have g2 : wr.cell? ⟨g, 2, none⟩ = some (.slice A3 L2.length c3) := by rw [cell_of_row wr g _ _ _ _ hbk]; rfl
              have f2 : wr.frozen? ⟨g, 2, none⟩ = false := blk_thaw hbk 2
              have q1 : wr.cell? ⟨wo.heap.size, 1, none⟩ = some (.int .i64 (m : Int)) := by rw [cell_of_row wr _ _ _ _ _ HQ4.out]; rfl
              have HBK := Aside0.mk hbk
              have HOWN := Aside0.mk hown
              have HLEN := Aside0.mk hlen
              have hne := own_ne hown hbk (by decide)
              have hne2 := own_ne hown HQ4.out (by decide)
              have b0 := hown.lt
              have i0 : (0 : Int) ≤ 8 - (m : Int) := by omega
              have i1 : (8 : Int) - (m : Int) ≤ 8 := by omega
              have hgl : g < wr.heap.size := blk_lt hbk
              have hql : wo.heap.size < wr.heap.size := blk_lt HQ4.out
              obtain ⟨ie, hi, hz0, hz1, hz2⟩ := info_parts Tryd.info_u8
              have hBw : B ≤ wr.heap.size := by omega
              have hsl := slice_room (wo.heap.size + 1) m hm0 hm1
              clear hbk hown hlen
              go_wp2_with (fail)
              go_region_law
                ((refine step_append_lies _ (by rfl) _ _ _ (by rfl) B 5 ie (.int .u8 0) 1 1 Tryd.underlying53 hi hz0 hz1 hz2 rfl (by omega) (.slice A3 L2.length c3) L2.length (cellsN L2) (by rfl) HOWN.out.drew
                    ⟨wo.heap.size + 1, 8 - m, none⟩ m m (cellsN (byN p m)) (by rfl) (by rw [cellsN_length, byN_length p m hm1, Nat.mul_one]) (room_news HR4.out hm1) (cellsN_one _)
                    (by omega) (app_max HLEN.out) (app_bytes HLEN.out) (by simpa using hBw) wr.heap.size (by simp) ?_; intro gg cap w5 hown1 hgrow hat hlt5; have e2 : w5.cell? ⟨g, 2, none⟩ = some (.slice A3 L2.length c3) := (by rw [hgrow.cell_far _ (by simpa using hgl) (Ne.symm hne)]; exact g2); have ef : w5.frozen? ⟨g, 2, none⟩ = false := (by rw [hgrow.frozen_far _ (by simpa using hgl) (Ne.symm hne)]; exact f2)))
              all_goals
                have hgrow := grown_of_drew hgrow
                have hMl : m = (byN p m).length := (byN_length p m hm1).symm
                have HO5 := Aside0.mk (OutAt.appended (M := byN p m) hBg3 HBK.out HOWN.out hgrow hown1 (by rw [← hMl]))
                have HF5 := Aside0.mk (HF4.out.appended HBK.out HOWN.out hgrow (v5 := .slice (some ⟨gg, 0, none⟩) (L2.length + m) cap))
                have HB5 := Aside0.mk (below_appended HB4.out hBg3 hBw HOWN.out hgrow (v5 := .slice (some ⟨gg, 0, none⟩) (L2.length + m) cap))
                have HG5 := Aside0.mk (((FrO.refl wr).appended HBK.out HOWN.out hgrow (v5 := .slice (some ⟨gg, 0, none⟩) (L2.length + m) cap)).blk HG4.out (by decide) (by decide))
                clear hMl hown1 hgrow hat e2 ef
                generalize w5.setCell ⟨g, 2, none⟩ (.slice (some ⟨gg, 0, none⟩) (L2.length + m) cap) = w6 at HO5 HF5 HB5 HG5 ⊢
                go_wp2_with (fail)
                refine ⟨⟨k + 1, by omega, by go_num, ⟨?_⟩, HG5, HF5, HB5⟩, by simp [intOf]; omega⟩
                rw [byAll_next HP.out, ← List.append_assoc, HL2.out]
                exact HO5.out
        · obtain rfl : k = ps.length := by omega
          clear hlt hk
          rw [List.take_length] at HO3
          have hlen : L.length + (byAll ps).length + s.size ≤ 65536 := by
            rw [byAll_length _ (fun q hq => (hps q hq).2)]
            omega
          rw [← List.length_append] at hlen
          generalize hL2 : L ++ byAll ps = L2 at HO3 hlen
          have HL2 := Aside0.mk hL2
          clear hL2
          obtain ⟨hBg3, v3, hbk, hown⟩ := HO3.out
          obtain ⟨A3, c3, rfl⟩ := own_slice hown
          have g2 : wr.cell? ⟨g, 2, none⟩ = some (.slice A3 L2.length c3) := by rw [cell_of_row wr g _ _ _ _ hbk]; rfl
          have HBK := Aside0.mk hbk
          have HOWN := Aside0.mk hown
          obtain ⟨ie, hi, hz0, hz1, hz2⟩ := info_parts Tryd.info_u8
          have hBw : B ≤ wr.heap.size := by have := blk_lt hbk; omega
          have hm1 : L2.length + s.size ≤ maxLen := app_max hlen
          have hm2 : L2.length + s.size ≤ 140737488355328 := by omega
          clear hbk hown hlen
          go_wp2_with (at_builtin; refine Lib.wpList_append_own_string _ rfl _ _ 53 9 rfl B 5 ie Tryd.underlying53 Tryd.underlying9 hi hz0 hz1 hz2 _ _ _ rfl HOWN.out s rfl hm1 hm2 hBw ?_)
          intro v5 w5 hown5 hgrow _
          rw [strCells_bys] at hown5
          obtain ⟨A5, c5, rfl⟩ := own_slice hown5
          have hb5 : w5.heap[g]? = _ := (hgrow.block g (blk_lt HBK.out) (fun e => own_ne HOWN.out HBK.out (by decide) e.symm)).trans HBK.out
          have e2 : w5.cell? ⟨g, 2, none⟩ = some (.slice A3 L2.length c3) := by rw [cell_of_row w5 g _ _ _ _ hb5]; rfl
          have ef : w5.frozen? ⟨g, 2, none⟩ = false := blk_thaw hb5 2
          have HO5 := Aside0.mk (OutAt.appended (M := bys s) hBg3 HBK.out HOWN.out hgrow hown5 (by rw [bys_length]))
          have HF5 := Aside0.mk (HF3.out.appended HBK.out HOWN.out hgrow (v5 := .slice A5 (L2.length + s.size) c5))
          have HB5 := Aside0.mk (below_appended HB3.out hBg3 hBw HOWN.out hgrow (v5 := .slice A5 (L2.length + s.size) c5))
          clear hb5 hown5 hgrow g2
          go_wp2_with (fail)
          go_end0
          rw [HL2.out]
          exact ⟨rfl, HO5.out, HF5.out, HB5.out⟩
end
section
open Go.RowKit Go.Deep Go.Proofs.YthemhfloablccaaDoorW.PrintWords Go.Proofs.YthemhfloablccaaDoorW.PrintLast Go.Proofs.YthemhfloablccaaDoorW.PrintMore
set_option maxHeartbeats 1000000
attribute [local go_sem ↓] Go.wp_at_zero Go.wp_at_succ
theorem sum_small : ∀ (ps : List (Int × Nat)), ps.length ≤ 2 → (∀ q ∈ ps, q.2 ≤ 8) → sumN ps ≤ 16
 | [], _, _ => by decide
 | [a], _, h => by rw [sumN_cons]; have := h a (by simp); simp [sumN]; omega
 | [a, b], _, h => by rw [sumN_cons, sumN_cons]; have := h a (by simp); have := h b (by simp); simp [sumN]; omega
 | a :: b :: c :: l, h, _ => by simp at h
theorem sum_take_le (ps : List (Int × Nat)) (k : Nat) : sumN (ps.take k) ≤ sumN ps := by
 have := sumN_append (ps.take k) (ps.drop k)
 rw [List.take_append_drop] at this
 omega
set_option maxRecDepth 100000 in
theorem puts_spoilt (B g gp : Nat) (mk ok : Bool) (L : List Nat) (s : ByteArray) (ps : List (Int × Nat)) (w : World) (hO : OutAt B g mk true L w) (hgp : w.heap[gp]? = some (.cells (pairsV ps).toArray 124 (0, 0)))
  (hps : ∀ p ∈ ps, 1 ≤ p.2 ∧ p.2 ≤ 8) (hpl : ps.length ≤ 2) (hs : s.size ≤ 140737488351232) (hl : L.length ≤ 65536) (hB : B ≤ w.heap.size) :
  Calls Tryd.prog 88 #[.pointer (some ⟨g, 0, none⟩), .bool ok, .string s, .slice (some ⟨gp, 0, none⟩) ps.length ps.length] w fun e w' => e = .returned (.tuple #[]) ∧ OutAt B g mk true L w' ∧ FrO w w' ∧ Below B w w' := by
 have hsm : sumN ps ≤ 16 := sum_small ps hpl (fun q hq => (hps q hq).2)
 go_enter Tryd.func88, Tryd.ntmps88
 go_wp2_with (fail)
 go_loopw [8, 21] (fun n i wr => ∃ k : Nat, k ≤ ps.length ∧ i = .int .i64 k ∧ n = .int .i64 ((s.size + sumN (ps.take k) : Nat) : Int) ∧ Aside0 (Below w.heap.size w wr)) (fun _ i _ => ps.length - (intOf i).toNat)
 case atStart => exact ⟨0, by omega, rfl, rfl, ⟨Below.refl _ _⟩⟩
 case round =>
  obtain ⟨k, hk, rfl, rfl, HB1⟩ := hrel
  have hsum : s.size + sumN (ps.take k) ≤ 140737488351248 := by have := sum_take_le ps k; omega
  by_cases hlt : k < ps.length
  ·obtain ⟨⟨p, m⟩, hp⟩ : ∃ p, ps[k]? = some p := ⟨_, List.getElem?_eq_getElem hlt⟩
   have hm := hps _ (List.mem_of_getElem? hp)
   have hm1 : m ≤ 8 := hm.2
   have c0 : wr.cell? ⟨gp, k * 2, none⟩ = some (.int .i64 p) := pair_cell HB1.out hgp hp 0 (by omega)
   have c1 : wr.cell? ⟨gp, k * 2 + 1, none⟩ = some (.int .i64 (m : Int)) := pair_cell HB1.out hgp hp 1 (by omega)
   have HP := Aside0.mk hp
   clear hp hm
   go_wp2_with (fail)
   refine ⟨⟨k + 1, by omega, by go_num, ?_, ⟨below_alloc HB1.out _⟩⟩, by simp [intOf]; omega⟩
   rw [sum_next HP.out, ← Nat.add_assoc]
   go_num
  ·obtain rfl : k = ps.length := by omega
   clear hlt hk
   rw [List.take_length] at hsum ⊢
   have HO1 := Aside0.mk (hO.below HB1.out)
   generalize hN : s.size + sumN ps = N at hsum ⊢
   have HN := Aside0.mk hN
   obtain ⟨hBg, v, hbk, hown⟩ := HO1.out
   obtain ⟨A, c, rfl⟩ := own_slice hown
   have g1 : wr.cell? ⟨g, 1, none⟩ = some (.bool true) := by rw [cell_of_row wr g _ _ _ _ hbk]; rfl
   have g2 : wr.cell? ⟨g, 2, none⟩ = some (.slice A L.length c) := by rw [cell_of_row wr g _ _ _ _ hbk]; rfl
   have f1 : wr.frozen? ⟨g, 1, none⟩ = false := blk_thaw hbk 1
   have HO2 := Aside0.mk (HO1.out.flag true)
   have HF2 := Aside0.mk (HO1.out.fro (FrO.of_below HB1.out) 1 (.bool true))
   have HB2 := Aside0.mk (((HB1.out.mono hB).setCell (p := ⟨g, 1, none⟩) hBg (.bool true)))
   clear hN hbk hown hgp hO
   go_wp2_with (fail)
   refine bodyPost_ret (v := .tuple #[]) (by simp [results, Tryd.results88, go_sem]) rfl ?_
   exact ⟨rfl, HO2.out, HF2.out, HB2.out⟩
set_option maxRecDepth 100000 in
theorem puts_no (B g gp : Nat) (mk : Bool) (L : List Nat) (s : ByteArray) (ps : List (Int × Nat)) (w : World) (hO : OutAt B g mk false L w) (hgp : w.heap[gp]? = some (.cells (pairsV ps).toArray 124 (0, 0)))
  (hps : ∀ p ∈ ps, 1 ≤ p.2 ∧ p.2 ≤ 8) (hpl : ps.length ≤ 2) (hs : s.size ≤ 140737488351232) (hl : L.length ≤ 65536) (hB : B ≤ w.heap.size) :
  Calls Tryd.prog 88 #[.pointer (some ⟨g, 0, none⟩), .bool false, .string s, .slice (some ⟨gp, 0, none⟩) ps.length ps.length] w fun e w' => e = .returned (.tuple #[]) ∧ OutAt B g mk true L w' ∧ FrO w w' ∧ Below B w w' := by
 have hsm : sumN ps ≤ 16 := sum_small ps hpl (fun q hq => (hps q hq).2)
 go_enter Tryd.func88, Tryd.ntmps88
 go_wp2_with (fail)
 go_loopw [8, 21] (fun n i wr => ∃ k : Nat, k ≤ ps.length ∧ i = .int .i64 k ∧ n = .int .i64 ((s.size + sumN (ps.take k) : Nat) : Int) ∧ Aside0 (Below w.heap.size w wr)) (fun _ i _ => ps.length - (intOf i).toNat)
 case atStart => exact ⟨0, by omega, rfl, rfl, ⟨Below.refl _ _⟩⟩
 case round =>
  obtain ⟨k, hk, rfl, rfl, HB1⟩ := hrel
  have hsum : s.size + sumN (ps.take k) ≤ 140737488351248 := by have := sum_take_le ps k; omega
  by_cases hlt : k < ps.length
  ·obtain ⟨⟨p, m⟩, hp⟩ : ∃ p, ps[k]? = some p := ⟨_, List.getElem?_eq_getElem hlt⟩
   have hm := hps _ (List.mem_of_getElem? hp)
   have hm1 : m ≤ 8 := hm.2
   have c0 : wr.cell? ⟨gp, k * 2, none⟩ = some (.int .i64 p) := pair_cell HB1.out hgp hp 0 (by omega)
   have c1 : wr.cell? ⟨gp, k * 2 + 1, none⟩ = some (.int .i64 (m : Int)) := pair_cell HB1.out hgp hp 1 (by omega)
   have HP := Aside0.mk hp
   clear hp hm
   go_wp2_with (fail)
   refine ⟨⟨k + 1, by omega, by go_num, ?_, ⟨below_alloc HB1.out _⟩⟩, by simp [intOf]; omega⟩
   rw [sum_next HP.out, ← Nat.add_assoc]
   go_num
  ·obtain rfl : k = ps.length := by omega
   clear hlt hk
   rw [List.take_length] at hsum ⊢
   have HO1 := Aside0.mk (hO.below HB1.out)
   generalize hN : s.size + sumN ps = N at hsum ⊢
   have HN := Aside0.mk hN
   obtain ⟨hBg, v, hbk, hown⟩ := HO1.out
   obtain ⟨A, c, rfl⟩ := own_slice hown
   have g1 : wr.cell? ⟨g, 1, none⟩ = some (.bool false) := by rw [cell_of_row wr g _ _ _ _ hbk]; rfl
   have g2 : wr.cell? ⟨g, 2, none⟩ = some (.slice A L.length c) := by rw [cell_of_row wr g _ _ _ _ hbk]; rfl
   have f1 : wr.frozen? ⟨g, 1, none⟩ = false := blk_thaw hbk 1
   have HO2 := Aside0.mk (HO1.out.flag true)
   have HF2 := Aside0.mk (HO1.out.fro (FrO.of_below HB1.out) 1 (.bool true))
   have HB2 := Aside0.mk (((HB1.out.mono hB).setCell (p := ⟨g, 1, none⟩) hBg (.bool true)))
   clear hN hbk hown hgp hO
   go_wp2_with (fail)
   refine bodyPost_ret (v := .tuple #[]) (by simp [results, Tryd.results88, go_sem]) rfl ?_
   exact ⟨rfl, HO2.out, HF2.out, HB2.out⟩
set_option maxRecDepth 100000 in
theorem puts_big (B g gp : Nat) (mk : Bool) (L : List Nat) (s : ByteArray) (ps : List (Int × Nat)) (w : World) (hO : OutAt B g mk false L w) (hgp : w.heap[gp]? = some (.cells (pairsV ps).toArray 124 (0, 0)))
  (hps : ∀ p ∈ ps, 1 ≤ p.2 ∧ p.2 ≤ 8) (hpl : ps.length ≤ 2) (hs : s.size ≤ 140737488351232) (hl : L.length ≤ 65536) (hbig : 65536 < L.length + s.size + sumN ps) (hB : B ≤ w.heap.size) :
  Calls Tryd.prog 88 #[.pointer (some ⟨g, 0, none⟩), .bool true, .string s, .slice (some ⟨gp, 0, none⟩) ps.length ps.length] w fun e w' => e = .returned (.tuple #[]) ∧ OutAt B g mk true L w' ∧ FrO w w' ∧ Below B w w' := by
 have hsm : sumN ps ≤ 16 := sum_small ps hpl (fun q hq => (hps q hq).2)
 go_enter Tryd.func88, Tryd.ntmps88
 go_wp2_with (fail)
 go_loopw [8, 21] (fun n i wr => ∃ k : Nat, k ≤ ps.length ∧ i = .int .i64 k ∧ n = .int .i64 ((s.size + sumN (ps.take k) : Nat) : Int) ∧ Aside0 (Below w.heap.size w wr)) (fun _ i _ => ps.length - (intOf i).toNat)
 case atStart => exact ⟨0, by omega, rfl, rfl, ⟨Below.refl _ _⟩⟩
 case round =>
  obtain ⟨k, hk, rfl, rfl, HB1⟩ := hrel
  have hsum : s.size + sumN (ps.take k) ≤ 140737488351248 := by have := sum_take_le ps k; omega
  by_cases hlt : k < ps.length
  ·obtain ⟨⟨p, m⟩, hp⟩ : ∃ p, ps[k]? = some p := ⟨_, List.getElem?_eq_getElem hlt⟩
   have hm := hps _ (List.mem_of_getElem? hp)
   have hm1 : m ≤ 8 := hm.2
   have c0 : wr.cell? ⟨gp, k * 2, none⟩ = some (.int .i64 p) := pair_cell HB1.out hgp hp 0 (by omega)
   have c1 : wr.cell? ⟨gp, k * 2 + 1, none⟩ = some (.int .i64 (m : Int)) := pair_cell HB1.out hgp hp 1 (by omega)
   have HP := Aside0.mk hp
   clear hp hm
   go_wp2_with (fail)
   refine ⟨⟨k + 1, by omega, by go_num, ?_, ⟨below_alloc HB1.out _⟩⟩, by simp [intOf]; omega⟩
   rw [sum_next HP.out, ← Nat.add_assoc]
   go_num
  ·obtain rfl : k = ps.length := by omega
   clear hlt hk
   rw [List.take_length] at hsum ⊢
   have HO1 := Aside0.mk (hO.below HB1.out)
   generalize hN : s.size + sumN ps = N at hsum ⊢
   have HN := Aside0.mk hN
   obtain ⟨hBg, v, hbk, hown⟩ := HO1.out
   obtain ⟨A, c, rfl⟩ := own_slice hown
   have g1 : wr.cell? ⟨g, 1, none⟩ = some (.bool false) := by rw [cell_of_row wr g _ _ _ _ hbk]; rfl
   have g2 : wr.cell? ⟨g, 2, none⟩ = some (.slice A L.length c) := by rw [cell_of_row wr g _ _ _ _ hbk]; rfl
   have f1 : wr.frozen? ⟨g, 1, none⟩ = false := blk_thaw hbk 1
   have d1 : decide (65536 < (L.length : Int) + (N : Int)) = true := decide_eq_true (by omega)
   have HO2 := Aside0.mk (HO1.out.flag true)
   have HF2 := Aside0.mk (HO1.out.fro (FrO.of_below HB1.out) 1 (.bool true))
   have HB2 := Aside0.mk (((HB1.out.mono hB).setCell (p := ⟨g, 1, none⟩) hBg (.bool true)))
   clear hN hbk hown hgp hO hbig
   go_wp2_with (fail)
   refine bodyPost_ret (v := .tuple #[]) (by simp [results, Tryd.results88, go_sem]) rfl ?_
   exact ⟨rfl, HO2.out, HF2.out, HB2.out⟩
def outStep (bad : Bool) (L : List Nat) (ok : Bool) (M : List Nat) : Bool × List Nat :=
 if bad = true ∨ ok = false ∨ 65536 < L.length + M.length then (true, L) else (false, L ++ M)
theorem puts_all (B g gp : Nat) (mk bad ok : Bool) (L : List Nat) (s : ByteArray) (ps : List (Int × Nat)) (w : World) (hO : OutAt B g mk bad L w) (hgp : w.heap[gp]? = some (.cells (pairsV ps).toArray 124 (0, 0)))
    (hps : ∀ p ∈ ps, 1 ≤ p.2 ∧ p.2 ≤ 8) (hpl : ps.length ≤ 2) (hs : s.size ≤ 140737488351232) (hl : L.length ≤ 65536) (hB : B ≤ w.heap.size) :
    Calls Tryd.prog 88 #[.pointer (some ⟨g, 0, none⟩), .bool ok, .string s, .slice (some ⟨gp, 0, none⟩) ps.length ps.length] w fun e w' => e = .returned (.tuple #[]) ∧
      OutAt B g mk (outStep bad L ok (byAll ps ++ bys s)).1 (outStep bad L ok (byAll ps ++ bys s)).2 w' ∧ FrO w w' ∧ Below B w w' := by
  have hlen : (byAll ps ++ bys s).length = s.size + sumN ps := by rw [List.length_append, byAll_length _ (fun q hq => (hps q hq).2), bys_length, Nat.add_comm]
  cases bad with
  | true => rw [show outStep true L ok (byAll ps ++ bys s) = (true, L) from if_pos (.inl rfl)]; exact puts_spoilt B g gp mk ok L s ps w hO hgp hps hpl hs hl hB
  | false =>
    cases ok with
    | false => rw [show outStep false L false (byAll ps ++ bys s) = (true, L) from if_pos (.inr (.inl rfl))]; exact puts_no B g gp mk L s ps w hO hgp hps hpl hs hl hB
    | true =>
      by_cases hb : 65536 < L.length + s.size + sumN ps
      · rw [show outStep false L true (byAll ps ++ bys s) = (true, L) from if_pos (.inr (.inr (by omega)))]; exact puts_big B g gp mk L s ps w hO hgp hps hpl hs hl hb hB
      · rw [show outStep false L true (byAll ps ++ bys s) = (false, L ++ (byAll ps ++ bys s)) from if_neg (by rintro (h | h | h); cases h; cases h; omega), ← List.append_assoc]
        exact puts_ok B g gp mk L s ps w hO hgp hps hpl (by omega) hB
def oneB (n : Int) : Bool := decide (0 ≤ n ∧ n ≤ 255)
def timeB (n : Int) : Bool := decide (0 ≤ n ∧ n ≤ 1099511627775)
theorem one_f (n : Int) : code_one.f n = some (oneB n) := by
 unfold code_one.f oneB
 split
 ·rename_i h
  congr 1
  simp only [decide_eq_decide]
  omega
 ·rename_i h
  rw [decide_eq_false (by omega)]
theorem time_f (n : Int) : code_time.f n = some (timeB n) := by
 unfold code_time.f timeB
 split
 ·rename_i h
  congr 1
  simp only [decide_eq_decide]
  omega
 ·rename_i h
  rw [decide_eq_false (by omega)]
theorem Out_Byte (B g : Nat) (mk bad : Bool) (L : List Nat) (n : Int) (w : World) (hO : OutAt B g mk bad L w) (hl : L.length ≤ 65536) (hB : B ≤ w.heap.size) :
  Calls Tryd.prog 58 #[.pointer (some ⟨g, 0, none⟩), .int .i64 n] w fun e w' => e = .returned (.tuple #[]) ∧
   OutAt B g mk (outStep bad L (oneB n) (byN n 1)).1 (outStep bad L (oneB n) (byN n 1)).2 w' ∧ FrO w w' ∧ Below B w w' := by
 have HO := Aside0.mk hO
 have h1 := Aside0.mk (one_f n)
 clear hO
 go_enter Tryd.func58, Tryd.ntmps58
 go_wp2_with (fail)
 refine (code_one.calls n _ w h1.out).mono ?_
 rintro e w1 ⟨rfl, ⟨nd, rfl⟩⟩
 go_wp2_with (fail)
 have hO1 : OutAt B g mk bad L ((w.drewN nd).alloc (.cells #[.int .i64 n, .int .i64 1] 124)) := (HO.out.drewN nd).alloc _
 have hp : ((w.drewN nd).alloc (.cells #[.int .i64 n, .int .i64 1] 124)).heap[w.heap.size]? = some (.cells (pairsV [(n, 1)]).toArray 124 (0, 0)) := heap_alloc_new (w.drewN nd) _
 have hF : FrO w ((w.drewN nd).alloc (.cells #[.int .i64 n, .int .i64 1] 124)) := ((FrO.refl w).drewN nd).alloc _
 have hBl : Below B w ((w.drewN nd).alloc (.cells #[.int .i64 n, .int .i64 1] 124)) := (pw_below_drewN (Below.refl B w) nd).alloc hB _
 refine (puts_all B g w.heap.size mk bad (oneB n) L ⟨#[]⟩ [(n, 1)] _ hO1 hp (by simp) (by simp) (by decide) hl (Nat.le_trans hB hF.1)).mono ?_
 rintro e w1 ⟨rfl, h2, h3, h4⟩
 have H2 := Aside0.mk h2
 have H3 := Aside0.mk (hF.trans h3)
 have H4 := Aside0.mk (hBl.trans h4)
 clear h2 h3 h4 hO1 hp hF hBl
 go_wp2_with (fail)
 go_end0
 exact ⟨rfl, by simpa [byAll, bys] using H2.out, H3.out, H4.out⟩
theorem Out_Num (B g : Nat) (mk bad : Bool) (L : List Nat) (n : Int) (w : World) (hO : OutAt B g mk bad L w) (hl : L.length ≤ 65536) (hB : B ≤ w.heap.size) :
  Calls Tryd.prog 56 #[.pointer (some ⟨g, 0, none⟩), .int .i64 n] w fun e w' => e = .returned (.tuple #[]) ∧
   OutAt B g mk (outStep bad L (timeB n) (byN n 6)).1 (outStep bad L (timeB n) (byN n 6)).2 w' ∧ FrO w w' ∧ Below B w w' := by
 have HO := Aside0.mk hO
 have h1 := Aside0.mk (time_f n)
 clear hO
 go_enter Tryd.func56, Tryd.ntmps56
 go_wp2_with (fail)
 refine (code_time.calls n _ w h1.out).mono ?_
 rintro e w1 ⟨rfl, ⟨nd, rfl⟩⟩
 go_wp2_with (fail)
 have hO1 : OutAt B g mk bad L ((w.drewN nd).alloc (.cells #[.int .i64 n, .int .i64 6] 124)) := (HO.out.drewN nd).alloc _
 have hp : ((w.drewN nd).alloc (.cells #[.int .i64 n, .int .i64 6] 124)).heap[w.heap.size]? = some (.cells (pairsV [(n, 6)]).toArray 124 (0, 0)) := heap_alloc_new (w.drewN nd) _
 have hF : FrO w ((w.drewN nd).alloc (.cells #[.int .i64 n, .int .i64 6] 124)) := ((FrO.refl w).drewN nd).alloc _
 have hBl : Below B w ((w.drewN nd).alloc (.cells #[.int .i64 n, .int .i64 6] 124)) := (pw_below_drewN (Below.refl B w) nd).alloc hB _
 refine (puts_all B g w.heap.size mk bad (timeB n) L ⟨#[]⟩ [(n, 6)] _ hO1 hp (by simp) (by simp) (by decide) hl (Nat.le_trans hB hF.1)).mono ?_
 rintro e w1 ⟨rfl, h2, h3, h4⟩
 have H2 := Aside0.mk h2
 have H3 := Aside0.mk (hF.trans h3)
 have H4 := Aside0.mk (hBl.trans h4)
 clear h2 h3 h4 hO1 hp hF hBl
 go_wp2_with (fail)
 go_end0
 exact ⟨rfl, by simpa [byAll, bys] using H2.out, H3.out, H4.out⟩
theorem cellsN_nums (l : List Nat) : cellsN l = nums .u8 (l.map fun (n : Nat) => (n : Int)) := by simp [cellsN, nums]
theorem Out_Done (B g : Nat) (L : List Nat) (w : World) (hO : OutAt B g true false L w) :
  Calls Tryd.prog 59 #[.pointer (some ⟨g, 0, none⟩)] w fun e w' => e = .returned (.tuple #[.string (txt L), .int .i64 0]) ∧ w = w' := by
 obtain ⟨hBg, v, hbk, hown⟩ := hO
 obtain ⟨A, c, rfl⟩ := own_slice hown
 have g0 : w.cell? ⟨g, 0, none⟩ = some (.bool true) := by rw [cell_of_row w g _ _ _ _ hbk]; rfl
 have g1 : w.cell? ⟨g, 1, none⟩ = some (.bool false) := by rw [cell_of_row w g _ _ _ _ hbk]; rfl
 have g2 : w.cell? ⟨g, 2, none⟩ = some (.slice A L.length c) := by rw [cell_of_row w g _ _ _ _ hbk]; rfl
 rw [cellsN_nums, ← List.length_map (f := fun (n : Nat) => (n : Int))] at hown
 have hcv := own_string (P := Tryd.prog) Tryd.underlying53 Tryd.underlying5 Tryd.underlying9 hown
 rw [str_nats, List.length_map] at hcv
 clear hbk hown
 go_enter Tryd.func59, Tryd.ntmps59
 go_wp2_with (fail)
 go_ret2
 exact ⟨rfl, rfl⟩
theorem NewOut_calls (B : Nat) (w : World) (hB : B ≤ w.heap.size) :
  Calls Tryd.prog 55 #[] w fun e w' => e = .returned (.pointer (some ⟨w.heap.size, 0, none⟩)) ∧ OutAt B w.heap.size true false [] w' ∧ Below w.heap.size w w' := by
 go_enter Tryd.func55, Tryd.ntmps55
 go_wp2_with (fail)
 go_ret
 exact ⟨rfl, ⟨hB, _, heap_alloc_new w _, own_nil _ _ _ _⟩, below_alloc (Below.refl _ _) _⟩
section
open Go.RowKit Go.Deep Go.Proofs.YthemhfloablccaaDoorW.PrintWords Go.Proofs.YthemhfloablccaaDoorW.PrintLast Go.Proofs.YthemhfloablccaaDoorW.PrintMore
set_option maxHeartbeats 1000000
attribute [local go_sem ↓] Go.wp_at_zero Go.wp_at_succ
end
end
end Go.Proofs.YthemhfloablccaaDoor.Pr
end

section
namespace Go.Proofs.YthemhfloablccaaDoor.Pr
open Go.RowKit Go.Deep Go.Proofs.YthemhfloablccaaDoorW.PrintWords Go.Proofs.YthemhfloablccaaDoorW.PrintLast Go.Proofs.YthemhfloablccaaDoorW.PrintMore
set_option maxHeartbeats 4000000
def flagN (b : Bool) : Int := if b = true then 1 else 0
def memB (m : Mem) : List Nat := byN m.f1 6 ++ byN (flagN m.f2) 1
def grpL (E : Int) (l : List Mem) (O : Int) : List Nat := (byN E 6 ++ byN O 6) ++ l.flatMap memB
def goodG (E : Int) (l : List Mem) (O : Int) : Prop := l.length = 6 ∧ 0 ≤ E ∧ E ≤ 1099511627775 ∧ 0 ≤ O ∧ O ≤ 1099511627775 ∧ ∀ m ∈ l, 0 ≤ m.f1 ∧ m.f1 ≤ 1099511627775
instance (E : Int) (l : List Mem) (O : Int) : Decidable (goodG E l O) := by unfold goodG; infer_instance
def group_Put.f (k : Nat) (a0_0 : Int) (l0_1 : List Mem) (a0_2 : Int) : Option (ByteArray × Int) :=
 (group_Check.f k a0_0 l0_1 a0_2).bind fun c => if c = 0 then (if goodG a0_0 l0_1 a0_2 then some (txt (grpL a0_0 l0_1 a0_2), 0) else none) else some (⟨#[]⟩, c)
def PAt (w : World) (gb og : Nat) (gv : Array Value) (L : List Nat) (wx : World) : Prop :=
 Below w.heap.size w wx ∧ wx.heap[gb]? = some (.cells gv 24 (0, 0)) ∧ OutAt w.heap.size og true false L wx
section
variable {w wx w' : World} {gb og : Nat} {gv : Array Value} {L : List Nat}
theorem PAt.below (h : PAt w gb og gv L wx) (hb : Below wx.heap.size wx w') : PAt w gb og gv L w' := ⟨below_then h.1 h.1.size hb, blk_below h.2.1 hb, h.2.2.below hb⟩
theorem step_good (L M : List Nat) (h : L.length + M.length ≤ 65536) : outStep false L true M = (false, L ++ M) := by
 unfold outStep
 rw [if_neg (by intro q; rcases q with q | q | q; cases q; cases q; omega)]
theorem pnum (h : PAt w gb og gv L wx) (n : Int) (h0 : 0 ≤ n) (h1 : n ≤ 1099511627775) (hl : L.length + 6 ≤ 65536) :
  Calls Tryd.prog 56 #[.pointer (some ⟨og, 0, none⟩), .int .i64 n] wx fun e w' => e = .returned (.tuple #[]) ∧ PAt w gb og gv (L ++ byN n 6) w' ∧ FrO wx w' := by
 refine (Out_Num w.heap.size og true false L n wx h.2.2 (by omega) h.1.size).mono ?_
 rintro e w' ⟨rfl, ho, hf, hb⟩
 have ht : timeB n = true := decide_eq_true ⟨h0, h1⟩
 rw [ht, step_good _ _ (by rw [byN_length _ _ (by decide)]; exact hl)] at ho
 exact ⟨rfl, ⟨h.1.trans hb, hf.blk h.2.1 (by decide) (by decide), ho⟩, hf⟩
theorem pbyte (h : PAt w gb og gv L wx) (n : Int) (h0 : 0 ≤ n) (h1 : n ≤ 255) (hl : L.length + 1 ≤ 65536) :
  Calls Tryd.prog 58 #[.pointer (some ⟨og, 0, none⟩), .int .i64 n] wx fun e w' => e = .returned (.tuple #[]) ∧ PAt w gb og gv (L ++ byN n 1) w' ∧ FrO wx w' := by
 refine (Out_Byte w.heap.size og true false L n wx h.2.2 (by omega) h.1.size).mono ?_
 rintro e w' ⟨rfl, ho, hf, hb⟩
 have ht : oneB n = true := decide_eq_true ⟨h0, h1⟩
 rw [ht, step_good _ _ (by rw [byN_length _ _ (by decide)]; exact hl)] at ho
 exact ⟨rfl, ⟨h.1.trans hb, hf.blk h.2.1 (by decide) (by decide), ho⟩, hf⟩
end
theorem memB_len (l : List Mem) : (l.flatMap memB).length = 7 * l.length := by
 induction l with
 | nil => rfl
 | cons m l ih => rw [List.flatMap_cons, List.length_append, ih, memB, List.length_append, byN_length _ _ (by decide), byN_length _ _ (by decide), List.length_cons]; omega
theorem take_memB {l : List Mem} {j : Nat} {m : Mem} (h : l[j]? = some m) : (l.take (j + 1)).flatMap memB = (l.take j).flatMap memB ++ memB m := by
 rw [List.take_add_one, h, List.flatMap_append]
 simp
theorem flag_calls (b : Bool) (w : World) : Calls Tryd.prog 57 #[.bool b] w fun e w' => e = .returned (.int .i64 (flagN b)) ∧ w' = w := by
 cases b
 ·go_enter Tryd.func57, Tryd.ntmps57
  go_wp2
  go_ret
  exact ⟨rfl, rfl⟩
 ·go_enter Tryd.func57, Tryd.ntmps57
  go_wp2
  go_ret
  exact ⟨rfl, rfl⟩
set_option maxRecDepth 100000 in
theorem group_Put.calls (k : Nat) (a0_0 : Int) (A0_1 : Option Addr) (c0_1 : Nat) (l0_1 : List Mem) (a0_2 : Int) (r1 : ByteArray) (r2 : Int) (w : World) (hr0_1 : Kd.C k46 w A0_1 l0_1.length l0_1) (hc0_1 : l0_1.length ≤ c0_1) (h : group_Put.f k a0_0 l0_1 a0_2 = some (r1, r2)) :
  Calls Tryd.prog 27 #[.agg #[.int .i64 a0_0, .slice A0_1 l0_1.length c0_1, .int .i64 a0_2]] w fun e w' => e = .returned (.tuple #[.string r1, .int .i64 r2]) ∧ Below w.heap.size w w' := by
 unfold group_Put.f at h
 obtain ⟨c, hgc, h1⟩ := Option.bind_eq_some_iff.1 h
 have HGC := Aside0.mk (fun (W : World) (hb : Below w.heap.size w W) => group_Check.calls k a0_0 A0_1 c0_1 l0_1 a0_2 c W (Kd.C_below hr0_1 hb) hc0_1 hgc)
 have H := Aside0.mk h1
 have HR0 := Aside0.mk hr0_1
 have HBA := Aside0.mk (below_alloc (Below.refl w.heap.size w) (.cells #[.int .i64 a0_0, .slice A0_1 l0_1.length c0_1, .int .i64 a0_2] 24))
 have HNA := Aside0.mk (heap_alloc_new w (.cells #[.int .i64 a0_0, .slice A0_1 l0_1.length c0_1, .int .i64 a0_2] 24))
 clear h h1 hgc hr0_1 hc0_1
 by_cases hc : c = 0
 ·subst hc
  have hr := H.out
  rw [if_pos rfl] at hr
  by_cases hg : goodG a0_0 l0_1 a0_2
  ·rw [if_pos hg] at hr
   cases hr
   have HG := Aside0.mk hg
   clear hg H
   go_enter Tryd.func27, Tryd.ntmps27
   go_wp2_with (fail)
   refine (HGC.out _ HBA.out).mono ?_
   rintro e w1 ⟨rfl, hb⟩
   have HB1 := Aside0.mk (below_then HBA.out HBA.out.size hb)
   have HN1 := Aside0.mk (blk_below HNA.out hb)
   clear hb HBA HNA HGC
   go_wp2_with (fail)
   refine (NewOut_calls w.heap.size w1 HB1.out.size).mono ?_
   rintro e w2 ⟨rfl, ho, hb⟩
   have P2 := Aside0.mk (show PAt w w.heap.size w1.heap.size #[.int .i64 a0_0, .slice A0_1 l0_1.length c0_1, .int .i64 a0_2] [] w2 from ⟨below_then HB1.out HB1.out.size hb, blk_below HN1.out hb, ho⟩)
   clear hb ho HB1 HN1
   generalize w1.heap.size = og at P2 ⊢
   obtain ⟨b0, b1, b2⟩ := (show _ ∧ _ ∧ _ from ⟨(blk_cell P2.out.2.1 0).trans rfl, (blk_cell P2.out.2.1 1).trans rfl, (blk_cell P2.out.2.1 2).trans rfl⟩ : w2.cell? ⟨w.heap.size, 0, none⟩ = some (.int .i64 a0_0) ∧ w2.cell? ⟨w.heap.size, 1, none⟩ = some (.slice A0_1 l0_1.length c0_1) ∧ w2.cell? ⟨w.heap.size, 2, none⟩ = some (.int .i64 a0_2))
   go_wp2_with (fail)
   refine (pnum P2.out a0_0 HG.out.2.1 HG.out.2.2.1 (by simp)).mono ?_
   rintro e w3 ⟨rfl, h3, -⟩
   have P3 := Aside0.mk h3
   clear h3 b0 b1 b2
   have b2 : w3.cell? ⟨w.heap.size, 2, none⟩ = some (.int .i64 a0_2) := (blk_cell P3.out.2.1 2).trans rfl
   go_wp2_with (fail)
   refine (pnum P3.out a0_2 HG.out.2.2.2.1 HG.out.2.2.2.2.1 (by rw [List.nil_append, byN_length _ _ (by decide)]; omega)).mono ?_
   rintro e w4 ⟨rfl, h4, -⟩
   have P4 := Aside0.mk (show PAt w w.heap.size og #[.int .i64 a0_0, .slice A0_1 l0_1.length c0_1, .int .i64 a0_2] (byN a0_0 6 ++ byN a0_2 6) w4 by simpa using h4)
   clear h4 b2
   have b1 : w4.cell? ⟨w.heap.size, 1, none⟩ = some (.slice A0_1 l0_1.length c0_1) := (blk_cell P4.out.2.1 1).trans rfl
   obtain ⟨base, hbase⟩ : ∃ B, byN a0_0 6 ++ byN a0_2 6 = B := ⟨_, rfl⟩
   have hbl : base.length = 12 := by rw [← hbase, List.length_append, byN_length _ _ (by decide), byN_length _ _ (by decide)]
   have HBL := Aside0.mk hbl
   have HBASE := Aside0.mk hbase
   rw [hbase] at P4
   clear hbase hbl
   go_wp2_with (fail)
   clear b1
   go_loopg [26] l0_1.length (fun gk i wx => ∃ j : Nat, j ≤ l0_1.length ∧ i = .int .i64 (j : Int) ∧ Aside0 (gk = l0_1.length - j) ∧ Aside0 (PAt w w.heap.size og #[.int .i64 a0_0, .slice A0_1 l0_1.length c0_1, .int .i64 a0_2] (base ++ (l0_1.take j).flatMap memB) wx))
   case atStart => exact ⟨0, Nat.zero_le _, rfl, ⟨rfl⟩, ⟨by simpa using P4.out⟩⟩
   case round =>
    obtain ⟨j, hj, rfl, HGK, HP⟩ := hrel
    by_cases hlt : j < l0_1.length
    ·have q1 : decide (j < l0_1.length) = true := decide_eq_true hlt
     obtain ⟨ad, hA, c0, c1, c2⟩ := at_T46 (Kd.C_below HR0.out HP.out.1) (j : Int) (by omega) (by omega)
     subst hA
     have hx := List.getElem?_eq_getElem hlt
     generalize l0_1[j] = m at hx
     rw [rd_mem l0_1 j m hx] at c0 c1 c2
     rw [Int.toNat_natCast] at c0 c1 c2
     have e5 := eq_true hlt
     have HLT := Aside0.mk hlt
     have HX := Aside0.mk hx
     have w1 : wrap64 ((j : Int) + 1) = ((j + 1 : Nat) : Int) := by have := HG.out.1; unfold wrap64; omega
     clear hlt hx hj
     go_upto_region 11 with (first | ((with_reducible refine gate_dst (N := 8) rfl ?_); (try (refine gate_guard (by rfl) ?_; dsimp only)); refine box_event ?hg (N := 8) ?hd (cs := #[.int .i64 0, .int .i64 0, .bool false]) (t := 46) ?hr ?_; (case hd => rfl); (case hg => rfl); (case hr => first | (go_simp; done) | (go_simp; rfl)); intro g8 hg w5 hbox hb; have Q5 := Aside0.mk (HP.out.below hb); have K5 := Aside0.mk hbox; have L5 := Aside0.mk (show w.heap.size ≤ g8 ∧ w.heap.size ≠ g8 ∧ g8 ≠ og by rw [hg]; exact ⟨HP.out.1.size, Nat.ne_of_lt (blk_lt HP.out.2.1), Nat.ne_of_gt HP.out.2.2.lt⟩); clear hb hbox hg c0 c1 c2; have d0 : w5.cell? ⟨g8, 0, none⟩ = some (.int .i64 0) := (blk_cell K5.out 0).trans rfl; have d1 : w5.cell? ⟨g8, 1, none⟩ = some (.int .i64 0) := (blk_cell K5.out 1).trans rfl; have d2 : w5.cell? ⟨g8, 2, none⟩ = some (.bool false) := (blk_cell K5.out 2).trans rfl; have z0 := blk_frozen K5.out 0; have z1 := blk_frozen K5.out 1; have z2 := blk_frozen K5.out 2))
     (try simp only [Act.put, List.setIfInBounds_toArray, List.set_cons_zero, List.set_cons_succ])
     have K6 := Aside0.mk (blk_put (cs' := #[.int .i64 m.f0, .int .i64 m.f1, .bool m.f2]) (blk_put (cs' := #[.int .i64 m.f0, .int .i64 m.f1, .bool false]) (blk_put (cs' := #[.int .i64 m.f0, .int .i64 0, .bool false]) K5.out 0 (.int .i64 m.f0) rfl) 1 (.int .i64 m.f1) rfl) 2 (.bool m.f2) rfl)
     have P6 : Aside0 (PAt w w.heap.size og #[.int .i64 a0_0, .slice (some ad) l0_1.length c0_1, .int .i64 a0_2] (base ++ (l0_1.take j).flatMap memB) (((w5.setCell ⟨g8, 0, none⟩ (.int .i64 m.f0)).setCell ⟨g8, 1, none⟩ (.int .i64 m.f1)).setCell ⟨g8, 2, none⟩ (.bool m.f2))) := ⟨⟨below_set (below_set (below_set Q5.out.1 L5.out.1) L5.out.1) L5.out.1, blk_far (blk_far (blk_far Q5.out.2.1 L5.out.2.1 _) L5.out.2.1 _) L5.out.2.1 _, ((Q5.out.2.2.far K5.out (by decide) (by decide) 0 _).far (blk_put K5.out 0 _ rfl) (by decide) (by decide) 1 _).far (blk_put (blk_put K5.out 0 _ rfl) 1 _ rfl) (by decide) (by decide) 2 _⟩⟩
     clear Q5 K5 d0 d1 d2 z0 z1 z2
     generalize ((w5.setCell ⟨g8, 0, none⟩ (.int .i64 m.f0)).setCell ⟨g8, 1, none⟩ (.int .i64 m.f1)).setCell ⟨g8, 2, none⟩ (.bool m.f2) = w6 at K6 P6 ⊢
     have d1 : w6.cell? ⟨g8, 1, none⟩ = some (.int .i64 m.f1) := (blk_cell K6.out 1).trans rfl
     have hmr : 0 ≤ m.f1 ∧ m.f1 ≤ 1099511627775 := HG.out.2.2.2.2.2 m (List.mem_of_getElem? HX.out)
     have HMR := Aside0.mk hmr
     have hfl : ((l0_1.take j).flatMap memB).length = 7 * j := by rw [memB_len, List.length_take]; have := HLT.out; omega
     have hl1 : (base ++ (l0_1.take j).flatMap memB).length ≤ 54 := by rw [List.length_append, hfl]; have := HBL.out; have := HLT.out; have := HG.out.1; omega
     have HL1 := Aside0.mk hl1
     clear hmr hfl hl1
     generalize hL : base ++ (l0_1.take j).flatMap memB = L at P6 HL1
     have HLL := Aside0.mk hL
     clear hL
     go_wp2_with (fail)
     refine (pnum P6.out m.f1 HMR.out.1 HMR.out.2 (by have := HL1.out; omega)).mono ?_
     rintro e w7 ⟨rfl, h7, hf7⟩
     have P7 := Aside0.mk h7
     have K7 := Aside0.mk (hf7.blk K6.out (by decide) (by decide))
     clear h7 hf7 K6 P6 d1
     have d2 : w7.cell? ⟨g8, 2, none⟩ = some (.bool m.f2) := (blk_cell K7.out 2).trans rfl
     have HFC := Aside0.mk (flag_calls m.f2)
     have hfr : 0 ≤ flagN m.f2 ∧ flagN m.f2 ≤ 255 := by unfold flagN; split <;> omega
     have HFR := Aside0.mk hfr
     clear hfr
     go_wp2_with (fail)
     refine (HFC.out _).mono ?_
     rintro e w8 ⟨rfl, rfl⟩
     go_wp2_with (fail)
     refine (pbyte P7.out (flagN m.f2) HFR.out.1 HFR.out.2 (by rw [List.length_append, byN_length _ _ (by decide)]; have := HL1.out; omega)).mono ?_
     rintro e w9 ⟨rfl, h9, -⟩
     have P9 := Aside0.mk h9
     clear h9 d2
     go_wp2_with (fail)
     go_roundg (l0_1.length - (j + 1))
     case measure => have := HGK.out; have := HLT.out; omega
     case rel => exact ⟨j + 1, HLT.out, by go_num, ⟨rfl⟩, ⟨by rw [take_memB HX.out, ← List.append_assoc, HLL.out, memB, ← List.append_assoc]; exact P9.out⟩⟩
    ·have q1 : decide (j < l0_1.length) = false := decide_eq_false hlt
     obtain rfl : j = l0_1.length := by omega
     have PF := Aside0.mk (show PAt w w.heap.size og #[.int .i64 a0_0, .slice A0_1 l0_1.length c0_1, .int .i64 a0_2] (grpL a0_0 l0_1 a0_2) wr by have := HP.out; rwa [List.take_length, ← HBASE.out] at this)
     clear hlt hj HP
     have HD := Aside0.mk (Out_Done w.heap.size og _ wr PF.out.2.2)
     go_wp2_with (fail)
     refine HD.out.mono ?_
     rintro e w9 ⟨rfl, rfl⟩
     go_wp2_with (fail)
     first | go_ret | go_ret2
     exact ⟨rfl, PF.out.1⟩
  ·rw [if_neg hg] at hr
   cases hr
 ·have hr := H.out
  rw [if_neg hc] at hr
  cases hr
  have dn : (r2 != 0) = true := bne_iff_ne.2 hc
  clear hc H
  go_enter Tryd.func27, Tryd.ntmps27
  go_wp2_with (fail)
  refine (HGC.out _ HBA.out).mono ?_
  rintro e w1 ⟨rfl, hb⟩
  have HB1 := Aside0.mk (below_then HBA.out HBA.out.size hb)
  clear hb HBA HNA HGC
  go_wp2_with (fail)
  first | go_ret | go_ret2
  exact ⟨rfl, HB1.out⟩
end Go.Proofs.YthemhfloablccaaDoor.Pr
end

section
namespace Go.Proofs.YthemhfloablccaaDoor.Pr
open Go.RowKit Go.Proofs.YthemhfloablccaaDoorW.PrintWords Go.Proofs.YthemhfloablccaaDoorW.PrintLast Go.Proofs.YthemhfloablccaaDoorW.PrintMore
attribute [local go_sem] max2_int min2_int max_two min_two max_three min_three max_four min_four
def group_New.l0 : Nat → Int → Int → List (S46) → Int → Option (Int × (List (S46)) × Int)
 | 0, _, _, _, _ => none
 | k + 1, x4, x135000, x135001, x135002 => if x4 < 6 then (if x135001.length < 5864062014805 then (group_New.l0 k (wrap64 (x4 + 1)) x135000 (x135001 ++ [(⟨wrap64 (x4 + 1), 0, ((wrap64 (x4 + 1)) == 1)⟩ : S46)]) x135002) else (none)) else (some (x135000, x135001, x135002))
def group_New.f (k : Nat)  : Option (Int × (List (S46)) × Int) := group_New.l0 k 0 1 ([] : List (S46)) 0
set_option maxHeartbeats 8000000 in
set_option maxRecDepth 100000 in
theorem group_New.calls (k : Nat)  (r1 : Int) (r2 : List (S46)) (r3 : Int) (w : World) (h : group_New.f k  = some (r1, r2, r3)) :
    Calls Tryd.prog 25 #[] w fun e w' => ∃ v1_ : Value, e = .returned (.agg #[.int .i64 r1, v1_, .int .i64 r3]) ∧ Kd.R k46 46 w' w.heap.size (fun _ => True) v1_ r2 ∧ Below w.heap.size w w' := by
  have hu24 := Tryd.underlying24; have hu46 := Tryd.underlying46; have HB := Aside0.mk (Below.refl w.heap.size w); have H : (group_New.l0 k 0 1 ([] : List (S46)) 0) = some (r1, r2, r3) := h; clear h; have H' := Aside0.mk H; clear H; go_enter Tryd.func25, Tryd.ntmps25
  go_wp2_with (first | ((with_reducible refine gate_dst (N := 0) rfl ?_); refine box_event ?hg (N := 0) ?hd (cs := #[.int .i64 0, .slice none 0 0, .int .i64 0]) (t := 24) ?hr ?_; (case hd => rfl); (case hg => rfl); (case hr => first | (go_simp; done) | (go_simp; rfl)); intro gb133 hg w1 hbox hb; have n0_ := Aside0.mk (below_step hb_ hb); have n1_ := Aside0.mk (hbox); have n2_ := Aside0.mk ((by rw [hg]; exact (below_size hb_) : w.heap.size ≤ gb133)); have n3_ := Aside0.mk ((by rw [hg]; exact (below_size hb_) : w.heap.size ≤ gb133)); clear HB; have HB := n0_; have BK133 := n1_; have GW133 := n2_; have GE133 := n3_; clear n0_ n1_ n2_ n3_; clear hb hbox hg) | ((with_reducible refine gate_dst (N := 1) rfl ?_); refine box_event ?hg (N := 1) ?hd (cs := #[.int .i64 0, .slice none 0 0, .int .i64 0]) (t := 24) ?hr ?_; (case hd => rfl); (case hg => rfl); (case hr => first | (go_simp; done) | (go_simp; rfl)); intro gb134 hg w2 hbox hb; have n0_ := Aside0.mk (blk_below (g := gb133) (o := .cells #[.int .i64 0, .slice none 0 0, .int .i64 0] 24 (0, 0)) (by (with_reducible repeat (first | refine blk_drewN ?_ _ | refine blk_drew ?_ | refine blk_alloc ?_ _)); exact BK133.out) hb); have n1_ := Aside0.mk (below_step (by repeat (first | (with_reducible first | exact HB.out | apply below_alloc | apply pw_below_drewN | apply below_drew1 | refine below_set ?_ GE133.out) | exact HB.out)) hb); have n2_ := Aside0.mk (hbox); have n3_ := Aside0.mk ((by rw [hg]; exact (below_size (by repeat (first | (with_reducible first | exact HB.out | apply below_alloc | apply pw_below_drewN | apply below_drew1 | refine below_set ?_ GE133.out) | exact HB.out))) : w.heap.size ≤ gb134)); have n4_ := Aside0.mk ((by rw [hg]; exact (below_size (by repeat (first | (with_reducible first | exact HB.out | apply below_alloc | apply pw_below_drewN | apply below_drew1 | refine below_set ?_ GE133.out) | exact HB.out))) : w.heap.size ≤ gb134)); have n5_ := Aside0.mk ((by rw [hg]; exact Nat.ne_of_lt (blk_lt (g := gb133) (o := .cells #[.int .i64 0, .slice none 0 0, .int .i64 0] 24 (0, 0)) (by (with_reducible repeat (first | refine blk_drewN ?_ _ | refine blk_drew ?_ | refine blk_alloc ?_ _)); exact BK133.out)) : gb133 ≠ gb134)); have n6_ := Aside0.mk ((by rw [hg]; exact Nat.ne_of_gt (blk_lt (g := gb133) (o := .cells #[.int .i64 0, .slice none 0 0, .int .i64 0] 24 (0, 0)) (by (with_reducible repeat (first | refine blk_drewN ?_ _ | refine blk_drew ?_ | refine blk_alloc ?_ _)); exact BK133.out)) : gb134 ≠ gb133)); clear BK133; clear HB; have BK133 := n0_; have HB := n1_; have BK134 := n2_; have GW134 := n3_; have GE134 := n4_; have NB133_134 := n5_; have NB134_133 := n6_; clear n0_ n1_ n2_ n3_ n4_ n5_ n6_; clear hb hbox hg; have hnb3 := NB134_133.out; have hnc3 := NB133_134.out; have hcz4_0 : w2.cell? ⟨gb134, 0, none⟩ = some (.int .i64 0) := (blk_cell BK134.out 0).trans rfl; have hcz4_1 : w2.cell? ⟨gb134, 1, none⟩ = some (.slice none 0 0) := (blk_cell BK134.out 1).trans rfl; have hcz4_2 : w2.cell? ⟨gb134, 2, none⟩ = some (.int .i64 0) := (blk_cell BK134.out 2).trans rfl; have hfz4_0 := blk_frozen BK134.out 0; have hfz4_1 := blk_frozen BK134.out 1; have hfz4_2 := blk_frozen BK134.out 2))
  go_loopg [4] k (fun kq v4 w' => ∃ (x4_1 : Int) (x135001_1 : List (S46)) (u135001 : Value), v4 = .int .i64 x4_1 ∧ Aside0 (group_New.l0 kq x4_1 1 x135001_1 0 = some (r1, r2, r3)) ∧ Aside0 (kq ≤ k) ∧ Aside0 (Kd.R k46 46 w' w.heap.size (fun _ => True) u135001 x135001_1) ∧ Aside0 (w'.heap[gb133]? = some (.cells #[.int .i64 0, (.slice none 0 0), .int .i64 0] 24 (0, 0))) ∧ Aside0 (w'.heap[gb134]? = some (.cells #[.int .i64 1, u135001, .int .i64 0] 24 (0, 0))) ∧ Aside0 (Below w.heap.size w w'))
  case atStart => exact ⟨(0), (([] : List (S46))), (.slice none 0 0), rz_, H', ⟨Nat.le_refl _⟩, ⟨by first | exact Kd.R_nil _ _ _ _ _ | exact Kd.N_nil _ _ _ _ _ | exact Kd.V_nil _ _ _ _ _ | exact Kd.Q_nil _ _ _ _ _ | exact Kd.S_nil _ _ _ _ _⟩, ⟨by (with_reducible repeat (first | refine blk_drewN ?_ _ | refine blk_drew ?_ | refine blk_alloc ?_ _)); refine blk_far ?_ NB133_134.out _; (with_reducible repeat (first | refine blk_drewN ?_ _ | refine blk_drew ?_ | refine blk_alloc ?_ _)); refine blk_far ?_ NB133_134.out _; (with_reducible repeat (first | refine blk_drewN ?_ _ | refine blk_drew ?_ | refine blk_alloc ?_ _)); refine blk_far ?_ NB133_134.out _; (with_reducible repeat (first | refine blk_drewN ?_ _ | refine blk_drew ?_ | refine blk_alloc ?_ _)); exact BK133.out⟩, ⟨by (with_reducible repeat (first | refine blk_drewN ?_ _ | refine blk_drew ?_ | refine blk_alloc ?_ _)); refine blk_put (cs := #[.int .i64 1, .slice none 0 0, .int .i64 0]) ?_ 2 _ rfl; (with_reducible repeat (first | refine blk_drewN ?_ _ | refine blk_drew ?_ | refine blk_alloc ?_ _)); refine blk_put (cs := #[.int .i64 1, .slice none 0 0, .int .i64 0]) ?_ 1 _ rfl; (with_reducible repeat (first | refine blk_drewN ?_ _ | refine blk_drew ?_ | refine blk_alloc ?_ _)); refine blk_put (cs := #[.int .i64 0, .slice none 0 0, .int .i64 0]) ?_ 0 _ rfl; (with_reducible repeat (first | refine blk_drewN ?_ _ | refine blk_drew ?_ | refine blk_alloc ?_ _)); exact BK134.out⟩, ⟨by repeat (first | (with_reducible first | exact HB.out | apply below_alloc | apply pw_below_drewN | apply below_drew1 | refine below_set ?_ GE133.out | refine below_set ?_ GE134.out) | exact HB.out)⟩⟩
  case round =>
    clear H'; obtain ⟨x4_1, x135001_1, u135001, rfl, HA, HK1, HO_135001, BK133, BK134, HB⟩ := hrel; cases gk with
    | zero => exact absurd HA.out (by simp [group_New.l0])
    | succ k1 =>
      have H := HA.out; clear HA; simp only [group_New.l0] at H; by_cases c5 : x4_1 < 6
      · rw [if_pos c5] at H; have c5b0 : decide (x4_1 < 6) = true := decide_eq_true c5; clear c5; by_cases c6 : x135001_1.length < 5864062014805
        · rw [if_pos c6] at H; have LMc6 := Aside0.mk c6; clear c6; obtain ⟨y135, hy135⟩ : ∃ y_ : List (S46), y_ = (x135001_1 ++ [(⟨wrap64 (x4_1 + 1), 0, ((wrap64 (x4_1 + 1)) == 1)⟩ : S46)]) := ⟨_, rfl⟩; replace H : (group_New.l0 k1 (wrap64 (x4_1 + 1)) 1 y135 0) = some (r1, r2, r3) := by first | (rw [hy135]; with_reducible exact H) | (have H2_ := (Option.bind_some _ _).symm.trans H; rw [hy135]; with_reducible exact H2_) | (have H2_ := (Option.bind_some _ _).symm.trans H; with_reducible exact H2_) | with_reducible exact H | (rw [hy135]; exact H) | exact H
          have Ny135 := Aside0.mk hy135; clear hy135; have H' := Aside0.mk H; clear H; have hnb7 := NB134_133.out; have hnc7 := NB133_134.out; have hcz8_0 : wr.cell? ⟨gb134, 0, none⟩ = some (.int .i64 1) := (blk_cell BK134.out 0).trans rfl; have hcz8_1 : wr.cell? ⟨gb134, 1, none⟩ = some (u135001) := (blk_cell BK134.out 1).trans rfl; have hcz8_2 : wr.cell? ⟨gb134, 2, none⟩ = some (.int .i64 0) := (blk_cell BK134.out 2).trans rfl; have hfz8_0 := blk_frozen BK134.out 0; have hfz8_1 := blk_frozen BK134.out 1; have hfz8_2 := blk_frozen BK134.out 2; go_wp2_with (first | ((with_reducible refine gate_builtin (b := .append) (xs := #[.tmp 8, .tmp 15]) rfl ?_); at_builtin; refine Kd.R_append k46 (w0 := w) w.heap.size rfl (.tmp 8) (.tmp 15) 22 46 (.agg #[(.int .i64 0), (.int .i64 0), (.bool false)]) 24 rfl Tryd.underlying22 info46 rfl (by decide) (by omega) u135001 x135001_1 (⟨wrap64 (x4_1 + 1), 0, ((wrap64 (x4_1 + 1)) == 1)⟩ : S46) [.int .i64 (wrap64 (x4_1 + 1)), .int .i64 0, .bool ((wrap64 (x4_1 + 1)) == 1)] (fun _ => True) (fun _ => False) rfl rfl ?aP (fun _ hk => hk.elim) ?aF ?aO ?aB ?aS ?aL ?_; (case aP => exact k46_mkM _ _ _ (⟨wrap64 (x4_1 + 1), 0, ((wrap64 (x4_1 + 1)) == 1)⟩ : S46)); (case aB => exact (by repeat (first | (with_reducible first | exact HB.out | apply below_alloc | apply pw_below_drewN | apply below_drew1 | refine below_set ?_ GE133.out | refine below_set ?_ GE134.out) | exact HB.out))); (case aF => exact (fun _ _ => trivial)); (case aO => exact (ra_ HO_135001.out)); (case aS => exact (below_size (by repeat (first | (with_reducible first | exact HB.out | apply below_alloc | apply pw_below_drewN | apply below_drew1 | refine below_set ?_ GE133.out | refine below_set ?_ GE134.out) | exact HB.out)))); (case aL => have := LMc6.out; omega); intro v136 w9 ho hb hg hat; rw [← Ny135.out] at ho; have n0_ := Aside0.mk (blk_grown (g := gb133) (o := .cells #[.int .i64 0, .slice none 0 0, .int .i64 0] 24 (0, 0)) (by (with_reducible repeat (first | refine blk_drewN ?_ _ | refine blk_drew ?_ | refine blk_alloc ?_ _)); exact BK133.out) hg (Kd.R_ne HO_135001.out BK133.out (by decide))); have n1_ := Aside0.mk (blk_grown (g := gb134) (o := .cells #[.int .i64 1, u135001, .int .i64 0] 24 (0, 0)) (by (with_reducible repeat (first | refine blk_drewN ?_ _ | refine blk_drew ?_ | refine blk_alloc ?_ _)); exact BK134.out) hg (Kd.R_ne HO_135001.out BK134.out (by decide))); have n2_ := Aside0.mk (hb); have n3_ := Aside0.mk (ho); clear BK133; clear BK134; clear HB; clear HO_135001; have BK133 := n0_; have BK134 := n1_; have HB := n2_; have HO137 := n3_; clear n0_ n1_ n2_ n3_; clear ho hb hg hat; obtain ⟨Ao10, co10, eo10⟩ := Kd.R_slice HO137.out; subst eo10; have hcz11_0 : w9.cell? ⟨gb134, 0, none⟩ = some (.int .i64 1) := (blk_cell BK134.out 0).trans rfl; have hcz11_1 : w9.cell? ⟨gb134, 1, none⟩ = some (u135001) := (blk_cell BK134.out 1).trans rfl; have hcz11_2 : w9.cell? ⟨gb134, 2, none⟩ = some (.int .i64 0) := (blk_cell BK134.out 2).trans rfl; have hfz11_0 := blk_frozen BK134.out 0; have hfz11_1 := blk_frozen BK134.out 1; have hfz11_2 := blk_frozen BK134.out 2))
          go_roundg k1
          case measure => have := HK1.out; omega
          case rel => exact ⟨(wrap64 (x4_1 + 1)), (y135), (.slice Ao10 y135.length co10), rz_, H', ⟨by have := HK1.out; omega⟩, ⟨by (with_reducible repeat (first | apply Kd.R_alloc | apply Kd.R_drewN | apply Kd.R_drew)); exact Kd.R_mono (Kd.R_far (p := ⟨gb134, 1, none⟩) (Kd.R_types HO137.out BK134.out (by decide)) (fun _ hk => hk.2) (.slice Ao10 y135.length co10)) (fun _ hk => trivial)⟩, ⟨by (with_reducible repeat (first | refine blk_drewN ?_ _ | refine blk_drew ?_ | refine blk_alloc ?_ _)); refine blk_far ?_ NB133_134.out _; (with_reducible repeat (first | refine blk_drewN ?_ _ | refine blk_drew ?_ | refine blk_alloc ?_ _)); exact BK133.out⟩, ⟨by (with_reducible repeat (first | refine blk_drewN ?_ _ | refine blk_drew ?_ | refine blk_alloc ?_ _)); refine blk_put (cs := #[.int .i64 1, u135001, .int .i64 0]) ?_ 1 _ rfl; (with_reducible repeat (first | refine blk_drewN ?_ _ | refine blk_drew ?_ | refine blk_alloc ?_ _)); exact BK134.out⟩, ⟨by repeat (first | (with_reducible first | exact HB.out | apply below_alloc | apply pw_below_drewN | apply below_drew1 | refine below_set ?_ GE133.out | refine below_set ?_ GE134.out) | exact HB.out)⟩⟩
        · rw [if_neg c6] at H; exact absurd H (by simp)
      · rw [if_neg c5] at H; have c5b0 : decide (x4_1 < 6) = false := decide_eq_false c5; clear c5; simp only [Option.some.injEq, Prod.mk.injEq] at H; obtain ⟨rfl, rfl, rfl⟩ := H; have hnb12 := NB134_133.out; have hnc12 := NB133_134.out; have hcz13_0 : wr.cell? ⟨gb134, 0, none⟩ = some (.int .i64 1) := (blk_cell BK134.out 0).trans rfl; have hcz13_1 : wr.cell? ⟨gb134, 1, none⟩ = some (u135001) := (blk_cell BK134.out 1).trans rfl; have hcz13_2 : wr.cell? ⟨gb134, 2, none⟩ = some (.int .i64 0) := (blk_cell BK134.out 2).trans rfl; have hfz13_0 := blk_frozen BK134.out 0; have hfz13_1 := blk_frozen BK134.out 1; have hfz13_2 := blk_frozen BK134.out 2; have hcz14_0 : wr.cell? ⟨gb133, 0, none⟩ = some (.int .i64 0) := (blk_cell BK133.out 0).trans rfl; have hcz14_1 : wr.cell? ⟨gb133, 1, none⟩ = some (.slice none 0 0) := (blk_cell BK133.out 1).trans rfl; have hcz14_2 : wr.cell? ⟨gb133, 2, none⟩ = some (.int .i64 0) := (blk_cell BK133.out 2).trans rfl; have hfz14_0 := blk_frozen BK133.out 0; have hfz14_1 := blk_frozen BK133.out 1; have hfz14_2 := blk_frozen BK133.out 2; obtain ⟨Ao15, co15, eo15⟩ := Kd.R_slice HO_135001.out; subst eo15; go_wp2; refine bodyPost_ret (results_cell_row rfl _ _ gb133 24 #[.int .i64 1, .slice Ao15 x135001_1.length co15, .int .i64 0] (0, 0) _ rfl (by (with_reducible repeat (first | refine blk_drewN ?_ _ | refine blk_drew ?_ | refine blk_alloc ?_ _)); refine blk_put (cs := #[.int .i64 1, .slice Ao15 x135001_1.length co15, .int .i64 0]) ?_ 2 _ rfl; (with_reducible repeat (first | refine blk_drewN ?_ _ | refine blk_drew ?_ | refine blk_alloc ?_ _)); refine blk_put (cs := #[.int .i64 1, .slice none 0 0, .int .i64 0]) ?_ 1 _ rfl; (with_reducible repeat (first | refine blk_drewN ?_ _ | refine blk_drew ?_ | refine blk_alloc ?_ _)); refine blk_put (cs := #[.int .i64 0, .slice none 0 0, .int .i64 0]) ?_ 0 _ rfl; (with_reducible repeat (first | refine blk_drewN ?_ _ | refine blk_drew ?_ | refine blk_alloc ?_ _)); exact BK133.out) Tryd.underlying24 rfl (by kernel_rfl)) rfl ?_; exact ⟨_, ew_, by (with_reducible repeat (first | apply Kd.R_alloc | apply Kd.R_drewN | apply Kd.R_drew)); exact Kd.R_mono (Kd.R_far (p := ⟨gb133, 2, none⟩) (Kd.R_far (p := ⟨gb133, 1, none⟩) (Kd.R_far (p := ⟨gb133, 0, none⟩) (Kd.R_types HO_135001.out BK133.out (by decide)) (fun _ hk => hk.2) (.int .i64 1)) (fun _ hk => hk.2) (.slice Ao15 x135001_1.length co15)) (fun _ hk => hk.2) (.int .i64 0)) (fun _ hk => trivial), by repeat (first | (with_reducible first | exact HB.out | apply below_alloc | apply pw_below_drewN | apply below_drew1 | refine below_set ?_ GE133.out | refine below_set ?_ GE134.out) | exact HB.out)⟩
def samphirelaw20_control.f (a0 : Int) (a1 : Int) (a2 : Int) : Option (Int × Int × Int × Int × ByteArray × Int × Int × Int × Int × Int × Int × Int × ByteArray × ByteArray × Int × (List (S80))) := if 32 ≤ 281474976710656 then (some (a0, 1, a1, 0, strOfNums (List.replicate 32 0), 0, 0, 0, 0, 0, 0, 0, (⟨#[]⟩ : ByteArray), (⟨#[]⟩ : ByteArray), a2, ([] : List (S80)))) else (none)
set_option maxHeartbeats 8000000 in
set_option maxRecDepth 100000 in
theorem samphirelaw20_control.calls (a0 : Int) (a1 : Int) (a2 : Int) (r1 : Int) (r2 : Int) (r3 : Int) (r4 : Int) (r5 : ByteArray) (r6 : Int) (r7 : Int) (r8 : Int) (r9 : Int) (r10 : Int) (r11 : Int) (r12 : Int) (r13 : ByteArray) (r14 : ByteArray) (r15 : Int) (r16 : List (S80)) (w : World) (h : samphirelaw20_control.f a0 a1 a2 = some (r1, r2, r3, r4, r5, r6, r7, r8, r9, r10, r11, r12, r13, r14, r15, r16)) :
  Calls Tryd.prog 31 #[.int .i64 a0, .int .i64 a1, .int .i64 a2] w fun e w' => ∃ v15_ : Value, e = .returned (.agg #[.int .i64 r1, .int .i64 r2, .int .i64 r3, .int .i64 r4, .string r5, .int .i64 r6, .int .i64 r7, .int .i64 r8, .int .i64 r9, .int .i64 r10, .int .i64 r11, .int .i64 r12, .string r13, .string r14, .int .i64 r15, v15_]) ∧ Kd.R k80 80 w' w.heap.size (fun _ => True) v15_ r16 ∧ Below w.heap.size w w' := by
 have hu31 := Tryd.underlying31; have HB := Aside0.mk (Below.refl w.heap.size w); have H : (if 32 ≤ 281474976710656 then (some (a0, 1, a1, 0, strOfNums (List.replicate 32 0), 0, 0, 0, 0, 0, 0, 0, (⟨#[]⟩ : ByteArray), (⟨#[]⟩ : ByteArray), a2, ([] : List (S80)))) else (none)) = some (r1, r2, r3, r4, r5, r6, r7, r8, r9, r10, r11, r12, r13, r14, r15, r16) := h; clear h; by_cases c4 : 32 ≤ 281474976710656
 ·rw [if_pos c4] at H; have c4b0 := eq_true c4; have c4b1 : decide (32 ≤ 281474976710656) = true := decide_eq_true c4; clear c4; obtain ⟨y196, hy196⟩ : ∃ y_ : List Int, y_ = (List.replicate 32 0) := ⟨_, rfl⟩; replace H : (some (a0, 1, a1, 0, strOfNums y196, 0, 0, 0, 0, 0, 0, 0, (⟨#[]⟩ : ByteArray), (⟨#[]⟩ : ByteArray), a2, ([] : List (S80)))) = some (r1, r2, r3, r4, r5, r6, r7, r8, r9, r10, r11, r12, r13, r14, r15, r16) := by first | (rw [hy196]; with_reducible exact H) | (have H2_ := (Option.bind_some _ _).symm.trans H; rw [hy196]; with_reducible exact H2_) | (have H2_ := (Option.bind_some _ _).symm.trans H; with_reducible exact H2_) | with_reducible exact H | (rw [hy196]; exact H) | exact H
  have Ny196 := Aside0.mk hy196; clear hy196; simp only [Option.some.injEq, Prod.mk.injEq] at H; obtain ⟨rfl, rfl, rfl, rfl, rfl, rfl, rfl, rfl, rfl, rfl, rfl, rfl, rfl, rfl, rfl, rfl⟩ := H; go_enter Tryd.func31, Tryd.ntmps31
  go_wp2_with (first | ((with_reducible refine gate_dst (N := 6) rfl ?_); refine box_event ?hg (N := 6) ?hd (cs := #[.int .i64 0, .int .i64 0, .int .i64 0, .int .i64 0, .string (⟨#[]⟩ : ByteArray), .int .i64 0, .int .i64 0, .int .i64 0, .int .i64 0, .int .i64 0, .int .i64 0, .int .i64 0, .string (⟨#[]⟩ : ByteArray), .string (⟨#[]⟩ : ByteArray), .int .i64 0, .slice none 0 0]) (t := 31) ?hr ?_; (case hd => rfl); (case hg => rfl); (case hr => first | (go_simp; done) | (go_simp; rfl)); intro gb195 hg w5 hbox hb; have n0_ := Aside0.mk (below_step hb_ hb); have n1_ := Aside0.mk (hbox); have n2_ := Aside0.mk ((by rw [hg]; exact (below_size hb_) : w.heap.size ≤ gb195)); have n3_ := Aside0.mk ((by rw [hg]; exact (below_size hb_) : w.heap.size ≤ gb195)); clear HB; have HB := n0_; have BK195 := n1_; have GW195 := n2_; have GE195 := n3_; clear n0_ n1_ n2_ n3_; clear hb hbox hg) | ((with_reducible refine gate_dst (N := 9) rfl ?_); refine Kd.R_make (Kd.int .u8) _ 5 rfl (N := 9) rfl 53 _ _ rfl 32 rfl rfl Tryd.underlying53 (.int .u8 0) 1 info5 rfl (by decide) (by omega) 0 (ok := fun _ => True) (okp := fun _ => True) rfl (fun _ hk => hk) trivial (by omega) (by omega) (Below.refl _ _) (Nat.le_refl _) ?_; intro v197 w6 ho7 hb hg_ hnew_; clear hg_ hnew_; (first | rw [← Ny196.out] at ho7 | (simp only [Int.reduceToNat] at ho7; rw [← Ny196.out] at ho7)); have n0_ := Aside0.mk (Kd.R_lower ho7 (below_size (by repeat (first | (with_reducible first | exact HB.out | apply below_alloc | apply pw_below_drewN | apply below_drew1 | refine below_set ?_ GE195.out) | exact HB.out)))); have n1_ := Aside0.mk (blk_below (g := gb195) (o := .cells #[.int .i64 0, .int .i64 0, .int .i64 0, .int .i64 0, .string (⟨#[]⟩ : ByteArray), .int .i64 0, .int .i64 0, .int .i64 0, .int .i64 0, .int .i64 0, .int .i64 0, .int .i64 0, .string (⟨#[]⟩ : ByteArray), .string (⟨#[]⟩ : ByteArray), .int .i64 0, .slice none 0 0] 31 (0, 0)) (by (with_reducible repeat (first | refine blk_drewN ?_ _ | refine blk_drew ?_ | refine blk_alloc ?_ _)); exact BK195.out) hb); have n2_ := Aside0.mk (below_step (by repeat (first | (with_reducible first | exact HB.out | apply below_alloc | apply pw_below_drewN | apply below_drew1 | refine below_set ?_ GE195.out) | exact HB.out)) hb); clear BK195; clear HB; have HO198 := n0_; have BK195 := n1_; have HB := n2_; clear n0_ n1_ n2_; clear hb ho7; have hcv8 := own_string (P := Tryd.prog) Tryd.underlying53 Tryd.underlying5 Tryd.underlying9 (Kd.own_of_R HO198.out); have hcz9_0 : w6.cell? ⟨gb195, 0, none⟩ = some (.int .i64 0) := (blk_cell BK195.out 0).trans rfl; have hcz9_1 : w6.cell? ⟨gb195, 1, none⟩ = some (.int .i64 0) := (blk_cell BK195.out 1).trans rfl; have hcz9_2 : w6.cell? ⟨gb195, 2, none⟩ = some (.int .i64 0) := (blk_cell BK195.out 2).trans rfl; have hcz9_3 : w6.cell? ⟨gb195, 3, none⟩ = some (.int .i64 0) := (blk_cell BK195.out 3).trans rfl; have hcz9_4 : w6.cell? ⟨gb195, 4, none⟩ = some (.string (⟨#[]⟩ : ByteArray)) := (blk_cell BK195.out 4).trans rfl; have hcz9_5 : w6.cell? ⟨gb195, 5, none⟩ = some (.int .i64 0) := (blk_cell BK195.out 5).trans rfl; have hcz9_6 : w6.cell? ⟨gb195, 6, none⟩ = some (.int .i64 0) := (blk_cell BK195.out 6).trans rfl; have hcz9_7 : w6.cell? ⟨gb195, 7, none⟩ = some (.int .i64 0) := (blk_cell BK195.out 7).trans rfl; have hcz9_8 : w6.cell? ⟨gb195, 8, none⟩ = some (.int .i64 0) := (blk_cell BK195.out 8).trans rfl; have hcz9_9 : w6.cell? ⟨gb195, 9, none⟩ = some (.int .i64 0) := (blk_cell BK195.out 9).trans rfl; have hcz9_10 : w6.cell? ⟨gb195, 10, none⟩ = some (.int .i64 0) := (blk_cell BK195.out 10).trans rfl; have hcz9_11 : w6.cell? ⟨gb195, 11, none⟩ = some (.int .i64 0) := (blk_cell BK195.out 11).trans rfl; have hcz9_12 : w6.cell? ⟨gb195, 12, none⟩ = some (.string (⟨#[]⟩ : ByteArray)) := (blk_cell BK195.out 12).trans rfl; have hcz9_13 : w6.cell? ⟨gb195, 13, none⟩ = some (.string (⟨#[]⟩ : ByteArray)) := (blk_cell BK195.out 13).trans rfl; have hcz9_14 : w6.cell? ⟨gb195, 14, none⟩ = some (.int .i64 0) := (blk_cell BK195.out 14).trans rfl; have hcz9_15 : w6.cell? ⟨gb195, 15, none⟩ = some (.slice none 0 0) := (blk_cell BK195.out 15).trans rfl; have hfz9_0 := blk_frozen BK195.out 0; have hfz9_1 := blk_frozen BK195.out 1; have hfz9_2 := blk_frozen BK195.out 2; have hfz9_3 := blk_frozen BK195.out 3; have hfz9_4 := blk_frozen BK195.out 4; have hfz9_5 := blk_frozen BK195.out 5; have hfz9_6 := blk_frozen BK195.out 6; have hfz9_7 := blk_frozen BK195.out 7; have hfz9_8 := blk_frozen BK195.out 8; have hfz9_9 := blk_frozen BK195.out 9; have hfz9_10 := blk_frozen BK195.out 10; have hfz9_11 := blk_frozen BK195.out 11; have hfz9_12 := blk_frozen BK195.out 12; have hfz9_13 := blk_frozen BK195.out 13; have hfz9_14 := blk_frozen BK195.out 14; have hfz9_15 := blk_frozen BK195.out 15))
  refine bodyPost_ret (results_cell_row rfl _ _ gb195 31 #[.int .i64 a0, .int .i64 1, .int .i64 a1, .int .i64 0, .string (strOfNums y196), .int .i64 0, .int .i64 0, .int .i64 0, .int .i64 0, .int .i64 0, .int .i64 0, .int .i64 0, .string (⟨#[]⟩ : ByteArray), .string (⟨#[]⟩ : ByteArray), .int .i64 a2, .slice none 0 0] (0, 0) _ rfl (by (with_reducible repeat (first | refine blk_drewN ?_ _ | refine blk_drew ?_ | refine blk_alloc ?_ _)); refine blk_put (cs := #[.int .i64 a0, .int .i64 1, .int .i64 a1, .int .i64 0, .string (strOfNums y196), .int .i64 0, .int .i64 0, .int .i64 0, .int .i64 0, .int .i64 0, .int .i64 0, .int .i64 0, .string (⟨#[]⟩ : ByteArray), .string (⟨#[]⟩ : ByteArray), .int .i64 a2, .slice none 0 0]) ?_ 15 _ rfl; (with_reducible repeat (first | refine blk_drewN ?_ _ | refine blk_drew ?_ | refine blk_alloc ?_ _)); refine blk_put (cs := #[.int .i64 a0, .int .i64 1, .int .i64 a1, .int .i64 0, .string (strOfNums y196), .int .i64 0, .int .i64 0, .int .i64 0, .int .i64 0, .int .i64 0, .int .i64 0, .int .i64 0, .string (⟨#[]⟩ : ByteArray), .string (⟨#[]⟩ : ByteArray), .int .i64 0, .slice none 0 0]) ?_ 14 _ rfl; (with_reducible repeat (first | refine blk_drewN ?_ _ | refine blk_drew ?_ | refine blk_alloc ?_ _)); refine blk_put (cs := #[.int .i64 a0, .int .i64 1, .int .i64 a1, .int .i64 0, .string (strOfNums y196), .int .i64 0, .int .i64 0, .int .i64 0, .int .i64 0, .int .i64 0, .int .i64 0, .int .i64 0, .string (⟨#[]⟩ : ByteArray), .string (⟨#[]⟩ : ByteArray), .int .i64 0, .slice none 0 0]) ?_ 13 _ rfl; (with_reducible repeat (first | refine blk_drewN ?_ _ | refine blk_drew ?_ | refine blk_alloc ?_ _)); refine blk_put (cs := #[.int .i64 a0, .int .i64 1, .int .i64 a1, .int .i64 0, .string (strOfNums y196), .int .i64 0, .int .i64 0, .int .i64 0, .int .i64 0, .int .i64 0, .int .i64 0, .int .i64 0, .string (⟨#[]⟩ : ByteArray), .string (⟨#[]⟩ : ByteArray), .int .i64 0, .slice none 0 0]) ?_ 12 _ rfl; (with_reducible repeat (first | refine blk_drewN ?_ _ | refine blk_drew ?_ | refine blk_alloc ?_ _)); refine blk_put (cs := #[.int .i64 a0, .int .i64 1, .int .i64 a1, .int .i64 0, .string (strOfNums y196), .int .i64 0, .int .i64 0, .int .i64 0, .int .i64 0, .int .i64 0, .int .i64 0, .int .i64 0, .string (⟨#[]⟩ : ByteArray), .string (⟨#[]⟩ : ByteArray), .int .i64 0, .slice none 0 0]) ?_ 11 _ rfl; (with_reducible repeat (first | refine blk_drewN ?_ _ | refine blk_drew ?_ | refine blk_alloc ?_ _)); refine blk_put (cs := #[.int .i64 a0, .int .i64 1, .int .i64 a1, .int .i64 0, .string (strOfNums y196), .int .i64 0, .int .i64 0, .int .i64 0, .int .i64 0, .int .i64 0, .int .i64 0, .int .i64 0, .string (⟨#[]⟩ : ByteArray), .string (⟨#[]⟩ : ByteArray), .int .i64 0, .slice none 0 0]) ?_ 10 _ rfl; (with_reducible repeat (first | refine blk_drewN ?_ _ | refine blk_drew ?_ | refine blk_alloc ?_ _)); refine blk_put (cs := #[.int .i64 a0, .int .i64 1, .int .i64 a1, .int .i64 0, .string (strOfNums y196), .int .i64 0, .int .i64 0, .int .i64 0, .int .i64 0, .int .i64 0, .int .i64 0, .int .i64 0, .string (⟨#[]⟩ : ByteArray), .string (⟨#[]⟩ : ByteArray), .int .i64 0, .slice none 0 0]) ?_ 9 _ rfl; (with_reducible repeat (first | refine blk_drewN ?_ _ | refine blk_drew ?_ | refine blk_alloc ?_ _)); refine blk_put (cs := #[.int .i64 a0, .int .i64 1, .int .i64 a1, .int .i64 0, .string (strOfNums y196), .int .i64 0, .int .i64 0, .int .i64 0, .int .i64 0, .int .i64 0, .int .i64 0, .int .i64 0, .string (⟨#[]⟩ : ByteArray), .string (⟨#[]⟩ : ByteArray), .int .i64 0, .slice none 0 0]) ?_ 8 _ rfl; (with_reducible repeat (first | refine blk_drewN ?_ _ | refine blk_drew ?_ | refine blk_alloc ?_ _)); refine blk_put (cs := #[.int .i64 a0, .int .i64 1, .int .i64 a1, .int .i64 0, .string (strOfNums y196), .int .i64 0, .int .i64 0, .int .i64 0, .int .i64 0, .int .i64 0, .int .i64 0, .int .i64 0, .string (⟨#[]⟩ : ByteArray), .string (⟨#[]⟩ : ByteArray), .int .i64 0, .slice none 0 0]) ?_ 7 _ rfl; (with_reducible repeat (first | refine blk_drewN ?_ _ | refine blk_drew ?_ | refine blk_alloc ?_ _)); refine blk_put (cs := #[.int .i64 a0, .int .i64 1, .int .i64 a1, .int .i64 0, .string (strOfNums y196), .int .i64 0, .int .i64 0, .int .i64 0, .int .i64 0, .int .i64 0, .int .i64 0, .int .i64 0, .string (⟨#[]⟩ : ByteArray), .string (⟨#[]⟩ : ByteArray), .int .i64 0, .slice none 0 0]) ?_ 6 _ rfl; (with_reducible repeat (first | refine blk_drewN ?_ _ | refine blk_drew ?_ | refine blk_alloc ?_ _)); refine blk_put (cs := #[.int .i64 a0, .int .i64 1, .int .i64 a1, .int .i64 0, .string (strOfNums y196), .int .i64 0, .int .i64 0, .int .i64 0, .int .i64 0, .int .i64 0, .int .i64 0, .int .i64 0, .string (⟨#[]⟩ : ByteArray), .string (⟨#[]⟩ : ByteArray), .int .i64 0, .slice none 0 0]) ?_ 5 _ rfl; (with_reducible repeat (first | refine blk_drewN ?_ _ | refine blk_drew ?_ | refine blk_alloc ?_ _)); refine blk_put (cs := #[.int .i64 a0, .int .i64 1, .int .i64 a1, .int .i64 0, .string (⟨#[]⟩ : ByteArray), .int .i64 0, .int .i64 0, .int .i64 0, .int .i64 0, .int .i64 0, .int .i64 0, .int .i64 0, .string (⟨#[]⟩ : ByteArray), .string (⟨#[]⟩ : ByteArray), .int .i64 0, .slice none 0 0]) ?_ 4 _ rfl; (with_reducible repeat (first | refine blk_drewN ?_ _ | refine blk_drew ?_ | refine blk_alloc ?_ _)); refine blk_put (cs := #[.int .i64 a0, .int .i64 1, .int .i64 a1, .int .i64 0, .string (⟨#[]⟩ : ByteArray), .int .i64 0, .int .i64 0, .int .i64 0, .int .i64 0, .int .i64 0, .int .i64 0, .int .i64 0, .string (⟨#[]⟩ : ByteArray), .string (⟨#[]⟩ : ByteArray), .int .i64 0, .slice none 0 0]) ?_ 3 _ rfl; (with_reducible repeat (first | refine blk_drewN ?_ _ | refine blk_drew ?_ | refine blk_alloc ?_ _)); refine blk_put (cs := #[.int .i64 a0, .int .i64 1, .int .i64 0, .int .i64 0, .string (⟨#[]⟩ : ByteArray), .int .i64 0, .int .i64 0, .int .i64 0, .int .i64 0, .int .i64 0, .int .i64 0, .int .i64 0, .string (⟨#[]⟩ : ByteArray), .string (⟨#[]⟩ : ByteArray), .int .i64 0, .slice none 0 0]) ?_ 2 _ rfl; (with_reducible repeat (first | refine blk_drewN ?_ _ | refine blk_drew ?_ | refine blk_alloc ?_ _)); refine blk_put (cs := #[.int .i64 a0, .int .i64 0, .int .i64 0, .int .i64 0, .string (⟨#[]⟩ : ByteArray), .int .i64 0, .int .i64 0, .int .i64 0, .int .i64 0, .int .i64 0, .int .i64 0, .int .i64 0, .string (⟨#[]⟩ : ByteArray), .string (⟨#[]⟩ : ByteArray), .int .i64 0, .slice none 0 0]) ?_ 1 _ rfl; (with_reducible repeat (first | refine blk_drewN ?_ _ | refine blk_drew ?_ | refine blk_alloc ?_ _)); refine blk_put (cs := #[.int .i64 0, .int .i64 0, .int .i64 0, .int .i64 0, .string (⟨#[]⟩ : ByteArray), .int .i64 0, .int .i64 0, .int .i64 0, .int .i64 0, .int .i64 0, .int .i64 0, .int .i64 0, .string (⟨#[]⟩ : ByteArray), .string (⟨#[]⟩ : ByteArray), .int .i64 0, .slice none 0 0]) ?_ 0 _ rfl; (with_reducible repeat (first | refine blk_drewN ?_ _ | refine blk_drew ?_ | refine blk_alloc ?_ _)); exact BK195.out) Tryd.underlying31 rfl (by kernel_rfl)) rfl ?_
  exact ⟨_, ew_, by first | exact Kd.R_nil _ _ _ _ _ | exact Kd.N_nil _ _ _ _ _ | exact Kd.V_nil _ _ _ _ _ | exact Kd.Q_nil _ _ _ _ _ | exact Kd.S_nil _ _ _ _ _, by repeat (first | (with_reducible first | exact HB.out | apply below_alloc | apply pw_below_drewN | apply below_drew1 | refine below_set ?_ GE195.out) | exact HB.out)⟩
 ·rw [if_neg c4] at H; exact absurd H (by simp)
def IsS128 (w0 W : World) (g : Nat) (f0 : Bool) (f1 : ByteArray) (f2 : Int) : Prop := W.heap[g]? = some (.cells #[.bool f0, .string f1, .int .i64 f2] 128 (0, 0)) ∧ w0.heap.size ≤ g
theorem IsS128.grown {w0 W : World} {g : Nat} {f0 : Bool} {f1 : ByteArray} {f2 : Int} {W1 : World} {row : Option Nat} (h : IsS128 w0 W g f0 f1 f2) (hw : W.grownBy W1 row) (hne : some g ≠ row) : IsS128 w0 W1 g f0 f1 f2 := by
 obtain ⟨hb, hg⟩ := h; exact ⟨blk_grown hb hw hne, hg⟩
theorem IsS128.below {w0 W : World} {g : Nat} {f0 : Bool} {f1 : ByteArray} {f2 : Int} {W1 : World} (h : IsS128 w0 W g f0 f1 f2) (hw : Below W.heap.size W W1) : IsS128 w0 W1 g f0 f1 f2 := h.grown (grown_of_below hw none) (by simp)
theorem IsS128.alloc {w0 W : World} {g : Nat} {f0 : Bool} {f1 : ByteArray} {f2 : Int} (h : IsS128 w0 W g f0 f1 f2) (o : Obj) : IsS128 w0 (W.alloc o) g f0 f1 f2 := h.below (below_alloc (Below.refl _ _) o)
theorem IsS128.drewN {w0 W : World} {g : Nat} {f0 : Bool} {f1 : ByteArray} {f2 : Int} (h : IsS128 w0 W g f0 f1 f2) (m : Nat) : IsS128 w0 (W.drewN m) g f0 f1 f2 := h
theorem IsS128.drew {w0 W : World} {g : Nat} {f0 : Bool} {f1 : ByteArray} {f2 : Int} (h : IsS128 w0 W g f0 f1 f2) : IsS128 w0 W.drew g f0 f1 f2 := h
theorem IsS128.apart {w0 W : World} {g : Nat} {f0 : Bool} {f1 : ByteArray} {f2 : Int} {α : Type} {d : Kd α} {e : Nat} {base : Nat} {ok : Nat → Prop} {v : Value} {xs : List α} (h : IsS128 w0 W g f0 f1 f2) (ho : d.R e W base ok v xs) (ht : ∀ q, q ∈ e :: d.E → q ≠ 128) : d.R e W base (fun k => ok k ∧ k ≠ g) v xs := by
 obtain ⟨hb, hg⟩ := h; exact Kd.R_types ho hb ht
theorem IsS128.own_ne {w0 W : World} {g : Nat} {f0 : Bool} {f1 : ByteArray} {f2 : Int} {α : Type} {d : Kd α} {e : Nat} {base : Nat} {ok : Nat → Prop} {v : Value} {xs : List α} (h : IsS128 w0 W g f0 f1 f2) (ho : d.R e W base ok v xs) (ht : e ≠ 128) : some g ≠ v.ownBlock := by
 obtain ⟨hb, hg⟩ := h; exact Kd.R_ne ho hb ht
theorem IsS128.lt {w0 W : World} {g : Nat} {f0 : Bool} {f1 : ByteArray} {f2 : Int} (h : IsS128 w0 W g f0 f1 f2) : g < W.heap.size := by
 obtain ⟨hb, hg⟩ := h; exact blk_lt hb
theorem IsS128.ge {w0 W : World} {g : Nat} {f0 : Bool} {f1 : ByteArray} {f2 : Int} (h : IsS128 w0 W g f0 f1 f2) : w0.heap.size ≤ g := by
 obtain ⟨hb, hg⟩ := h; exact hg
theorem IsS128.ne_blk {w0 W : World} {g : Nat} {f0 : Bool} {f1 : ByteArray} {f2 : Int} {a : Nat} {cs : Array Value} {t : TypeId} {fr : Nat × Nat} (h : IsS128 w0 W g f0 f1 f2) (hb2 : W.heap[a]? = some (.cells cs t fr)) (ht : t ≠ 128) : g ≠ a := by
 obtain ⟨hb, hg⟩ := h; rintro rfl; rw [hb] at hb2; injection hb2 with hb2
 injection hb2 with _ ht2
 exact ht ht2.symm
theorem IsS128.far {w0 W : World} {g : Nat} {f0 : Bool} {f1 : ByteArray} {f2 : Int} {p : Addr} (h : IsS128 w0 W g f0 f1 f2) (hne : g ≠ p.block) (u : Value) : IsS128 w0 (W.setCell p u) g f0 f1 f2 := by
 obtain ⟨hb, hg⟩ := h; exact ⟨blk_far hb hne u, hg⟩
theorem cellS128_0 {W : World} {g : Nat} {f0 : Bool} {f1 : ByteArray} {f2 : Int} (h : W.heap[g]? = some (.cells #[.bool f0, .string f1, .int .i64 f2] 128 (0, 0))) : W.cell? ⟨g, 0, none⟩ = some (.bool f0) := (blk_cell h 0).trans rfl
theorem IsS128.set_0 {w0 W : World} {g : Nat} {f0 : Bool} {f1 : ByteArray} {f2 : Int} (h : IsS128 w0 W g f0 f1 f2) (x : Bool) : IsS128 w0 (W.setCell ⟨g, 0, none⟩ (.bool x)) g x f1 f2 := by
 obtain ⟨hb, hg⟩ := h; exact ⟨by simpa using blk_set hb 0 (.bool x), hg⟩
theorem cellS128_1 {W : World} {g : Nat} {f0 : Bool} {f1 : ByteArray} {f2 : Int} (h : W.heap[g]? = some (.cells #[.bool f0, .string f1, .int .i64 f2] 128 (0, 0))) : W.cell? ⟨g, 1, none⟩ = some (.string f1) := (blk_cell h 1).trans rfl
theorem IsS128.set_1 {w0 W : World} {g : Nat} {f0 : Bool} {f1 : ByteArray} {f2 : Int} (h : IsS128 w0 W g f0 f1 f2) (x : ByteArray) : IsS128 w0 (W.setCell ⟨g, 1, none⟩ (.string x)) g f0 x f2 := by
 obtain ⟨hb, hg⟩ := h; exact ⟨by simpa using blk_set hb 1 (.string x), hg⟩
theorem cellS128_2 {W : World} {g : Nat} {f0 : Bool} {f1 : ByteArray} {f2 : Int} (h : W.heap[g]? = some (.cells #[.bool f0, .string f1, .int .i64 f2] 128 (0, 0))) : W.cell? ⟨g, 2, none⟩ = some (.int .i64 f2) := (blk_cell h 2).trans rfl
theorem IsS128.set_2 {w0 W : World} {g : Nat} {f0 : Bool} {f1 : ByteArray} {f2 : Int} (h : IsS128 w0 W g f0 f1 f2) (x : Int) : IsS128 w0 (W.setCell ⟨g, 2, none⟩ (.int .i64 x)) g f0 f1 x := by
 obtain ⟨hb, hg⟩ := h; exact ⟨by simpa using blk_set hb 2 (.int .i64 x), hg⟩
def code_NewIn.f (a0 : ByteArray) : Option (Bool × ByteArray × Int) := some (true, a0, 0)
set_option maxHeartbeats 8000000 in
set_option maxRecDepth 100000 in
theorem code_NewIn.calls (a0 : ByteArray) (r1 : Bool) (r2 : ByteArray) (r3 : Int) (w0 w : World) (hB : Below w0.heap.size w0 w) (h : code_NewIn.f a0 = some (r1, r2, r3)) :
  Calls Tryd.prog 63 #[.string a0] w fun e w' => ∃ g_ : Nat, e = .returned (.pointer (some ⟨g_, 0, none⟩)) ∧ IsS128 w0 w' g_ r1 r2 r3 ∧ Below w0.heap.size w0 w' ∧ Below w.heap.size w w' := by
 have hu128 := Tryd.underlying128; have HBW := Aside0.mk (Below.refl w.heap.size w); have HW0 := Aside0.mk hB.size; have HB := Aside0.mk hB; clear hB; have H : (some (true, a0, 0)) = some (r1, r2, r3) := h; clear h; simp only [Option.some.injEq, Prod.mk.injEq] at H; obtain ⟨rfl, rfl, rfl⟩ := H; go_enter Tryd.func63, Tryd.ntmps63
 go_wp2_with (first | ((with_reducible refine gate_dst (N := 5) rfl ?_); refine box_event ?hg (N := 5) ?hd (cs := #[.bool true, .string a0, .int .i64 0]) (t := 128) ?hr ?_; (case hd => rfl); (case hg => rfl); (case hr => first | (go_simp; done) | (go_simp; rfl)); intro gb138 hg w2 hbox hb; have n0_ := Aside0.mk (below_step HBW.out hb); have n1_ := Aside0.mk (below_step hb_ hb); have n2_ := Aside0.mk (hbox); have n3_ := Aside0.mk ((by rw [hg]; exact (below_size (by repeat (first | (with_reducible first | exact HBW.out | apply below_alloc | apply pw_below_drewN | apply below_drew1) | exact HBW.out))) : w.heap.size ≤ gb138)); have n4_ := Aside0.mk ((Nat.le_trans HW0.out (by rw [hg]; exact (below_size (by repeat (first | (with_reducible first | exact HBW.out | apply below_alloc | apply pw_below_drewN | apply below_drew1) | exact HBW.out))) : w.heap.size ≤ gb138) : w0.heap.size ≤ gb138)); clear HBW; clear HB; have HBW := n0_; have HB := n1_; have BK138 := n2_; have GW138 := n3_; have GE138 := n4_; clear n0_ n1_ n2_ n3_ n4_; clear hb hbox hg))
 go_ret
 exact ⟨_, rfl, (show IsS128 w0 _ gb138 true a0 0 from ⟨by (with_reducible repeat (first | refine blk_drewN ?_ _ | refine blk_drew ?_ | refine blk_alloc ?_ _)); exact BK138.out, GE138.out⟩), by repeat (first | (with_reducible first | exact HB.out | apply below_alloc | apply pw_below_drewN | apply below_drew1 | refine below_set ?_ GE138.out) | exact HB.out), by repeat (first | (with_reducible first | exact HBW.out | apply below_alloc | apply pw_below_drewN | apply below_drew1 | refine below_set ?_ GW138.out) | exact HBW.out)⟩
def code_In_wrong.f (s0_0 : Bool) (s0_1 : ByteArray) (s0_2 : Int) (a1 : Int) : Option (Bool × ByteArray × Int) := if s0_2 = 0 then (some (s0_0, (⟨#[]⟩ : ByteArray), a1)) else (some (s0_0, (⟨#[]⟩ : ByteArray), s0_2))
set_option maxHeartbeats 8000000 in
set_option maxRecDepth 100000 in
theorem code_In_wrong.calls (g : Nat) (s0_0 : Bool) (s0_1 : ByteArray) (s0_2 : Int) (a1 : Int) (r1 : Bool) (r2 : ByteArray) (r3 : Int) (w0 w : World) (hI : IsS128 w0 w g s0_0 s0_1 s0_2) (hB : Below w0.heap.size w0 w) (h : code_In_wrong.f s0_0 s0_1 s0_2 a1 = some (r1, r2, r3)) :
  Calls Tryd.prog 94 #[.pointer (some ⟨g, 0, none⟩), .int .i64 a1] w fun e w' => e = .returned (.tuple #[]) ∧ IsS128 w0 w' g r1 r2 r3 ∧ Below w0.heap.size w0 w' ∧ KeepBut w w' g none := by
 have HI0 := Aside0.mk hI; have HK := Aside0.mk (KeepBut.refl w g none); have HL := Aside0.mk hB.size; clear hI; have HW0 := Aside0.mk hB.size; have HB := Aside0.mk hB; clear hB; have H : (if s0_2 = 0 then (some (s0_0, (⟨#[]⟩ : ByteArray), a1)) else (some (s0_0, (⟨#[]⟩ : ByteArray), s0_2))) = some (r1, r2, r3) := h; clear h; by_cases c3 : s0_2 = 0
 ·rw [if_pos c3] at H; have c3b0 : (s0_2 == 0) = true := beq_iff_eq.mpr c3; have c3b1 : (s0_2 != 0) = false := bne_eq_false_iff_eq.mpr c3; clear c3; simp only [Option.some.injEq, Prod.mk.injEq] at H; obtain ⟨rfl, rfl, rfl⟩ := H; obtain ⟨HGz4, hgz4⟩ := HI0.out; have hcz4_0 := cellS128_0 HGz4; have hcz4_1 := cellS128_1 HGz4; have hcz4_2 := cellS128_2 HGz4; have hfz4_0 := blk_frozen HGz4 0; have hfz4_1 := blk_frozen HGz4 1; have hfz4_2 := blk_frozen HGz4 2; clear HGz4 hgz4; go_enter Tryd.func94, Tryd.ntmps94
  go_wp2; first | go_end0 | ((try simp only [Exit.inBlock, Exit.then]); refine bodyPost_ret (results_none rfl _ _ _) rfl ?_)
  exact ⟨ew_, by repeat (first | (with_reducible first | exact HI0.out | apply IsS128.alloc | apply IsS128.drewN | apply IsS128.drew | apply IsS128.set_0 | apply IsS128.set_1 | apply IsS128.set_2) | exact HI0.out), by repeat (first | (with_reducible first | exact HB.out | apply below_alloc | apply pw_below_drewN | apply below_drew1 | refine below_set ?_ (IsS128.ge HI0.out)) | exact HB.out), by repeat (first | (with_reducible first | exact HK.out | apply KeepBut.set_ | apply keep_drewN | apply keep_drew | apply keep_alloc) | exact HK.out)⟩
 ·rw [if_neg c3] at H; have c3b0 : (s0_2 == 0) = false := beq_eq_false_iff_ne.mpr c3; have c3b1 : (s0_2 != 0) = true := bne_iff_ne.mpr c3; simp only [Option.some.injEq, Prod.mk.injEq] at H; obtain ⟨rfl, rfl, rfl⟩ := H; obtain ⟨HGz5, hgz5⟩ := HI0.out; have hcz5_0 := cellS128_0 HGz5; have hcz5_1 := cellS128_1 HGz5; have hcz5_2 := cellS128_2 HGz5; have hfz5_0 := blk_frozen HGz5 0; have hfz5_1 := blk_frozen HGz5 1; have hfz5_2 := blk_frozen HGz5 2; clear HGz5 hgz5; go_enter Tryd.func94, Tryd.ntmps94
  go_wp2; first | go_end0 | ((try simp only [Exit.inBlock, Exit.then]); refine bodyPost_ret (results_none rfl _ _ _) rfl ?_)
  exact ⟨ew_, by repeat (first | (with_reducible first | exact HI0.out | apply IsS128.alloc | apply IsS128.drewN | apply IsS128.drew | apply IsS128.set_0 | apply IsS128.set_1 | apply IsS128.set_2) | exact HI0.out), by repeat (first | (with_reducible first | exact HB.out | apply below_alloc | apply pw_below_drewN | apply below_drew1 | refine below_set ?_ (IsS128.ge HI0.out)) | exact HB.out), by repeat (first | (with_reducible first | exact HK.out | apply KeepBut.set_ | apply keep_drewN | apply keep_drew | apply keep_alloc) | exact HK.out)⟩
def code_In_take.j0 : Nat → Int → Bool → Bool → ByteArray → Int → Option (ByteArray × Bool × Bool × ByteArray × Int)
 | 0, _, _, _, _, _ => none
 | k + 1, x1, x7, x1000, x1001, x1002 => if x7 = true then (some ((⟨#[]⟩ : ByteArray), false, x1000, x1001, x1002)) else (if x1 > (x1001.size : Int) then ((code_In_wrong.f x1000 x1001 x1002 90).bind fun bt139 => (some ((⟨#[]⟩ : ByteArray), false, bt139.1, bt139.2.1, bt139.2.2))) else (if 0 ≤ x1 then (if x1 ≤ (x1001.size : Int) then (some (x1001.extract 0 (x1 : Int).toNat, true, x1000, x1001.extract (x1 : Int).toNat x1001.size, x1002)) else (none)) else (none)))
def code_In_take.f (k : Nat) (s0_0 : Bool) (s0_1 : ByteArray) (s0_2 : Int) (a1 : Int) : Option (ByteArray × Bool × Bool × ByteArray × Int) := if s0_0 = true then (code_In_take.j0 k a1 (s0_2 != 0) s0_0 s0_1 s0_2) else (code_In_take.j0 k a1 true s0_0 s0_1 s0_2)
set_option maxHeartbeats 8000000 in
set_option maxRecDepth 100000 in
theorem code_In_take.calls (k : Nat) (g : Nat) (s0_0 : Bool) (s0_1 : ByteArray) (s0_2 : Int) (a1 : Int) (r1 : ByteArray) (r2 : Bool) (r3 : Bool) (r4 : ByteArray) (r5 : Int) (w0 w : World) (hI : IsS128 w0 w g s0_0 s0_1 s0_2) (hB : Below w0.heap.size w0 w) (h : code_In_take.f k s0_0 s0_1 s0_2 a1 = some (r1, r2, r3, r4, r5)) :
    Calls Tryd.prog 104 #[.pointer (some ⟨g, 0, none⟩), .int .i64 a1] w fun e w' => e = .returned (.tuple #[.string r1, .bool r2]) ∧ IsS128 w0 w' g r3 r4 r5 ∧ Below w0.heap.size w0 w' ∧ KeepBut w w' g none := by
  have HI0 := Aside0.mk hI; have HK := Aside0.mk (KeepBut.refl w g none); have HL := Aside0.mk hB.size; clear hI; have HW0 := Aside0.mk hB.size; have HB := Aside0.mk hB; clear hB; have H : (if s0_0 = true then (code_In_take.j0 k a1 (s0_2 != 0) s0_0 s0_1 s0_2) else (code_In_take.j0 k a1 true s0_0 s0_1 s0_2)) = some (r1, r2, r3, r4, r5) := h; clear h; have HC3 := Aside0.mk H; clear H; go_enter Tryd.func104, Tryd.ntmps104
  go_upto_region 1 with (fail)
  go_cut [7] (fun v7 wc => ∃ (kq : Nat) (x7_2 : Bool), v7 = .bool x7_2 ∧ Aside0 (code_In_take.j0 kq a1 x7_2 s0_0 s0_1 s0_2 = some (r1, r2, r3, r4, r5)) ∧ Aside0 (kq ≤ k) ∧ Aside0 (IsS128 w0 wc g s0_0 s0_1 s0_2) ∧ Aside0 (KeepBut w wc g none) ∧ Aside0 (Below w0.heap.size w0 wc))
  case first =>
    have H := HC3.out; clear HC3; by_cases c4 : s0_0 = true
    · subst c4; have H1 : (code_In_take.j0 k a1 (s0_2 != 0) true s0_1 s0_2) = some (r1, r2, r3, r4, r5) := by rw [if_pos rfl] at H; exact H
      clear H; have H := H1; clear H1; have H' := Aside0.mk H; clear H; obtain ⟨HGz5, hgz5⟩ := HI0.out; have hcz5_0 := cellS128_0 HGz5; have hcz5_1 := cellS128_1 HGz5; have hcz5_2 := cellS128_2 HGz5; have hfz5_0 := blk_frozen HGz5 0; have hfz5_1 := blk_frozen HGz5 1; have hfz5_2 := blk_frozen HGz5 2; clear HGz5 hgz5; go_wp2; go_meet
      case rel => exact ⟨_, ((s0_2 != 0)), rz_, H', ⟨by first | omega | exact Nat.le_refl _⟩, ⟨by repeat (first | (with_reducible first | exact HI0.out | apply IsS128.alloc | apply IsS128.drewN | apply IsS128.drew | apply IsS128.set_0 | apply IsS128.set_1 | apply IsS128.set_2) | exact HI0.out)⟩, ⟨by repeat (first | (with_reducible first | exact HK.out | apply KeepBut.set_ | apply keep_drewN | apply keep_drew | apply keep_alloc) | exact HK.out)⟩, ⟨by repeat (first | (with_reducible first | exact HB.out | apply below_alloc | apply pw_below_drewN | apply below_drew1 | refine below_set ?_ (IsS128.ge HI0.out)) | exact HB.out)⟩⟩
    · replace c4 := Bool.eq_false_iff.mpr c4; subst c4; have H1 : (code_In_take.j0 k a1 true false s0_1 s0_2) = some (r1, r2, r3, r4, r5) := by rw [if_neg (show ¬ (false = true) by decide)] at H; exact H
      clear H; have H := H1; clear H1; have H' := Aside0.mk H; clear H; obtain ⟨HGz6, hgz6⟩ := HI0.out; have hcz6_0 := cellS128_0 HGz6; have hcz6_1 := cellS128_1 HGz6; have hcz6_2 := cellS128_2 HGz6; have hfz6_0 := blk_frozen HGz6 0; have hfz6_1 := blk_frozen HGz6 1; have hfz6_2 := blk_frozen HGz6 2; clear HGz6 hgz6; go_wp2; go_meet
      case rel => exact ⟨_, (true), rz_, H', ⟨by first | omega | exact Nat.le_refl _⟩, ⟨by repeat (first | (with_reducible first | exact HI0.out | apply IsS128.alloc | apply IsS128.drewN | apply IsS128.drew | apply IsS128.set_0 | apply IsS128.set_1 | apply IsS128.set_2) | exact HI0.out)⟩, ⟨by repeat (first | (with_reducible first | exact HK.out | apply KeepBut.set_ | apply keep_drewN | apply keep_drew | apply keep_alloc) | exact HK.out)⟩, ⟨by repeat (first | (with_reducible first | exact HB.out | apply below_alloc | apply pw_below_drewN | apply below_drew1 | refine below_set ?_ (IsS128.ge HI0.out)) | exact HB.out)⟩⟩
  case rest =>
    clear HC3; obtain ⟨kq, x7_2, rfl, HA, HJ2, HI0, HK, HB⟩ := hcut; cases kq with
    | zero => exact absurd HA.out (by simp [code_In_take.j0])
    | succ kj2 =>
      have H := HA.out; clear HA; simp only [code_In_take.j0] at H; by_cases c7 : x7_2 = true
      · subst c7; have H1 : (some ((⟨#[]⟩ : ByteArray), false, s0_0, s0_1, s0_2)) = some (r1, r2, r3, r4, r5) := by rw [if_pos rfl] at H; exact H
        clear H; have H := H1; clear H1; simp only [Option.some.injEq, Prod.mk.injEq] at H; obtain ⟨rfl, rfl, rfl, rfl, rfl⟩ := H; go_wp2; go_ret2
        exact ⟨ew_, by repeat (first | (with_reducible first | exact HI0.out | apply IsS128.alloc | apply IsS128.drewN | apply IsS128.drew | apply IsS128.set_0 | apply IsS128.set_1 | apply IsS128.set_2) | exact HI0.out), by repeat (first | (with_reducible first | exact HB.out | apply below_alloc | apply pw_below_drewN | apply below_drew1 | refine below_set ?_ (IsS128.ge HI0.out)) | exact HB.out), by repeat (first | (with_reducible first | exact HK.out | apply KeepBut.set_ | apply keep_drewN | apply keep_drew | apply keep_alloc) | exact HK.out)⟩
      · replace c7 := Bool.eq_false_iff.mpr c7; subst c7; have H1 : (if a1 > (s0_1.size : Int) then ((code_In_wrong.f s0_0 s0_1 s0_2 90).bind fun bt139 => (some ((⟨#[]⟩ : ByteArray), false, bt139.1, bt139.2.1, bt139.2.2))) else (if 0 ≤ a1 then (if a1 ≤ (s0_1.size : Int) then (some (s0_1.extract 0 (a1 : Int).toNat, true, s0_0, s0_1.extract (a1 : Int).toNat s0_1.size, s0_2)) else (none)) else (none))) = some (r1, r2, r3, r4, r5) := by rw [if_neg (show ¬ (false = true) by decide)] at H; exact H
        clear H; have H := H1; clear H1; by_cases c8 : a1 > (s0_1.size : Int)
        · rw [if_pos c8] at H; have c8b0 : decide ((s0_1.size : Int) < a1) = true := decide_eq_true c8; clear c8; replace H := Option.bind_eq_some_iff.mp H; obtain ⟨⟨t139, t140, t141⟩, A90, H⟩ := H; try dsimp only at H
          have A9 := Aside0.mk A90; clear A90; simp only [Option.some.injEq, Prod.mk.injEq] at H; obtain ⟨rfl, rfl, rfl, rfl, rfl⟩ := H; obtain ⟨HGz10, hgz10⟩ := HI0.out; have hcz10_0 := cellS128_0 HGz10; have hcz10_1 := cellS128_1 HGz10; have hcz10_2 := cellS128_2 HGz10; have hfz10_0 := blk_frozen HGz10 0; have hfz10_1 := blk_frozen HGz10 1; have hfz10_2 := blk_frozen HGz10 2; clear HGz10 hgz10; go_wp2_with (first | ((with_reducible refine gate_callee (f := 94) rfl ?_); refine gl_ 33 Tryd.func94 #[.pointer (some ⟨g, 0, none⟩), .int .i64 90] ?_; (with_reducible refine (code_In_wrong.calls g s0_0 s0_1 s0_2 90 t139 t140 t141 w0 _ ?side1 ?side2 A9.out).mono ?_); (case side1 => repeat (first | (with_reducible first | exact HI0.out | apply IsS128.alloc | apply IsS128.drewN | apply IsS128.drew | apply IsS128.set_0 | apply IsS128.set_1 | apply IsS128.set_2) | exact HI0.out)); (case side2 => repeat (first | (with_reducible first | exact HB.out | apply below_alloc | apply pw_below_drewN | apply below_drew1 | refine below_set ?_ (IsS128.ge HI0.out)) | exact HB.out)); rintro e w11 ⟨rfl, hi, hb, hk⟩; refine ⟨_, rfl, ?_⟩; replace HK := Aside0.mk (KeepBut.trans (by repeat (first | (with_reducible first | exact HK.out | apply KeepBut.set_ | apply keep_drewN | apply keep_drew | apply keep_alloc) | exact HK.out)) hk (.inl rfl)); replace HB := Aside0.mk (hb); replace HI0 := Aside0.mk (hi)))
          go_ret2
          exact ⟨ew_, by repeat (first | (with_reducible first | exact HI0.out | apply IsS128.alloc | apply IsS128.drewN | apply IsS128.drew | apply IsS128.set_0 | apply IsS128.set_1 | apply IsS128.set_2) | exact HI0.out), by repeat (first | (with_reducible first | exact HB.out | apply below_alloc | apply pw_below_drewN | apply below_drew1 | refine below_set ?_ (IsS128.ge HI0.out)) | exact HB.out), by repeat (first | (with_reducible first | exact HK.out | apply KeepBut.set_ | apply keep_drewN | apply keep_drew | apply keep_alloc) | exact HK.out)⟩
        · rw [if_neg c8] at H; have c8b0 : decide ((s0_1.size : Int) < a1) = false := decide_eq_false c8; clear c8; by_cases c12 : 0 ≤ a1
          · rw [if_pos c12] at H; have c12b0 := eq_true c12; have c12b1 : decide (0 ≤ a1) = true := decide_eq_true c12; clear c12; by_cases c13 : a1 ≤ (s0_1.size : Int)
            · rw [if_pos c13] at H; have c13b0 := eq_true c13; have c13b1 : decide (a1 ≤ (s0_1.size : Int)) = true := decide_eq_true c13; clear c13; have c14b0 := eq_true (of_decide_eq_true as_' : 0 ≤ a1); have c15b0 := eq_true (of_decide_eq_true as_' : a1 ≤ (s0_1.size : Int)); simp only [Option.some.injEq, Prod.mk.injEq] at H; obtain ⟨rfl, rfl, rfl, rfl, rfl⟩ := H; obtain ⟨HGz16, hgz16⟩ := HI0.out; have hcz16_0 := cellS128_0 HGz16; have hcz16_1 := cellS128_1 HGz16; have hcz16_2 := cellS128_2 HGz16; have hfz16_0 := blk_frozen HGz16 0; have hfz16_1 := blk_frozen HGz16 1; have hfz16_2 := blk_frozen HGz16 2; clear HGz16 hgz16; go_wp2; go_ret2
              exact ⟨ew_, by repeat (first | (with_reducible first | exact HI0.out | apply IsS128.alloc | apply IsS128.drewN | apply IsS128.drew | apply IsS128.set_0 | apply IsS128.set_1 | apply IsS128.set_2) | exact HI0.out), by repeat (first | (with_reducible first | exact HB.out | apply below_alloc | apply pw_below_drewN | apply below_drew1 | refine below_set ?_ (IsS128.ge HI0.out)) | exact HB.out), by repeat (first | (with_reducible first | exact HK.out | apply KeepBut.set_ | apply keep_drewN | apply keep_drew | apply keep_alloc) | exact HK.out)⟩
            · rw [if_neg c13] at H; exact absurd H (by simp)
          · rw [if_neg c12] at H; exact absurd H (by simp)
end Go.Proofs.YthemhfloablccaaDoor.Pr
end

/- Joined texts (pack.py): what the statement's proof needs, part 3. No condition. -/
import Derived.Below
import Derived.Deep.Draws
import Derived.Deep.AppendLies
import Derived.Maps.AppendAt
import Derived.OwnWalk
import Derived.Laws.BytesArg
import Derived.Laws.MakeOwn
import Derived.Laws.OwnMore
import Derived.Deep.OwnRows
import Derived.Tactics
import Derived.Lib.ConvBytes
import Derived.Laws.Slices
import Derived.WalkKit
import Derived.KernelRfl
import Derived.RowKit3
import Derived.Deep.LoopGhost
import Derived.Deep.QuietTactic
import Derived.BigQuiet
import Derived.WideLaws
import Derived.Deep.DeepCutAuto
import Derived.Deep.CutBlock
import Derived.Deep.RegionHeld3
import Derived.Laws.Rows
import Derived.Lib.AppendStr
import Derived.ArgAppend
import Derived.Laws.IdiomCopy
import Derived.RowKit
import Derived.OrdersHeld
import Derived.Laws.BitsLemmas
import Derived.Laws.StructEq
import Derived.Deep.Slices
import Derived.ChangeArms
import Derived.OpenShut
import Derived.Test.YthemhfloablccaaDoorProg
import Derived.Deep.RegionLaw
import Derived.StillTailTactics
import Derived.Deep.Light
import Derived.Deep.RegionHeldLaw
import Derived.Deep.DrawnRows
import Derived.Test.YthemhfloablccaaDoorTie
import Derived.Test.YthemhfloablccaaDoorCards
import Derived.LaidMore
import Derived.Lay
import Derived.SevenTiedAt
import Derived.Stop.Joined
import Derived.ProofKit
import Derived.ShutString
import Derived.ChangeOld
import Derived.SizedLaws
import Derived.Carry
import Derived.Test.YthemhfloablccaaDoorGa1
import Derived.Test.YthemhfloablccaaDoorGa2
set_option linter.unusedVariables false
set_option linter.unusedSimpArgs false
section
namespace Go.Proofs.YthemhfloablccaaDoor.Pr
open Go.RowKit Go.Proofs.YthemhfloablccaaDoorW.PrintWords Go.Proofs.YthemhfloablccaaDoorW.PrintLast Go.Proofs.YthemhfloablccaaDoorW.PrintMore
attribute [local go_sem] max2_int min2_int max_two min_two max_three min_three max_four min_four
attribute [local go_sem high] eqA28
mutual
def wire_Check.j0 : Nat → Bool → Int → Int → Int → Int → ByteArray → Int → Int → Int → Int → Int → Int → Int → ByteArray → ByteArray → Int → List (S80) → Option (Int)
 | 0, _, _, _, _, _, _, _, _, _, _, _, _, _, _, _, _, _ => none
 | k + 1, x3, x120000, x120001, x120002, x120003, x120004, x120005, x120006, x120007, x120008, x120009, x120010, x120011, x120012, x120013, x120014, x120015 => if x120000 = 1 then (if x3 = true then ((tree_Check.f x120005 x120006 x120007 x120008 x120009 x120010 x120011 x120012 x120013).bind fun t125 => (if t125 = 0 then (if x120007 = x120001 then (if x120014 = 0 then (if ((x120015.length : Int) = 0) then (some 0) else (some 1)) else (some 1)) else (some 1)) else (some 1))) else (some 1)) else (if x120000 = 2 then (wire_Check.j1 k x3 x120000 (x120000 == 2) x120000 x120001 x120002 x120003 x120004 x120005 x120006 x120007 x120008 x120009 x120010 x120011 x120012 x120013 x120014 x120015) else (wire_Check.j1 k x3 x120000 (x120000 == 3) x120000 x120001 x120002 x120003 x120004 x120005 x120006 x120007 x120008 x120009 x120010 x120011 x120012 x120013 x120014 x120015))
def wire_Check.j1 : Nat → Bool → Int → Bool → Int → Int → Int → Int → ByteArray → Int → Int → Int → Int → Int → Int → Int → ByteArray → ByteArray → Int → List (S80) → Option (Int)
 | 0, _, _, _, _, _, _, _, _, _, _, _, _, _, _, _, _, _, _, _ => none
 | k + 1, x3, x27, x57, x120000, x120001, x120002, x120003, x120004, x120005, x120006, x120007, x120008, x120009, x120010, x120011, x120012, x120013, x120014, x120015 => if x57 = true then (if x3 = true then (if (x120005 == 0 && ((x120006 == 0 && (x120007 == 0)) && ((x120008 == 0 && (x120009 == 0)) && ((x120010 == 0 && (x120011 == 0)) && (x120012.toList == ([] : List UInt8) && (x120013.toList == ([] : List UInt8))))))) = true then ((wire_member.f x120014).bind fun t126 => (if t126 = true then ((wire_wraps.f k x120015).bind fun t127 => (if t127 = true then (some 0) else (some 1))) else (some 1))) else (some 1)) else (some 1)) else (if x27 = 4 then (if x3 = true then (if (x120005 == 0 && ((x120006 == 0 && (x120007 == 0)) && ((x120008 == 0 && (x120009 == 0)) && ((x120010 == 0 && (x120011 == 0)) && (x120012.toList == ([] : List UInt8) && (x120013.toList == ([] : List UInt8))))))) = true then (if x120014 = 0 then ((wire_wraps.f k x120015).bind fun t128 => (if t128 = true then (some 0) else (some 1))) else (some 1)) else (some 1)) else (some 1)) else (some 1))
end
def wire_Check.f (k : Nat) (a0_0 : Int) (a0_1 : Int) (a0_2 : Int) (a0_3 : Int) (a0_4 : ByteArray) (a0_5 : Int) (a0_6 : Int) (a0_7 : Int) (a0_8 : Int) (a0_9 : Int) (a0_10 : Int) (a0_11 : Int) (a0_12 : ByteArray) (a0_13 : ByteArray) (a0_14 : Int) (l0_15 : List (S80)) : Option (Int) := (wire_member.f a0_1).bind fun t120 => (if t120 = true then (if a0_2 ≥ 1 then ((wire_number.f (([a0_2, a0_3] : List Int))).bind fun t124 => (if t124 = true then (wire_Check.j0 k ((a0_4.size : Int) == 32) a0_0 a0_1 a0_2 a0_3 a0_4 a0_5 a0_6 a0_7 a0_8 a0_9 a0_10 a0_11 a0_12 a0_13 a0_14 l0_15) else (wire_Check.j0 k false a0_0 a0_1 a0_2 a0_3 a0_4 a0_5 a0_6 a0_7 a0_8 a0_9 a0_10 a0_11 a0_12 a0_13 a0_14 l0_15))) else (wire_Check.j0 k false a0_0 a0_1 a0_2 a0_3 a0_4 a0_5 a0_6 a0_7 a0_8 a0_9 a0_10 a0_11 a0_12 a0_13 a0_14 l0_15)) else (wire_Check.j0 k false a0_0 a0_1 a0_2 a0_3 a0_4 a0_5 a0_6 a0_7 a0_8 a0_9 a0_10 a0_11 a0_12 a0_13 a0_14 l0_15))
set_option maxHeartbeats 8000000 in
set_option maxRecDepth 100000 in
theorem wire_Check.calls (k : Nat) (a0_0 : Int) (a0_1 : Int) (a0_2 : Int) (a0_3 : Int) (a0_4 : ByteArray) (a0_5 : Int) (a0_6 : Int) (a0_7 : Int) (a0_8 : Int) (a0_9 : Int) (a0_10 : Int) (a0_11 : Int) (a0_12 : ByteArray) (a0_13 : ByteArray) (a0_14 : Int) (A0_15 : Option Addr) (c0_15 : Nat) (l0_15 : List (S80)) (r : Int) (w : World) (hr0_15 : Kd.C k80 w A0_15 l0_15.length l0_15) (hc0_15 : l0_15.length ≤ c0_15) (h : wire_Check.f k a0_0 a0_1 a0_2 a0_3 a0_4 a0_5 a0_6 a0_7 a0_8 a0_9 a0_10 a0_11 a0_12 a0_13 a0_14 l0_15 = some r) :
    Calls Tryd.prog 35 #[.agg #[.int .i64 a0_0, .int .i64 a0_1, .int .i64 a0_2, .int .i64 a0_3, .string a0_4, .int .i64 a0_5, .int .i64 a0_6, .int .i64 a0_7, .int .i64 a0_8, .int .i64 a0_9, .int .i64 a0_10, .int .i64 a0_11, .string a0_12, .string a0_13, .int .i64 a0_14, .slice A0_15 l0_15.length c0_15]] w fun e w' => e = .returned (.int .i64 r) ∧ Below w.heap.size w w' := by
  have hu31 := Tryd.underlying31; have hu28 := Tryd.underlying28; have HR0_15 := Aside0.mk hr0_15; have HC0_15 := Aside0.mk hc0_15; clear hr0_15 hc0_15; have HB := Aside0.mk (Below.refl w.heap.size w); have H : ((wire_member.f a0_1).bind fun t120 => (if t120 = true then (if a0_2 ≥ 1 then ((wire_number.f (([a0_2, a0_3] : List Int))).bind fun t124 => (if t124 = true then (wire_Check.j0 k ((a0_4.size : Int) == 32) a0_0 a0_1 a0_2 a0_3 a0_4 a0_5 a0_6 a0_7 a0_8 a0_9 a0_10 a0_11 a0_12 a0_13 a0_14 l0_15) else (wire_Check.j0 k false a0_0 a0_1 a0_2 a0_3 a0_4 a0_5 a0_6 a0_7 a0_8 a0_9 a0_10 a0_11 a0_12 a0_13 a0_14 l0_15))) else (wire_Check.j0 k false a0_0 a0_1 a0_2 a0_3 a0_4 a0_5 a0_6 a0_7 a0_8 a0_9 a0_10 a0_11 a0_12 a0_13 a0_14 l0_15)) else (wire_Check.j0 k false a0_0 a0_1 a0_2 a0_3 a0_4 a0_5 a0_6 a0_7 a0_8 a0_9 a0_10 a0_11 a0_12 a0_13 a0_14 l0_15))) = some r := h; clear h; have HC2 := Aside0.mk H; clear H; go_enter Tryd.func35, Tryd.ntmps35
  go_upto_region 1 with (first | ((with_reducible refine gate_dst (N := 1) rfl ?_); (try (refine gate_guard (by rfl) ?_; dsimp only)); refine box_event ?hg (N := 1) ?hd (cs := #[.int .i64 a0_0, .int .i64 a0_1, .int .i64 a0_2, .int .i64 a0_3, .string a0_4, .int .i64 a0_5, .int .i64 a0_6, .int .i64 a0_7, .int .i64 a0_8, .int .i64 a0_9, .int .i64 a0_10, .int .i64 a0_11, .string a0_12, .string a0_13, .int .i64 a0_14, .slice A0_15 l0_15.length c0_15]) (t := 31) ?hr ?_; (case hd => rfl); (case hg => rfl); (case hr => first | (go_simp; done) | (go_simp; rfl)); intro gb119 hg w3 hbox hb; have n0_ := Aside0.mk (below_step hb_ hb); have n1_ := Aside0.mk (hbox); have n2_ := Aside0.mk ((by rw [hg]; exact (below_size hb_) : w.heap.size ≤ gb119)); have n3_ := Aside0.mk ((by rw [hg]; exact (below_size hb_) : w.heap.size ≤ gb119)); clear HB; have HB := n0_; have BK119 := n1_; have GW119 := n2_; have GE119 := n3_; clear n0_ n1_ n2_ n3_; clear hb hbox hg))
  (try simp only [Act.put, List.setIfInBounds_toArray, List.set_cons_zero, List.set_cons_succ])
  go_cut [3] (fun v3 wc => ∃ (kq : Nat) (x3_1 : Bool), v3 = .bool x3_1 ∧ Aside0 (wire_Check.j0 kq x3_1 a0_0 a0_1 a0_2 a0_3 a0_4 a0_5 a0_6 a0_7 a0_8 a0_9 a0_10 a0_11 a0_12 a0_13 a0_14 l0_15 = some r) ∧ Aside0 (kq ≤ k) ∧ Aside0 (wc.heap[gb119]? = some (.cells #[.int .i64 a0_0, .int .i64 a0_1, .int .i64 a0_2, .int .i64 a0_3, .string a0_4, .int .i64 a0_5, .int .i64 a0_6, .int .i64 a0_7, .int .i64 a0_8, .int .i64 a0_9, .int .i64 a0_10, .int .i64 a0_11, .string a0_12, .string a0_13, .int .i64 a0_14, (.slice A0_15 l0_15.length c0_15)] 31 (0, 0))) ∧ Aside0 (Below w.heap.size w wc))
  case first =>
    have H := HC2.out; clear HC2; replace H := Option.bind_eq_some_iff.mp H; obtain ⟨t120, A40, H⟩ := H; have A4 := Aside0.mk A40; clear A40; by_cases c5 : t120 = true
    · subst c5; have H1 : (if a0_2 ≥ 1 then ((wire_number.f (([a0_2, a0_3] : List Int))).bind fun t124 => (if t124 = true then (wire_Check.j0 k ((a0_4.size : Int) == 32) a0_0 a0_1 a0_2 a0_3 a0_4 a0_5 a0_6 a0_7 a0_8 a0_9 a0_10 a0_11 a0_12 a0_13 a0_14 l0_15) else (wire_Check.j0 k false a0_0 a0_1 a0_2 a0_3 a0_4 a0_5 a0_6 a0_7 a0_8 a0_9 a0_10 a0_11 a0_12 a0_13 a0_14 l0_15))) else (wire_Check.j0 k false a0_0 a0_1 a0_2 a0_3 a0_4 a0_5 a0_6 a0_7 a0_8 a0_9 a0_10 a0_11 a0_12 a0_13 a0_14 l0_15)) = some r := by rw [if_pos rfl] at H; exact H
      clear H; have H := H1; clear H1; by_cases c6 : a0_2 ≥ 1
      · rw [if_pos c6] at H; have c6b0 : decide (1 ≤ a0_2) = true := decide_eq_true c6; clear c6
        (first | rw [c6b0] | (simp only [i64_w, i32_w]; rw [c6b0]) | skip)
        obtain ⟨y121, hy121⟩ : ∃ y_ : List Int, y_ = (([a0_2, a0_3] : List Int)) := ⟨_, rfl⟩; replace H : ((wire_number.f y121).bind fun t124 => (if t124 = true then (wire_Check.j0 k ((a0_4.size : Int) == 32) a0_0 a0_1 a0_2 a0_3 a0_4 a0_5 a0_6 a0_7 a0_8 a0_9 a0_10 a0_11 a0_12 a0_13 a0_14 l0_15) else (wire_Check.j0 k false a0_0 a0_1 a0_2 a0_3 a0_4 a0_5 a0_6 a0_7 a0_8 a0_9 a0_10 a0_11 a0_12 a0_13 a0_14 l0_15))) = some r := by first | (rw [hy121]; with_reducible exact H) | (have H2_ := (Option.bind_some _ _).symm.trans H; rw [hy121]; with_reducible exact H2_) | (have H2_ := (Option.bind_some _ _).symm.trans H; with_reducible exact H2_) | with_reducible exact H | (rw [hy121]; exact H) | exact H
        have Ny121 := Aside0.mk hy121; clear hy121; replace H := Option.bind_eq_some_iff.mp H; obtain ⟨t124, A70, H⟩ := H; have A7 := Aside0.mk A70; clear A70; by_cases c8 : t124 = true
        · subst c8; have H1 : (wire_Check.j0 k ((a0_4.size : Int) == 32) a0_0 a0_1 a0_2 a0_3 a0_4 a0_5 a0_6 a0_7 a0_8 a0_9 a0_10 a0_11 a0_12 a0_13 a0_14 l0_15) = some r := by rw [if_pos rfl] at H; exact H
          clear H; have H := H1; clear H1; have H' := Aside0.mk H; clear H; have hcz9_0 : w3.cell? ⟨gb119, 0, none⟩ = some (.int .i64 a0_0) := (blk_cell BK119.out 0).trans rfl; have hcz9_1 : w3.cell? ⟨gb119, 1, none⟩ = some (.int .i64 a0_1) := (blk_cell BK119.out 1).trans rfl; have hcz9_2 : w3.cell? ⟨gb119, 2, none⟩ = some (.int .i64 a0_2) := (blk_cell BK119.out 2).trans rfl; have hcz9_3 : w3.cell? ⟨gb119, 3, none⟩ = some (.int .i64 a0_3) := (blk_cell BK119.out 3).trans rfl; have hcz9_4 : w3.cell? ⟨gb119, 4, none⟩ = some (.string a0_4) := (blk_cell BK119.out 4).trans rfl; have hcz9_5 : w3.cell? ⟨gb119, 5, none⟩ = some (.int .i64 a0_5) := (blk_cell BK119.out 5).trans rfl; have hcz9_6 : w3.cell? ⟨gb119, 6, none⟩ = some (.int .i64 a0_6) := (blk_cell BK119.out 6).trans rfl; have hcz9_7 : w3.cell? ⟨gb119, 7, none⟩ = some (.int .i64 a0_7) := (blk_cell BK119.out 7).trans rfl; have hcz9_8 : w3.cell? ⟨gb119, 8, none⟩ = some (.int .i64 a0_8) := (blk_cell BK119.out 8).trans rfl; have hcz9_9 : w3.cell? ⟨gb119, 9, none⟩ = some (.int .i64 a0_9) := (blk_cell BK119.out 9).trans rfl; have hcz9_10 : w3.cell? ⟨gb119, 10, none⟩ = some (.int .i64 a0_10) := (blk_cell BK119.out 10).trans rfl; have hcz9_11 : w3.cell? ⟨gb119, 11, none⟩ = some (.int .i64 a0_11) := (blk_cell BK119.out 11).trans rfl; have hcz9_12 : w3.cell? ⟨gb119, 12, none⟩ = some (.string a0_12) := (blk_cell BK119.out 12).trans rfl; have hcz9_13 : w3.cell? ⟨gb119, 13, none⟩ = some (.string a0_13) := (blk_cell BK119.out 13).trans rfl; have hcz9_14 : w3.cell? ⟨gb119, 14, none⟩ = some (.int .i64 a0_14) := (blk_cell BK119.out 14).trans rfl; have hcz9_15 : w3.cell? ⟨gb119, 15, none⟩ = some (.slice A0_15 l0_15.length c0_15) := (blk_cell BK119.out 15).trans rfl; have hfz9_0 := blk_frozen BK119.out 0; have hfz9_1 := blk_frozen BK119.out 1; have hfz9_2 := blk_frozen BK119.out 2; have hfz9_3 := blk_frozen BK119.out 3; have hfz9_4 := blk_frozen BK119.out 4; have hfz9_5 := blk_frozen BK119.out 5; have hfz9_6 := blk_frozen BK119.out 6; have hfz9_7 := blk_frozen BK119.out 7; have hfz9_8 := blk_frozen BK119.out 8; have hfz9_9 := blk_frozen BK119.out 9; have hfz9_10 := blk_frozen BK119.out 10; have hfz9_11 := blk_frozen BK119.out 11; have hfz9_12 := blk_frozen BK119.out 12; have hfz9_13 := blk_frozen BK119.out 13; have hfz9_14 := blk_frozen BK119.out 14; have hfz9_15 := blk_frozen BK119.out 15; go_wp2_with (first | ((with_reducible refine gate_callee (f := 74) rfl ?_); refine gl_ 6 Tryd.func74 #[.int .i64 a0_1] ?_; (with_reducible refine (wire_member.calls a0_1 true _ A4.out).mono ?_); rintro e w' ⟨rfl, ⟨nd, rfl⟩⟩; refine ⟨_, rfl, ?_⟩) | ((with_reducible refine gate_dst (N := 17) rfl ?_); (try (refine gate_guard (by rfl) ?_; dsimp only)); refine Kd.R_lit (Kd.int .i64) _ 3 ?hg (N := 17) ?hd (xs := ([a0_2, a0_3] : List Int)) (inner := [.int .i64 a0_2, .int .i64 a0_3]) (ok := fun _ => True) (okp := fun _ => True) ?hr ?hp (fun _ hk => hk) trivial (Below.refl _ _) (Nat.le_refl _) (by simp) ?_; (case hd => rfl); (case hg => rfl); (case hr => first | (go_simp; done) | (go_simp; rfl)); (case hp => exact (ro_ (ro_ (Reps.none _ _)))); intro v122 w10 ho11 hb hg_ hnew_; clear hg_ hnew_; (first | rw [← Ny121.out] at ho11 | (simp only [Int.reduceToNat] at ho11; rw [← Ny121.out] at ho11)); have n0_ := Aside0.mk (Kd.R_lower ho11 (below_size (by repeat (first | (with_reducible first | exact HB.out | apply below_alloc | apply pw_below_drewN | apply below_drew1 | refine below_set ?_ GE119.out) | exact HB.out)))); have n1_ := Aside0.mk (blk_below (g := gb119) (o := .cells #[.int .i64 a0_0, .int .i64 a0_1, .int .i64 a0_2, .int .i64 a0_3, .string a0_4, .int .i64 a0_5, .int .i64 a0_6, .int .i64 a0_7, .int .i64 a0_8, .int .i64 a0_9, .int .i64 a0_10, .int .i64 a0_11, .string a0_12, .string a0_13, .int .i64 a0_14, .slice A0_15 l0_15.length c0_15] 31 (0, 0)) (by (with_reducible repeat (first | refine blk_drewN ?_ _ | refine blk_drew ?_ | refine blk_alloc ?_ _)); exact BK119.out) hb); have n2_ := Aside0.mk (below_step (by repeat (first | (with_reducible first | exact HB.out | apply below_alloc | apply pw_below_drewN | apply below_drew1 | refine below_set ?_ GE119.out) | exact HB.out)) hb); clear BK119; clear HB; have HO123 := n0_; have BK119 := n1_; have HB := n2_; clear n0_ n1_ n2_; clear hb ho11; obtain ⟨Ao12, co12, eo12⟩ := Kd.R_slice HO123.out; subst eo12) | (go_at_call 75; (with_reducible refine (wire_number.calls _ _ y121 true _ ?side1 ?side2 A7.out).mono ?_); (case side1 => exact ca_ (Kd.R_reads' HO123.out).2.2); (case side2 => exact (Kd.R_reads' HO123.out).2.1); rintro e w13 ⟨rfl, hb⟩; have n0_ := Aside0.mk (Kd.R_below (ra_ HO123.out) hb); have n1_ := Aside0.mk (blk_below (g := gb119) (o := .cells #[.int .i64 a0_0, .int .i64 a0_1, .int .i64 a0_2, .int .i64 a0_3, .string a0_4, .int .i64 a0_5, .int .i64 a0_6, .int .i64 a0_7, .int .i64 a0_8, .int .i64 a0_9, .int .i64 a0_10, .int .i64 a0_11, .string a0_12, .string a0_13, .int .i64 a0_14, .slice A0_15 l0_15.length c0_15] 31 (0, 0)) (by (with_reducible repeat (first | refine blk_drewN ?_ _ | refine blk_drew ?_ | refine blk_alloc ?_ _)); exact BK119.out) hb); have n2_ := Aside0.mk (below_step (by repeat (first | (with_reducible first | exact HB.out | apply below_alloc | apply pw_below_drewN | apply below_drew1 | refine below_set ?_ GE119.out) | exact HB.out)) hb); clear HO123; clear BK119; clear HB; have HO123 := n0_; have BK119 := n1_; have HB := n2_; clear n0_ n1_ n2_; have hcz14_0 : w13.cell? ⟨gb119, 0, none⟩ = some (.int .i64 a0_0) := (blk_cell BK119.out 0).trans rfl; have hcz14_1 : w13.cell? ⟨gb119, 1, none⟩ = some (.int .i64 a0_1) := (blk_cell BK119.out 1).trans rfl; have hcz14_2 : w13.cell? ⟨gb119, 2, none⟩ = some (.int .i64 a0_2) := (blk_cell BK119.out 2).trans rfl; have hcz14_3 : w13.cell? ⟨gb119, 3, none⟩ = some (.int .i64 a0_3) := (blk_cell BK119.out 3).trans rfl; have hcz14_4 : w13.cell? ⟨gb119, 4, none⟩ = some (.string a0_4) := (blk_cell BK119.out 4).trans rfl; have hcz14_5 : w13.cell? ⟨gb119, 5, none⟩ = some (.int .i64 a0_5) := (blk_cell BK119.out 5).trans rfl; have hcz14_6 : w13.cell? ⟨gb119, 6, none⟩ = some (.int .i64 a0_6) := (blk_cell BK119.out 6).trans rfl; have hcz14_7 : w13.cell? ⟨gb119, 7, none⟩ = some (.int .i64 a0_7) := (blk_cell BK119.out 7).trans rfl; have hcz14_8 : w13.cell? ⟨gb119, 8, none⟩ = some (.int .i64 a0_8) := (blk_cell BK119.out 8).trans rfl; have hcz14_9 : w13.cell? ⟨gb119, 9, none⟩ = some (.int .i64 a0_9) := (blk_cell BK119.out 9).trans rfl; have hcz14_10 : w13.cell? ⟨gb119, 10, none⟩ = some (.int .i64 a0_10) := (blk_cell BK119.out 10).trans rfl; have hcz14_11 : w13.cell? ⟨gb119, 11, none⟩ = some (.int .i64 a0_11) := (blk_cell BK119.out 11).trans rfl; have hcz14_12 : w13.cell? ⟨gb119, 12, none⟩ = some (.string a0_12) := (blk_cell BK119.out 12).trans rfl; have hcz14_13 : w13.cell? ⟨gb119, 13, none⟩ = some (.string a0_13) := (blk_cell BK119.out 13).trans rfl; have hcz14_14 : w13.cell? ⟨gb119, 14, none⟩ = some (.int .i64 a0_14) := (blk_cell BK119.out 14).trans rfl; have hcz14_15 : w13.cell? ⟨gb119, 15, none⟩ = some (.slice A0_15 l0_15.length c0_15) := (blk_cell BK119.out 15).trans rfl; have hfz14_0 := blk_frozen BK119.out 0; have hfz14_1 := blk_frozen BK119.out 1; have hfz14_2 := blk_frozen BK119.out 2; have hfz14_3 := blk_frozen BK119.out 3; have hfz14_4 := blk_frozen BK119.out 4; have hfz14_5 := blk_frozen BK119.out 5; have hfz14_6 := blk_frozen BK119.out 6; have hfz14_7 := blk_frozen BK119.out 7; have hfz14_8 := blk_frozen BK119.out 8; have hfz14_9 := blk_frozen BK119.out 9; have hfz14_10 := blk_frozen BK119.out 10; have hfz14_11 := blk_frozen BK119.out 11; have hfz14_12 := blk_frozen BK119.out 12; have hfz14_13 := blk_frozen BK119.out 13; have hfz14_14 := blk_frozen BK119.out 14; have hfz14_15 := blk_frozen BK119.out 15))
          go_meet
          case rel => exact ⟨_, (((a0_4.size : Int) == 32)), rz_, H', ⟨by first | omega | exact Nat.le_refl _⟩, ⟨by (with_reducible repeat (first | refine blk_drewN ?_ _ | refine blk_drew ?_ | refine blk_alloc ?_ _)); exact BK119.out⟩, ⟨by repeat (first | (with_reducible first | exact HB.out | apply below_alloc | apply pw_below_drewN | apply below_drew1 | refine below_set ?_ GE119.out) | exact HB.out)⟩⟩
        · replace c8 := Bool.eq_false_iff.mpr c8; subst c8; have H1 : (wire_Check.j0 k false a0_0 a0_1 a0_2 a0_3 a0_4 a0_5 a0_6 a0_7 a0_8 a0_9 a0_10 a0_11 a0_12 a0_13 a0_14 l0_15) = some r := by rw [if_neg (show ¬ (false = true) by decide)] at H; exact H
          clear H; have H := H1; clear H1; have H' := Aside0.mk H; clear H; have hcz15_0 : w3.cell? ⟨gb119, 0, none⟩ = some (.int .i64 a0_0) := (blk_cell BK119.out 0).trans rfl; have hcz15_1 : w3.cell? ⟨gb119, 1, none⟩ = some (.int .i64 a0_1) := (blk_cell BK119.out 1).trans rfl; have hcz15_2 : w3.cell? ⟨gb119, 2, none⟩ = some (.int .i64 a0_2) := (blk_cell BK119.out 2).trans rfl; have hcz15_3 : w3.cell? ⟨gb119, 3, none⟩ = some (.int .i64 a0_3) := (blk_cell BK119.out 3).trans rfl; have hcz15_4 : w3.cell? ⟨gb119, 4, none⟩ = some (.string a0_4) := (blk_cell BK119.out 4).trans rfl; have hcz15_5 : w3.cell? ⟨gb119, 5, none⟩ = some (.int .i64 a0_5) := (blk_cell BK119.out 5).trans rfl; have hcz15_6 : w3.cell? ⟨gb119, 6, none⟩ = some (.int .i64 a0_6) := (blk_cell BK119.out 6).trans rfl; have hcz15_7 : w3.cell? ⟨gb119, 7, none⟩ = some (.int .i64 a0_7) := (blk_cell BK119.out 7).trans rfl; have hcz15_8 : w3.cell? ⟨gb119, 8, none⟩ = some (.int .i64 a0_8) := (blk_cell BK119.out 8).trans rfl; have hcz15_9 : w3.cell? ⟨gb119, 9, none⟩ = some (.int .i64 a0_9) := (blk_cell BK119.out 9).trans rfl; have hcz15_10 : w3.cell? ⟨gb119, 10, none⟩ = some (.int .i64 a0_10) := (blk_cell BK119.out 10).trans rfl; have hcz15_11 : w3.cell? ⟨gb119, 11, none⟩ = some (.int .i64 a0_11) := (blk_cell BK119.out 11).trans rfl; have hcz15_12 : w3.cell? ⟨gb119, 12, none⟩ = some (.string a0_12) := (blk_cell BK119.out 12).trans rfl; have hcz15_13 : w3.cell? ⟨gb119, 13, none⟩ = some (.string a0_13) := (blk_cell BK119.out 13).trans rfl; have hcz15_14 : w3.cell? ⟨gb119, 14, none⟩ = some (.int .i64 a0_14) := (blk_cell BK119.out 14).trans rfl; have hcz15_15 : w3.cell? ⟨gb119, 15, none⟩ = some (.slice A0_15 l0_15.length c0_15) := (blk_cell BK119.out 15).trans rfl; have hfz15_0 := blk_frozen BK119.out 0; have hfz15_1 := blk_frozen BK119.out 1; have hfz15_2 := blk_frozen BK119.out 2; have hfz15_3 := blk_frozen BK119.out 3; have hfz15_4 := blk_frozen BK119.out 4; have hfz15_5 := blk_frozen BK119.out 5; have hfz15_6 := blk_frozen BK119.out 6; have hfz15_7 := blk_frozen BK119.out 7; have hfz15_8 := blk_frozen BK119.out 8; have hfz15_9 := blk_frozen BK119.out 9; have hfz15_10 := blk_frozen BK119.out 10; have hfz15_11 := blk_frozen BK119.out 11; have hfz15_12 := blk_frozen BK119.out 12; have hfz15_13 := blk_frozen BK119.out 13; have hfz15_14 := blk_frozen BK119.out 14; have hfz15_15 := blk_frozen BK119.out 15; go_wp2_with (first | ((with_reducible refine gate_callee (f := 74) rfl ?_); refine gl_ 6 Tryd.func74 #[.int .i64 a0_1] ?_; (with_reducible refine (wire_member.calls a0_1 true _ A4.out).mono ?_); rintro e w' ⟨rfl, ⟨nd, rfl⟩⟩; refine ⟨_, rfl, ?_⟩) | ((with_reducible refine gate_dst (N := 17) rfl ?_); (try (refine gate_guard (by rfl) ?_; dsimp only)); refine Kd.R_lit (Kd.int .i64) _ 3 ?hg (N := 17) ?hd (xs := ([a0_2, a0_3] : List Int)) (inner := [.int .i64 a0_2, .int .i64 a0_3]) (ok := fun _ => True) (okp := fun _ => True) ?hr ?hp (fun _ hk => hk) trivial (Below.refl _ _) (Nat.le_refl _) (by simp) ?_; (case hd => rfl); (case hg => rfl); (case hr => first | (go_simp; done) | (go_simp; rfl)); (case hp => exact (ro_ (ro_ (Reps.none _ _)))); intro v122 w16 ho17 hb hg_ hnew_; clear hg_ hnew_; (first | rw [← Ny121.out] at ho17 | (simp only [Int.reduceToNat] at ho17; rw [← Ny121.out] at ho17)); have n0_ := Aside0.mk (Kd.R_lower ho17 (below_size (by repeat (first | (with_reducible first | exact HB.out | apply below_alloc | apply pw_below_drewN | apply below_drew1 | refine below_set ?_ GE119.out) | exact HB.out)))); have n1_ := Aside0.mk (blk_below (g := gb119) (o := .cells #[.int .i64 a0_0, .int .i64 a0_1, .int .i64 a0_2, .int .i64 a0_3, .string a0_4, .int .i64 a0_5, .int .i64 a0_6, .int .i64 a0_7, .int .i64 a0_8, .int .i64 a0_9, .int .i64 a0_10, .int .i64 a0_11, .string a0_12, .string a0_13, .int .i64 a0_14, .slice A0_15 l0_15.length c0_15] 31 (0, 0)) (by (with_reducible repeat (first | refine blk_drewN ?_ _ | refine blk_drew ?_ | refine blk_alloc ?_ _)); exact BK119.out) hb); have n2_ := Aside0.mk (below_step (by repeat (first | (with_reducible first | exact HB.out | apply below_alloc | apply pw_below_drewN | apply below_drew1 | refine below_set ?_ GE119.out) | exact HB.out)) hb); clear BK119; clear HB; have HO123 := n0_; have BK119 := n1_; have HB := n2_; clear n0_ n1_ n2_; clear hb ho17; obtain ⟨Ao18, co18, eo18⟩ := Kd.R_slice HO123.out; subst eo18) | (go_at_call 75; (with_reducible refine (wire_number.calls _ _ y121 false _ ?side1 ?side2 A7.out).mono ?_); (case side1 => exact ca_ (Kd.R_reads' HO123.out).2.2); (case side2 => exact (Kd.R_reads' HO123.out).2.1); rintro e w19 ⟨rfl, hb⟩; have n0_ := Aside0.mk (Kd.R_below (ra_ HO123.out) hb); have n1_ := Aside0.mk (blk_below (g := gb119) (o := .cells #[.int .i64 a0_0, .int .i64 a0_1, .int .i64 a0_2, .int .i64 a0_3, .string a0_4, .int .i64 a0_5, .int .i64 a0_6, .int .i64 a0_7, .int .i64 a0_8, .int .i64 a0_9, .int .i64 a0_10, .int .i64 a0_11, .string a0_12, .string a0_13, .int .i64 a0_14, .slice A0_15 l0_15.length c0_15] 31 (0, 0)) (by (with_reducible repeat (first | refine blk_drewN ?_ _ | refine blk_drew ?_ | refine blk_alloc ?_ _)); exact BK119.out) hb); have n2_ := Aside0.mk (below_step (by repeat (first | (with_reducible first | exact HB.out | apply below_alloc | apply pw_below_drewN | apply below_drew1 | refine below_set ?_ GE119.out) | exact HB.out)) hb); clear HO123; clear BK119; clear HB; have HO123 := n0_; have BK119 := n1_; have HB := n2_; clear n0_ n1_ n2_))
          go_meet
          case rel => exact ⟨_, (false), rz_, H', ⟨by first | omega | exact Nat.le_refl _⟩, ⟨by (with_reducible repeat (first | refine blk_drewN ?_ _ | refine blk_drew ?_ | refine blk_alloc ?_ _)); exact BK119.out⟩, ⟨by repeat (first | (with_reducible first | exact HB.out | apply below_alloc | apply pw_below_drewN | apply below_drew1 | refine below_set ?_ GE119.out) | exact HB.out)⟩⟩
      · rw [if_neg c6] at H; have c6b0 : decide (1 ≤ a0_2) = false := decide_eq_false c6; clear c6
        (first | rw [c6b0] | (simp only [i64_w, i32_w]; rw [c6b0]) | skip)
        have H' := Aside0.mk H; clear H; have hcz20_0 : w3.cell? ⟨gb119, 0, none⟩ = some (.int .i64 a0_0) := (blk_cell BK119.out 0).trans rfl; have hcz20_1 : w3.cell? ⟨gb119, 1, none⟩ = some (.int .i64 a0_1) := (blk_cell BK119.out 1).trans rfl; have hcz20_2 : w3.cell? ⟨gb119, 2, none⟩ = some (.int .i64 a0_2) := (blk_cell BK119.out 2).trans rfl; have hcz20_3 : w3.cell? ⟨gb119, 3, none⟩ = some (.int .i64 a0_3) := (blk_cell BK119.out 3).trans rfl; have hcz20_4 : w3.cell? ⟨gb119, 4, none⟩ = some (.string a0_4) := (blk_cell BK119.out 4).trans rfl; have hcz20_5 : w3.cell? ⟨gb119, 5, none⟩ = some (.int .i64 a0_5) := (blk_cell BK119.out 5).trans rfl; have hcz20_6 : w3.cell? ⟨gb119, 6, none⟩ = some (.int .i64 a0_6) := (blk_cell BK119.out 6).trans rfl; have hcz20_7 : w3.cell? ⟨gb119, 7, none⟩ = some (.int .i64 a0_7) := (blk_cell BK119.out 7).trans rfl; have hcz20_8 : w3.cell? ⟨gb119, 8, none⟩ = some (.int .i64 a0_8) := (blk_cell BK119.out 8).trans rfl; have hcz20_9 : w3.cell? ⟨gb119, 9, none⟩ = some (.int .i64 a0_9) := (blk_cell BK119.out 9).trans rfl; have hcz20_10 : w3.cell? ⟨gb119, 10, none⟩ = some (.int .i64 a0_10) := (blk_cell BK119.out 10).trans rfl; have hcz20_11 : w3.cell? ⟨gb119, 11, none⟩ = some (.int .i64 a0_11) := (blk_cell BK119.out 11).trans rfl; have hcz20_12 : w3.cell? ⟨gb119, 12, none⟩ = some (.string a0_12) := (blk_cell BK119.out 12).trans rfl; have hcz20_13 : w3.cell? ⟨gb119, 13, none⟩ = some (.string a0_13) := (blk_cell BK119.out 13).trans rfl; have hcz20_14 : w3.cell? ⟨gb119, 14, none⟩ = some (.int .i64 a0_14) := (blk_cell BK119.out 14).trans rfl; have hcz20_15 : w3.cell? ⟨gb119, 15, none⟩ = some (.slice A0_15 l0_15.length c0_15) := (blk_cell BK119.out 15).trans rfl; have hfz20_0 := blk_frozen BK119.out 0; have hfz20_1 := blk_frozen BK119.out 1; have hfz20_2 := blk_frozen BK119.out 2; have hfz20_3 := blk_frozen BK119.out 3; have hfz20_4 := blk_frozen BK119.out 4; have hfz20_5 := blk_frozen BK119.out 5; have hfz20_6 := blk_frozen BK119.out 6; have hfz20_7 := blk_frozen BK119.out 7; have hfz20_8 := blk_frozen BK119.out 8; have hfz20_9 := blk_frozen BK119.out 9; have hfz20_10 := blk_frozen BK119.out 10; have hfz20_11 := blk_frozen BK119.out 11; have hfz20_12 := blk_frozen BK119.out 12; have hfz20_13 := blk_frozen BK119.out 13; have hfz20_14 := blk_frozen BK119.out 14; have hfz20_15 := blk_frozen BK119.out 15; go_wp2_with (first | ((with_reducible refine gate_callee (f := 74) rfl ?_); refine gl_ 6 Tryd.func74 #[.int .i64 a0_1] ?_; (with_reducible refine (wire_member.calls a0_1 true _ A4.out).mono ?_); rintro e w' ⟨rfl, ⟨nd, rfl⟩⟩; refine ⟨_, rfl, ?_⟩))
        go_meet
        case rel => exact ⟨_, (false), rz_, H', ⟨by first | omega | exact Nat.le_refl _⟩, ⟨by (with_reducible repeat (first | refine blk_drewN ?_ _ | refine blk_drew ?_ | refine blk_alloc ?_ _)); exact BK119.out⟩, ⟨by repeat (first | (with_reducible first | exact HB.out | apply below_alloc | apply pw_below_drewN | apply below_drew1 | refine below_set ?_ GE119.out) | exact HB.out)⟩⟩
    · replace c5 := Bool.eq_false_iff.mpr c5; subst c5; have H1 : (wire_Check.j0 k false a0_0 a0_1 a0_2 a0_3 a0_4 a0_5 a0_6 a0_7 a0_8 a0_9 a0_10 a0_11 a0_12 a0_13 a0_14 l0_15) = some r := by rw [if_neg (show ¬ (false = true) by decide)] at H; exact H
      clear H; have H := H1; clear H1; have H' := Aside0.mk H; clear H; have hcz21_0 : w3.cell? ⟨gb119, 0, none⟩ = some (.int .i64 a0_0) := (blk_cell BK119.out 0).trans rfl; have hcz21_1 : w3.cell? ⟨gb119, 1, none⟩ = some (.int .i64 a0_1) := (blk_cell BK119.out 1).trans rfl; have hcz21_2 : w3.cell? ⟨gb119, 2, none⟩ = some (.int .i64 a0_2) := (blk_cell BK119.out 2).trans rfl; have hcz21_3 : w3.cell? ⟨gb119, 3, none⟩ = some (.int .i64 a0_3) := (blk_cell BK119.out 3).trans rfl; have hcz21_4 : w3.cell? ⟨gb119, 4, none⟩ = some (.string a0_4) := (blk_cell BK119.out 4).trans rfl; have hcz21_5 : w3.cell? ⟨gb119, 5, none⟩ = some (.int .i64 a0_5) := (blk_cell BK119.out 5).trans rfl; have hcz21_6 : w3.cell? ⟨gb119, 6, none⟩ = some (.int .i64 a0_6) := (blk_cell BK119.out 6).trans rfl; have hcz21_7 : w3.cell? ⟨gb119, 7, none⟩ = some (.int .i64 a0_7) := (blk_cell BK119.out 7).trans rfl; have hcz21_8 : w3.cell? ⟨gb119, 8, none⟩ = some (.int .i64 a0_8) := (blk_cell BK119.out 8).trans rfl; have hcz21_9 : w3.cell? ⟨gb119, 9, none⟩ = some (.int .i64 a0_9) := (blk_cell BK119.out 9).trans rfl; have hcz21_10 : w3.cell? ⟨gb119, 10, none⟩ = some (.int .i64 a0_10) := (blk_cell BK119.out 10).trans rfl; have hcz21_11 : w3.cell? ⟨gb119, 11, none⟩ = some (.int .i64 a0_11) := (blk_cell BK119.out 11).trans rfl; have hcz21_12 : w3.cell? ⟨gb119, 12, none⟩ = some (.string a0_12) := (blk_cell BK119.out 12).trans rfl; have hcz21_13 : w3.cell? ⟨gb119, 13, none⟩ = some (.string a0_13) := (blk_cell BK119.out 13).trans rfl; have hcz21_14 : w3.cell? ⟨gb119, 14, none⟩ = some (.int .i64 a0_14) := (blk_cell BK119.out 14).trans rfl; have hcz21_15 : w3.cell? ⟨gb119, 15, none⟩ = some (.slice A0_15 l0_15.length c0_15) := (blk_cell BK119.out 15).trans rfl; have hfz21_0 := blk_frozen BK119.out 0; have hfz21_1 := blk_frozen BK119.out 1; have hfz21_2 := blk_frozen BK119.out 2; have hfz21_3 := blk_frozen BK119.out 3; have hfz21_4 := blk_frozen BK119.out 4; have hfz21_5 := blk_frozen BK119.out 5; have hfz21_6 := blk_frozen BK119.out 6; have hfz21_7 := blk_frozen BK119.out 7; have hfz21_8 := blk_frozen BK119.out 8; have hfz21_9 := blk_frozen BK119.out 9; have hfz21_10 := blk_frozen BK119.out 10; have hfz21_11 := blk_frozen BK119.out 11; have hfz21_12 := blk_frozen BK119.out 12; have hfz21_13 := blk_frozen BK119.out 13; have hfz21_14 := blk_frozen BK119.out 14; have hfz21_15 := blk_frozen BK119.out 15; go_wp2_with (first | ((with_reducible refine gate_callee (f := 74) rfl ?_); refine gl_ 6 Tryd.func74 #[.int .i64 a0_1] ?_; (with_reducible refine (wire_member.calls a0_1 false _ A4.out).mono ?_); rintro e w' ⟨rfl, ⟨nd, rfl⟩⟩; refine ⟨_, rfl, ?_⟩))
      go_meet
      case rel => exact ⟨_, (false), rz_, H', ⟨by first | omega | exact Nat.le_refl _⟩, ⟨by (with_reducible repeat (first | refine blk_drewN ?_ _ | refine blk_drew ?_ | refine blk_alloc ?_ _)); exact BK119.out⟩, ⟨by repeat (first | (with_reducible first | exact HB.out | apply below_alloc | apply pw_below_drewN | apply below_drew1 | refine below_set ?_ GE119.out) | exact HB.out)⟩⟩
  case rest =>
    clear HC2; obtain ⟨kq, x3_1, rfl, HA, HJ1, BK119, HB⟩ := hcut; cases kq with
    | zero => exact absurd HA.out (by simp [wire_Check.j0])
    | succ kj1 =>
      have H := HA.out; clear HA; simp only [wire_Check.j0] at H; by_cases c22 : a0_0 = 1
      · rw [if_pos c22] at H; have c22b0 : (a0_0 == 1) = true := beq_iff_eq.mpr c22; have c22b1 : (a0_0 != 1) = false := bne_eq_false_iff_eq.mpr c22; clear c22; by_cases c23 : x3_1 = true
        · subst c23; have H1 : ((tree_Check.f a0_5 a0_6 a0_7 a0_8 a0_9 a0_10 a0_11 a0_12 a0_13).bind fun t125 => (if t125 = 0 then (if a0_7 = a0_1 then (if a0_14 = 0 then (if ((l0_15.length : Int) = 0) then (some 0) else (some 1)) else (some 1)) else (some 1)) else (some 1))) = some r := by rw [if_pos rfl] at H; exact H
          clear H; have H := H1; clear H1; replace H := Option.bind_eq_some_iff.mp H; obtain ⟨t125, A240, H⟩ := H; have A24 := Aside0.mk A240; clear A240; by_cases c25 : t125 = 0
          · rw [if_pos c25] at H; have c25b0 : (t125 == 0) = true := beq_iff_eq.mpr c25; have c25b1 : (t125 != 0) = false := bne_eq_false_iff_eq.mpr c25; clear c25; by_cases c26 : a0_7 = a0_1
            · rw [if_pos c26] at H; have c26b0 : (a0_7 == a0_1) = true := beq_iff_eq.mpr c26; have c26b1 : (a0_7 != a0_1) = false := bne_eq_false_iff_eq.mpr c26; clear c26; by_cases c27 : a0_14 = 0
              · rw [if_pos c27] at H; have c27b0 : (a0_14 == 0) = true := beq_iff_eq.mpr c27; have c27b1 : (a0_14 != 0) = false := bne_eq_false_iff_eq.mpr c27; clear c27; by_cases c28 : ((l0_15.length : Int) = 0)
                · rw [if_pos c28] at H; have c28b0 : ((l0_15.length : Int) == 0) = true := beq_iff_eq.mpr c28; have c28b1 : ((l0_15.length : Int) != 0) = false := bne_eq_false_iff_eq.mpr c28; clear c28; obtain rfl := Option.some.inj H; have hcz29_0 : wc.cell? ⟨gb119, 0, none⟩ = some (.int .i64 a0_0) := (blk_cell BK119.out 0).trans rfl; have hcz29_1 : wc.cell? ⟨gb119, 1, none⟩ = some (.int .i64 a0_1) := (blk_cell BK119.out 1).trans rfl; have hcz29_2 : wc.cell? ⟨gb119, 2, none⟩ = some (.int .i64 a0_2) := (blk_cell BK119.out 2).trans rfl; have hcz29_3 : wc.cell? ⟨gb119, 3, none⟩ = some (.int .i64 a0_3) := (blk_cell BK119.out 3).trans rfl; have hcz29_4 : wc.cell? ⟨gb119, 4, none⟩ = some (.string a0_4) := (blk_cell BK119.out 4).trans rfl; have hcz29_5 : wc.cell? ⟨gb119, 5, none⟩ = some (.int .i64 a0_5) := (blk_cell BK119.out 5).trans rfl; have hcz29_6 : wc.cell? ⟨gb119, 6, none⟩ = some (.int .i64 a0_6) := (blk_cell BK119.out 6).trans rfl; have hcz29_7 : wc.cell? ⟨gb119, 7, none⟩ = some (.int .i64 a0_7) := (blk_cell BK119.out 7).trans rfl; have hcz29_8 : wc.cell? ⟨gb119, 8, none⟩ = some (.int .i64 a0_8) := (blk_cell BK119.out 8).trans rfl; have hcz29_9 : wc.cell? ⟨gb119, 9, none⟩ = some (.int .i64 a0_9) := (blk_cell BK119.out 9).trans rfl; have hcz29_10 : wc.cell? ⟨gb119, 10, none⟩ = some (.int .i64 a0_10) := (blk_cell BK119.out 10).trans rfl; have hcz29_11 : wc.cell? ⟨gb119, 11, none⟩ = some (.int .i64 a0_11) := (blk_cell BK119.out 11).trans rfl; have hcz29_12 : wc.cell? ⟨gb119, 12, none⟩ = some (.string a0_12) := (blk_cell BK119.out 12).trans rfl; have hcz29_13 : wc.cell? ⟨gb119, 13, none⟩ = some (.string a0_13) := (blk_cell BK119.out 13).trans rfl; have hcz29_14 : wc.cell? ⟨gb119, 14, none⟩ = some (.int .i64 a0_14) := (blk_cell BK119.out 14).trans rfl; have hcz29_15 : wc.cell? ⟨gb119, 15, none⟩ = some (.slice A0_15 l0_15.length c0_15) := (blk_cell BK119.out 15).trans rfl; have hfz29_0 := blk_frozen BK119.out 0; have hfz29_1 := blk_frozen BK119.out 1; have hfz29_2 := blk_frozen BK119.out 2; have hfz29_3 := blk_frozen BK119.out 3; have hfz29_4 := blk_frozen BK119.out 4; have hfz29_5 := blk_frozen BK119.out 5; have hfz29_6 := blk_frozen BK119.out 6; have hfz29_7 := blk_frozen BK119.out 7; have hfz29_8 := blk_frozen BK119.out 8; have hfz29_9 := blk_frozen BK119.out 9; have hfz29_10 := blk_frozen BK119.out 10; have hfz29_11 := blk_frozen BK119.out 11; have hfz29_12 := blk_frozen BK119.out 12; have hfz29_13 := blk_frozen BK119.out 13; have hfz29_14 := blk_frozen BK119.out 14; have hfz29_15 := blk_frozen BK119.out 15; go_wp2_with (first | (go_at_call 76; (with_reducible refine (tree_Check.calls a0_5 a0_6 a0_7 a0_8 a0_9 a0_10 a0_11 a0_12 a0_13 t125 _ A24.out).mono ?_); rintro e w30 ⟨rfl, hb⟩; have n0_ := Aside0.mk (blk_below (g := gb119) (o := .cells #[.int .i64 a0_0, .int .i64 a0_1, .int .i64 a0_2, .int .i64 a0_3, .string a0_4, .int .i64 a0_5, .int .i64 a0_6, .int .i64 a0_7, .int .i64 a0_8, .int .i64 a0_9, .int .i64 a0_10, .int .i64 a0_11, .string a0_12, .string a0_13, .int .i64 a0_14, .slice A0_15 l0_15.length c0_15] 31 (0, 0)) (by (with_reducible repeat (first | refine blk_drewN ?_ _ | refine blk_drew ?_ | refine blk_alloc ?_ _)); exact BK119.out) hb); have n1_ := Aside0.mk (below_step (by repeat (first | (with_reducible first | exact HB.out | apply below_alloc | apply pw_below_drewN | apply below_drew1 | refine below_set ?_ GE119.out) | exact HB.out)) hb); clear BK119; clear HB; have BK119 := n0_; have HB := n1_; clear n0_ n1_; have hcz31_0 : w30.cell? ⟨gb119, 0, none⟩ = some (.int .i64 a0_0) := (blk_cell BK119.out 0).trans rfl; have hcz31_1 : w30.cell? ⟨gb119, 1, none⟩ = some (.int .i64 a0_1) := (blk_cell BK119.out 1).trans rfl; have hcz31_2 : w30.cell? ⟨gb119, 2, none⟩ = some (.int .i64 a0_2) := (blk_cell BK119.out 2).trans rfl; have hcz31_3 : w30.cell? ⟨gb119, 3, none⟩ = some (.int .i64 a0_3) := (blk_cell BK119.out 3).trans rfl; have hcz31_4 : w30.cell? ⟨gb119, 4, none⟩ = some (.string a0_4) := (blk_cell BK119.out 4).trans rfl; have hcz31_5 : w30.cell? ⟨gb119, 5, none⟩ = some (.int .i64 a0_5) := (blk_cell BK119.out 5).trans rfl; have hcz31_6 : w30.cell? ⟨gb119, 6, none⟩ = some (.int .i64 a0_6) := (blk_cell BK119.out 6).trans rfl; have hcz31_7 : w30.cell? ⟨gb119, 7, none⟩ = some (.int .i64 a0_7) := (blk_cell BK119.out 7).trans rfl; have hcz31_8 : w30.cell? ⟨gb119, 8, none⟩ = some (.int .i64 a0_8) := (blk_cell BK119.out 8).trans rfl; have hcz31_9 : w30.cell? ⟨gb119, 9, none⟩ = some (.int .i64 a0_9) := (blk_cell BK119.out 9).trans rfl; have hcz31_10 : w30.cell? ⟨gb119, 10, none⟩ = some (.int .i64 a0_10) := (blk_cell BK119.out 10).trans rfl; have hcz31_11 : w30.cell? ⟨gb119, 11, none⟩ = some (.int .i64 a0_11) := (blk_cell BK119.out 11).trans rfl; have hcz31_12 : w30.cell? ⟨gb119, 12, none⟩ = some (.string a0_12) := (blk_cell BK119.out 12).trans rfl; have hcz31_13 : w30.cell? ⟨gb119, 13, none⟩ = some (.string a0_13) := (blk_cell BK119.out 13).trans rfl; have hcz31_14 : w30.cell? ⟨gb119, 14, none⟩ = some (.int .i64 a0_14) := (blk_cell BK119.out 14).trans rfl; have hcz31_15 : w30.cell? ⟨gb119, 15, none⟩ = some (.slice A0_15 l0_15.length c0_15) := (blk_cell BK119.out 15).trans rfl; have hfz31_0 := blk_frozen BK119.out 0; have hfz31_1 := blk_frozen BK119.out 1; have hfz31_2 := blk_frozen BK119.out 2; have hfz31_3 := blk_frozen BK119.out 3; have hfz31_4 := blk_frozen BK119.out 4; have hfz31_5 := blk_frozen BK119.out 5; have hfz31_6 := blk_frozen BK119.out 6; have hfz31_7 := blk_frozen BK119.out 7; have hfz31_8 := blk_frozen BK119.out 8; have hfz31_9 := blk_frozen BK119.out 9; have hfz31_10 := blk_frozen BK119.out 10; have hfz31_11 := blk_frozen BK119.out 11; have hfz31_12 := blk_frozen BK119.out 12; have hfz31_13 := blk_frozen BK119.out 13; have hfz31_14 := blk_frozen BK119.out 14; have hfz31_15 := blk_frozen BK119.out 15))
                  go_ret
                  exact ⟨ew_, by repeat (first | (with_reducible first | exact HB.out | apply below_alloc | apply pw_below_drewN | apply below_drew1 | refine below_set ?_ GE119.out) | exact HB.out)⟩
                · rw [if_neg c28] at H; have c28b0 : ((l0_15.length : Int) == 0) = false := beq_eq_false_iff_ne.mpr c28; have c28b1 : ((l0_15.length : Int) != 0) = true := bne_iff_ne.mpr c28; have c28b2 : ¬ (l0_15 = []) := fun h_ => c28 (by rw [h_]; rfl)
                  obtain rfl := Option.some.inj H; have hcz32_0 : wc.cell? ⟨gb119, 0, none⟩ = some (.int .i64 a0_0) := (blk_cell BK119.out 0).trans rfl; have hcz32_1 : wc.cell? ⟨gb119, 1, none⟩ = some (.int .i64 a0_1) := (blk_cell BK119.out 1).trans rfl; have hcz32_2 : wc.cell? ⟨gb119, 2, none⟩ = some (.int .i64 a0_2) := (blk_cell BK119.out 2).trans rfl; have hcz32_3 : wc.cell? ⟨gb119, 3, none⟩ = some (.int .i64 a0_3) := (blk_cell BK119.out 3).trans rfl; have hcz32_4 : wc.cell? ⟨gb119, 4, none⟩ = some (.string a0_4) := (blk_cell BK119.out 4).trans rfl; have hcz32_5 : wc.cell? ⟨gb119, 5, none⟩ = some (.int .i64 a0_5) := (blk_cell BK119.out 5).trans rfl; have hcz32_6 : wc.cell? ⟨gb119, 6, none⟩ = some (.int .i64 a0_6) := (blk_cell BK119.out 6).trans rfl; have hcz32_7 : wc.cell? ⟨gb119, 7, none⟩ = some (.int .i64 a0_7) := (blk_cell BK119.out 7).trans rfl; have hcz32_8 : wc.cell? ⟨gb119, 8, none⟩ = some (.int .i64 a0_8) := (blk_cell BK119.out 8).trans rfl; have hcz32_9 : wc.cell? ⟨gb119, 9, none⟩ = some (.int .i64 a0_9) := (blk_cell BK119.out 9).trans rfl; have hcz32_10 : wc.cell? ⟨gb119, 10, none⟩ = some (.int .i64 a0_10) := (blk_cell BK119.out 10).trans rfl; have hcz32_11 : wc.cell? ⟨gb119, 11, none⟩ = some (.int .i64 a0_11) := (blk_cell BK119.out 11).trans rfl; have hcz32_12 : wc.cell? ⟨gb119, 12, none⟩ = some (.string a0_12) := (blk_cell BK119.out 12).trans rfl; have hcz32_13 : wc.cell? ⟨gb119, 13, none⟩ = some (.string a0_13) := (blk_cell BK119.out 13).trans rfl; have hcz32_14 : wc.cell? ⟨gb119, 14, none⟩ = some (.int .i64 a0_14) := (blk_cell BK119.out 14).trans rfl; have hcz32_15 : wc.cell? ⟨gb119, 15, none⟩ = some (.slice A0_15 l0_15.length c0_15) := (blk_cell BK119.out 15).trans rfl; have hfz32_0 := blk_frozen BK119.out 0; have hfz32_1 := blk_frozen BK119.out 1; have hfz32_2 := blk_frozen BK119.out 2; have hfz32_3 := blk_frozen BK119.out 3; have hfz32_4 := blk_frozen BK119.out 4; have hfz32_5 := blk_frozen BK119.out 5; have hfz32_6 := blk_frozen BK119.out 6; have hfz32_7 := blk_frozen BK119.out 7; have hfz32_8 := blk_frozen BK119.out 8; have hfz32_9 := blk_frozen BK119.out 9; have hfz32_10 := blk_frozen BK119.out 10; have hfz32_11 := blk_frozen BK119.out 11; have hfz32_12 := blk_frozen BK119.out 12; have hfz32_13 := blk_frozen BK119.out 13; have hfz32_14 := blk_frozen BK119.out 14; have hfz32_15 := blk_frozen BK119.out 15; go_wp2_with (first | (go_at_call 76; (with_reducible refine (tree_Check.calls a0_5 a0_6 a0_7 a0_8 a0_9 a0_10 a0_11 a0_12 a0_13 t125 _ A24.out).mono ?_); rintro e w33 ⟨rfl, hb⟩; have n0_ := Aside0.mk (blk_below (g := gb119) (o := .cells #[.int .i64 a0_0, .int .i64 a0_1, .int .i64 a0_2, .int .i64 a0_3, .string a0_4, .int .i64 a0_5, .int .i64 a0_6, .int .i64 a0_7, .int .i64 a0_8, .int .i64 a0_9, .int .i64 a0_10, .int .i64 a0_11, .string a0_12, .string a0_13, .int .i64 a0_14, .slice A0_15 l0_15.length c0_15] 31 (0, 0)) (by (with_reducible repeat (first | refine blk_drewN ?_ _ | refine blk_drew ?_ | refine blk_alloc ?_ _)); exact BK119.out) hb); have n1_ := Aside0.mk (below_step (by repeat (first | (with_reducible first | exact HB.out | apply below_alloc | apply pw_below_drewN | apply below_drew1 | refine below_set ?_ GE119.out) | exact HB.out)) hb); clear BK119; clear HB; have BK119 := n0_; have HB := n1_; clear n0_ n1_; have hcz34_0 : w33.cell? ⟨gb119, 0, none⟩ = some (.int .i64 a0_0) := (blk_cell BK119.out 0).trans rfl; have hcz34_1 : w33.cell? ⟨gb119, 1, none⟩ = some (.int .i64 a0_1) := (blk_cell BK119.out 1).trans rfl; have hcz34_2 : w33.cell? ⟨gb119, 2, none⟩ = some (.int .i64 a0_2) := (blk_cell BK119.out 2).trans rfl; have hcz34_3 : w33.cell? ⟨gb119, 3, none⟩ = some (.int .i64 a0_3) := (blk_cell BK119.out 3).trans rfl; have hcz34_4 : w33.cell? ⟨gb119, 4, none⟩ = some (.string a0_4) := (blk_cell BK119.out 4).trans rfl; have hcz34_5 : w33.cell? ⟨gb119, 5, none⟩ = some (.int .i64 a0_5) := (blk_cell BK119.out 5).trans rfl; have hcz34_6 : w33.cell? ⟨gb119, 6, none⟩ = some (.int .i64 a0_6) := (blk_cell BK119.out 6).trans rfl; have hcz34_7 : w33.cell? ⟨gb119, 7, none⟩ = some (.int .i64 a0_7) := (blk_cell BK119.out 7).trans rfl; have hcz34_8 : w33.cell? ⟨gb119, 8, none⟩ = some (.int .i64 a0_8) := (blk_cell BK119.out 8).trans rfl; have hcz34_9 : w33.cell? ⟨gb119, 9, none⟩ = some (.int .i64 a0_9) := (blk_cell BK119.out 9).trans rfl; have hcz34_10 : w33.cell? ⟨gb119, 10, none⟩ = some (.int .i64 a0_10) := (blk_cell BK119.out 10).trans rfl; have hcz34_11 : w33.cell? ⟨gb119, 11, none⟩ = some (.int .i64 a0_11) := (blk_cell BK119.out 11).trans rfl; have hcz34_12 : w33.cell? ⟨gb119, 12, none⟩ = some (.string a0_12) := (blk_cell BK119.out 12).trans rfl; have hcz34_13 : w33.cell? ⟨gb119, 13, none⟩ = some (.string a0_13) := (blk_cell BK119.out 13).trans rfl; have hcz34_14 : w33.cell? ⟨gb119, 14, none⟩ = some (.int .i64 a0_14) := (blk_cell BK119.out 14).trans rfl; have hcz34_15 : w33.cell? ⟨gb119, 15, none⟩ = some (.slice A0_15 l0_15.length c0_15) := (blk_cell BK119.out 15).trans rfl; have hfz34_0 := blk_frozen BK119.out 0; have hfz34_1 := blk_frozen BK119.out 1; have hfz34_2 := blk_frozen BK119.out 2; have hfz34_3 := blk_frozen BK119.out 3; have hfz34_4 := blk_frozen BK119.out 4; have hfz34_5 := blk_frozen BK119.out 5; have hfz34_6 := blk_frozen BK119.out 6; have hfz34_7 := blk_frozen BK119.out 7; have hfz34_8 := blk_frozen BK119.out 8; have hfz34_9 := blk_frozen BK119.out 9; have hfz34_10 := blk_frozen BK119.out 10; have hfz34_11 := blk_frozen BK119.out 11; have hfz34_12 := blk_frozen BK119.out 12; have hfz34_13 := blk_frozen BK119.out 13; have hfz34_14 := blk_frozen BK119.out 14; have hfz34_15 := blk_frozen BK119.out 15))
                  go_ret
                  exact ⟨ew_, by repeat (first | (with_reducible first | exact HB.out | apply below_alloc | apply pw_below_drewN | apply below_drew1 | refine below_set ?_ GE119.out) | exact HB.out)⟩
              · rw [if_neg c27] at H; have c27b0 : (a0_14 == 0) = false := beq_eq_false_iff_ne.mpr c27; have c27b1 : (a0_14 != 0) = true := bne_iff_ne.mpr c27; obtain rfl := Option.some.inj H; have hcz35_0 : wc.cell? ⟨gb119, 0, none⟩ = some (.int .i64 a0_0) := (blk_cell BK119.out 0).trans rfl; have hcz35_1 : wc.cell? ⟨gb119, 1, none⟩ = some (.int .i64 a0_1) := (blk_cell BK119.out 1).trans rfl; have hcz35_2 : wc.cell? ⟨gb119, 2, none⟩ = some (.int .i64 a0_2) := (blk_cell BK119.out 2).trans rfl; have hcz35_3 : wc.cell? ⟨gb119, 3, none⟩ = some (.int .i64 a0_3) := (blk_cell BK119.out 3).trans rfl; have hcz35_4 : wc.cell? ⟨gb119, 4, none⟩ = some (.string a0_4) := (blk_cell BK119.out 4).trans rfl; have hcz35_5 : wc.cell? ⟨gb119, 5, none⟩ = some (.int .i64 a0_5) := (blk_cell BK119.out 5).trans rfl; have hcz35_6 : wc.cell? ⟨gb119, 6, none⟩ = some (.int .i64 a0_6) := (blk_cell BK119.out 6).trans rfl; have hcz35_7 : wc.cell? ⟨gb119, 7, none⟩ = some (.int .i64 a0_7) := (blk_cell BK119.out 7).trans rfl; have hcz35_8 : wc.cell? ⟨gb119, 8, none⟩ = some (.int .i64 a0_8) := (blk_cell BK119.out 8).trans rfl; have hcz35_9 : wc.cell? ⟨gb119, 9, none⟩ = some (.int .i64 a0_9) := (blk_cell BK119.out 9).trans rfl; have hcz35_10 : wc.cell? ⟨gb119, 10, none⟩ = some (.int .i64 a0_10) := (blk_cell BK119.out 10).trans rfl; have hcz35_11 : wc.cell? ⟨gb119, 11, none⟩ = some (.int .i64 a0_11) := (blk_cell BK119.out 11).trans rfl; have hcz35_12 : wc.cell? ⟨gb119, 12, none⟩ = some (.string a0_12) := (blk_cell BK119.out 12).trans rfl; have hcz35_13 : wc.cell? ⟨gb119, 13, none⟩ = some (.string a0_13) := (blk_cell BK119.out 13).trans rfl; have hcz35_14 : wc.cell? ⟨gb119, 14, none⟩ = some (.int .i64 a0_14) := (blk_cell BK119.out 14).trans rfl; have hcz35_15 : wc.cell? ⟨gb119, 15, none⟩ = some (.slice A0_15 l0_15.length c0_15) := (blk_cell BK119.out 15).trans rfl; have hfz35_0 := blk_frozen BK119.out 0; have hfz35_1 := blk_frozen BK119.out 1; have hfz35_2 := blk_frozen BK119.out 2; have hfz35_3 := blk_frozen BK119.out 3; have hfz35_4 := blk_frozen BK119.out 4; have hfz35_5 := blk_frozen BK119.out 5; have hfz35_6 := blk_frozen BK119.out 6; have hfz35_7 := blk_frozen BK119.out 7; have hfz35_8 := blk_frozen BK119.out 8; have hfz35_9 := blk_frozen BK119.out 9; have hfz35_10 := blk_frozen BK119.out 10; have hfz35_11 := blk_frozen BK119.out 11; have hfz35_12 := blk_frozen BK119.out 12; have hfz35_13 := blk_frozen BK119.out 13; have hfz35_14 := blk_frozen BK119.out 14; have hfz35_15 := blk_frozen BK119.out 15; go_wp2_with (first | (go_at_call 76; (with_reducible refine (tree_Check.calls a0_5 a0_6 a0_7 a0_8 a0_9 a0_10 a0_11 a0_12 a0_13 t125 _ A24.out).mono ?_); rintro e w36 ⟨rfl, hb⟩; have n0_ := Aside0.mk (blk_below (g := gb119) (o := .cells #[.int .i64 a0_0, .int .i64 a0_1, .int .i64 a0_2, .int .i64 a0_3, .string a0_4, .int .i64 a0_5, .int .i64 a0_6, .int .i64 a0_7, .int .i64 a0_8, .int .i64 a0_9, .int .i64 a0_10, .int .i64 a0_11, .string a0_12, .string a0_13, .int .i64 a0_14, .slice A0_15 l0_15.length c0_15] 31 (0, 0)) (by (with_reducible repeat (first | refine blk_drewN ?_ _ | refine blk_drew ?_ | refine blk_alloc ?_ _)); exact BK119.out) hb); have n1_ := Aside0.mk (below_step (by repeat (first | (with_reducible first | exact HB.out | apply below_alloc | apply pw_below_drewN | apply below_drew1 | refine below_set ?_ GE119.out) | exact HB.out)) hb); clear BK119; clear HB; have BK119 := n0_; have HB := n1_; clear n0_ n1_; have hcz37_0 : w36.cell? ⟨gb119, 0, none⟩ = some (.int .i64 a0_0) := (blk_cell BK119.out 0).trans rfl; have hcz37_1 : w36.cell? ⟨gb119, 1, none⟩ = some (.int .i64 a0_1) := (blk_cell BK119.out 1).trans rfl; have hcz37_2 : w36.cell? ⟨gb119, 2, none⟩ = some (.int .i64 a0_2) := (blk_cell BK119.out 2).trans rfl; have hcz37_3 : w36.cell? ⟨gb119, 3, none⟩ = some (.int .i64 a0_3) := (blk_cell BK119.out 3).trans rfl; have hcz37_4 : w36.cell? ⟨gb119, 4, none⟩ = some (.string a0_4) := (blk_cell BK119.out 4).trans rfl; have hcz37_5 : w36.cell? ⟨gb119, 5, none⟩ = some (.int .i64 a0_5) := (blk_cell BK119.out 5).trans rfl; have hcz37_6 : w36.cell? ⟨gb119, 6, none⟩ = some (.int .i64 a0_6) := (blk_cell BK119.out 6).trans rfl; have hcz37_7 : w36.cell? ⟨gb119, 7, none⟩ = some (.int .i64 a0_7) := (blk_cell BK119.out 7).trans rfl; have hcz37_8 : w36.cell? ⟨gb119, 8, none⟩ = some (.int .i64 a0_8) := (blk_cell BK119.out 8).trans rfl; have hcz37_9 : w36.cell? ⟨gb119, 9, none⟩ = some (.int .i64 a0_9) := (blk_cell BK119.out 9).trans rfl; have hcz37_10 : w36.cell? ⟨gb119, 10, none⟩ = some (.int .i64 a0_10) := (blk_cell BK119.out 10).trans rfl; have hcz37_11 : w36.cell? ⟨gb119, 11, none⟩ = some (.int .i64 a0_11) := (blk_cell BK119.out 11).trans rfl; have hcz37_12 : w36.cell? ⟨gb119, 12, none⟩ = some (.string a0_12) := (blk_cell BK119.out 12).trans rfl; have hcz37_13 : w36.cell? ⟨gb119, 13, none⟩ = some (.string a0_13) := (blk_cell BK119.out 13).trans rfl; have hcz37_14 : w36.cell? ⟨gb119, 14, none⟩ = some (.int .i64 a0_14) := (blk_cell BK119.out 14).trans rfl; have hcz37_15 : w36.cell? ⟨gb119, 15, none⟩ = some (.slice A0_15 l0_15.length c0_15) := (blk_cell BK119.out 15).trans rfl; have hfz37_0 := blk_frozen BK119.out 0; have hfz37_1 := blk_frozen BK119.out 1; have hfz37_2 := blk_frozen BK119.out 2; have hfz37_3 := blk_frozen BK119.out 3; have hfz37_4 := blk_frozen BK119.out 4; have hfz37_5 := blk_frozen BK119.out 5; have hfz37_6 := blk_frozen BK119.out 6; have hfz37_7 := blk_frozen BK119.out 7; have hfz37_8 := blk_frozen BK119.out 8; have hfz37_9 := blk_frozen BK119.out 9; have hfz37_10 := blk_frozen BK119.out 10; have hfz37_11 := blk_frozen BK119.out 11; have hfz37_12 := blk_frozen BK119.out 12; have hfz37_13 := blk_frozen BK119.out 13; have hfz37_14 := blk_frozen BK119.out 14; have hfz37_15 := blk_frozen BK119.out 15))
                go_ret
                exact ⟨ew_, by repeat (first | (with_reducible first | exact HB.out | apply below_alloc | apply pw_below_drewN | apply below_drew1 | refine below_set ?_ GE119.out) | exact HB.out)⟩
            · rw [if_neg c26] at H; have c26b0 : (a0_7 == a0_1) = false := beq_eq_false_iff_ne.mpr c26; have c26b1 : (a0_7 != a0_1) = true := bne_iff_ne.mpr c26; obtain rfl := Option.some.inj H; have hcz38_0 : wc.cell? ⟨gb119, 0, none⟩ = some (.int .i64 a0_0) := (blk_cell BK119.out 0).trans rfl; have hcz38_1 : wc.cell? ⟨gb119, 1, none⟩ = some (.int .i64 a0_1) := (blk_cell BK119.out 1).trans rfl; have hcz38_2 : wc.cell? ⟨gb119, 2, none⟩ = some (.int .i64 a0_2) := (blk_cell BK119.out 2).trans rfl; have hcz38_3 : wc.cell? ⟨gb119, 3, none⟩ = some (.int .i64 a0_3) := (blk_cell BK119.out 3).trans rfl; have hcz38_4 : wc.cell? ⟨gb119, 4, none⟩ = some (.string a0_4) := (blk_cell BK119.out 4).trans rfl; have hcz38_5 : wc.cell? ⟨gb119, 5, none⟩ = some (.int .i64 a0_5) := (blk_cell BK119.out 5).trans rfl; have hcz38_6 : wc.cell? ⟨gb119, 6, none⟩ = some (.int .i64 a0_6) := (blk_cell BK119.out 6).trans rfl; have hcz38_7 : wc.cell? ⟨gb119, 7, none⟩ = some (.int .i64 a0_7) := (blk_cell BK119.out 7).trans rfl; have hcz38_8 : wc.cell? ⟨gb119, 8, none⟩ = some (.int .i64 a0_8) := (blk_cell BK119.out 8).trans rfl; have hcz38_9 : wc.cell? ⟨gb119, 9, none⟩ = some (.int .i64 a0_9) := (blk_cell BK119.out 9).trans rfl; have hcz38_10 : wc.cell? ⟨gb119, 10, none⟩ = some (.int .i64 a0_10) := (blk_cell BK119.out 10).trans rfl; have hcz38_11 : wc.cell? ⟨gb119, 11, none⟩ = some (.int .i64 a0_11) := (blk_cell BK119.out 11).trans rfl; have hcz38_12 : wc.cell? ⟨gb119, 12, none⟩ = some (.string a0_12) := (blk_cell BK119.out 12).trans rfl; have hcz38_13 : wc.cell? ⟨gb119, 13, none⟩ = some (.string a0_13) := (blk_cell BK119.out 13).trans rfl; have hcz38_14 : wc.cell? ⟨gb119, 14, none⟩ = some (.int .i64 a0_14) := (blk_cell BK119.out 14).trans rfl; have hcz38_15 : wc.cell? ⟨gb119, 15, none⟩ = some (.slice A0_15 l0_15.length c0_15) := (blk_cell BK119.out 15).trans rfl; have hfz38_0 := blk_frozen BK119.out 0; have hfz38_1 := blk_frozen BK119.out 1; have hfz38_2 := blk_frozen BK119.out 2; have hfz38_3 := blk_frozen BK119.out 3; have hfz38_4 := blk_frozen BK119.out 4; have hfz38_5 := blk_frozen BK119.out 5; have hfz38_6 := blk_frozen BK119.out 6; have hfz38_7 := blk_frozen BK119.out 7; have hfz38_8 := blk_frozen BK119.out 8; have hfz38_9 := blk_frozen BK119.out 9; have hfz38_10 := blk_frozen BK119.out 10; have hfz38_11 := blk_frozen BK119.out 11; have hfz38_12 := blk_frozen BK119.out 12; have hfz38_13 := blk_frozen BK119.out 13; have hfz38_14 := blk_frozen BK119.out 14; have hfz38_15 := blk_frozen BK119.out 15; go_wp2_with (first | (go_at_call 76; (with_reducible refine (tree_Check.calls a0_5 a0_6 a0_7 a0_8 a0_9 a0_10 a0_11 a0_12 a0_13 t125 _ A24.out).mono ?_); rintro e w39 ⟨rfl, hb⟩; have n0_ := Aside0.mk (blk_below (g := gb119) (o := .cells #[.int .i64 a0_0, .int .i64 a0_1, .int .i64 a0_2, .int .i64 a0_3, .string a0_4, .int .i64 a0_5, .int .i64 a0_6, .int .i64 a0_7, .int .i64 a0_8, .int .i64 a0_9, .int .i64 a0_10, .int .i64 a0_11, .string a0_12, .string a0_13, .int .i64 a0_14, .slice A0_15 l0_15.length c0_15] 31 (0, 0)) (by (with_reducible repeat (first | refine blk_drewN ?_ _ | refine blk_drew ?_ | refine blk_alloc ?_ _)); exact BK119.out) hb); have n1_ := Aside0.mk (below_step (by repeat (first | (with_reducible first | exact HB.out | apply below_alloc | apply pw_below_drewN | apply below_drew1 | refine below_set ?_ GE119.out) | exact HB.out)) hb); clear BK119; clear HB; have BK119 := n0_; have HB := n1_; clear n0_ n1_; have hcz40_0 : w39.cell? ⟨gb119, 0, none⟩ = some (.int .i64 a0_0) := (blk_cell BK119.out 0).trans rfl; have hcz40_1 : w39.cell? ⟨gb119, 1, none⟩ = some (.int .i64 a0_1) := (blk_cell BK119.out 1).trans rfl; have hcz40_2 : w39.cell? ⟨gb119, 2, none⟩ = some (.int .i64 a0_2) := (blk_cell BK119.out 2).trans rfl; have hcz40_3 : w39.cell? ⟨gb119, 3, none⟩ = some (.int .i64 a0_3) := (blk_cell BK119.out 3).trans rfl; have hcz40_4 : w39.cell? ⟨gb119, 4, none⟩ = some (.string a0_4) := (blk_cell BK119.out 4).trans rfl; have hcz40_5 : w39.cell? ⟨gb119, 5, none⟩ = some (.int .i64 a0_5) := (blk_cell BK119.out 5).trans rfl; have hcz40_6 : w39.cell? ⟨gb119, 6, none⟩ = some (.int .i64 a0_6) := (blk_cell BK119.out 6).trans rfl; have hcz40_7 : w39.cell? ⟨gb119, 7, none⟩ = some (.int .i64 a0_7) := (blk_cell BK119.out 7).trans rfl; have hcz40_8 : w39.cell? ⟨gb119, 8, none⟩ = some (.int .i64 a0_8) := (blk_cell BK119.out 8).trans rfl; have hcz40_9 : w39.cell? ⟨gb119, 9, none⟩ = some (.int .i64 a0_9) := (blk_cell BK119.out 9).trans rfl; have hcz40_10 : w39.cell? ⟨gb119, 10, none⟩ = some (.int .i64 a0_10) := (blk_cell BK119.out 10).trans rfl; have hcz40_11 : w39.cell? ⟨gb119, 11, none⟩ = some (.int .i64 a0_11) := (blk_cell BK119.out 11).trans rfl; have hcz40_12 : w39.cell? ⟨gb119, 12, none⟩ = some (.string a0_12) := (blk_cell BK119.out 12).trans rfl; have hcz40_13 : w39.cell? ⟨gb119, 13, none⟩ = some (.string a0_13) := (blk_cell BK119.out 13).trans rfl; have hcz40_14 : w39.cell? ⟨gb119, 14, none⟩ = some (.int .i64 a0_14) := (blk_cell BK119.out 14).trans rfl; have hcz40_15 : w39.cell? ⟨gb119, 15, none⟩ = some (.slice A0_15 l0_15.length c0_15) := (blk_cell BK119.out 15).trans rfl; have hfz40_0 := blk_frozen BK119.out 0; have hfz40_1 := blk_frozen BK119.out 1; have hfz40_2 := blk_frozen BK119.out 2; have hfz40_3 := blk_frozen BK119.out 3; have hfz40_4 := blk_frozen BK119.out 4; have hfz40_5 := blk_frozen BK119.out 5; have hfz40_6 := blk_frozen BK119.out 6; have hfz40_7 := blk_frozen BK119.out 7; have hfz40_8 := blk_frozen BK119.out 8; have hfz40_9 := blk_frozen BK119.out 9; have hfz40_10 := blk_frozen BK119.out 10; have hfz40_11 := blk_frozen BK119.out 11; have hfz40_12 := blk_frozen BK119.out 12; have hfz40_13 := blk_frozen BK119.out 13; have hfz40_14 := blk_frozen BK119.out 14; have hfz40_15 := blk_frozen BK119.out 15))
              go_ret
              exact ⟨ew_, by repeat (first | (with_reducible first | exact HB.out | apply below_alloc | apply pw_below_drewN | apply below_drew1 | refine below_set ?_ GE119.out) | exact HB.out)⟩
          · rw [if_neg c25] at H; have c25b0 : (t125 == 0) = false := beq_eq_false_iff_ne.mpr c25; have c25b1 : (t125 != 0) = true := bne_iff_ne.mpr c25; obtain rfl := Option.some.inj H; have hcz41_0 : wc.cell? ⟨gb119, 0, none⟩ = some (.int .i64 a0_0) := (blk_cell BK119.out 0).trans rfl; have hcz41_1 : wc.cell? ⟨gb119, 1, none⟩ = some (.int .i64 a0_1) := (blk_cell BK119.out 1).trans rfl; have hcz41_2 : wc.cell? ⟨gb119, 2, none⟩ = some (.int .i64 a0_2) := (blk_cell BK119.out 2).trans rfl; have hcz41_3 : wc.cell? ⟨gb119, 3, none⟩ = some (.int .i64 a0_3) := (blk_cell BK119.out 3).trans rfl; have hcz41_4 : wc.cell? ⟨gb119, 4, none⟩ = some (.string a0_4) := (blk_cell BK119.out 4).trans rfl; have hcz41_5 : wc.cell? ⟨gb119, 5, none⟩ = some (.int .i64 a0_5) := (blk_cell BK119.out 5).trans rfl; have hcz41_6 : wc.cell? ⟨gb119, 6, none⟩ = some (.int .i64 a0_6) := (blk_cell BK119.out 6).trans rfl; have hcz41_7 : wc.cell? ⟨gb119, 7, none⟩ = some (.int .i64 a0_7) := (blk_cell BK119.out 7).trans rfl; have hcz41_8 : wc.cell? ⟨gb119, 8, none⟩ = some (.int .i64 a0_8) := (blk_cell BK119.out 8).trans rfl; have hcz41_9 : wc.cell? ⟨gb119, 9, none⟩ = some (.int .i64 a0_9) := (blk_cell BK119.out 9).trans rfl; have hcz41_10 : wc.cell? ⟨gb119, 10, none⟩ = some (.int .i64 a0_10) := (blk_cell BK119.out 10).trans rfl; have hcz41_11 : wc.cell? ⟨gb119, 11, none⟩ = some (.int .i64 a0_11) := (blk_cell BK119.out 11).trans rfl; have hcz41_12 : wc.cell? ⟨gb119, 12, none⟩ = some (.string a0_12) := (blk_cell BK119.out 12).trans rfl; have hcz41_13 : wc.cell? ⟨gb119, 13, none⟩ = some (.string a0_13) := (blk_cell BK119.out 13).trans rfl; have hcz41_14 : wc.cell? ⟨gb119, 14, none⟩ = some (.int .i64 a0_14) := (blk_cell BK119.out 14).trans rfl; have hcz41_15 : wc.cell? ⟨gb119, 15, none⟩ = some (.slice A0_15 l0_15.length c0_15) := (blk_cell BK119.out 15).trans rfl; have hfz41_0 := blk_frozen BK119.out 0; have hfz41_1 := blk_frozen BK119.out 1; have hfz41_2 := blk_frozen BK119.out 2; have hfz41_3 := blk_frozen BK119.out 3; have hfz41_4 := blk_frozen BK119.out 4; have hfz41_5 := blk_frozen BK119.out 5; have hfz41_6 := blk_frozen BK119.out 6; have hfz41_7 := blk_frozen BK119.out 7; have hfz41_8 := blk_frozen BK119.out 8; have hfz41_9 := blk_frozen BK119.out 9; have hfz41_10 := blk_frozen BK119.out 10; have hfz41_11 := blk_frozen BK119.out 11; have hfz41_12 := blk_frozen BK119.out 12; have hfz41_13 := blk_frozen BK119.out 13; have hfz41_14 := blk_frozen BK119.out 14; have hfz41_15 := blk_frozen BK119.out 15; go_wp2_with (first | (go_at_call 76; (with_reducible refine (tree_Check.calls a0_5 a0_6 a0_7 a0_8 a0_9 a0_10 a0_11 a0_12 a0_13 t125 _ A24.out).mono ?_); rintro e w42 ⟨rfl, hb⟩; have n0_ := Aside0.mk (blk_below (g := gb119) (o := .cells #[.int .i64 a0_0, .int .i64 a0_1, .int .i64 a0_2, .int .i64 a0_3, .string a0_4, .int .i64 a0_5, .int .i64 a0_6, .int .i64 a0_7, .int .i64 a0_8, .int .i64 a0_9, .int .i64 a0_10, .int .i64 a0_11, .string a0_12, .string a0_13, .int .i64 a0_14, .slice A0_15 l0_15.length c0_15] 31 (0, 0)) (by (with_reducible repeat (first | refine blk_drewN ?_ _ | refine blk_drew ?_ | refine blk_alloc ?_ _)); exact BK119.out) hb); have n1_ := Aside0.mk (below_step (by repeat (first | (with_reducible first | exact HB.out | apply below_alloc | apply pw_below_drewN | apply below_drew1 | refine below_set ?_ GE119.out) | exact HB.out)) hb); clear BK119; clear HB; have BK119 := n0_; have HB := n1_; clear n0_ n1_))
            go_ret
            exact ⟨ew_, by repeat (first | (with_reducible first | exact HB.out | apply below_alloc | apply pw_below_drewN | apply below_drew1 | refine below_set ?_ GE119.out) | exact HB.out)⟩
        · replace c23 := Bool.eq_false_iff.mpr c23; subst c23; have H1 : (some 1) = some r := by rw [if_neg (show ¬ (false = true) by decide)] at H; exact H
          clear H; have H := H1; clear H1; obtain rfl := Option.some.inj H; have hcz43_0 : wc.cell? ⟨gb119, 0, none⟩ = some (.int .i64 a0_0) := (blk_cell BK119.out 0).trans rfl; have hcz43_1 : wc.cell? ⟨gb119, 1, none⟩ = some (.int .i64 a0_1) := (blk_cell BK119.out 1).trans rfl; have hcz43_2 : wc.cell? ⟨gb119, 2, none⟩ = some (.int .i64 a0_2) := (blk_cell BK119.out 2).trans rfl; have hcz43_3 : wc.cell? ⟨gb119, 3, none⟩ = some (.int .i64 a0_3) := (blk_cell BK119.out 3).trans rfl; have hcz43_4 : wc.cell? ⟨gb119, 4, none⟩ = some (.string a0_4) := (blk_cell BK119.out 4).trans rfl; have hcz43_5 : wc.cell? ⟨gb119, 5, none⟩ = some (.int .i64 a0_5) := (blk_cell BK119.out 5).trans rfl; have hcz43_6 : wc.cell? ⟨gb119, 6, none⟩ = some (.int .i64 a0_6) := (blk_cell BK119.out 6).trans rfl; have hcz43_7 : wc.cell? ⟨gb119, 7, none⟩ = some (.int .i64 a0_7) := (blk_cell BK119.out 7).trans rfl; have hcz43_8 : wc.cell? ⟨gb119, 8, none⟩ = some (.int .i64 a0_8) := (blk_cell BK119.out 8).trans rfl; have hcz43_9 : wc.cell? ⟨gb119, 9, none⟩ = some (.int .i64 a0_9) := (blk_cell BK119.out 9).trans rfl; have hcz43_10 : wc.cell? ⟨gb119, 10, none⟩ = some (.int .i64 a0_10) := (blk_cell BK119.out 10).trans rfl; have hcz43_11 : wc.cell? ⟨gb119, 11, none⟩ = some (.int .i64 a0_11) := (blk_cell BK119.out 11).trans rfl; have hcz43_12 : wc.cell? ⟨gb119, 12, none⟩ = some (.string a0_12) := (blk_cell BK119.out 12).trans rfl; have hcz43_13 : wc.cell? ⟨gb119, 13, none⟩ = some (.string a0_13) := (blk_cell BK119.out 13).trans rfl; have hcz43_14 : wc.cell? ⟨gb119, 14, none⟩ = some (.int .i64 a0_14) := (blk_cell BK119.out 14).trans rfl; have hcz43_15 : wc.cell? ⟨gb119, 15, none⟩ = some (.slice A0_15 l0_15.length c0_15) := (blk_cell BK119.out 15).trans rfl; have hfz43_0 := blk_frozen BK119.out 0; have hfz43_1 := blk_frozen BK119.out 1; have hfz43_2 := blk_frozen BK119.out 2; have hfz43_3 := blk_frozen BK119.out 3; have hfz43_4 := blk_frozen BK119.out 4; have hfz43_5 := blk_frozen BK119.out 5; have hfz43_6 := blk_frozen BK119.out 6; have hfz43_7 := blk_frozen BK119.out 7; have hfz43_8 := blk_frozen BK119.out 8; have hfz43_9 := blk_frozen BK119.out 9; have hfz43_10 := blk_frozen BK119.out 10; have hfz43_11 := blk_frozen BK119.out 11; have hfz43_12 := blk_frozen BK119.out 12; have hfz43_13 := blk_frozen BK119.out 13; have hfz43_14 := blk_frozen BK119.out 14; have hfz43_15 := blk_frozen BK119.out 15; go_wp2; go_ret
          exact ⟨ew_, by repeat (first | (with_reducible first | exact HB.out | apply below_alloc | apply pw_below_drewN | apply below_drew1 | refine below_set ?_ GE119.out) | exact HB.out)⟩
      · rw [if_neg c22] at H; have c22b0 : (a0_0 == 1) = false := beq_eq_false_iff_ne.mpr c22; have c22b1 : (a0_0 != 1) = true := bne_iff_ne.mpr c22; have HC44 := Aside0.mk H; clear H; have hcz45_0 : wc.cell? ⟨gb119, 0, none⟩ = some (.int .i64 a0_0) := (blk_cell BK119.out 0).trans rfl; have hcz45_1 : wc.cell? ⟨gb119, 1, none⟩ = some (.int .i64 a0_1) := (blk_cell BK119.out 1).trans rfl; have hcz45_2 : wc.cell? ⟨gb119, 2, none⟩ = some (.int .i64 a0_2) := (blk_cell BK119.out 2).trans rfl; have hcz45_3 : wc.cell? ⟨gb119, 3, none⟩ = some (.int .i64 a0_3) := (blk_cell BK119.out 3).trans rfl; have hcz45_4 : wc.cell? ⟨gb119, 4, none⟩ = some (.string a0_4) := (blk_cell BK119.out 4).trans rfl; have hcz45_5 : wc.cell? ⟨gb119, 5, none⟩ = some (.int .i64 a0_5) := (blk_cell BK119.out 5).trans rfl; have hcz45_6 : wc.cell? ⟨gb119, 6, none⟩ = some (.int .i64 a0_6) := (blk_cell BK119.out 6).trans rfl; have hcz45_7 : wc.cell? ⟨gb119, 7, none⟩ = some (.int .i64 a0_7) := (blk_cell BK119.out 7).trans rfl; have hcz45_8 : wc.cell? ⟨gb119, 8, none⟩ = some (.int .i64 a0_8) := (blk_cell BK119.out 8).trans rfl; have hcz45_9 : wc.cell? ⟨gb119, 9, none⟩ = some (.int .i64 a0_9) := (blk_cell BK119.out 9).trans rfl; have hcz45_10 : wc.cell? ⟨gb119, 10, none⟩ = some (.int .i64 a0_10) := (blk_cell BK119.out 10).trans rfl; have hcz45_11 : wc.cell? ⟨gb119, 11, none⟩ = some (.int .i64 a0_11) := (blk_cell BK119.out 11).trans rfl; have hcz45_12 : wc.cell? ⟨gb119, 12, none⟩ = some (.string a0_12) := (blk_cell BK119.out 12).trans rfl; have hcz45_13 : wc.cell? ⟨gb119, 13, none⟩ = some (.string a0_13) := (blk_cell BK119.out 13).trans rfl; have hcz45_14 : wc.cell? ⟨gb119, 14, none⟩ = some (.int .i64 a0_14) := (blk_cell BK119.out 14).trans rfl; have hcz45_15 : wc.cell? ⟨gb119, 15, none⟩ = some (.slice A0_15 l0_15.length c0_15) := (blk_cell BK119.out 15).trans rfl; have hfz45_0 := blk_frozen BK119.out 0; have hfz45_1 := blk_frozen BK119.out 1; have hfz45_2 := blk_frozen BK119.out 2; have hfz45_3 := blk_frozen BK119.out 3; have hfz45_4 := blk_frozen BK119.out 4; have hfz45_5 := blk_frozen BK119.out 5; have hfz45_6 := blk_frozen BK119.out 6; have hfz45_7 := blk_frozen BK119.out 7; have hfz45_8 := blk_frozen BK119.out 8; have hfz45_9 := blk_frozen BK119.out 9; have hfz45_10 := blk_frozen BK119.out 10; have hfz45_11 := blk_frozen BK119.out 11; have hfz45_12 := blk_frozen BK119.out 12; have hfz45_13 := blk_frozen BK119.out 13; have hfz45_14 := blk_frozen BK119.out 14; have hfz45_15 := blk_frozen BK119.out 15; go_upto_if 57 with (fail)
        go_cut [57] (fun v57 wc => ∃ (kq : Nat) (x57_43 : Bool), v57 = .bool x57_43 ∧ Aside0 (wire_Check.j1 kq x3_1 a0_0 x57_43 a0_0 a0_1 a0_2 a0_3 a0_4 a0_5 a0_6 a0_7 a0_8 a0_9 a0_10 a0_11 a0_12 a0_13 a0_14 l0_15 = some r) ∧ Aside0 (kq ≤ kj1) ∧ Aside0 (wc.heap[gb119]? = some (.cells #[.int .i64 a0_0, .int .i64 a0_1, .int .i64 a0_2, .int .i64 a0_3, .string a0_4, .int .i64 a0_5, .int .i64 a0_6, .int .i64 a0_7, .int .i64 a0_8, .int .i64 a0_9, .int .i64 a0_10, .int .i64 a0_11, .string a0_12, .string a0_13, .int .i64 a0_14, (.slice A0_15 l0_15.length c0_15)] 31 (0, 0))) ∧ Aside0 (Below w.heap.size w wc))
        case first =>
          have H := HC44.out; clear HC44; by_cases c46 : a0_0 = 2
          · rw [if_pos c46] at H; have c46b0 : (a0_0 == 2) = true := beq_iff_eq.mpr c46; have c46b1 : (a0_0 != 2) = false := bne_eq_false_iff_eq.mpr c46; clear c46
            (first | rw [c46b0] | (simp only [i64_w, i32_w]; rw [c46b0]) | skip)
            have H' := Aside0.mk H; clear H; go_wp2; go_meet
            case rel => exact ⟨_, ((a0_0 == 2)), rz_, H', ⟨by have := HJ1.out; first | omega | exact Nat.le_refl _⟩, ⟨by (with_reducible repeat (first | refine blk_drewN ?_ _ | refine blk_drew ?_ | refine blk_alloc ?_ _)); exact BK119.out⟩, ⟨by repeat (first | (with_reducible first | exact HB.out | apply below_alloc | apply pw_below_drewN | apply below_drew1 | refine below_set ?_ GE119.out) | exact HB.out)⟩⟩
          · rw [if_neg c46] at H; have c46b0 : (a0_0 == 2) = false := beq_eq_false_iff_ne.mpr c46; have c46b1 : (a0_0 != 2) = true := bne_iff_ne.mpr c46
            (first | rw [c46b0] | (simp only [i64_w, i32_w]; rw [c46b0]) | skip)
            have H' := Aside0.mk H; clear H; go_wp2; go_meet
            case rel => exact ⟨_, ((a0_0 == 3)), rz_, H', ⟨by have := HJ1.out; first | omega | exact Nat.le_refl _⟩, ⟨by (with_reducible repeat (first | refine blk_drewN ?_ _ | refine blk_drew ?_ | refine blk_alloc ?_ _)); exact BK119.out⟩, ⟨by repeat (first | (with_reducible first | exact HB.out | apply below_alloc | apply pw_below_drewN | apply below_drew1 | refine below_set ?_ GE119.out) | exact HB.out)⟩⟩
        case rest =>
          clear HC44; obtain ⟨kq, x57_43, rfl, HA, HJ43, BK119, HB⟩ := hcut; cases kq with
          | zero => exact absurd HA.out (by simp [wire_Check.j1])
          | succ kj43 =>
            have H := HA.out; clear HA; simp only [wire_Check.j1] at H; by_cases c47 : x57_43 = true
            · subst c47; have H1 : (if x3_1 = true then (if (a0_5 == 0 && ((a0_6 == 0 && (a0_7 == 0)) && ((a0_8 == 0 && (a0_9 == 0)) && ((a0_10 == 0 && (a0_11 == 0)) && (a0_12.toList == ([] : List UInt8) && (a0_13.toList == ([] : List UInt8))))))) = true then ((wire_member.f a0_14).bind fun t126 => (if t126 = true then ((wire_wraps.f kj43 l0_15).bind fun t127 => (if t127 = true then (some 0) else (some 1))) else (some 1))) else (some 1)) else (some 1)) = some r := by rw [if_pos rfl] at H; exact H
              clear H; have H := H1; clear H1; by_cases c48 : x3_1 = true
              · subst c48; have H1 : (if (a0_5 == 0 && ((a0_6 == 0 && (a0_7 == 0)) && ((a0_8 == 0 && (a0_9 == 0)) && ((a0_10 == 0 && (a0_11 == 0)) && (a0_12.toList == ([] : List UInt8) && (a0_13.toList == ([] : List UInt8))))))) = true then ((wire_member.f a0_14).bind fun t126 => (if t126 = true then ((wire_wraps.f kj43 l0_15).bind fun t127 => (if t127 = true then (some 0) else (some 1))) else (some 1))) else (some 1)) = some r := by rw [if_pos rfl] at H; exact H
                clear H; have H := H1; clear H1; by_cases c49 : (a0_5 == 0 && ((a0_6 == 0 && (a0_7 == 0)) && ((a0_8 == 0 && (a0_9 == 0)) && ((a0_10 == 0 && (a0_11 == 0)) && (a0_12.toList == ([] : List UInt8) && (a0_13.toList == ([] : List UInt8))))))) = true
                · rw [if_pos c49] at H; have c49b0 : (a0_5 == 0 && ((a0_6 == 0 && (a0_7 == 0)) && ((a0_8 == 0 && (a0_9 == 0)) && ((a0_10 == 0 && (a0_11 == 0)) && (a0_12.toList == ([] : List UInt8) && (a0_13.toList == ([] : List UInt8))))))) = true := c49; have c49e0 : (a0_5 == 0 && ((a0_6 == 0 && (a0_7 == 0)) && ((a0_8 == 0 && (a0_9 == 0)) && ((a0_10 == 0 && (a0_11 == 0)) && (a0_12.toList.isEmpty && (a0_13.toList.isEmpty)))))) = true := by simpa only [show ∀ l_ : List UInt8, (l_ == ([] : List UInt8)) = l_.isEmpty from fun l_ => by cases l_ <;> rfl] using c49b0
                  (try (have c49b1 : decide (a0_5 = 0 && ((a0_6 == 0 && (a0_7 == 0)) && ((a0_8 == 0 && (a0_9 == 0)) && ((a0_10 == 0 && (a0_11 == 0)) && (a0_12.toList == ([] : List UInt8) && (a0_13.toList == ([] : List UInt8))))))) = true := by simpa using c49))
                  (try (have c49b2 : (a0_5 == 0 && ((a0_6 == 0 && (a0_7 == 0)) && ((a0_8 == 0 && (a0_9 == 0)) && ((a0_10 == 0 && (a0_11 == 0)) && (a0_12.toList == ([] : List UInt8) && (a0_13.toList == ([] : List UInt8))))))) = true := by simpa using c49))
                  clear c49; replace H := Option.bind_eq_some_iff.mp H; obtain ⟨t126, A500, H⟩ := H; have A50 := Aside0.mk A500; clear A500; by_cases c51 : t126 = true
                  · subst c51; have H1 : ((wire_wraps.f kj43 l0_15).bind fun t127 => (if t127 = true then (some 0) else (some 1))) = some r := by rw [if_pos rfl] at H; exact H
                    clear H; have H := H1; clear H1; replace H := Option.bind_eq_some_iff.mp H; obtain ⟨t127, A520, H⟩ := H; have A52 := Aside0.mk A520; clear A520; by_cases c53 : t127 = true
                    · subst c53; have H1 : (some 0) = some r := by rw [if_pos rfl] at H; exact H
                      clear H; have H := H1; clear H1; obtain rfl := Option.some.inj H; have hcz54_0 : wc.cell? ⟨gb119, 0, none⟩ = some (.int .i64 a0_0) := (blk_cell BK119.out 0).trans rfl; have hcz54_1 : wc.cell? ⟨gb119, 1, none⟩ = some (.int .i64 a0_1) := (blk_cell BK119.out 1).trans rfl; have hcz54_2 : wc.cell? ⟨gb119, 2, none⟩ = some (.int .i64 a0_2) := (blk_cell BK119.out 2).trans rfl; have hcz54_3 : wc.cell? ⟨gb119, 3, none⟩ = some (.int .i64 a0_3) := (blk_cell BK119.out 3).trans rfl; have hcz54_4 : wc.cell? ⟨gb119, 4, none⟩ = some (.string a0_4) := (blk_cell BK119.out 4).trans rfl; have hcz54_5 : wc.cell? ⟨gb119, 5, none⟩ = some (.int .i64 a0_5) := (blk_cell BK119.out 5).trans rfl; have hcz54_6 : wc.cell? ⟨gb119, 6, none⟩ = some (.int .i64 a0_6) := (blk_cell BK119.out 6).trans rfl; have hcz54_7 : wc.cell? ⟨gb119, 7, none⟩ = some (.int .i64 a0_7) := (blk_cell BK119.out 7).trans rfl; have hcz54_8 : wc.cell? ⟨gb119, 8, none⟩ = some (.int .i64 a0_8) := (blk_cell BK119.out 8).trans rfl; have hcz54_9 : wc.cell? ⟨gb119, 9, none⟩ = some (.int .i64 a0_9) := (blk_cell BK119.out 9).trans rfl; have hcz54_10 : wc.cell? ⟨gb119, 10, none⟩ = some (.int .i64 a0_10) := (blk_cell BK119.out 10).trans rfl; have hcz54_11 : wc.cell? ⟨gb119, 11, none⟩ = some (.int .i64 a0_11) := (blk_cell BK119.out 11).trans rfl; have hcz54_12 : wc.cell? ⟨gb119, 12, none⟩ = some (.string a0_12) := (blk_cell BK119.out 12).trans rfl; have hcz54_13 : wc.cell? ⟨gb119, 13, none⟩ = some (.string a0_13) := (blk_cell BK119.out 13).trans rfl; have hcz54_14 : wc.cell? ⟨gb119, 14, none⟩ = some (.int .i64 a0_14) := (blk_cell BK119.out 14).trans rfl; have hcz54_15 : wc.cell? ⟨gb119, 15, none⟩ = some (.slice A0_15 l0_15.length c0_15) := (blk_cell BK119.out 15).trans rfl; have hfz54_0 := blk_frozen BK119.out 0; have hfz54_1 := blk_frozen BK119.out 1; have hfz54_2 := blk_frozen BK119.out 2; have hfz54_3 := blk_frozen BK119.out 3; have hfz54_4 := blk_frozen BK119.out 4; have hfz54_5 := blk_frozen BK119.out 5; have hfz54_6 := blk_frozen BK119.out 6; have hfz54_7 := blk_frozen BK119.out 7; have hfz54_8 := blk_frozen BK119.out 8; have hfz54_9 := blk_frozen BK119.out 9; have hfz54_10 := blk_frozen BK119.out 10; have hfz54_11 := blk_frozen BK119.out 11; have hfz54_12 := blk_frozen BK119.out 12; have hfz54_13 := blk_frozen BK119.out 13; have hfz54_14 := blk_frozen BK119.out 14; have hfz54_15 := blk_frozen BK119.out 15; go_wp2_with (first | (go_at_call 74; (with_reducible refine (wire_member.calls a0_14 true _ A50.out).mono ?_); rintro e w' ⟨rfl, ⟨nd, rfl⟩⟩) | (go_at_call 77; (with_reducible refine (wire_wraps.calls kj43 _ _ l0_15 true _ ?side1 ?side2 A52.out).mono ?_); (case side1 => repeat (first | exact (Kd.C_below HR0_15.out (by repeat (first | (with_reducible first | exact HB.out | apply below_alloc | apply pw_below_drewN | apply below_drew1 | refine below_set ?_ GE119.out) | exact HB.out))) | (with_reducible refine Kd.C_alloc ?_ _) | (with_reducible refine Kd.C_drewN ?_ _) | (with_reducible refine Kd.C_drew ?_))); (case side2 => exact HC0_15.out); rintro e w55 ⟨rfl, hb⟩; have n0_ := Aside0.mk (blk_below (g := gb119) (o := .cells #[.int .i64 a0_0, .int .i64 a0_1, .int .i64 a0_2, .int .i64 a0_3, .string a0_4, .int .i64 a0_5, .int .i64 a0_6, .int .i64 a0_7, .int .i64 a0_8, .int .i64 a0_9, .int .i64 a0_10, .int .i64 a0_11, .string a0_12, .string a0_13, .int .i64 a0_14, .slice A0_15 l0_15.length c0_15] 31 (0, 0)) (by (with_reducible repeat (first | refine blk_drewN ?_ _ | refine blk_drew ?_ | refine blk_alloc ?_ _)); exact BK119.out) hb); have n1_ := Aside0.mk (below_step (by repeat (first | (with_reducible first | exact HB.out | apply below_alloc | apply pw_below_drewN | apply below_drew1 | refine below_set ?_ GE119.out) | exact HB.out)) hb); clear BK119; clear HB; have BK119 := n0_; have HB := n1_; clear n0_ n1_))
                      go_ret
                      exact ⟨ew_, by repeat (first | (with_reducible first | exact HB.out | apply below_alloc | apply pw_below_drewN | apply below_drew1 | refine below_set ?_ GE119.out) | exact HB.out)⟩
                    · replace c53 := Bool.eq_false_iff.mpr c53; subst c53; have H1 : (some 1) = some r := by rw [if_neg (show ¬ (false = true) by decide)] at H; exact H
                      clear H; have H := H1; clear H1; obtain rfl := Option.some.inj H; have hcz56_0 : wc.cell? ⟨gb119, 0, none⟩ = some (.int .i64 a0_0) := (blk_cell BK119.out 0).trans rfl; have hcz56_1 : wc.cell? ⟨gb119, 1, none⟩ = some (.int .i64 a0_1) := (blk_cell BK119.out 1).trans rfl; have hcz56_2 : wc.cell? ⟨gb119, 2, none⟩ = some (.int .i64 a0_2) := (blk_cell BK119.out 2).trans rfl; have hcz56_3 : wc.cell? ⟨gb119, 3, none⟩ = some (.int .i64 a0_3) := (blk_cell BK119.out 3).trans rfl; have hcz56_4 : wc.cell? ⟨gb119, 4, none⟩ = some (.string a0_4) := (blk_cell BK119.out 4).trans rfl; have hcz56_5 : wc.cell? ⟨gb119, 5, none⟩ = some (.int .i64 a0_5) := (blk_cell BK119.out 5).trans rfl; have hcz56_6 : wc.cell? ⟨gb119, 6, none⟩ = some (.int .i64 a0_6) := (blk_cell BK119.out 6).trans rfl; have hcz56_7 : wc.cell? ⟨gb119, 7, none⟩ = some (.int .i64 a0_7) := (blk_cell BK119.out 7).trans rfl; have hcz56_8 : wc.cell? ⟨gb119, 8, none⟩ = some (.int .i64 a0_8) := (blk_cell BK119.out 8).trans rfl; have hcz56_9 : wc.cell? ⟨gb119, 9, none⟩ = some (.int .i64 a0_9) := (blk_cell BK119.out 9).trans rfl; have hcz56_10 : wc.cell? ⟨gb119, 10, none⟩ = some (.int .i64 a0_10) := (blk_cell BK119.out 10).trans rfl; have hcz56_11 : wc.cell? ⟨gb119, 11, none⟩ = some (.int .i64 a0_11) := (blk_cell BK119.out 11).trans rfl; have hcz56_12 : wc.cell? ⟨gb119, 12, none⟩ = some (.string a0_12) := (blk_cell BK119.out 12).trans rfl; have hcz56_13 : wc.cell? ⟨gb119, 13, none⟩ = some (.string a0_13) := (blk_cell BK119.out 13).trans rfl; have hcz56_14 : wc.cell? ⟨gb119, 14, none⟩ = some (.int .i64 a0_14) := (blk_cell BK119.out 14).trans rfl; have hcz56_15 : wc.cell? ⟨gb119, 15, none⟩ = some (.slice A0_15 l0_15.length c0_15) := (blk_cell BK119.out 15).trans rfl; have hfz56_0 := blk_frozen BK119.out 0; have hfz56_1 := blk_frozen BK119.out 1; have hfz56_2 := blk_frozen BK119.out 2; have hfz56_3 := blk_frozen BK119.out 3; have hfz56_4 := blk_frozen BK119.out 4; have hfz56_5 := blk_frozen BK119.out 5; have hfz56_6 := blk_frozen BK119.out 6; have hfz56_7 := blk_frozen BK119.out 7; have hfz56_8 := blk_frozen BK119.out 8; have hfz56_9 := blk_frozen BK119.out 9; have hfz56_10 := blk_frozen BK119.out 10; have hfz56_11 := blk_frozen BK119.out 11; have hfz56_12 := blk_frozen BK119.out 12; have hfz56_13 := blk_frozen BK119.out 13; have hfz56_14 := blk_frozen BK119.out 14; have hfz56_15 := blk_frozen BK119.out 15; go_wp2_with (first | (go_at_call 74; (with_reducible refine (wire_member.calls a0_14 true _ A50.out).mono ?_); rintro e w' ⟨rfl, ⟨nd, rfl⟩⟩) | (go_at_call 77; (with_reducible refine (wire_wraps.calls kj43 _ _ l0_15 false _ ?side1 ?side2 A52.out).mono ?_); (case side1 => repeat (first | exact (Kd.C_below HR0_15.out (by repeat (first | (with_reducible first | exact HB.out | apply below_alloc | apply pw_below_drewN | apply below_drew1 | refine below_set ?_ GE119.out) | exact HB.out))) | (with_reducible refine Kd.C_alloc ?_ _) | (with_reducible refine Kd.C_drewN ?_ _) | (with_reducible refine Kd.C_drew ?_))); (case side2 => exact HC0_15.out); rintro e w57 ⟨rfl, hb⟩; have n0_ := Aside0.mk (blk_below (g := gb119) (o := .cells #[.int .i64 a0_0, .int .i64 a0_1, .int .i64 a0_2, .int .i64 a0_3, .string a0_4, .int .i64 a0_5, .int .i64 a0_6, .int .i64 a0_7, .int .i64 a0_8, .int .i64 a0_9, .int .i64 a0_10, .int .i64 a0_11, .string a0_12, .string a0_13, .int .i64 a0_14, .slice A0_15 l0_15.length c0_15] 31 (0, 0)) (by (with_reducible repeat (first | refine blk_drewN ?_ _ | refine blk_drew ?_ | refine blk_alloc ?_ _)); exact BK119.out) hb); have n1_ := Aside0.mk (below_step (by repeat (first | (with_reducible first | exact HB.out | apply below_alloc | apply pw_below_drewN | apply below_drew1 | refine below_set ?_ GE119.out) | exact HB.out)) hb); clear BK119; clear HB; have BK119 := n0_; have HB := n1_; clear n0_ n1_))
                      go_ret
                      exact ⟨ew_, by repeat (first | (with_reducible first | exact HB.out | apply below_alloc | apply pw_below_drewN | apply below_drew1 | refine below_set ?_ GE119.out) | exact HB.out)⟩
                  · replace c51 := Bool.eq_false_iff.mpr c51; subst c51; have H1 : (some 1) = some r := by rw [if_neg (show ¬ (false = true) by decide)] at H; exact H
                    clear H; have H := H1; clear H1; obtain rfl := Option.some.inj H; have hcz58_0 : wc.cell? ⟨gb119, 0, none⟩ = some (.int .i64 a0_0) := (blk_cell BK119.out 0).trans rfl; have hcz58_1 : wc.cell? ⟨gb119, 1, none⟩ = some (.int .i64 a0_1) := (blk_cell BK119.out 1).trans rfl; have hcz58_2 : wc.cell? ⟨gb119, 2, none⟩ = some (.int .i64 a0_2) := (blk_cell BK119.out 2).trans rfl; have hcz58_3 : wc.cell? ⟨gb119, 3, none⟩ = some (.int .i64 a0_3) := (blk_cell BK119.out 3).trans rfl; have hcz58_4 : wc.cell? ⟨gb119, 4, none⟩ = some (.string a0_4) := (blk_cell BK119.out 4).trans rfl; have hcz58_5 : wc.cell? ⟨gb119, 5, none⟩ = some (.int .i64 a0_5) := (blk_cell BK119.out 5).trans rfl; have hcz58_6 : wc.cell? ⟨gb119, 6, none⟩ = some (.int .i64 a0_6) := (blk_cell BK119.out 6).trans rfl; have hcz58_7 : wc.cell? ⟨gb119, 7, none⟩ = some (.int .i64 a0_7) := (blk_cell BK119.out 7).trans rfl; have hcz58_8 : wc.cell? ⟨gb119, 8, none⟩ = some (.int .i64 a0_8) := (blk_cell BK119.out 8).trans rfl; have hcz58_9 : wc.cell? ⟨gb119, 9, none⟩ = some (.int .i64 a0_9) := (blk_cell BK119.out 9).trans rfl; have hcz58_10 : wc.cell? ⟨gb119, 10, none⟩ = some (.int .i64 a0_10) := (blk_cell BK119.out 10).trans rfl; have hcz58_11 : wc.cell? ⟨gb119, 11, none⟩ = some (.int .i64 a0_11) := (blk_cell BK119.out 11).trans rfl; have hcz58_12 : wc.cell? ⟨gb119, 12, none⟩ = some (.string a0_12) := (blk_cell BK119.out 12).trans rfl; have hcz58_13 : wc.cell? ⟨gb119, 13, none⟩ = some (.string a0_13) := (blk_cell BK119.out 13).trans rfl; have hcz58_14 : wc.cell? ⟨gb119, 14, none⟩ = some (.int .i64 a0_14) := (blk_cell BK119.out 14).trans rfl; have hcz58_15 : wc.cell? ⟨gb119, 15, none⟩ = some (.slice A0_15 l0_15.length c0_15) := (blk_cell BK119.out 15).trans rfl; have hfz58_0 := blk_frozen BK119.out 0; have hfz58_1 := blk_frozen BK119.out 1; have hfz58_2 := blk_frozen BK119.out 2; have hfz58_3 := blk_frozen BK119.out 3; have hfz58_4 := blk_frozen BK119.out 4; have hfz58_5 := blk_frozen BK119.out 5; have hfz58_6 := blk_frozen BK119.out 6; have hfz58_7 := blk_frozen BK119.out 7; have hfz58_8 := blk_frozen BK119.out 8; have hfz58_9 := blk_frozen BK119.out 9; have hfz58_10 := blk_frozen BK119.out 10; have hfz58_11 := blk_frozen BK119.out 11; have hfz58_12 := blk_frozen BK119.out 12; have hfz58_13 := blk_frozen BK119.out 13; have hfz58_14 := blk_frozen BK119.out 14; have hfz58_15 := blk_frozen BK119.out 15; go_wp2_with (first | (go_at_call 74; (with_reducible refine (wire_member.calls a0_14 false _ A50.out).mono ?_); rintro e w' ⟨rfl, ⟨nd, rfl⟩⟩))
                    go_ret
                    exact ⟨ew_, by repeat (first | (with_reducible first | exact HB.out | apply below_alloc | apply pw_below_drewN | apply below_drew1 | refine below_set ?_ GE119.out) | exact HB.out)⟩
                · rw [if_neg c49] at H; have c49b0 : (a0_5 == 0 && ((a0_6 == 0 && (a0_7 == 0)) && ((a0_8 == 0 && (a0_9 == 0)) && ((a0_10 == 0 && (a0_11 == 0)) && (a0_12.toList == ([] : List UInt8) && (a0_13.toList == ([] : List UInt8))))))) = false := by simpa using c49
                  have c49e0 : (a0_5 == 0 && ((a0_6 == 0 && (a0_7 == 0)) && ((a0_8 == 0 && (a0_9 == 0)) && ((a0_10 == 0 && (a0_11 == 0)) && (a0_12.toList.isEmpty && (a0_13.toList.isEmpty)))))) = false := by simpa only [show ∀ l_ : List UInt8, (l_ == ([] : List UInt8)) = l_.isEmpty from fun l_ => by cases l_ <;> rfl] using c49b0
                  (try (have c49b1 : decide (a0_5 = 0 && ((a0_6 == 0 && (a0_7 == 0)) && ((a0_8 == 0 && (a0_9 == 0)) && ((a0_10 == 0 && (a0_11 == 0)) && (a0_12.toList == ([] : List UInt8) && (a0_13.toList == ([] : List UInt8))))))) = false := by simpa using c49))
                  (try (have c49b2 : (a0_5 == 0 && ((a0_6 == 0 && (a0_7 == 0)) && ((a0_8 == 0 && (a0_9 == 0)) && ((a0_10 == 0 && (a0_11 == 0)) && (a0_12.toList == ([] : List UInt8) && (a0_13.toList == ([] : List UInt8))))))) = false := by simpa using c49))
                  (try (have c49b3 : ¬ (a0_5 = 0 && ((a0_6 == 0 && (a0_7 == 0)) && ((a0_8 == 0 && (a0_9 == 0)) && ((a0_10 == 0 && (a0_11 == 0)) && (a0_12.toList == ([] : List UInt8) && (a0_13.toList == ([] : List UInt8))))))) := by simpa using c49))
                  clear c49; obtain rfl := Option.some.inj H; have hcz59_0 : wc.cell? ⟨gb119, 0, none⟩ = some (.int .i64 a0_0) := (blk_cell BK119.out 0).trans rfl; have hcz59_1 : wc.cell? ⟨gb119, 1, none⟩ = some (.int .i64 a0_1) := (blk_cell BK119.out 1).trans rfl; have hcz59_2 : wc.cell? ⟨gb119, 2, none⟩ = some (.int .i64 a0_2) := (blk_cell BK119.out 2).trans rfl; have hcz59_3 : wc.cell? ⟨gb119, 3, none⟩ = some (.int .i64 a0_3) := (blk_cell BK119.out 3).trans rfl; have hcz59_4 : wc.cell? ⟨gb119, 4, none⟩ = some (.string a0_4) := (blk_cell BK119.out 4).trans rfl; have hcz59_5 : wc.cell? ⟨gb119, 5, none⟩ = some (.int .i64 a0_5) := (blk_cell BK119.out 5).trans rfl; have hcz59_6 : wc.cell? ⟨gb119, 6, none⟩ = some (.int .i64 a0_6) := (blk_cell BK119.out 6).trans rfl; have hcz59_7 : wc.cell? ⟨gb119, 7, none⟩ = some (.int .i64 a0_7) := (blk_cell BK119.out 7).trans rfl; have hcz59_8 : wc.cell? ⟨gb119, 8, none⟩ = some (.int .i64 a0_8) := (blk_cell BK119.out 8).trans rfl; have hcz59_9 : wc.cell? ⟨gb119, 9, none⟩ = some (.int .i64 a0_9) := (blk_cell BK119.out 9).trans rfl; have hcz59_10 : wc.cell? ⟨gb119, 10, none⟩ = some (.int .i64 a0_10) := (blk_cell BK119.out 10).trans rfl; have hcz59_11 : wc.cell? ⟨gb119, 11, none⟩ = some (.int .i64 a0_11) := (blk_cell BK119.out 11).trans rfl; have hcz59_12 : wc.cell? ⟨gb119, 12, none⟩ = some (.string a0_12) := (blk_cell BK119.out 12).trans rfl; have hcz59_13 : wc.cell? ⟨gb119, 13, none⟩ = some (.string a0_13) := (blk_cell BK119.out 13).trans rfl; have hcz59_14 : wc.cell? ⟨gb119, 14, none⟩ = some (.int .i64 a0_14) := (blk_cell BK119.out 14).trans rfl; have hcz59_15 : wc.cell? ⟨gb119, 15, none⟩ = some (.slice A0_15 l0_15.length c0_15) := (blk_cell BK119.out 15).trans rfl; have hfz59_0 := blk_frozen BK119.out 0; have hfz59_1 := blk_frozen BK119.out 1; have hfz59_2 := blk_frozen BK119.out 2; have hfz59_3 := blk_frozen BK119.out 3; have hfz59_4 := blk_frozen BK119.out 4; have hfz59_5 := blk_frozen BK119.out 5; have hfz59_6 := blk_frozen BK119.out 6; have hfz59_7 := blk_frozen BK119.out 7; have hfz59_8 := blk_frozen BK119.out 8; have hfz59_9 := blk_frozen BK119.out 9; have hfz59_10 := blk_frozen BK119.out 10; have hfz59_11 := blk_frozen BK119.out 11; have hfz59_12 := blk_frozen BK119.out 12; have hfz59_13 := blk_frozen BK119.out 13; have hfz59_14 := blk_frozen BK119.out 14; have hfz59_15 := blk_frozen BK119.out 15; go_wp2; go_ret
                  exact ⟨ew_, by repeat (first | (with_reducible first | exact HB.out | apply below_alloc | apply pw_below_drewN | apply below_drew1 | refine below_set ?_ GE119.out) | exact HB.out)⟩
              · replace c48 := Bool.eq_false_iff.mpr c48; subst c48; have H1 : (some 1) = some r := by rw [if_neg (show ¬ (false = true) by decide)] at H; exact H
                clear H; have H := H1; clear H1; obtain rfl := Option.some.inj H; go_wp2; go_ret
                exact ⟨ew_, by repeat (first | (with_reducible first | exact HB.out | apply below_alloc | apply pw_below_drewN | apply below_drew1 | refine below_set ?_ GE119.out) | exact HB.out)⟩
            · replace c47 := Bool.eq_false_iff.mpr c47; subst c47; have H1 : (if a0_0 = 4 then (if x3_1 = true then (if (a0_5 == 0 && ((a0_6 == 0 && (a0_7 == 0)) && ((a0_8 == 0 && (a0_9 == 0)) && ((a0_10 == 0 && (a0_11 == 0)) && (a0_12.toList == ([] : List UInt8) && (a0_13.toList == ([] : List UInt8))))))) = true then (if a0_14 = 0 then ((wire_wraps.f kj43 l0_15).bind fun t128 => (if t128 = true then (some 0) else (some 1))) else (some 1)) else (some 1)) else (some 1)) else (some 1)) = some r := by rw [if_neg (show ¬ (false = true) by decide)] at H; exact H
              clear H; have H := H1; clear H1; by_cases c60 : a0_0 = 4
              · rw [if_pos c60] at H; have c60b0 : (a0_0 == 4) = true := beq_iff_eq.mpr c60; have c60b1 : (a0_0 != 4) = false := bne_eq_false_iff_eq.mpr c60; clear c60; by_cases c61 : x3_1 = true
                · subst c61; have H1 : (if (a0_5 == 0 && ((a0_6 == 0 && (a0_7 == 0)) && ((a0_8 == 0 && (a0_9 == 0)) && ((a0_10 == 0 && (a0_11 == 0)) && (a0_12.toList == ([] : List UInt8) && (a0_13.toList == ([] : List UInt8))))))) = true then (if a0_14 = 0 then ((wire_wraps.f kj43 l0_15).bind fun t128 => (if t128 = true then (some 0) else (some 1))) else (some 1)) else (some 1)) = some r := by rw [if_pos rfl] at H; exact H
                  clear H; have H := H1; clear H1; by_cases c62 : (a0_5 == 0 && ((a0_6 == 0 && (a0_7 == 0)) && ((a0_8 == 0 && (a0_9 == 0)) && ((a0_10 == 0 && (a0_11 == 0)) && (a0_12.toList == ([] : List UInt8) && (a0_13.toList == ([] : List UInt8))))))) = true
                  · rw [if_pos c62] at H; have c62b0 : (a0_5 == 0 && ((a0_6 == 0 && (a0_7 == 0)) && ((a0_8 == 0 && (a0_9 == 0)) && ((a0_10 == 0 && (a0_11 == 0)) && (a0_12.toList == ([] : List UInt8) && (a0_13.toList == ([] : List UInt8))))))) = true := c62; have c62e0 : (a0_5 == 0 && ((a0_6 == 0 && (a0_7 == 0)) && ((a0_8 == 0 && (a0_9 == 0)) && ((a0_10 == 0 && (a0_11 == 0)) && (a0_12.toList.isEmpty && (a0_13.toList.isEmpty)))))) = true := by simpa only [show ∀ l_ : List UInt8, (l_ == ([] : List UInt8)) = l_.isEmpty from fun l_ => by cases l_ <;> rfl] using c62b0
                    (try (have c62b1 : decide (a0_5 = 0 && ((a0_6 == 0 && (a0_7 == 0)) && ((a0_8 == 0 && (a0_9 == 0)) && ((a0_10 == 0 && (a0_11 == 0)) && (a0_12.toList == ([] : List UInt8) && (a0_13.toList == ([] : List UInt8))))))) = true := by simpa using c62))
                    (try (have c62b2 : (a0_5 == 0 && ((a0_6 == 0 && (a0_7 == 0)) && ((a0_8 == 0 && (a0_9 == 0)) && ((a0_10 == 0 && (a0_11 == 0)) && (a0_12.toList == ([] : List UInt8) && (a0_13.toList == ([] : List UInt8))))))) = true := by simpa using c62))
                    clear c62; by_cases c63 : a0_14 = 0
                    · rw [if_pos c63] at H; have c63b0 : (a0_14 == 0) = true := beq_iff_eq.mpr c63; have c63b1 : (a0_14 != 0) = false := bne_eq_false_iff_eq.mpr c63; clear c63; replace H := Option.bind_eq_some_iff.mp H; obtain ⟨t128, A640, H⟩ := H; have A64 := Aside0.mk A640; clear A640; by_cases c65 : t128 = true
                      · subst c65; have H1 : (some 0) = some r := by rw [if_pos rfl] at H; exact H
                        clear H; have H := H1; clear H1; obtain rfl := Option.some.inj H; have hcz66_0 : wc.cell? ⟨gb119, 0, none⟩ = some (.int .i64 a0_0) := (blk_cell BK119.out 0).trans rfl; have hcz66_1 : wc.cell? ⟨gb119, 1, none⟩ = some (.int .i64 a0_1) := (blk_cell BK119.out 1).trans rfl; have hcz66_2 : wc.cell? ⟨gb119, 2, none⟩ = some (.int .i64 a0_2) := (blk_cell BK119.out 2).trans rfl; have hcz66_3 : wc.cell? ⟨gb119, 3, none⟩ = some (.int .i64 a0_3) := (blk_cell BK119.out 3).trans rfl; have hcz66_4 : wc.cell? ⟨gb119, 4, none⟩ = some (.string a0_4) := (blk_cell BK119.out 4).trans rfl; have hcz66_5 : wc.cell? ⟨gb119, 5, none⟩ = some (.int .i64 a0_5) := (blk_cell BK119.out 5).trans rfl; have hcz66_6 : wc.cell? ⟨gb119, 6, none⟩ = some (.int .i64 a0_6) := (blk_cell BK119.out 6).trans rfl; have hcz66_7 : wc.cell? ⟨gb119, 7, none⟩ = some (.int .i64 a0_7) := (blk_cell BK119.out 7).trans rfl; have hcz66_8 : wc.cell? ⟨gb119, 8, none⟩ = some (.int .i64 a0_8) := (blk_cell BK119.out 8).trans rfl; have hcz66_9 : wc.cell? ⟨gb119, 9, none⟩ = some (.int .i64 a0_9) := (blk_cell BK119.out 9).trans rfl; have hcz66_10 : wc.cell? ⟨gb119, 10, none⟩ = some (.int .i64 a0_10) := (blk_cell BK119.out 10).trans rfl; have hcz66_11 : wc.cell? ⟨gb119, 11, none⟩ = some (.int .i64 a0_11) := (blk_cell BK119.out 11).trans rfl; have hcz66_12 : wc.cell? ⟨gb119, 12, none⟩ = some (.string a0_12) := (blk_cell BK119.out 12).trans rfl; have hcz66_13 : wc.cell? ⟨gb119, 13, none⟩ = some (.string a0_13) := (blk_cell BK119.out 13).trans rfl; have hcz66_14 : wc.cell? ⟨gb119, 14, none⟩ = some (.int .i64 a0_14) := (blk_cell BK119.out 14).trans rfl; have hcz66_15 : wc.cell? ⟨gb119, 15, none⟩ = some (.slice A0_15 l0_15.length c0_15) := (blk_cell BK119.out 15).trans rfl; have hfz66_0 := blk_frozen BK119.out 0; have hfz66_1 := blk_frozen BK119.out 1; have hfz66_2 := blk_frozen BK119.out 2; have hfz66_3 := blk_frozen BK119.out 3; have hfz66_4 := blk_frozen BK119.out 4; have hfz66_5 := blk_frozen BK119.out 5; have hfz66_6 := blk_frozen BK119.out 6; have hfz66_7 := blk_frozen BK119.out 7; have hfz66_8 := blk_frozen BK119.out 8; have hfz66_9 := blk_frozen BK119.out 9; have hfz66_10 := blk_frozen BK119.out 10; have hfz66_11 := blk_frozen BK119.out 11; have hfz66_12 := blk_frozen BK119.out 12; have hfz66_13 := blk_frozen BK119.out 13; have hfz66_14 := blk_frozen BK119.out 14; have hfz66_15 := blk_frozen BK119.out 15; go_wp2_with (first | (go_at_call 77; (with_reducible refine (wire_wraps.calls kj43 _ _ l0_15 true _ ?side1 ?side2 A64.out).mono ?_); (case side1 => exact ca_ (Kd.C_below HR0_15.out HB.out)); (case side2 => exact HC0_15.out); rintro e w67 ⟨rfl, hb⟩; have n0_ := Aside0.mk (blk_below (g := gb119) (o := .cells #[.int .i64 a0_0, .int .i64 a0_1, .int .i64 a0_2, .int .i64 a0_3, .string a0_4, .int .i64 a0_5, .int .i64 a0_6, .int .i64 a0_7, .int .i64 a0_8, .int .i64 a0_9, .int .i64 a0_10, .int .i64 a0_11, .string a0_12, .string a0_13, .int .i64 a0_14, .slice A0_15 l0_15.length c0_15] 31 (0, 0)) (by (with_reducible repeat (first | refine blk_drewN ?_ _ | refine blk_drew ?_ | refine blk_alloc ?_ _)); exact BK119.out) hb); have n1_ := Aside0.mk (below_step (by repeat (first | (with_reducible first | exact HB.out | apply below_alloc | apply pw_below_drewN | apply below_drew1 | refine below_set ?_ GE119.out) | exact HB.out)) hb); clear BK119; clear HB; have BK119 := n0_; have HB := n1_; clear n0_ n1_))
                        go_ret
                        exact ⟨ew_, by repeat (first | (with_reducible first | exact HB.out | apply below_alloc | apply pw_below_drewN | apply below_drew1 | refine below_set ?_ GE119.out) | exact HB.out)⟩
                      · replace c65 := Bool.eq_false_iff.mpr c65; subst c65; have H1 : (some 1) = some r := by rw [if_neg (show ¬ (false = true) by decide)] at H; exact H
                        clear H; have H := H1; clear H1; obtain rfl := Option.some.inj H; have hcz68_0 : wc.cell? ⟨gb119, 0, none⟩ = some (.int .i64 a0_0) := (blk_cell BK119.out 0).trans rfl; have hcz68_1 : wc.cell? ⟨gb119, 1, none⟩ = some (.int .i64 a0_1) := (blk_cell BK119.out 1).trans rfl; have hcz68_2 : wc.cell? ⟨gb119, 2, none⟩ = some (.int .i64 a0_2) := (blk_cell BK119.out 2).trans rfl; have hcz68_3 : wc.cell? ⟨gb119, 3, none⟩ = some (.int .i64 a0_3) := (blk_cell BK119.out 3).trans rfl; have hcz68_4 : wc.cell? ⟨gb119, 4, none⟩ = some (.string a0_4) := (blk_cell BK119.out 4).trans rfl; have hcz68_5 : wc.cell? ⟨gb119, 5, none⟩ = some (.int .i64 a0_5) := (blk_cell BK119.out 5).trans rfl; have hcz68_6 : wc.cell? ⟨gb119, 6, none⟩ = some (.int .i64 a0_6) := (blk_cell BK119.out 6).trans rfl; have hcz68_7 : wc.cell? ⟨gb119, 7, none⟩ = some (.int .i64 a0_7) := (blk_cell BK119.out 7).trans rfl; have hcz68_8 : wc.cell? ⟨gb119, 8, none⟩ = some (.int .i64 a0_8) := (blk_cell BK119.out 8).trans rfl; have hcz68_9 : wc.cell? ⟨gb119, 9, none⟩ = some (.int .i64 a0_9) := (blk_cell BK119.out 9).trans rfl; have hcz68_10 : wc.cell? ⟨gb119, 10, none⟩ = some (.int .i64 a0_10) := (blk_cell BK119.out 10).trans rfl; have hcz68_11 : wc.cell? ⟨gb119, 11, none⟩ = some (.int .i64 a0_11) := (blk_cell BK119.out 11).trans rfl; have hcz68_12 : wc.cell? ⟨gb119, 12, none⟩ = some (.string a0_12) := (blk_cell BK119.out 12).trans rfl; have hcz68_13 : wc.cell? ⟨gb119, 13, none⟩ = some (.string a0_13) := (blk_cell BK119.out 13).trans rfl; have hcz68_14 : wc.cell? ⟨gb119, 14, none⟩ = some (.int .i64 a0_14) := (blk_cell BK119.out 14).trans rfl; have hcz68_15 : wc.cell? ⟨gb119, 15, none⟩ = some (.slice A0_15 l0_15.length c0_15) := (blk_cell BK119.out 15).trans rfl; have hfz68_0 := blk_frozen BK119.out 0; have hfz68_1 := blk_frozen BK119.out 1; have hfz68_2 := blk_frozen BK119.out 2; have hfz68_3 := blk_frozen BK119.out 3; have hfz68_4 := blk_frozen BK119.out 4; have hfz68_5 := blk_frozen BK119.out 5; have hfz68_6 := blk_frozen BK119.out 6; have hfz68_7 := blk_frozen BK119.out 7; have hfz68_8 := blk_frozen BK119.out 8; have hfz68_9 := blk_frozen BK119.out 9; have hfz68_10 := blk_frozen BK119.out 10; have hfz68_11 := blk_frozen BK119.out 11; have hfz68_12 := blk_frozen BK119.out 12; have hfz68_13 := blk_frozen BK119.out 13; have hfz68_14 := blk_frozen BK119.out 14; have hfz68_15 := blk_frozen BK119.out 15; go_wp2_with (first | (go_at_call 77; (with_reducible refine (wire_wraps.calls kj43 _ _ l0_15 false _ ?side1 ?side2 A64.out).mono ?_); (case side1 => exact ca_ (Kd.C_below HR0_15.out HB.out)); (case side2 => exact HC0_15.out); rintro e w69 ⟨rfl, hb⟩; have n0_ := Aside0.mk (blk_below (g := gb119) (o := .cells #[.int .i64 a0_0, .int .i64 a0_1, .int .i64 a0_2, .int .i64 a0_3, .string a0_4, .int .i64 a0_5, .int .i64 a0_6, .int .i64 a0_7, .int .i64 a0_8, .int .i64 a0_9, .int .i64 a0_10, .int .i64 a0_11, .string a0_12, .string a0_13, .int .i64 a0_14, .slice A0_15 l0_15.length c0_15] 31 (0, 0)) (by (with_reducible repeat (first | refine blk_drewN ?_ _ | refine blk_drew ?_ | refine blk_alloc ?_ _)); exact BK119.out) hb); have n1_ := Aside0.mk (below_step (by repeat (first | (with_reducible first | exact HB.out | apply below_alloc | apply pw_below_drewN | apply below_drew1 | refine below_set ?_ GE119.out) | exact HB.out)) hb); clear BK119; clear HB; have BK119 := n0_; have HB := n1_; clear n0_ n1_))
                        go_ret
                        exact ⟨ew_, by repeat (first | (with_reducible first | exact HB.out | apply below_alloc | apply pw_below_drewN | apply below_drew1 | refine below_set ?_ GE119.out) | exact HB.out)⟩
                    · rw [if_neg c63] at H; have c63b0 : (a0_14 == 0) = false := beq_eq_false_iff_ne.mpr c63; have c63b1 : (a0_14 != 0) = true := bne_iff_ne.mpr c63; obtain rfl := Option.some.inj H; have hcz70_0 : wc.cell? ⟨gb119, 0, none⟩ = some (.int .i64 a0_0) := (blk_cell BK119.out 0).trans rfl; have hcz70_1 : wc.cell? ⟨gb119, 1, none⟩ = some (.int .i64 a0_1) := (blk_cell BK119.out 1).trans rfl; have hcz70_2 : wc.cell? ⟨gb119, 2, none⟩ = some (.int .i64 a0_2) := (blk_cell BK119.out 2).trans rfl; have hcz70_3 : wc.cell? ⟨gb119, 3, none⟩ = some (.int .i64 a0_3) := (blk_cell BK119.out 3).trans rfl; have hcz70_4 : wc.cell? ⟨gb119, 4, none⟩ = some (.string a0_4) := (blk_cell BK119.out 4).trans rfl; have hcz70_5 : wc.cell? ⟨gb119, 5, none⟩ = some (.int .i64 a0_5) := (blk_cell BK119.out 5).trans rfl; have hcz70_6 : wc.cell? ⟨gb119, 6, none⟩ = some (.int .i64 a0_6) := (blk_cell BK119.out 6).trans rfl; have hcz70_7 : wc.cell? ⟨gb119, 7, none⟩ = some (.int .i64 a0_7) := (blk_cell BK119.out 7).trans rfl; have hcz70_8 : wc.cell? ⟨gb119, 8, none⟩ = some (.int .i64 a0_8) := (blk_cell BK119.out 8).trans rfl; have hcz70_9 : wc.cell? ⟨gb119, 9, none⟩ = some (.int .i64 a0_9) := (blk_cell BK119.out 9).trans rfl; have hcz70_10 : wc.cell? ⟨gb119, 10, none⟩ = some (.int .i64 a0_10) := (blk_cell BK119.out 10).trans rfl; have hcz70_11 : wc.cell? ⟨gb119, 11, none⟩ = some (.int .i64 a0_11) := (blk_cell BK119.out 11).trans rfl; have hcz70_12 : wc.cell? ⟨gb119, 12, none⟩ = some (.string a0_12) := (blk_cell BK119.out 12).trans rfl; have hcz70_13 : wc.cell? ⟨gb119, 13, none⟩ = some (.string a0_13) := (blk_cell BK119.out 13).trans rfl; have hcz70_14 : wc.cell? ⟨gb119, 14, none⟩ = some (.int .i64 a0_14) := (blk_cell BK119.out 14).trans rfl; have hcz70_15 : wc.cell? ⟨gb119, 15, none⟩ = some (.slice A0_15 l0_15.length c0_15) := (blk_cell BK119.out 15).trans rfl; have hfz70_0 := blk_frozen BK119.out 0; have hfz70_1 := blk_frozen BK119.out 1; have hfz70_2 := blk_frozen BK119.out 2; have hfz70_3 := blk_frozen BK119.out 3; have hfz70_4 := blk_frozen BK119.out 4; have hfz70_5 := blk_frozen BK119.out 5; have hfz70_6 := blk_frozen BK119.out 6; have hfz70_7 := blk_frozen BK119.out 7; have hfz70_8 := blk_frozen BK119.out 8; have hfz70_9 := blk_frozen BK119.out 9; have hfz70_10 := blk_frozen BK119.out 10; have hfz70_11 := blk_frozen BK119.out 11; have hfz70_12 := blk_frozen BK119.out 12; have hfz70_13 := blk_frozen BK119.out 13; have hfz70_14 := blk_frozen BK119.out 14; have hfz70_15 := blk_frozen BK119.out 15; go_wp2; go_ret
                      exact ⟨ew_, by repeat (first | (with_reducible first | exact HB.out | apply below_alloc | apply pw_below_drewN | apply below_drew1 | refine below_set ?_ GE119.out) | exact HB.out)⟩
                  · rw [if_neg c62] at H; have c62b0 : (a0_5 == 0 && ((a0_6 == 0 && (a0_7 == 0)) && ((a0_8 == 0 && (a0_9 == 0)) && ((a0_10 == 0 && (a0_11 == 0)) && (a0_12.toList == ([] : List UInt8) && (a0_13.toList == ([] : List UInt8))))))) = false := by simpa using c62
                    have c62e0 : (a0_5 == 0 && ((a0_6 == 0 && (a0_7 == 0)) && ((a0_8 == 0 && (a0_9 == 0)) && ((a0_10 == 0 && (a0_11 == 0)) && (a0_12.toList.isEmpty && (a0_13.toList.isEmpty)))))) = false := by simpa only [show ∀ l_ : List UInt8, (l_ == ([] : List UInt8)) = l_.isEmpty from fun l_ => by cases l_ <;> rfl] using c62b0
                    (try (have c62b1 : decide (a0_5 = 0 && ((a0_6 == 0 && (a0_7 == 0)) && ((a0_8 == 0 && (a0_9 == 0)) && ((a0_10 == 0 && (a0_11 == 0)) && (a0_12.toList == ([] : List UInt8) && (a0_13.toList == ([] : List UInt8))))))) = false := by simpa using c62))
                    (try (have c62b2 : (a0_5 == 0 && ((a0_6 == 0 && (a0_7 == 0)) && ((a0_8 == 0 && (a0_9 == 0)) && ((a0_10 == 0 && (a0_11 == 0)) && (a0_12.toList == ([] : List UInt8) && (a0_13.toList == ([] : List UInt8))))))) = false := by simpa using c62))
                    (try (have c62b3 : ¬ (a0_5 = 0 && ((a0_6 == 0 && (a0_7 == 0)) && ((a0_8 == 0 && (a0_9 == 0)) && ((a0_10 == 0 && (a0_11 == 0)) && (a0_12.toList == ([] : List UInt8) && (a0_13.toList == ([] : List UInt8))))))) := by simpa using c62))
                    clear c62; obtain rfl := Option.some.inj H; have hcz71_0 : wc.cell? ⟨gb119, 0, none⟩ = some (.int .i64 a0_0) := (blk_cell BK119.out 0).trans rfl; have hcz71_1 : wc.cell? ⟨gb119, 1, none⟩ = some (.int .i64 a0_1) := (blk_cell BK119.out 1).trans rfl; have hcz71_2 : wc.cell? ⟨gb119, 2, none⟩ = some (.int .i64 a0_2) := (blk_cell BK119.out 2).trans rfl; have hcz71_3 : wc.cell? ⟨gb119, 3, none⟩ = some (.int .i64 a0_3) := (blk_cell BK119.out 3).trans rfl; have hcz71_4 : wc.cell? ⟨gb119, 4, none⟩ = some (.string a0_4) := (blk_cell BK119.out 4).trans rfl; have hcz71_5 : wc.cell? ⟨gb119, 5, none⟩ = some (.int .i64 a0_5) := (blk_cell BK119.out 5).trans rfl; have hcz71_6 : wc.cell? ⟨gb119, 6, none⟩ = some (.int .i64 a0_6) := (blk_cell BK119.out 6).trans rfl; have hcz71_7 : wc.cell? ⟨gb119, 7, none⟩ = some (.int .i64 a0_7) := (blk_cell BK119.out 7).trans rfl; have hcz71_8 : wc.cell? ⟨gb119, 8, none⟩ = some (.int .i64 a0_8) := (blk_cell BK119.out 8).trans rfl; have hcz71_9 : wc.cell? ⟨gb119, 9, none⟩ = some (.int .i64 a0_9) := (blk_cell BK119.out 9).trans rfl; have hcz71_10 : wc.cell? ⟨gb119, 10, none⟩ = some (.int .i64 a0_10) := (blk_cell BK119.out 10).trans rfl; have hcz71_11 : wc.cell? ⟨gb119, 11, none⟩ = some (.int .i64 a0_11) := (blk_cell BK119.out 11).trans rfl; have hcz71_12 : wc.cell? ⟨gb119, 12, none⟩ = some (.string a0_12) := (blk_cell BK119.out 12).trans rfl; have hcz71_13 : wc.cell? ⟨gb119, 13, none⟩ = some (.string a0_13) := (blk_cell BK119.out 13).trans rfl; have hcz71_14 : wc.cell? ⟨gb119, 14, none⟩ = some (.int .i64 a0_14) := (blk_cell BK119.out 14).trans rfl; have hcz71_15 : wc.cell? ⟨gb119, 15, none⟩ = some (.slice A0_15 l0_15.length c0_15) := (blk_cell BK119.out 15).trans rfl; have hfz71_0 := blk_frozen BK119.out 0; have hfz71_1 := blk_frozen BK119.out 1; have hfz71_2 := blk_frozen BK119.out 2; have hfz71_3 := blk_frozen BK119.out 3; have hfz71_4 := blk_frozen BK119.out 4; have hfz71_5 := blk_frozen BK119.out 5; have hfz71_6 := blk_frozen BK119.out 6; have hfz71_7 := blk_frozen BK119.out 7; have hfz71_8 := blk_frozen BK119.out 8; have hfz71_9 := blk_frozen BK119.out 9; have hfz71_10 := blk_frozen BK119.out 10; have hfz71_11 := blk_frozen BK119.out 11; have hfz71_12 := blk_frozen BK119.out 12; have hfz71_13 := blk_frozen BK119.out 13; have hfz71_14 := blk_frozen BK119.out 14; have hfz71_15 := blk_frozen BK119.out 15; go_wp2; go_ret
                    exact ⟨ew_, by repeat (first | (with_reducible first | exact HB.out | apply below_alloc | apply pw_below_drewN | apply below_drew1 | refine below_set ?_ GE119.out) | exact HB.out)⟩
                · replace c61 := Bool.eq_false_iff.mpr c61; subst c61; have H1 : (some 1) = some r := by rw [if_neg (show ¬ (false = true) by decide)] at H; exact H
                  clear H; have H := H1; clear H1; obtain rfl := Option.some.inj H; go_wp2; go_ret
                  exact ⟨ew_, by repeat (first | (with_reducible first | exact HB.out | apply below_alloc | apply pw_below_drewN | apply below_drew1 | refine below_set ?_ GE119.out) | exact HB.out)⟩
              · rw [if_neg c60] at H; have c60b0 : (a0_0 == 4) = false := beq_eq_false_iff_ne.mpr c60; have c60b1 : (a0_0 != 4) = true := bne_iff_ne.mpr c60; obtain rfl := Option.some.inj H; go_wp2; go_ret
                exact ⟨ew_, by repeat (first | (with_reducible first | exact HB.out | apply below_alloc | apply pw_below_drewN | apply below_drew1 | refine below_set ?_ GE119.out) | exact HB.out)⟩
end Go.Proofs.YthemhfloablccaaDoor.Pr
end

section
namespace Go.Proofs.YthemhfloablccaaDoor.Pr
open Go.RowKit Go.Deep Go.Proofs.YthemhfloablccaaDoorW.PrintWords Go.Proofs.YthemhfloablccaaDoorW.PrintLast Go.Proofs.YthemhfloablccaaDoorW.PrintMore
set_option maxHeartbeats 4000000
abbrev Wrp := S80
def judgeM (E : Int) (l : List Mem) (O ep kind frm count who : Int) : Int × List Mem × Int × Bool × Int :=
  match l[(frm - 1).toNat]? with
  | none => (0, [], 0, false, 1)
  | some m =>
    if 1099511627775 ≤ m.f1 ∨ count ≠ m.f1 + 1 then (0, [], 0, false, 1)
    else if ep < 1 ∨ E < ep ∨ ep < E - 1 then (0, [], 0, false, 201)
    else ((doesM E (l.set (frm - 1).toNat { m with f1 := m.f1 + 1 }) O ep kind frm who).1, (doesM E (l.set (frm - 1).toNat { m with f1 := m.f1 + 1 }) O ep kind frm who).2.1, (doesM E (l.set (frm - 1).toNat { m with f1 := m.f1 + 1 }) O ep kind frm who).2.2.1, (doesM E (l.set (frm - 1).toNat { m with f1 := m.f1 + 1 }) O ep kind frm who).2.2.2, 0)
def goodJ (E : Int) (l : List Mem) (O kind frm who : Int) : Prop :=
 l.length = 6 ∧ 1 ≤ E ∧ E ≤ 1099511627775 ∧ 0 ≤ O ∧ O ≤ 500 ∧ 1 ≤ frm ∧ frm ≤ 6 ∧ 1 ≤ kind ∧ kind ≤ 4 ∧ (kind = 2 ∨ kind = 3 → 1 ≤ who ∧ who ≤ 6) ∧ ∀ m ∈ l, 0 ≤ m.f1 ∧ m.f1 ≤ 1099511627775
instance (E : Int) (l : List Mem) (O kind frm who : Int) : Decidable (goodJ E l O kind frm who) := by unfold goodJ; infer_instance
def group_Judge.f (k : Nat) (a0_0 : Int) (l0_1 : List Mem) (a0_2 a1 a2_0 a2_1 a2_2 a2_3 : Int) (a2_4 : ByteArray) (a2_5 a2_6 a2_7 a2_8 a2_9 a2_10 a2_11 : Int) (a2_12 a2_13 : ByteArray) (a2_14 : Int) (l2_15 : List Wrp) : Option (Int × List Mem × Int × Bool × Int) :=
 (group_Check.f k a0_0 l0_1 a0_2).bind fun c => if c = 0 then ((wire_Check.f k a2_0 a2_1 a2_2 a2_3 a2_4 a2_5 a2_6 a2_7 a2_8 a2_9 a2_10 a2_11 a2_12 a2_13 a2_14 l2_15).bind fun d => if d = 0 then (if goodJ a0_0 l0_1 a0_2 a2_0 a2_1 a2_14 then some (judgeM a0_0 l0_1 a0_2 a1 a2_0 a2_1 a2_2 a2_14) else none) else some (0, [], 0, false, 1)) else some (0, [], 0, false, 1)
def JAt (w : World) (gb rb ob : Nat) (gv rv : Array Value) (wx : World) : Prop :=
 Below w.heap.size w wx ∧ wx.heap[gb]? = some (.cells gv 24 (0, 0)) ∧ wx.heap[rb]? = some (.cells rv 31 (0, 0)) ∧ wx.heap[ob]? = some (.cells #[.int .i64 0, .slice none 0 0, .int .i64 0] 24 (0, 0)) ∧ w.heap.size ≤ gb ∧ w.heap.size ≤ ob ∧ gb ≠ rb ∧ gb ≠ ob ∧ rb ≠ ob
theorem JAt.below {w wx w' : World} {gb rb ob : Nat} {gv rv : Array Value} (h : JAt w gb rb ob gv rv wx) (hb : Below wx.heap.size wx w') : JAt w gb rb ob gv rv w' :=
 ⟨below_then h.1 h.1.size hb, blk_below h.2.1 hb, blk_below h.2.2.1 hb, blk_below h.2.2.2.1 hb, h.2.2.2.2⟩
theorem JAt.zero {w wx : World} {gb rb ob : Nat} {gv rv : Array Value} (h : JAt w gb rb ob gv rv wx) :
  (((wx.setCell ⟨ob, 0, none⟩ (.int .i64 0)).setCell ⟨ob, 1, none⟩ (.slice none 0 0)).setCell ⟨ob, 2, none⟩ (.int .i64 0)).heap[ob]? = some (.cells #[.int .i64 0, .slice none 0 0, .int .i64 0] 24 (0, 0)) ∧
  Below w.heap.size w (((wx.setCell ⟨ob, 0, none⟩ (.int .i64 0)).setCell ⟨ob, 1, none⟩ (.slice none 0 0)).setCell ⟨ob, 2, none⟩ (.int .i64 0)) :=
 ⟨blk_put (blk_put (blk_put h.2.2.2.1 0 _ rfl) 1 _ rfl) 2 _ rfl, below_set (below_set (below_set h.1 h.2.2.2.2.2.1) h.2.2.2.2.2.1) h.2.2.2.2.2.1⟩
theorem rec_cells {wx : World} {rb : Nat} {a2_0 a2_1 a2_2 a2_3 : Int} {a2_4 : ByteArray} {a2_5 a2_6 a2_7 a2_8 a2_9 a2_10 a2_11 : Int} {a2_12 a2_13 : ByteArray} {a2_14 : Int} {wv : Value} (h : wx.heap[rb]? = some (.cells (RecV a2_0 a2_1 a2_2 a2_3 a2_4 a2_5 a2_6 a2_7 a2_8 a2_9 a2_10 a2_11 a2_12 a2_13 a2_14 wv) 31 (0, 0))) :
  wx.cell? ⟨rb, 0, none⟩ = some (.int .i64 a2_0) ∧ wx.cell? ⟨rb, 1, none⟩ = some (.int .i64 a2_1) ∧ wx.cell? ⟨rb, 2, none⟩ = some (.int .i64 a2_2) ∧ wx.cell? ⟨rb, 3, none⟩ = some (.int .i64 a2_3) ∧ wx.cell? ⟨rb, 4, none⟩ = some (.string a2_4) ∧ wx.cell? ⟨rb, 5, none⟩ = some (.int .i64 a2_5) ∧ wx.cell? ⟨rb, 6, none⟩ = some (.int .i64 a2_6) ∧ wx.cell? ⟨rb, 7, none⟩ = some (.int .i64 a2_7) ∧ wx.cell? ⟨rb, 8, none⟩ = some (.int .i64 a2_8) ∧ wx.cell? ⟨rb, 9, none⟩ = some (.int .i64 a2_9) ∧ wx.cell? ⟨rb, 10, none⟩ = some (.int .i64 a2_10) ∧ wx.cell? ⟨rb, 11, none⟩ = some (.int .i64 a2_11) ∧ wx.cell? ⟨rb, 12, none⟩ = some (.string a2_12) ∧ wx.cell? ⟨rb, 13, none⟩ = some (.string a2_13) ∧ wx.cell? ⟨rb, 14, none⟩ = some (.int .i64 a2_14) ∧ wx.cell? ⟨rb, 15, none⟩ = some wv :=
 ⟨(blk_cell h 0).trans rfl, (blk_cell h 1).trans rfl, (blk_cell h 2).trans rfl, (blk_cell h 3).trans rfl, (blk_cell h 4).trans rfl, (blk_cell h 5).trans rfl, (blk_cell h 6).trans rfl, (blk_cell h 7).trans rfl, (blk_cell h 8).trans rfl, (blk_cell h 9).trans rfl, (blk_cell h 10).trans rfl, (blk_cell h 11).trans rfl, (blk_cell h 12).trans rfl, (blk_cell h 13).trans rfl, (blk_cell h 14).trans rfl, (blk_cell h 15).trans rfl⟩
theorem grp_cells {wx : World} {gb : Nat} {x z : Int} {y : Value} {t : TypeId} (h : wx.heap[gb]? = some (.cells #[.int .i64 x, y, .int .i64 z] t (0, 0))) :
  wx.cell? ⟨gb, 0, none⟩ = some (.int .i64 x) ∧ wx.cell? ⟨gb, 1, none⟩ = some y ∧ wx.cell? ⟨gb, 2, none⟩ = some (.int .i64 z) ∧ wx.frozen? ⟨gb, 0, none⟩ = false ∧ wx.frozen? ⟨gb, 1, none⟩ = false ∧ wx.frozen? ⟨gb, 2, none⟩ = false :=
 ⟨(blk_cell h 0).trans rfl, (blk_cell h 1).trans rfl, (blk_cell h 2).trans rfl, blk_frozen h 0, blk_frozen h 1, blk_frozen h 2⟩
set_option maxRecDepth 100000 in
theorem group_Judge.calls (k : Nat) (a0_0 : Int) (A0_1 : Option Addr) (c0_1 : Nat) (l0_1 : List Mem) (a0_2 a1 a2_0 a2_1 a2_2 a2_3 : Int) (a2_4 : ByteArray) (a2_5 a2_6 a2_7 a2_8 a2_9 a2_10 a2_11 : Int) (a2_12 a2_13 : ByteArray) (a2_14 : Int) (A2_15 : Option Addr) (c2_15 : Nat) (l2_15 : List Wrp)
    (r1 : Int) (r2 : List Mem) (r3 : Int) (r4 : Bool) (r5 : Int) (w : World) (hr0_1 : Kd.C k46 w A0_1 l0_1.length l0_1) (hc0_1 : l0_1.length ≤ c0_1) (hr2_15 : Kd.C k80 w A2_15 l2_15.length l2_15) (hc2_15 : l2_15.length ≤ c2_15)
    (h : group_Judge.f k a0_0 l0_1 a0_2 a1 a2_0 a2_1 a2_2 a2_3 a2_4 a2_5 a2_6 a2_7 a2_8 a2_9 a2_10 a2_11 a2_12 a2_13 a2_14 l2_15 = some (r1, r2, r3, r4, r5)) :
    Calls Tryd.prog 18 #[.agg #[.int .i64 a0_0, .slice A0_1 l0_1.length c0_1, .int .i64 a0_2], .int .i64 a1, .agg #[.int .i64 a2_0, .int .i64 a2_1, .int .i64 a2_2, .int .i64 a2_3, .string a2_4, .int .i64 a2_5, .int .i64 a2_6, .int .i64 a2_7, .int .i64 a2_8, .int .i64 a2_9, .int .i64 a2_10, .int .i64 a2_11, .string a2_12, .string a2_13, .int .i64 a2_14, .slice A2_15 l2_15.length c2_15]] w fun e w' => ∃ v1_ : Value, e = .returned (.tuple #[.agg #[.int .i64 r1, v1_, .int .i64 r3], .bool r4, .int .i64 r5]) ∧ Kd.R k46 46 w' w.heap.size (fun _ => True) v1_ r2 ∧ Below w.heap.size w w' := by
  unfold group_Judge.f at h
  obtain ⟨c, hgc, h1⟩ := Option.bind_eq_some_iff.1 h
  have HGC := Aside0.mk (fun (W : World) (hb : Below w.heap.size w W) => group_Check.calls k a0_0 A0_1 c0_1 l0_1 a0_2 c W (Kd.C_below hr0_1 hb) hc0_1 hgc)
  have H := Aside0.mk h1
  have HWC := Aside0.mk (fun (d : Int) (hd : wire_Check.f k a2_0 a2_1 a2_2 a2_3 a2_4 a2_5 a2_6 a2_7 a2_8 a2_9 a2_10 a2_11 a2_12 a2_13 a2_14 l2_15 = some d) (W : World) (hb : Below w.heap.size w W) => wire_Check.calls k a2_0 a2_1 a2_2 a2_3 a2_4 a2_5 a2_6 a2_7 a2_8 a2_9 a2_10 a2_11 a2_12 a2_13 a2_14 A2_15 c2_15 l2_15 d W (Kd.C_below hr2_15 hb) hc2_15 hd)
  have HR0 := Aside0.mk hr0_1
  have HCC := Aside0.mk hc0_1
  clear h h1 hgc hr0_1 hr2_15 hc2_15 hc0_1
  have hu1 := Tryd.underlying24
  have hu2 := Tryd.underlying31
  go_enter Tryd.func18, Tryd.ntmps18
  go_upto_region 1 with (first | ((with_reducible refine gate_dst (N := 3) rfl ?_); (try (refine gate_guard (by rfl) ?_; dsimp only)); refine box_event ?hg (N := 3) ?hd (cs := #[.int .i64 a0_0, .slice A0_1 l0_1.length c0_1, .int .i64 a0_2]) (t := 24) ?hr ?_; (case hd => rfl); (case hg => rfl); (case hr => first | (go_simp; done) | (go_simp; rfl)); intro gb hg w1 hbox hb; have HB1 := Aside0.mk (below_step (Below.refl w.heap.size w) hb); have G1 := Aside0.mk hbox; have L1 := Aside0.mk (show w.heap.size ≤ gb by rw [hg]; exact Nat.le_refl _); clear hb hbox hg) | ((with_reducible refine gate_dst (N := 5) rfl ?_); (try (refine gate_guard (by rfl) ?_; dsimp only)); refine box_event ?hg (N := 5) ?hd (cs := (RecV a2_0 a2_1 a2_2 a2_3 a2_4 a2_5 a2_6 a2_7 a2_8 a2_9 a2_10 a2_11 a2_12 a2_13 a2_14 (.slice A2_15 l2_15.length c2_15))) (t := 31) ?hr ?_; (case hd => rfl); (case hg => rfl); (case hr => first | (go_simp; done) | (go_simp; rfl)); intro rb hg w2 hbox hb; have HB2 := Aside0.mk (below_step HB1.out hb); have G2 := Aside0.mk (blk_below G1.out hb); have R2 := Aside0.mk hbox; have L2 := Aside0.mk (show w.heap.size ≤ rb by rw [hg]; exact HB1.out.size); have N12 := Aside0.mk (show gb ≠ rb by rw [hg]; exact Nat.ne_of_lt (blk_lt G1.out)); clear HB1 G1; clear hb hbox hg) | ((with_reducible refine gate_dst (N := 6) rfl ?_); (try (refine gate_guard (by rfl) ?_; dsimp only)); refine box_event ?hg (N := 6) ?hd (cs := #[.int .i64 0, .slice none 0 0, .int .i64 0]) (t := 24) ?hr ?_; (case hd => rfl); (case hg => rfl); (case hr => first | (go_simp; done) | (go_simp; rfl)); intro ob hg w3 hbox hb; have J0 := Aside0.mk (show JAt w gb rb ob #[.int .i64 a0_0, .slice A0_1 l0_1.length c0_1, .int .i64 a0_2] (RecV a2_0 a2_1 a2_2 a2_3 a2_4 a2_5 a2_6 a2_7 a2_8 a2_9 a2_10 a2_11 a2_12 a2_13 a2_14 (.slice A2_15 l2_15.length c2_15)) w3 from ⟨below_step HB2.out hb, blk_below G2.out hb, blk_below R2.out hb, hbox, L1.out, by rw [hg]; exact HB2.out.size, N12.out, by rw [hg]; exact Nat.ne_of_lt (blk_lt G2.out), by rw [hg]; exact Nat.ne_of_lt (blk_lt R2.out)⟩); clear HB2 G2 R2 L1 L2 N12; clear hb hbox hg))
  (try simp only [Act.put, List.setIfInBounds_toArray, List.set_cons_zero, List.set_cons_succ])
  by_cases hc : c = 0
  · subst hc
    have H1 := H.out
    rw [if_pos rfl] at H1
    obtain ⟨d, hd, hr⟩ := Option.bind_eq_some_iff.1 H1
    have HWD := Aside0.mk (HWC.out d hd)
    have HR := Aside0.mk hr
    clear H H1 hd hr HWC
    by_cases hd0 : d = 0
    · subst hd0
      have hr := HR.out
      rw [if_pos rfl] at hr
      by_cases hg : goodJ a0_0 l0_1 a0_2 a2_0 a2_1 a2_14
      · rw [if_pos hg] at hr
        have HJ := Aside0.mk (Option.some.inj hr)
        have HGD := Aside0.mk hg
        clear hr hg HR
        obtain ⟨b0, b1, b2, -, -, -⟩ := grp_cells J0.out.2.1
        go_wp2_with (fail)
        refine (HGC.out _ J0.out.1).mono ?_
        rintro e w4 ⟨rfl, hb⟩
        have J1 := Aside0.mk (J0.out.below hb)
        clear hb b0 b1 b2
        obtain ⟨y0, y1, y2, y3, y4, y5, y6, y7, y8, y9, y10, y11, y12, y13, y14, y15⟩ := rec_cells J1.out.2.2.1
        go_wp2_with (fail)
        refine (HWD.out _ J1.out.1).mono ?_
        rintro e w5 ⟨rfl, hb⟩
        have J2 := Aside0.mk (J1.out.below hb)
        clear hb y0 y1 y2 y3 y4 y5 y6 y7 y8 y9 y10 y11 y12 y13 y14 y15
        obtain ⟨ad, hA, -⟩ := HR0.out.2.2 (by have := HGD.out.1; omega)
        subst hA
        obtain ⟨b0, b1, b2, f0, f1, f2⟩ := grp_cells J2.out.2.1
        have HCL := Aside0.mk (clone_calls ad c0_1 l0_1 w5 (Kd.C_below HR0.out J2.out.1) (by have := HGD.out.1; omega) (by have := HGD.out.1; omega))
        go_wp2_with (fail)
        refine HCL.out.mono ?_
        rintro e w6 ⟨g, cap, rfl, hge, hM, hb⟩
        have GQ := Aside0.mk (show GrpAt w gb g cap ob (.cells #[.int .i64 0, .slice none 0 0, .int .i64 0] 24 (0, 0)) a0_0 l0_1 a0_2 (w6.setCell ⟨gb, 1, none⟩ (.slice (some ⟨g, 0, none⟩) l0_1.length cap)) from
          ⟨below_set (below_then J2.out.1 J2.out.1.size hb) J2.out.2.2.2.2.1, blk_put (blk_below J2.out.2.1 hb) 1 _ rfl, hM.far (fun q => by have := blk_lt J2.out.2.1; omega) 1 _, J2.out.2.2.2.2.1, Nat.le_trans J2.out.1.size hge, (fun q => by have := blk_lt J2.out.2.1; omega),
           blk_far (blk_below J2.out.2.2.2.1 hb) (fun q => J2.out.2.2.2.2.2.2.2.1 q.symm) _, (fun q => J2.out.2.2.2.2.2.2.2.1 q.symm), (fun q => by have := blk_lt J2.out.2.2.2.1; omega)⟩)
        have RQ := Aside0.mk (show (w6.setCell ⟨gb, 1, none⟩ (.slice (some ⟨g, 0, none⟩) l0_1.length cap)).heap[rb]? = some (.cells (RecV a2_0 a2_1 a2_2 a2_3 a2_4 a2_5 a2_6 a2_7 a2_8 a2_9 a2_10 a2_11 a2_12 a2_13 a2_14 (.slice A2_15 l2_15.length c2_15)) 31 (0, 0)) from blk_far (blk_below J2.out.2.2.1 hb) (fun q => J2.out.2.2.2.2.2.2.1 q.symm) _)
        have NGR := Aside0.mk (show rb ≠ g from fun q => by have := blk_lt J2.out.2.2.1; omega)
        have JQ := Aside0.mk (show JAt w gb rb ob #[.int .i64 a0_0, (.slice (some ⟨g, 0, none⟩) l0_1.length cap), .int .i64 a0_2] (RecV a2_0 a2_1 a2_2 a2_3 a2_4 a2_5 a2_6 a2_7 a2_8 a2_9 a2_10 a2_11 a2_12 a2_13 a2_14 (.slice A2_15 l2_15.length c2_15)) (w6.setCell ⟨gb, 1, none⟩ (.slice (some ⟨g, 0, none⟩) l0_1.length cap)) from ⟨GQ.out.1, GQ.out.2.1, RQ.out, GQ.out.2.2.2.2.2.2.1, J2.out.2.2.2.2⟩)
        obtain ⟨b0, b1, b2, f0, f1, f2⟩ := grp_cells (blk_below J2.out.2.1 hb)
        clear hge hM hb HCL
        go_upto_region 4 with (fail)
        clear b0 b1 b2 f0 f1 f2
        generalize w6.setCell ⟨gb, 1, none⟩ (.slice (some ⟨g, 0, none⟩) l0_1.length cap) = wq at GQ RQ JQ ⊢
        obtain ⟨k, hk⟩ : ∃ k : Nat, a2_1 = (k : Int) + 1 := ⟨(a2_1 - 1).toNat, by have := HGD.out; unfold goodJ at this; omega⟩
        have hlt : k < l0_1.length := by have := HGD.out; unfold goodJ at this; omega
        have hx := List.getElem?_eq_getElem hlt
        generalize l0_1[k] = m at hx
        have hmr : 0 ≤ m.f1 ∧ m.f1 ≤ 1099511627775 := HGD.out.2.2.2.2.2.2.2.2.2.2 m (List.mem_of_getElem? hx)
        have hJ := HJ.out
        unfold judgeM at hJ
        rw [show (a2_1 - 1).toNat = k by omega, hx] at hJ
        simp only at hJ
        have HJ2 := Aside0.mk hJ
        have HX := Aside0.mk hx
        have hr : wrap64 (a2_1 - 1) = (k : Int) := by have := HGD.out.1; unfold wrap64; omega
        have HMR := Aside0.mk hmr
        have e5 := eq_true hlt
        have e6 : wrap64 (m.f1 + 1) = m.f1 + 1 := by unfold wrap64; omega
        have E6 := Aside0.mk e6
        have e7 : IntKind.i64.wrap (m.f1 + 1) = m.f1 + 1 := by rw [IntKind.wrap_i64]; omega
        have HKK := Aside0.mk hk
        clear hJ hk hx hlt hmr HJ e6
        obtain ⟨b0, b1, b2, f0, f1, f2⟩ := grp_cells GQ.out.2.1
        obtain ⟨y0, y1, y2, y3, y4, y5, y6, y7, y8, y9, y10, y11, y12, y13, y14, y15⟩ := rec_cells RQ.out
        go_upto_region 5 with (fail)
        clear hr e5
        have mc := (GQ.out.2.2.1.cell k m HX.out).2.1
        have JQD := Aside0.mk (JQ.out.below (below_drew1 (Below.refl _ _)))
        have oc := JQD.out
        obtain ⟨o0, o1, o2, p0, p1, p2⟩ := grp_cells oc.2.2.2.1
        clear oc
        by_cases hA : 1099511627775 ≤ m.f1
        · have hJ := HJ2.out
          rw [if_pos (.inl hA)] at hJ
          cases hJ
          have q1 : decide (1099511627775 ≤ m.f1) = true := decide_eq_true hA
          clear hA e7
          refine start_ (n := 16) (S := fun w' => w'.cell? ⟨g, k * 3 + 1, none⟩ = some (.int .i64 m.f1) ∧ w'.cell? ⟨rb, 2, none⟩ = some (.int .i64 a2_2)) (ds := []) #[false, false, false, false, false, false, false, false, false, false, false, false, false, false, false, false] (by kernel_rfl) rfl rfl ⟨mc, y2⟩ (fun hHeld => ?_)
          refine pz_ 0 31 rfl rfl (by kernel_rfl) ?_
          refine pz_ 1 32 rfl rfl (by kernel_rfl) ?_
          refine pz_ 2 33 rfl rfl (by kernel_rfl) ?_
          refine take_ (i := 3) (N := some 34) (v := ?_) (a' := ?_) #[true, true, true, true, false, false, false, false, false, false, false, false, false, false, false, false] rfl rfl (by kernel_rfl) (fun _ _ _ h => h) (Or.inl ⟨by rfl, ?_⟩) hHeld ?_ ?_
          rotate_left
          · rintro w' ⟨s0, s1⟩
            go_simp
            with_reducible rfl
          rotate_left
          · simp only [Act.put, List.setIfInBounds_toArray, List.set_cons_zero, List.set_cons_succ, i64_w, i32_w]
            rfl
          refine pz_ 4 35 rfl rfl (by kernel_rfl) ?_
          refine pz_ 5 36 rfl rfl (by kernel_rfl) ?_
          refine pure_ (i := 6) (N := some 37) (v := undef) (a' := ?_) #[true, true, true, true, true, true, true, false, false, false, false, false, false, false, false, false] rfl rfl (by kernel_rfl) (fun _ _ _ h => h) (Or.inr ⟨by rfl, rfl⟩) ?_ ?_
          rotate_left
          · simp only [Act.put, List.setIfInBounds_toArray, List.set_cons_zero, List.set_cons_succ, i64_w, i32_w]
            rfl
          refine pure_ (i := 7) (N := some 38) (v := undef) (a' := ?_) #[true, true, true, true, true, true, true, true, false, false, false, false, false, false, false, false] rfl rfl (by kernel_rfl) (fun _ _ _ h => h) (Or.inr ⟨by rfl, rfl⟩) ?_ ?_
          rotate_left
          · simp only [Act.put, List.setIfInBounds_toArray, List.set_cons_zero, List.set_cons_succ, i64_w, i32_w]
            rfl
          refine pure_ (i := 8) (N := some 39) (v := undef) (a' := ?_) #[true, true, true, true, true, true, true, true, true, false, false, false, false, false, false, false] rfl rfl (by kernel_rfl) (fun _ _ _ h => h) (Or.inr ⟨by rfl, rfl⟩) ?_ ?_
          rotate_left
          · simp only [Act.put, List.setIfInBounds_toArray, List.set_cons_zero, List.set_cons_succ, i64_w, i32_w]
            rfl
          refine pure_ (i := 9) (N := some 40) (v := undef) (a' := ?_) #[true, true, true, true, true, true, true, true, true, true, false, false, false, false, false, false] rfl rfl (by kernel_rfl) (fun _ _ _ h => h) (Or.inr ⟨by rfl, rfl⟩) ?_ ?_
          rotate_left
          · simp only [Act.put, List.setIfInBounds_toArray, List.set_cons_zero, List.set_cons_succ, i64_w, i32_w]
            rfl
          refine pure_ (i := 10) (N := some 41) (v := undef) (a' := ?_) #[true, true, true, true, true, true, true, true, true, true, true, false, false, false, false, false] rfl rfl (by kernel_rfl) (fun _ _ _ h => h) (Or.inr ⟨by rfl, rfl⟩) ?_ ?_
          rotate_left
          · simp only [Act.put, List.setIfInBounds_toArray, List.set_cons_zero, List.set_cons_succ, i64_w, i32_w]
            rfl
          refine pure_ (i := 11) (N := some 42) (v := undef) (a' := ?_) #[true, true, true, true, true, true, true, true, true, true, true, true, false, false, false, false] rfl rfl (by kernel_rfl) (fun _ _ _ h => h) (Or.inr ⟨by rfl, rfl⟩) ?_ ?_
          rotate_left
          · simp only [Act.put, List.setIfInBounds_toArray, List.set_cons_zero, List.set_cons_succ, i64_w, i32_w]
            rfl
          refine pure_ (i := 12) (N := some 43) (v := undef) (a' := ?_) #[true, true, true, true, true, true, true, true, true, true, true, true, true, false, false, false] rfl rfl (by kernel_rfl) (fun _ _ _ h => h) (Or.inr ⟨by rfl, rfl⟩) ?_ ?_
          rotate_left
          · simp only [Act.put, List.setIfInBounds_toArray, List.set_cons_zero, List.set_cons_succ, i64_w, i32_w]
            rfl
          refine pure_ (i := 13) (N := some 44) (v := undef) (a' := ?_) #[true, true, true, true, true, true, true, true, true, true, true, true, true, true, false, false] rfl rfl (by kernel_rfl) (fun _ _ _ h => h) (Or.inr ⟨by rfl, rfl⟩) ?_ ?_
          rotate_left
          · simp only [Act.put, List.setIfInBounds_toArray, List.set_cons_zero, List.set_cons_succ, i64_w, i32_w]
            rfl
          refine pz_ 14 45 rfl rfl (by kernel_rfl) ?_
          refine pz_ 15 30 rfl rfl (by kernel_rfl) ?_
          refine done_ (by kernel_rfl) ?_
          generalize wq.drew = wd at JQD o0 o1 o2 p0 p1 p2 ⊢
          go_wp2_with (fail)
          refine bodyPost_ret (results_ctt rfl _ _ ob 24 #[.int .i64 0, .slice none 0 0, .int .i64 0] (0, 0) _ rfl JQD.out.zero.1 Tryd.underlying24 rfl (by kernel_rfl)) rfl ?_
          exact ⟨_, rfl, Kd.R_nil _ _ _ _ _, JQD.out.zero.2⟩
        · have q1 : decide (1099511627775 ≤ m.f1) = false := decide_eq_false hA
          by_cases hB : a2_2 = m.f1 + 1
          · have q2 : (a2_2 != m.f1 + 1) = false := by rw [hB]; exact bne_self_eq_false _
            have hJ := HJ2.out
            rw [if_neg (show ¬ (1099511627775 ≤ m.f1 ∨ a2_2 ≠ m.f1 + 1) by omega)] at hJ
            have HJ3 := Aside0.mk hJ
            have HAA := Aside0.mk hA
            clear hA hB hJ HJ2
            refine start_ (n := 16) (S := fun w' => w'.cell? ⟨g, k * 3 + 1, none⟩ = some (.int .i64 m.f1) ∧ w'.cell? ⟨rb, 2, none⟩ = some (.int .i64 a2_2)) (ds := []) #[false, false, false, false, false, false, false, false, false, false, false, false, false, false, false, false] (by kernel_rfl) rfl rfl ⟨mc, y2⟩ (fun hHeld => ?_)
            refine pz_ 0 31 rfl rfl (by kernel_rfl) ?_
            refine pz_ 1 32 rfl rfl (by kernel_rfl) ?_
            refine pz_ 2 33 rfl rfl (by kernel_rfl) ?_
            refine take_ (i := 3) (N := some 34) (v := ?_) (a' := ?_) #[true, true, true, true, false, false, false, false, false, false, false, false, false, false, false, false] rfl rfl (by kernel_rfl) (fun _ _ _ h => h) (Or.inl ⟨by rfl, ?_⟩) hHeld ?_ ?_
            rotate_left
            · rintro w' ⟨s0, s1⟩
              go_simp
              with_reducible rfl
            rotate_left
            · simp only [Act.put, List.setIfInBounds_toArray, List.set_cons_zero, List.set_cons_succ, i64_w, i32_w]
              rfl
            refine pz_ 4 35 rfl rfl (by kernel_rfl) ?_
            refine pz_ 5 36 rfl rfl (by kernel_rfl) ?_
            refine pz_ 6 37 rfl rfl (by kernel_rfl) ?_
            refine pz_ 8 39 rfl rfl (by kernel_rfl) ?_
            refine pz_ 9 40 rfl rfl (by kernel_rfl) ?_
            refine pz_ 10 41 rfl rfl (by kernel_rfl) ?_
            refine take_ (i := 7) (N := some 38) (v := ?_) (a' := ?_) #[true, true, true, true, true, true, true, true, true, true, true, false, false, false, false, false] rfl rfl (by kernel_rfl) (fun _ _ _ h => h) (Or.inl ⟨by rfl, ?_⟩) hHeld ?_ ?_
            rotate_left
            · rintro w' ⟨s0, s1⟩
              go_simp
              with_reducible rfl
            rotate_left
            · simp only [Act.put, List.setIfInBounds_toArray, List.set_cons_zero, List.set_cons_succ, i64_w, i32_w]
              rfl
            refine take_ (i := 11) (N := some 42) (v := ?_) (a' := ?_) #[true, true, true, true, true, true, true, true, true, true, true, true, false, false, false, false] rfl rfl (by kernel_rfl) (fun _ _ _ h => h) (Or.inl ⟨by rfl, ?_⟩) hHeld ?_ ?_
            rotate_left
            · rintro w' ⟨s0, s1⟩
              go_simp
              with_reducible rfl
            rotate_left
            · simp only [Act.put, List.setIfInBounds_toArray, List.set_cons_zero, List.set_cons_succ, i64_w, i32_w]
              rfl
            refine pz_ 12 43 rfl rfl (by kernel_rfl) ?_
            refine pz_ 13 44 rfl rfl (by kernel_rfl) ?_
            refine pz_ 14 45 rfl rfl (by kernel_rfl) ?_
            refine pz_ 15 30 rfl rfl (by kernel_rfl) ?_
            refine done_ (by kernel_rfl) ?_
            have GQD := Aside0.mk (GQ.out.below (below_drew1 (Below.refl _ _)))
            have RQD := Aside0.mk (show wq.drew.heap[rb]? = _ from RQ.out)
            clear mc y0 y1 y2 y3 y4 y5 y6 y7 y8 y9 y10 y11 y12 y13 y14 y15 b0 b1 b2 f0 f1 f2
            generalize wq.drew = wd at JQD GQD RQD o0 o1 o2 p0 p1 p2 ⊢
            clear GQ RQ JQ
            obtain ⟨b0, b1, b2, f0, f1, f2⟩ := grp_cells GQD.out.2.1
            have mc := (GQD.out.2.2.1.cell k m HX.out).2.1
            have w7 : wrap64 (a0_0 - 1) = a0_0 - 1 := by have := HGD.out; unfold goodJ at this; unfold wrap64; omega
            by_cases hE : a1 < 1 ∨ a0_0 < a1 ∨ a1 < a0_0 - 1
            · have hJ := HJ3.out
              rw [if_pos hE] at hJ
              cases hJ
              by_cases h1 : a1 < 1
              · have q3 : decide (a1 < 1) = true := decide_eq_true h1
                clear h1 hE e7 w7
                go_wp2_with (fail)
                refine bodyPost_ret (results_ctt rfl _ _ ob 24 #[.int .i64 0, .slice none 0 0, .int .i64 0] (0, 0) _ rfl JQD.out.zero.1 Tryd.underlying24 rfl (by kernel_rfl)) rfl ?_
                exact ⟨_, rfl, Kd.R_nil _ _ _ _ _, JQD.out.zero.2⟩
              · have q3 : decide (a1 < 1) = false := decide_eq_false h1
                by_cases h2 : a0_0 < a1
                · have q4 : decide (a0_0 < a1) = true := decide_eq_true h2
                  clear h1 h2 hE e7 w7
                  go_wp2_with (fail)
                  refine bodyPost_ret (results_ctt rfl _ _ ob 24 #[.int .i64 0, .slice none 0 0, .int .i64 0] (0, 0) _ rfl JQD.out.zero.1 Tryd.underlying24 rfl (by kernel_rfl)) rfl ?_
                  exact ⟨_, rfl, Kd.R_nil _ _ _ _ _, JQD.out.zero.2⟩
                · have q4 : decide (a0_0 < a1) = false := decide_eq_false h2
                  have q5 : decide (a1 < a0_0 - 1) = true := decide_eq_true (by omega)
                  clear h1 h2 hE e7
                  go_wp2_with (fail)
                  refine bodyPost_ret (results_ctt rfl _ _ ob 24 #[.int .i64 0, .slice none 0 0, .int .i64 0] (0, 0) _ rfl JQD.out.zero.1 Tryd.underlying24 rfl (by kernel_rfl)) rfl ?_
                  exact ⟨_, rfl, Kd.R_nil _ _ _ _ _, JQD.out.zero.2⟩
            · have hJ := HJ3.out
              rw [if_neg hE] at hJ
              have q3 : decide (a1 < 1) = false := decide_eq_false (fun q => hE (.inl q))
              have q4 : decide (a0_0 < a1) = false := decide_eq_false (fun q => hE (.inr (.inl q)))
              have q5 : decide (a1 < a0_0 - 1) = false := decide_eq_false (fun q => hE (.inr (.inr q)))
              have HJ4 := Aside0.mk hJ
              clear hE hJ HJ3
              go_upto_region 9 with (fail)
              clear q3 q4 q5 w7
              have e6 := E6.out
              obtain ⟨cs, hcs, _⟩ := GQD.out.2.2.1
              have fz := blk_frozen hcs (k * 3 + 1)
              clear hcs
              have GS := Aside0.mk (GQD.out.setM k 1 (by decide) m { m with f1 := m.f1 + 1 } (.int .i64 (m.f1 + 1)) HX.out rfl)
              have RS := Aside0.mk (show (wd.setCell ⟨g, k * 3 + 1, none⟩ (.int .i64 (m.f1 + 1))).heap[rb]? = some (.cells (RecV a2_0 a2_1 a2_2 a2_3 a2_4 a2_5 a2_6 a2_7 a2_8 a2_9 a2_10 a2_11 a2_12 a2_13 a2_14 (.slice A2_15 l2_15.length c2_15)) 31 (0, 0)) from blk_far RQD.out NGR.out _)
              go_upto_region 10 with (fail)
              clear e6 e7 mc fz b0 b1 b2 f0 f1 f2
              generalize wd.setCell ⟨g, k * 3 + 1, none⟩ (.int .i64 (m.f1 + 1)) = ws at GS RS ⊢
              obtain ⟨y0, y1, y2, y3, y4, y5, y6, y7, y8, y9, y10, y11, y12, y13, y14, y15⟩ := rec_cells RS.out
              have HDO := Aside0.mk (does_calls w gb g cap ob (.cells #[.int .i64 0, .slice none 0 0, .int .i64 0] 24 (0, 0)) a0_0 a0_2 a1 (l0_1.set k { m with f1 := m.f1 + 1 }) a2_0 a2_1 a2_2 a2_3 a2_4 a2_5 a2_6 a2_7 a2_8 a2_9 a2_10 a2_11 a2_12 a2_13 a2_14 (.slice A2_15 l2_15.length c2_15) ws GS.out (by rw [List.length_set]; exact HGD.out.1) ⟨HGD.out.2.1, HGD.out.2.2.1⟩ ⟨HGD.out.2.2.2.1, HGD.out.2.2.2.2.1⟩ HGD.out.2.2.2.2.2.2.2.2.2.1 ⟨HGD.out.2.2.2.2.2.2.2.1, HGD.out.2.2.2.2.2.2.2.2.1⟩)
              generalize doesM a0_0 (l0_1.set k { m with f1 := m.f1 + 1 }) a0_2 a1 a2_0 a2_1 a2_14 = D at HDO HJ4
              obtain ⟨D1, D2, D3, D4⟩ := D
              have hJ := HJ4.out
              simp only [Prod.mk.injEq] at hJ
              obtain ⟨rfl, rfl, rfl, rfl, rfl⟩ := hJ
              simp only at HDO
              go_wp2_with (fail)
              refine HDO.out.mono ?_
              rintro e wf ⟨rfl, hG⟩
              have GF := Aside0.mk hG
              clear hG y0 y1 y2 y3 y4 y5 y6 y7 y8 y9 y10 y11 y12 y13 y14 y15 o0 o1 o2 p0 p1 p2 HDO
              obtain ⟨b0, b1, b2, f0, f1, f2⟩ := grp_cells GF.out.2.1
              obtain ⟨o0, o1, o2, p0, p1, p2⟩ := grp_cells GF.out.2.2.2.2.2.2.1
              go_wp2_with (fail)
              refine bodyPost_ret (results_ctt rfl _ _ ob 24 #[.int .i64 D1, .slice (some ⟨g, 0, none⟩) D2.length cap, .int .i64 D3] (0, 0) _ rfl (blk_put (blk_put (blk_put GF.out.2.2.2.2.2.2.1 0 _ rfl) 1 _ rfl) 2 _ rfl) Tryd.underlying24 rfl (by kernel_rfl)) rfl ?_
              exact ⟨_, rfl, MemAt.R (((GF.out.2.2.1.far GF.out.2.2.2.2.2.2.2.2.symm 0 _).far GF.out.2.2.2.2.2.2.2.2.symm 1 _).far GF.out.2.2.2.2.2.2.2.2.symm 2 _) _ GF.out.2.2.2.2.1 _ trivial, below_set (below_set (below_set GF.out.1 JQD.out.2.2.2.2.2.1) JQD.out.2.2.2.2.2.1) JQD.out.2.2.2.2.2.1⟩
          · have q2 : (a2_2 != m.f1 + 1) = true := bne_iff_ne.2 hB
            have hJ := HJ2.out
            rw [if_pos (.inr hB)] at hJ
            cases hJ
            clear hA hB
            refine start_ (n := 16) (S := fun w' => w'.cell? ⟨g, k * 3 + 1, none⟩ = some (.int .i64 m.f1) ∧ w'.cell? ⟨rb, 2, none⟩ = some (.int .i64 a2_2)) (ds := []) #[false, false, false, false, false, false, false, false, false, false, false, false, false, false, false, false] (by kernel_rfl) rfl rfl ⟨mc, y2⟩ (fun hHeld => ?_)
            refine pz_ 0 31 rfl rfl (by kernel_rfl) ?_
            refine pz_ 1 32 rfl rfl (by kernel_rfl) ?_
            refine pz_ 2 33 rfl rfl (by kernel_rfl) ?_
            refine take_ (i := 3) (N := some 34) (v := ?_) (a' := ?_) #[true, true, true, true, false, false, false, false, false, false, false, false, false, false, false, false] rfl rfl (by kernel_rfl) (fun _ _ _ h => h) (Or.inl ⟨by rfl, ?_⟩) hHeld ?_ ?_
            rotate_left
            · rintro w' ⟨s0, s1⟩
              go_simp
              with_reducible rfl
            rotate_left
            · simp only [Act.put, List.setIfInBounds_toArray, List.set_cons_zero, List.set_cons_succ, i64_w, i32_w]
              rfl
            refine pz_ 4 35 rfl rfl (by kernel_rfl) ?_
            refine pz_ 5 36 rfl rfl (by kernel_rfl) ?_
            refine pz_ 6 37 rfl rfl (by kernel_rfl) ?_
            refine pz_ 8 39 rfl rfl (by kernel_rfl) ?_
            refine pz_ 9 40 rfl rfl (by kernel_rfl) ?_
            refine pz_ 10 41 rfl rfl (by kernel_rfl) ?_
            refine take_ (i := 7) (N := some 38) (v := ?_) (a' := ?_) #[true, true, true, true, true, true, true, true, true, true, true, false, false, false, false, false] rfl rfl (by kernel_rfl) (fun _ _ _ h => h) (Or.inl ⟨by rfl, ?_⟩) hHeld ?_ ?_
            rotate_left
            · rintro w' ⟨s0, s1⟩
              go_simp
              with_reducible rfl
            rotate_left
            · simp only [Act.put, List.setIfInBounds_toArray, List.set_cons_zero, List.set_cons_succ, i64_w, i32_w]
              rfl
            refine take_ (i := 11) (N := some 42) (v := ?_) (a' := ?_) #[true, true, true, true, true, true, true, true, true, true, true, true, false, false, false, false] rfl rfl (by kernel_rfl) (fun _ _ _ h => h) (Or.inl ⟨by rfl, ?_⟩) hHeld ?_ ?_
            rotate_left
            · rintro w' ⟨s0, s1⟩
              go_simp
              with_reducible rfl
            rotate_left
            · simp only [Act.put, List.setIfInBounds_toArray, List.set_cons_zero, List.set_cons_succ, i64_w, i32_w]
              rfl
            refine pz_ 12 43 rfl rfl (by kernel_rfl) ?_
            refine pz_ 13 44 rfl rfl (by kernel_rfl) ?_
            refine pz_ 14 45 rfl rfl (by kernel_rfl) ?_
            refine pz_ 15 30 rfl rfl (by kernel_rfl) ?_
            refine done_ (by kernel_rfl) ?_
            generalize wq.drew = wd at JQD o0 o1 o2 p0 p1 p2 ⊢
            go_wp2_with (fail)
            refine bodyPost_ret (results_ctt rfl _ _ ob 24 #[.int .i64 0, .slice none 0 0, .int .i64 0] (0, 0) _ rfl JQD.out.zero.1 Tryd.underlying24 rfl (by kernel_rfl)) rfl ?_
            exact ⟨_, rfl, Kd.R_nil _ _ _ _ _, JQD.out.zero.2⟩
      · rw [if_neg hg] at hr
        cases hr
    · have hr := HR.out
      rw [if_neg hd0] at hr
      cases hr
      have dn : (d != 0) = true := bne_iff_ne.2 hd0
      clear hd0 HR
      obtain ⟨b0, b1, b2, -, -, -⟩ := grp_cells J0.out.2.1
      go_wp2_with (fail)
      refine (HGC.out _ J0.out.1).mono ?_
      rintro e w4 ⟨rfl, hb⟩
      have J1 := Aside0.mk (J0.out.below hb)
      clear hb b0 b1 b2
      obtain ⟨y0, y1, y2, y3, y4, y5, y6, y7, y8, y9, y10, y11, y12, y13, y14, y15⟩ := rec_cells J1.out.2.2.1
      go_wp2_with (fail)
      refine (HWD.out _ J1.out.1).mono ?_
      rintro e w5 ⟨rfl, hb⟩
      have J2 := Aside0.mk (J1.out.below hb)
      clear hb y0 y1 y2 y3 y4 y5 y6 y7 y8 y9 y10 y11 y12 y13 y14 y15
      obtain ⟨o0, o1, o2, p0, p1, p2⟩ := grp_cells J2.out.2.2.2.1
      go_wp2_with (fail)
      refine bodyPost_ret (results_ctt rfl _ _ ob 24 #[.int .i64 0, .slice none 0 0, .int .i64 0] (0, 0) _ rfl J2.out.zero.1 Tryd.underlying24 rfl (by kernel_rfl)) rfl ?_
      exact ⟨_, rfl, Kd.R_nil _ _ _ _ _, J2.out.zero.2⟩
  · have hr := H.out
    rw [if_neg hc] at hr
    cases hr
    have dn : (c != 0) = true := bne_iff_ne.2 hc
    clear hc H HWC
    obtain ⟨b0, b1, b2, -, -, -⟩ := grp_cells J0.out.2.1
    go_wp2_with (fail)
    refine (HGC.out _ J0.out.1).mono ?_
    rintro e w4 ⟨rfl, hb⟩
    have J1 := Aside0.mk (J0.out.below hb)
    clear hb b0 b1 b2
    obtain ⟨o0, o1, o2, p0, p1, p2⟩ := grp_cells J1.out.2.2.2.1
    go_wp2_with (fail)
    refine bodyPost_ret (results_ctt rfl _ _ ob 24 #[.int .i64 0, .slice none 0 0, .int .i64 0] (0, 0) _ rfl J1.out.zero.1 Tryd.underlying24 rfl (by kernel_rfl)) rfl ?_
    exact ⟨_, rfl, Kd.R_nil _ _ _ _ _, J1.out.zero.2⟩
end Go.Proofs.YthemhfloablccaaDoor.Pr
end

section
namespace Go.Proofs.YthemhfloablccaaDoor.Pr
open Go.RowKit Go.Proofs.YthemhfloablccaaDoorW.PrintWords Go.Proofs.YthemhfloablccaaDoorW.PrintLast Go.Proofs.YthemhfloablccaaDoorW.PrintMore
attribute [local go_sem] max2_int min2_int max_two min_two max_three min_three max_four min_four
def group_New.l0 : Nat → Int → Int → List (S46) → Int → Option (Int × (List (S46)) × Int)
 | 0, _, _, _, _ => none
 | k + 1, x4, x135000, x135001, x135002 => if x4 < 6 then (if x135001.length < 5864062014805 then (group_New.l0 k (wrap64 (x4 + 1)) x135000 (x135001 ++ [(⟨wrap64 (x4 + 1), 0, ((wrap64 (x4 + 1)) == 1)⟩ : S46)]) x135002) else (none)) else (some (x135000, x135001, x135002))
def group_New.f (k : Nat)  : Option (Int × (List (S46)) × Int) := group_New.l0 k 0 1 ([] : List (S46)) 0
set_option maxHeartbeats 8000000 in
set_option maxRecDepth 100000 in
theorem group_New.calls (k : Nat)  (r1 : Int) (r2 : List (S46)) (r3 : Int) (w : World) (h : group_New.f k  = some (r1, r2, r3)) :
    Calls Tryd.prog 25 #[] w fun e w' => ∃ v1_ : Value, e = .returned (.agg #[.int .i64 r1, v1_, .int .i64 r3]) ∧ Kd.R k46 46 w' w.heap.size (fun _ => True) v1_ r2 ∧ Below w.heap.size w w' := by
  have hu24 := Tryd.underlying24; have hu46 := Tryd.underlying46; have HB := Aside0.mk (Below.refl w.heap.size w); have H : (group_New.l0 k 0 1 ([] : List (S46)) 0) = some (r1, r2, r3) := h; clear h; have H' := Aside0.mk H; clear H; go_enter Tryd.func25, Tryd.ntmps25
  go_wp2_with (first | ((with_reducible refine gate_dst (N := 0) rfl ?_); refine box_event ?hg (N := 0) ?hd (cs := #[.int .i64 0, .slice none 0 0, .int .i64 0]) (t := 24) ?hr ?_; (case hd => rfl); (case hg => rfl); (case hr => first | (go_simp; done) | (go_simp; rfl)); intro gb133 hg w1 hbox hb; have n0_ := Aside0.mk (below_step hb_ hb); have n1_ := Aside0.mk (hbox); have n2_ := Aside0.mk ((by rw [hg]; exact (below_size hb_) : w.heap.size ≤ gb133)); have n3_ := Aside0.mk ((by rw [hg]; exact (below_size hb_) : w.heap.size ≤ gb133)); clear HB; have HB := n0_; have BK133 := n1_; have GW133 := n2_; have GE133 := n3_; clear n0_ n1_ n2_ n3_; clear hb hbox hg) | ((with_reducible refine gate_dst (N := 1) rfl ?_); refine box_event ?hg (N := 1) ?hd (cs := #[.int .i64 0, .slice none 0 0, .int .i64 0]) (t := 24) ?hr ?_; (case hd => rfl); (case hg => rfl); (case hr => first | (go_simp; done) | (go_simp; rfl)); intro gb134 hg w2 hbox hb; have n0_ := Aside0.mk (blk_below (g := gb133) (o := .cells #[.int .i64 0, .slice none 0 0, .int .i64 0] 24 (0, 0)) (by (with_reducible repeat (first | refine blk_drewN ?_ _ | refine blk_drew ?_ | refine blk_alloc ?_ _)); exact BK133.out) hb); have n1_ := Aside0.mk (below_step (by repeat (first | (with_reducible first | exact HB.out | apply below_alloc | apply pw_below_drewN | apply below_drew1 | refine below_set ?_ GE133.out) | exact HB.out)) hb); have n2_ := Aside0.mk (hbox); have n3_ := Aside0.mk ((by rw [hg]; exact (below_size (by repeat (first | (with_reducible first | exact HB.out | apply below_alloc | apply pw_below_drewN | apply below_drew1 | refine below_set ?_ GE133.out) | exact HB.out))) : w.heap.size ≤ gb134)); have n4_ := Aside0.mk ((by rw [hg]; exact (below_size (by repeat (first | (with_reducible first | exact HB.out | apply below_alloc | apply pw_below_drewN | apply below_drew1 | refine below_set ?_ GE133.out) | exact HB.out))) : w.heap.size ≤ gb134)); have n5_ := Aside0.mk ((by rw [hg]; exact Nat.ne_of_lt (blk_lt (g := gb133) (o := .cells #[.int .i64 0, .slice none 0 0, .int .i64 0] 24 (0, 0)) (by (with_reducible repeat (first | refine blk_drewN ?_ _ | refine blk_drew ?_ | refine blk_alloc ?_ _)); exact BK133.out)) : gb133 ≠ gb134)); have n6_ := Aside0.mk ((by rw [hg]; exact Nat.ne_of_gt (blk_lt (g := gb133) (o := .cells #[.int .i64 0, .slice none 0 0, .int .i64 0] 24 (0, 0)) (by (with_reducible repeat (first | refine blk_drewN ?_ _ | refine blk_drew ?_ | refine blk_alloc ?_ _)); exact BK133.out)) : gb134 ≠ gb133)); clear BK133; clear HB; have BK133 := n0_; have HB := n1_; have BK134 := n2_; have GW134 := n3_; have GE134 := n4_; have NB133_134 := n5_; have NB134_133 := n6_; clear n0_ n1_ n2_ n3_ n4_ n5_ n6_; clear hb hbox hg; have hnb3 := NB134_133.out; have hnc3 := NB133_134.out; have hcz4_0 : w2.cell? ⟨gb134, 0, none⟩ = some (.int .i64 0) := (blk_cell BK134.out 0).trans rfl; have hcz4_1 : w2.cell? ⟨gb134, 1, none⟩ = some (.slice none 0 0) := (blk_cell BK134.out 1).trans rfl; have hcz4_2 : w2.cell? ⟨gb134, 2, none⟩ = some (.int .i64 0) := (blk_cell BK134.out 2).trans rfl; have hfz4_0 := blk_frozen BK134.out 0; have hfz4_1 := blk_frozen BK134.out 1; have hfz4_2 := blk_frozen BK134.out 2))
  go_loopg [4] k (fun kq v4 w' => ∃ (x4_1 : Int) (x135001_1 : List (S46)) (u135001 : Value), v4 = .int .i64 x4_1 ∧ Aside0 (group_New.l0 kq x4_1 1 x135001_1 0 = some (r1, r2, r3)) ∧ Aside0 (kq ≤ k) ∧ Aside0 (Kd.R k46 46 w' w.heap.size (fun _ => True) u135001 x135001_1) ∧ Aside0 (w'.heap[gb133]? = some (.cells #[.int .i64 0, (.slice none 0 0), .int .i64 0] 24 (0, 0))) ∧ Aside0 (w'.heap[gb134]? = some (.cells #[.int .i64 1, u135001, .int .i64 0] 24 (0, 0))) ∧ Aside0 (Below w.heap.size w w'))
  case atStart => exact ⟨(0), (([] : List (S46))), (.slice none 0 0), rz_, H', ⟨Nat.le_refl _⟩, ⟨by first | exact Kd.R_nil _ _ _ _ _ | exact Kd.N_nil _ _ _ _ _ | exact Kd.V_nil _ _ _ _ _ | exact Kd.Q_nil _ _ _ _ _ | exact Kd.S_nil _ _ _ _ _⟩, ⟨by (with_reducible repeat (first | refine blk_drewN ?_ _ | refine blk_drew ?_ | refine blk_alloc ?_ _)); refine blk_far ?_ NB133_134.out _; (with_reducible repeat (first | refine blk_drewN ?_ _ | refine blk_drew ?_ | refine blk_alloc ?_ _)); refine blk_far ?_ NB133_134.out _; (with_reducible repeat (first | refine blk_drewN ?_ _ | refine blk_drew ?_ | refine blk_alloc ?_ _)); refine blk_far ?_ NB133_134.out _; (with_reducible repeat (first | refine blk_drewN ?_ _ | refine blk_drew ?_ | refine blk_alloc ?_ _)); exact BK133.out⟩, ⟨by (with_reducible repeat (first | refine blk_drewN ?_ _ | refine blk_drew ?_ | refine blk_alloc ?_ _)); refine blk_put (cs := #[.int .i64 1, .slice none 0 0, .int .i64 0]) ?_ 2 _ rfl; (with_reducible repeat (first | refine blk_drewN ?_ _ | refine blk_drew ?_ | refine blk_alloc ?_ _)); refine blk_put (cs := #[.int .i64 1, .slice none 0 0, .int .i64 0]) ?_ 1 _ rfl; (with_reducible repeat (first | refine blk_drewN ?_ _ | refine blk_drew ?_ | refine blk_alloc ?_ _)); refine blk_put (cs := #[.int .i64 0, .slice none 0 0, .int .i64 0]) ?_ 0 _ rfl; (with_reducible repeat (first | refine blk_drewN ?_ _ | refine blk_drew ?_ | refine blk_alloc ?_ _)); exact BK134.out⟩, ⟨by repeat (first | (with_reducible first | exact HB.out | apply below_alloc | apply pw_below_drewN | apply below_drew1 | refine below_set ?_ GE133.out | refine below_set ?_ GE134.out) | exact HB.out)⟩⟩
  case round =>
    clear H'; obtain ⟨x4_1, x135001_1, u135001, rfl, HA, HK1, HO_135001, BK133, BK134, HB⟩ := hrel; cases gk with
    | zero => exact absurd HA.out (by simp [group_New.l0])
    | succ k1 =>
      have H := HA.out; clear HA; simp only [group_New.l0] at H; by_cases c5 : x4_1 < 6
      · rw [if_pos c5] at H; have c5b0 : decide (x4_1 < 6) = true := decide_eq_true c5; clear c5; by_cases c6 : x135001_1.length < 5864062014805
        · rw [if_pos c6] at H; have LMc6 := Aside0.mk c6; clear c6; obtain ⟨y135, hy135⟩ : ∃ y_ : List (S46), y_ = (x135001_1 ++ [(⟨wrap64 (x4_1 + 1), 0, ((wrap64 (x4_1 + 1)) == 1)⟩ : S46)]) := ⟨_, rfl⟩; replace H : (group_New.l0 k1 (wrap64 (x4_1 + 1)) 1 y135 0) = some (r1, r2, r3) := by first | (rw [hy135]; with_reducible exact H) | (have H2_ := (Option.bind_some _ _).symm.trans H; rw [hy135]; with_reducible exact H2_) | (have H2_ := (Option.bind_some _ _).symm.trans H; with_reducible exact H2_) | with_reducible exact H | (rw [hy135]; exact H) | exact H
          have Ny135 := Aside0.mk hy135; clear hy135; have H' := Aside0.mk H; clear H; have hnb7 := NB134_133.out; have hnc7 := NB133_134.out; have hcz8_0 : wr.cell? ⟨gb134, 0, none⟩ = some (.int .i64 1) := (blk_cell BK134.out 0).trans rfl; have hcz8_1 : wr.cell? ⟨gb134, 1, none⟩ = some (u135001) := (blk_cell BK134.out 1).trans rfl; have hcz8_2 : wr.cell? ⟨gb134, 2, none⟩ = some (.int .i64 0) := (blk_cell BK134.out 2).trans rfl; have hfz8_0 := blk_frozen BK134.out 0; have hfz8_1 := blk_frozen BK134.out 1; have hfz8_2 := blk_frozen BK134.out 2; go_wp2_with (first | ((with_reducible refine gate_builtin (b := .append) (xs := #[.tmp 8, .tmp 15]) rfl ?_); at_builtin; refine Kd.R_append k46 (w0 := w) w.heap.size rfl (.tmp 8) (.tmp 15) 22 46 (.agg #[(.int .i64 0), (.int .i64 0), (.bool false)]) 24 rfl Tryd.underlying22 info46 rfl (by decide) (by omega) u135001 x135001_1 (⟨wrap64 (x4_1 + 1), 0, ((wrap64 (x4_1 + 1)) == 1)⟩ : S46) [.int .i64 (wrap64 (x4_1 + 1)), .int .i64 0, .bool ((wrap64 (x4_1 + 1)) == 1)] (fun _ => True) (fun _ => False) rfl rfl ?aP (fun _ hk => hk.elim) ?aF ?aO ?aB ?aS ?aL ?_; (case aP => exact k46_mkM _ _ _ (⟨wrap64 (x4_1 + 1), 0, ((wrap64 (x4_1 + 1)) == 1)⟩ : S46)); (case aB => exact (by repeat (first | (with_reducible first | exact HB.out | apply below_alloc | apply pw_below_drewN | apply below_drew1 | refine below_set ?_ GE133.out | refine below_set ?_ GE134.out) | exact HB.out))); (case aF => exact (fun _ _ => trivial)); (case aO => exact (ra_ HO_135001.out)); (case aS => exact (below_size (by repeat (first | (with_reducible first | exact HB.out | apply below_alloc | apply pw_below_drewN | apply below_drew1 | refine below_set ?_ GE133.out | refine below_set ?_ GE134.out) | exact HB.out)))); (case aL => have := LMc6.out; omega); intro v136 w9 ho hb hg hat; rw [← Ny135.out] at ho; have n0_ := Aside0.mk (blk_grown (g := gb133) (o := .cells #[.int .i64 0, .slice none 0 0, .int .i64 0] 24 (0, 0)) (by (with_reducible repeat (first | refine blk_drewN ?_ _ | refine blk_drew ?_ | refine blk_alloc ?_ _)); exact BK133.out) hg (Kd.R_ne HO_135001.out BK133.out (by decide))); have n1_ := Aside0.mk (blk_grown (g := gb134) (o := .cells #[.int .i64 1, u135001, .int .i64 0] 24 (0, 0)) (by (with_reducible repeat (first | refine blk_drewN ?_ _ | refine blk_drew ?_ | refine blk_alloc ?_ _)); exact BK134.out) hg (Kd.R_ne HO_135001.out BK134.out (by decide))); have n2_ := Aside0.mk (hb); have n3_ := Aside0.mk (ho); clear BK133; clear BK134; clear HB; clear HO_135001; have BK133 := n0_; have BK134 := n1_; have HB := n2_; have HO137 := n3_; clear n0_ n1_ n2_ n3_; clear ho hb hg hat; obtain ⟨Ao10, co10, eo10⟩ := Kd.R_slice HO137.out; subst eo10; have hcz11_0 : w9.cell? ⟨gb134, 0, none⟩ = some (.int .i64 1) := (blk_cell BK134.out 0).trans rfl; have hcz11_1 : w9.cell? ⟨gb134, 1, none⟩ = some (u135001) := (blk_cell BK134.out 1).trans rfl; have hcz11_2 : w9.cell? ⟨gb134, 2, none⟩ = some (.int .i64 0) := (blk_cell BK134.out 2).trans rfl; have hfz11_0 := blk_frozen BK134.out 0; have hfz11_1 := blk_frozen BK134.out 1; have hfz11_2 := blk_frozen BK134.out 2))
          go_roundg k1
          case measure => have := HK1.out; omega
          case rel => exact ⟨(wrap64 (x4_1 + 1)), (y135), (.slice Ao10 y135.length co10), rz_, H', ⟨by have := HK1.out; omega⟩, ⟨by (with_reducible repeat (first | apply Kd.R_alloc | apply Kd.R_drewN | apply Kd.R_drew)); exact Kd.R_mono (Kd.R_far (p := ⟨gb134, 1, none⟩) (Kd.R_types HO137.out BK134.out (by decide)) (fun _ hk => hk.2) (.slice Ao10 y135.length co10)) (fun _ hk => trivial)⟩, ⟨by (with_reducible repeat (first | refine blk_drewN ?_ _ | refine blk_drew ?_ | refine blk_alloc ?_ _)); refine blk_far ?_ NB133_134.out _; (with_reducible repeat (first | refine blk_drewN ?_ _ | refine blk_drew ?_ | refine blk_alloc ?_ _)); exact BK133.out⟩, ⟨by (with_reducible repeat (first | refine blk_drewN ?_ _ | refine blk_drew ?_ | refine blk_alloc ?_ _)); refine blk_put (cs := #[.int .i64 1, u135001, .int .i64 0]) ?_ 1 _ rfl; (with_reducible repeat (first | refine blk_drewN ?_ _ | refine blk_drew ?_ | refine blk_alloc ?_ _)); exact BK134.out⟩, ⟨by repeat (first | (with_reducible first | exact HB.out | apply below_alloc | apply pw_below_drewN | apply below_drew1 | refine below_set ?_ GE133.out | refine below_set ?_ GE134.out) | exact HB.out)⟩⟩
        · rw [if_neg c6] at H; exact absurd H (by simp)
      · rw [if_neg c5] at H; have c5b0 : decide (x4_1 < 6) = false := decide_eq_false c5; clear c5; simp only [Option.some.injEq, Prod.mk.injEq] at H; obtain ⟨rfl, rfl, rfl⟩ := H; have hnb12 := NB134_133.out; have hnc12 := NB133_134.out; have hcz13_0 : wr.cell? ⟨gb134, 0, none⟩ = some (.int .i64 1) := (blk_cell BK134.out 0).trans rfl; have hcz13_1 : wr.cell? ⟨gb134, 1, none⟩ = some (u135001) := (blk_cell BK134.out 1).trans rfl; have hcz13_2 : wr.cell? ⟨gb134, 2, none⟩ = some (.int .i64 0) := (blk_cell BK134.out 2).trans rfl; have hfz13_0 := blk_frozen BK134.out 0; have hfz13_1 := blk_frozen BK134.out 1; have hfz13_2 := blk_frozen BK134.out 2; have hcz14_0 : wr.cell? ⟨gb133, 0, none⟩ = some (.int .i64 0) := (blk_cell BK133.out 0).trans rfl; have hcz14_1 : wr.cell? ⟨gb133, 1, none⟩ = some (.slice none 0 0) := (blk_cell BK133.out 1).trans rfl; have hcz14_2 : wr.cell? ⟨gb133, 2, none⟩ = some (.int .i64 0) := (blk_cell BK133.out 2).trans rfl; have hfz14_0 := blk_frozen BK133.out 0; have hfz14_1 := blk_frozen BK133.out 1; have hfz14_2 := blk_frozen BK133.out 2; obtain ⟨Ao15, co15, eo15⟩ := Kd.R_slice HO_135001.out; subst eo15; go_wp2; refine bodyPost_ret (results_cell_row rfl _ _ gb133 24 #[.int .i64 1, .slice Ao15 x135001_1.length co15, .int .i64 0] (0, 0) _ rfl (by (with_reducible repeat (first | refine blk_drewN ?_ _ | refine blk_drew ?_ | refine blk_alloc ?_ _)); refine blk_put (cs := #[.int .i64 1, .slice Ao15 x135001_1.length co15, .int .i64 0]) ?_ 2 _ rfl; (with_reducible repeat (first | refine blk_drewN ?_ _ | refine blk_drew ?_ | refine blk_alloc ?_ _)); refine blk_put (cs := #[.int .i64 1, .slice none 0 0, .int .i64 0]) ?_ 1 _ rfl; (with_reducible repeat (first | refine blk_drewN ?_ _ | refine blk_drew ?_ | refine blk_alloc ?_ _)); refine blk_put (cs := #[.int .i64 0, .slice none 0 0, .int .i64 0]) ?_ 0 _ rfl; (with_reducible repeat (first | refine blk_drewN ?_ _ | refine blk_drew ?_ | refine blk_alloc ?_ _)); exact BK133.out) Tryd.underlying24 rfl (by kernel_rfl)) rfl ?_; exact ⟨_, ew_, by (with_reducible repeat (first | apply Kd.R_alloc | apply Kd.R_drewN | apply Kd.R_drew)); exact Kd.R_mono (Kd.R_far (p := ⟨gb133, 2, none⟩) (Kd.R_far (p := ⟨gb133, 1, none⟩) (Kd.R_far (p := ⟨gb133, 0, none⟩) (Kd.R_types HO_135001.out BK133.out (by decide)) (fun _ hk => hk.2) (.int .i64 1)) (fun _ hk => hk.2) (.slice Ao15 x135001_1.length co15)) (fun _ hk => hk.2) (.int .i64 0)) (fun _ hk => trivial), by repeat (first | (with_reducible first | exact HB.out | apply below_alloc | apply pw_below_drewN | apply below_drew1 | refine below_set ?_ GE133.out | refine below_set ?_ GE134.out) | exact HB.out)⟩
def samphirelaw20_control.f (a0 : Int) (a1 : Int) (a2 : Int) : Option (Int × Int × Int × Int × ByteArray × Int × Int × Int × Int × Int × Int × Int × ByteArray × ByteArray × Int × (List (S80))) := if 32 ≤ 281474976710656 then (some (a0, 1, a1, 0, strOfNums (List.replicate 32 0), 0, 0, 0, 0, 0, 0, 0, (⟨#[]⟩ : ByteArray), (⟨#[]⟩ : ByteArray), a2, ([] : List (S80)))) else (none)
set_option maxHeartbeats 8000000 in
set_option maxRecDepth 100000 in
theorem samphirelaw20_control.calls (a0 : Int) (a1 : Int) (a2 : Int) (r1 : Int) (r2 : Int) (r3 : Int) (r4 : Int) (r5 : ByteArray) (r6 : Int) (r7 : Int) (r8 : Int) (r9 : Int) (r10 : Int) (r11 : Int) (r12 : Int) (r13 : ByteArray) (r14 : ByteArray) (r15 : Int) (r16 : List (S80)) (w : World) (h : samphirelaw20_control.f a0 a1 a2 = some (r1, r2, r3, r4, r5, r6, r7, r8, r9, r10, r11, r12, r13, r14, r15, r16)) :
  Calls Tryd.prog 31 #[.int .i64 a0, .int .i64 a1, .int .i64 a2] w fun e w' => ∃ v15_ : Value, e = .returned (.agg #[.int .i64 r1, .int .i64 r2, .int .i64 r3, .int .i64 r4, .string r5, .int .i64 r6, .int .i64 r7, .int .i64 r8, .int .i64 r9, .int .i64 r10, .int .i64 r11, .int .i64 r12, .string r13, .string r14, .int .i64 r15, v15_]) ∧ Kd.R k80 80 w' w.heap.size (fun _ => True) v15_ r16 ∧ Below w.heap.size w w' := by
 have hu31 := Tryd.underlying31; have HB := Aside0.mk (Below.refl w.heap.size w); have H : (if 32 ≤ 281474976710656 then (some (a0, 1, a1, 0, strOfNums (List.replicate 32 0), 0, 0, 0, 0, 0, 0, 0, (⟨#[]⟩ : ByteArray), (⟨#[]⟩ : ByteArray), a2, ([] : List (S80)))) else (none)) = some (r1, r2, r3, r4, r5, r6, r7, r8, r9, r10, r11, r12, r13, r14, r15, r16) := h; clear h; by_cases c4 : 32 ≤ 281474976710656
 ·rw [if_pos c4] at H; have c4b0 := eq_true c4; have c4b1 : decide (32 ≤ 281474976710656) = true := decide_eq_true c4; clear c4; obtain ⟨y196, hy196⟩ : ∃ y_ : List Int, y_ = (List.replicate 32 0) := ⟨_, rfl⟩; replace H : (some (a0, 1, a1, 0, strOfNums y196, 0, 0, 0, 0, 0, 0, 0, (⟨#[]⟩ : ByteArray), (⟨#[]⟩ : ByteArray), a2, ([] : List (S80)))) = some (r1, r2, r3, r4, r5, r6, r7, r8, r9, r10, r11, r12, r13, r14, r15, r16) := by first | (rw [hy196]; with_reducible exact H) | (have H2_ := (Option.bind_some _ _).symm.trans H; rw [hy196]; with_reducible exact H2_) | (have H2_ := (Option.bind_some _ _).symm.trans H; with_reducible exact H2_) | with_reducible exact H | (rw [hy196]; exact H) | exact H
  have Ny196 := Aside0.mk hy196; clear hy196; simp only [Option.some.injEq, Prod.mk.injEq] at H; obtain ⟨rfl, rfl, rfl, rfl, rfl, rfl, rfl, rfl, rfl, rfl, rfl, rfl, rfl, rfl, rfl, rfl⟩ := H; go_enter Tryd.func31, Tryd.ntmps31
  go_wp2_with (first | ((with_reducible refine gate_dst (N := 6) rfl ?_); refine box_event ?hg (N := 6) ?hd (cs := #[.int .i64 0, .int .i64 0, .int .i64 0, .int .i64 0, .string (⟨#[]⟩ : ByteArray), .int .i64 0, .int .i64 0, .int .i64 0, .int .i64 0, .int .i64 0, .int .i64 0, .int .i64 0, .string (⟨#[]⟩ : ByteArray), .string (⟨#[]⟩ : ByteArray), .int .i64 0, .slice none 0 0]) (t := 31) ?hr ?_; (case hd => rfl); (case hg => rfl); (case hr => first | (go_simp; done) | (go_simp; rfl)); intro gb195 hg w5 hbox hb; have n0_ := Aside0.mk (below_step hb_ hb); have n1_ := Aside0.mk (hbox); have n2_ := Aside0.mk ((by rw [hg]; exact (below_size hb_) : w.heap.size ≤ gb195)); have n3_ := Aside0.mk ((by rw [hg]; exact (below_size hb_) : w.heap.size ≤ gb195)); clear HB; have HB := n0_; have BK195 := n1_; have GW195 := n2_; have GE195 := n3_; clear n0_ n1_ n2_ n3_; clear hb hbox hg) | ((with_reducible refine gate_dst (N := 9) rfl ?_); refine Kd.R_make (Kd.int .u8) _ 5 rfl (N := 9) rfl 53 _ _ rfl 32 rfl rfl Tryd.underlying53 (.int .u8 0) 1 info5 rfl (by decide) (by omega) 0 (ok := fun _ => True) (okp := fun _ => True) rfl (fun _ hk => hk) trivial (by omega) (by omega) (Below.refl _ _) (Nat.le_refl _) ?_; intro v197 w6 ho7 hb hg_ hnew_; clear hg_ hnew_; (first | rw [← Ny196.out] at ho7 | (simp only [Int.reduceToNat] at ho7; rw [← Ny196.out] at ho7)); have n0_ := Aside0.mk (Kd.R_lower ho7 (below_size (by repeat (first | (with_reducible first | exact HB.out | apply below_alloc | apply pw_below_drewN | apply below_drew1 | refine below_set ?_ GE195.out) | exact HB.out)))); have n1_ := Aside0.mk (blk_below (g := gb195) (o := .cells #[.int .i64 0, .int .i64 0, .int .i64 0, .int .i64 0, .string (⟨#[]⟩ : ByteArray), .int .i64 0, .int .i64 0, .int .i64 0, .int .i64 0, .int .i64 0, .int .i64 0, .int .i64 0, .string (⟨#[]⟩ : ByteArray), .string (⟨#[]⟩ : ByteArray), .int .i64 0, .slice none 0 0] 31 (0, 0)) (by (with_reducible repeat (first | refine blk_drewN ?_ _ | refine blk_drew ?_ | refine blk_alloc ?_ _)); exact BK195.out) hb); have n2_ := Aside0.mk (below_step (by repeat (first | (with_reducible first | exact HB.out | apply below_alloc | apply pw_below_drewN | apply below_drew1 | refine below_set ?_ GE195.out) | exact HB.out)) hb); clear BK195; clear HB; have HO198 := n0_; have BK195 := n1_; have HB := n2_; clear n0_ n1_ n2_; clear hb ho7; have hcv8 := own_string (P := Tryd.prog) Tryd.underlying53 Tryd.underlying5 Tryd.underlying9 (Kd.own_of_R HO198.out); have hcz9_0 : w6.cell? ⟨gb195, 0, none⟩ = some (.int .i64 0) := (blk_cell BK195.out 0).trans rfl; have hcz9_1 : w6.cell? ⟨gb195, 1, none⟩ = some (.int .i64 0) := (blk_cell BK195.out 1).trans rfl; have hcz9_2 : w6.cell? ⟨gb195, 2, none⟩ = some (.int .i64 0) := (blk_cell BK195.out 2).trans rfl; have hcz9_3 : w6.cell? ⟨gb195, 3, none⟩ = some (.int .i64 0) := (blk_cell BK195.out 3).trans rfl; have hcz9_4 : w6.cell? ⟨gb195, 4, none⟩ = some (.string (⟨#[]⟩ : ByteArray)) := (blk_cell BK195.out 4).trans rfl; have hcz9_5 : w6.cell? ⟨gb195, 5, none⟩ = some (.int .i64 0) := (blk_cell BK195.out 5).trans rfl; have hcz9_6 : w6.cell? ⟨gb195, 6, none⟩ = some (.int .i64 0) := (blk_cell BK195.out 6).trans rfl; have hcz9_7 : w6.cell? ⟨gb195, 7, none⟩ = some (.int .i64 0) := (blk_cell BK195.out 7).trans rfl; have hcz9_8 : w6.cell? ⟨gb195, 8, none⟩ = some (.int .i64 0) := (blk_cell BK195.out 8).trans rfl; have hcz9_9 : w6.cell? ⟨gb195, 9, none⟩ = some (.int .i64 0) := (blk_cell BK195.out 9).trans rfl; have hcz9_10 : w6.cell? ⟨gb195, 10, none⟩ = some (.int .i64 0) := (blk_cell BK195.out 10).trans rfl; have hcz9_11 : w6.cell? ⟨gb195, 11, none⟩ = some (.int .i64 0) := (blk_cell BK195.out 11).trans rfl; have hcz9_12 : w6.cell? ⟨gb195, 12, none⟩ = some (.string (⟨#[]⟩ : ByteArray)) := (blk_cell BK195.out 12).trans rfl; have hcz9_13 : w6.cell? ⟨gb195, 13, none⟩ = some (.string (⟨#[]⟩ : ByteArray)) := (blk_cell BK195.out 13).trans rfl; have hcz9_14 : w6.cell? ⟨gb195, 14, none⟩ = some (.int .i64 0) := (blk_cell BK195.out 14).trans rfl; have hcz9_15 : w6.cell? ⟨gb195, 15, none⟩ = some (.slice none 0 0) := (blk_cell BK195.out 15).trans rfl; have hfz9_0 := blk_frozen BK195.out 0; have hfz9_1 := blk_frozen BK195.out 1; have hfz9_2 := blk_frozen BK195.out 2; have hfz9_3 := blk_frozen BK195.out 3; have hfz9_4 := blk_frozen BK195.out 4; have hfz9_5 := blk_frozen BK195.out 5; have hfz9_6 := blk_frozen BK195.out 6; have hfz9_7 := blk_frozen BK195.out 7; have hfz9_8 := blk_frozen BK195.out 8; have hfz9_9 := blk_frozen BK195.out 9; have hfz9_10 := blk_frozen BK195.out 10; have hfz9_11 := blk_frozen BK195.out 11; have hfz9_12 := blk_frozen BK195.out 12; have hfz9_13 := blk_frozen BK195.out 13; have hfz9_14 := blk_frozen BK195.out 14; have hfz9_15 := blk_frozen BK195.out 15))
  refine bodyPost_ret (results_cell_row rfl _ _ gb195 31 #[.int .i64 a0, .int .i64 1, .int .i64 a1, .int .i64 0, .string (strOfNums y196), .int .i64 0, .int .i64 0, .int .i64 0, .int .i64 0, .int .i64 0, .int .i64 0, .int .i64 0, .string (⟨#[]⟩ : ByteArray), .string (⟨#[]⟩ : ByteArray), .int .i64 a2, .slice none 0 0] (0, 0) _ rfl (by (with_reducible repeat (first | refine blk_drewN ?_ _ | refine blk_drew ?_ | refine blk_alloc ?_ _)); refine blk_put (cs := #[.int .i64 a0, .int .i64 1, .int .i64 a1, .int .i64 0, .string (strOfNums y196), .int .i64 0, .int .i64 0, .int .i64 0, .int .i64 0, .int .i64 0, .int .i64 0, .int .i64 0, .string (⟨#[]⟩ : ByteArray), .string (⟨#[]⟩ : ByteArray), .int .i64 a2, .slice none 0 0]) ?_ 15 _ rfl; (with_reducible repeat (first | refine blk_drewN ?_ _ | refine blk_drew ?_ | refine blk_alloc ?_ _)); refine blk_put (cs := #[.int .i64 a0, .int .i64 1, .int .i64 a1, .int .i64 0, .string (strOfNums y196), .int .i64 0, .int .i64 0, .int .i64 0, .int .i64 0, .int .i64 0, .int .i64 0, .int .i64 0, .string (⟨#[]⟩ : ByteArray), .string (⟨#[]⟩ : ByteArray), .int .i64 0, .slice none 0 0]) ?_ 14 _ rfl; (with_reducible repeat (first | refine blk_drewN ?_ _ | refine blk_drew ?_ | refine blk_alloc ?_ _)); refine blk_put (cs := #[.int .i64 a0, .int .i64 1, .int .i64 a1, .int .i64 0, .string (strOfNums y196), .int .i64 0, .int .i64 0, .int .i64 0, .int .i64 0, .int .i64 0, .int .i64 0, .int .i64 0, .string (⟨#[]⟩ : ByteArray), .string (⟨#[]⟩ : ByteArray), .int .i64 0, .slice none 0 0]) ?_ 13 _ rfl; (with_reducible repeat (first | refine blk_drewN ?_ _ | refine blk_drew ?_ | refine blk_alloc ?_ _)); refine blk_put (cs := #[.int .i64 a0, .int .i64 1, .int .i64 a1, .int .i64 0, .string (strOfNums y196), .int .i64 0, .int .i64 0, .int .i64 0, .int .i64 0, .int .i64 0, .int .i64 0, .int .i64 0, .string (⟨#[]⟩ : ByteArray), .string (⟨#[]⟩ : ByteArray), .int .i64 0, .slice none 0 0]) ?_ 12 _ rfl; (with_reducible repeat (first | refine blk_drewN ?_ _ | refine blk_drew ?_ | refine blk_alloc ?_ _)); refine blk_put (cs := #[.int .i64 a0, .int .i64 1, .int .i64 a1, .int .i64 0, .string (strOfNums y196), .int .i64 0, .int .i64 0, .int .i64 0, .int .i64 0, .int .i64 0, .int .i64 0, .int .i64 0, .string (⟨#[]⟩ : ByteArray), .string (⟨#[]⟩ : ByteArray), .int .i64 0, .slice none 0 0]) ?_ 11 _ rfl; (with_reducible repeat (first | refine blk_drewN ?_ _ | refine blk_drew ?_ | refine blk_alloc ?_ _)); refine blk_put (cs := #[.int .i64 a0, .int .i64 1, .int .i64 a1, .int .i64 0, .string (strOfNums y196), .int .i64 0, .int .i64 0, .int .i64 0, .int .i64 0, .int .i64 0, .int .i64 0, .int .i64 0, .string (⟨#[]⟩ : ByteArray), .string (⟨#[]⟩ : ByteArray), .int .i64 0, .slice none 0 0]) ?_ 10 _ rfl; (with_reducible repeat (first | refine blk_drewN ?_ _ | refine blk_drew ?_ | refine blk_alloc ?_ _)); refine blk_put (cs := #[.int .i64 a0, .int .i64 1, .int .i64 a1, .int .i64 0, .string (strOfNums y196), .int .i64 0, .int .i64 0, .int .i64 0, .int .i64 0, .int .i64 0, .int .i64 0, .int .i64 0, .string (⟨#[]⟩ : ByteArray), .string (⟨#[]⟩ : ByteArray), .int .i64 0, .slice none 0 0]) ?_ 9 _ rfl; (with_reducible repeat (first | refine blk_drewN ?_ _ | refine blk_drew ?_ | refine blk_alloc ?_ _)); refine blk_put (cs := #[.int .i64 a0, .int .i64 1, .int .i64 a1, .int .i64 0, .string (strOfNums y196), .int .i64 0, .int .i64 0, .int .i64 0, .int .i64 0, .int .i64 0, .int .i64 0, .int .i64 0, .string (⟨#[]⟩ : ByteArray), .string (⟨#[]⟩ : ByteArray), .int .i64 0, .slice none 0 0]) ?_ 8 _ rfl; (with_reducible repeat (first | refine blk_drewN ?_ _ | refine blk_drew ?_ | refine blk_alloc ?_ _)); refine blk_put (cs := #[.int .i64 a0, .int .i64 1, .int .i64 a1, .int .i64 0, .string (strOfNums y196), .int .i64 0, .int .i64 0, .int .i64 0, .int .i64 0, .int .i64 0, .int .i64 0, .int .i64 0, .string (⟨#[]⟩ : ByteArray), .string (⟨#[]⟩ : ByteArray), .int .i64 0, .slice none 0 0]) ?_ 7 _ rfl; (with_reducible repeat (first | refine blk_drewN ?_ _ | refine blk_drew ?_ | refine blk_alloc ?_ _)); refine blk_put (cs := #[.int .i64 a0, .int .i64 1, .int .i64 a1, .int .i64 0, .string (strOfNums y196), .int .i64 0, .int .i64 0, .int .i64 0, .int .i64 0, .int .i64 0, .int .i64 0, .int .i64 0, .string (⟨#[]⟩ : ByteArray), .string (⟨#[]⟩ : ByteArray), .int .i64 0, .slice none 0 0]) ?_ 6 _ rfl; (with_reducible repeat (first | refine blk_drewN ?_ _ | refine blk_drew ?_ | refine blk_alloc ?_ _)); refine blk_put (cs := #[.int .i64 a0, .int .i64 1, .int .i64 a1, .int .i64 0, .string (strOfNums y196), .int .i64 0, .int .i64 0, .int .i64 0, .int .i64 0, .int .i64 0, .int .i64 0, .int .i64 0, .string (⟨#[]⟩ : ByteArray), .string (⟨#[]⟩ : ByteArray), .int .i64 0, .slice none 0 0]) ?_ 5 _ rfl; (with_reducible repeat (first | refine blk_drewN ?_ _ | refine blk_drew ?_ | refine blk_alloc ?_ _)); refine blk_put (cs := #[.int .i64 a0, .int .i64 1, .int .i64 a1, .int .i64 0, .string (⟨#[]⟩ : ByteArray), .int .i64 0, .int .i64 0, .int .i64 0, .int .i64 0, .int .i64 0, .int .i64 0, .int .i64 0, .string (⟨#[]⟩ : ByteArray), .string (⟨#[]⟩ : ByteArray), .int .i64 0, .slice none 0 0]) ?_ 4 _ rfl; (with_reducible repeat (first | refine blk_drewN ?_ _ | refine blk_drew ?_ | refine blk_alloc ?_ _)); refine blk_put (cs := #[.int .i64 a0, .int .i64 1, .int .i64 a1, .int .i64 0, .string (⟨#[]⟩ : ByteArray), .int .i64 0, .int .i64 0, .int .i64 0, .int .i64 0, .int .i64 0, .int .i64 0, .int .i64 0, .string (⟨#[]⟩ : ByteArray), .string (⟨#[]⟩ : ByteArray), .int .i64 0, .slice none 0 0]) ?_ 3 _ rfl; (with_reducible repeat (first | refine blk_drewN ?_ _ | refine blk_drew ?_ | refine blk_alloc ?_ _)); refine blk_put (cs := #[.int .i64 a0, .int .i64 1, .int .i64 0, .int .i64 0, .string (⟨#[]⟩ : ByteArray), .int .i64 0, .int .i64 0, .int .i64 0, .int .i64 0, .int .i64 0, .int .i64 0, .int .i64 0, .string (⟨#[]⟩ : ByteArray), .string (⟨#[]⟩ : ByteArray), .int .i64 0, .slice none 0 0]) ?_ 2 _ rfl; (with_reducible repeat (first | refine blk_drewN ?_ _ | refine blk_drew ?_ | refine blk_alloc ?_ _)); refine blk_put (cs := #[.int .i64 a0, .int .i64 0, .int .i64 0, .int .i64 0, .string (⟨#[]⟩ : ByteArray), .int .i64 0, .int .i64 0, .int .i64 0, .int .i64 0, .int .i64 0, .int .i64 0, .int .i64 0, .string (⟨#[]⟩ : ByteArray), .string (⟨#[]⟩ : ByteArray), .int .i64 0, .slice none 0 0]) ?_ 1 _ rfl; (with_reducible repeat (first | refine blk_drewN ?_ _ | refine blk_drew ?_ | refine blk_alloc ?_ _)); refine blk_put (cs := #[.int .i64 0, .int .i64 0, .int .i64 0, .int .i64 0, .string (⟨#[]⟩ : ByteArray), .int .i64 0, .int .i64 0, .int .i64 0, .int .i64 0, .int .i64 0, .int .i64 0, .int .i64 0, .string (⟨#[]⟩ : ByteArray), .string (⟨#[]⟩ : ByteArray), .int .i64 0, .slice none 0 0]) ?_ 0 _ rfl; (with_reducible repeat (first | refine blk_drewN ?_ _ | refine blk_drew ?_ | refine blk_alloc ?_ _)); exact BK195.out) Tryd.underlying31 rfl (by kernel_rfl)) rfl ?_
  exact ⟨_, ew_, by first | exact Kd.R_nil _ _ _ _ _ | exact Kd.N_nil _ _ _ _ _ | exact Kd.V_nil _ _ _ _ _ | exact Kd.Q_nil _ _ _ _ _ | exact Kd.S_nil _ _ _ _ _, by repeat (first | (with_reducible first | exact HB.out | apply below_alloc | apply pw_below_drewN | apply below_drew1 | refine below_set ?_ GE195.out) | exact HB.out)⟩
 ·rw [if_neg c4] at H; exact absurd H (by simp)
theorem eqA46 (d : Nat) (w : World) (x0 y0 : Int) (x1 y1 : Int) (x2 y2 : Bool) :
  (Op.equalIn (d + 2) 46 (.agg #[.int .i64 x0, .int .i64 x1, .bool x2]) (.agg #[.int .i64 y0, .int .i64 y1, .bool y2])).run Tryd.prog w = .ok (x0 == y0 && (x1 == y1 && (x2 == y2))) w := by
 refine eqA_of Tryd.underlying46 (by kernel_rfl) ?_; refine eqf_cons (by rfl) (by go_simp; rfl) (by go_simp; rfl) (by go_simp) ?_; refine eqf_cons (by rfl) (by go_simp; rfl) (by go_simp; rfl) (by go_simp) ?_; exact eqf_last (by rfl) (by go_simp; rfl) (by go_simp; rfl) (by go_simp)
end Go.Proofs.YthemhfloablccaaDoor.Pr
end

section
namespace Go.Proofs.YthemhfloablccaaDoor.Pr
open Go.RowKit Go.Proofs.YthemhfloablccaaDoorW.PrintWords Go.Proofs.YthemhfloablccaaDoorW.PrintLast Go.Proofs.YthemhfloablccaaDoorW.PrintMore
attribute [local go_sem] max2_int min2_int max_two min_two max_three min_three max_four min_four
attribute [local go_sem high] eqA46
mutual
def samphireref20_Same.j0 : Nat → Bool → Int → List (S46) → Int → Int → List (S46) → Int → Option (Bool)
 | 0, _, _, _, _, _, _, _ => none
 | k + 1, x26, x130000, x130001, x130002, x131000, x131001, x131002 => if x26 = true then (some false) else (samphireref20_Same.l0 k 0 x130000 x130001 x130002 x131000 x131001 x131002)
def samphireref20_Same.l0 : Nat → Int → Int → List (S46) → Int → Int → List (S46) → Int → Option (Bool)
 | 0, _, _, _, _, _, _, _ => none
 | k + 1, x5, x130000, x130001, x130002, x131000, x131001, x131002 => if x5 < (x130001.length : Int) then (if 0 ≤ x5 then (if x5 < (x131001.length : Int) then (if (!(((rd_T46 x130001 x5).f0) == ((rd_T46 x131001 x5).f0)) || (!(((rd_T46 x130001 x5).f1) == ((rd_T46 x131001 x5).f1)) || (!(((rd_T46 x130001 x5).f2) == ((rd_T46 x131001 x5).f2))))) = true then (some false) else (samphireref20_Same.l0 k (wrap64 (x5 + 1)) x130000 x130001 x130002 x131000 x131001 x131002)) else (none)) else (none)) else (some true)
end
def samphireref20_Same.f (k : Nat) (a0_0 : Int) (l0_1 : List (S46)) (a0_2 : Int) (a1_0 : Int) (l1_1 : List (S46)) (a1_2 : Int) : Option (Bool) := if a0_0 = a1_0 then (if a0_2 = a1_2 then (samphireref20_Same.j0 k ((l0_1.length : Int) != (l1_1.length : Int)) a0_0 l0_1 a0_2 a1_0 l1_1 a1_2) else (samphireref20_Same.j0 k true a0_0 l0_1 a0_2 a1_0 l1_1 a1_2)) else (samphireref20_Same.j0 k true a0_0 l0_1 a0_2 a1_0 l1_1 a1_2)
set_option maxHeartbeats 8000000 in
set_option maxRecDepth 100000 in
theorem samphireref20_Same.calls (k : Nat) (a0_0 : Int) (A0_1 : Option Addr) (c0_1 : Nat) (l0_1 : List (S46)) (a0_2 : Int) (a1_0 : Int) (A1_1 : Option Addr) (c1_1 : Nat) (l1_1 : List (S46)) (a1_2 : Int) (r : Bool) (w : World) (hr0_1 : Kd.C k46 w A0_1 l0_1.length l0_1) (hc0_1 : l0_1.length ≤ c0_1) (hr1_1 : Kd.C k46 w A1_1 l1_1.length l1_1) (hc1_1 : l1_1.length ≤ c1_1) (h : samphireref20_Same.f k a0_0 l0_1 a0_2 a1_0 l1_1 a1_2 = some r) :
    Calls Tryd.prog 20 #[.agg #[.int .i64 a0_0, .slice A0_1 l0_1.length c0_1, .int .i64 a0_2], .agg #[.int .i64 a1_0, .slice A1_1 l1_1.length c1_1, .int .i64 a1_2]] w fun e w' => e = .returned (.bool r) ∧ Below w.heap.size w w' := by
  have hu24 := Tryd.underlying24; have hu46 := Tryd.underlying46; have HR0_1 := Aside0.mk hr0_1; have HC0_1 := Aside0.mk hc0_1; clear hr0_1 hc0_1; have HR1_1 := Aside0.mk hr1_1; have HC1_1 := Aside0.mk hc1_1; clear hr1_1 hc1_1; have HB := Aside0.mk (Below.refl w.heap.size w); have H : (if a0_0 = a1_0 then (if a0_2 = a1_2 then (samphireref20_Same.j0 k ((l0_1.length : Int) != (l1_1.length : Int)) a0_0 l0_1 a0_2 a1_0 l1_1 a1_2) else (samphireref20_Same.j0 k true a0_0 l0_1 a0_2 a1_0 l1_1 a1_2)) else (samphireref20_Same.j0 k true a0_0 l0_1 a0_2 a1_0 l1_1 a1_2)) = some r := h; clear h; have HC3 := Aside0.mk H; clear H; go_enter Tryd.func20, Tryd.ntmps20
  go_upto_region 1 with (first | ((with_reducible refine gate_dst (N := 2) rfl ?_); (try (refine gate_guard (by rfl) ?_; dsimp only)); refine box_event ?hg (N := 2) ?hd (cs := #[.int .i64 a0_0, .slice A0_1 l0_1.length c0_1, .int .i64 a0_2]) (t := 24) ?hr ?_; (case hd => rfl); (case hg => rfl); (case hr => first | (go_simp; done) | (go_simp; rfl)); intro gb129 hg w4 hbox hb; have n0_ := Aside0.mk (below_step hb_ hb); have n1_ := Aside0.mk (hbox); have n2_ := Aside0.mk ((by rw [hg]; exact (below_size hb_) : w.heap.size ≤ gb129)); have n3_ := Aside0.mk ((by rw [hg]; exact (below_size hb_) : w.heap.size ≤ gb129)); clear HB; have HB := n0_; have BK129 := n1_; have GW129 := n2_; have GE129 := n3_; clear n0_ n1_ n2_ n3_; clear hb hbox hg) | ((with_reducible refine gate_dst (N := 3) rfl ?_); (try (refine gate_guard (by rfl) ?_; dsimp only)); refine box_event ?hg (N := 3) ?hd (cs := #[.int .i64 a1_0, .slice A1_1 l1_1.length c1_1, .int .i64 a1_2]) (t := 24) ?hr ?_; (case hd => rfl); (case hg => rfl); (case hr => first | (go_simp; done) | (go_simp; rfl)); intro gb130 hg w5 hbox hb; have n0_ := Aside0.mk (blk_below (g := gb129) (o := .cells #[.int .i64 a0_0, .slice A0_1 l0_1.length c0_1, .int .i64 a0_2] 24 (0, 0)) (by (with_reducible repeat (first | refine blk_drewN ?_ _ | refine blk_drew ?_ | refine blk_alloc ?_ _)); exact BK129.out) hb); have n1_ := Aside0.mk (below_step (by repeat (first | (with_reducible first | exact HB.out | apply below_alloc | apply pw_below_drewN | apply below_drew1 | refine below_set ?_ GE129.out) | exact HB.out)) hb); have n2_ := Aside0.mk (hbox); have n3_ := Aside0.mk ((by rw [hg]; exact (below_size (by repeat (first | (with_reducible first | exact HB.out | apply below_alloc | apply pw_below_drewN | apply below_drew1 | refine below_set ?_ GE129.out) | exact HB.out))) : w.heap.size ≤ gb130)); have n4_ := Aside0.mk ((by rw [hg]; exact (below_size (by repeat (first | (with_reducible first | exact HB.out | apply below_alloc | apply pw_below_drewN | apply below_drew1 | refine below_set ?_ GE129.out) | exact HB.out))) : w.heap.size ≤ gb130)); have n5_ := Aside0.mk ((by rw [hg]; exact Nat.ne_of_lt (blk_lt (g := gb129) (o := .cells #[.int .i64 a0_0, .slice A0_1 l0_1.length c0_1, .int .i64 a0_2] 24 (0, 0)) (by (with_reducible repeat (first | refine blk_drewN ?_ _ | refine blk_drew ?_ | refine blk_alloc ?_ _)); exact BK129.out)) : gb129 ≠ gb130)); have n6_ := Aside0.mk ((by rw [hg]; exact Nat.ne_of_gt (blk_lt (g := gb129) (o := .cells #[.int .i64 a0_0, .slice A0_1 l0_1.length c0_1, .int .i64 a0_2] 24 (0, 0)) (by (with_reducible repeat (first | refine blk_drewN ?_ _ | refine blk_drew ?_ | refine blk_alloc ?_ _)); exact BK129.out)) : gb130 ≠ gb129)); clear BK129; clear HB; have BK129 := n0_; have HB := n1_; have BK130 := n2_; have GW130 := n3_; have GE130 := n4_; have NB129_130 := n5_; have NB130_129 := n6_; clear n0_ n1_ n2_ n3_ n4_ n5_ n6_; clear hb hbox hg))
  repeat (go_quiet (first | ((with_reducible refine gate_dst (N := 2) rfl ?_); (try (refine gate_guard (by rfl) ?_; dsimp only)); refine box_event ?hg (N := 2) ?hd (cs := #[.int .i64 a0_0, .slice A0_1 l0_1.length c0_1, .int .i64 a0_2]) (t := 24) ?hr ?_; (case hd => rfl); (case hg => rfl); (case hr => first | (go_simp; done) | (go_simp; rfl)); intro gb129 hg w4 hbox hb; have n0_ := Aside0.mk (below_step hb_ hb); have n1_ := Aside0.mk (hbox); have n2_ := Aside0.mk ((by rw [hg]; exact (below_size hb_) : w.heap.size ≤ gb129)); have n3_ := Aside0.mk ((by rw [hg]; exact (below_size hb_) : w.heap.size ≤ gb129)); clear HB; have HB := n0_; have BK129 := n1_; have GW129 := n2_; have GE129 := n3_; clear n0_ n1_ n2_ n3_; clear hb hbox hg) | ((with_reducible refine gate_dst (N := 3) rfl ?_); (try (refine gate_guard (by rfl) ?_; dsimp only)); refine box_event ?hg (N := 3) ?hd (cs := #[.int .i64 a1_0, .slice A1_1 l1_1.length c1_1, .int .i64 a1_2]) (t := 24) ?hr ?_; (case hd => rfl); (case hg => rfl); (case hr => first | (go_simp; done) | (go_simp; rfl)); intro gb130 hg w5 hbox hb; have n0_ := Aside0.mk (blk_below (g := gb129) (o := .cells #[.int .i64 a0_0, .slice A0_1 l0_1.length c0_1, .int .i64 a0_2] 24 (0, 0)) (by (with_reducible repeat (first | refine blk_drewN ?_ _ | refine blk_drew ?_ | refine blk_alloc ?_ _)); exact BK129.out) hb); have n1_ := Aside0.mk (below_step (by repeat (first | (with_reducible first | exact HB.out | apply below_alloc | apply pw_below_drewN | apply below_drew1 | refine below_set ?_ GE129.out) | exact HB.out)) hb); have n2_ := Aside0.mk (hbox); have n3_ := Aside0.mk ((by rw [hg]; exact (below_size (by repeat (first | (with_reducible first | exact HB.out | apply below_alloc | apply pw_below_drewN | apply below_drew1 | refine below_set ?_ GE129.out) | exact HB.out))) : w.heap.size ≤ gb130)); have n4_ := Aside0.mk ((by rw [hg]; exact (below_size (by repeat (first | (with_reducible first | exact HB.out | apply below_alloc | apply pw_below_drewN | apply below_drew1 | refine below_set ?_ GE129.out) | exact HB.out))) : w.heap.size ≤ gb130)); have n5_ := Aside0.mk ((by rw [hg]; exact Nat.ne_of_lt (blk_lt (g := gb129) (o := .cells #[.int .i64 a0_0, .slice A0_1 l0_1.length c0_1, .int .i64 a0_2] 24 (0, 0)) (by (with_reducible repeat (first | refine blk_drewN ?_ _ | refine blk_drew ?_ | refine blk_alloc ?_ _)); exact BK129.out)) : gb129 ≠ gb130)); have n6_ := Aside0.mk ((by rw [hg]; exact Nat.ne_of_gt (blk_lt (g := gb129) (o := .cells #[.int .i64 a0_0, .slice A0_1 l0_1.length c0_1, .int .i64 a0_2] 24 (0, 0)) (by (with_reducible repeat (first | refine blk_drewN ?_ _ | refine blk_drew ?_ | refine blk_alloc ?_ _)); exact BK129.out)) : gb130 ≠ gb129)); clear BK129; clear HB; have BK129 := n0_; have HB := n1_; have BK130 := n2_; have GW130 := n3_; have GE130 := n4_; have NB129_130 := n5_; have NB130_129 := n6_; clear n0_ n1_ n2_ n3_ n4_ n5_ n6_; clear hb hbox hg)); go_upto_region 1 with (first | ((with_reducible refine gate_dst (N := 2) rfl ?_); (try (refine gate_guard (by rfl) ?_; dsimp only)); refine box_event ?hg (N := 2) ?hd (cs := #[.int .i64 a0_0, .slice A0_1 l0_1.length c0_1, .int .i64 a0_2]) (t := 24) ?hr ?_; (case hd => rfl); (case hg => rfl); (case hr => first | (go_simp; done) | (go_simp; rfl)); intro gb129 hg w4 hbox hb; have n0_ := Aside0.mk (below_step hb_ hb); have n1_ := Aside0.mk (hbox); have n2_ := Aside0.mk ((by rw [hg]; exact (below_size hb_) : w.heap.size ≤ gb129)); have n3_ := Aside0.mk ((by rw [hg]; exact (below_size hb_) : w.heap.size ≤ gb129)); clear HB; have HB := n0_; have BK129 := n1_; have GW129 := n2_; have GE129 := n3_; clear n0_ n1_ n2_ n3_; clear hb hbox hg) | ((with_reducible refine gate_dst (N := 3) rfl ?_); (try (refine gate_guard (by rfl) ?_; dsimp only)); refine box_event ?hg (N := 3) ?hd (cs := #[.int .i64 a1_0, .slice A1_1 l1_1.length c1_1, .int .i64 a1_2]) (t := 24) ?hr ?_; (case hd => rfl); (case hg => rfl); (case hr => first | (go_simp; done) | (go_simp; rfl)); intro gb130 hg w5 hbox hb; have n0_ := Aside0.mk (blk_below (g := gb129) (o := .cells #[.int .i64 a0_0, .slice A0_1 l0_1.length c0_1, .int .i64 a0_2] 24 (0, 0)) (by (with_reducible repeat (first | refine blk_drewN ?_ _ | refine blk_drew ?_ | refine blk_alloc ?_ _)); exact BK129.out) hb); have n1_ := Aside0.mk (below_step (by repeat (first | (with_reducible first | exact HB.out | apply below_alloc | apply pw_below_drewN | apply below_drew1 | refine below_set ?_ GE129.out) | exact HB.out)) hb); have n2_ := Aside0.mk (hbox); have n3_ := Aside0.mk ((by rw [hg]; exact (below_size (by repeat (first | (with_reducible first | exact HB.out | apply below_alloc | apply pw_below_drewN | apply below_drew1 | refine below_set ?_ GE129.out) | exact HB.out))) : w.heap.size ≤ gb130)); have n4_ := Aside0.mk ((by rw [hg]; exact (below_size (by repeat (first | (with_reducible first | exact HB.out | apply below_alloc | apply pw_below_drewN | apply below_drew1 | refine below_set ?_ GE129.out) | exact HB.out))) : w.heap.size ≤ gb130)); have n5_ := Aside0.mk ((by rw [hg]; exact Nat.ne_of_lt (blk_lt (g := gb129) (o := .cells #[.int .i64 a0_0, .slice A0_1 l0_1.length c0_1, .int .i64 a0_2] 24 (0, 0)) (by (with_reducible repeat (first | refine blk_drewN ?_ _ | refine blk_drew ?_ | refine blk_alloc ?_ _)); exact BK129.out)) : gb129 ≠ gb130)); have n6_ := Aside0.mk ((by rw [hg]; exact Nat.ne_of_gt (blk_lt (g := gb129) (o := .cells #[.int .i64 a0_0, .slice A0_1 l0_1.length c0_1, .int .i64 a0_2] 24 (0, 0)) (by (with_reducible repeat (first | refine blk_drewN ?_ _ | refine blk_drew ?_ | refine blk_alloc ?_ _)); exact BK129.out)) : gb130 ≠ gb129)); clear BK129; clear HB; have BK129 := n0_; have HB := n1_; have BK130 := n2_; have GW130 := n3_; have GE130 := n4_; have NB129_130 := n5_; have NB130_129 := n6_; clear n0_ n1_ n2_ n3_ n4_ n5_ n6_; clear hb hbox hg)))
  (try simp only [Act.put, List.setIfInBounds_toArray, List.set_cons_zero, List.set_cons_succ])
  go_cut [26] (fun v26 wc => ∃ (kq : Nat) (x26_2 : Bool), v26 = .bool x26_2 ∧ Aside0 (samphireref20_Same.j0 kq x26_2 a0_0 l0_1 a0_2 a1_0 l1_1 a1_2 = some r) ∧ Aside0 (kq ≤ k) ∧ Aside0 (wc.heap[gb129]? = some (.cells #[.int .i64 a0_0, (.slice A0_1 l0_1.length c0_1), .int .i64 a0_2] 24 (0, 0))) ∧ Aside0 (wc.heap[gb130]? = some (.cells #[.int .i64 a1_0, (.slice A1_1 l1_1.length c1_1), .int .i64 a1_2] 24 (0, 0))) ∧ Aside0 (Below w.heap.size w wc))
  case first =>
    have H := HC3.out; clear HC3; by_cases c6 : a0_0 = a1_0
    · rw [if_pos c6] at H; have c6b0 : (a0_0 == a1_0) = true := beq_iff_eq.mpr c6; have c6b1 : (a0_0 != a1_0) = false := bne_eq_false_iff_eq.mpr c6; clear c6
      (first | rw [c6b0] | (simp only [i64_w, i32_w]; rw [c6b0]) | skip)
      by_cases c7 : a0_2 = a1_2
      · rw [if_pos c7] at H; have c7b0 : (a0_2 == a1_2) = true := beq_iff_eq.mpr c7; have c7b1 : (a0_2 != a1_2) = false := bne_eq_false_iff_eq.mpr c7; clear c7; have H' := Aside0.mk H; clear H; have hnb8 := NB129_130.out; have hnc8 := NB130_129.out; have hcz9_0 : w5.cell? ⟨gb129, 0, none⟩ = some (.int .i64 a0_0) := (blk_cell BK129.out 0).trans rfl; have hcz9_1 : w5.cell? ⟨gb129, 1, none⟩ = some (.slice A0_1 l0_1.length c0_1) := (blk_cell BK129.out 1).trans rfl; have hcz9_2 : w5.cell? ⟨gb129, 2, none⟩ = some (.int .i64 a0_2) := (blk_cell BK129.out 2).trans rfl; have hfz9_0 := blk_frozen BK129.out 0; have hfz9_1 := blk_frozen BK129.out 1; have hfz9_2 := blk_frozen BK129.out 2; have hcz10_0 : w5.cell? ⟨gb130, 0, none⟩ = some (.int .i64 a1_0) := (blk_cell BK130.out 0).trans rfl; have hcz10_1 : w5.cell? ⟨gb130, 1, none⟩ = some (.slice A1_1 l1_1.length c1_1) := (blk_cell BK130.out 1).trans rfl; have hcz10_2 : w5.cell? ⟨gb130, 2, none⟩ = some (.int .i64 a1_2) := (blk_cell BK130.out 2).trans rfl; have hfz10_0 := blk_frozen BK130.out 0; have hfz10_1 := blk_frozen BK130.out 1; have hfz10_2 := blk_frozen BK130.out 2; go_wp2; repeat (go_quiet (fail); try go_wp2)
        go_meet
        case rel => exact ⟨_, (((l0_1.length : Int) != (l1_1.length : Int))), rz_, H', ⟨by first | omega | exact Nat.le_refl _⟩, ⟨by (with_reducible repeat (first | refine blk_drewN ?_ _ | refine blk_drew ?_ | refine blk_alloc ?_ _)); exact BK129.out⟩, ⟨by (with_reducible repeat (first | refine blk_drewN ?_ _ | refine blk_drew ?_ | refine blk_alloc ?_ _)); exact BK130.out⟩, ⟨by repeat (first | (with_reducible first | exact HB.out | apply below_alloc | apply pw_below_drewN | apply below_drew1 | refine below_set ?_ GE129.out | refine below_set ?_ GE130.out) | exact HB.out)⟩⟩
      · rw [if_neg c7] at H; have c7b0 : (a0_2 == a1_2) = false := beq_eq_false_iff_ne.mpr c7; have c7b1 : (a0_2 != a1_2) = true := bne_iff_ne.mpr c7; have H' := Aside0.mk H; clear H; have hnb11 := NB129_130.out; have hnc11 := NB130_129.out; have hcz12_0 : w5.cell? ⟨gb129, 0, none⟩ = some (.int .i64 a0_0) := (blk_cell BK129.out 0).trans rfl; have hcz12_1 : w5.cell? ⟨gb129, 1, none⟩ = some (.slice A0_1 l0_1.length c0_1) := (blk_cell BK129.out 1).trans rfl; have hcz12_2 : w5.cell? ⟨gb129, 2, none⟩ = some (.int .i64 a0_2) := (blk_cell BK129.out 2).trans rfl; have hfz12_0 := blk_frozen BK129.out 0; have hfz12_1 := blk_frozen BK129.out 1; have hfz12_2 := blk_frozen BK129.out 2; have hcz13_0 : w5.cell? ⟨gb130, 0, none⟩ = some (.int .i64 a1_0) := (blk_cell BK130.out 0).trans rfl; have hcz13_1 : w5.cell? ⟨gb130, 1, none⟩ = some (.slice A1_1 l1_1.length c1_1) := (blk_cell BK130.out 1).trans rfl; have hcz13_2 : w5.cell? ⟨gb130, 2, none⟩ = some (.int .i64 a1_2) := (blk_cell BK130.out 2).trans rfl; have hfz13_0 := blk_frozen BK130.out 0; have hfz13_1 := blk_frozen BK130.out 1; have hfz13_2 := blk_frozen BK130.out 2; go_wp2; repeat (go_quiet (fail); try go_wp2)
        go_meet
        case rel => exact ⟨_, (true), rz_, H', ⟨by first | omega | exact Nat.le_refl _⟩, ⟨by (with_reducible repeat (first | refine blk_drewN ?_ _ | refine blk_drew ?_ | refine blk_alloc ?_ _)); exact BK129.out⟩, ⟨by (with_reducible repeat (first | refine blk_drewN ?_ _ | refine blk_drew ?_ | refine blk_alloc ?_ _)); exact BK130.out⟩, ⟨by repeat (first | (with_reducible first | exact HB.out | apply below_alloc | apply pw_below_drewN | apply below_drew1 | refine below_set ?_ GE129.out | refine below_set ?_ GE130.out) | exact HB.out)⟩⟩
    · rw [if_neg c6] at H; have c6b0 : (a0_0 == a1_0) = false := beq_eq_false_iff_ne.mpr c6; have c6b1 : (a0_0 != a1_0) = true := bne_iff_ne.mpr c6
      (first | rw [c6b0] | (simp only [i64_w, i32_w]; rw [c6b0]) | skip)
      have H' := Aside0.mk H; clear H; have hnb14 := NB129_130.out; have hnc14 := NB130_129.out; have hcz15_0 : w5.cell? ⟨gb129, 0, none⟩ = some (.int .i64 a0_0) := (blk_cell BK129.out 0).trans rfl; have hcz15_1 : w5.cell? ⟨gb129, 1, none⟩ = some (.slice A0_1 l0_1.length c0_1) := (blk_cell BK129.out 1).trans rfl; have hcz15_2 : w5.cell? ⟨gb129, 2, none⟩ = some (.int .i64 a0_2) := (blk_cell BK129.out 2).trans rfl; have hfz15_0 := blk_frozen BK129.out 0; have hfz15_1 := blk_frozen BK129.out 1; have hfz15_2 := blk_frozen BK129.out 2; have hcz16_0 : w5.cell? ⟨gb130, 0, none⟩ = some (.int .i64 a1_0) := (blk_cell BK130.out 0).trans rfl; have hcz16_1 : w5.cell? ⟨gb130, 1, none⟩ = some (.slice A1_1 l1_1.length c1_1) := (blk_cell BK130.out 1).trans rfl; have hcz16_2 : w5.cell? ⟨gb130, 2, none⟩ = some (.int .i64 a1_2) := (blk_cell BK130.out 2).trans rfl; have hfz16_0 := blk_frozen BK130.out 0; have hfz16_1 := blk_frozen BK130.out 1; have hfz16_2 := blk_frozen BK130.out 2; go_wp2; repeat (go_quiet (fail); try go_wp2)
      go_meet
      case rel => exact ⟨_, (true), rz_, H', ⟨by first | omega | exact Nat.le_refl _⟩, ⟨by (with_reducible repeat (first | refine blk_drewN ?_ _ | refine blk_drew ?_ | refine blk_alloc ?_ _)); exact BK129.out⟩, ⟨by (with_reducible repeat (first | refine blk_drewN ?_ _ | refine blk_drew ?_ | refine blk_alloc ?_ _)); exact BK130.out⟩, ⟨by repeat (first | (with_reducible first | exact HB.out | apply below_alloc | apply pw_below_drewN | apply below_drew1 | refine below_set ?_ GE129.out | refine below_set ?_ GE130.out) | exact HB.out)⟩⟩
  case rest =>
    clear HC3; obtain ⟨kq, x26_2, rfl, HA, HJ2, BK129, BK130, HB⟩ := hcut; cases kq with
    | zero => exact absurd HA.out (by simp [samphireref20_Same.j0])
    | succ kj2 =>
      have H := HA.out; clear HA; simp only [samphireref20_Same.j0] at H; by_cases c17 : x26_2 = true
      · subst c17; have H1 : (some false) = some r := by rw [if_pos rfl] at H; exact H
        clear H; have H := H1; clear H1; obtain rfl := Option.some.inj H; go_wp2; repeat (go_quiet (fail); try go_wp2)
        go_ret
        exact ⟨ew_, by repeat (first | (with_reducible first | exact HB.out | apply below_alloc | apply pw_below_drewN | apply below_drew1 | refine below_set ?_ GE129.out | refine below_set ?_ GE130.out) | exact HB.out)⟩
      · replace c17 := Bool.eq_false_iff.mpr c17; subst c17; have H1 : (samphireref20_Same.l0 kj2 0 a0_0 l0_1 a0_2 a1_0 l1_1 a1_2) = some r := by rw [if_neg (show ¬ (false = true) by decide)] at H; exact H
        clear H; have H := H1; clear H1; have H' := Aside0.mk H; clear H; go_wp2; repeat (go_quiet (fail); try go_wp2)
        go_loopg [5] kj2 (fun kq v5 w' => ∃ (x5_2 : Int), v5 = .int .i64 x5_2 ∧ Aside0 (samphireref20_Same.l0 kq x5_2 a0_0 l0_1 a0_2 a1_0 l1_1 a1_2 = some r) ∧ Aside0 (kq ≤ kj2) ∧ Aside0 (w'.heap[gb129]? = some (.cells #[.int .i64 a0_0, (.slice A0_1 l0_1.length c0_1), .int .i64 a0_2] 24 (0, 0))) ∧ Aside0 (w'.heap[gb130]? = some (.cells #[.int .i64 a1_0, (.slice A1_1 l1_1.length c1_1), .int .i64 a1_2] 24 (0, 0))) ∧ Aside0 (Below w.heap.size w w'))
        case atStart => exact ⟨(0), rz_, H', ⟨Nat.le_refl _⟩, ⟨by (with_reducible repeat (first | refine blk_drewN ?_ _ | refine blk_drew ?_ | refine blk_alloc ?_ _)); exact BK129.out⟩, ⟨by (with_reducible repeat (first | refine blk_drewN ?_ _ | refine blk_drew ?_ | refine blk_alloc ?_ _)); exact BK130.out⟩, ⟨by repeat (first | (with_reducible first | exact HB.out | apply below_alloc | apply pw_below_drewN | apply below_drew1 | refine below_set ?_ GE129.out | refine below_set ?_ GE130.out) | exact HB.out)⟩⟩
        case round =>
          clear H'; obtain ⟨x5_2, rfl, HA, HK2, BK129, BK130, HB⟩ := hrel; cases gk with
          | zero => exact absurd HA.out (by simp [samphireref20_Same.l0])
          | succ k2 =>
            have H := HA.out; clear HA; simp only [samphireref20_Same.l0] at H; by_cases c18 : x5_2 < (l0_1.length : Int)
            · rw [if_pos c18] at H; have c18b0 : decide (x5_2 < (l0_1.length : Int)) = true := decide_eq_true c18; clear c18; by_cases c19 : 0 ≤ x5_2
              · rw [if_pos c19] at H; have c19b0 : decide (0 ≤ x5_2) = true := decide_eq_true c19; clear c19; by_cases c20 : x5_2 < (l1_1.length : Int)
                · rw [if_pos c20] at H; have c20b0 : decide (x5_2 < (l1_1.length : Int)) = true := decide_eq_true c20; clear c20; by_cases c21 : (!(((rd_T46 l0_1 x5_2).f0) == ((rd_T46 l1_1 x5_2).f0)) || (!(((rd_T46 l0_1 x5_2).f1) == ((rd_T46 l1_1 x5_2).f1)) || (!(((rd_T46 l0_1 x5_2).f2) == ((rd_T46 l1_1 x5_2).f2))))) = true
                  · rw [if_pos c21] at H; have c21b0 : (!(((rd_T46 l0_1 x5_2).f0) == ((rd_T46 l1_1 x5_2).f0)) || (!(((rd_T46 l0_1 x5_2).f1) == ((rd_T46 l1_1 x5_2).f1)) || (!(((rd_T46 l0_1 x5_2).f2) == ((rd_T46 l1_1 x5_2).f2))))) = true := c21; clear c21; obtain rfl := Option.some.inj H; have hnb22 := NB129_130.out; have hnc22 := NB130_129.out; have hcz23_0 : wr.cell? ⟨gb129, 0, none⟩ = some (.int .i64 a0_0) := (blk_cell BK129.out 0).trans rfl; have hcz23_1 : wr.cell? ⟨gb129, 1, none⟩ = some (.slice A0_1 l0_1.length c0_1) := (blk_cell BK129.out 1).trans rfl; have hcz23_2 : wr.cell? ⟨gb129, 2, none⟩ = some (.int .i64 a0_2) := (blk_cell BK129.out 2).trans rfl; have hfz23_0 := blk_frozen BK129.out 0; have hfz23_1 := blk_frozen BK129.out 1; have hfz23_2 := blk_frozen BK129.out 2; have p131 : 0 ≤ (x5_2 : Int) := of_decide_eq_true as_'; have q131 : x5_2 < (l0_1.length : Int) := of_decide_eq_true as_'; obtain ⟨ad131, e131, hx131_0, hx131_1, hx131_2⟩ := at_T46 HR0_1.out x5_2 p131 q131; cases e131; replace hx131_0 := (HB.out.cell (World.block_lt_of_cell? w _ hx131_0)).trans hx131_0; replace hx131_1 := (HB.out.cell (World.block_lt_of_cell? w _ hx131_1)).trans hx131_1; replace hx131_2 := (HB.out.cell (World.block_lt_of_cell? w _ hx131_2)).trans hx131_2; replace p131 := eq_true p131; replace q131 := eq_true q131; have hcz24_0 : wr.cell? ⟨gb130, 0, none⟩ = some (.int .i64 a1_0) := (blk_cell BK130.out 0).trans rfl; have hcz24_1 : wr.cell? ⟨gb130, 1, none⟩ = some (.slice A1_1 l1_1.length c1_1) := (blk_cell BK130.out 1).trans rfl; have hcz24_2 : wr.cell? ⟨gb130, 2, none⟩ = some (.int .i64 a1_2) := (blk_cell BK130.out 2).trans rfl; have hfz24_0 := blk_frozen BK130.out 0; have hfz24_1 := blk_frozen BK130.out 1; have hfz24_2 := blk_frozen BK130.out 2; have p132 : 0 ≤ (x5_2 : Int) := of_decide_eq_true as_'; have q132 : x5_2 < (l1_1.length : Int) := of_decide_eq_true as_'; obtain ⟨ad132, e132, hx132_0, hx132_1, hx132_2⟩ := at_T46 HR1_1.out x5_2 p132 q132; cases e132; replace hx132_0 := (HB.out.cell (World.block_lt_of_cell? w _ hx132_0)).trans hx132_0; replace hx132_1 := (HB.out.cell (World.block_lt_of_cell? w _ hx132_1)).trans hx132_1; replace hx132_2 := (HB.out.cell (World.block_lt_of_cell? w _ hx132_2)).trans hx132_2; replace p132 := eq_true p132; replace q132 := eq_true q132; go_wp2; repeat (go_quiet (fail); try go_wp2)
                    go_ret
                    exact ⟨ew_, by repeat (first | (with_reducible first | exact HB.out | apply below_alloc | apply pw_below_drewN | apply below_drew1 | refine below_set ?_ GE129.out | refine below_set ?_ GE130.out) | exact HB.out)⟩
                  · rw [if_neg c21] at H; have c21b0 : (!(((rd_T46 l0_1 x5_2).f0) == ((rd_T46 l1_1 x5_2).f0)) || (!(((rd_T46 l0_1 x5_2).f1) == ((rd_T46 l1_1 x5_2).f1)) || (!(((rd_T46 l0_1 x5_2).f2) == ((rd_T46 l1_1 x5_2).f2))))) = false := by simpa using c21
                    clear c21; have H' := Aside0.mk H; clear H; have hnb25 := NB129_130.out; have hnc25 := NB130_129.out; have hcz26_0 : wr.cell? ⟨gb129, 0, none⟩ = some (.int .i64 a0_0) := (blk_cell BK129.out 0).trans rfl; have hcz26_1 : wr.cell? ⟨gb129, 1, none⟩ = some (.slice A0_1 l0_1.length c0_1) := (blk_cell BK129.out 1).trans rfl; have hcz26_2 : wr.cell? ⟨gb129, 2, none⟩ = some (.int .i64 a0_2) := (blk_cell BK129.out 2).trans rfl; have hfz26_0 := blk_frozen BK129.out 0; have hfz26_1 := blk_frozen BK129.out 1; have hfz26_2 := blk_frozen BK129.out 2; have p131 : 0 ≤ (x5_2 : Int) := of_decide_eq_true as_'; have q131 : x5_2 < (l0_1.length : Int) := of_decide_eq_true as_'; obtain ⟨ad131, e131, hx131_0, hx131_1, hx131_2⟩ := at_T46 HR0_1.out x5_2 p131 q131; cases e131; replace hx131_0 := (HB.out.cell (World.block_lt_of_cell? w _ hx131_0)).trans hx131_0; replace hx131_1 := (HB.out.cell (World.block_lt_of_cell? w _ hx131_1)).trans hx131_1; replace hx131_2 := (HB.out.cell (World.block_lt_of_cell? w _ hx131_2)).trans hx131_2; replace p131 := eq_true p131; replace q131 := eq_true q131; have hcz27_0 : wr.cell? ⟨gb130, 0, none⟩ = some (.int .i64 a1_0) := (blk_cell BK130.out 0).trans rfl; have hcz27_1 : wr.cell? ⟨gb130, 1, none⟩ = some (.slice A1_1 l1_1.length c1_1) := (blk_cell BK130.out 1).trans rfl; have hcz27_2 : wr.cell? ⟨gb130, 2, none⟩ = some (.int .i64 a1_2) := (blk_cell BK130.out 2).trans rfl; have hfz27_0 := blk_frozen BK130.out 0; have hfz27_1 := blk_frozen BK130.out 1; have hfz27_2 := blk_frozen BK130.out 2; have p132 : 0 ≤ (x5_2 : Int) := of_decide_eq_true as_'; have q132 : x5_2 < (l1_1.length : Int) := of_decide_eq_true as_'; obtain ⟨ad132, e132, hx132_0, hx132_1, hx132_2⟩ := at_T46 HR1_1.out x5_2 p132 q132; cases e132; replace hx132_0 := (HB.out.cell (World.block_lt_of_cell? w _ hx132_0)).trans hx132_0; replace hx132_1 := (HB.out.cell (World.block_lt_of_cell? w _ hx132_1)).trans hx132_1; replace hx132_2 := (HB.out.cell (World.block_lt_of_cell? w _ hx132_2)).trans hx132_2; replace p132 := eq_true p132; replace q132 := eq_true q132; go_wp2; repeat (go_quiet (fail); try go_wp2)
                    go_roundg k2
                    case measure => have := HJ2.out; have := HK2.out; omega
                    case rel => exact ⟨(wrap64 (x5_2 + 1)), rz_, H', ⟨by have := HJ2.out; have := HK2.out; omega⟩, ⟨by (with_reducible repeat (first | refine blk_drewN ?_ _ | refine blk_drew ?_ | refine blk_alloc ?_ _)); exact BK129.out⟩, ⟨by (with_reducible repeat (first | refine blk_drewN ?_ _ | refine blk_drew ?_ | refine blk_alloc ?_ _)); exact BK130.out⟩, ⟨by repeat (first | (with_reducible first | exact HB.out | apply below_alloc | apply pw_below_drewN | apply below_drew1 | refine below_set ?_ GE129.out | refine below_set ?_ GE130.out) | exact HB.out)⟩⟩
                · rw [if_neg c20] at H; exact absurd H (by simp)
              · rw [if_neg c19] at H; exact absurd H (by simp)
            · rw [if_neg c18] at H; have c18b0 : decide (x5_2 < (l0_1.length : Int)) = false := decide_eq_false c18; clear c18; obtain rfl := Option.some.inj H; have hnb28 := NB129_130.out; have hnc28 := NB130_129.out; have hcz29_0 : wr.cell? ⟨gb129, 0, none⟩ = some (.int .i64 a0_0) := (blk_cell BK129.out 0).trans rfl; have hcz29_1 : wr.cell? ⟨gb129, 1, none⟩ = some (.slice A0_1 l0_1.length c0_1) := (blk_cell BK129.out 1).trans rfl; have hcz29_2 : wr.cell? ⟨gb129, 2, none⟩ = some (.int .i64 a0_2) := (blk_cell BK129.out 2).trans rfl; have hfz29_0 := blk_frozen BK129.out 0; have hfz29_1 := blk_frozen BK129.out 1; have hfz29_2 := blk_frozen BK129.out 2; go_wp2; repeat (go_quiet (fail); try go_wp2)
              go_ret
              exact ⟨ew_, by repeat (first | (with_reducible first | exact HB.out | apply below_alloc | apply pw_below_drewN | apply below_drew1 | refine below_set ?_ GE129.out | refine below_set ?_ GE130.out) | exact HB.out)⟩
end Go.Proofs.YthemhfloablccaaDoor.Pr
end

section
namespace Go.Proofs.YthemhfloablccaaDoor.Pr
open Go.RowKit Go.Deep Go.Proofs.YthemhfloablccaaDoorW.PrintWords Go.Proofs.YthemhfloablccaaDoorW.PrintLast Go.Proofs.YthemhfloablccaaDoorW.PrintMore
set_option maxHeartbeats 8000000
def M0 : List Mem := [⟨1, 0, true⟩, ⟨2, 0, false⟩, ⟨3, 0, false⟩, ⟨4, 0, false⟩, ⟨5, 0, false⟩, ⟨6, 0, false⟩]
def M1 : List Mem := [⟨1, 1, true⟩, ⟨2, 0, true⟩, ⟨3, 0, false⟩, ⟨4, 0, false⟩, ⟨5, 0, false⟩, ⟨6, 0, false⟩]
def M2 : List Mem := [⟨1, 2, true⟩, ⟨2, 0, false⟩, ⟨3, 0, false⟩, ⟨4, 0, false⟩, ⟨5, 0, false⟩, ⟨6, 0, false⟩]
def z32 : ByteArray := ⟨#[0, 0, 0, 0, 0, 0, 0, 0, 0, 0, 0, 0, 0, 0, 0, 0, 0, 0, 0, 0, 0, 0, 0, 0, 0, 0, 0, 0, 0, 0, 0, 0]⟩
def aw54 : ByteArray := txt (grpL 2 M1 0)
theorem aw_n : aw54.size = 54 := by kernel_rfl
theorem aw_new : group_New.f 20 = some (1, M0, 0) := by kernel_rfl
theorem aw_c1 : samphirelaw20_control.f 2 1 2 = some (2, 1, 1, 0, z32, 0, 0, 0, 0, 0, 0, 0, ⟨#[]⟩, ⟨#[]⟩, 2, []) := by kernel_rfl
theorem aw_c2 : samphirelaw20_control.f 3 2 2 = some (3, 1, 2, 0, z32, 0, 0, 0, 0, 0, 0, 0, ⟨#[]⟩, ⟨#[]⟩, 2, []) := by kernel_rfl
theorem aw_j1 : group_Judge.f 20 1 M0 0 1 2 1 1 0 z32 0 0 0 0 0 0 0 ⟨#[]⟩ ⟨#[]⟩ 2 [] = some (2, M1, 0, true, 0) := by kernel_rfl
theorem aw_j2 : group_Judge.f 20 2 M1 0 2 3 1 2 0 z32 0 0 0 0 0 0 0 ⟨#[]⟩ ⟨#[]⟩ 2 [] = some (3, M2, 0, true, 0) := by kernel_rfl
theorem aw_p : group_Put.f 20 2 M1 0 = some (aw54, 0) := by kernel_rfl
theorem aw_t : group_Take.f 20 aw54 = some (2, M1, 0, 0) := by kernel_rfl
theorem aw_s : samphireref20_Same.f 20 2 M1 0 2 M1 0 = some true := by kernel_rfl
theorem aw_i1 : group_In.f 2 M1 0 2 = some true := by kernel_rfl
theorem aw_i2 : group_In.f 3 M2 0 2 = some false := by kernel_rfl
theorem aw_k : group_Check.f 20 2 M1 0 = some 0 := by kernel_rfl
def BG (w : World) (g : Nat) (E : Int) (A : Option Addr) (c : Nat) (l : List Mem) (O : Int) (wx : World) : Prop :=
 wx.heap[g]? = some (.cells #[.int .i64 E, .slice A l.length c, .int .i64 O] 24 (0, 0)) ∧ Kd.C k46 wx A l.length l ∧ l.length ≤ c ∧ w.heap.size ≤ g
theorem BG.below {w wx w' : World} {g : Nat} {E O : Int} {A : Option Addr} {c : Nat} {l : List Mem} (h : BG w g E A c l O wx) (hb : Below wx.heap.size wx w') : BG w g E A c l O w' := ⟨blk_below h.1 hb, Kd.C_below h.2.1 hb, h.2.2⟩
theorem box3 {wx : World} {g : Nat} {E O : Int} {v : Value} (h : wx.heap[g]? = some (.cells #[.int .i64 0, .slice none 0 0, .int .i64 0] 24 (0, 0))) :
  (((wx.setCell ⟨g, 0, none⟩ (.int .i64 E)).setCell ⟨g, 1, none⟩ v).setCell ⟨g, 2, none⟩ (.int .i64 O)).heap[g]? = some (.cells #[.int .i64 E, v, .int .i64 O] 24 (0, 0)) :=
 blk_put (blk_put (blk_put h 0 _ rfl) 1 _ rfl) 2 _ rfl
theorem new3 {w0 wx : World} {g : Nat} {u0 u1 u2 : Value} (h : Below w0.heap.size w0 wx) (hg : w0.heap.size ≤ g) :
  Below w0.heap.size w0 (((wx.setCell ⟨g, 0, none⟩ u0).setCell ⟨g, 1, none⟩ u1).setCell ⟨g, 2, none⟩ u2) := below_set (below_set (below_set h hg) hg) hg
theorem far3 {w : World} {p k i : Nat} {u x0 x1 x2 : Value} (h : w.cell? ⟨k, i, none⟩ = some u) (hne : k ≠ p) : (((w.setCell ⟨p, 0, none⟩ x0).setCell ⟨p, 1, none⟩ x1).setCell ⟨p, 2, none⟩ x2).cell? ⟨k, i, none⟩ = some u := by
 have e : (((w.setCell ⟨p, 0, none⟩ x0).setCell ⟨p, 1, none⟩ x1).setCell ⟨p, 2, none⟩ x2).heap[k]? = w.heap[k]? := by
  rw [Below.heap_setCell _ ⟨p, 2, none⟩ _ k hne, Below.heap_setCell _ ⟨p, 1, none⟩ _ k hne, Below.heap_setCell _ ⟨p, 0, none⟩ _ k hne]
 simpa [World.cell?, e] using h
def SA (w : World) (g1 : Nat) (A1 : Option Addr) (c1 : Nat) (W : World) : Prop := Below w.heap.size w W ∧ BG w g1 2 A1 c1 M1 0 W
theorem SA.below {w W w' : World} {g1 : Nat} {A1 : Option Addr} {c1 : Nat} (h : SA w g1 A1 c1 W) (hb : Below W.heap.size W w') : SA w g1 A1 c1 w' := ⟨below_step h.1 hb, h.2.below hb⟩
def NA (w : World) (n : Nat) (W : World) : Prop := W.heap[n]? = some (.cells #[.int .i64 0, .slice none 0 0, .int .i64 0] 24 (0, 0)) ∧ w.heap.size ≤ n
theorem NA.below {w W w' : World} {n : Nat} (h : NA w n W) (hb : Below W.heap.size W w') : NA w n w' := ⟨blk_below h.1 hb, h.2⟩
theorem NA.cells {w W : World} {n : Nat} (h : NA w n W) : W.cell? ⟨n, 0, none⟩ = some (.int .i64 0) ∧ W.cell? ⟨n, 1, none⟩ = some (.slice none 0 0) ∧ W.cell? ⟨n, 2, none⟩ = some (.int .i64 0) ∧ W.frozen? ⟨n, 0, none⟩ = false ∧ W.frozen? ⟨n, 1, none⟩ = false ∧ W.frozen? ⟨n, 2, none⟩ = false := grp_cells h.1
set_option maxRecDepth 100000 in
theorem awake20 (w : World) : Calls Tryd.prog 17 #[] w fun e w' => e = .returned (.bool true) ∧ Below w.heap.size w w' := by
  have HN := Aside0.mk (fun (W : World) => group_New.calls 20 1 M0 0 W aw_new)
  have HC1 := Aside0.mk (fun (W : World) => samphirelaw20_control.calls 2 1 2 _ _ _ _ _ _ _ _ _ _ _ _ _ _ _ _ W aw_c1)
  have HC2 := Aside0.mk (fun (W : World) => samphirelaw20_control.calls 3 2 2 _ _ _ _ _ _ _ _ _ _ _ _ _ _ _ _ W aw_c2)
  have HJ1 := Aside0.mk (fun (A : Option Addr) (c : Nat) (B : Option Addr) (d : Nat) (W : World) (h : Kd.C k46 W A M0.length M0) (hc : M0.length ≤ c) (h2 : Kd.C k80 W B ([] : List Wrp).length []) (hd : ([] : List Wrp).length ≤ d) => group_Judge.calls 20 1 A c M0 0 1 2 1 1 0 z32 0 0 0 0 0 0 0 ⟨#[]⟩ ⟨#[]⟩ 2 B d [] _ _ _ _ _ W h hc h2 hd aw_j1)
  have HJ2 := Aside0.mk (fun (A : Option Addr) (c : Nat) (B : Option Addr) (d : Nat) (W : World) (h : Kd.C k46 W A M1.length M1) (hc : M1.length ≤ c) (h2 : Kd.C k80 W B ([] : List Wrp).length []) (hd : ([] : List Wrp).length ≤ d) => group_Judge.calls 20 2 A c M1 0 2 3 1 2 0 z32 0 0 0 0 0 0 0 ⟨#[]⟩ ⟨#[]⟩ 2 B d [] _ _ _ _ _ W h hc h2 hd aw_j2)
  simp only [List.length_nil] at HJ2
  go_enter Tryd.func17, Tryd.ntmps17
  go_wp2_with (fail)
  refine (HN.out w).mono ?_
  rintro e w1 ⟨v1, rfl, hr1, hb1⟩
  obtain ⟨A0, c0, rfl, hc0, hC0⟩ := Kd.R_reads hr1
  have HB1 := Aside0.mk hb1
  have HC0 := Aside0.mk (And.intro hc0 hC0)
  clear hr1 hb1 hc0 hC0 HN
  go_wp2_with (fail)
  refine (HC1.out w1).mono ?_
  rintro e w2 ⟨v2, rfl, hr2, hb2⟩
  obtain ⟨B0, d0, rfl, hd0, hD0⟩ := Kd.R_reads hr2
  have HB2 := Aside0.mk (below_step HB1.out hb2)
  have HJ := Aside0.mk (HJ1.out A0 c0 B0 d0 w2 (Kd.C_below HC0.out.2 hb2) HC0.out.1 hD0 hd0)
  clear hr2 hb2 hd0 hD0 HC1 HJ1 HB1 HC0
  go_wp2_with (fail)
  refine HJ.out.mono ?_
  rintro e w3 ⟨v3, rfl, hr3, hb3⟩
  obtain ⟨A1, c1, rfl, hc1, hC1⟩ := Kd.R_reads hr3
  have HB3 := Aside0.mk (below_step HB2.out hb3)
  have HC1' := Aside0.mk (And.intro hc1 hC1)
  clear hr3 hb3 hc1 hC1 HJ HB2
  go_upto_region 2 with (first | ((with_reducible refine gate_dst (N := 1) rfl ?_); (try (refine gate_guard (by rfl) ?_; dsimp only)); refine box_event ?hg (N := 1) ?hd (cs := #[.int .i64 0, .slice none 0 0, .int .i64 0]) (t := 24) ?hr ?_; (case hd => rfl); (case hg => rfl); (case hr => first | (go_simp; done) | (go_simp; rfl)); intro g1 hg w4 hbox hb; have HB4 := Aside0.mk (below_step HB3.out hb); have G4 := Aside0.mk hbox; have L4 := Aside0.mk (show w.heap.size ≤ g1 by rw [hg]; exact HB3.out.size); have HX4 := Aside0.mk (show Below w3.heap.size w3 w4 ∧ w3.heap.size ≤ g1 from ⟨hb, by rw [hg]; exact Nat.le_refl _⟩); clear HB3; obtain ⟨x0, x1, x2, z0, z1, z2⟩ := grp_cells G4.out; clear hb hbox hg))
  (try simp only [Act.put, List.setIfInBounds_toArray, List.set_cons_zero, List.set_cons_succ])
  have G5 : Aside0 (BG w g1 2 A1 c1 M1 0 (((w4.setCell ⟨g1, 0, none⟩ (.int .i64 2)).setCell ⟨g1, 1, none⟩ (.slice A1 M1.length c1)).setCell ⟨g1, 2, none⟩ (.int .i64 0))) := ⟨⟨box3 G4.out, Kd.C_below HC1'.out.2 (new3 HX4.out.1 HX4.out.2), HC1'.out.1, L4.out⟩⟩
  have HB5 : Aside0 (Below w.heap.size w (((w4.setCell ⟨g1, 0, none⟩ (.int .i64 2)).setCell ⟨g1, 1, none⟩ (.slice A1 M1.length c1)).setCell ⟨g1, 2, none⟩ (.int .i64 0))) := ⟨new3 HB4.out L4.out⟩
  clear HC1' HB4 G4 HX4 x0 x1 x2 z0 z1 z2
  generalize ((w4.setCell ⟨g1, 0, none⟩ (.int .i64 2)).setCell ⟨g1, 1, none⟩ (.slice A1 M1.length c1)).setCell ⟨g1, 2, none⟩ (.int .i64 0) = w5 at G5 HB5 ⊢
  obtain ⟨x0, x1, x2, z0, z1, z2⟩ := grp_cells G5.out.1
  clear z0 z1 z2
  have HS5 := Aside0.mk (show SA w g1 A1 c1 w5 from ⟨HB5.out, G5.out⟩)
  clear G5 HB5
  go_cut [4, 5, 6] (fun s4 s5 s6 wx => ∃ (g4 : Nat) (A2 : Option Addr) (c2 : Nat), s4 = .pointer (some ⟨g4, 0, none⟩) ∧ s5 = .bool true ∧ s6 = .int .i64 0 ∧ Aside0 (SA w g1 A1 c1 wx) ∧ Aside0 (BG w g4 3 A2 c2 M2 0 wx))
  case first =>
    have SD := Aside0.mk (HS5.out.below (below_drew1 (Below.refl _ _)))
    have hba := below_drew1 (below_alloc (Below.refl w5.heap.size w5) (.cells #[.int .i64 0, .slice none 0 0, .int .i64 0] 24))
    have SDa := Aside0.mk (HS5.out.below hba)
    have NDa : Aside0 (NA w w5.heap.size (w5.alloc (.cells #[.int .i64 0, .slice none 0 0, .int .i64 0] 24)).drew) := ⟨⟨blk_new _ _, HS5.out.1.size⟩⟩
    have NE5 : Aside0 (g1 ≠ w5.heap.size) := ⟨Nat.ne_of_lt (blk_lt HS5.out.2.1)⟩
    have BD5 := Aside0.mk (below_drew1 (Below.refl w5.heap.size w5))
    have BA5 := Aside0.mk hba
    clear hba
    go_region_held3 (fun w' => w'.cell? ⟨g1, 0, none⟩ = some (.int .i64 2) ∧ w'.cell? ⟨g1, 1, none⟩ = some (.slice A1 M1.length c1) ∧ w'.cell? ⟨g1, 2, none⟩ = some (.int .i64 0))
      (first | go_keep | exact ⟨x0, x1, x2⟩ | exact ⟨far3 x0 NE5.out, far3 x1 NE5.out, far3 x2 NE5.out⟩ | exact ⟨far3 x0 NE6.out, far3 x1 NE6.out, far3 x2 NE6.out⟩)
      (first
        | (go_at_call 31; (with_reducible refine (HC2.out _).mono ?_); rintro e w6 ⟨v2, rfl, hr2, hb2⟩; obtain ⟨B2, d2, rfl, hd2, hD2⟩ := Kd.R_reads hr2; (first | (have S6 := Aside0.mk (SD.out.below hb2); have T6 := Aside0.mk (below_step BD5.out hb2)) | (have S6 := Aside0.mk (SDa.out.below hb2); have N6 := Aside0.mk (NDa.out.below hb2); have T6 := Aside0.mk (below_step BA5.out hb2))); have T6a := Aside0.mk (below_step T6.out (below_alloc (Below.refl w6.heap.size w6) (.cells #[.int .i64 0, .slice none 0 0, .int .i64 0] 24))); have S6a := Aside0.mk (S6.out.below (below_alloc (Below.refl w6.heap.size w6) (.cells #[.int .i64 0, .slice none 0 0, .int .i64 0] 24))); have N6a : Aside0 (NA w w6.heap.size (w6.alloc (.cells #[.int .i64 0, .slice none 0 0, .int .i64 0] 24))) := ⟨⟨blk_new _ _, S6.out.1.size⟩⟩; have NE6 : Aside0 (g1 ≠ w6.heap.size) := ⟨Nat.ne_of_lt (blk_lt S6.out.2.1)⟩; have J6 := Aside0.mk (HJ2.out A1 c1 B2 d2 w6 S6.out.2.2.1 S6.out.2.2.2.1 hD2 hd2); have J6a := Aside0.mk (HJ2.out A1 c1 B2 d2 (w6.alloc (.cells #[.int .i64 0, .slice none 0 0, .int .i64 0] 24)) S6a.out.2.2.1 S6a.out.2.2.2.1 (Kd.C_below hD2 (below_alloc (Below.refl w6.heap.size w6) (.cells #[.int .i64 0, .slice none 0 0, .int .i64 0] 24))) hd2); clear hr2 hb2 hd2 hD2 x0 x1 x2; obtain ⟨x0, x1, x2, -, -, -⟩ := grp_cells S6.out.2.1)
        | (go_at_call 18; (first | ((with_reducible refine J6.out.mono ?_); rintro e w7 ⟨v4, rfl, hr4, hb4⟩; have S7 := Aside0.mk (S6.out.below hb4); have T7 := Aside0.mk (below_step T6.out hb4); (try (have N7 := Aside0.mk (N6.out.below hb4)))) | ((with_reducible refine J6a.out.mono ?_); rintro e w7 ⟨v4, rfl, hr4, hb4⟩; have S7 := Aside0.mk (S6a.out.below hb4); have T7 := Aside0.mk (below_step T6a.out hb4); have N7 := Aside0.mk (N6a.out.below hb4))); obtain ⟨A2, c2, rfl, hc2, hC2⟩ := Kd.R_reads hr4; have H7 := Aside0.mk (And.intro hc2 hC2); have R7 := Aside0.mk hr4; clear hr4 hb4 hc2 hC2 x0 x1 x2 J6 J6a; obtain ⟨x0, x1, x2, -, -, -⟩ := grp_cells S7.out.2.1; (try (obtain ⟨n0, n1, n2, f0, f1, f2⟩ := N7.out.cells))))
    · have hbb := below_alloc (Below.refl w7.heap.size w7) (.cells #[.int .i64 3, .slice A2 M2.length c2, .int .i64 0] 24)
      have FS : Aside0 (SA w g1 A1 c1 (w7.alloc (.cells #[.int .i64 3, .slice A2 M2.length c2, .int .i64 0] 24))) := ⟨S7.out.below hbb⟩
      have FG : Aside0 (BG w w7.heap.size 3 A2 c2 M2 0 (w7.alloc (.cells #[.int .i64 3, .slice A2 M2.length c2, .int .i64 0] 24))) := ⟨⟨blk_new _ _, Kd.C_below H7.out.2 hbb, H7.out.1, S7.out.1.size⟩⟩
      clear hbb
      go_wp2_with (fail)
      go_meet
      exact ⟨_, A2, c2, rfl, rfl, rfl, FS, FG⟩
    · have FS : Aside0 (SA w g1 A1 c1 (((w7.setCell ⟨w6.heap.size, 0, none⟩ (.int .i64 3)).setCell ⟨w6.heap.size, 1, none⟩ (.slice A2 M2.length c2)).setCell ⟨w6.heap.size, 2, none⟩ (.int .i64 0))) := ⟨HS5.out.below (new3 T7.out T6.out.size)⟩
      have FG : Aside0 (BG w w6.heap.size 3 A2 c2 M2 0 (((w7.setCell ⟨w6.heap.size, 0, none⟩ (.int .i64 3)).setCell ⟨w6.heap.size, 1, none⟩ (.slice A2 M2.length c2)).setCell ⟨w6.heap.size, 2, none⟩ (.int .i64 0))) := ⟨⟨box3 N7.out.1, (by
        have h := Kd.R_set (Kd.R_set (Kd.R_set R7.out N7.out.1 (by decide) 0 (.int .i64 3)) (blk_put N7.out.1 0 (.int .i64 3) rfl) (by decide) 1 (.slice A2 M2.length c2)) (blk_put (blk_put N7.out.1 0 (.int .i64 3) rfl) 1 (.slice A2 M2.length c2) rfl) (by decide) 2 (.int .i64 0)
        obtain ⟨A, c, e, _, hc⟩ := Kd.R_reads h
        cases e
        exact hc), H7.out.1, N7.out.2⟩⟩
      go_wp2_with (fail)
      go_meet
      exact ⟨_, A2, c2, rfl, rfl, rfl, FS, FG⟩
    · have FS : Aside0 (SA w g1 A1 c1 (((w7.setCell ⟨w5.heap.size, 0, none⟩ (.int .i64 3)).setCell ⟨w5.heap.size, 1, none⟩ (.slice A2 M2.length c2)).setCell ⟨w5.heap.size, 2, none⟩ (.int .i64 0))) := ⟨HS5.out.below (new3 T7.out (Nat.le_refl _))⟩
      have FG : Aside0 (BG w w5.heap.size 3 A2 c2 M2 0 (((w7.setCell ⟨w5.heap.size, 0, none⟩ (.int .i64 3)).setCell ⟨w5.heap.size, 1, none⟩ (.slice A2 M2.length c2)).setCell ⟨w5.heap.size, 2, none⟩ (.int .i64 0))) := ⟨⟨box3 N7.out.1, (by
        have h := Kd.R_set (Kd.R_set (Kd.R_set R7.out N7.out.1 (by decide) 0 (.int .i64 3)) (blk_put N7.out.1 0 (.int .i64 3) rfl) (by decide) 1 (.slice A2 M2.length c2)) (blk_put (blk_put N7.out.1 0 (.int .i64 3) rfl) 1 (.slice A2 M2.length c2) rfl) (by decide) 2 (.int .i64 0)
        obtain ⟨A, c, e, _, hc⟩ := Kd.R_reads h
        cases e
        exact hc), H7.out.1, N7.out.2⟩⟩
      go_wp2_with (fail)
      go_meet
      exact ⟨_, A2, c2, rfl, rfl, rfl, FS, FG⟩
  case rest =>
    obtain ⟨g4, A2, c2, rfl, rfl, rfl, HS, G4⟩ := hcut
    clear HS5 HJ2 HC2 x0 x1 x2
    obtain ⟨x0, x1, x2, -, -, -⟩ := grp_cells HS.out.2.1
    have HP := Aside0.mk (group_Put.calls 20 2 A1 c1 M1 0 _ _ wc HS.out.2.2.1 HS.out.2.2.2.1 aw_p)
    go_wp2_with (fail)
    refine HP.out.mono ?_
    rintro e w8 ⟨rfl, hb⟩
    have S8 := Aside0.mk (HS.out.below hb)
    have G8 := Aside0.mk (G4.out.below hb)
    clear hb HP HS G4 x0 x1 x2
    have HT := Aside0.mk (group_Take.calls 20 aw54 _ _ _ _ w8 aw_t)
    go_wp2_with (fail)
    refine HT.out.mono ?_
    rintro e w9 ⟨v9, rfl, hr, hb⟩
    obtain ⟨A9, c9, rfl, hc9, hC9⟩ := Kd.R_reads hr
    have S9 := Aside0.mk (S8.out.below hb)
    have G9 := Aside0.mk (G8.out.below hb)
    have H9 := Aside0.mk (And.intro hc9 hC9)
    clear hr hb hc9 hC9 HT S8 G8
    go_upto_region 5 with (first | ((with_reducible refine gate_dst (N := 9) rfl ?_); (try (refine gate_guard (by rfl) ?_; dsimp only)); refine box_event ?hg (N := 9) ?hd (cs := #[.int .i64 0, .slice none 0 0, .int .i64 0]) (t := 24) ?hr ?_; (case hd => rfl); (case hg => rfl); (case hr => first | (go_simp; done) | (go_simp; rfl)); intro g9 hg wa hbox hb; have SB := Aside0.mk (S9.out.below hb); have GB := Aside0.mk (G9.out.below hb); have HBB := Aside0.mk (And.intro H9.out.1 (Kd.C_below H9.out.2 hb)); have KB := Aside0.mk hbox; have LB := Aside0.mk (show w9.heap.size ≤ g9 by rw [hg]; exact Nat.le_refl _); have HX := Aside0.mk hb; obtain ⟨n0, n1, n2, f0, f1, f2⟩ := grp_cells KB.out; clear hb hbox hg))
    (try simp only [Act.put, List.setIfInBounds_toArray, List.set_cons_zero, List.set_cons_succ])
    have HY := Aside0.mk (new3 (u0 := .int .i64 2) (u1 := .slice A9 M1.length c9) (u2 := .int .i64 0) HX.out LB.out)
    have SC := Aside0.mk (S9.out.below HY.out)
    have GC := Aside0.mk (G9.out.below HY.out)
    have KC : Aside0 (BG w g9 2 A9 c9 M1 0 (((wa.setCell ⟨g9, 0, none⟩ (.int .i64 2)).setCell ⟨g9, 1, none⟩ (.slice A9 M1.length c9)).setCell ⟨g9, 2, none⟩ (.int .i64 0))) := ⟨⟨box3 KB.out, Kd.C_below H9.out.2 HY.out, H9.out.1, Nat.le_trans S9.out.1.size LB.out⟩⟩
    clear SB GB HBB KB LB HX HY S9 G9 H9 n0 n1 n2 f0 f1 f2
    generalize ((wa.setCell ⟨g9, 0, none⟩ (.int .i64 2)).setCell ⟨g9, 1, none⟩ (.slice A9 M1.length c9)).setCell ⟨g9, 2, none⟩ (.int .i64 0) = wb at SC GC KC ⊢
    obtain ⟨x0, x1, x2, -, -, -⟩ := grp_cells SC.out.2.1
    have HI1 := Aside0.mk (group_In.calls 2 A1 c1 M1 0 2 _ wb SC.out.2.2.1 SC.out.2.2.2.1 aw_i1)
    go_wp2_with (fail)
    refine HI1.out.mono ?_
    rintro e wd ⟨rfl, hb⟩
    have SE := Aside0.mk (SC.out.below hb)
    have GE := Aside0.mk (GC.out.below hb)
    have KE := Aside0.mk (KC.out.below hb)
    clear hb HI1 SC GC KC x0 x1 x2
    obtain ⟨y0, y1, y2, -, -, -⟩ := grp_cells GE.out.1
    have HI2 := Aside0.mk (group_In.calls 3 A2 c2 M2 0 2 _ wd GE.out.2.1 GE.out.2.2.1 aw_i2)
    go_wp2_with (fail)
    refine HI2.out.mono ?_
    rintro e we ⟨rfl, hb⟩
    have SF := Aside0.mk (SE.out.below hb)
    have KF := Aside0.mk (KE.out.below hb)
    clear hb HI2 SE GE KE y0 y1 y2
    obtain ⟨x0, x1, x2, -, -, -⟩ := grp_cells SF.out.2.1
    obtain ⟨y0, y1, y2, -, -, -⟩ := grp_cells KF.out.1
    have hn54 := aw_n
    have HSM := Aside0.mk (samphireref20_Same.calls 20 2 A9 c9 M1 0 2 A1 c1 M1 0 _ we KF.out.2.1 KF.out.2.2.1 SF.out.2.2.1 SF.out.2.2.2.1 aw_s)
    go_wp2_with (fail)
    refine HSM.out.mono ?_
    rintro e wf ⟨rfl, hb⟩
    have SG := Aside0.mk (SF.out.below hb)
    clear hb HSM SF KF x0 x1 x2 y0 y1 y2
    obtain ⟨x0, x1, x2, -, -, -⟩ := grp_cells SG.out.2.1
    have HCK := Aside0.mk (group_Check.calls 20 2 A1 c1 M1 0 _ wf SG.out.2.2.1 SG.out.2.2.2.1 aw_k)
    go_wp2_with (fail)
    refine HCK.out.mono ?_
    rintro e wg ⟨rfl, hb⟩
    have SH := Aside0.mk (SG.out.below hb)
    clear hb HCK SG x0 x1 x2
    go_wp2_with (fail)
    go_ret
    exact ⟨rfl, SH.out.1⟩
end Go.Proofs.YthemhfloablccaaDoor.Pr
end

section
namespace Go.Proofs.YthemhfloablccaaDoor.Pr
open Go.RowKit Go.Deep Go.Proofs.YthemhfloablccaaDoorW.PrintWords Go.Proofs.YthemhfloablccaaDoorW.PrintLast Go.Proofs.YthemhfloablccaaDoorW.PrintMore
set_option maxHeartbeats 4000000
def memsA (i : Int) : List Bool → List Mem
 | [a, b, c, d, e] => [⟨1, i, true⟩, ⟨2, 0, a⟩, ⟨3, 0, b⟩, ⟨4, 0, c⟩, ⟨5, 0, d⟩, ⟨6, 0, e⟩]
 | _ => []
def inB (A : List Bool) (n : Nat) : Bool := (false :: true :: A).getD n false
def setB (A : List Bool) (n : Nat) (v : Bool) : List Bool := A.set (n - 2) v
def dB (A : List Bool) (kind : Int) (n : Nat) : Bool := decide (kind = 4) || (decide (kind = 2) && !(inB A n)) || (decide (kind = 3) && inB A n && decide (n ≠ 1))
theorem five {A : List Bool} (h : A.length = 5) : ∃ a b c d e, A = [a, b, c, d, e] := by
 match A, h with
 | [a, b, c, d, e], _ => exact ⟨a, b, c, d, e, rfl⟩
theorem any_isM {A : List Bool} (h : A.length = 5) (i : Int) (n : Nat) (hn : n ≤ 7) : (memsA i A).any (isM (n : Int)) = inB A n := by
 obtain ⟨a, b, c, d, e, rfl⟩ := five h
 have hc : n = 0 ∨ n = 1 ∨ n = 2 ∨ n = 3 ∨ n = 4 ∨ n = 5 ∨ n = 6 ∨ n = 7 := by omega
 rcases hc with rfl | rfl | rfl | rfl | rfl | rfl | rfl | rfl <;> simp [memsA, isM, inB]
theorem inM_memsA {A : List Bool} (h : A.length = 5) (i : Int) (n : Nat) (h2 : 2 ≤ n) (hn : n ≤ 6) (v : Bool) : inM (memsA i A) (n - 1) v = memsA i (setB A n v) := by
 obtain ⟨a, b, c, d, e, rfl⟩ := five h
 have hc : n = 2 ∨ n = 3 ∨ n = 4 ∨ n = 5 ∨ n = 6 := by omega
 rcases hc with rfl | rfl | rfl | rfl | rfl <;> rfl
theorem setB_len {A : List Bool} (h : A.length = 5) (n : Nat) (v : Bool) : (setB A n v).length = 5 := by unfold setB; rw [List.length_set]; exact h
theorem okG_memsA {A : List Bool} (h : A.length = 5) (E i : Int) (h1 : 1 ≤ E) (h2 : E ≤ 1000) (h3 : 0 ≤ i) (h4 : i ≤ 1000) : okG E (memsA i A) 0 = true := by
 obtain ⟨a, b, c, d, e, rfl⟩ := five h
 unfold okG
 rw [decide_eq_true (show 1 ≤ E ∧ E ≤ 1099511627775 ∧ (0 : Int) ≤ 0 ∧ (0 : Int) ≤ 500 ∧ (memsA i [a, b, c, d, e]).length = 6 from ⟨h1, by omega, by decide, by decide, rfl⟩)]
 simp only [memsA, okMs, okM, List.headD_cons, Bool.true_and, Bool.and_true]
 rw [decide_eq_true (by refine ⟨rfl, h3, by omega⟩)]
 rfl
theorem okG_parts0 {E : Int} {l : List Mem} {O : Int} (h : okG E l O = true) : okMs 0 l = true := by
 unfold okG at h
 simp only [Bool.and_eq_true] at h
 exact h.2.1
theorem wire_ok (kind : Int) (i : Int) (n : Nat) (h3 : 0 ≤ i) (h4 : i ≤ 1000) (hk : kind = 2 ∨ kind = 3 ∨ kind = 4) (h1 : 1 ≤ n) (hn : n ≤ 6) :
  wire_Check.f 20 kind 1 (i + 1) 0 z32 0 0 0 0 0 0 0 ⟨#[]⟩ ⟨#[]⟩ (if kind = 4 then 0 else (n : Int)) [] = some 0 := by
 have hm : wire_member.f 1 = some true := rfl
 have hb : badN (i + 1) = false := by unfold badN; rw [decide_eq_false (by omega), decide_eq_false (by omega)]; rfl
 have hnb : wire_number.f [i + 1, 0] = some true := by
  unfold wire_number.f
  rw [if_pos (show [i + 1, (0 : Int)].length ≤ 1000000 from by simp)]
  simp only [List.any_cons, hb, List.any_nil]
  rfl
 unfold wire_Check.f
 rw [hm, Option.bind_some, if_pos rfl, if_pos (by omega), hnb, Option.bind_some, if_pos rfl]
 have hc : n = 1 ∨ n = 2 ∨ n = 3 ∨ n = 4 ∨ n = 5 ∨ n = 6 := by omega
 rcases hk with rfl | rfl | rfl
 ·rcases hc with rfl | rfl | rfl | rfl | rfl | rfl <;> (refine Eq.trans (b := some 0) ?_ rfl; kernel_rfl)
 ·rcases hc with rfl | rfl | rfl | rfl | rfl | rfl <;> (refine Eq.trans (b := some 0) ?_ rfl; kernel_rfl)
 ·refine Eq.trans (b := some 0) ?_ rfl
  kernel_rfl
theorem judge_step {A : List Bool} (h : A.length = 5) (E i : Int) (h1 : 1 ≤ E) (h2 : E ≤ 900) (h3 : 0 ≤ i) (h4 : i ≤ 900) (kind : Int) (hk : kind = 2 ∨ kind = 3 ∨ kind = 4) (n : Nat) (hn1 : 1 ≤ n) (hn : n ≤ 6) :
  group_Judge.f 20 E (memsA i A) 0 E kind 1 (i + 1) 0 z32 0 0 0 0 0 0 0 ⟨#[]⟩ ⟨#[]⟩ (if kind = 4 then 0 else (n : Int)) [] =
   some (if dB A kind n = true then E + 1 else E, memsA (i + 1) (if dB A kind n = true ∧ kind ≠ 4 then setB A n (kind == 2) else A), 0, dB A kind n, 0) := by
 have hl : (memsA i A).length = 6 := by obtain ⟨a, b, c, d, e, rfl⟩ := five h; rfl
 unfold group_Judge.f
 rw [check_f E (memsA i A) 0 (by omega) 20 (by omega), okG_memsA h E i h1 (by omega) h3 (by omega), Option.bind_some, if_pos rfl, if_pos rfl, wire_ok kind i n h3 (by omega) hk hn1 hn, Option.bind_some, if_pos rfl,
  if_pos (show goodJ E (memsA i A) 0 kind 1 (if kind = 4 then 0 else (n : Int)) from ⟨hl, h1, by omega, by decide, by decide, by decide, by decide, by omega, by omega, (fun q => by rw [if_neg (by omega)]; omega),
   okMs_all _ 0 (okG_parts0 (okG_memsA h E i h1 (by omega) h3 (by omega)))⟩)]
 congr 1
 have h0 : (memsA i A)[((1 : Int) - 1).toNat]? = some ⟨1, i, true⟩ := by obtain ⟨a, b, c, d, e, rfl⟩ := five h; rfl
 have hset : (memsA i A).set ((1 : Int) - 1).toNat ⟨1, i + 1, true⟩ = memsA (i + 1) A := by obtain ⟨a, b, c, d, e, rfl⟩ := five h; rfl
 unfold judgeM
 rw [h0]
 simp only
 rw [if_neg (by omega), if_neg (by omega), hset]
 have ha1 : (memsA (i + 1) A).any (isM 1) = inB A 1 := any_isM h (i + 1) 1 (by decide)
 have ha := any_isM h (i + 1) n (by omega)
 have i1 : inB A 1 = true := rfl
 have hd : doesM E (memsA (i + 1) A) 0 E kind 1 (if kind = 4 then 0 else (n : Int)) = (if dB A kind n = true then E + 1 else E, memsA (i + 1) (if dB A kind n = true ∧ kind ≠ 4 then setB A n (kind == 2) else A), 0, dB A kind n) := by
  unfold doesM
  rw [ha1, i1, if_neg (by decide)]
  rcases hk with rfl | rfl | rfl
  ·rw [if_neg (by decide), if_neg (by omega), if_pos rfl, if_neg (show ¬ ((2 : Int) = 4) by decide), ha]
   unfold dB
   cases hb : inB A n
   ·rw [if_neg (by decide), show ((n : Int) - 1).toNat = n - 1 by omega, inM_memsA h (i + 1) n (by
     rcases Nat.lt_or_ge n 2 with q | q
     ·obtain rfl : n = 1 := by omega
      rw [i1] at hb; cases hb
     ·exact q) hn]
    simp
   ·rw [if_pos rfl]; simp
  ·rw [if_neg (by decide), if_neg (by omega), if_neg (by decide), if_pos rfl, if_neg (show ¬ ((3 : Int) = 4) by decide), ha]
   unfold dB
   cases hb : inB A n
   ·rw [if_pos (.inr rfl)]; simp
   ·by_cases hn2 : n = 1
    ·subst hn2; rw [if_pos (.inl rfl)]; simp
    ·rw [if_neg (by simp; omega), show ((n : Int) - 1).toNat = n - 1 by omega, inM_memsA h (i + 1) n (by omega) hn]
     simp [hn2]
  ·rw [if_neg (by decide), if_neg (by omega), if_neg (by decide), if_neg (by decide)]
   unfold dB
   simp
 rw [hd]
end Go.Proofs.YthemhfloablccaaDoor.Pr
end

section
namespace Go.Proofs.YthemhfloablccaaDoor.Pr
open Go.RowKit Go.Deep Go.Proofs.YthemhfloablccaaDoorW.PrintWords Go.Proofs.YthemhfloablccaaDoorW.PrintLast Go.Proofs.YthemhfloablccaaDoorW.PrintMore
set_option maxHeartbeats 100000000
def inRow (A : List Bool) : Array Value := ((false :: true :: A).map Value.bool).toArray
theorem inRow_at {A : List Bool} (h : A.length = 5) (n : Nat) (hn : n ≤ 6) : (inRow A)[n]? = some (.bool (inB A n)) := by
 obtain ⟨a, b, c, d, e, rfl⟩ := five h
 have hc : n = 0 ∨ n = 1 ∨ n = 2 ∨ n = 3 ∨ n = 4 ∨ n = 5 ∨ n = 6 := by omega
 rcases hc with rfl | rfl | rfl | rfl | rfl | rfl | rfl <;> rfl
theorem inRow_set {A : List Bool} (h : A.length = 5) (n : Nat) (h2 : 2 ≤ n) (hn : n ≤ 6) (v : Bool) : (inRow A).setIfInBounds n (.bool v) = inRow (setB A n v) := by
 obtain ⟨a, b, c, d, e, rfl⟩ := five h
 have hc : n = 2 ∨ n = 3 ∨ n = 4 ∨ n = 5 ∨ n = 6 := by omega
 rcases hc with rfl | rfl | rfl | rfl | rfl <;> rfl
theorem ctl (x y z : Int) : samphirelaw20_control.f x y z = some (x, 1, y, 0, z32, 0, 0, 0, 0, 0, 0, 0, ⟨#[]⟩, ⟨#[]⟩, z, []) := by
 refine Eq.trans (b := some (x, 1, y, 0, z32, 0, 0, 0, 0, 0, 0, 0, ⟨#[]⟩, ⟨#[]⟩, z, [])) ?_ rfl
 kernel_rfl
def YA (w : World) (g3 ib : Nat) (E i : Int) (A : List Bool) (wx : World) : Prop :=
 Below w.heap.size w wx ∧ (∃ A0 c, BG w g3 E A0 c (memsA i A) 0 wx) ∧ wx.heap[ib]? = some (.cells (inRow A) 56 (0, 0)) ∧ w.heap.size ≤ ib ∧ g3 ≠ ib
theorem YA.below {w wx w' : World} {g3 ib : Nat} {E i : Int} {A : List Bool} (h : YA w g3 ib E i A wx) (hb : Below wx.heap.size wx w') : YA w g3 ib E i A w' := by
 obtain ⟨h1, ⟨A0, c, h2⟩, h3, h4⟩ := h
 exact ⟨below_step h1 hb, ⟨A0, c, h2.below hb⟩, blk_below h3 hb, h4⟩
theorem and_7g (n : Int) : Go.bits .and .i64 n 7 = n % 8 := by
 have h127 : (BitVec.ofInt 64 7).toNat = 2 ^ 3 - 1 := by decide
 have key : (BitVec.ofInt 64 n &&& BitVec.ofInt 64 7).toNat = (n % ((2 ^ 64 : Nat) : Int)).toNat % 2 ^ 3 := by
  rw [BitVec.toNat_and, BitVec.toNat_ofInt, h127, Nat.and_two_pow_sub_one_eq_mod]
 show IntKind.i64.wrap ((BitVec.ofInt 64 n &&& BitVec.ofInt 64 7).toNat : Nat) = n % 8
 rw [key, IntKind.wrap_i64]
 omega
theorem and_3h (n : Int) : Go.bits .and .i64 n 3 = n % 4 := by
 have h127 : (BitVec.ofInt 64 3).toNat = 2 ^ 2 - 1 := by decide
 have key : (BitVec.ofInt 64 n &&& BitVec.ofInt 64 3).toNat = (n % ((2 ^ 64 : Nat) : Int)).toNat % 2 ^ 2 := by
  rw [BitVec.toNat_and, BitVec.toNat_ofInt, h127, Nat.and_two_pow_sub_one_eq_mod]
 show IntKind.i64.wrap ((BitVec.ofInt 64 n &&& BitVec.ofInt 64 3).toNat : Nat) = n % 4
 rw [key, IntKind.wrap_i64]
 omega
theorem who_n (x : Int) : ∃ n : Nat, 1 ≤ n ∧ n ≤ 6 ∧ wrap64 (1 + (Go.bits .and .i64 (x / 4) 7).tmod 6) = (n : Int) := by
 rw [and_7g, Int.tmod_eq_emod_of_nonneg (by omega)]
 exact ⟨(1 + x / 4 % 8 % 6).toNat, by omega, by omega, by unfold wrap64; omega⟩
theorem kind_n (x : Int) : ∃ kd : Int, (kd = 2 ∨ kd = 3 ∨ kd = 4) ∧ wrap64 (2 + (Go.bits .and .i64 x 3).tmod 3) = kd := by
 rw [and_3h, Int.tmod_eq_emod_of_nonneg (by omega)]
 exact ⟨2 + x % 4 % 3, by omega, by unfold wrap64; omega⟩
def ZA (w6 : World) (rb : Nat) (rv : Array Value) (wx : World) : Prop := Below w6.heap.size w6 wx ∧ wx.heap[rb]? = some (.cells rv 31 (0, 0)) ∧ w6.heap.size ≤ rb
theorem ZA.below {w6 wx w' : World} {rb : Nat} {rv : Array Value} (h : ZA w6 rb rv wx) (hb : Below wx.heap.size wx w') : ZA w6 rb rv w' := ⟨below_step h.1 hb, blk_below h.2.1 hb, h.2.2⟩
theorem C_nil (w' : World) (B : Option Addr) : Kd.C k80 w' B 0 ([] : List Wrp) := ⟨rfl, by decide, fun q => absurd q (by decide)⟩
theorem rec_ints {wx : World} {rb : Nat} {kd y z : Int} {B : Value} (h : wx.heap[rb]? = some (.cells (RecV kd 1 y 0 z32 0 0 0 0 0 0 0 ⟨#[]⟩ ⟨#[]⟩ z B) 31 (0, 0))) :
  wx.cell? ⟨rb, 0, none⟩ = some (.int .i64 kd) ∧ wx.cell? ⟨rb, 14, none⟩ = some (.int .i64 z) ∧ wx.frozen? ⟨rb, 14, none⟩ = false := ⟨(blk_cell h 0).trans rfl, (blk_cell h 14).trans rfl, blk_frozen h 14⟩
structure WA (w : World) (base g3 ib g10 : Nat) (E E' i' : Int) (A' : List Bool) (v3 : Value) (A1 : Option Addr) (c1 : Nat) (wx : World) : Prop where
 bel : Below w.heap.size w wx
 old : wx.heap[g3]? = some (.cells #[.int .i64 E, v3, .int .i64 0] 24 (0, 0))
 inn : wx.heap[ib]? = some (.cells (inRow A') 56 (0, 0))
 new : wx.heap[g10]? = some (.cells #[.int .i64 E', .slice A1 (memsA i' A').length c1, .int .i64 0] 24 (0, 0))
 row : Kd.R k46 46 wx base (fun _ => True) (.slice A1 (memsA i' A').length c1) (memsA i' A')
 cap : (memsA i' A').length ≤ c1
 lo : w.heap.size ≤ g3 ∧ w.heap.size ≤ ib ∧ g3 ≠ ib ∧ g10 ≠ ib ∧ g10 ≠ g3
theorem WA.below {w wx w' : World} {base g3 ib g10 : Nat} {E E' i' : Int} {A' : List Bool} {v3 : Value} {A1 : Option Addr} {c1 : Nat} (h : WA w base g3 ib g10 E E' i' A' v3 A1 c1 wx) (hb : Below wx.heap.size wx w') : WA w base g3 ib g10 E E' i' A' v3 A1 c1 w' :=
 ⟨below_step h.bel hb, blk_below h.old hb, blk_below h.inn hb, blk_below h.new hb, Kd.R_below h.row hb, h.cap, h.lo⟩
theorem WA.C {w wx : World} {base g3 ib g10 : Nat} {E E' i' : Int} {A' : List Bool} {v3 : Value} {A1 : Option Addr} {c1 : Nat} (h : WA w base g3 ib g10 E E' i' A' v3 A1 c1 wx) : Kd.C k46 wx A1 (memsA i' A').length (memsA i' A') := by
 obtain ⟨A, c, e, _, hc⟩ := Kd.R_reads h.row
 cases e
 exact hc
theorem in_new {w wx : World} {base g3 ib g10 : Nat} {E E' i' : Int} {A' : List Bool} {v3 : Value} {A1 : Option Addr} {c1 : Nat} (h : WA w base g3 ib g10 E E' i' A' v3 A1 c1 wx) (h5 : A'.length = 5) (n : Nat) (hn : n ≤ 7) :
  Calls Tryd.prog 23 #[.agg #[.int .i64 E', .slice A1 (memsA i' A').length c1, .int .i64 0], .int .i64 (n : Int)] wx fun e w' => e = .returned (.bool (inB A' n)) ∧ Below wx.heap.size wx w' :=
 group_In.calls E' A1 c1 (memsA i' A') 0 (n : Int) _ wx h.C h.cap (by
  have : (memsA i' A').length ≤ 1000000 := by obtain ⟨a, b, c, d, e, rfl⟩ := five h5; show 6 ≤ _; decide
  rw [← any_isM h5 i' n hn]
  exact if_pos this)
set_option maxRecDepth 100000 in
theorem adds_walk (P : Option Addr) (cp : Nat) (acts : List Int) (w : World) (hC : Kd.C (Kd.int .i64) w P acts.length acts) :
  Calls Tryd.prog 7 #[.slice P acts.length cp] w fun e w' => e = .returned (.bool true) ∧ Below w.heap.size w w' := by
 have HC := Aside0.mk hC
 have HN := Aside0.mk (fun (W : World) => group_New.calls 20 1 M0 0 W aw_new)
 clear hC
 go_enter Tryd.func7, Tryd.ntmps7
 go_wp2_with (fail)
 refine (HN.out w).mono ?_
 rintro e w1 ⟨v1, rfl, hr1, hb1⟩
 obtain ⟨A0, c0, rfl, hc0, hC0⟩ := Kd.R_reads hr1
 have HB1 := Aside0.mk hb1
 have HC0 := Aside0.mk (And.intro hc0 hC0)
 clear hr1 hb1 hc0 hC0 HN
 go_upto_region 2 with (first | ((with_reducible refine gate_dst (N := 3) rfl ?_); (try (refine gate_guard (by rfl) ?_; dsimp only)); refine box_event ?hg (N := 3) ?hd (cs := #[.int .i64 0, .slice none 0 0, .int .i64 0]) (t := 24) ?hr ?_; (case hd => rfl); (case hg => rfl); (case hr => first | (go_simp; done) | (go_simp; rfl)); intro g3 hg w2 hbox hb; have HX := Aside0.mk (show Below w1.heap.size w1 w2 ∧ w1.heap.size ≤ g3 from ⟨hb, by rw [hg]; exact Nat.le_refl _⟩); have G2 := Aside0.mk hbox; obtain ⟨x0, x1, x2, z0, z1, z2⟩ := grp_cells G2.out; clear hb hbox hg))
 (try simp only [Act.put, List.setIfInBounds_toArray, List.set_cons_zero, List.set_cons_succ])
 have HY := Aside0.mk (new3 (u0 := .int .i64 1) (u1 := .slice A0 M0.length c0) (u2 := .int .i64 0) HX.out.1 HX.out.2)
 have G3 : Aside0 (BG w g3 1 A0 c0 M0 0 (((w2.setCell ⟨g3, 0, none⟩ (.int .i64 1)).setCell ⟨g3, 1, none⟩ (.slice A0 M0.length c0)).setCell ⟨g3, 2, none⟩ (.int .i64 0))) := ⟨⟨box3 G2.out, Kd.C_below HC0.out.2 HY.out, HC0.out.1, Nat.le_trans HB1.out.size HX.out.2⟩⟩
 have HB3 := Aside0.mk (below_step HB1.out HY.out)
 clear HX G2 HY HC0 HB1 x0 x1 x2 z0 z1 z2
 generalize ((w2.setCell ⟨g3, 0, none⟩ (.int .i64 1)).setCell ⟨g3, 1, none⟩ (.slice A0 M0.length c0)).setCell ⟨g3, 2, none⟩ (.int .i64 0) = w3 at G3 HB3 ⊢
 go_upto_region 3 with (first | ((with_reducible refine gate_dst (N := 4) rfl ?_); (try (refine gate_guard (by rfl) ?_; dsimp only)); refine box_event ?hg (N := 4) ?hd (cs := #[.bool false, .bool false, .bool false, .bool false, .bool false, .bool false, .bool false]) (t := 56) ?hr ?_; (case hd => rfl); (case hg => rfl); (case hr => first | (go_simp; done) | (go_simp; rfl)); intro ib hg w4 hbox hb; have HX := Aside0.mk (show Below w3.heap.size w3 w4 ∧ w3.heap.size ≤ ib from ⟨hb, by rw [hg]; exact Nat.le_refl _⟩); have K4 := Aside0.mk hbox; have d0 := (blk_cell K4.out 0).trans rfl; have d1 := (blk_cell K4.out 1).trans rfl; have d2 := (blk_cell K4.out 2).trans rfl; have d3 := (blk_cell K4.out 3).trans rfl; have d4 := (blk_cell K4.out 4).trans rfl; have d5 := (blk_cell K4.out 5).trans rfl; have d6 := (blk_cell K4.out 6).trans rfl; have z0 := blk_frozen K4.out 0; have z1 := blk_frozen K4.out 1; have z2 := blk_frozen K4.out 2; have z3 := blk_frozen K4.out 3; have z4 := blk_frozen K4.out 4; have z5 := blk_frozen K4.out 5; have z6 := blk_frozen K4.out 6; clear hb hbox hg))
 (try simp only [Act.put, List.setIfInBounds_toArray, List.set_cons_zero, List.set_cons_succ])
 have t := K4.out
 replace t := blk_put (cs' := #[.bool false, .bool false, .bool false, .bool false, .bool false, .bool false, .bool false]) t 0 (.bool false) rfl
 replace t := blk_put (cs' := #[.bool false, .bool true, .bool false, .bool false, .bool false, .bool false, .bool false]) t 1 (.bool true) rfl
 replace t := blk_put (cs' := #[.bool false, .bool true, .bool false, .bool false, .bool false, .bool false, .bool false]) t 2 (.bool false) rfl
 replace t := blk_put (cs' := #[.bool false, .bool true, .bool false, .bool false, .bool false, .bool false, .bool false]) t 3 (.bool false) rfl
 replace t := blk_put (cs' := #[.bool false, .bool true, .bool false, .bool false, .bool false, .bool false, .bool false]) t 4 (.bool false) rfl
 replace t := blk_put (cs' := #[.bool false, .bool true, .bool false, .bool false, .bool false, .bool false, .bool false]) t 5 (.bool false) rfl
 replace t := blk_put (cs' := #[.bool false, .bool true, .bool false, .bool false, .bool false, .bool false, .bool false]) t 6 (.bool false) rfl
 have HY : Aside0 (Below w3.heap.size w3 (World.setCell (World.setCell (World.setCell (World.setCell (World.setCell (World.setCell (World.setCell w4 ⟨ib, 0, none⟩ (.bool false)) ⟨ib, 1, none⟩ (.bool true)) ⟨ib, 2, none⟩ (.bool false)) ⟨ib, 3, none⟩ (.bool false)) ⟨ib, 4, none⟩ (.bool false)) ⟨ib, 5, none⟩ (.bool false)) ⟨ib, 6, none⟩ (.bool false))) := Aside0.mk (below_set (below_set (below_set (below_set (below_set (below_set (below_set HX.out.1 HX.out.2) HX.out.2) HX.out.2) HX.out.2) HX.out.2) HX.out.2) HX.out.2)
 have Y0 : Aside0 (YA w g3 ib 1 0 [false, false, false, false, false] (World.setCell (World.setCell (World.setCell (World.setCell (World.setCell (World.setCell (World.setCell w4 ⟨ib, 0, none⟩ (.bool false)) ⟨ib, 1, none⟩ (.bool true)) ⟨ib, 2, none⟩ (.bool false)) ⟨ib, 3, none⟩ (.bool false)) ⟨ib, 4, none⟩ (.bool false)) ⟨ib, 5, none⟩ (.bool false)) ⟨ib, 6, none⟩ (.bool false))) := ⟨⟨below_step HB3.out HY.out, ⟨A0, c0, G3.out.below HY.out⟩, t, Nat.le_trans HB3.out.size HX.out.2, Nat.ne_of_lt (Nat.lt_of_lt_of_le (blk_lt G3.out.1) HX.out.2)⟩⟩
 clear t HX K4 HY G3 HB3 d0 d1 d2 d3 d4 d5 d6 z0 z1 z2 z3 z4 z5 z6
 revert Y0
 generalize (World.setCell (World.setCell (World.setCell (World.setCell (World.setCell (World.setCell (World.setCell w4 ⟨ib, 0, none⟩ (.bool false)) ⟨ib, 1, none⟩ (.bool true)) ⟨ib, 2, none⟩ (.bool false)) ⟨ib, 3, none⟩ (.bool false)) ⟨ib, 4, none⟩ (.bool false)) ⟨ib, 5, none⟩ (.bool false)) ⟨ib, 6, none⟩ (.bool false)) = w5
 intro Y0
 go_upto_region 5 with (fail)
 go_loopg [5, 6] (acts.length + 1) (fun gk s5 s6 wx => ∃ (i : Nat) (E : Int) (A : List Bool), i ≤ acts.length ∧ i ≤ 24 ∧ s5 = .int .i64 E ∧ s6 = .int .i64 (i : Int) ∧ Aside0 (gk = acts.length + 1 - i) ∧ Aside0 (A.length = 5 ∧ 1 ≤ E ∧ E ≤ i + 1) ∧ Aside0 (YA w g3 ib E i A wx))
 case atStart => exact ⟨0, 1, _, Nat.zero_le _, by decide, rfl, rfl, ⟨rfl⟩, ⟨rfl, by decide, by decide⟩, Y0⟩
 case round =>
  obtain ⟨i, E, A, hi, hi24, rfl, rfl, HGK, HA, HYY⟩ := hrel
  by_cases hlt : i < acts.length ∧ i < 24
  ·obtain ⟨hl1, hl2⟩ := hlt
   have q1 : decide (i < acts.length) = true := decide_eq_true hl1
   have q2 : decide (i < 24) = true := decide_eq_true hl2
   have q3 : decide ((i : Int) < 24) = true := decide_eq_true (by omega)
   obtain ⟨ad, x, hP, hx, hc⟩ := num_at (Kd.C_below HC.out HYY.out.1) i hl1
   subst hP
   have e5 := eq_true hl1
   have HL1 := Aside0.mk hl1
   have HL2 := Aside0.mk hl2
   clear hi hi24 hl1 hl2 hx
   go_upto_region 8 with (fail)
   obtain ⟨n, hn1, hn6, hn⟩ := who_n x
   rw [hn]
   obtain ⟨kd, hkd, hk⟩ := kind_n x
   have w8 : wrap64 ((i : Int) + 1) = (i : Int) + 1 := by have := HL2.out; unfold wrap64; omega
   have HN := Aside0.mk (And.intro hn1 hn6)
   have HKD := Aside0.mk hkd
   have HCT := Aside0.mk (samphirelaw20_control.calls kd ((i : Int) + 1) (n : Int) _ _ _ _ _ _ _ _ _ _ _ _ _ _ _ _ wr (ctl kd ((i : Int) + 1) (n : Int)))
   clear hn hn1 hn6 hkd q1 q2 q3
   go_wp2_with (fail)
   refine HCT.out.mono ?_
   rintro e w6 ⟨v15, rfl, hr, hb⟩
   obtain ⟨B, d, rfl, hd, hD⟩ := Kd.R_reads hr
   have Y6 := Aside0.mk (HYY.out.below hb)
   have HD := Aside0.mk (show 0 ≤ d ∧ Kd.C k80 w6 B 0 ([] : List Wrp) from ⟨Nat.zero_le _, hD⟩)
   clear hr hb hd hD HCT hc hk e5 HYY
   go_upto_region 9 with (first | ((with_reducible refine gate_dst (N := 8) rfl ?_); (try (refine gate_guard (by rfl) ?_; dsimp only)); refine box_event ?hg (N := 8) ?hd (cs := #[.int .i64 0, .int .i64 0, .int .i64 0, .int .i64 0, .string (⟨#[]⟩ : ByteArray), .int .i64 0, .int .i64 0, .int .i64 0, .int .i64 0, .int .i64 0, .int .i64 0, .int .i64 0, .string (⟨#[]⟩ : ByteArray), .string (⟨#[]⟩ : ByteArray), .int .i64 0, .slice none 0 0]) (t := 31) ?hr ?_; (case hd => rfl); (case hg => rfl); (case hr => first | (go_simp; done) | (go_simp; rfl)); intro rb hg w7 hbox hb; have HX := Aside0.mk (show Below w6.heap.size w6 w7 ∧ w6.heap.size ≤ rb from ⟨hb, by rw [hg]; exact Nat.le_refl _⟩); have K7 := Aside0.mk hbox; have d0 := (blk_cell K7.out 0).trans rfl; have z0 := blk_frozen K7.out 0; have d1 := (blk_cell K7.out 1).trans rfl; have z1 := blk_frozen K7.out 1; have d2 := (blk_cell K7.out 2).trans rfl; have z2 := blk_frozen K7.out 2; have d3 := (blk_cell K7.out 3).trans rfl; have z3 := blk_frozen K7.out 3; have d4 := (blk_cell K7.out 4).trans rfl; have z4 := blk_frozen K7.out 4; have d5 := (blk_cell K7.out 5).trans rfl; have z5 := blk_frozen K7.out 5; have d6 := (blk_cell K7.out 6).trans rfl; have z6 := blk_frozen K7.out 6; have d7 := (blk_cell K7.out 7).trans rfl; have z7 := blk_frozen K7.out 7; have d8 := (blk_cell K7.out 8).trans rfl; have z8 := blk_frozen K7.out 8; have d9 := (blk_cell K7.out 9).trans rfl; have z9 := blk_frozen K7.out 9; have d10 := (blk_cell K7.out 10).trans rfl; have z10 := blk_frozen K7.out 10; have d11 := (blk_cell K7.out 11).trans rfl; have z11 := blk_frozen K7.out 11; have d12 := (blk_cell K7.out 12).trans rfl; have z12 := blk_frozen K7.out 12; have d13 := (blk_cell K7.out 13).trans rfl; have z13 := blk_frozen K7.out 13; have d14 := (blk_cell K7.out 14).trans rfl; have z14 := blk_frozen K7.out 14; have d15 := (blk_cell K7.out 15).trans rfl; have z15 := blk_frozen K7.out 15; clear hb hbox hg))
   (try simp only [Act.put, List.setIfInBounds_toArray, List.set_cons_zero, List.set_cons_succ])
   have t := K7.out
   replace t := blk_put (cs' := #[.int .i64 kd, .int .i64 0, .int .i64 0, .int .i64 0, .string (⟨#[]⟩ : ByteArray), .int .i64 0, .int .i64 0, .int .i64 0, .int .i64 0, .int .i64 0, .int .i64 0, .int .i64 0, .string (⟨#[]⟩ : ByteArray), .string (⟨#[]⟩ : ByteArray), .int .i64 0, .slice none 0 0]) t 0 (.int .i64 kd) rfl
   replace t := blk_put (cs' := #[.int .i64 kd, .int .i64 1, .int .i64 0, .int .i64 0, .string (⟨#[]⟩ : ByteArray), .int .i64 0, .int .i64 0, .int .i64 0, .int .i64 0, .int .i64 0, .int .i64 0, .int .i64 0, .string (⟨#[]⟩ : ByteArray), .string (⟨#[]⟩ : ByteArray), .int .i64 0, .slice none 0 0]) t 1 (.int .i64 1) rfl
   replace t := blk_put (cs' := #[.int .i64 kd, .int .i64 1, .int .i64 ((i : Int) + 1), .int .i64 0, .string (⟨#[]⟩ : ByteArray), .int .i64 0, .int .i64 0, .int .i64 0, .int .i64 0, .int .i64 0, .int .i64 0, .int .i64 0, .string (⟨#[]⟩ : ByteArray), .string (⟨#[]⟩ : ByteArray), .int .i64 0, .slice none 0 0]) t 2 (.int .i64 ((i : Int) + 1)) rfl
   replace t := blk_put (cs' := #[.int .i64 kd, .int .i64 1, .int .i64 ((i : Int) + 1), .int .i64 0, .string (⟨#[]⟩ : ByteArray), .int .i64 0, .int .i64 0, .int .i64 0, .int .i64 0, .int .i64 0, .int .i64 0, .int .i64 0, .string (⟨#[]⟩ : ByteArray), .string (⟨#[]⟩ : ByteArray), .int .i64 0, .slice none 0 0]) t 3 (.int .i64 0) rfl
   replace t := blk_put (cs' := #[.int .i64 kd, .int .i64 1, .int .i64 ((i : Int) + 1), .int .i64 0, .string z32, .int .i64 0, .int .i64 0, .int .i64 0, .int .i64 0, .int .i64 0, .int .i64 0, .int .i64 0, .string (⟨#[]⟩ : ByteArray), .string (⟨#[]⟩ : ByteArray), .int .i64 0, .slice none 0 0]) t 4 (.string z32) rfl
   replace t := blk_put (cs' := #[.int .i64 kd, .int .i64 1, .int .i64 ((i : Int) + 1), .int .i64 0, .string z32, .int .i64 0, .int .i64 0, .int .i64 0, .int .i64 0, .int .i64 0, .int .i64 0, .int .i64 0, .string (⟨#[]⟩ : ByteArray), .string (⟨#[]⟩ : ByteArray), .int .i64 0, .slice none 0 0]) t 5 (.int .i64 0) rfl
   replace t := blk_put (cs' := #[.int .i64 kd, .int .i64 1, .int .i64 ((i : Int) + 1), .int .i64 0, .string z32, .int .i64 0, .int .i64 0, .int .i64 0, .int .i64 0, .int .i64 0, .int .i64 0, .int .i64 0, .string (⟨#[]⟩ : ByteArray), .string (⟨#[]⟩ : ByteArray), .int .i64 0, .slice none 0 0]) t 6 (.int .i64 0) rfl
   replace t := blk_put (cs' := #[.int .i64 kd, .int .i64 1, .int .i64 ((i : Int) + 1), .int .i64 0, .string z32, .int .i64 0, .int .i64 0, .int .i64 0, .int .i64 0, .int .i64 0, .int .i64 0, .int .i64 0, .string (⟨#[]⟩ : ByteArray), .string (⟨#[]⟩ : ByteArray), .int .i64 0, .slice none 0 0]) t 7 (.int .i64 0) rfl
   replace t := blk_put (cs' := #[.int .i64 kd, .int .i64 1, .int .i64 ((i : Int) + 1), .int .i64 0, .string z32, .int .i64 0, .int .i64 0, .int .i64 0, .int .i64 0, .int .i64 0, .int .i64 0, .int .i64 0, .string (⟨#[]⟩ : ByteArray), .string (⟨#[]⟩ : ByteArray), .int .i64 0, .slice none 0 0]) t 8 (.int .i64 0) rfl
   replace t := blk_put (cs' := #[.int .i64 kd, .int .i64 1, .int .i64 ((i : Int) + 1), .int .i64 0, .string z32, .int .i64 0, .int .i64 0, .int .i64 0, .int .i64 0, .int .i64 0, .int .i64 0, .int .i64 0, .string (⟨#[]⟩ : ByteArray), .string (⟨#[]⟩ : ByteArray), .int .i64 0, .slice none 0 0]) t 9 (.int .i64 0) rfl
   replace t := blk_put (cs' := #[.int .i64 kd, .int .i64 1, .int .i64 ((i : Int) + 1), .int .i64 0, .string z32, .int .i64 0, .int .i64 0, .int .i64 0, .int .i64 0, .int .i64 0, .int .i64 0, .int .i64 0, .string (⟨#[]⟩ : ByteArray), .string (⟨#[]⟩ : ByteArray), .int .i64 0, .slice none 0 0]) t 10 (.int .i64 0) rfl
   replace t := blk_put (cs' := #[.int .i64 kd, .int .i64 1, .int .i64 ((i : Int) + 1), .int .i64 0, .string z32, .int .i64 0, .int .i64 0, .int .i64 0, .int .i64 0, .int .i64 0, .int .i64 0, .int .i64 0, .string (⟨#[]⟩ : ByteArray), .string (⟨#[]⟩ : ByteArray), .int .i64 0, .slice none 0 0]) t 11 (.int .i64 0) rfl
   replace t := blk_put (cs' := #[.int .i64 kd, .int .i64 1, .int .i64 ((i : Int) + 1), .int .i64 0, .string z32, .int .i64 0, .int .i64 0, .int .i64 0, .int .i64 0, .int .i64 0, .int .i64 0, .int .i64 0, .string (⟨#[]⟩ : ByteArray), .string (⟨#[]⟩ : ByteArray), .int .i64 0, .slice none 0 0]) t 12 (.string (⟨#[]⟩ : ByteArray)) rfl
   replace t := blk_put (cs' := #[.int .i64 kd, .int .i64 1, .int .i64 ((i : Int) + 1), .int .i64 0, .string z32, .int .i64 0, .int .i64 0, .int .i64 0, .int .i64 0, .int .i64 0, .int .i64 0, .int .i64 0, .string (⟨#[]⟩ : ByteArray), .string (⟨#[]⟩ : ByteArray), .int .i64 0, .slice none 0 0]) t 13 (.string (⟨#[]⟩ : ByteArray)) rfl
   replace t := blk_put (cs' := #[.int .i64 kd, .int .i64 1, .int .i64 ((i : Int) + 1), .int .i64 0, .string z32, .int .i64 0, .int .i64 0, .int .i64 0, .int .i64 0, .int .i64 0, .int .i64 0, .int .i64 0, .string (⟨#[]⟩ : ByteArray), .string (⟨#[]⟩ : ByteArray), .int .i64 (n : Int), .slice none 0 0]) t 14 (.int .i64 (n : Int)) rfl
   replace t := blk_put (cs' := #[.int .i64 kd, .int .i64 1, .int .i64 ((i : Int) + 1), .int .i64 0, .string z32, .int .i64 0, .int .i64 0, .int .i64 0, .int .i64 0, .int .i64 0, .int .i64 0, .int .i64 0, .string (⟨#[]⟩ : ByteArray), .string (⟨#[]⟩ : ByteArray), .int .i64 (n : Int), .slice B 0 d]) t 15 (.slice B 0 d) rfl
   have HY : Aside0 (Below w6.heap.size w6 (World.setCell (World.setCell (World.setCell (World.setCell (World.setCell (World.setCell (World.setCell (World.setCell (World.setCell (World.setCell (World.setCell (World.setCell (World.setCell (World.setCell (World.setCell (World.setCell w7 ⟨rb, 0, none⟩ (.int .i64 kd)) ⟨rb, 1, none⟩ (.int .i64 1)) ⟨rb, 2, none⟩ (.int .i64 ((i : Int) + 1))) ⟨rb, 3, none⟩ (.int .i64 0)) ⟨rb, 4, none⟩ (.string z32)) ⟨rb, 5, none⟩ (.int .i64 0)) ⟨rb, 6, none⟩ (.int .i64 0)) ⟨rb, 7, none⟩ (.int .i64 0)) ⟨rb, 8, none⟩ (.int .i64 0)) ⟨rb, 9, none⟩ (.int .i64 0)) ⟨rb, 10, none⟩ (.int .i64 0)) ⟨rb, 11, none⟩ (.int .i64 0)) ⟨rb, 12, none⟩ (.string (⟨#[]⟩ : ByteArray))) ⟨rb, 13, none⟩ (.string (⟨#[]⟩ : ByteArray))) ⟨rb, 14, none⟩ (.int .i64 (n : Int))) ⟨rb, 15, none⟩ (.slice B 0 d))) := Aside0.mk (below_set (below_set (below_set (below_set (below_set (below_set (below_set (below_set (below_set (below_set (below_set (below_set (below_set (below_set (below_set (below_set HX.out.1 HX.out.2) HX.out.2) HX.out.2) HX.out.2) HX.out.2) HX.out.2) HX.out.2) HX.out.2) HX.out.2) HX.out.2) HX.out.2) HX.out.2) HX.out.2) HX.out.2) HX.out.2) HX.out.2)
   have Z8 := Aside0.mk (show ZA w6 rb (RecV kd 1 ((i : Int) + 1) 0 z32 0 0 0 0 0 0 0 ⟨#[]⟩ ⟨#[]⟩ (n : Int) (.slice B 0 d)) (World.setCell (World.setCell (World.setCell (World.setCell (World.setCell (World.setCell (World.setCell (World.setCell (World.setCell (World.setCell (World.setCell (World.setCell (World.setCell (World.setCell (World.setCell (World.setCell w7 ⟨rb, 0, none⟩ (.int .i64 kd)) ⟨rb, 1, none⟩ (.int .i64 1)) ⟨rb, 2, none⟩ (.int .i64 ((i : Int) + 1))) ⟨rb, 3, none⟩ (.int .i64 0)) ⟨rb, 4, none⟩ (.string z32)) ⟨rb, 5, none⟩ (.int .i64 0)) ⟨rb, 6, none⟩ (.int .i64 0)) ⟨rb, 7, none⟩ (.int .i64 0)) ⟨rb, 8, none⟩ (.int .i64 0)) ⟨rb, 9, none⟩ (.int .i64 0)) ⟨rb, 10, none⟩ (.int .i64 0)) ⟨rb, 11, none⟩ (.int .i64 0)) ⟨rb, 12, none⟩ (.string (⟨#[]⟩ : ByteArray))) ⟨rb, 13, none⟩ (.string (⟨#[]⟩ : ByteArray))) ⟨rb, 14, none⟩ (.int .i64 (n : Int))) ⟨rb, 15, none⟩ (.slice B 0 d)) from ⟨HY.out, t, HX.out.2⟩)
   clear t HX K7 HY HD d0 z0 d1 z1 d2 z2 d3 z3 d4 z4 d5 z5 d6 z6 d7 z7 d8 z8 d9 z9 d10 z10 d11 z11 d12 z12 d13 z13 d14 z14 d15 z15
   revert Z8
   generalize (World.setCell (World.setCell (World.setCell (World.setCell (World.setCell (World.setCell (World.setCell (World.setCell (World.setCell (World.setCell (World.setCell (World.setCell (World.setCell (World.setCell (World.setCell (World.setCell w7 ⟨rb, 0, none⟩ (.int .i64 kd)) ⟨rb, 1, none⟩ (.int .i64 1)) ⟨rb, 2, none⟩ (.int .i64 ((i : Int) + 1))) ⟨rb, 3, none⟩ (.int .i64 0)) ⟨rb, 4, none⟩ (.string z32)) ⟨rb, 5, none⟩ (.int .i64 0)) ⟨rb, 6, none⟩ (.int .i64 0)) ⟨rb, 7, none⟩ (.int .i64 0)) ⟨rb, 8, none⟩ (.int .i64 0)) ⟨rb, 9, none⟩ (.int .i64 0)) ⟨rb, 10, none⟩ (.int .i64 0)) ⟨rb, 11, none⟩ (.int .i64 0)) ⟨rb, 12, none⟩ (.string (⟨#[]⟩ : ByteArray))) ⟨rb, 13, none⟩ (.string (⟨#[]⟩ : ByteArray))) ⟨rb, 14, none⟩ (.int .i64 (n : Int))) ⟨rb, 15, none⟩ (.slice B 0 d)) = w8
   intro Z8
   obtain ⟨r0, r14, rz⟩ := rec_ints Z8.out.2.1
   go_upto_if 47 with (fail)
   go_cut [9] (fun s wx => Aside0 (ZA w6 rb (RecV kd 1 ((i : Int) + 1) 0 z32 0 0 0 0 0 0 0 ⟨#[]⟩ ⟨#[]⟩ (if kd = 4 then 0 else (n : Int)) (.slice B 0 d)) wx))
   case first =>
    by_cases k4 : kd = 4
    ·subst k4
     have Z9 : Aside0 (ZA w6 rb (RecV 4 1 ((i : Int) + 1) 0 z32 0 0 0 0 0 0 0 ⟨#[]⟩ ⟨#[]⟩ 0 (.slice B 0 d)) (w8.setCell ⟨rb, 14, none⟩ (.int .i64 0))) := ⟨⟨below_set Z8.out.1 Z8.out.2.2, blk_put Z8.out.2.1 14 _ rfl, Z8.out.2.2⟩⟩
     go_wp2_with (fail)
     go_meet
     exact Z9
    ·have v4 := beq_eq_false_iff_ne.2 k4
     have e4 : (if kd = 4 then 0 else (n : Int)) = (n : Int) := if_neg k4
     have Z9 : Aside0 (ZA w6 rb (RecV kd 1 ((i : Int) + 1) 0 z32 0 0 0 0 0 0 0 ⟨#[]⟩ ⟨#[]⟩ (if kd = 4 then 0 else (n : Int)) (.slice B 0 d)) w8) := ⟨by rw [e4]; exact Z8.out⟩
     clear k4 e4
     go_wp2_with (fail)
     go_meet
     exact Z9
   case rest =>
    have Z9 := hcut
    clear Z8 r0 r14 rz hcut
    generalize hwho : (if kd = 4 then 0 else (n : Int)) = who at Z9
    have HWHO := Aside0.mk hwho
    clear hwho
    obtain ⟨r0, r14, -⟩ := rec_ints Z9.out.2.1
    have Y9 := Aside0.mk (Y6.out.below Z9.out.1)
    obtain ⟨A0, c, hBG⟩ := Y9.out.2.1
    have G9 := Aside0.mk hBG
    clear hBG
    have i0 : wc.cell? ⟨ib, n, none⟩ = some (.bool (inB A n)) := (blk_cell Y9.out.2.2.1 n).trans (inRow_at HA.out.1 n HN.out.2)
    have e7 : (n < 7) = True := eq_true (by have := HN.out; omega)
    have e8 : ((n : Int) < 7) = True := eq_true (by have := HN.out; omega)
    generalize hv : inB A n = v at i0
    have HV := Aside0.mk hv
    clear hv
    go_upto_region 11 with (fail)
    go_cut [9] (fun s wx => s = .bool (dB A kd n) ∧ wx = wc)
    case first =>
     rcases HKD.out with hk | hk | hk
     ·subst hk
      have hd : dB A 2 n = !v := by unfold dB; rw [HV.out]; cases v <;> rfl
      have HDD := Aside0.mk hd
      clear hd
      cases v
      ·go_wp2_with (fail)
       go_meet
       exact ⟨by rw [HDD.out]; rfl, rfl⟩
      ·go_wp2_with (fail)
       go_meet
       exact ⟨by rw [HDD.out]; rfl, rfl⟩
     ·subst hk
      cases v
      ·have HDD : Aside0 (dB A 3 n = false) := ⟨by unfold dB; rw [HV.out]; rfl⟩
       go_wp2_with (fail)
       go_meet
       exact ⟨by rw [HDD.out], rfl⟩
      ·by_cases hn : n = 1
       ·have HDD : Aside0 (dB A 3 n = false) := ⟨by unfold dB; rw [HV.out, show decide (n ≠ 1) = false from decide_eq_false (fun q => q hn)]; rfl⟩
        have hn' : ((n : Int) != 1) = false := by rw [hn]; rfl
        clear hn
        go_wp2_with (fail)
        go_meet
        exact ⟨by rw [HDD.out], rfl⟩
       ·have HDD : Aside0 (dB A 3 n = true) := ⟨by unfold dB; rw [HV.out, show decide (n ≠ 1) = true from decide_eq_true hn]; rfl⟩
        have hn' : ((n : Int) != 1) = true := bne_iff_ne.2 (by omega)
        clear hn
        go_wp2_with (fail)
        go_meet
        exact ⟨by rw [HDD.out], rfl⟩
     ·subst hk
      have HDD : Aside0 (dB A 4 n = true) := ⟨by unfold dB; rfl⟩
      go_wp2_with (fail)
      go_meet
      exact ⟨by rw [HDD.out], rfl⟩
    case rest =>
     obtain ⟨rfl, rfl⟩ := hcut
     have hs := judge_step HA.out.1 E i HA.out.2.1 (by have := HA.out.2.2; have := HL2.out; omega) (by omega) (by have := HL2.out; omega) kd HKD.out n HN.out.1 HN.out.2
     rw [HWHO.out] at hs
     obtain ⟨dd, hdd⟩ : ∃ dd, dB A kd n = dd := ⟨_, rfl⟩
     obtain ⟨E', hE'⟩ : ∃ E', (if dB A kd n = true then E + 1 else E) = E' := ⟨_, rfl⟩
     obtain ⟨A', hA'⟩ : ∃ A', (if dB A kd n = true ∧ kd ≠ 4 then setB A n (kd == 2) else A) = A' := ⟨_, rfl⟩
     rw [hE', hA', hdd] at hs
     have h5' : A'.length = 5 := by rw [← hA']; split; exact setB_len HA.out.1 n _; exact HA.out.1
     have hER : 1 ≤ E' ∧ E' ≤ E + 1 := by rw [← hE']; have := HA.out.2.1; split <;> omega
     rw [hdd] at hE' hA'
     have HE' := Aside0.mk hE'
     have HA' := Aside0.mk hA'
     have H5 := Aside0.mk h5'
     have HER := Aside0.mk hER
     have HDD := Aside0.mk hdd
     have HJ := Aside0.mk (group_Judge.calls 20 E A0 c (memsA i A) 0 E kd 1 ((i : Int) + 1) 0 z32 0 0 0 0 0 0 0 ⟨#[]⟩ ⟨#[]⟩ who B d [] _ _ _ _ _ wc G9.out.2.1 G9.out.2.2.1 (C_nil wc B) (Nat.zero_le d) hs)
     simp only [List.length_nil] at HJ
     rw [hdd]
     clear hs hE' hA' h5' hER hdd r0 r14 i0 e7 e8
     obtain ⟨x0, x1, x2, -, -, -⟩ := grp_cells G9.out.1
     obtain ⟨y0, y1, y2, y3, y4, y5, y6, y7, y8, y9, y10, y11, y12, y13, y14, y15⟩ := rec_cells Z9.out.2.1
     go_wp2_with (fail)
     refine HJ.out.mono ?_
     rintro e w10 ⟨v10, rfl, hr, hb⟩
     obtain ⟨A1, c1, rfl, hc1, hC1⟩ := Kd.R_reads hr
     have HB10 := Aside0.mk hb
     have HR10 := Aside0.mk hr
     have HC1 := Aside0.mk hc1
     clear hr hb hc1 hC1 HJ x0 x1 x2 y0 y1 y2 y3 y4 y5 y6 y7 y8 y9 y10 y11 y12 y13 y14 y15
     go_upto_region 13 with (first | ((with_reducible refine gate_dst (N := 10) rfl ?_); (try (refine gate_guard (by rfl) ?_; dsimp only)); refine box_event ?hg (N := 10) ?hd (cs := #[.int .i64 0, .slice none 0 0, .int .i64 0]) (t := 24) ?hr ?_; (case hd => rfl); (case hg => rfl); (case hr => first | (go_simp; done) | (go_simp; rfl)); intro g10 hg w11 hbox hb; have HX := Aside0.mk (show Below w10.heap.size w10 w11 ∧ w10.heap.size ≤ g10 from ⟨hb, by rw [hg]; exact Nat.le_refl _⟩); have K11 := Aside0.mk hbox; obtain ⟨x0, x1, x2, z0, z1, z2⟩ := grp_cells K11.out; clear hb hbox hg))
     (try simp only [Act.put, List.setIfInBounds_toArray, List.set_cons_zero, List.set_cons_succ])
     have HY := Aside0.mk (new3 (u0 := .int .i64 E') (u1 := .slice A1 (memsA ((i : Int) + 1) A').length c1) (u2 := .int .i64 0) HX.out.1 HX.out.2)
     have HB12 := Aside0.mk (below_step HB10.out HY.out)
     have HK12 := Aside0.mk (box3 (E := E') (O := 0) (v := .slice A1 (memsA ((i : Int) + 1) A').length c1) K11.out)
     have HR12 := Aside0.mk (Kd.R_below HR10.out HY.out)
     have HG10 : Aside0 (wc.heap.size ≤ g10) := ⟨Nat.le_trans HB10.out.size HX.out.2⟩
     clear HX K11 HY HB10 HR10 x0 x1 x2 z0 z1 z2
     generalize ((w11.setCell ⟨g10, 0, none⟩ (.int .i64 E')).setCell ⟨g10, 1, none⟩ (.slice A1 (memsA ((i : Int) + 1) A').length c1)).setCell ⟨g10, 2, none⟩ (.int .i64 0) = w12 at HB12 HK12 HR12 ⊢
     have Y12 := Aside0.mk (Y9.out.below HB12.out)
     have Z12 := Aside0.mk (Z9.out.below HB12.out)
     have O12 := Aside0.mk (blk_below G9.out.1 HB12.out)
     have N12 : Aside0 (w.heap.size ≤ g3 ∧ w.heap.size ≤ ib ∧ g3 ≠ ib ∧ g10 ≠ ib ∧ g10 ≠ g3) := ⟨G9.out.2.2.2, Y9.out.2.2.2.1, Y9.out.2.2.2.2, Nat.ne_of_gt (Nat.lt_of_lt_of_le (blk_lt Y9.out.2.2.1) HG10.out), Nat.ne_of_gt (Nat.lt_of_lt_of_le (blk_lt G9.out.1) HG10.out)⟩
     obtain ⟨bs, hbs⟩ : ∃ b, wc.heap.size = b := ⟨_, rfl⟩
     rw [hbs] at HR12
     clear hbs
     have hbn : (dd != dd) = false := by cases dd <;> rfl
     go_upto_if 93 with (fail)
     clear hbn
     go_cut [5] (fun s wx => s = .int .i64 E' ∧ Aside0 (WA w bs g3 ib g10 E E' ((i : Int) + 1) A' (.slice A0 (memsA i A).length c) A1 c1 wx))
     case first =>
      obtain ⟨r0, -, -⟩ := rec_ints Z12.out.2.1
      cases dd
      ·have eE : E = E' := HE'.out
       have eA : A = A' := by have := HA'.out; rwa [if_neg (by simp)] at this
       have HW : Aside0 (WA w bs g3 ib g10 E E' ((i : Int) + 1) A' (.slice A0 (memsA i A).length c) A1 c1 w12) := ⟨⟨Y12.out.1, O12.out, by rw [← eA]; exact Y12.out.2.2.1, HK12.out, HR12.out, HC1.out, N12.out⟩⟩
       have EE := Aside0.mk eE
       clear eE eA
       go_wp2_with (fail)
       go_meet
       exact ⟨by rw [EE.out], HW⟩
      ·have eE : E + 1 = E' := HE'.out
       have w9 : wrap64 (E + 1) = E + 1 := by have := HA.out.2; have := HL2.out; unfold wrap64; omega
       have EE := Aside0.mk eE
       clear eE
       by_cases k4 : kd = 4
       ·subst k4
        have eA : A = A' := by have := HA'.out; rwa [if_neg (by simp)] at this
        have HW : Aside0 (WA w bs g3 ib g10 E E' ((i : Int) + 1) A' (.slice A0 (memsA i A).length c) A1 c1 w12) := ⟨⟨Y12.out.1, O12.out, by rw [← eA]; exact Y12.out.2.2.1, HK12.out, HR12.out, HC1.out, N12.out⟩⟩
        clear eA
        go_wp2_with (fail)
        go_meet
        exact ⟨by rw [EE.out], HW⟩
       ·have eA : setB A n (kd == 2) = A' := by have := HA'.out; rwa [if_pos ⟨rfl, k4⟩] at this
        have hn2 : 2 ≤ n := by
         have hdb := HDD.out
         rcases Nat.lt_or_ge n 2 with q | q
         ·obtain rfl : n = 1 := by have := HN.out; omega
          unfold dB at hdb
          have i1 : inB A 1 = true := rfl
          rw [i1] at hdb
          simp [k4] at hdb
         ·exact q
        have HW : Aside0 (WA w bs g3 ib g10 E E' ((i : Int) + 1) A' (.slice A0 (memsA i A).length c) A1 c1 (w12.setCell ⟨ib, n, none⟩ (.bool (kd == 2)))) := ⟨⟨below_set Y12.out.1 N12.out.2.1, blk_far O12.out N12.out.2.2.1 _, by rw [← eA, ← inRow_set HA.out.1 n hn2 HN.out.2]; exact blk_put Y12.out.2.2.1 n _ rfl, blk_far HK12.out N12.out.2.2.2.1 _, Kd.R_set HR12.out Y12.out.2.2.1 (by decide) n _, HC1.out, N12.out⟩⟩
        have v4 : (kd != 4) = true := bne_iff_ne.2 k4
        have i0 : w12.cell? ⟨ib, n, none⟩ = some (.bool (inB A n)) := (blk_cell Y12.out.2.2.1 n).trans (inRow_at HA.out.1 n HN.out.2)
        have iz := blk_frozen Y12.out.2.2.1 n
        have e7 : (n < 7) = True := eq_true (by have := HN.out; omega)
        have e8 : ((n : Int) < 7) = True := eq_true (by have := HN.out; omega)
        clear eA hn2 k4
        go_wp2_with (fail)
        go_meet
        exact ⟨by rw [EE.out], HW⟩
     case rest =>
      obtain ⟨rfl, W0⟩ := hcut
      clear Y12 Z12 O12 HK12 HR12 HB12 G9 Z9 HWHO HDD HE' HA' Y6
      go_upto_region 20 with (fail)
      go_loopg [13] 8 (fun gk s wx => ∃ k : Nat, 1 ≤ k ∧ k ≤ 7 ∧ s = .int .i64 (k : Int) ∧ Aside0 (gk = 9 - k) ∧ Aside0 (WA w bs g3 ib g10 E E' ((i : Int) + 1) A' (.slice A0 (memsA i A).length c) A1 c1 wx))
      case atStart => exact ⟨1, by decide, by decide, rfl, ⟨rfl⟩, W0⟩
      case round =>
       obtain ⟨k, hk1, hk7, rfl, HGK2, HW⟩ := hrel
       by_cases hk : k ≤ 6
       ·have q1 : decide (k ≤ 6) = true := decide_eq_true hk
        have q2 : decide ((k : Int) ≤ 6) = true := decide_eq_true (by omega)
        obtain ⟨x0, x1, x2, -, -, -⟩ := grp_cells HW.out.new
        have i0 : wr.cell? ⟨ib, k, none⟩ = some (.bool (inB A' k)) := (blk_cell HW.out.inn k).trans (inRow_at H5.out k hk)
        have HWD := Aside0.mk (HW.out.below (below_drew1 (Below.refl _ _)))
        have HI := Aside0.mk (in_new HWD.out H5.out k (by omega))
        have e7 : (k < 7) = True := eq_true (by omega)
        have e8 : ((k : Int) < 7) = True := eq_true (by omega)
        have w9 : wrap64 ((k : Int) + 1) = ((k + 1 : Nat) : Int) := by unfold wrap64; omega
        have HKL := Aside0.mk (And.intro hk1 hk)
        generalize hv : inB A' k = v at i0 HI
        have HVV := Aside0.mk hv
        clear hv hk hk1 hk7
        go_upto_region 22 with (fail)
        clear q1 q2
        go_region_held3 (fun w' => w'.cell? ⟨g10, 0, none⟩ = some (.int .i64 E') ∧ w'.cell? ⟨g10, 1, none⟩ = some (.slice A1 (memsA ((i : Int) + 1) A').length c1) ∧ w'.cell? ⟨g10, 2, none⟩ = some (.int .i64 0) ∧ w'.cell? ⟨ib, k, none⟩ = some (.bool v))
         (first | go_keep | exact ⟨x0, x1, x2, i0⟩)
         (first | (go_at_call 23; (with_reducible refine HI.out.mono ?_); rintro e wi ⟨rfl, hb⟩; have HWI := Aside0.mk (HWD.out.below hb); clear hb x0 x1 x2 i0; obtain ⟨x0, x1, x2, -, -, -⟩ := grp_cells HWI.out.new; have i0 : wi.cell? ⟨ib, k, none⟩ = some (.bool v) := (blk_cell HWI.out.inn k).trans (by rw [← HVV.out]; exact inRow_at H5.out k HKL.out.2)))
        have hbn : (v != v) = false := by cases v <;> rfl
        clear x0 x1 x2 i0 e7 e8
        go_wp2_with (fail)
        go_roundg (9 - (k + 1))
        case measure => have := HGK2.out; have := HKL.out; omega
        case rel => exact ⟨k + 1, by omega, by have := HKL.out; omega, by go_num, ⟨rfl⟩, HWI⟩
       ·have q1 : decide (k ≤ 6) = false := decide_eq_false hk
        have q2 : decide ((k : Int) ≤ 6) = false := decide_eq_false (by omega)
        clear hk hk1 hk7 HGK2
        obtain ⟨x0, x1, x2, -, -, -⟩ := grp_cells HW.out.new
        have HI0 := Aside0.mk (in_new HW.out H5.out 0 (by decide))
        have i00 : inB A' 0 = false := rfl
        have i77 : inB A' 7 = false := by obtain ⟨a, b, c, d, e, h⟩ := five H5.out; rw [h]; rfl
        rw [i00] at HI0
        have I77 := Aside0.mk i77
        clear i00 i77
        have hbn : (E' != E') = false := bne_self_eq_false E'
        go_wp2_with (fail)
        refine HI0.out.mono ?_
        rintro e wi ⟨rfl, hb⟩
        have HW1 := Aside0.mk (HW.out.below hb)
        clear hb x0 x1 x2 HI0 HW
        have HI7 := Aside0.mk (in_new HW1.out H5.out 7 (by decide))
        rw [I77.out] at HI7
        obtain ⟨x0, x1, x2, -, -, -⟩ := grp_cells HW1.out.new
        go_wp2_with (fail)
        refine HI7.out.mono ?_
        rintro e wj ⟨rfl, hb⟩
        have HW2 := Aside0.mk (HW1.out.below hb)
        clear hb x0 x1 x2 HI7 HW1
        obtain ⟨x0, x1, x2, -, -, -⟩ := grp_cells HW2.out.new
        obtain ⟨y0, y1, y2, z0, z1, z2⟩ := grp_cells HW2.out.old
        have ng := HW2.out.lo.2.2.2.2
        have w9 : wrap64 ((i : Int) + 1) = ((i + 1 : Nat) : Int) := by have := HL2.out; unfold wrap64; omega
        have HG3 := Aside0.mk HW2.out.lo.1
        have P0 := Aside0.mk (blk_put (cs' := #[.int .i64 E', .slice A0 (memsA i A).length c, .int .i64 0]) HW2.out.old 0 (.int .i64 E') rfl)
        have P1 := Aside0.mk (blk_put (cs' := #[.int .i64 E', .slice A1 (memsA ((i : Int) + 1) A').length c1, .int .i64 0]) P0.out 1 (.slice A1 (memsA ((i : Int) + 1) A').length c1) rfl)
        have P2 := Aside0.mk (blk_put (cs' := #[.int .i64 E', .slice A1 (memsA ((i : Int) + 1) A').length c1, .int .i64 0]) P1.out 2 (.int .i64 0) rfl)
        have RR := Aside0.mk (Kd.R_set (Kd.R_set (Kd.R_set HW2.out.row HW2.out.old (by decide) 0 (.int .i64 E')) P0.out (by decide) 1 (.slice A1 (memsA ((i : Int) + 1) A').length c1)) P1.out (by decide) 2 (.int .i64 0))
        have IN := Aside0.mk (blk_far (blk_far (blk_far HW2.out.inn HW2.out.lo.2.2.1.symm (.int .i64 E') (p := ⟨g3, 0, none⟩)) HW2.out.lo.2.2.1.symm (.slice A1 (memsA ((i : Int) + 1) A').length c1) (p := ⟨g3, 1, none⟩)) HW2.out.lo.2.2.1.symm (.int .i64 0) (p := ⟨g3, 2, none⟩))
        have BB := Aside0.mk (new3 (u0 := .int .i64 E') (u1 := .slice A1 (memsA ((i : Int) + 1) A').length c1) (u2 := .int .i64 0) HW2.out.bel HG3.out)
        have HCAP := Aside0.mk HW2.out.cap
        have HLO := Aside0.mk HW2.out.lo
        clear HW2 P0 P1
        go_wp2_with (fail)
        go_roundg (acts.length + 1 - (i + 1))
        case measure => have := HGK.out; have := HL1.out; omega
        case rel =>
         refine ⟨i + 1, E', A', HL1.out, by have := HL2.out; omega, rfl, by go_num, ⟨rfl⟩, ⟨H5.out, HER.out.1, by have := HER.out.2; have := HA.out.2.2; omega⟩, ⟨BB.out, ⟨A1, c1, ?_⟩, IN.out, HLO.out.2.1, HLO.out.2.2.1⟩⟩
         obtain ⟨AA, cc, ee, _, hc⟩ := Kd.R_reads RR.out
         cases ee
         exact ⟨P2.out, hc, HCAP.out, HG3.out⟩
  ·have HE : Aside0 (Below w.heap.size w wr) := ⟨HYY.out.1⟩
   by_cases hl1 : i < acts.length
   ·have q1 : decide (i < acts.length) = true := decide_eq_true hl1
    have q2 : decide (i < 24) = false := decide_eq_false (by omega)
    have q3 : decide ((i : Int) < 24) = false := decide_eq_false (by omega)
    clear hi hi24 hl1 hlt
    go_wp2_with (fail)
    refine (awake20 _).mono ?_
    rintro e w9 ⟨rfl, hb⟩
    have HF := Aside0.mk (below_step HE.out hb)
    clear hb
    go_wp2_with (fail)
    go_ret
    exact ⟨rfl, HF.out⟩
   ·have q1 : decide (i < acts.length) = false := decide_eq_false hl1
    clear hi hi24 hl1 hlt
    go_wp2_with (fail)
    refine (awake20 _).mono ?_
    rintro e w9 ⟨rfl, hb⟩
    have HF := Aside0.mk (below_step HE.out hb)
    clear hb
    go_wp2_with (fail)
    go_ret
    exact ⟨rfl, HF.out⟩
theorem rd_intG : Rd Tryd.prog 3 (Kd.int .i64) (fun _ => True) := (Rd.int Tryd.underlying3 (by kernel_rfl)).imp (fun _ _ => trivial)
theorem adds_row (w : World) (A : Option Addr) (c : Nat) (l : List Int) (hC : Kd.C (Kd.int .i64) w A l.length l) (hlc : l.length ≤ c) (hQ : ∀ y ∈ l, True) (hM : l.length ≤ maxLen) :
  Calls Tryd.prog 7 #[.slice A l.length c] w fun e w' => e = .returned (.bool true) ∧ Below w.heap.size w w' := adds_walk A c l w hC
end Go.Proofs.YthemhfloablccaaDoor.Pr
end

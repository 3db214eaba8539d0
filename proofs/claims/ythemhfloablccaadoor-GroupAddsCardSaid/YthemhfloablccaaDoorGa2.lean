/- Joined texts (pack.py): what the statement's proof needs, part 2. No condition. -/
import Derived.Below
import Derived.Deep.Draws
import Derived.Deep.AppendLies
import Derived.Maps.AppendAt
import Derived.OwnWalk
import Derived.Laws.BytesArg
import Derived.Laws.MakeOwn
import Derived.Laws.OwnMore
import Derived.Deep.OwnRows
import Derived.Tactics
import Derived.Lib.ConvBytes
import Derived.Laws.Slices
import Derived.WalkKit
import Derived.KernelRfl
import Derived.RowKit3
import Derived.Deep.LoopGhost
import Derived.Deep.QuietTactic
import Derived.BigQuiet
import Derived.WideLaws
import Derived.Deep.DeepCutAuto
import Derived.Deep.CutBlock
import Derived.Deep.RegionHeld3
import Derived.Laws.Rows
import Derived.Lib.AppendStr
import Derived.ArgAppend
import Derived.Laws.IdiomCopy
import Derived.RowKit
import Derived.OrdersHeld
import Derived.Laws.BitsLemmas
import Derived.Laws.StructEq
import Derived.Deep.Slices
import Derived.ChangeArms
import Derived.OpenShut
import Derived.Test.YthemhfloablccaaDoorProg
import Derived.Deep.RegionLaw
import Derived.StillTailTactics
import Derived.Deep.Light
import Derived.Deep.RegionHeldLaw
import Derived.Deep.DrawnRows
import Derived.Test.YthemhfloablccaaDoorTie
import Derived.Test.YthemhfloablccaaDoorCards
import Derived.LaidMore
import Derived.Lay
import Derived.SevenTiedAt
import Derived.Stop.Joined
import Derived.ProofKit
import Derived.ShutString
import Derived.ChangeOld
import Derived.SizedLaws
import Derived.Carry
import Derived.Test.YthemhfloablccaaDoorGa1
set_option linter.unusedVariables false
set_option linter.unusedSimpArgs false
section
namespace Go.Proofs.YthemhfloablccaaDoor.Pr
open Go.RowKit Go.Proofs.YthemhfloablccaaDoorW.PrintWords Go.Proofs.YthemhfloablccaaDoorW.PrintLast Go.Proofs.YthemhfloablccaaDoorW.PrintMore
attribute [local go_sem] max2_int min2_int max_two min_two max_three min_three max_four min_four
def group_Take.l0 : Nat → Bool → Int → Bool → ByteArray → Int → Int → List (S46) → Int → Option (Int × (List (S46)) × Int × Int)
 | 0, _, _, _, _, _, _, _, _ => none
 | k + 1, x6, x17, x166000, x166001, x166002, x175000, x175001, x175002 => if x17 < 6 then ((code_In_Num.f k x166000 x166001 x166002).bind fun bt175 => ((code_In_Byte.f k bt175.2.1 bt175.2.2.1 bt175.2.2.2).bind fun bt180 => (if x6 = true then (if x175001.length < 5864062014805 then (group_Take.l0 k (decide (bt180.1 ≤ 1)) (wrap64 (x17 + 1)) bt180.2.1 bt180.2.2.1 bt180.2.2.2 x175000 (x175001 ++ [(⟨wrap64 (x17 + 1), bt175.1, (bt180.1 == 1)⟩ : S46)]) x175002) else (none)) else (if x175001.length < 5864062014805 then (group_Take.l0 k false (wrap64 (x17 + 1)) bt180.2.1 bt180.2.2.1 bt180.2.2.2 x175000 (x175001 ++ [(⟨wrap64 (x17 + 1), bt175.1, (bt180.1 == 1)⟩ : S46)]) x175002) else (none))))) else (if x6 = true then ((code_In_Done.f x166000 x166001 x166002).bind fun bt190 => (if bt190.1 = 0 then ((group_Check.f k x175000 x175001 x175002).bind fun t194 => (if t194 = 0 then (some (x175000, x175001, x175002, 0)) else (some (0, ([] : List (S46)), 0, 91)))) else (some (0, ([] : List (S46)), 0, 91)))) else (some (0, ([] : List (S46)), 0, 91)))
def group_Take.f (k : Nat) (a0 : ByteArray) : Option (Int × (List (S46)) × Int × Int) := (code_NewIn.f a0).bind fun bt162 => ((code_In_Num.f k bt162.1 bt162.2.1 bt162.2.2).bind fun bt166 => ((code_In_Num.f k bt166.2.1 bt166.2.2.1 bt166.2.2.2).bind fun bt170 => (group_Take.l0 k true 0 bt170.2.1 bt170.2.2.1 bt170.2.2.2 bt166.1 ([] : List (S46)) bt170.1)))
set_option maxHeartbeats 8000000 in
set_option maxRecDepth 100000 in
theorem group_Take.calls (k : Nat) (a0 : ByteArray) (r1 : Int) (r2 : List (S46)) (r3 : Int) (r4 : Int) (w : World) (h : group_Take.f k a0 = some (r1, r2, r3, r4)) :
    Calls Tryd.prog 29 #[.string a0] w fun e w' => ∃ v1_ : Value, e = .returned (.tuple #[.agg #[.int .i64 r1, v1_, .int .i64 r3], .int .i64 r4]) ∧ Kd.R k46 46 w' w.heap.size (fun _ => True) v1_ r2 ∧ Below w.heap.size w w' := by
  have hu24 := Tryd.underlying24; have hu46 := Tryd.underlying46; have HB := Aside0.mk (Below.refl w.heap.size w); have H : ((code_NewIn.f a0).bind fun bt162 => ((code_In_Num.f k bt162.1 bt162.2.1 bt162.2.2).bind fun bt166 => ((code_In_Num.f k bt166.2.1 bt166.2.2.1 bt166.2.2.2).bind fun bt170 => (group_Take.l0 k true 0 bt170.2.1 bt170.2.2.1 bt170.2.2.2 bt166.1 ([] : List (S46)) bt170.1)))) = some (r1, r2, r3, r4) := h; clear h; replace H := Option.bind_eq_some_iff.mp H; obtain ⟨⟨t162, t163, t164⟩, A20, H⟩ := H; try dsimp only at H
  have A2 := Aside0.mk A20; clear A20; replace H := Option.bind_eq_some_iff.mp H; obtain ⟨⟨t166, t167, t168, t169⟩, A30, H⟩ := H; try dsimp only at H
  have A3 := Aside0.mk A30; clear A30; replace H := Option.bind_eq_some_iff.mp H; obtain ⟨⟨t170, t171, t172, t173⟩, A40, H⟩ := H; try dsimp only at H
  have A4 := Aside0.mk A40; clear A40; have H' := Aside0.mk H; clear H; go_enter Tryd.func29, Tryd.ntmps29
  go_wp2_with (first | ((with_reducible refine gate_dst (N := 2) rfl ?_); refine box_event ?hg (N := 2) ?hd (cs := #[.int .i64 0, .slice none 0 0, .int .i64 0]) (t := 24) ?hr ?_; (case hd => rfl); (case hg => rfl); (case hr => first | (go_simp; done) | (go_simp; rfl)); intro gb161 hg w5 hbox hb; have n0_ := Aside0.mk (below_step hb_ hb); have n1_ := Aside0.mk (hbox); have n2_ := Aside0.mk ((by rw [hg]; exact (below_size hb_) : w.heap.size ≤ gb161)); have n3_ := Aside0.mk ((by rw [hg]; exact (below_size hb_) : w.heap.size ≤ gb161)); clear HB; have HB := n0_; have BK161 := n1_; have GW161 := n2_; have GE161 := n3_; clear n0_ n1_ n2_ n3_; clear hb hbox hg) | ((with_reducible refine gate_callee (f := 63) rfl ?_); refine gl_ 11 Tryd.func63 #[.string a0] ?_; (with_reducible refine (code_NewIn.calls a0 t162 t163 t164 w _ ?side1 A2.out).mono ?_); (case side1 => repeat (first | (with_reducible first | exact HB.out | apply below_alloc | apply pw_below_drewN | apply below_drew1 | refine below_set ?_ GE161.out) | exact HB.out)); rintro e w6 ⟨g165, rfl, hi, hb, hb2⟩; refine ⟨_, rfl, ?_⟩; have n0_ := Aside0.mk (blk_below (g := gb161) (o := .cells #[.int .i64 0, .slice none 0 0, .int .i64 0] 24 (0, 0)) (by (with_reducible repeat (first | refine blk_drewN ?_ _ | refine blk_drew ?_ | refine blk_alloc ?_ _)); exact BK161.out) hb2); have n1_ := Aside0.mk (hb); have n2_ := Aside0.mk (hi); have n3_ := Aside0.mk (IsS128.ne_blk hi (blk_below (g := gb161) (o := .cells #[.int .i64 0, .slice none 0 0, .int .i64 0] 24 (0, 0)) (by (with_reducible repeat (first | refine blk_drewN ?_ _ | refine blk_drew ?_ | refine blk_alloc ?_ _)); exact BK161.out) hb2) (by decide)); have n4_ := Aside0.mk (Ne.symm (IsS128.ne_blk hi (blk_below (g := gb161) (o := .cells #[.int .i64 0, .slice none 0 0, .int .i64 0] 24 (0, 0)) (by (with_reducible repeat (first | refine blk_drewN ?_ _ | refine blk_drew ?_ | refine blk_alloc ?_ _)); exact BK161.out) hb2) (by decide))); clear BK161; clear HB; have BK161 := n0_; have HB := n1_; have HI165 := n2_; have NB165_161 := n3_; have NB161_165 := n4_; clear n0_ n1_ n2_ n3_ n4_) | ((with_reducible refine gate_callee (f := 64) rfl ?_); refine gl_ 13 Tryd.func64 #[.pointer (some ⟨g165, 0, none⟩)] ?_; (with_reducible refine (code_In_Num.calls k g165 t162 t163 t164 t166 t167 t168 t169 w _ ?side1 ?side2 A3.out).mono ?_); (case side1 => repeat (first | (with_reducible first | exact HI165.out | apply IsS128.alloc | apply IsS128.drewN | apply IsS128.drew | apply IsS128.set_0 | apply IsS128.set_1 | apply IsS128.set_2 | refine IsS128.far ?_ NB165_161.out _) | exact HI165.out)); (case side2 => repeat (first | (with_reducible first | exact HB.out | apply below_alloc | apply pw_below_drewN | apply below_drew1 | refine below_set ?_ (IsS128.ge HI165.out) | refine below_set ?_ GE161.out) | exact HB.out)); rintro e w7 ⟨rfl, hi, hb, hk⟩; refine ⟨_, rfl, ?_⟩; have n0_ := Aside0.mk (KeepBut.blk hk (g' := gb161) (o := .cells #[.int .i64 0, .slice none 0 0, .int .i64 0] 24 (0, 0)) (by (with_reducible repeat (first | refine blk_drewN ?_ _ | refine blk_drew ?_ | refine blk_alloc ?_ _)); exact BK161.out) NB161_165.out (by simp)); have n1_ := Aside0.mk (hb); have n2_ := Aside0.mk (hi); clear BK161; clear HB; clear HI165; have BK161 := n0_; have HB := n1_; have HI165 := n2_; clear n0_ n1_ n2_) | ((with_reducible refine gate_callee (f := 64) rfl ?_); refine gl_ 15 Tryd.func64 #[.pointer (some ⟨g165, 0, none⟩)] ?_; (with_reducible refine (code_In_Num.calls k g165 t167 t168 t169 t170 t171 t172 t173 w _ ?side1 ?side2 A4.out).mono ?_); (case side1 => repeat (first | (with_reducible first | exact HI165.out | apply IsS128.alloc | apply IsS128.drewN | apply IsS128.drew | apply IsS128.set_0 | apply IsS128.set_1 | apply IsS128.set_2 | refine IsS128.far ?_ NB165_161.out _) | exact HI165.out)); (case side2 => repeat (first | (with_reducible first | exact HB.out | apply below_alloc | apply pw_below_drewN | apply below_drew1 | refine below_set ?_ (IsS128.ge HI165.out) | refine below_set ?_ GE161.out) | exact HB.out)); rintro e w8 ⟨rfl, hi, hb, hk⟩; refine ⟨_, rfl, ?_⟩; have n0_ := Aside0.mk (KeepBut.blk hk (g' := gb161) (o := .cells #[.int .i64 0, .slice none 0 0, .int .i64 0] 24 (0, 0)) (by (with_reducible repeat (first | refine blk_drewN ?_ _ | refine blk_drew ?_ | refine blk_alloc ?_ _)); exact BK161.out) NB161_165.out (by simp)); have n1_ := Aside0.mk (hb); have n2_ := Aside0.mk (hi); clear BK161; clear HB; clear HI165; have BK161 := n0_; have HB := n1_; have HI165 := n2_; clear n0_ n1_ n2_) | ((with_reducible refine gate_dst (N := 5) rfl ?_); refine box_event ?hg (N := 5) ?hd (cs := #[.int .i64 0, .slice none 0 0, .int .i64 0]) (t := 24) ?hr ?_; (case hd => rfl); (case hg => rfl); (case hr => first | (go_simp; done) | (go_simp; rfl)); intro gb174 hg w9 hbox hb; have n0_ := Aside0.mk (blk_below (g := gb161) (o := .cells #[.int .i64 0, .slice none 0 0, .int .i64 0] 24 (0, 0)) (by (with_reducible repeat (first | refine blk_drewN ?_ _ | refine blk_drew ?_ | refine blk_alloc ?_ _)); exact BK161.out) hb); have n1_ := Aside0.mk (IsS128.below (by repeat (first | (with_reducible first | exact HI165.out | apply IsS128.alloc | apply IsS128.drewN | apply IsS128.drew | apply IsS128.set_0 | apply IsS128.set_1 | apply IsS128.set_2 | refine IsS128.far ?_ NB165_161.out _) | exact HI165.out)) hb); have n2_ := Aside0.mk (below_step (by repeat (first | (with_reducible first | exact HB.out | apply below_alloc | apply pw_below_drewN | apply below_drew1 | refine below_set ?_ (IsS128.ge HI165.out) | refine below_set ?_ GE161.out) | exact HB.out)) hb); have n3_ := Aside0.mk (hbox); have n4_ := Aside0.mk ((by rw [hg]; exact (below_size (by repeat (first | (with_reducible first | exact HB.out | apply below_alloc | apply pw_below_drewN | apply below_drew1 | refine below_set ?_ (IsS128.ge HI165.out) | refine below_set ?_ GE161.out) | exact HB.out))) : w.heap.size ≤ gb174)); have n5_ := Aside0.mk ((by rw [hg]; exact (below_size (by repeat (first | (with_reducible first | exact HB.out | apply below_alloc | apply pw_below_drewN | apply below_drew1 | refine below_set ?_ (IsS128.ge HI165.out) | refine below_set ?_ GE161.out) | exact HB.out))) : w.heap.size ≤ gb174)); have n6_ := Aside0.mk ((by rw [hg]; exact Nat.ne_of_lt (blk_lt (g := gb161) (o := .cells #[.int .i64 0, .slice none 0 0, .int .i64 0] 24 (0, 0)) (by (with_reducible repeat (first | refine blk_drewN ?_ _ | refine blk_drew ?_ | refine blk_alloc ?_ _)); exact BK161.out)) : gb161 ≠ gb174)); have n7_ := Aside0.mk ((by rw [hg]; exact Nat.ne_of_gt (blk_lt (g := gb161) (o := .cells #[.int .i64 0, .slice none 0 0, .int .i64 0] 24 (0, 0)) (by (with_reducible repeat (first | refine blk_drewN ?_ _ | refine blk_drew ?_ | refine blk_alloc ?_ _)); exact BK161.out)) : gb174 ≠ gb161)); have n8_ := Aside0.mk ((by rw [hg]; exact Nat.ne_of_lt (IsS128.lt (show IsS128 w _ g165 t171 t172 t173 from by repeat (first | (with_reducible first | exact HI165.out | apply IsS128.alloc | apply IsS128.drewN | apply IsS128.drew | apply IsS128.set_0 | apply IsS128.set_1 | apply IsS128.set_2 | refine IsS128.far ?_ NB165_161.out _) | exact HI165.out))) : g165 ≠ gb174)); have n9_ := Aside0.mk ((by rw [hg]; exact Nat.ne_of_gt (IsS128.lt (show IsS128 w _ g165 t171 t172 t173 from by repeat (first | (with_reducible first | exact HI165.out | apply IsS128.alloc | apply IsS128.drewN | apply IsS128.drew | apply IsS128.set_0 | apply IsS128.set_1 | apply IsS128.set_2 | refine IsS128.far ?_ NB165_161.out _) | exact HI165.out))) : gb174 ≠ g165)); clear BK161; clear HI165; clear HB; have BK161 := n0_; have HI165 := n1_; have HB := n2_; have BK174 := n3_; have GW174 := n4_; have GE174 := n5_; have NB161_174 := n6_; have NB174_161 := n7_; have NB165_174 := n8_; have NB174_165 := n9_; clear n0_ n1_ n2_ n3_ n4_ n5_ n6_ n7_ n8_ n9_; clear hb hbox hg; have hnb10 := NB174_161.out; have hnc10 := NB161_174.out; have hnb11 := NB174_165.out; have hnc11 := NB165_174.out; have hcz12_0 : w9.cell? ⟨gb174, 0, none⟩ = some (.int .i64 0) := (blk_cell BK174.out 0).trans rfl; have hcz12_1 : w9.cell? ⟨gb174, 1, none⟩ = some (.slice none 0 0) := (blk_cell BK174.out 1).trans rfl; have hcz12_2 : w9.cell? ⟨gb174, 2, none⟩ = some (.int .i64 0) := (blk_cell BK174.out 2).trans rfl; have hfz12_0 := blk_frozen BK174.out 0; have hfz12_1 := blk_frozen BK174.out 1; have hfz12_2 := blk_frozen BK174.out 2))
  go_loopg [6, 17] k (fun kq v6 v17 w' => ∃ (x6_1 : Bool) (x17_1 : Int) (x166000_1 : Bool) (x166001_1 : ByteArray) (x166002_1 : Int) (x175001_1 : List (S46)) (u175001 : Value), v6 = .bool x6_1 ∧ v17 = .int .i64 x17_1 ∧ Aside0 (group_Take.l0 kq x6_1 x17_1 x166000_1 x166001_1 x166002_1 t166 x175001_1 t170 = some (r1, r2, r3, r4)) ∧ Aside0 (kq ≤ k) ∧ Aside0 (Kd.R k46 46 w' w.heap.size (fun _ => True) u175001 x175001_1) ∧ Aside0 (w'.heap[gb161]? = some (.cells #[.int .i64 0, (.slice none 0 0), .int .i64 0] 24 (0, 0))) ∧ Aside0 (w'.heap[gb174]? = some (.cells #[.int .i64 t166, u175001, .int .i64 t170] 24 (0, 0))) ∧ Aside0 (IsS128 w w' g165 x166000_1 x166001_1 x166002_1) ∧ Aside0 (Below w.heap.size w w'))
  case atStart => exact ⟨(true), (0), (t171), (t172), (t173), (([] : List (S46))), (.slice none 0 0), rz_, rz_, H', ⟨Nat.le_refl _⟩, ⟨by first | exact Kd.R_nil _ _ _ _ _ | exact Kd.N_nil _ _ _ _ _ | exact Kd.V_nil _ _ _ _ _ | exact Kd.Q_nil _ _ _ _ _ | exact Kd.S_nil _ _ _ _ _⟩, ⟨by (with_reducible repeat (first | refine blk_drewN ?_ _ | refine blk_drew ?_ | refine blk_alloc ?_ _)); refine blk_far ?_ NB161_174.out _; (with_reducible repeat (first | refine blk_drewN ?_ _ | refine blk_drew ?_ | refine blk_alloc ?_ _)); refine blk_far ?_ NB161_174.out _; (with_reducible repeat (first | refine blk_drewN ?_ _ | refine blk_drew ?_ | refine blk_alloc ?_ _)); refine blk_far ?_ NB161_174.out _; (with_reducible repeat (first | refine blk_drewN ?_ _ | refine blk_drew ?_ | refine blk_alloc ?_ _)); exact BK161.out⟩, ⟨by (with_reducible repeat (first | refine blk_drewN ?_ _ | refine blk_drew ?_ | refine blk_alloc ?_ _)); refine blk_put (cs := #[.int .i64 t166, .slice none 0 0, .int .i64 0]) ?_ 2 _ rfl; (with_reducible repeat (first | refine blk_drewN ?_ _ | refine blk_drew ?_ | refine blk_alloc ?_ _)); refine blk_put (cs := #[.int .i64 t166, .slice none 0 0, .int .i64 0]) ?_ 1 _ rfl; (with_reducible repeat (first | refine blk_drewN ?_ _ | refine blk_drew ?_ | refine blk_alloc ?_ _)); refine blk_put (cs := #[.int .i64 0, .slice none 0 0, .int .i64 0]) ?_ 0 _ rfl; (with_reducible repeat (first | refine blk_drewN ?_ _ | refine blk_drew ?_ | refine blk_alloc ?_ _)); exact BK174.out⟩, ⟨by repeat (first | (with_reducible first | exact HI165.out | apply IsS128.alloc | apply IsS128.drewN | apply IsS128.drew | apply IsS128.set_0 | apply IsS128.set_1 | apply IsS128.set_2 | refine IsS128.far ?_ NB165_161.out _ | refine IsS128.far ?_ NB165_174.out _) | exact HI165.out)⟩, ⟨by repeat (first | (with_reducible first | exact HB.out | apply below_alloc | apply pw_below_drewN | apply below_drew1 | refine below_set ?_ (IsS128.ge HI165.out) | refine below_set ?_ GE161.out | refine below_set ?_ GE174.out) | exact HB.out)⟩⟩
  case round =>
    clear H'; obtain ⟨x6_1, x17_1, x166000_1, x166001_1, x166002_1, x175001_1, u175001, rfl, rfl, HA, HK1, HO_175001, BK161, BK174, HI165, HB⟩ := hrel; cases gk with
    | zero => exact absurd HA.out (by simp [group_Take.l0])
    | succ k1 =>
      have H := HA.out; clear HA; simp only [group_Take.l0] at H; by_cases c13 : x17_1 < 6
      · rw [if_pos c13] at H; have c13b0 : decide (x17_1 < 6) = true := decide_eq_true c13; clear c13; replace H := Option.bind_eq_some_iff.mp H; obtain ⟨⟨t175, t176, t177, t178⟩, A140, H⟩ := H; try dsimp only at H
        have A14 := Aside0.mk A140; clear A140; replace H := Option.bind_eq_some_iff.mp H; obtain ⟨⟨t180, t181, t182, t183⟩, A150, H⟩ := H; try dsimp only at H
        have A15 := Aside0.mk A150; clear A150; by_cases c16 : x6_1 = true
        · subst c16; have H1 : (if x175001_1.length < 5864062014805 then (group_Take.l0 k1 (decide (t180 ≤ 1)) (wrap64 (x17_1 + 1)) t181 t182 t183 t166 (x175001_1 ++ [(⟨wrap64 (x17_1 + 1), t175, (t180 == 1)⟩ : S46)]) t170) else (none)) = some (r1, r2, r3, r4) := by rw [if_pos rfl] at H; exact H
          clear H; have H := H1; clear H1; by_cases c17 : x175001_1.length < 5864062014805
          · rw [if_pos c17] at H; have LMc17 := Aside0.mk c17; clear c17; obtain ⟨y184, hy184⟩ : ∃ y_ : List (S46), y_ = (x175001_1 ++ [(⟨wrap64 (x17_1 + 1), t175, (t180 == 1)⟩ : S46)]) := ⟨_, rfl⟩; replace H : (group_Take.l0 k1 (decide (t180 ≤ 1)) (wrap64 (x17_1 + 1)) t181 t182 t183 t166 y184 t170) = some (r1, r2, r3, r4) := by first | (rw [hy184]; with_reducible exact H) | (have H2_ := (Option.bind_some _ _).symm.trans H; rw [hy184]; with_reducible exact H2_) | (have H2_ := (Option.bind_some _ _).symm.trans H; with_reducible exact H2_) | with_reducible exact H | (rw [hy184]; exact H) | exact H
            have Ny184 := Aside0.mk hy184; clear hy184; have H' := Aside0.mk H; clear H; go_wp2_with (first | ((with_reducible refine gate_callee (f := 64) rfl ?_); refine gl_ 23 Tryd.func64 #[.pointer (some ⟨g165, 0, none⟩)] ?_; (with_reducible refine (code_In_Num.calls k1 g165 x166000_1 x166001_1 x166002_1 t175 t176 t177 t178 w _ ?side1 ?side2 A14.out).mono ?_); (case side1 => repeat (first | (with_reducible first | exact HI165.out | apply IsS128.alloc | apply IsS128.drewN | apply IsS128.drew | apply IsS128.set_0 | apply IsS128.set_1 | apply IsS128.set_2 | refine IsS128.far ?_ NB165_161.out _ | refine IsS128.far ?_ NB165_174.out _) | exact HI165.out)); (case side2 => repeat (first | (with_reducible first | exact HB.out | apply below_alloc | apply pw_below_drewN | apply below_drew1 | refine below_set ?_ (IsS128.ge HI165.out) | refine below_set ?_ GE161.out | refine below_set ?_ GE174.out) | exact HB.out)); rintro e w18 ⟨rfl, hi, hb, hk⟩; refine ⟨_, rfl, ?_⟩; have n0_ := Aside0.mk (Kd.R_mono (Kd.R_keep (IsS128.apart (show IsS128 w _ g165 x166000_1 x166001_1 x166002_1 from by repeat (first | (with_reducible first | exact HI165.out | apply IsS128.alloc | apply IsS128.drewN | apply IsS128.drew | apply IsS128.set_0 | apply IsS128.set_1 | apply IsS128.set_2 | refine IsS128.far ?_ NB165_161.out _ | refine IsS128.far ?_ NB165_174.out _) | exact HI165.out)) (ra_ HO_175001.out) (by decide)) hk (fun _ h => h.2)) (fun _ h => h.1)); have n1_ := Aside0.mk (KeepBut.blk hk (g' := gb161) (o := .cells #[.int .i64 0, .slice none 0 0, .int .i64 0] 24 (0, 0)) (by (with_reducible repeat (first | refine blk_drewN ?_ _ | refine blk_drew ?_ | refine blk_alloc ?_ _)); exact BK161.out) NB161_165.out (by simp)); have n2_ := Aside0.mk (KeepBut.blk hk (g' := gb174) (o := .cells #[.int .i64 t166, u175001, .int .i64 t170] 24 (0, 0)) (by (with_reducible repeat (first | refine blk_drewN ?_ _ | refine blk_drew ?_ | refine blk_alloc ?_ _)); exact BK174.out) NB174_165.out (by simp)); have n3_ := Aside0.mk (hb); have n4_ := Aside0.mk (hi); clear HO_175001; clear BK161; clear BK174; clear HB; clear HI165; have HO_175001 := n0_; have BK161 := n1_; have BK174 := n2_; have HB := n3_; have HI165 := n4_; clear n0_ n1_ n2_ n3_ n4_) | ((with_reducible refine gate_dst (N := 8) rfl ?_); refine box_event ?hg (N := 8) ?hd (cs := #[.int .i64 0, .int .i64 0, .bool false]) (t := 46) ?hr ?_; (case hd => rfl); (case hg => rfl); (case hr => first | (go_simp; done) | (go_simp; rfl)); intro gb179 hg w19 hbox hb; have n0_ := Aside0.mk (Kd.R_below (Kd.R_elderB (ra_ HO_175001.out) gb179 (Nat.le_of_eq hg.symm)) hb); have n1_ := Aside0.mk (blk_below (g := gb161) (o := .cells #[.int .i64 0, .slice none 0 0, .int .i64 0] 24 (0, 0)) (by (with_reducible repeat (first | refine blk_drewN ?_ _ | refine blk_drew ?_ | refine blk_alloc ?_ _)); exact BK161.out) hb); have n2_ := Aside0.mk (blk_below (g := gb174) (o := .cells #[.int .i64 t166, u175001, .int .i64 t170] 24 (0, 0)) (by (with_reducible repeat (first | refine blk_drewN ?_ _ | refine blk_drew ?_ | refine blk_alloc ?_ _)); exact BK174.out) hb); have n3_ := Aside0.mk (IsS128.below (by repeat (first | (with_reducible first | exact HI165.out | apply IsS128.alloc | apply IsS128.drewN | apply IsS128.drew | apply IsS128.set_0 | apply IsS128.set_1 | apply IsS128.set_2 | refine IsS128.far ?_ NB165_161.out _ | refine IsS128.far ?_ NB165_174.out _) | exact HI165.out)) hb); have n4_ := Aside0.mk (below_step (by repeat (first | (with_reducible first | exact HB.out | apply below_alloc | apply pw_below_drewN | apply below_drew1 | refine below_set ?_ (IsS128.ge HI165.out) | refine below_set ?_ GE161.out | refine below_set ?_ GE174.out) | exact HB.out)) hb); have n5_ := Aside0.mk (hbox); have n6_ := Aside0.mk ((by rw [hg]; exact (below_size (by repeat (first | (with_reducible first | exact HB.out | apply below_alloc | apply pw_below_drewN | apply below_drew1 | refine below_set ?_ (IsS128.ge HI165.out) | refine below_set ?_ GE161.out | refine below_set ?_ GE174.out) | exact HB.out))) : w.heap.size ≤ gb179)); have n7_ := Aside0.mk ((by rw [hg]; exact (below_size (by repeat (first | (with_reducible first | exact HB.out | apply below_alloc | apply pw_below_drewN | apply below_drew1 | refine below_set ?_ (IsS128.ge HI165.out) | refine below_set ?_ GE161.out | refine below_set ?_ GE174.out) | exact HB.out))) : w.heap.size ≤ gb179)); have n8_ := Aside0.mk ((by rw [hg]; exact Nat.ne_of_lt (blk_lt (g := gb161) (o := .cells #[.int .i64 0, .slice none 0 0, .int .i64 0] 24 (0, 0)) (by (with_reducible repeat (first | refine blk_drewN ?_ _ | refine blk_drew ?_ | refine blk_alloc ?_ _)); exact BK161.out)) : gb161 ≠ gb179)); have n9_ := Aside0.mk ((by rw [hg]; exact Nat.ne_of_gt (blk_lt (g := gb161) (o := .cells #[.int .i64 0, .slice none 0 0, .int .i64 0] 24 (0, 0)) (by (with_reducible repeat (first | refine blk_drewN ?_ _ | refine blk_drew ?_ | refine blk_alloc ?_ _)); exact BK161.out)) : gb179 ≠ gb161)); have n10_ := Aside0.mk ((by rw [hg]; exact Nat.ne_of_lt (blk_lt (g := gb174) (o := .cells #[.int .i64 t166, u175001, .int .i64 t170] 24 (0, 0)) (by (with_reducible repeat (first | refine blk_drewN ?_ _ | refine blk_drew ?_ | refine blk_alloc ?_ _)); exact BK174.out)) : gb174 ≠ gb179)); have n11_ := Aside0.mk ((by rw [hg]; exact Nat.ne_of_gt (blk_lt (g := gb174) (o := .cells #[.int .i64 t166, u175001, .int .i64 t170] 24 (0, 0)) (by (with_reducible repeat (first | refine blk_drewN ?_ _ | refine blk_drew ?_ | refine blk_alloc ?_ _)); exact BK174.out)) : gb179 ≠ gb174)); have n12_ := Aside0.mk ((by rw [hg]; exact Nat.ne_of_lt (IsS128.lt (show IsS128 w _ g165 t176 t177 t178 from by repeat (first | (with_reducible first | exact HI165.out | apply IsS128.alloc | apply IsS128.drewN | apply IsS128.drew | apply IsS128.set_0 | apply IsS128.set_1 | apply IsS128.set_2 | refine IsS128.far ?_ NB165_161.out _ | refine IsS128.far ?_ NB165_174.out _) | exact HI165.out))) : g165 ≠ gb179)); have n13_ := Aside0.mk ((by rw [hg]; exact Nat.ne_of_gt (IsS128.lt (show IsS128 w _ g165 t176 t177 t178 from by repeat (first | (with_reducible first | exact HI165.out | apply IsS128.alloc | apply IsS128.drewN | apply IsS128.drew | apply IsS128.set_0 | apply IsS128.set_1 | apply IsS128.set_2 | refine IsS128.far ?_ NB165_161.out _ | refine IsS128.far ?_ NB165_174.out _) | exact HI165.out))) : gb179 ≠ g165)); clear HO_175001; clear BK161; clear BK174; clear HI165; clear HB; have HO_175001 := n0_; have BK161 := n1_; have BK174 := n2_; have HI165 := n3_; have HB := n4_; have BK179 := n5_; have GW179 := n6_; have GE179 := n7_; have NB161_179 := n8_; have NB179_161 := n9_; have NB174_179 := n10_; have NB179_174 := n11_; have NB165_179 := n12_; have NB179_165 := n13_; clear n0_ n1_ n2_ n3_ n4_ n5_ n6_ n7_ n8_ n9_ n10_ n11_ n12_ n13_; clear hb hbox hg; have hnb20 := NB179_161.out; have hnc20 := NB161_179.out; have hnb21 := NB179_174.out; have hnc21 := NB174_179.out; have hnb22 := NB179_165.out; have hnc22 := NB165_179.out; have hcz23_0 : w19.cell? ⟨gb179, 0, none⟩ = some (.int .i64 0) := (blk_cell BK179.out 0).trans rfl; have hcz23_1 : w19.cell? ⟨gb179, 1, none⟩ = some (.int .i64 0) := (blk_cell BK179.out 1).trans rfl; have hcz23_2 : w19.cell? ⟨gb179, 2, none⟩ = some (.bool false) := (blk_cell BK179.out 2).trans rfl; have hfz23_0 := blk_frozen BK179.out 0; have hfz23_1 := blk_frozen BK179.out 1; have hfz23_2 := blk_frozen BK179.out 2) | ((with_reducible refine gate_callee (f := 65) rfl ?_); refine gl_ 26 Tryd.func65 #[.pointer (some ⟨g165, 0, none⟩)] ?_; (with_reducible refine (code_In_Byte.calls k1 g165 t176 t177 t178 t180 t181 t182 t183 w _ ?side1 ?side2 A15.out).mono ?_); (case side1 => repeat (first | (with_reducible first | exact HI165.out | apply IsS128.alloc | apply IsS128.drewN | apply IsS128.drew | apply IsS128.set_0 | apply IsS128.set_1 | apply IsS128.set_2 | refine IsS128.far ?_ NB165_161.out _ | refine IsS128.far ?_ NB165_174.out _ | refine IsS128.far ?_ NB165_179.out _) | exact HI165.out)); (case side2 => repeat (first | (with_reducible first | exact HB.out | apply below_alloc | apply pw_below_drewN | apply below_drew1 | refine below_set ?_ (IsS128.ge HI165.out) | refine below_set ?_ GE161.out | refine below_set ?_ GE174.out | refine below_set ?_ GE179.out) | exact HB.out)); rintro e w24 ⟨rfl, hi, hb, hk⟩; refine ⟨_, rfl, ?_⟩; have n0_ := Aside0.mk (Kd.R_mono (Kd.R_keep (IsS128.apart (show IsS128 w _ g165 t176 t177 t178 from by repeat (first | (with_reducible first | exact HI165.out | apply IsS128.alloc | apply IsS128.drewN | apply IsS128.drew | apply IsS128.set_0 | apply IsS128.set_1 | apply IsS128.set_2 | refine IsS128.far ?_ NB165_161.out _ | refine IsS128.far ?_ NB165_174.out _ | refine IsS128.far ?_ NB165_179.out _) | exact HI165.out)) (by (with_reducible repeat (first | apply Kd.R_alloc | apply Kd.R_drewN | apply Kd.R_drew)); exact (Kd.R_mono (Kd.R_far (p := ⟨gb179, 2, none⟩) (Kd.R_far (p := ⟨gb179, 1, none⟩) (Kd.R_far (p := ⟨gb179, 0, none⟩) (Kd.R_mono HO_175001.out (fun k_ hk => (⟨hk, hk.2⟩ : _ ∧ k_ ≠ gb179))) (fun _ hk => hk.2) (.int .i64 (wrap64 (x17_1 + 1)))) (fun _ hk => hk.2) (.int .i64 t175)) (fun _ hk => hk.2) (.bool false)) (fun _ h_ => h_.1))) (by decide)) hk (fun _ h => h.2)) (fun _ h => h.1)); have n1_ := Aside0.mk (KeepBut.blk hk (g' := gb161) (o := .cells #[.int .i64 0, .slice none 0 0, .int .i64 0] 24 (0, 0)) (by (with_reducible repeat (first | refine blk_drewN ?_ _ | refine blk_drew ?_ | refine blk_alloc ?_ _)); refine blk_far ?_ NB161_179.out _; (with_reducible repeat (first | refine blk_drewN ?_ _ | refine blk_drew ?_ | refine blk_alloc ?_ _)); refine blk_far ?_ NB161_179.out _; (with_reducible repeat (first | refine blk_drewN ?_ _ | refine blk_drew ?_ | refine blk_alloc ?_ _)); refine blk_far ?_ NB161_179.out _; (with_reducible repeat (first | refine blk_drewN ?_ _ | refine blk_drew ?_ | refine blk_alloc ?_ _)); exact BK161.out) NB161_165.out (by simp)); have n2_ := Aside0.mk (KeepBut.blk hk (g' := gb174) (o := .cells #[.int .i64 t166, u175001, .int .i64 t170] 24 (0, 0)) (by (with_reducible repeat (first | refine blk_drewN ?_ _ | refine blk_drew ?_ | refine blk_alloc ?_ _)); refine blk_far ?_ NB174_179.out _; (with_reducible repeat (first | refine blk_drewN ?_ _ | refine blk_drew ?_ | refine blk_alloc ?_ _)); refine blk_far ?_ NB174_179.out _; (with_reducible repeat (first | refine blk_drewN ?_ _ | refine blk_drew ?_ | refine blk_alloc ?_ _)); refine blk_far ?_ NB174_179.out _; (with_reducible repeat (first | refine blk_drewN ?_ _ | refine blk_drew ?_ | refine blk_alloc ?_ _)); exact BK174.out) NB174_165.out (by simp)); have n3_ := Aside0.mk (KeepBut.blk hk (g' := gb179) (o := .cells #[.int .i64 (wrap64 (x17_1 + 1)), .int .i64 t175, .bool false] 46 (0, 0)) (by (with_reducible repeat (first | refine blk_drewN ?_ _ | refine blk_drew ?_ | refine blk_alloc ?_ _)); refine blk_put (cs := #[.int .i64 (wrap64 (x17_1 + 1)), .int .i64 t175, .bool false]) ?_ 2 _ rfl; (with_reducible repeat (first | refine blk_drewN ?_ _ | refine blk_drew ?_ | refine blk_alloc ?_ _)); refine blk_put (cs := #[.int .i64 (wrap64 (x17_1 + 1)), .int .i64 0, .bool false]) ?_ 1 _ rfl; (with_reducible repeat (first | refine blk_drewN ?_ _ | refine blk_drew ?_ | refine blk_alloc ?_ _)); refine blk_put (cs := #[.int .i64 0, .int .i64 0, .bool false]) ?_ 0 _ rfl; (with_reducible repeat (first | refine blk_drewN ?_ _ | refine blk_drew ?_ | refine blk_alloc ?_ _)); exact BK179.out) NB179_165.out (by simp)); have n4_ := Aside0.mk (hb); have n5_ := Aside0.mk (hi); clear HO_175001; clear BK161; clear BK174; clear BK179; clear HB; clear HI165; have HO_175001 := n0_; have BK161 := n1_; have BK174 := n2_; have BK179 := n3_; have HB := n4_; have HI165 := n5_; clear n0_ n1_ n2_ n3_ n4_ n5_; have hcz25_0 : w24.cell? ⟨gb179, 0, none⟩ = some (.int .i64 (wrap64 (x17_1 + 1))) := (blk_cell BK179.out 0).trans rfl; have hcz25_1 : w24.cell? ⟨gb179, 1, none⟩ = some (.int .i64 t175) := (blk_cell BK179.out 1).trans rfl; have hcz25_2 : w24.cell? ⟨gb179, 2, none⟩ = some (.bool false) := (blk_cell BK179.out 2).trans rfl; have hfz25_0 := blk_frozen BK179.out 0; have hfz25_1 := blk_frozen BK179.out 1; have hfz25_2 := blk_frozen BK179.out 2; have hnb26 := NB174_161.out; have hnc26 := NB161_174.out; have hnb27 := NB174_165.out; have hnc27 := NB165_174.out; have hcz28_0 : w24.cell? ⟨gb174, 0, none⟩ = some (.int .i64 t166) := (blk_cell BK174.out 0).trans rfl; have hcz28_1 : w24.cell? ⟨gb174, 1, none⟩ = some (u175001) := (blk_cell BK174.out 1).trans rfl; have hcz28_2 : w24.cell? ⟨gb174, 2, none⟩ = some (.int .i64 t170) := (blk_cell BK174.out 2).trans rfl; have hfz28_0 := blk_frozen BK174.out 0; have hfz28_1 := blk_frozen BK174.out 1; have hfz28_2 := blk_frozen BK174.out 2) | ((with_reducible refine gate_builtin (b := .append) (xs := #[.tmp 36, .tmp 38]) rfl ?_); at_builtin; refine Kd.R_append k46 (w0 := w) w.heap.size rfl (.tmp 36) (.tmp 38) 22 46 (.agg #[(.int .i64 0), (.int .i64 0), (.bool false)]) 24 rfl Tryd.underlying22 info46 rfl (by decide) (by omega) u175001 x175001_1 (⟨wrap64 (x17_1 + 1), t175, (t180 == 1)⟩ : S46) [.int .i64 (wrap64 (x17_1 + 1)), .int .i64 t175, .bool (t180 == 1)] (fun k_ => k_ ≠ gb179) (fun _ => False) rfl (by first | (go_simp; done) | (go_simp; rfl)) ?aP (fun _ hk => hk.elim) ?aF ?aO ?aB ?aS ?aL ?_; (case aP => exact k46_mkM _ _ _ (⟨wrap64 (x17_1 + 1), t175, (t180 == 1)⟩ : S46)); (case aB => exact (by repeat (first | (with_reducible first | exact HB.out | apply below_alloc | apply pw_below_drewN | apply below_drew1 | refine below_set ?_ (IsS128.ge HI165.out) | refine below_set ?_ GE161.out | refine below_set ?_ GE174.out | refine below_set ?_ GE179.out) | exact HB.out))); (case aF => exact (fun k_ hk => Kd.freshB (g := gb179) (o := .cells #[.int .i64 (wrap64 (x17_1 + 1)), .int .i64 t175, .bool (t180 == 1)] 46 (0, 0)) (by (with_reducible repeat (first | refine blk_drewN ?_ _ | refine blk_drew ?_ | refine blk_alloc ?_ _)); refine blk_put (cs := #[.int .i64 (wrap64 (x17_1 + 1)), .int .i64 t175, .bool false]) ?_ 2 _ rfl; (with_reducible repeat (first | refine blk_drewN ?_ _ | refine blk_drew ?_ | refine blk_alloc ?_ _)); exact BK179.out) k_ hk)); (case aO => exact (by (with_reducible repeat (first | apply Kd.R_alloc | apply Kd.R_drewN | apply Kd.R_drew)); exact Kd.R_mono (Kd.R_far (p := ⟨gb179, 2, none⟩) (Kd.R_mono HO_175001.out (fun k_ hk => (⟨hk, hk.2⟩ : _ ∧ k_ ≠ gb179))) (fun _ hk => hk.2) (.bool (t180 == 1))) (fun _ hk => hk.1.2))); (case aS => exact (below_size (by repeat (first | (with_reducible first | exact HB.out | apply below_alloc | apply pw_below_drewN | apply below_drew1 | refine below_set ?_ (IsS128.ge HI165.out) | refine below_set ?_ GE161.out | refine below_set ?_ GE174.out | refine below_set ?_ GE179.out) | exact HB.out)))); (case aL => have := LMc17.out; omega); intro v185 w29 ho hb hg hat; rw [← Ny184.out] at ho; have n0_ := Aside0.mk (blk_grown (g := gb161) (o := .cells #[.int .i64 0, .slice none 0 0, .int .i64 0] 24 (0, 0)) (by (with_reducible repeat (first | refine blk_drewN ?_ _ | refine blk_drew ?_ | refine blk_alloc ?_ _)); refine blk_far ?_ NB161_179.out _; (with_reducible repeat (first | refine blk_drewN ?_ _ | refine blk_drew ?_ | refine blk_alloc ?_ _)); exact BK161.out) hg (Kd.R_ne HO_175001.out BK161.out (by decide))); have n1_ := Aside0.mk (blk_grown (g := gb174) (o := .cells #[.int .i64 t166, u175001, .int .i64 t170] 24 (0, 0)) (by (with_reducible repeat (first | refine blk_drewN ?_ _ | refine blk_drew ?_ | refine blk_alloc ?_ _)); refine blk_far ?_ NB174_179.out _; (with_reducible repeat (first | refine blk_drewN ?_ _ | refine blk_drew ?_ | refine blk_alloc ?_ _)); exact BK174.out) hg (Kd.R_ne HO_175001.out BK174.out (by decide))); have n2_ := Aside0.mk (IsS128.grown (IsS128.far HI165.out NB165_179.out _) hg (IsS128.own_ne HI165.out HO_175001.out (by decide))); have n3_ := Aside0.mk (blk_grown (g := gb179) (o := .cells #[.int .i64 (wrap64 (x17_1 + 1)), .int .i64 t175, .bool (t180 == 1)] 46 (0, 0)) (by (with_reducible repeat (first | refine blk_drewN ?_ _ | refine blk_drew ?_ | refine blk_alloc ?_ _)); refine blk_put (cs := #[.int .i64 (wrap64 (x17_1 + 1)), .int .i64 t175, .bool false]) ?_ 2 _ rfl; (with_reducible repeat (first | refine blk_drewN ?_ _ | refine blk_drew ?_ | refine blk_alloc ?_ _)); exact BK179.out) hg (Kd.R_away HO_175001.out (fun _ hk => hk.2))); have n4_ := Aside0.mk (hb); have n5_ := Aside0.mk (ho); clear BK161; clear BK174; clear HI165; clear BK179; clear HB; clear HO_175001; have BK161 := n0_; have BK174 := n1_; have HI165 := n2_; have BK179 := n3_; have HB := n4_; have HO186 := n5_; clear n0_ n1_ n2_ n3_ n4_ n5_; clear ho hb hg hat; obtain ⟨Ao30, co30, eo30⟩ := Kd.R_slice HO186.out; subst eo30; have hcz31_0 : w29.cell? ⟨gb174, 0, none⟩ = some (.int .i64 t166) := (blk_cell BK174.out 0).trans rfl; have hcz31_1 : w29.cell? ⟨gb174, 1, none⟩ = some (u175001) := (blk_cell BK174.out 1).trans rfl; have hcz31_2 : w29.cell? ⟨gb174, 2, none⟩ = some (.int .i64 t170) := (blk_cell BK174.out 2).trans rfl; have hfz31_0 := blk_frozen BK174.out 0; have hfz31_1 := blk_frozen BK174.out 1; have hfz31_2 := blk_frozen BK174.out 2))
            go_roundg k1
            case measure => have := HK1.out; omega
            case rel => exact ⟨(decide (t180 ≤ 1)), (wrap64 (x17_1 + 1)), (t181), (t182), (t183), (y184), (.slice Ao30 y184.length co30), rz_, rz_, H', ⟨by have := HK1.out; omega⟩, ⟨by (with_reducible repeat (first | apply Kd.R_alloc | apply Kd.R_drewN | apply Kd.R_drew)); exact Kd.R_mono (Kd.R_far (p := ⟨gb174, 1, none⟩) (Kd.R_types HO186.out BK174.out (by decide)) (fun _ hk => hk.2) (.slice Ao30 y184.length co30)) (fun _ hk => trivial)⟩, ⟨by (with_reducible repeat (first | refine blk_drewN ?_ _ | refine blk_drew ?_ | refine blk_alloc ?_ _)); refine blk_far ?_ NB161_174.out _; (with_reducible repeat (first | refine blk_drewN ?_ _ | refine blk_drew ?_ | refine blk_alloc ?_ _)); exact BK161.out⟩, ⟨by (with_reducible repeat (first | refine blk_drewN ?_ _ | refine blk_drew ?_ | refine blk_alloc ?_ _)); refine blk_put (cs := #[.int .i64 t166, u175001, .int .i64 t170]) ?_ 1 _ rfl; (with_reducible repeat (first | refine blk_drewN ?_ _ | refine blk_drew ?_ | refine blk_alloc ?_ _)); exact BK174.out⟩, ⟨by repeat (first | (with_reducible first | exact HI165.out | apply IsS128.alloc | apply IsS128.drewN | apply IsS128.drew | apply IsS128.set_0 | apply IsS128.set_1 | apply IsS128.set_2 | refine IsS128.far ?_ NB165_161.out _ | refine IsS128.far ?_ NB165_174.out _ | refine IsS128.far ?_ NB165_179.out _) | exact HI165.out)⟩, ⟨by repeat (first | (with_reducible first | exact HB.out | apply below_alloc | apply pw_below_drewN | apply below_drew1 | refine below_set ?_ (IsS128.ge HI165.out) | refine below_set ?_ GE161.out | refine below_set ?_ GE174.out | refine below_set ?_ GE179.out) | exact HB.out)⟩⟩
          · rw [if_neg c17] at H; exact absurd H (by simp)
        · replace c16 := Bool.eq_false_iff.mpr c16; subst c16; have H1 : (if x175001_1.length < 5864062014805 then (group_Take.l0 k1 false (wrap64 (x17_1 + 1)) t181 t182 t183 t166 (x175001_1 ++ [(⟨wrap64 (x17_1 + 1), t175, (t180 == 1)⟩ : S46)]) t170) else (none)) = some (r1, r2, r3, r4) := by rw [if_neg (show ¬ (false = true) by decide)] at H; exact H
          clear H; have H := H1; clear H1; by_cases c32 : x175001_1.length < 5864062014805
          · rw [if_pos c32] at H; have LMc32 := Aside0.mk c32; clear c32; obtain ⟨y187, hy187⟩ : ∃ y_ : List (S46), y_ = (x175001_1 ++ [(⟨wrap64 (x17_1 + 1), t175, (t180 == 1)⟩ : S46)]) := ⟨_, rfl⟩; replace H : (group_Take.l0 k1 false (wrap64 (x17_1 + 1)) t181 t182 t183 t166 y187 t170) = some (r1, r2, r3, r4) := by first | (rw [hy187]; with_reducible exact H) | (have H2_ := (Option.bind_some _ _).symm.trans H; rw [hy187]; with_reducible exact H2_) | (have H2_ := (Option.bind_some _ _).symm.trans H; with_reducible exact H2_) | with_reducible exact H | (rw [hy187]; exact H) | exact H
            have Ny187 := Aside0.mk hy187; clear hy187; have H' := Aside0.mk H; clear H; go_wp2_with (first | ((with_reducible refine gate_callee (f := 64) rfl ?_); refine gl_ 23 Tryd.func64 #[.pointer (some ⟨g165, 0, none⟩)] ?_; (with_reducible refine (code_In_Num.calls k1 g165 x166000_1 x166001_1 x166002_1 t175 t176 t177 t178 w _ ?side1 ?side2 A14.out).mono ?_); (case side1 => repeat (first | (with_reducible first | exact HI165.out | apply IsS128.alloc | apply IsS128.drewN | apply IsS128.drew | apply IsS128.set_0 | apply IsS128.set_1 | apply IsS128.set_2 | refine IsS128.far ?_ NB165_161.out _ | refine IsS128.far ?_ NB165_174.out _) | exact HI165.out)); (case side2 => repeat (first | (with_reducible first | exact HB.out | apply below_alloc | apply pw_below_drewN | apply below_drew1 | refine below_set ?_ (IsS128.ge HI165.out) | refine below_set ?_ GE161.out | refine below_set ?_ GE174.out) | exact HB.out)); rintro e w33 ⟨rfl, hi, hb, hk⟩; refine ⟨_, rfl, ?_⟩; have n0_ := Aside0.mk (Kd.R_mono (Kd.R_keep (IsS128.apart (show IsS128 w _ g165 x166000_1 x166001_1 x166002_1 from by repeat (first | (with_reducible first | exact HI165.out | apply IsS128.alloc | apply IsS128.drewN | apply IsS128.drew | apply IsS128.set_0 | apply IsS128.set_1 | apply IsS128.set_2 | refine IsS128.far ?_ NB165_161.out _ | refine IsS128.far ?_ NB165_174.out _) | exact HI165.out)) (ra_ HO_175001.out) (by decide)) hk (fun _ h => h.2)) (fun _ h => h.1)); have n1_ := Aside0.mk (KeepBut.blk hk (g' := gb161) (o := .cells #[.int .i64 0, .slice none 0 0, .int .i64 0] 24 (0, 0)) (by (with_reducible repeat (first | refine blk_drewN ?_ _ | refine blk_drew ?_ | refine blk_alloc ?_ _)); exact BK161.out) NB161_165.out (by simp)); have n2_ := Aside0.mk (KeepBut.blk hk (g' := gb174) (o := .cells #[.int .i64 t166, u175001, .int .i64 t170] 24 (0, 0)) (by (with_reducible repeat (first | refine blk_drewN ?_ _ | refine blk_drew ?_ | refine blk_alloc ?_ _)); exact BK174.out) NB174_165.out (by simp)); have n3_ := Aside0.mk (hb); have n4_ := Aside0.mk (hi); clear HO_175001; clear BK161; clear BK174; clear HB; clear HI165; have HO_175001 := n0_; have BK161 := n1_; have BK174 := n2_; have HB := n3_; have HI165 := n4_; clear n0_ n1_ n2_ n3_ n4_) | ((with_reducible refine gate_dst (N := 8) rfl ?_); refine box_event ?hg (N := 8) ?hd (cs := #[.int .i64 0, .int .i64 0, .bool false]) (t := 46) ?hr ?_; (case hd => rfl); (case hg => rfl); (case hr => first | (go_simp; done) | (go_simp; rfl)); intro gb179 hg w34 hbox hb; have n0_ := Aside0.mk (Kd.R_below (Kd.R_elderB (ra_ HO_175001.out) gb179 (Nat.le_of_eq hg.symm)) hb); have n1_ := Aside0.mk (blk_below (g := gb161) (o := .cells #[.int .i64 0, .slice none 0 0, .int .i64 0] 24 (0, 0)) (by (with_reducible repeat (first | refine blk_drewN ?_ _ | refine blk_drew ?_ | refine blk_alloc ?_ _)); exact BK161.out) hb); have n2_ := Aside0.mk (blk_below (g := gb174) (o := .cells #[.int .i64 t166, u175001, .int .i64 t170] 24 (0, 0)) (by (with_reducible repeat (first | refine blk_drewN ?_ _ | refine blk_drew ?_ | refine blk_alloc ?_ _)); exact BK174.out) hb); have n3_ := Aside0.mk (IsS128.below (by repeat (first | (with_reducible first | exact HI165.out | apply IsS128.alloc | apply IsS128.drewN | apply IsS128.drew | apply IsS128.set_0 | apply IsS128.set_1 | apply IsS128.set_2 | refine IsS128.far ?_ NB165_161.out _ | refine IsS128.far ?_ NB165_174.out _) | exact HI165.out)) hb); have n4_ := Aside0.mk (below_step (by repeat (first | (with_reducible first | exact HB.out | apply below_alloc | apply pw_below_drewN | apply below_drew1 | refine below_set ?_ (IsS128.ge HI165.out) | refine below_set ?_ GE161.out | refine below_set ?_ GE174.out) | exact HB.out)) hb); have n5_ := Aside0.mk (hbox); have n6_ := Aside0.mk ((by rw [hg]; exact (below_size (by repeat (first | (with_reducible first | exact HB.out | apply below_alloc | apply pw_below_drewN | apply below_drew1 | refine below_set ?_ (IsS128.ge HI165.out) | refine below_set ?_ GE161.out | refine below_set ?_ GE174.out) | exact HB.out))) : w.heap.size ≤ gb179)); have n7_ := Aside0.mk ((by rw [hg]; exact (below_size (by repeat (first | (with_reducible first | exact HB.out | apply below_alloc | apply pw_below_drewN | apply below_drew1 | refine below_set ?_ (IsS128.ge HI165.out) | refine below_set ?_ GE161.out | refine below_set ?_ GE174.out) | exact HB.out))) : w.heap.size ≤ gb179)); have n8_ := Aside0.mk ((by rw [hg]; exact Nat.ne_of_lt (blk_lt (g := gb161) (o := .cells #[.int .i64 0, .slice none 0 0, .int .i64 0] 24 (0, 0)) (by (with_reducible repeat (first | refine blk_drewN ?_ _ | refine blk_drew ?_ | refine blk_alloc ?_ _)); exact BK161.out)) : gb161 ≠ gb179)); have n9_ := Aside0.mk ((by rw [hg]; exact Nat.ne_of_gt (blk_lt (g := gb161) (o := .cells #[.int .i64 0, .slice none 0 0, .int .i64 0] 24 (0, 0)) (by (with_reducible repeat (first | refine blk_drewN ?_ _ | refine blk_drew ?_ | refine blk_alloc ?_ _)); exact BK161.out)) : gb179 ≠ gb161)); have n10_ := Aside0.mk ((by rw [hg]; exact Nat.ne_of_lt (blk_lt (g := gb174) (o := .cells #[.int .i64 t166, u175001, .int .i64 t170] 24 (0, 0)) (by (with_reducible repeat (first | refine blk_drewN ?_ _ | refine blk_drew ?_ | refine blk_alloc ?_ _)); exact BK174.out)) : gb174 ≠ gb179)); have n11_ := Aside0.mk ((by rw [hg]; exact Nat.ne_of_gt (blk_lt (g := gb174) (o := .cells #[.int .i64 t166, u175001, .int .i64 t170] 24 (0, 0)) (by (with_reducible repeat (first | refine blk_drewN ?_ _ | refine blk_drew ?_ | refine blk_alloc ?_ _)); exact BK174.out)) : gb179 ≠ gb174)); have n12_ := Aside0.mk ((by rw [hg]; exact Nat.ne_of_lt (IsS128.lt (show IsS128 w _ g165 t176 t177 t178 from by repeat (first | (with_reducible first | exact HI165.out | apply IsS128.alloc | apply IsS128.drewN | apply IsS128.drew | apply IsS128.set_0 | apply IsS128.set_1 | apply IsS128.set_2 | refine IsS128.far ?_ NB165_161.out _ | refine IsS128.far ?_ NB165_174.out _) | exact HI165.out))) : g165 ≠ gb179)); have n13_ := Aside0.mk ((by rw [hg]; exact Nat.ne_of_gt (IsS128.lt (show IsS128 w _ g165 t176 t177 t178 from by repeat (first | (with_reducible first | exact HI165.out | apply IsS128.alloc | apply IsS128.drewN | apply IsS128.drew | apply IsS128.set_0 | apply IsS128.set_1 | apply IsS128.set_2 | refine IsS128.far ?_ NB165_161.out _ | refine IsS128.far ?_ NB165_174.out _) | exact HI165.out))) : gb179 ≠ g165)); clear HO_175001; clear BK161; clear BK174; clear HI165; clear HB; have HO_175001 := n0_; have BK161 := n1_; have BK174 := n2_; have HI165 := n3_; have HB := n4_; have BK179 := n5_; have GW179 := n6_; have GE179 := n7_; have NB161_179 := n8_; have NB179_161 := n9_; have NB174_179 := n10_; have NB179_174 := n11_; have NB165_179 := n12_; have NB179_165 := n13_; clear n0_ n1_ n2_ n3_ n4_ n5_ n6_ n7_ n8_ n9_ n10_ n11_ n12_ n13_; clear hb hbox hg; have hnb35 := NB179_161.out; have hnc35 := NB161_179.out; have hnb36 := NB179_174.out; have hnc36 := NB174_179.out; have hnb37 := NB179_165.out; have hnc37 := NB165_179.out; have hcz38_0 : w34.cell? ⟨gb179, 0, none⟩ = some (.int .i64 0) := (blk_cell BK179.out 0).trans rfl; have hcz38_1 : w34.cell? ⟨gb179, 1, none⟩ = some (.int .i64 0) := (blk_cell BK179.out 1).trans rfl; have hcz38_2 : w34.cell? ⟨gb179, 2, none⟩ = some (.bool false) := (blk_cell BK179.out 2).trans rfl; have hfz38_0 := blk_frozen BK179.out 0; have hfz38_1 := blk_frozen BK179.out 1; have hfz38_2 := blk_frozen BK179.out 2) | ((with_reducible refine gate_callee (f := 65) rfl ?_); refine gl_ 26 Tryd.func65 #[.pointer (some ⟨g165, 0, none⟩)] ?_; (with_reducible refine (code_In_Byte.calls k1 g165 t176 t177 t178 t180 t181 t182 t183 w _ ?side1 ?side2 A15.out).mono ?_); (case side1 => repeat (first | (with_reducible first | exact HI165.out | apply IsS128.alloc | apply IsS128.drewN | apply IsS128.drew | apply IsS128.set_0 | apply IsS128.set_1 | apply IsS128.set_2 | refine IsS128.far ?_ NB165_161.out _ | refine IsS128.far ?_ NB165_174.out _ | refine IsS128.far ?_ NB165_179.out _) | exact HI165.out)); (case side2 => repeat (first | (with_reducible first | exact HB.out | apply below_alloc | apply pw_below_drewN | apply below_drew1 | refine below_set ?_ (IsS128.ge HI165.out) | refine below_set ?_ GE161.out | refine below_set ?_ GE174.out | refine below_set ?_ GE179.out) | exact HB.out)); rintro e w39 ⟨rfl, hi, hb, hk⟩; refine ⟨_, rfl, ?_⟩; have n0_ := Aside0.mk (Kd.R_mono (Kd.R_keep (IsS128.apart (show IsS128 w _ g165 t176 t177 t178 from by repeat (first | (with_reducible first | exact HI165.out | apply IsS128.alloc | apply IsS128.drewN | apply IsS128.drew | apply IsS128.set_0 | apply IsS128.set_1 | apply IsS128.set_2 | refine IsS128.far ?_ NB165_161.out _ | refine IsS128.far ?_ NB165_174.out _ | refine IsS128.far ?_ NB165_179.out _) | exact HI165.out)) (by (with_reducible repeat (first | apply Kd.R_alloc | apply Kd.R_drewN | apply Kd.R_drew)); exact (Kd.R_mono (Kd.R_far (p := ⟨gb179, 2, none⟩) (Kd.R_far (p := ⟨gb179, 1, none⟩) (Kd.R_far (p := ⟨gb179, 0, none⟩) (Kd.R_mono HO_175001.out (fun k_ hk => (⟨hk, hk.2⟩ : _ ∧ k_ ≠ gb179))) (fun _ hk => hk.2) (.int .i64 (wrap64 (x17_1 + 1)))) (fun _ hk => hk.2) (.int .i64 t175)) (fun _ hk => hk.2) (.bool false)) (fun _ h_ => h_.1))) (by decide)) hk (fun _ h => h.2)) (fun _ h => h.1)); have n1_ := Aside0.mk (KeepBut.blk hk (g' := gb161) (o := .cells #[.int .i64 0, .slice none 0 0, .int .i64 0] 24 (0, 0)) (by (with_reducible repeat (first | refine blk_drewN ?_ _ | refine blk_drew ?_ | refine blk_alloc ?_ _)); refine blk_far ?_ NB161_179.out _; (with_reducible repeat (first | refine blk_drewN ?_ _ | refine blk_drew ?_ | refine blk_alloc ?_ _)); refine blk_far ?_ NB161_179.out _; (with_reducible repeat (first | refine blk_drewN ?_ _ | refine blk_drew ?_ | refine blk_alloc ?_ _)); refine blk_far ?_ NB161_179.out _; (with_reducible repeat (first | refine blk_drewN ?_ _ | refine blk_drew ?_ | refine blk_alloc ?_ _)); exact BK161.out) NB161_165.out (by simp)); have n2_ := Aside0.mk (KeepBut.blk hk (g' := gb174) (o := .cells #[.int .i64 t166, u175001, .int .i64 t170] 24 (0, 0)) (by (with_reducible repeat (first | refine blk_drewN ?_ _ | refine blk_drew ?_ | refine blk_alloc ?_ _)); refine blk_far ?_ NB174_179.out _; (with_reducible repeat (first | refine blk_drewN ?_ _ | refine blk_drew ?_ | refine blk_alloc ?_ _)); refine blk_far ?_ NB174_179.out _; (with_reducible repeat (first | refine blk_drewN ?_ _ | refine blk_drew ?_ | refine blk_alloc ?_ _)); refine blk_far ?_ NB174_179.out _; (with_reducible repeat (first | refine blk_drewN ?_ _ | refine blk_drew ?_ | refine blk_alloc ?_ _)); exact BK174.out) NB174_165.out (by simp)); have n3_ := Aside0.mk (KeepBut.blk hk (g' := gb179) (o := .cells #[.int .i64 (wrap64 (x17_1 + 1)), .int .i64 t175, .bool false] 46 (0, 0)) (by (with_reducible repeat (first | refine blk_drewN ?_ _ | refine blk_drew ?_ | refine blk_alloc ?_ _)); refine blk_put (cs := #[.int .i64 (wrap64 (x17_1 + 1)), .int .i64 t175, .bool false]) ?_ 2 _ rfl; (with_reducible repeat (first | refine blk_drewN ?_ _ | refine blk_drew ?_ | refine blk_alloc ?_ _)); refine blk_put (cs := #[.int .i64 (wrap64 (x17_1 + 1)), .int .i64 0, .bool false]) ?_ 1 _ rfl; (with_reducible repeat (first | refine blk_drewN ?_ _ | refine blk_drew ?_ | refine blk_alloc ?_ _)); refine blk_put (cs := #[.int .i64 0, .int .i64 0, .bool false]) ?_ 0 _ rfl; (with_reducible repeat (first | refine blk_drewN ?_ _ | refine blk_drew ?_ | refine blk_alloc ?_ _)); exact BK179.out) NB179_165.out (by simp)); have n4_ := Aside0.mk (hb); have n5_ := Aside0.mk (hi); clear HO_175001; clear BK161; clear BK174; clear BK179; clear HB; clear HI165; have HO_175001 := n0_; have BK161 := n1_; have BK174 := n2_; have BK179 := n3_; have HB := n4_; have HI165 := n5_; clear n0_ n1_ n2_ n3_ n4_ n5_; have hcz40_0 : w39.cell? ⟨gb179, 0, none⟩ = some (.int .i64 (wrap64 (x17_1 + 1))) := (blk_cell BK179.out 0).trans rfl; have hcz40_1 : w39.cell? ⟨gb179, 1, none⟩ = some (.int .i64 t175) := (blk_cell BK179.out 1).trans rfl; have hcz40_2 : w39.cell? ⟨gb179, 2, none⟩ = some (.bool false) := (blk_cell BK179.out 2).trans rfl; have hfz40_0 := blk_frozen BK179.out 0; have hfz40_1 := blk_frozen BK179.out 1; have hfz40_2 := blk_frozen BK179.out 2; have hnb41 := NB174_161.out; have hnc41 := NB161_174.out; have hnb42 := NB174_165.out; have hnc42 := NB165_174.out; have hcz43_0 : w39.cell? ⟨gb174, 0, none⟩ = some (.int .i64 t166) := (blk_cell BK174.out 0).trans rfl; have hcz43_1 : w39.cell? ⟨gb174, 1, none⟩ = some (u175001) := (blk_cell BK174.out 1).trans rfl; have hcz43_2 : w39.cell? ⟨gb174, 2, none⟩ = some (.int .i64 t170) := (blk_cell BK174.out 2).trans rfl; have hfz43_0 := blk_frozen BK174.out 0; have hfz43_1 := blk_frozen BK174.out 1; have hfz43_2 := blk_frozen BK174.out 2) | ((with_reducible refine gate_builtin (b := .append) (xs := #[.tmp 36, .tmp 38]) rfl ?_); at_builtin; refine Kd.R_append k46 (w0 := w) w.heap.size rfl (.tmp 36) (.tmp 38) 22 46 (.agg #[(.int .i64 0), (.int .i64 0), (.bool false)]) 24 rfl Tryd.underlying22 info46 rfl (by decide) (by omega) u175001 x175001_1 (⟨wrap64 (x17_1 + 1), t175, (t180 == 1)⟩ : S46) [.int .i64 (wrap64 (x17_1 + 1)), .int .i64 t175, .bool (t180 == 1)] (fun k_ => k_ ≠ gb179) (fun _ => False) rfl (by first | (go_simp; done) | (go_simp; rfl)) ?aP (fun _ hk => hk.elim) ?aF ?aO ?aB ?aS ?aL ?_; (case aP => exact k46_mkM _ _ _ (⟨wrap64 (x17_1 + 1), t175, (t180 == 1)⟩ : S46)); (case aB => exact (by repeat (first | (with_reducible first | exact HB.out | apply below_alloc | apply pw_below_drewN | apply below_drew1 | refine below_set ?_ (IsS128.ge HI165.out) | refine below_set ?_ GE161.out | refine below_set ?_ GE174.out | refine below_set ?_ GE179.out) | exact HB.out))); (case aF => exact (fun k_ hk => Kd.freshB (g := gb179) (o := .cells #[.int .i64 (wrap64 (x17_1 + 1)), .int .i64 t175, .bool (t180 == 1)] 46 (0, 0)) (by (with_reducible repeat (first | refine blk_drewN ?_ _ | refine blk_drew ?_ | refine blk_alloc ?_ _)); refine blk_put (cs := #[.int .i64 (wrap64 (x17_1 + 1)), .int .i64 t175, .bool false]) ?_ 2 _ rfl; (with_reducible repeat (first | refine blk_drewN ?_ _ | refine blk_drew ?_ | refine blk_alloc ?_ _)); exact BK179.out) k_ hk)); (case aO => exact (by (with_reducible repeat (first | apply Kd.R_alloc | apply Kd.R_drewN | apply Kd.R_drew)); exact Kd.R_mono (Kd.R_far (p := ⟨gb179, 2, none⟩) (Kd.R_mono HO_175001.out (fun k_ hk => (⟨hk, hk.2⟩ : _ ∧ k_ ≠ gb179))) (fun _ hk => hk.2) (.bool (t180 == 1))) (fun _ hk => hk.1.2))); (case aS => exact (below_size (by repeat (first | (with_reducible first | exact HB.out | apply below_alloc | apply pw_below_drewN | apply below_drew1 | refine below_set ?_ (IsS128.ge HI165.out) | refine below_set ?_ GE161.out | refine below_set ?_ GE174.out | refine below_set ?_ GE179.out) | exact HB.out)))); (case aL => have := LMc32.out; omega); intro v188 w44 ho hb hg hat; rw [← Ny187.out] at ho; have n0_ := Aside0.mk (blk_grown (g := gb161) (o := .cells #[.int .i64 0, .slice none 0 0, .int .i64 0] 24 (0, 0)) (by (with_reducible repeat (first | refine blk_drewN ?_ _ | refine blk_drew ?_ | refine blk_alloc ?_ _)); refine blk_far ?_ NB161_179.out _; (with_reducible repeat (first | refine blk_drewN ?_ _ | refine blk_drew ?_ | refine blk_alloc ?_ _)); exact BK161.out) hg (Kd.R_ne HO_175001.out BK161.out (by decide))); have n1_ := Aside0.mk (blk_grown (g := gb174) (o := .cells #[.int .i64 t166, u175001, .int .i64 t170] 24 (0, 0)) (by (with_reducible repeat (first | refine blk_drewN ?_ _ | refine blk_drew ?_ | refine blk_alloc ?_ _)); refine blk_far ?_ NB174_179.out _; (with_reducible repeat (first | refine blk_drewN ?_ _ | refine blk_drew ?_ | refine blk_alloc ?_ _)); exact BK174.out) hg (Kd.R_ne HO_175001.out BK174.out (by decide))); have n2_ := Aside0.mk (IsS128.grown (IsS128.far HI165.out NB165_179.out _) hg (IsS128.own_ne HI165.out HO_175001.out (by decide))); have n3_ := Aside0.mk (blk_grown (g := gb179) (o := .cells #[.int .i64 (wrap64 (x17_1 + 1)), .int .i64 t175, .bool (t180 == 1)] 46 (0, 0)) (by (with_reducible repeat (first | refine blk_drewN ?_ _ | refine blk_drew ?_ | refine blk_alloc ?_ _)); refine blk_put (cs := #[.int .i64 (wrap64 (x17_1 + 1)), .int .i64 t175, .bool false]) ?_ 2 _ rfl; (with_reducible repeat (first | refine blk_drewN ?_ _ | refine blk_drew ?_ | refine blk_alloc ?_ _)); exact BK179.out) hg (Kd.R_away HO_175001.out (fun _ hk => hk.2))); have n4_ := Aside0.mk (hb); have n5_ := Aside0.mk (ho); clear BK161; clear BK174; clear HI165; clear BK179; clear HB; clear HO_175001; have BK161 := n0_; have BK174 := n1_; have HI165 := n2_; have BK179 := n3_; have HB := n4_; have HO189 := n5_; clear n0_ n1_ n2_ n3_ n4_ n5_; clear ho hb hg hat; obtain ⟨Ao45, co45, eo45⟩ := Kd.R_slice HO189.out; subst eo45; have hcz46_0 : w44.cell? ⟨gb174, 0, none⟩ = some (.int .i64 t166) := (blk_cell BK174.out 0).trans rfl; have hcz46_1 : w44.cell? ⟨gb174, 1, none⟩ = some (u175001) := (blk_cell BK174.out 1).trans rfl; have hcz46_2 : w44.cell? ⟨gb174, 2, none⟩ = some (.int .i64 t170) := (blk_cell BK174.out 2).trans rfl; have hfz46_0 := blk_frozen BK174.out 0; have hfz46_1 := blk_frozen BK174.out 1; have hfz46_2 := blk_frozen BK174.out 2))
            go_roundg k1
            case measure => have := HK1.out; omega
            case rel => exact ⟨(false), (wrap64 (x17_1 + 1)), (t181), (t182), (t183), (y187), (.slice Ao45 y187.length co45), rz_, rz_, H', ⟨by have := HK1.out; omega⟩, ⟨by (with_reducible repeat (first | apply Kd.R_alloc | apply Kd.R_drewN | apply Kd.R_drew)); exact Kd.R_mono (Kd.R_far (p := ⟨gb174, 1, none⟩) (Kd.R_types HO189.out BK174.out (by decide)) (fun _ hk => hk.2) (.slice Ao45 y187.length co45)) (fun _ hk => trivial)⟩, ⟨by (with_reducible repeat (first | refine blk_drewN ?_ _ | refine blk_drew ?_ | refine blk_alloc ?_ _)); refine blk_far ?_ NB161_174.out _; (with_reducible repeat (first | refine blk_drewN ?_ _ | refine blk_drew ?_ | refine blk_alloc ?_ _)); exact BK161.out⟩, ⟨by (with_reducible repeat (first | refine blk_drewN ?_ _ | refine blk_drew ?_ | refine blk_alloc ?_ _)); refine blk_put (cs := #[.int .i64 t166, u175001, .int .i64 t170]) ?_ 1 _ rfl; (with_reducible repeat (first | refine blk_drewN ?_ _ | refine blk_drew ?_ | refine blk_alloc ?_ _)); exact BK174.out⟩, ⟨by repeat (first | (with_reducible first | exact HI165.out | apply IsS128.alloc | apply IsS128.drewN | apply IsS128.drew | apply IsS128.set_0 | apply IsS128.set_1 | apply IsS128.set_2 | refine IsS128.far ?_ NB165_161.out _ | refine IsS128.far ?_ NB165_174.out _ | refine IsS128.far ?_ NB165_179.out _) | exact HI165.out)⟩, ⟨by repeat (first | (with_reducible first | exact HB.out | apply below_alloc | apply pw_below_drewN | apply below_drew1 | refine below_set ?_ (IsS128.ge HI165.out) | refine below_set ?_ GE161.out | refine below_set ?_ GE174.out | refine below_set ?_ GE179.out) | exact HB.out)⟩⟩
          · rw [if_neg c32] at H; exact absurd H (by simp)
      · rw [if_neg c13] at H; have c13b0 : decide (x17_1 < 6) = false := decide_eq_false c13; clear c13; by_cases c47 : x6_1 = true
        · subst c47; have H1 : ((code_In_Done.f x166000_1 x166001_1 x166002_1).bind fun bt190 => (if bt190.1 = 0 then ((group_Check.f k1 t166 x175001_1 t170).bind fun t194 => (if t194 = 0 then (some (t166, x175001_1, t170, 0)) else (some (0, ([] : List (S46)), 0, 91)))) else (some (0, ([] : List (S46)), 0, 91)))) = some (r1, r2, r3, r4) := by rw [if_pos rfl] at H; exact H
          clear H; have H := H1; clear H1; replace H := Option.bind_eq_some_iff.mp H; obtain ⟨⟨t190, t191, t192, t193⟩, A480, H⟩ := H; try dsimp only at H
          have A48 := Aside0.mk A480; clear A480; by_cases c49 : t190 = 0
          · rw [if_pos c49] at H; have c49b0 : (t190 == 0) = true := beq_iff_eq.mpr c49; have c49b1 : (t190 != 0) = false := bne_eq_false_iff_eq.mpr c49; clear c49; replace H := Option.bind_eq_some_iff.mp H; obtain ⟨t194, A500, H⟩ := H; have A50 := Aside0.mk A500; clear A500; by_cases c51 : t194 = 0
            · rw [if_pos c51] at H; have c51b0 : (t194 == 0) = true := beq_iff_eq.mpr c51; have c51b1 : (t194 != 0) = false := bne_eq_false_iff_eq.mpr c51; clear c51; simp only [Option.some.injEq, Prod.mk.injEq] at H; obtain ⟨rfl, rfl, rfl, rfl⟩ := H; go_wp2_with (first | (go_at_call 66; (with_reducible refine (code_In_Done.calls g165 x166000_1 x166001_1 x166002_1 t190 t191 t192 t193 w _ ?side1 ?side2 A48.out).mono ?_); (case side1 => repeat (first | (with_reducible first | exact HI165.out | apply IsS128.alloc | apply IsS128.drewN | apply IsS128.drew | apply IsS128.set_0 | apply IsS128.set_1 | apply IsS128.set_2 | refine IsS128.far ?_ NB165_161.out _ | refine IsS128.far ?_ NB165_174.out _) | exact HI165.out)); (case side2 => repeat (first | (with_reducible first | exact HB.out | apply below_alloc | apply pw_below_drewN | apply below_drew1 | refine below_set ?_ (IsS128.ge HI165.out) | refine below_set ?_ GE161.out | refine below_set ?_ GE174.out) | exact HB.out)); rintro e w52 ⟨rfl, hi, hb, hk⟩; have n0_ := Aside0.mk (Kd.R_mono (Kd.R_keep (IsS128.apart (show IsS128 w _ g165 x166000_1 x166001_1 x166002_1 from by repeat (first | (with_reducible first | exact HI165.out | apply IsS128.alloc | apply IsS128.drewN | apply IsS128.drew | apply IsS128.set_0 | apply IsS128.set_1 | apply IsS128.set_2 | refine IsS128.far ?_ NB165_161.out _ | refine IsS128.far ?_ NB165_174.out _) | exact HI165.out)) (ra_ HO_175001.out) (by decide)) hk (fun _ h => h.2)) (fun _ h => h.1)); have n1_ := Aside0.mk (KeepBut.blk hk (g' := gb161) (o := .cells #[.int .i64 0, .slice none 0 0, .int .i64 0] 24 (0, 0)) (by (with_reducible repeat (first | refine blk_drewN ?_ _ | refine blk_drew ?_ | refine blk_alloc ?_ _)); exact BK161.out) NB161_165.out (by simp)); have n2_ := Aside0.mk (KeepBut.blk hk (g' := gb174) (o := .cells #[.int .i64 t166, u175001, .int .i64 t170] 24 (0, 0)) (by (with_reducible repeat (first | refine blk_drewN ?_ _ | refine blk_drew ?_ | refine blk_alloc ?_ _)); exact BK174.out) NB174_165.out (by simp)); have n3_ := Aside0.mk (hb); have n4_ := Aside0.mk (hi); clear HO_175001; clear BK161; clear BK174; clear HB; clear HI165; have HO_175001 := n0_; have BK161 := n1_; have BK174 := n2_; have HB := n3_; have HI165 := n4_; clear n0_ n1_ n2_ n3_ n4_; have hnb53 := NB174_161.out; have hnc53 := NB161_174.out; have hnb54 := NB174_165.out; have hnc54 := NB165_174.out; have hcz55_0 : w52.cell? ⟨gb174, 0, none⟩ = some (.int .i64 t166) := (blk_cell BK174.out 0).trans rfl; have hcz55_1 : w52.cell? ⟨gb174, 1, none⟩ = some (u175001) := (blk_cell BK174.out 1).trans rfl; have hcz55_2 : w52.cell? ⟨gb174, 2, none⟩ = some (.int .i64 t170) := (blk_cell BK174.out 2).trans rfl; have hfz55_0 := blk_frozen BK174.out 0; have hfz55_1 := blk_frozen BK174.out 1; have hfz55_2 := blk_frozen BK174.out 2; obtain ⟨Ao56, co56, eo56⟩ := Kd.R_slice HO_175001.out; subst eo56) | (go_at_call 21; (with_reducible refine (group_Check.calls k1 t166 _ _ x175001_1 t170 t194 _ ?side1 ?side2 A50.out).mono ?_); (case side1 => exact ca_ (Kd.R_reads' HO_175001.out).2.2); (case side2 => exact (Kd.R_reads' HO_175001.out).2.1); rintro e w57 ⟨rfl, hb⟩; have n0_ := Aside0.mk (Kd.R_below (ra_ HO_175001.out) hb); have n1_ := Aside0.mk (blk_below (g := gb161) (o := .cells #[.int .i64 0, .slice none 0 0, .int .i64 0] 24 (0, 0)) (by (with_reducible repeat (first | refine blk_drewN ?_ _ | refine blk_drew ?_ | refine blk_alloc ?_ _)); exact BK161.out) hb); have n2_ := Aside0.mk (blk_below (g := gb174) (o := .cells #[.int .i64 t166, .slice Ao56 x175001_1.length co56, .int .i64 t170] 24 (0, 0)) (by (with_reducible repeat (first | refine blk_drewN ?_ _ | refine blk_drew ?_ | refine blk_alloc ?_ _)); exact BK174.out) hb); have n3_ := Aside0.mk (IsS128.below (by repeat (first | (with_reducible first | exact HI165.out | apply IsS128.alloc | apply IsS128.drewN | apply IsS128.drew | apply IsS128.set_0 | apply IsS128.set_1 | apply IsS128.set_2 | refine IsS128.far ?_ NB165_161.out _ | refine IsS128.far ?_ NB165_174.out _) | exact HI165.out)) hb); have n4_ := Aside0.mk (below_step (by repeat (first | (with_reducible first | exact HB.out | apply below_alloc | apply pw_below_drewN | apply below_drew1 | refine below_set ?_ (IsS128.ge HI165.out) | refine below_set ?_ GE161.out | refine below_set ?_ GE174.out) | exact HB.out)) hb); clear HO_175001; clear BK161; clear BK174; clear HI165; clear HB; have HO_175001 := n0_; have BK161 := n1_; have BK174 := n2_; have HI165 := n3_; have HB := n4_; clear n0_ n1_ n2_ n3_ n4_; have hcz58_0 : w57.cell? ⟨gb174, 0, none⟩ = some (.int .i64 t166) := (blk_cell BK174.out 0).trans rfl; have hcz58_1 : w57.cell? ⟨gb174, 1, none⟩ = some (.slice Ao56 x175001_1.length co56) := (blk_cell BK174.out 1).trans rfl; have hcz58_2 : w57.cell? ⟨gb174, 2, none⟩ = some (.int .i64 t170) := (blk_cell BK174.out 2).trans rfl; have hfz58_0 := blk_frozen BK174.out 0; have hfz58_1 := blk_frozen BK174.out 1; have hfz58_2 := blk_frozen BK174.out 2; have hnb59 := NB161_165.out; have hnc59 := NB165_161.out; have hcz60_0 : w57.cell? ⟨gb161, 0, none⟩ = some (.int .i64 0) := (blk_cell BK161.out 0).trans rfl; have hcz60_1 : w57.cell? ⟨gb161, 1, none⟩ = some (.slice none 0 0) := (blk_cell BK161.out 1).trans rfl; have hcz60_2 : w57.cell? ⟨gb161, 2, none⟩ = some (.int .i64 0) := (blk_cell BK161.out 2).trans rfl; have hfz60_0 := blk_frozen BK161.out 0; have hfz60_1 := blk_frozen BK161.out 1; have hfz60_2 := blk_frozen BK161.out 2))
              refine bodyPost_ret (results_ct rfl _ _ gb161 24 #[.int .i64 t166, .slice Ao56 x175001_1.length co56, .int .i64 t170] (0, 0) _ rfl (by (with_reducible repeat (first | refine blk_drewN ?_ _ | refine blk_drew ?_ | refine blk_alloc ?_ _)); refine blk_put (cs := #[.int .i64 t166, .slice Ao56 x175001_1.length co56, .int .i64 0]) ?_ 2 _ rfl; (with_reducible repeat (first | refine blk_drewN ?_ _ | refine blk_drew ?_ | refine blk_alloc ?_ _)); refine blk_put (cs := #[.int .i64 t166, .slice none 0 0, .int .i64 0]) ?_ 1 _ rfl; (with_reducible repeat (first | refine blk_drewN ?_ _ | refine blk_drew ?_ | refine blk_alloc ?_ _)); refine blk_put (cs := #[.int .i64 0, .slice none 0 0, .int .i64 0]) ?_ 0 _ rfl; (with_reducible repeat (first | refine blk_drewN ?_ _ | refine blk_drew ?_ | refine blk_alloc ?_ _)); exact BK161.out) Tryd.underlying24 rfl (by kernel_rfl)) rfl ?_; exact ⟨_, ew_, by (with_reducible repeat (first | apply Kd.R_alloc | apply Kd.R_drewN | apply Kd.R_drew)); exact Kd.R_mono (Kd.R_far (p := ⟨gb161, 2, none⟩) (Kd.R_far (p := ⟨gb161, 1, none⟩) (Kd.R_far (p := ⟨gb161, 0, none⟩) (Kd.R_types HO_175001.out BK161.out (by decide)) (fun _ hk => hk.2) (.int .i64 t166)) (fun _ hk => hk.2) (.slice Ao56 x175001_1.length co56)) (fun _ hk => hk.2) (.int .i64 t170)) (fun _ hk => trivial), by repeat (first | (with_reducible first | exact HB.out | apply below_alloc | apply pw_below_drewN | apply below_drew1 | refine below_set ?_ (IsS128.ge HI165.out) | refine below_set ?_ GE161.out | refine below_set ?_ GE174.out) | exact HB.out)⟩
            · rw [if_neg c51] at H; have c51b0 : (t194 == 0) = false := beq_eq_false_iff_ne.mpr c51; have c51b1 : (t194 != 0) = true := bne_iff_ne.mpr c51; simp only [Option.some.injEq, Prod.mk.injEq] at H; obtain ⟨rfl, rfl, rfl, rfl⟩ := H; go_wp2_with (first | (go_at_call 66; (with_reducible refine (code_In_Done.calls g165 x166000_1 x166001_1 x166002_1 t190 t191 t192 t193 w _ ?side1 ?side2 A48.out).mono ?_); (case side1 => repeat (first | (with_reducible first | exact HI165.out | apply IsS128.alloc | apply IsS128.drewN | apply IsS128.drew | apply IsS128.set_0 | apply IsS128.set_1 | apply IsS128.set_2 | refine IsS128.far ?_ NB165_161.out _ | refine IsS128.far ?_ NB165_174.out _) | exact HI165.out)); (case side2 => repeat (first | (with_reducible first | exact HB.out | apply below_alloc | apply pw_below_drewN | apply below_drew1 | refine below_set ?_ (IsS128.ge HI165.out) | refine below_set ?_ GE161.out | refine below_set ?_ GE174.out) | exact HB.out)); rintro e w61 ⟨rfl, hi, hb, hk⟩; have n0_ := Aside0.mk (Kd.R_mono (Kd.R_keep (IsS128.apart (show IsS128 w _ g165 x166000_1 x166001_1 x166002_1 from by repeat (first | (with_reducible first | exact HI165.out | apply IsS128.alloc | apply IsS128.drewN | apply IsS128.drew | apply IsS128.set_0 | apply IsS128.set_1 | apply IsS128.set_2 | refine IsS128.far ?_ NB165_161.out _ | refine IsS128.far ?_ NB165_174.out _) | exact HI165.out)) (ra_ HO_175001.out) (by decide)) hk (fun _ h => h.2)) (fun _ h => h.1)); have n1_ := Aside0.mk (KeepBut.blk hk (g' := gb161) (o := .cells #[.int .i64 0, .slice none 0 0, .int .i64 0] 24 (0, 0)) (by (with_reducible repeat (first | refine blk_drewN ?_ _ | refine blk_drew ?_ | refine blk_alloc ?_ _)); exact BK161.out) NB161_165.out (by simp)); have n2_ := Aside0.mk (KeepBut.blk hk (g' := gb174) (o := .cells #[.int .i64 t166, u175001, .int .i64 t170] 24 (0, 0)) (by (with_reducible repeat (first | refine blk_drewN ?_ _ | refine blk_drew ?_ | refine blk_alloc ?_ _)); exact BK174.out) NB174_165.out (by simp)); have n3_ := Aside0.mk (hb); have n4_ := Aside0.mk (hi); clear HO_175001; clear BK161; clear BK174; clear HB; clear HI165; have HO_175001 := n0_; have BK161 := n1_; have BK174 := n2_; have HB := n3_; have HI165 := n4_; clear n0_ n1_ n2_ n3_ n4_; have hnb62 := NB174_161.out; have hnc62 := NB161_174.out; have hnb63 := NB174_165.out; have hnc63 := NB165_174.out; have hcz64_0 : w61.cell? ⟨gb174, 0, none⟩ = some (.int .i64 t166) := (blk_cell BK174.out 0).trans rfl; have hcz64_1 : w61.cell? ⟨gb174, 1, none⟩ = some (u175001) := (blk_cell BK174.out 1).trans rfl; have hcz64_2 : w61.cell? ⟨gb174, 2, none⟩ = some (.int .i64 t170) := (blk_cell BK174.out 2).trans rfl; have hfz64_0 := blk_frozen BK174.out 0; have hfz64_1 := blk_frozen BK174.out 1; have hfz64_2 := blk_frozen BK174.out 2; obtain ⟨Ao65, co65, eo65⟩ := Kd.R_slice HO_175001.out; subst eo65) | (go_at_call 21; (with_reducible refine (group_Check.calls k1 t166 _ _ x175001_1 t170 t194 _ ?side1 ?side2 A50.out).mono ?_); (case side1 => exact ca_ (Kd.R_reads' HO_175001.out).2.2); (case side2 => exact (Kd.R_reads' HO_175001.out).2.1); rintro e w66 ⟨rfl, hb⟩; have n0_ := Aside0.mk (Kd.R_below (ra_ HO_175001.out) hb); have n1_ := Aside0.mk (blk_below (g := gb161) (o := .cells #[.int .i64 0, .slice none 0 0, .int .i64 0] 24 (0, 0)) (by (with_reducible repeat (first | refine blk_drewN ?_ _ | refine blk_drew ?_ | refine blk_alloc ?_ _)); exact BK161.out) hb); have n2_ := Aside0.mk (blk_below (g := gb174) (o := .cells #[.int .i64 t166, .slice Ao65 x175001_1.length co65, .int .i64 t170] 24 (0, 0)) (by (with_reducible repeat (first | refine blk_drewN ?_ _ | refine blk_drew ?_ | refine blk_alloc ?_ _)); exact BK174.out) hb); have n3_ := Aside0.mk (IsS128.below (by repeat (first | (with_reducible first | exact HI165.out | apply IsS128.alloc | apply IsS128.drewN | apply IsS128.drew | apply IsS128.set_0 | apply IsS128.set_1 | apply IsS128.set_2 | refine IsS128.far ?_ NB165_161.out _ | refine IsS128.far ?_ NB165_174.out _) | exact HI165.out)) hb); have n4_ := Aside0.mk (below_step (by repeat (first | (with_reducible first | exact HB.out | apply below_alloc | apply pw_below_drewN | apply below_drew1 | refine below_set ?_ (IsS128.ge HI165.out) | refine below_set ?_ GE161.out | refine below_set ?_ GE174.out) | exact HB.out)) hb); clear HO_175001; clear BK161; clear BK174; clear HI165; clear HB; have HO_175001 := n0_; have BK161 := n1_; have BK174 := n2_; have HI165 := n3_; have HB := n4_; clear n0_ n1_ n2_ n3_ n4_; have hnb67 := NB161_165.out; have hnc67 := NB165_161.out; have hcz68_0 : w66.cell? ⟨gb161, 0, none⟩ = some (.int .i64 0) := (blk_cell BK161.out 0).trans rfl; have hcz68_1 : w66.cell? ⟨gb161, 1, none⟩ = some (.slice none 0 0) := (blk_cell BK161.out 1).trans rfl; have hcz68_2 : w66.cell? ⟨gb161, 2, none⟩ = some (.int .i64 0) := (blk_cell BK161.out 2).trans rfl; have hfz68_0 := blk_frozen BK161.out 0; have hfz68_1 := blk_frozen BK161.out 1; have hfz68_2 := blk_frozen BK161.out 2))
              refine bodyPost_ret (results_ct rfl _ _ gb161 24 #[.int .i64 0, .slice none 0 0, .int .i64 0] (0, 0) _ rfl (by (with_reducible repeat (first | refine blk_drewN ?_ _ | refine blk_drew ?_ | refine blk_alloc ?_ _)); refine blk_put (cs := #[.int .i64 0, .slice none 0 0, .int .i64 0]) ?_ 2 _ rfl; (with_reducible repeat (first | refine blk_drewN ?_ _ | refine blk_drew ?_ | refine blk_alloc ?_ _)); refine blk_put (cs := #[.int .i64 0, .slice none 0 0, .int .i64 0]) ?_ 1 _ rfl; (with_reducible repeat (first | refine blk_drewN ?_ _ | refine blk_drew ?_ | refine blk_alloc ?_ _)); refine blk_put (cs := #[.int .i64 0, .slice none 0 0, .int .i64 0]) ?_ 0 _ rfl; (with_reducible repeat (first | refine blk_drewN ?_ _ | refine blk_drew ?_ | refine blk_alloc ?_ _)); exact BK161.out) Tryd.underlying24 rfl (by kernel_rfl)) rfl ?_; exact ⟨_, ew_, by first | exact Kd.R_nil _ _ _ _ _ | exact Kd.N_nil _ _ _ _ _ | exact Kd.V_nil _ _ _ _ _ | exact Kd.Q_nil _ _ _ _ _ | exact Kd.S_nil _ _ _ _ _, by repeat (first | (with_reducible first | exact HB.out | apply below_alloc | apply pw_below_drewN | apply below_drew1 | refine below_set ?_ (IsS128.ge HI165.out) | refine below_set ?_ GE161.out | refine below_set ?_ GE174.out) | exact HB.out)⟩
          · rw [if_neg c49] at H; have c49b0 : (t190 == 0) = false := beq_eq_false_iff_ne.mpr c49; have c49b1 : (t190 != 0) = true := bne_iff_ne.mpr c49; simp only [Option.some.injEq, Prod.mk.injEq] at H; obtain ⟨rfl, rfl, rfl, rfl⟩ := H; go_wp2_with (first | (go_at_call 66; (with_reducible refine (code_In_Done.calls g165 x166000_1 x166001_1 x166002_1 t190 t191 t192 t193 w _ ?side1 ?side2 A48.out).mono ?_); (case side1 => repeat (first | (with_reducible first | exact HI165.out | apply IsS128.alloc | apply IsS128.drewN | apply IsS128.drew | apply IsS128.set_0 | apply IsS128.set_1 | apply IsS128.set_2 | refine IsS128.far ?_ NB165_161.out _ | refine IsS128.far ?_ NB165_174.out _) | exact HI165.out)); (case side2 => repeat (first | (with_reducible first | exact HB.out | apply below_alloc | apply pw_below_drewN | apply below_drew1 | refine below_set ?_ (IsS128.ge HI165.out) | refine below_set ?_ GE161.out | refine below_set ?_ GE174.out) | exact HB.out)); rintro e w69 ⟨rfl, hi, hb, hk⟩; have n0_ := Aside0.mk (Kd.R_mono (Kd.R_keep (IsS128.apart (show IsS128 w _ g165 x166000_1 x166001_1 x166002_1 from by repeat (first | (with_reducible first | exact HI165.out | apply IsS128.alloc | apply IsS128.drewN | apply IsS128.drew | apply IsS128.set_0 | apply IsS128.set_1 | apply IsS128.set_2 | refine IsS128.far ?_ NB165_161.out _ | refine IsS128.far ?_ NB165_174.out _) | exact HI165.out)) (ra_ HO_175001.out) (by decide)) hk (fun _ h => h.2)) (fun _ h => h.1)); have n1_ := Aside0.mk (KeepBut.blk hk (g' := gb161) (o := .cells #[.int .i64 0, .slice none 0 0, .int .i64 0] 24 (0, 0)) (by (with_reducible repeat (first | refine blk_drewN ?_ _ | refine blk_drew ?_ | refine blk_alloc ?_ _)); exact BK161.out) NB161_165.out (by simp)); have n2_ := Aside0.mk (KeepBut.blk hk (g' := gb174) (o := .cells #[.int .i64 t166, u175001, .int .i64 t170] 24 (0, 0)) (by (with_reducible repeat (first | refine blk_drewN ?_ _ | refine blk_drew ?_ | refine blk_alloc ?_ _)); exact BK174.out) NB174_165.out (by simp)); have n3_ := Aside0.mk (hb); have n4_ := Aside0.mk (hi); clear HO_175001; clear BK161; clear BK174; clear HB; clear HI165; have HO_175001 := n0_; have BK161 := n1_; have BK174 := n2_; have HB := n3_; have HI165 := n4_; clear n0_ n1_ n2_ n3_ n4_; have hnb70 := NB161_174.out; have hnc70 := NB174_161.out; have hnb71 := NB161_165.out; have hnc71 := NB165_161.out; have hcz72_0 : w69.cell? ⟨gb161, 0, none⟩ = some (.int .i64 0) := (blk_cell BK161.out 0).trans rfl; have hcz72_1 : w69.cell? ⟨gb161, 1, none⟩ = some (.slice none 0 0) := (blk_cell BK161.out 1).trans rfl; have hcz72_2 : w69.cell? ⟨gb161, 2, none⟩ = some (.int .i64 0) := (blk_cell BK161.out 2).trans rfl; have hfz72_0 := blk_frozen BK161.out 0; have hfz72_1 := blk_frozen BK161.out 1; have hfz72_2 := blk_frozen BK161.out 2))
            refine bodyPost_ret (results_ct rfl _ _ gb161 24 #[.int .i64 0, .slice none 0 0, .int .i64 0] (0, 0) _ rfl (by (with_reducible repeat (first | refine blk_drewN ?_ _ | refine blk_drew ?_ | refine blk_alloc ?_ _)); refine blk_put (cs := #[.int .i64 0, .slice none 0 0, .int .i64 0]) ?_ 2 _ rfl; (with_reducible repeat (first | refine blk_drewN ?_ _ | refine blk_drew ?_ | refine blk_alloc ?_ _)); refine blk_put (cs := #[.int .i64 0, .slice none 0 0, .int .i64 0]) ?_ 1 _ rfl; (with_reducible repeat (first | refine blk_drewN ?_ _ | refine blk_drew ?_ | refine blk_alloc ?_ _)); refine blk_put (cs := #[.int .i64 0, .slice none 0 0, .int .i64 0]) ?_ 0 _ rfl; (with_reducible repeat (first | refine blk_drewN ?_ _ | refine blk_drew ?_ | refine blk_alloc ?_ _)); exact BK161.out) Tryd.underlying24 rfl (by kernel_rfl)) rfl ?_; exact ⟨_, ew_, by first | exact Kd.R_nil _ _ _ _ _ | exact Kd.N_nil _ _ _ _ _ | exact Kd.V_nil _ _ _ _ _ | exact Kd.Q_nil _ _ _ _ _ | exact Kd.S_nil _ _ _ _ _, by repeat (first | (with_reducible first | exact HB.out | apply below_alloc | apply pw_below_drewN | apply below_drew1 | refine below_set ?_ (IsS128.ge HI165.out) | refine below_set ?_ GE161.out | refine below_set ?_ GE174.out) | exact HB.out)⟩
        · replace c47 := Bool.eq_false_iff.mpr c47; subst c47; have H1 : (some (0, ([] : List (S46)), 0, 91)) = some (r1, r2, r3, r4) := by rw [if_neg (show ¬ (false = true) by decide)] at H; exact H
          clear H; have H := H1; clear H1; simp only [Option.some.injEq, Prod.mk.injEq] at H; obtain ⟨rfl, rfl, rfl, rfl⟩ := H; have hnb73 := NB161_174.out; have hnc73 := NB174_161.out; have hnb74 := NB161_165.out; have hnc74 := NB165_161.out; have hcz75_0 : wr.cell? ⟨gb161, 0, none⟩ = some (.int .i64 0) := (blk_cell BK161.out 0).trans rfl; have hcz75_1 : wr.cell? ⟨gb161, 1, none⟩ = some (.slice none 0 0) := (blk_cell BK161.out 1).trans rfl; have hcz75_2 : wr.cell? ⟨gb161, 2, none⟩ = some (.int .i64 0) := (blk_cell BK161.out 2).trans rfl; have hfz75_0 := blk_frozen BK161.out 0; have hfz75_1 := blk_frozen BK161.out 1; have hfz75_2 := blk_frozen BK161.out 2; go_wp2; refine bodyPost_ret (results_ct rfl _ _ gb161 24 #[.int .i64 0, .slice none 0 0, .int .i64 0] (0, 0) _ rfl (by (with_reducible repeat (first | refine blk_drewN ?_ _ | refine blk_drew ?_ | refine blk_alloc ?_ _)); refine blk_put (cs := #[.int .i64 0, .slice none 0 0, .int .i64 0]) ?_ 2 _ rfl; (with_reducible repeat (first | refine blk_drewN ?_ _ | refine blk_drew ?_ | refine blk_alloc ?_ _)); refine blk_put (cs := #[.int .i64 0, .slice none 0 0, .int .i64 0]) ?_ 1 _ rfl; (with_reducible repeat (first | refine blk_drewN ?_ _ | refine blk_drew ?_ | refine blk_alloc ?_ _)); refine blk_put (cs := #[.int .i64 0, .slice none 0 0, .int .i64 0]) ?_ 0 _ rfl; (with_reducible repeat (first | refine blk_drewN ?_ _ | refine blk_drew ?_ | refine blk_alloc ?_ _)); exact BK161.out) Tryd.underlying24 rfl (by kernel_rfl)) rfl ?_; exact ⟨_, ew_, by first | exact Kd.R_nil _ _ _ _ _ | exact Kd.N_nil _ _ _ _ _ | exact Kd.V_nil _ _ _ _ _ | exact Kd.Q_nil _ _ _ _ _ | exact Kd.S_nil _ _ _ _ _, by repeat (first | (with_reducible first | exact HB.out | apply below_alloc | apply pw_below_drewN | apply below_drew1 | refine below_set ?_ (IsS128.ge HI165.out) | refine below_set ?_ GE161.out | refine below_set ?_ GE174.out) | exact HB.out)⟩
end Go.Proofs.YthemhfloablccaaDoor.Pr
end

section
namespace Go.Proofs.YthemhfloablccaaDoor.Pr
open Go.RowKit Go.Deep Go.Proofs.YthemhfloablccaaDoorW.PrintWords Go.Proofs.YthemhfloablccaaDoorW.PrintLast Go.Proofs.YthemhfloablccaaDoorW.PrintMore
set_option maxHeartbeats 2000000
def okM (k : Nat) (m : Mem) : Bool := decide (m.f0 = (k : Int) + 1 ∧ 0 ≤ m.f1 ∧ m.f1 ≤ 1099511627775)
def okMs : Nat → List Mem → Bool
 | _, [] => true
 | k, m :: l => okM k m && okMs (k + 1) l
def okG (E : Int) (l : List Mem) (O : Int) : Bool := decide (1 ≤ E ∧ E ≤ 1099511627775 ∧ 0 ≤ O ∧ O ≤ 500 ∧ l.length = 6) && (okMs 0 l && (l.headD ⟨0, 0, false⟩).f2)
theorem rd_at (l : List Mem) (j : Nat) (m : Mem) (h : l[j]? = some m) : rd_T46 l (j : Int) = m := rd_mem l j m h
theorem check_l0 (E : Int) (l : List Mem) (O : Int) (hl : l.length ≤ 1000) : ∀ (d j k : Nat) (b : Bool), j + d = l.length → d < k → (b = true → l.length = 6) →
    group_Check.l0 k b l (l.length : Int) (j : Int) E l O = some (if (b && okMs j (l.drop j) && (l.headD ⟨0, 0, false⟩).f2) = true then 0 else 1)
  | 0, j, k + 1, b, hj, _, hb => by
    have e : l.drop j = [] := List.drop_eq_nil_of_le (by omega)
    simp only [group_Check.l0]
    rw [if_neg (by omega), e]
    cases b with
    | false => rw [if_neg (by decide)]; simp
    | true =>
      rw [if_pos rfl]
      have h6 := hb rfl
      obtain ⟨m, r, rfl⟩ : ∃ m r, l = m :: r := by cases l with | nil => simp at h6 | cons m r => exact ⟨m, r, rfl⟩
      have e0 : rd_T46 (m :: r) 0 = m := rd_at (m :: r) 0 m rfl
      rw [if_pos (by simp), e0]
      cases hm : m.f2 <;> simp [okMs, hm]
  | d + 1, j, k + 1, b, hj, hk, hb => by
    have hlt : j < l.length := by omega
    have hx := List.getElem?_eq_getElem hlt
    generalize l[j] = m at hx
    have e1 : wrap64 ((j : Int) + 1) = ((j + 1 : Nat) : Int) := by unfold wrap64; omega
    have ed : l.drop j = m :: l.drop (j + 1) := by rw [List.drop_eq_getElem_cons hlt]; congr 1; rw [List.getElem?_eq_getElem hlt] at hx; exact Option.some.inj hx
    have ih := fun b' => check_l0 E l O hl d (j + 1) k b' (by omega) (by omega)
    simp only [group_Check.l0]
    rw [if_pos (by omega), if_pos (by omega), if_pos (by omega), rd_at l j m hx, e1, ed]
    cases b with
    | false =>
      rw [if_neg (by decide), ih false (fun h => by cases h)]
      simp
    | true =>
      rw [if_pos rfl]
      by_cases h1 : m.f0 = ((j + 1 : Nat) : Int)
      · rw [if_pos h1]
        by_cases h2 : m.f1 ≥ 0
        · rw [if_pos h2]
          by_cases h3 : m.f1 ≤ 1099511627775
          · rw [decide_eq_true h3, ih true hb]
            have : okM j m = true := decide_eq_true ⟨by omega, h2, h3⟩
            simp [okMs, this]
          · rw [decide_eq_false h3, ih false (fun h => by cases h)]
            have : okM j m = false := decide_eq_false (fun q => h3 q.2.2)
            simp [okMs, this]
        · rw [if_neg h2, ih false (fun h => by cases h)]
          have : okM j m = false := decide_eq_false (fun q => h2 q.2.1)
          simp [okMs, this]
      · rw [if_neg h1, ih false (fun h => by cases h)]
        have : okM j m = false := decide_eq_false (fun q => h1 (by omega))
        simp [okMs, this]
theorem check_f (E : Int) (l : List Mem) (O : Int) (hl : l.length ≤ 1000) (k : Nat) (hk : l.length + 2 ≤ k) : group_Check.f k E l O = some (if okG E l O = true then 0 else 1) := by
 obtain ⟨k, rfl⟩ : ∃ m, k = m + 1 := ⟨k - 1, by omega⟩
 have h := fun b hb => check_l0 E l O hl l.length 0 k b (by omega) (by omega) hb
 have hF : group_Check.j0 (k + 1) false E l O = some 1 := by
  simp only [group_Check.j0]
  have := h false (fun q => by cases q)
  simpa using this
 unfold group_Check.f okG
 by_cases h1 : E ≥ 1
 ·rw [if_pos h1]
  by_cases h2 : E ≤ 1099511627775
  ·rw [if_pos h2]
   by_cases h3 : O ≥ 0
   ·rw [if_pos h3]
    by_cases h4 : O ≤ 500
    ·rw [if_pos h4]
     simp only [group_Check.j0]
     by_cases h5 : l.length = 6
     ·have e5 : ((l.length : Int) == 6) = true := by rw [h5]; rfl
      rw [e5]
      have := h true (fun _ => h5)
      rw [decide_eq_true (show 1 ≤ E ∧ E ≤ 1099511627775 ∧ 0 ≤ O ∧ O ≤ 500 ∧ l.length = 6 from ⟨h1, h2, h3, h4, h5⟩)]
      simpa using this
     ·have e5 : ((l.length : Int) == 6) = false := beq_eq_false_iff_ne.2 (by omega)
      rw [e5, decide_eq_false (fun q => h5 q.2.2.2.2)]
      have := h false (fun q => by cases q)
      simpa using this
    ·rw [if_neg h4, hF, decide_eq_false (fun q => h4 q.2.2.2.1)]; rfl
   ·rw [if_neg h3, hF, decide_eq_false (fun q => h3 q.2.2.1)]; rfl
  ·rw [if_neg h2, hF, decide_eq_false (fun q => h2 q.2.1)]; rfl
 ·rw [if_neg h1, hF, decide_eq_false (fun q => h1 q.1)]; rfl
theorem okMs_all : ∀ (l : List Mem) (k : Nat), okMs k l = true → ∀ m ∈ l, 0 ≤ m.f1 ∧ m.f1 ≤ 1099511627775
  | [], _, _, m, h => by cases h
  | x :: l, k, hk, m, h => by
    simp only [okMs, Bool.and_eq_true] at hk
    rcases List.mem_cons.1 h with rfl | h
    · exact (of_decide_eq_true hk.1).2
    · exact okMs_all l (k + 1) hk.2 m h
end Go.Proofs.YthemhfloablccaaDoor.Pr
end

section
namespace Go.Proofs.YthemhfloablccaaDoor.Pr
open Go.RowKit Go.Deep Go.Proofs.YthemhfloablccaaDoorW.PrintWords Go.Proofs.YthemhfloablccaaDoorW.PrintLast Go.Proofs.YthemhfloablccaaDoorW.PrintMore
set_option maxHeartbeats 4000000
def DAt (w0 : World) (gb g cap ob : Nat) (ov : Obj) (E : Int) (l : List Mem) (O : Int) (rb : Nat) (rv : Array Value) (w : World) : Prop :=
 GrpAt w0 gb g cap ob ov E l O w ∧ w.heap[rb]? = some (.cells rv 31 (0, 0))
section
variable {w0 w w' : World} {gb g cap rb ob : Nat} {ov : Obj} {E O : Int} {l : List Mem} {rv : Array Value}
theorem DAt.below (h : DAt w0 gb g cap ob ov E l O rb rv w) (hb : Below w.heap.size w w') : DAt w0 gb g cap ob ov E l O rb rv w' := ⟨h.1.below hb, blk_below h.2 hb⟩
theorem DAt.frozen (h : DAt w0 gb g cap ob ov E l O rb rv w) : w.frozen? ⟨gb, 0, none⟩ = false ∧ w.frozen? ⟨gb, 2, none⟩ = false ∧ ∀ j, w.frozen? ⟨g, j, none⟩ = false := by
 refine ⟨blk_frozen h.1.2.1 0, blk_frozen h.1.2.1 2, fun j => ?_⟩
 obtain ⟨cs, hh, _⟩ := h.1.2.2.1
 exact blk_frozen hh j
end
section
variable {w0 w : World} {gb g cap rb ob : Nat} {ov : Obj} {E O : Int} {l : List Mem} {kind frm count seq : Int} {head : ByteArray} {o0 o1 o2 o3 o4 o5 o6 : Int} {o7 o8 : ByteArray} {who : Int} {wv : Value}
theorem DAt.cells (h : DAt w0 gb g cap ob ov E l O rb (RecV kind frm count seq head o0 o1 o2 o3 o4 o5 o6 o7 o8 who wv) w) :
  w.cell? ⟨gb, 0, none⟩ = some (.int .i64 E) ∧ w.cell? ⟨gb, 1, none⟩ = some (.slice (some ⟨g, 0, none⟩) l.length cap) ∧ w.cell? ⟨gb, 2, none⟩ = some (.int .i64 O) ∧
  w.cell? ⟨rb, 0, none⟩ = some (.int .i64 kind) ∧ w.cell? ⟨rb, 1, none⟩ = some (.int .i64 frm) ∧ w.cell? ⟨rb, 14, none⟩ = some (.int .i64 who) :=
 ⟨h.1.cells.1, h.1.cells.2.1, h.1.cells.2.2, (blk_cell h.2 0).trans rfl, (blk_cell h.2 1).trans rfl, (blk_cell h.2 14).trans rfl⟩
end
set_option maxRecDepth 100000 in
theorem does_calls (w0 : World) (gb g cap ob : Nat) (ov : Obj) (E O ep : Int) (l : List Mem) (kind frm count seq : Int) (head : ByteArray) (o0 o1 o2 o3 o4 o5 o6 : Int) (o7 o8 : ByteArray) (who : Int) (wv : Value) (w : World)
  (hG : GrpAt w0 gb g cap ob ov E l O w) (hl : l.length = 6) (hE : 1 ≤ E ∧ E ≤ 1099511627775) (hO : 0 ≤ O ∧ O ≤ 500) (hw : kind = 2 ∨ kind = 3 → 1 ≤ who ∧ who ≤ 6) (hk : 1 ≤ kind ∧ kind ≤ 4) :
  Calls Tryd.prog 48 #[.pointer (some ⟨gb, 0, none⟩), .int .i64 ep, .agg (RecV kind frm count seq head o0 o1 o2 o3 o4 o5 o6 o7 o8 who wv)] w fun e w' =>
   e = .returned (.bool (doesM E l O ep kind frm who).2.2.2) ∧ GrpAt w0 gb g cap ob ov (doesM E l O ep kind frm who).1 (doesM E l O ep kind frm who).2.1 (doesM E l O ep kind frm who).2.2.1 w' := by
 have HG := Aside0.mk hG
 have hm : l.length ≤ 1000000 := by omega
 have HI := Aside0.mk (fun (W : World) (h : GrpAt w0 gb g cap ob ov E l O W) (x : Int) => in_at h hm x)
 have HL := Aside0.mk hl
 have HE := Aside0.mk hE
 have HO := Aside0.mk hO
 have HW := Aside0.mk hw
 have HK := Aside0.mk hk
 have HD0 := Aside0.mk (show DAt w0 gb g cap ob ov E l O w.heap.size (RecV kind frm count seq head o0 o1 o2 o3 o4 o5 o6 o7 o8 who wv) (w.alloc (.cells (RecV kind frm count seq head o0 o1 o2 o3 o4 o5 o6 o7 o8 who wv) 31)) from ⟨hG.below (below_alloc (Below.refl _ _) _), heap_alloc_new w _⟩)
 clear hm hG hl hE hO hw HG hk
 go_enter Tryd.func48, Tryd.ntmps48
 go_upto_block 0 with (fail)
 generalize w.alloc (.cells (RecV kind frm count seq head o0 o1 o2 o3 o4 o5 o6 o7 o8 who wv) 31) = w1 at HD0 ⊢
 generalize w.heap.size = rb at HD0 ⊢
 go_cut [7] (fun s wx => Aside0 (frm = 1 ∧ ep = E ∧ E < 1099511627775 ∧ kind ≠ 1 ∧ ¬ (l.any (isM frm) = false) ∧ (kind = 2 → l.any (isM who) = false) ∧ (kind = 3 → who ≠ 1 ∧ l.any (isM who) = true)) ∧ Aside0 (DAt w0 gb g cap ob ov E l O rb (RecV kind frm count seq head o0 o1 o2 o3 o4 o5 o6 o7 o8 who wv) wx))
 case first =>
  go_upto_region 1 with (fail)
  go_cut [7] (fun s wx => s = .bool (!(l.any (isM frm))) ∧ Aside0 (DAt w0 gb g cap ob ov E l O rb (RecV kind frm count seq head o0 o1 o2 o3 o4 o5 o6 o7 o8 who wv) wx))
  case first =>
   obtain ⟨x0, x1, x2, y0, y1, y2⟩ := HD0.out.cells
   have HDD := Aside0.mk (HD0.out.below (below_drew1 (Below.refl _ _)))
   have HGG := Aside0.mk HDD.out.1
   go_region_held3 (fun w' => w'.cell? ⟨gb, 0, none⟩ = some (.int .i64 E) ∧ w'.cell? ⟨gb, 1, none⟩ = some (.slice (some ⟨g, 0, none⟩) l.length cap) ∧ w'.cell? ⟨gb, 2, none⟩ = some (.int .i64 O) ∧ w'.cell? ⟨rb, 1, none⟩ = some (.int .i64 frm))
    (first | go_keep | exact ⟨x0, x1, x2, y1⟩)
    (first | (go_at_call 23; (with_reducible refine (HI.out _ HGG.out frm).mono ?_); rintro e2 w2 ⟨rfl, hg2, hb2⟩; have HD2 := Aside0.mk (HDD.out.below hb2); clear hg2 hb2 x0 x1 x2 y0 y1 y2; obtain ⟨x0, x1, x2, y0, y1, y2⟩ := HD2.out.cells))
   go_wp2_with (fail)
   go_meet
   exact ⟨rfl, HD2⟩
  case rest =>
   obtain ⟨rfl, HD⟩ := hcut
   clear HD0
   obtain ⟨x0, x1, x2, y0, y1, y2⟩ := HD.out.cells
   cases hi : l.any (isM frm)
   ·have hv : doesM E l O ep kind frm who = (E, l, O, false) := by unfold doesM; rw [if_pos hi]
    have HV := Aside0.mk hv
    clear hv hi
    go_wp2_with (fail)
    go_ret
    (rw [HV.out]; exact ⟨rfl, HD.out.1⟩)
   ·have hi' : ¬ (l.any (isM frm) = false) := by rw [hi]; decide
    by_cases h1 : kind = 1
    ·subst h1
     by_cases hO : O < 500
     ·have hv : doesM E l O ep 1 frm who = (E, l, O + 1, true) := by unfold doesM; rw [if_neg hi', if_pos rfl, if_pos hO]
      have HV := Aside0.mk hv
      have d1 : decide (O < 500) = true := decide_eq_true hO
      have e1 : wrap64 (O + 1) = O + 1 := by have := HO.out; unfold wrap64; omega
      obtain ⟨z0, z1, z2⟩ := HD.out.frozen
      have HF := Aside0.mk (HD.out.1.setO (O + 1))
      clear hv hi hi' hO z2
      go_wp2_with (fail)
      go_ret
      (rw [HV.out]; exact ⟨rfl, HF.out⟩)
     ·have hv : doesM E l O ep 1 frm who = (E, l, O, false) := by unfold doesM; rw [if_neg hi', if_pos rfl, if_neg hO]
      have HV := Aside0.mk hv
      have d1 : decide (O < 500) = false := decide_eq_false hO
      clear hv hi hi' hO
      go_wp2_with (fail)
      go_ret
      (rw [HV.out]; exact ⟨rfl, HD.out.1⟩)
    ·have d1 : (kind == 1) = false := beq_eq_false_iff_ne.2 h1
     by_cases hc : frm ≠ 1 ∨ ep ≠ E ∨ 1099511627775 ≤ E
     ·have hv : doesM E l O ep kind frm who = (E, l, O, false) := by unfold doesM; rw [if_neg hi', if_neg h1, if_pos hc]
      have HV := Aside0.mk hv
      clear hv
      by_cases h2 : frm = 1
      ·have d2 : (frm != 1) = false := by rw [h2]; rfl
       by_cases h3 : ep = E
       ·have d3 : (ep != E) = false := by rw [h3]; exact bne_self_eq_false E
        have d4 : decide (1099511627775 ≤ E) = true := decide_eq_true (by omega)
        clear hc h1 h2 h3 hi hi'
        go_wp2_with (fail)
        go_ret
        (rw [HV.out]; exact ⟨rfl, HD.out.1⟩)
       ·have d3 : (ep != E) = true := bne_iff_ne.2 h3
        clear hc h1 h2 h3 hi hi'
        go_wp2_with (fail)
        go_ret
        (rw [HV.out]; exact ⟨rfl, HD.out.1⟩)
      ·have d2 : (frm != 1) = true := bne_iff_ne.2 h2
       clear hc h1 h2 hi hi'
       go_wp2_with (fail)
       go_ret
       (rw [HV.out]; exact ⟨rfl, HD.out.1⟩)
     ·obtain ⟨h2, h3, h4⟩ : frm = 1 ∧ ep = E ∧ E < 1099511627775 := by omega
      subst h2 h3
      have d4 : decide (1099511627775 ≤ ep) = false := decide_eq_false (by omega)
      have e1 : wrap64 (ep + 1) = ep + 1 := by have := HE.out; unfold wrap64; omega
      have D1 := Aside0.mk d1
      have HC := Aside0.mk hc
      have H1 := Aside0.mk h1
      have HI1 := Aside0.mk hi'
      have E1 := Aside0.mk e1
      have HX := Aside0.mk h4
      have HIW := Aside0.mk (fun W h => HI.out W h who)
      clear hc h1 hi hi' h4 e1
      go_upto_region 8 with (fail)
      clear d4
      by_cases k2 : kind = 2
      ·subst k2
       cases hi2 : l.any (isM who)
       ·have I2 := Aside0.mk hi2
        rw [hi2] at HIW
        clear hi2
        have HDD := Aside0.mk (HD.out.below (below_drew1 (Below.refl _ _)))
        have HGG := Aside0.mk HDD.out.1
        go_region_held3 (fun w' => w'.cell? ⟨gb, 0, none⟩ = some (.int .i64 ep) ∧ w'.cell? ⟨gb, 1, none⟩ = some (.slice (some ⟨g, 0, none⟩) l.length cap) ∧ w'.cell? ⟨gb, 2, none⟩ = some (.int .i64 O) ∧ w'.cell? ⟨rb, 0, none⟩ = some (.int .i64 2) ∧ w'.cell? ⟨rb, 14, none⟩ = some (.int .i64 who))
         (first | go_keep | exact ⟨x0, x1, x2, y0, y2⟩)
         (first | (go_at_call 23; (with_reducible refine (HIW.out _ HGG.out).mono ?_); rintro e2 w2 ⟨rfl, hg2, hb2⟩; have HD2 := Aside0.mk (HDD.out.below hb2); clear hg2 hb2 x0 x1 x2 y0 y1 y2; obtain ⟨x0, x1, x2, y0, y1, y2⟩ := HD2.out.cells))
        clear HDD HGG HD
        go_upto_region 9 with (fail)
        refine start_ (n := 18) (S := fun w' => w'.cell? ⟨rb, 0, none⟩ = some (.int .i64 2) ∧ w'.cell? ⟨rb, 14, none⟩ = some (.int .i64 who)) (ds := []) #[false, false, false, false, false, false, false, false, false, false, false, false, false, false, false, false, false, false] (by kernel_rfl) rfl rfl ⟨y0, y2⟩ (fun hHeld => ?_)
        refine pz_ 0 69 rfl rfl (by kernel_rfl) ?_
        refine take_ (i := 1) (N := some 70) (v := ?_) (a' := ?_) #[true, true, false, false, false, false, false, false, false, false, false, false, false, false, false, false, false, false] rfl rfl (by kernel_rfl) (fun _ _ _ h => h) (Or.inl ⟨by rfl, ?_⟩) hHeld ?_ ?_
        rotate_left
        ·rintro w' ⟨s0, s1⟩
         go_simp
         with_reducible rfl
        rotate_left
        ·simp only [Act.put, List.setIfInBounds_toArray, List.set_cons_zero, List.set_cons_succ, i64_w, i32_w]
         rfl
        refine pz_ 2 71 rfl rfl (by kernel_rfl) ?_
        refine pz_ 3 72 rfl rfl (by kernel_rfl) ?_
        refine pure_ (i := 4) (N := some 73) (v := undef) (a' := ?_) #[true, true, true, true, true, false, false, false, false, false, false, false, false, false, false, false, false, false] rfl rfl (by kernel_rfl) (fun _ _ _ h => h) (Or.inr ⟨by rfl, rfl⟩) ?_ ?_
        rotate_left
        ·simp only [Act.put, List.setIfInBounds_toArray, List.set_cons_zero, List.set_cons_succ, i64_w, i32_w]
         rfl
        refine pure_ (i := 5) (N := some 74) (v := undef) (a' := ?_) #[true, true, true, true, true, true, false, false, false, false, false, false, false, false, false, false, false, false] rfl rfl (by kernel_rfl) (fun _ _ _ h => h) (Or.inr ⟨by rfl, rfl⟩) ?_ ?_
        rotate_left
        ·simp only [Act.put, List.setIfInBounds_toArray, List.set_cons_zero, List.set_cons_succ, i64_w, i32_w]
         rfl
        refine pure_ (i := 6) (N := some 75) (v := undef) (a' := ?_) #[true, true, true, true, true, true, true, false, false, false, false, false, false, false, false, false, false, false] rfl rfl (by kernel_rfl) (fun _ _ _ h => h) (Or.inr ⟨by rfl, rfl⟩) ?_ ?_
        rotate_left
        ·simp only [Act.put, List.setIfInBounds_toArray, List.set_cons_zero, List.set_cons_succ, i64_w, i32_w]
         rfl
        refine pure_ (i := 7) (N := some 76) (v := undef) (a' := ?_) #[true, true, true, true, true, true, true, true, false, false, false, false, false, false, false, false, false, false] rfl rfl (by kernel_rfl) (fun _ _ _ h => h) (Or.inr ⟨by rfl, rfl⟩) ?_ ?_
        rotate_left
        ·simp only [Act.put, List.setIfInBounds_toArray, List.set_cons_zero, List.set_cons_succ, i64_w, i32_w]
         rfl
        refine pure_ (i := 8) (N := some 77) (v := undef) (a' := ?_) #[true, true, true, true, true, true, true, true, true, false, false, false, false, false, false, false, false, false] rfl rfl (by kernel_rfl) (fun _ _ _ h => h) (Or.inr ⟨by rfl, rfl⟩) ?_ ?_
        rotate_left
        ·simp only [Act.put, List.setIfInBounds_toArray, List.set_cons_zero, List.set_cons_succ, i64_w, i32_w]
         rfl
        refine pure_ (i := 9) (N := some 78) (v := undef) (a' := ?_) #[true, true, true, true, true, true, true, true, true, true, false, false, false, false, false, false, false, false] rfl rfl (by kernel_rfl) (fun _ _ _ h => h) (Or.inr ⟨by rfl, rfl⟩) ?_ ?_
        rotate_left
        ·simp only [Act.put, List.setIfInBounds_toArray, List.set_cons_zero, List.set_cons_succ, i64_w, i32_w]
         rfl
        refine pure_ (i := 10) (N := some 79) (v := undef) (a' := ?_) #[true, true, true, true, true, true, true, true, true, true, true, false, false, false, false, false, false, false] rfl rfl (by kernel_rfl) (fun _ _ _ h => h) (Or.inr ⟨by rfl, rfl⟩) ?_ ?_
        rotate_left
        ·simp only [Act.put, List.setIfInBounds_toArray, List.set_cons_zero, List.set_cons_succ, i64_w, i32_w]
         rfl
        refine pure_ (i := 11) (N := some 80) (v := undef) (a' := ?_) #[true, true, true, true, true, true, true, true, true, true, true, true, false, false, false, false, false, false] rfl rfl (by kernel_rfl) (fun _ _ _ h => h) (Or.inr ⟨by rfl, rfl⟩) ?_ ?_
        rotate_left
        ·simp only [Act.put, List.setIfInBounds_toArray, List.set_cons_zero, List.set_cons_succ, i64_w, i32_w]
         rfl
        refine pure_ (i := 12) (N := some 81) (v := undef) (a' := ?_) #[true, true, true, true, true, true, true, true, true, true, true, true, true, false, false, false, false, false] rfl rfl (by kernel_rfl) (fun _ _ _ h => h) (Or.inr ⟨by rfl, rfl⟩) ?_ ?_
        rotate_left
        ·simp only [Act.put, List.setIfInBounds_toArray, List.set_cons_zero, List.set_cons_succ, i64_w, i32_w]
         rfl
        refine pure_ (i := 13) (N := some 82) (v := undef) (a' := ?_) #[true, true, true, true, true, true, true, true, true, true, true, true, true, true, false, false, false, false] rfl rfl (by kernel_rfl) (fun _ _ _ h => h) (Or.inr ⟨by rfl, rfl⟩) ?_ ?_
        rotate_left
        ·simp only [Act.put, List.setIfInBounds_toArray, List.set_cons_zero, List.set_cons_succ, i64_w, i32_w]
         rfl
        refine pure_ (i := 14) (N := some 83) (v := undef) (a' := ?_) #[true, true, true, true, true, true, true, true, true, true, true, true, true, true, true, false, false, false] rfl rfl (by kernel_rfl) (fun _ _ _ h => h) (Or.inr ⟨by rfl, rfl⟩) ?_ ?_
        rotate_left
        ·simp only [Act.put, List.setIfInBounds_toArray, List.set_cons_zero, List.set_cons_succ, i64_w, i32_w]
         rfl
        refine pure_ (i := 15) (N := some 84) (v := undef) (a' := ?_) #[true, true, true, true, true, true, true, true, true, true, true, true, true, true, true, true, false, false] rfl rfl (by kernel_rfl) (fun _ _ _ h => h) (Or.inr ⟨by rfl, rfl⟩) ?_ ?_
        rotate_left
        ·simp only [Act.put, List.setIfInBounds_toArray, List.set_cons_zero, List.set_cons_succ, i64_w, i32_w]
         rfl
        refine pz_ 16 85 rfl rfl (by kernel_rfl) ?_
        refine pz_ 17 57 rfl rfl (by kernel_rfl) ?_
        refine done_ (by kernel_rfl) ?_
        have HD3 := Aside0.mk (HD2.out.below (below_drew1 (Below.refl _ _)))
        clear x0 x1 x2 y0 y1 y2 HD2
        obtain ⟨x0, x1, x2, y0, y1, y2⟩ := HD3.out.cells
        go_wp2_with (fail)
        go_meet
        exact ⟨⟨trivial, trivial, HX.out, H1.out, HI1.out, fun _ => I2.out, fun q => absurd q (by decide)⟩, HD3⟩
       ·have hv : doesM ep l O ep 2 1 who = (ep, l, O, false) := by unfold doesM; rw [if_neg HI1.out, if_neg (by decide), if_neg HC.out, if_pos rfl, if_pos hi2]
        have HV := Aside0.mk hv
        rw [hi2] at HIW
        clear hv hi2
        have HDD := Aside0.mk (HD.out.below (below_drew1 (Below.refl _ _)))
        have HGG := Aside0.mk HDD.out.1
        go_region_held3 (fun w' => w'.cell? ⟨gb, 0, none⟩ = some (.int .i64 ep) ∧ w'.cell? ⟨gb, 1, none⟩ = some (.slice (some ⟨g, 0, none⟩) l.length cap) ∧ w'.cell? ⟨gb, 2, none⟩ = some (.int .i64 O) ∧ w'.cell? ⟨rb, 0, none⟩ = some (.int .i64 2) ∧ w'.cell? ⟨rb, 14, none⟩ = some (.int .i64 who))
         (first | go_keep | exact ⟨x0, x1, x2, y0, y2⟩)
         (first | (go_at_call 23; (with_reducible refine (HIW.out _ HGG.out).mono ?_); rintro e2 w2 ⟨rfl, hg2, hb2⟩; have HD2 := Aside0.mk (HDD.out.below hb2); clear hg2 hb2 x0 x1 x2 y0 y1 y2; obtain ⟨x0, x1, x2, y0, y1, y2⟩ := HD2.out.cells))
        clear HDD HGG HD
        go_wp2_with (fail)
        go_ret
        (rw [HV.out]; exact ⟨rfl, HD2.out.1⟩)
      ·have d2 : (kind == 2) = false := beq_eq_false_iff_ne.2 k2
       have d1 := D1.out
       refine start_ (n := 12) (S := fun w' => w'.cell? ⟨rb, 0, none⟩ = some (.int .i64 kind) ∧ w'.cell? ⟨rb, 14, none⟩ = some (.int .i64 who)) (ds := []) #[false, false, false, false, false, false, false, false, false, false, false, false] (by kernel_rfl) rfl rfl ⟨y0, y2⟩ (fun hHeld => ?_)
       refine pz_ 0 58 rfl rfl (by kernel_rfl) ?_
       refine take_ (i := 1) (N := some 59) (v := ?_) (a' := ?_) #[true, true, false, false, false, false, false, false, false, false, false, false] rfl rfl (by kernel_rfl) (fun _ _ _ h => h) (Or.inl ⟨by rfl, ?_⟩) hHeld ?_ ?_
       rotate_left
       ·rintro w' ⟨s0, s1⟩
        go_simp
        with_reducible rfl
       rotate_left
       ·simp only [Act.put, List.setIfInBounds_toArray, List.set_cons_zero, List.set_cons_succ, i64_w, i32_w]
        rfl
       refine pz_ 2 60 rfl rfl (by kernel_rfl) ?_
       refine pz_ 3 61 rfl rfl (by kernel_rfl) ?_
       refine pure_ (i := 4) (N := some 62) (v := undef) (a' := ?_) #[true, true, true, true, true, false, false, false, false, false, false, false] rfl rfl (by kernel_rfl) (fun _ _ _ h => h) (Or.inr ⟨by rfl, rfl⟩) ?_ ?_
       rotate_left
       ·simp only [Act.put, List.setIfInBounds_toArray, List.set_cons_zero, List.set_cons_succ, i64_w, i32_w]
        rfl
       refine pure_ (i := 5) (N := some 63) (v := undef) (a' := ?_) #[true, true, true, true, true, true, false, false, false, false, false, false] rfl rfl (by kernel_rfl) (fun _ _ _ h => h) (Or.inr ⟨by rfl, rfl⟩) ?_ ?_
       rotate_left
       ·simp only [Act.put, List.setIfInBounds_toArray, List.set_cons_zero, List.set_cons_succ, i64_w, i32_w]
        rfl
       refine pure_ (i := 6) (N := some 64) (v := undef) (a' := ?_) #[true, true, true, true, true, true, true, false, false, false, false, false] rfl rfl (by kernel_rfl) (fun _ _ _ h => h) (Or.inr ⟨by rfl, rfl⟩) ?_ ?_
       rotate_left
       ·simp only [Act.put, List.setIfInBounds_toArray, List.set_cons_zero, List.set_cons_succ, i64_w, i32_w]
        rfl
       refine pure_ (i := 7) (N := some 65) (v := undef) (a' := ?_) #[true, true, true, true, true, true, true, true, false, false, false, false] rfl rfl (by kernel_rfl) (fun _ _ _ h => h) (Or.inr ⟨by rfl, rfl⟩) ?_ ?_
       rotate_left
       ·simp only [Act.put, List.setIfInBounds_toArray, List.set_cons_zero, List.set_cons_succ, i64_w, i32_w]
        rfl
       refine pure_ (i := 8) (N := some 66) (v := undef) (a' := ?_) #[true, true, true, true, true, true, true, true, true, false, false, false] rfl rfl (by kernel_rfl) (fun _ _ _ h => h) (Or.inr ⟨by rfl, rfl⟩) ?_ ?_
       rotate_left
       ·simp only [Act.put, List.setIfInBounds_toArray, List.set_cons_zero, List.set_cons_succ, i64_w, i32_w]
        rfl
       refine pure_ (i := 9) (N := some 67) (v := undef) (a' := ?_) #[true, true, true, true, true, true, true, true, true, true, false, false] rfl rfl (by kernel_rfl) (fun _ _ _ h => h) (Or.inr ⟨by rfl, rfl⟩) ?_ ?_
       rotate_left
       ·simp only [Act.put, List.setIfInBounds_toArray, List.set_cons_zero, List.set_cons_succ, i64_w, i32_w]
        rfl
       refine pz_ 10 68 rfl rfl (by kernel_rfl) ?_
       refine pz_ 11 57 rfl rfl (by kernel_rfl) ?_
       refine done_ (by kernel_rfl) ?_
       have HD2 := Aside0.mk (HD.out.below (below_drew1 (Below.refl _ _)))
       clear x0 x1 x2 y0 y1 y2 HD
       obtain ⟨x0, x1, x2, y0, y1, y2⟩ := HD2.out.cells
       go_upto_region 9 with (fail)
       by_cases k3 : kind = 3
       ·subst k3
        clear d2 d1
        by_cases kw : who = 1
        ·subst kw
         have hv : doesM ep l O ep 3 1 1 = (ep, l, O, false) := by unfold doesM; rw [if_neg HI1.out, if_neg (by decide), if_neg HC.out, if_neg (by decide), if_pos rfl, if_pos (.inl rfl)]
         have HV := Aside0.mk hv
         clear hv
         refine start_ (n := 18) (S := fun w' => w'.cell? ⟨rb, 0, none⟩ = some (.int .i64 3) ∧ w'.cell? ⟨rb, 14, none⟩ = some (.int .i64 1)) (ds := []) #[false, false, false, false, false, false, false, false, false, false, false, false, false, false, false, false, false, false] (by kernel_rfl) rfl rfl ⟨y0, y2⟩ (fun hHeld => ?_)
         refine pz_ 0 69 rfl rfl (by kernel_rfl) ?_
         refine take_ (i := 1) (N := some 70) (v := ?_) (a' := ?_) #[true, true, false, false, false, false, false, false, false, false, false, false, false, false, false, false, false, false] rfl rfl (by kernel_rfl) (fun _ _ _ h => h) (Or.inl ⟨by rfl, ?_⟩) hHeld ?_ ?_
         rotate_left
         ·rintro w' ⟨s0, s1⟩
          go_simp
          with_reducible rfl
         rotate_left
         ·simp only [Act.put, List.setIfInBounds_toArray, List.set_cons_zero, List.set_cons_succ, i64_w, i32_w]
          rfl
         refine pz_ 2 71 rfl rfl (by kernel_rfl) ?_
         refine pz_ 3 72 rfl rfl (by kernel_rfl) ?_
         refine pz_ 4 73 rfl rfl (by kernel_rfl) ?_
         refine take_ (i := 5) (N := some 74) (v := ?_) (a' := ?_) #[true, true, true, true, true, true, false, false, false, false, false, false, false, false, false, false, false, false] rfl rfl (by kernel_rfl) (fun _ _ _ h => h) (Or.inl ⟨by rfl, ?_⟩) hHeld ?_ ?_
         rotate_left
         ·rintro w' ⟨s0, s1⟩
          go_simp
          with_reducible rfl
         rotate_left
         ·simp only [Act.put, List.setIfInBounds_toArray, List.set_cons_zero, List.set_cons_succ, i64_w, i32_w]
          rfl
         refine pz_ 6 75 rfl rfl (by kernel_rfl) ?_
         refine pz_ 7 76 rfl rfl (by kernel_rfl) ?_
         refine pure_ (i := 8) (N := some 77) (v := undef) (a' := ?_) #[true, true, true, true, true, true, true, true, true, false, false, false, false, false, false, false, false, false] rfl rfl (by kernel_rfl) (fun _ _ _ h => h) (Or.inr ⟨by rfl, rfl⟩) ?_ ?_
         rotate_left
         ·simp only [Act.put, List.setIfInBounds_toArray, List.set_cons_zero, List.set_cons_succ, i64_w, i32_w]
          rfl
         refine pure_ (i := 9) (N := some 78) (v := undef) (a' := ?_) #[true, true, true, true, true, true, true, true, true, true, false, false, false, false, false, false, false, false] rfl rfl (by kernel_rfl) (fun _ _ _ h => h) (Or.inr ⟨by rfl, rfl⟩) ?_ ?_
         rotate_left
         ·simp only [Act.put, List.setIfInBounds_toArray, List.set_cons_zero, List.set_cons_succ, i64_w, i32_w]
          rfl
         refine pure_ (i := 10) (N := some 79) (v := undef) (a' := ?_) #[true, true, true, true, true, true, true, true, true, true, true, false, false, false, false, false, false, false] rfl rfl (by kernel_rfl) (fun _ _ _ h => h) (Or.inr ⟨by rfl, rfl⟩) ?_ ?_
         rotate_left
         ·simp only [Act.put, List.setIfInBounds_toArray, List.set_cons_zero, List.set_cons_succ, i64_w, i32_w]
          rfl
         refine pure_ (i := 11) (N := some 80) (v := undef) (a' := ?_) #[true, true, true, true, true, true, true, true, true, true, true, true, false, false, false, false, false, false] rfl rfl (by kernel_rfl) (fun _ _ _ h => h) (Or.inr ⟨by rfl, rfl⟩) ?_ ?_
         rotate_left
         ·simp only [Act.put, List.setIfInBounds_toArray, List.set_cons_zero, List.set_cons_succ, i64_w, i32_w]
          rfl
         refine pure_ (i := 12) (N := some 81) (v := undef) (a' := ?_) #[true, true, true, true, true, true, true, true, true, true, true, true, true, false, false, false, false, false] rfl rfl (by kernel_rfl) (fun _ _ _ h => h) (Or.inr ⟨by rfl, rfl⟩) ?_ ?_
         rotate_left
         ·simp only [Act.put, List.setIfInBounds_toArray, List.set_cons_zero, List.set_cons_succ, i64_w, i32_w]
          rfl
         refine pure_ (i := 13) (N := some 82) (v := undef) (a' := ?_) #[true, true, true, true, true, true, true, true, true, true, true, true, true, true, false, false, false, false] rfl rfl (by kernel_rfl) (fun _ _ _ h => h) (Or.inr ⟨by rfl, rfl⟩) ?_ ?_
         rotate_left
         ·simp only [Act.put, List.setIfInBounds_toArray, List.set_cons_zero, List.set_cons_succ, i64_w, i32_w]
          rfl
         refine pure_ (i := 14) (N := some 83) (v := undef) (a' := ?_) #[true, true, true, true, true, true, true, true, true, true, true, true, true, true, true, false, false, false] rfl rfl (by kernel_rfl) (fun _ _ _ h => h) (Or.inr ⟨by rfl, rfl⟩) ?_ ?_
         rotate_left
         ·simp only [Act.put, List.setIfInBounds_toArray, List.set_cons_zero, List.set_cons_succ, i64_w, i32_w]
          rfl
         refine pz_ 15 84 rfl rfl (by kernel_rfl) ?_
         refine pz_ 16 85 rfl rfl (by kernel_rfl) ?_
         refine pz_ 17 57 rfl rfl (by kernel_rfl) ?_
         refine done_ (by kernel_rfl) ?_
         have HD3 := Aside0.mk (HD2.out.below (below_drew1 (Below.refl _ _)))
         clear x0 x1 x2 y0 y1 y2 HD2
         obtain ⟨x0, x1, x2, y0, y1, y2⟩ := HD3.out.cells
         go_wp2_with (fail)
         go_ret
         (rw [HV.out]; exact ⟨rfl, HD3.out.1⟩)
        ·have d5 : (who == 1) = false := beq_eq_false_iff_ne.2 kw
         have KW := Aside0.mk kw
         clear kw
         cases hi2 : l.any (isM who)
         ·have hv : doesM ep l O ep 3 1 who = (ep, l, O, false) := by unfold doesM; rw [if_neg HI1.out, if_neg (by decide), if_neg HC.out, if_neg (by decide), if_pos rfl, if_pos (.inr hi2)]
          have HV := Aside0.mk hv
          rw [hi2] at HIW
          clear hv hi2
          have HDD := Aside0.mk (HD2.out.below (below_drew1 (Below.refl _ _)))
          have HGG := Aside0.mk HDD.out.1
          go_region_held3 (fun w' => w'.cell? ⟨gb, 0, none⟩ = some (.int .i64 ep) ∧ w'.cell? ⟨gb, 1, none⟩ = some (.slice (some ⟨g, 0, none⟩) l.length cap) ∧ w'.cell? ⟨gb, 2, none⟩ = some (.int .i64 O) ∧ w'.cell? ⟨rb, 0, none⟩ = some (.int .i64 3) ∧ w'.cell? ⟨rb, 14, none⟩ = some (.int .i64 who))
           (first | go_keep | exact ⟨x0, x1, x2, y0, y2⟩)
           (first | (go_at_call 23; (with_reducible refine (HIW.out _ HGG.out).mono ?_); rintro e2 w2 ⟨rfl, hg2, hb2⟩; have HD3 := Aside0.mk (HDD.out.below hb2); clear hg2 hb2 x0 x1 x2 y0 y1 y2; obtain ⟨x0, x1, x2, y0, y1, y2⟩ := HD3.out.cells))
          clear HDD HGG HD2
          go_wp2_with (fail)
          go_ret
          (rw [HV.out]; exact ⟨rfl, HD3.out.1⟩)
         ·have I2 := Aside0.mk hi2
          rw [hi2] at HIW
          clear hi2
          have HDD := Aside0.mk (HD2.out.below (below_drew1 (Below.refl _ _)))
          have HGG := Aside0.mk HDD.out.1
          go_region_held3 (fun w' => w'.cell? ⟨gb, 0, none⟩ = some (.int .i64 ep) ∧ w'.cell? ⟨gb, 1, none⟩ = some (.slice (some ⟨g, 0, none⟩) l.length cap) ∧ w'.cell? ⟨gb, 2, none⟩ = some (.int .i64 O) ∧ w'.cell? ⟨rb, 0, none⟩ = some (.int .i64 3) ∧ w'.cell? ⟨rb, 14, none⟩ = some (.int .i64 who))
           (first | go_keep | exact ⟨x0, x1, x2, y0, y2⟩)
           (first | (go_at_call 23; (with_reducible refine (HIW.out _ HGG.out).mono ?_); rintro e2 w2 ⟨rfl, hg2, hb2⟩; have HD3 := Aside0.mk (HDD.out.below hb2); clear hg2 hb2 x0 x1 x2 y0 y1 y2; obtain ⟨x0, x1, x2, y0, y1, y2⟩ := HD3.out.cells))
          clear HDD HGG HD2
          go_wp2_with (fail)
          go_meet
          exact ⟨⟨trivial, trivial, HX.out, H1.out, HI1.out, fun q => absurd q (by decide), fun _ => ⟨KW.out, I2.out⟩⟩, HD3⟩
       ·have d3 : (kind == 3) = false := beq_eq_false_iff_ne.2 k3
        have K2 := Aside0.mk k2
        have K3 := Aside0.mk k3
        clear k2 k3
        refine start_ (n := 18) (S := fun w' => w'.cell? ⟨rb, 0, none⟩ = some (.int .i64 kind) ∧ w'.cell? ⟨rb, 14, none⟩ = some (.int .i64 who)) (ds := []) #[false, false, false, false, false, false, false, false, false, false, false, false, false, false, false, false, false, false] (by kernel_rfl) rfl rfl ⟨y0, y2⟩ (fun hHeld => ?_)
        refine pz_ 0 69 rfl rfl (by kernel_rfl) ?_
        refine take_ (i := 1) (N := some 70) (v := ?_) (a' := ?_) #[true, true, false, false, false, false, false, false, false, false, false, false, false, false, false, false, false, false] rfl rfl (by kernel_rfl) (fun _ _ _ h => h) (Or.inl ⟨by rfl, ?_⟩) hHeld ?_ ?_
        rotate_left
        ·rintro w' ⟨s0, s1⟩
         go_simp
         with_reducible rfl
        rotate_left
        ·simp only [Act.put, List.setIfInBounds_toArray, List.set_cons_zero, List.set_cons_succ, i64_w, i32_w]
         rfl
        refine pz_ 2 71 rfl rfl (by kernel_rfl) ?_
        refine pz_ 3 72 rfl rfl (by kernel_rfl) ?_
        refine pure_ (i := 4) (N := some 73) (v := undef) (a' := ?_) #[true, true, true, true, true, false, false, false, false, false, false, false, false, false, false, false, false, false] rfl rfl (by kernel_rfl) (fun _ _ _ h => h) (Or.inr ⟨by rfl, rfl⟩) ?_ ?_
        rotate_left
        ·simp only [Act.put, List.setIfInBounds_toArray, List.set_cons_zero, List.set_cons_succ, i64_w, i32_w]
         rfl
        refine pure_ (i := 5) (N := some 74) (v := undef) (a' := ?_) #[true, true, true, true, true, true, false, false, false, false, false, false, false, false, false, false, false, false] rfl rfl (by kernel_rfl) (fun _ _ _ h => h) (Or.inr ⟨by rfl, rfl⟩) ?_ ?_
        rotate_left
        ·simp only [Act.put, List.setIfInBounds_toArray, List.set_cons_zero, List.set_cons_succ, i64_w, i32_w]
         rfl
        refine pure_ (i := 6) (N := some 75) (v := undef) (a' := ?_) #[true, true, true, true, true, true, true, false, false, false, false, false, false, false, false, false, false, false] rfl rfl (by kernel_rfl) (fun _ _ _ h => h) (Or.inr ⟨by rfl, rfl⟩) ?_ ?_
        rotate_left
        ·simp only [Act.put, List.setIfInBounds_toArray, List.set_cons_zero, List.set_cons_succ, i64_w, i32_w]
         rfl
        refine pure_ (i := 7) (N := some 76) (v := undef) (a' := ?_) #[true, true, true, true, true, true, true, true, false, false, false, false, false, false, false, false, false, false] rfl rfl (by kernel_rfl) (fun _ _ _ h => h) (Or.inr ⟨by rfl, rfl⟩) ?_ ?_
        rotate_left
        ·simp only [Act.put, List.setIfInBounds_toArray, List.set_cons_zero, List.set_cons_succ, i64_w, i32_w]
         rfl
        refine pure_ (i := 8) (N := some 77) (v := undef) (a' := ?_) #[true, true, true, true, true, true, true, true, true, false, false, false, false, false, false, false, false, false] rfl rfl (by kernel_rfl) (fun _ _ _ h => h) (Or.inr ⟨by rfl, rfl⟩) ?_ ?_
        rotate_left
        ·simp only [Act.put, List.setIfInBounds_toArray, List.set_cons_zero, List.set_cons_succ, i64_w, i32_w]
         rfl
        refine pure_ (i := 9) (N := some 78) (v := undef) (a' := ?_) #[true, true, true, true, true, true, true, true, true, true, false, false, false, false, false, false, false, false] rfl rfl (by kernel_rfl) (fun _ _ _ h => h) (Or.inr ⟨by rfl, rfl⟩) ?_ ?_
        rotate_left
        ·simp only [Act.put, List.setIfInBounds_toArray, List.set_cons_zero, List.set_cons_succ, i64_w, i32_w]
         rfl
        refine pure_ (i := 10) (N := some 79) (v := undef) (a' := ?_) #[true, true, true, true, true, true, true, true, true, true, true, false, false, false, false, false, false, false] rfl rfl (by kernel_rfl) (fun _ _ _ h => h) (Or.inr ⟨by rfl, rfl⟩) ?_ ?_
        rotate_left
        ·simp only [Act.put, List.setIfInBounds_toArray, List.set_cons_zero, List.set_cons_succ, i64_w, i32_w]
         rfl
        refine pure_ (i := 11) (N := some 80) (v := undef) (a' := ?_) #[true, true, true, true, true, true, true, true, true, true, true, true, false, false, false, false, false, false] rfl rfl (by kernel_rfl) (fun _ _ _ h => h) (Or.inr ⟨by rfl, rfl⟩) ?_ ?_
        rotate_left
        ·simp only [Act.put, List.setIfInBounds_toArray, List.set_cons_zero, List.set_cons_succ, i64_w, i32_w]
         rfl
        refine pure_ (i := 12) (N := some 81) (v := undef) (a' := ?_) #[true, true, true, true, true, true, true, true, true, true, true, true, true, false, false, false, false, false] rfl rfl (by kernel_rfl) (fun _ _ _ h => h) (Or.inr ⟨by rfl, rfl⟩) ?_ ?_
        rotate_left
        ·simp only [Act.put, List.setIfInBounds_toArray, List.set_cons_zero, List.set_cons_succ, i64_w, i32_w]
         rfl
        refine pure_ (i := 13) (N := some 82) (v := undef) (a' := ?_) #[true, true, true, true, true, true, true, true, true, true, true, true, true, true, false, false, false, false] rfl rfl (by kernel_rfl) (fun _ _ _ h => h) (Or.inr ⟨by rfl, rfl⟩) ?_ ?_
        rotate_left
        ·simp only [Act.put, List.setIfInBounds_toArray, List.set_cons_zero, List.set_cons_succ, i64_w, i32_w]
         rfl
        refine pure_ (i := 14) (N := some 83) (v := undef) (a' := ?_) #[true, true, true, true, true, true, true, true, true, true, true, true, true, true, true, false, false, false] rfl rfl (by kernel_rfl) (fun _ _ _ h => h) (Or.inr ⟨by rfl, rfl⟩) ?_ ?_
        rotate_left
        ·simp only [Act.put, List.setIfInBounds_toArray, List.set_cons_zero, List.set_cons_succ, i64_w, i32_w]
         rfl
        refine pure_ (i := 15) (N := some 84) (v := undef) (a' := ?_) #[true, true, true, true, true, true, true, true, true, true, true, true, true, true, true, true, false, false] rfl rfl (by kernel_rfl) (fun _ _ _ h => h) (Or.inr ⟨by rfl, rfl⟩) ?_ ?_
        rotate_left
        ·simp only [Act.put, List.setIfInBounds_toArray, List.set_cons_zero, List.set_cons_succ, i64_w, i32_w]
         rfl
        refine pz_ 16 85 rfl rfl (by kernel_rfl) ?_
        refine pz_ 17 57 rfl rfl (by kernel_rfl) ?_
        refine done_ (by kernel_rfl) ?_
        have HD3 := Aside0.mk (HD2.out.below (below_drew1 (Below.refl _ _)))
        clear x0 x1 x2 y0 y1 y2 HD2
        obtain ⟨x0, x1, x2, y0, y1, y2⟩ := HD3.out.cells
        go_wp2_with (fail)
        go_meet
        exact ⟨⟨trivial, trivial, HX.out, H1.out, HI1.out, fun q => absurd q K2.out, fun q => absurd q K3.out⟩, HD3⟩
 case rest =>
  obtain ⟨HC, HD⟩ := hcut
  clear HD0
  obtain ⟨c1, c2, c3, c4, c5, c6, c7⟩ := HC.out
  subst c1 c2
  have nc : ¬ ((1 : Int) ≠ 1 ∨ ep ≠ ep ∨ 1099511627775 ≤ ep) := by omega
  have e1 : wrap64 (ep + 1) = ep + 1 := by have := HE.out; unfold wrap64; omega
  have E1 := Aside0.mk e1
  obtain ⟨x0, x1, x2, y0, y1, y2⟩ := HD.out.cells
  obtain ⟨z0, z1, z2⟩ := HD.out.frozen
  by_cases k4 : kind = 4
  ·subst k4
   have hv : doesM ep l O ep 4 1 who = (ep + 1, l, O, true) := by unfold doesM; rw [if_neg c5, if_neg (by decide), if_neg nc, if_neg (by decide), if_neg (by decide)]
   have HV := Aside0.mk hv
   have HF := Aside0.mk (HD.out.1.setE (ep + 1))
   clear hv c3 c4 c5 c6 c7 nc z2
   go_wp2_with (fail)
   go_ret
   (rw [HV.out]; exact ⟨rfl, HF.out⟩)
  ·have d4 : (kind != 4) = true := bne_iff_ne.2 k4
   have hk23 : kind = 2 ∨ kind = 3 := by have := HK.out; omega
   obtain ⟨k, hk⟩ : ∃ k : Nat, who = (k : Int) + 1 := ⟨(who - 1).toNat, by have := HW.out hk23; omega⟩
   have hlt : k < l.length := by have := HW.out hk23; have := HL.out; omega
   have hx := List.getElem?_eq_getElem hlt
   generalize l[k] = m at hx
   have hv : doesM ep l O ep kind 1 who = (ep + 1, l.set k { m with f2 := (kind == 2) }, O, true) := by
    have hm : ∀ b, inM l (who - 1).toNat b = l.set k { m with f2 := b } := fun b => by
     rw [show (who - 1).toNat = k by omega]
     unfold inM
     rw [hx]
    unfold doesM
    rw [if_neg c5, if_neg c4, if_neg nc]
    rcases hk23 with rfl | rfl
    ·rw [if_pos rfl, if_neg (by rw [c6 rfl]; decide), hm]; rfl
    ·rw [if_neg (by decide), if_pos rfl, if_neg (by have := c7 rfl; rw [this.2]; simp; exact this.1), hm]; rfl
   have HV := Aside0.mk hv
   have hr : wrap64 (who - 1) = (k : Int) := by have := HL.out; unfold wrap64; omega
   have hr2 : IntKind.i64.wrap (who - 1) = (k : Int) := by have := HL.out; rw [IntKind.wrap_i64]; omega
   have HDr := Aside0.mk (HD.out.below (below_drew1 (Below.refl _ _)))
   have HS := Aside0.mk ((HD.out.1.setM k 2 (by decide) m { m with f2 := (kind == 2) } (.bool (kind == 2)) hx rfl).below (below_drew1 (Below.refl _ _)))
   have e5 := eq_true hlt
   have HLT := Aside0.mk hlt
   have mc : wc.drew.cell? ⟨g, k * 3 + 2, none⟩ = some (.bool m.f2) := (HDr.out.1.2.2.1.cell k m hx).2.2
   have zz : wc.drew.frozen? ⟨g, k * 3 + 2, none⟩ = false := HDr.out.frozen.2.2 _
   generalize hbq : (kind == 2) = b at HV HS
   clear hk hv c3 c4 c5 c6 c7 nc hk23 k4 hlt hx z2
   go_upto_region 12 with (fail)
   refine start_ (n := 13) (S := fun w' => w'.cell? ⟨gb, 1, none⟩ = some (.slice (some ⟨g, 0, none⟩) l.length cap) ∧ w'.cell? ⟨rb, 0, none⟩ = some (.int .i64 kind) ∧ w'.cell? ⟨rb, 14, none⟩ = some (.int .i64 who)) (ds := [12]) #[false, false, false, false, false, false, false, false, false, false, false, false, false] (by kernel_rfl) rfl rfl ⟨x1, y0, y2⟩ (fun hHeld => ?_)
   refine pz_ 0 89 rfl rfl (by kernel_rfl) ?_
   refine pz_ 1 90 rfl rfl (by kernel_rfl) ?_
   refine pz_ 2 91 rfl rfl (by kernel_rfl) ?_
   refine pz_ 4 93 rfl rfl (by kernel_rfl) ?_
   refine pz_ 7 96 rfl rfl (by kernel_rfl) ?_
   refine take_ (i := 3) (N := some 92) (v := ?_) (a' := ?_) #[true, true, true, true, true, false, false, true, false, false, false, false, false] rfl rfl (by kernel_rfl) (fun _ _ _ h => h) (Or.inl ⟨by rfl, ?_⟩) hHeld ?_ ?_
   rotate_left
   ·rintro w' ⟨s0, s1, s2⟩
    go_simp
    with_reducible rfl
   rotate_left
   ·simp only [Act.put, List.setIfInBounds_toArray, List.set_cons_zero, List.set_cons_succ, i64_w, i32_w]
    rfl
   refine take_ (i := 5) (N := some 94) (v := ?_) (a' := ?_) #[true, true, true, true, true, true, false, true, false, false, false, false, false] rfl rfl (by kernel_rfl) (fun _ _ _ h => h) (Or.inl ⟨by rfl, ?_⟩) hHeld ?_ ?_
   rotate_left
   ·rintro w' ⟨s0, s1, s2⟩
    go_simp
    with_reducible rfl
   rotate_left
   ·simp only [Act.put, List.setIfInBounds_toArray, List.set_cons_zero, List.set_cons_succ, i64_w, i32_w]
    rfl
   refine pz_ 6 95 rfl rfl (by kernel_rfl) ?_
   refine take_ (i := 8) (N := some 97) (v := ?_) (a' := ?_) #[true, true, true, true, true, true, true, true, true, false, false, false, false] rfl rfl (by kernel_rfl) (fun _ _ _ h => h) (Or.inl ⟨by rfl, ?_⟩) hHeld ?_ ?_
   rotate_left
   ·rintro w' ⟨s0, s1, s2⟩
    go_simp
    with_reducible rfl
   rotate_left
   ·simp only [Act.put, List.setIfInBounds_toArray, List.set_cons_zero, List.set_cons_succ, i64_w, i32_w]
    rfl
   refine pz_ 9 98 rfl rfl (by kernel_rfl) ?_
   refine pz_ 10 99 rfl rfl (by kernel_rfl) ?_
   refine pz_ 11 100 rfl rfl (by kernel_rfl) ?_
   refine last_ (i := 12) (N := none) #[true, true, true, true, true, true, true, true, true, true, true, true, true] rfl rfl (by kernel_rfl) (by decide) (fun K hK => ?_)
   refine skip_ (w1 := ?_) (by rfl) rfl ?_ ?_
   rotate_left
   ·go_simp
    rfl
   refine hK.out _ _ ?_
   clear hK K
   refine done_ (by kernel_rfl) ?_
   clear mc zz x1 x2 y0 y1 y2 hr hr2 z0 x0
   have x0 := HS.out.cells.1
   have z0 := blk_frozen HS.out.2.1 0
   have HF := Aside0.mk (HS.out.setE (ep + 1))
   have e1 := E1.out
   go_wp2_with (fail)
   go_ret
   (rw [HV.out]; exact ⟨rfl, HF.out⟩)
end Go.Proofs.YthemhfloablccaaDoor.Pr
end

section
namespace Go.Proofs.YthemhfloablccaaDoor.Pr
open Go.RowKit Go.Deep Go.Proofs.YthemhfloablccaaDoorW.PrintWords Go.Proofs.YthemhfloablccaaDoorW.PrintLast Go.Proofs.YthemhfloablccaaDoorW.PrintMore
def name_Check.f (a0 : ByteArray) : Option Int := none
theorem name_Check.calls (a0 : ByteArray) (r : Int) (w : World) (h : name_Check.f a0 = some r) :
  Calls Tryd.prog 102 #[.string a0] w fun e w' => e = .returned (.int .i64 r) ∧ Below w.heap.size w w' := by cases h
end Go.Proofs.YthemhfloablccaaDoor.Pr
end

section
namespace Go.Proofs.YthemhfloablccaaDoor.Pr
open Go.RowKit Go.Proofs.YthemhfloablccaaDoorW.PrintWords Go.Proofs.YthemhfloablccaaDoorW.PrintLast Go.Proofs.YthemhfloablccaaDoorW.PrintMore
attribute [local go_sem] max2_int min2_int max_two min_two max_three min_three max_four min_four
def clock_may.f (a0_0 : Int) (a0_1 : Int) : Option (Bool) := if a0_0 ≥ 1 then (if a0_0 ≤ 1099511627775 then (if a0_1 ≥ 1 then (some (decide (a0_1 ≤ 6))) else (some false)) else (some false)) else (some false)
set_option maxHeartbeats 8000000 in
set_option maxRecDepth 100000 in
theorem clock_may.calls (a0_0 : Int) (a0_1 : Int) (r : Bool) (w : World) (h : clock_may.f a0_0 a0_1 = some r) :
  Calls Tryd.prog 123 #[.agg #[.int .i64 a0_0, .int .i64 a0_1]] w fun e w' => e = .returned (.bool r) ∧ Below w.heap.size w w' := by
 have hu26 := Tryd.underlying26; have HB := Aside0.mk (Below.refl w.heap.size w); have H : (if a0_0 ≥ 1 then (if a0_0 ≤ 1099511627775 then (if a0_1 ≥ 1 then (some (decide (a0_1 ≤ 6))) else (some false)) else (some false)) else (some false)) = some r := h; clear h; by_cases c2 : a0_0 ≥ 1
 ·rw [if_pos c2] at H; have c2b0 : decide (1 ≤ a0_0) = true := decide_eq_true c2; clear c2; by_cases c3 : a0_0 ≤ 1099511627775
  ·rw [if_pos c3] at H; have c3b0 : decide (a0_0 ≤ 1099511627775) = true := decide_eq_true c3; clear c3; by_cases c4 : a0_1 ≥ 1
   ·rw [if_pos c4] at H; have c4b0 : decide (1 ≤ a0_1) = true := decide_eq_true c4; clear c4; obtain rfl := Option.some.inj H; go_enter Tryd.func123, Tryd.ntmps123
    go_wp2_with (first | ((with_reducible refine gate_dst (N := 1) rfl ?_); refine box_event ?hg (N := 1) ?hd (cs := #[.int .i64 a0_0, .int .i64 a0_1]) (t := 26) ?hr ?_; (case hd => rfl); (case hg => rfl); (case hr => first | (go_simp; done) | (go_simp; rfl)); intro gb110 hg w5 hbox hb; have n0_ := Aside0.mk (below_step hb_ hb); have n1_ := Aside0.mk (hbox); have n2_ := Aside0.mk ((by rw [hg]; exact (below_size hb_) : w.heap.size ≤ gb110)); have n3_ := Aside0.mk ((by rw [hg]; exact (below_size hb_) : w.heap.size ≤ gb110)); clear HB; have HB := n0_; have BK110 := n1_; have GW110 := n2_; have GE110 := n3_; clear n0_ n1_ n2_ n3_; clear hb hbox hg; have hcz6_0 : w5.cell? ⟨gb110, 0, none⟩ = some (.int .i64 a0_0) := (blk_cell BK110.out 0).trans rfl; have hcz6_1 : w5.cell? ⟨gb110, 1, none⟩ = some (.int .i64 a0_1) := (blk_cell BK110.out 1).trans rfl; have hfz6_0 := blk_frozen BK110.out 0; have hfz6_1 := blk_frozen BK110.out 1))
    go_ret
    exact ⟨ew_, by repeat (first | (with_reducible first | exact HB.out | apply below_alloc | apply pw_below_drewN | apply below_drew1 | refine below_set ?_ GE110.out) | exact HB.out)⟩
   ·rw [if_neg c4] at H; have c4b0 : decide (1 ≤ a0_1) = false := decide_eq_false c4; clear c4; obtain rfl := Option.some.inj H; go_enter Tryd.func123, Tryd.ntmps123
    go_wp2_with (first | ((with_reducible refine gate_dst (N := 1) rfl ?_); refine box_event ?hg (N := 1) ?hd (cs := #[.int .i64 a0_0, .int .i64 a0_1]) (t := 26) ?hr ?_; (case hd => rfl); (case hg => rfl); (case hr => first | (go_simp; done) | (go_simp; rfl)); intro gb110 hg w7 hbox hb; have n0_ := Aside0.mk (below_step hb_ hb); have n1_ := Aside0.mk (hbox); have n2_ := Aside0.mk ((by rw [hg]; exact (below_size hb_) : w.heap.size ≤ gb110)); have n3_ := Aside0.mk ((by rw [hg]; exact (below_size hb_) : w.heap.size ≤ gb110)); clear HB; have HB := n0_; have BK110 := n1_; have GW110 := n2_; have GE110 := n3_; clear n0_ n1_ n2_ n3_; clear hb hbox hg; have hcz8_0 : w7.cell? ⟨gb110, 0, none⟩ = some (.int .i64 a0_0) := (blk_cell BK110.out 0).trans rfl; have hcz8_1 : w7.cell? ⟨gb110, 1, none⟩ = some (.int .i64 a0_1) := (blk_cell BK110.out 1).trans rfl; have hfz8_0 := blk_frozen BK110.out 0; have hfz8_1 := blk_frozen BK110.out 1))
    go_ret
    exact ⟨ew_, by repeat (first | (with_reducible first | exact HB.out | apply below_alloc | apply pw_below_drewN | apply below_drew1 | refine below_set ?_ GE110.out) | exact HB.out)⟩
  ·rw [if_neg c3] at H; have c3b0 : decide (a0_0 ≤ 1099511627775) = false := decide_eq_false c3; clear c3; obtain rfl := Option.some.inj H; go_enter Tryd.func123, Tryd.ntmps123
   go_wp2_with (first | ((with_reducible refine gate_dst (N := 1) rfl ?_); refine box_event ?hg (N := 1) ?hd (cs := #[.int .i64 a0_0, .int .i64 a0_1]) (t := 26) ?hr ?_; (case hd => rfl); (case hg => rfl); (case hr => first | (go_simp; done) | (go_simp; rfl)); intro gb110 hg w9 hbox hb; have n0_ := Aside0.mk (below_step hb_ hb); have n1_ := Aside0.mk (hbox); have n2_ := Aside0.mk ((by rw [hg]; exact (below_size hb_) : w.heap.size ≤ gb110)); have n3_ := Aside0.mk ((by rw [hg]; exact (below_size hb_) : w.heap.size ≤ gb110)); clear HB; have HB := n0_; have BK110 := n1_; have GW110 := n2_; have GE110 := n3_; clear n0_ n1_ n2_ n3_; clear hb hbox hg; have hcz10_0 : w9.cell? ⟨gb110, 0, none⟩ = some (.int .i64 a0_0) := (blk_cell BK110.out 0).trans rfl; have hcz10_1 : w9.cell? ⟨gb110, 1, none⟩ = some (.int .i64 a0_1) := (blk_cell BK110.out 1).trans rfl; have hfz10_0 := blk_frozen BK110.out 0; have hfz10_1 := blk_frozen BK110.out 1))
   go_ret
   exact ⟨ew_, by repeat (first | (with_reducible first | exact HB.out | apply below_alloc | apply pw_below_drewN | apply below_drew1 | refine below_set ?_ GE110.out) | exact HB.out)⟩
 ·rw [if_neg c2] at H; have c2b0 : decide (1 ≤ a0_0) = false := decide_eq_false c2; clear c2; obtain rfl := Option.some.inj H; go_enter Tryd.func123, Tryd.ntmps123
  go_wp2_with (first | ((with_reducible refine gate_dst (N := 1) rfl ?_); refine box_event ?hg (N := 1) ?hd (cs := #[.int .i64 a0_0, .int .i64 a0_1]) (t := 26) ?hr ?_; (case hd => rfl); (case hg => rfl); (case hr => first | (go_simp; done) | (go_simp; rfl)); intro gb110 hg w11 hbox hb; have n0_ := Aside0.mk (below_step hb_ hb); have n1_ := Aside0.mk (hbox); have n2_ := Aside0.mk ((by rw [hg]; exact (below_size hb_) : w.heap.size ≤ gb110)); have n3_ := Aside0.mk ((by rw [hg]; exact (below_size hb_) : w.heap.size ≤ gb110)); clear HB; have HB := n0_; have BK110 := n1_; have GW110 := n2_; have GE110 := n3_; clear n0_ n1_ n2_ n3_; clear hb hbox hg; have hcz12_0 : w11.cell? ⟨gb110, 0, none⟩ = some (.int .i64 a0_0) := (blk_cell BK110.out 0).trans rfl; have hcz12_1 : w11.cell? ⟨gb110, 1, none⟩ = some (.int .i64 a0_1) := (blk_cell BK110.out 1).trans rfl; have hfz12_0 := blk_frozen BK110.out 0; have hfz12_1 := blk_frozen BK110.out 1))
  go_ret
  exact ⟨ew_, by repeat (first | (with_reducible first | exact HB.out | apply below_alloc | apply pw_below_drewN | apply below_drew1 | refine below_set ?_ GE110.out) | exact HB.out)⟩
def clock_Check.f (a0_0 : Int) (a0_1 : Int) : Option (Int) := (clock_may.f a0_0 a0_1).bind fun t112 => (if t112 = true then (some 0) else (some 1))
set_option maxHeartbeats 8000000 in
set_option maxRecDepth 100000 in
theorem clock_Check.calls (a0_0 : Int) (a0_1 : Int) (r : Int) (w : World) (h : clock_Check.f a0_0 a0_1 = some r) :
  Calls Tryd.prog 115 #[.agg #[.int .i64 a0_0, .int .i64 a0_1]] w fun e w' => e = .returned (.int .i64 r) ∧ Below w.heap.size w w' := by
 have hu26 := Tryd.underlying26; have HB := Aside0.mk (Below.refl w.heap.size w); have H : ((clock_may.f a0_0 a0_1).bind fun t112 => (if t112 = true then (some 0) else (some 1))) = some r := h; clear h; replace H := Option.bind_eq_some_iff.mp H; obtain ⟨t112, A20, H⟩ := H; have A2 := Aside0.mk A20; clear A20; by_cases c3 : t112 = true
 ·subst c3; have H1 : (some 0) = some r := by rw [if_pos rfl] at H; exact H
  clear H; have H := H1; clear H1; obtain rfl := Option.some.inj H; go_enter Tryd.func115, Tryd.ntmps115
  go_wp2_with (first | ((with_reducible refine gate_dst (N := 1) rfl ?_); refine box_event ?hg (N := 1) ?hd (cs := #[.int .i64 a0_0, .int .i64 a0_1]) (t := 26) ?hr ?_; (case hd => rfl); (case hg => rfl); (case hr => first | (go_simp; done) | (go_simp; rfl)); intro gb111 hg w4 hbox hb; have n0_ := Aside0.mk (below_step hb_ hb); have n1_ := Aside0.mk (hbox); have n2_ := Aside0.mk ((by rw [hg]; exact (below_size hb_) : w.heap.size ≤ gb111)); have n3_ := Aside0.mk ((by rw [hg]; exact (below_size hb_) : w.heap.size ≤ gb111)); clear HB; have HB := n0_; have BK111 := n1_; have GW111 := n2_; have GE111 := n3_; clear n0_ n1_ n2_ n3_; clear hb hbox hg; have hcz5_0 : w4.cell? ⟨gb111, 0, none⟩ = some (.int .i64 a0_0) := (blk_cell BK111.out 0).trans rfl; have hcz5_1 : w4.cell? ⟨gb111, 1, none⟩ = some (.int .i64 a0_1) := (blk_cell BK111.out 1).trans rfl; have hfz5_0 := blk_frozen BK111.out 0; have hfz5_1 := blk_frozen BK111.out 1) | ((with_reducible refine gate_callee (f := 123) rfl ?_); refine gl_ 4 Tryd.func123 #[.agg #[.int .i64 a0_0, .int .i64 a0_1]] ?_; (with_reducible refine (clock_may.calls a0_0 a0_1 true _ A2.out).mono ?_); rintro e w6 ⟨rfl, hb⟩; refine ⟨_, rfl, ?_⟩; have n0_ := Aside0.mk (blk_below (g := gb111) (o := .cells #[.int .i64 a0_0, .int .i64 a0_1] 26 (0, 0)) (by (with_reducible repeat (first | refine blk_drewN ?_ _ | refine blk_drew ?_ | refine blk_alloc ?_ _)); exact BK111.out) hb); have n1_ := Aside0.mk (below_step (by repeat (first | (with_reducible first | exact HB.out | apply below_alloc | apply pw_below_drewN | apply below_drew1 | refine below_set ?_ GE111.out) | exact HB.out)) hb); clear BK111; clear HB; have BK111 := n0_; have HB := n1_; clear n0_ n1_))
  go_ret
  exact ⟨ew_, by repeat (first | (with_reducible first | exact HB.out | apply below_alloc | apply pw_below_drewN | apply below_drew1 | refine below_set ?_ GE111.out) | exact HB.out)⟩
 ·replace c3 := Bool.eq_false_iff.mpr c3; subst c3; have H1 : (some 1) = some r := by rw [if_neg (show ¬ (false = true) by decide)] at H; exact H
  clear H; have H := H1; clear H1; obtain rfl := Option.some.inj H; go_enter Tryd.func115, Tryd.ntmps115
  go_wp2_with (first | ((with_reducible refine gate_dst (N := 1) rfl ?_); refine box_event ?hg (N := 1) ?hd (cs := #[.int .i64 a0_0, .int .i64 a0_1]) (t := 26) ?hr ?_; (case hd => rfl); (case hg => rfl); (case hr => first | (go_simp; done) | (go_simp; rfl)); intro gb111 hg w7 hbox hb; have n0_ := Aside0.mk (below_step hb_ hb); have n1_ := Aside0.mk (hbox); have n2_ := Aside0.mk ((by rw [hg]; exact (below_size hb_) : w.heap.size ≤ gb111)); have n3_ := Aside0.mk ((by rw [hg]; exact (below_size hb_) : w.heap.size ≤ gb111)); clear HB; have HB := n0_; have BK111 := n1_; have GW111 := n2_; have GE111 := n3_; clear n0_ n1_ n2_ n3_; clear hb hbox hg; have hcz8_0 : w7.cell? ⟨gb111, 0, none⟩ = some (.int .i64 a0_0) := (blk_cell BK111.out 0).trans rfl; have hcz8_1 : w7.cell? ⟨gb111, 1, none⟩ = some (.int .i64 a0_1) := (blk_cell BK111.out 1).trans rfl; have hfz8_0 := blk_frozen BK111.out 0; have hfz8_1 := blk_frozen BK111.out 1) | ((with_reducible refine gate_callee (f := 123) rfl ?_); refine gl_ 4 Tryd.func123 #[.agg #[.int .i64 a0_0, .int .i64 a0_1]] ?_; (with_reducible refine (clock_may.calls a0_0 a0_1 false _ A2.out).mono ?_); rintro e w9 ⟨rfl, hb⟩; refine ⟨_, rfl, ?_⟩; have n0_ := Aside0.mk (blk_below (g := gb111) (o := .cells #[.int .i64 a0_0, .int .i64 a0_1] 26 (0, 0)) (by (with_reducible repeat (first | refine blk_drewN ?_ _ | refine blk_drew ?_ | refine blk_alloc ?_ _)); exact BK111.out) hb); have n1_ := Aside0.mk (below_step (by repeat (first | (with_reducible first | exact HB.out | apply below_alloc | apply pw_below_drewN | apply below_drew1 | refine below_set ?_ GE111.out) | exact HB.out)) hb); clear BK111; clear HB; have BK111 := n0_; have HB := n1_; clear n0_ n1_))
  go_ret
  exact ⟨ew_, by repeat (first | (with_reducible first | exact HB.out | apply below_alloc | apply pw_below_drewN | apply below_drew1 | refine below_set ?_ GE111.out) | exact HB.out)⟩
def tree_fine.f (a0_0 : Int) (a0_1 : Int) : Option (Bool) := (clock_Check.f a0_0 a0_1).bind fun t114 => (some (t114 == 0))
set_option maxHeartbeats 8000000 in
set_option maxRecDepth 100000 in
theorem tree_fine.calls (a0_0 : Int) (a0_1 : Int) (r : Bool) (w : World) (h : tree_fine.f a0_0 a0_1 = some r) :
  Calls Tryd.prog 101 #[.agg #[.int .i64 a0_0, .int .i64 a0_1]] w fun e w' => e = .returned (.bool r) ∧ Below w.heap.size w w' := by
 have hu26 := Tryd.underlying26; have HB := Aside0.mk (Below.refl w.heap.size w); have H : ((clock_Check.f a0_0 a0_1).bind fun t114 => (some (t114 == 0))) = some r := h; clear h; replace H := Option.bind_eq_some_iff.mp H; obtain ⟨t114, A20, H⟩ := H; have A2 := Aside0.mk A20; clear A20; obtain rfl := Option.some.inj H; go_enter Tryd.func101, Tryd.ntmps101
 go_wp2_with (first | ((with_reducible refine gate_dst (N := 1) rfl ?_); refine box_event ?hg (N := 1) ?hd (cs := #[.int .i64 a0_0, .int .i64 a0_1]) (t := 26) ?hr ?_; (case hd => rfl); (case hg => rfl); (case hr => first | (go_simp; done) | (go_simp; rfl)); intro gb113 hg w3 hbox hb; have n0_ := Aside0.mk (below_step hb_ hb); have n1_ := Aside0.mk (hbox); have n2_ := Aside0.mk ((by rw [hg]; exact (below_size hb_) : w.heap.size ≤ gb113)); have n3_ := Aside0.mk ((by rw [hg]; exact (below_size hb_) : w.heap.size ≤ gb113)); clear HB; have HB := n0_; have BK113 := n1_; have GW113 := n2_; have GE113 := n3_; clear n0_ n1_ n2_ n3_; clear hb hbox hg; have hcz4_0 : w3.cell? ⟨gb113, 0, none⟩ = some (.int .i64 a0_0) := (blk_cell BK113.out 0).trans rfl; have hcz4_1 : w3.cell? ⟨gb113, 1, none⟩ = some (.int .i64 a0_1) := (blk_cell BK113.out 1).trans rfl; have hfz4_0 := blk_frozen BK113.out 0; have hfz4_1 := blk_frozen BK113.out 1) | ((with_reducible refine gate_callee (f := 115) rfl ?_); refine gl_ 4 Tryd.func115 #[.agg #[.int .i64 a0_0, .int .i64 a0_1]] ?_; (with_reducible refine (clock_Check.calls a0_0 a0_1 t114 _ A2.out).mono ?_); rintro e w5 ⟨rfl, hb⟩; refine ⟨_, rfl, ?_⟩; have n0_ := Aside0.mk (blk_below (g := gb113) (o := .cells #[.int .i64 a0_0, .int .i64 a0_1] 26 (0, 0)) (by (with_reducible repeat (first | refine blk_drewN ?_ _ | refine blk_drew ?_ | refine blk_alloc ?_ _)); exact BK113.out) hb); have n1_ := Aside0.mk (below_step (by repeat (first | (with_reducible first | exact HB.out | apply below_alloc | apply pw_below_drewN | apply below_drew1 | refine below_set ?_ GE113.out) | exact HB.out)) hb); clear BK113; clear HB; have BK113 := n0_; have HB := n1_; clear n0_ n1_))
 go_ret
 exact ⟨ew_, by repeat (first | (with_reducible first | exact HB.out | apply below_alloc | apply pw_below_drewN | apply below_drew1 | refine below_set ?_ GE113.out) | exact HB.out)⟩
theorem eqA26 (d : Nat) (w : World) (x0 y0 : Int) (x1 y1 : Int) :
  (Op.equalIn (d + 2) 26 (.agg #[.int .i64 x0, .int .i64 x1]) (.agg #[.int .i64 y0, .int .i64 y1])).run Tryd.prog w = .ok (x0 == y0 && (x1 == y1)) w := by
 refine eqA_of Tryd.underlying26 (by kernel_rfl) ?_; refine eqf_cons (by rfl) (by go_simp; rfl) (by go_simp; rfl) (by go_simp) ?_; exact eqf_last (by rfl) (by go_simp; rfl) (by go_simp; rfl) (by go_simp)
end Go.Proofs.YthemhfloablccaaDoor.Pr
end

section
namespace Go.Proofs.YthemhfloablccaaDoor.Pr
open Go.RowKit Go.Proofs.YthemhfloablccaaDoorW.PrintWords Go.Proofs.YthemhfloablccaaDoorW.PrintLast Go.Proofs.YthemhfloablccaaDoorW.PrintMore
attribute [local go_sem] max2_int min2_int max_two min_two max_three min_three max_four min_four
attribute [local go_sem high] eqA26
def tree_outer.f (a0_0 : Int) (a0_1 : Int) : Option (Bool) := if (a0_0 == 0 && (a0_1 == 0)) = true then (some true) else (some (a0_0 == 0 && (a0_1 == 1)))
set_option maxHeartbeats 8000000 in
set_option maxRecDepth 100000 in
theorem tree_outer.calls (a0_0 : Int) (a0_1 : Int) (r : Bool) (w : World) (h : tree_outer.f a0_0 a0_1 = some r) :
  Calls Tryd.prog 103 #[.agg #[.int .i64 a0_0, .int .i64 a0_1]] w fun e w' => e = .returned (.bool r) ∧ Below w.heap.size w w' := by
 have hu26 := Tryd.underlying26; have HB := Aside0.mk (Below.refl w.heap.size w); have H : (if (a0_0 == 0 && (a0_1 == 0)) = true then (some true) else (some (a0_0 == 0 && (a0_1 == 1)))) = some r := h; clear h; by_cases c2 : (a0_0 == 0 && (a0_1 == 0)) = true
 ·rw [if_pos c2] at H; have c2b0 : (a0_0 == 0 && (a0_1 == 0)) = true := c2
  (try (have c2b1 : decide (a0_0 = 0 && (a0_1 == 0)) = true := by simpa using c2))
  (try (have c2b2 : (a0_0 == 0 && (a0_1 == 0)) = true := by simpa using c2))
  clear c2; obtain rfl := Option.some.inj H; go_enter Tryd.func103, Tryd.ntmps103
  go_wp2_with (first | ((with_reducible refine gate_dst (N := 1) rfl ?_); refine box_event ?hg (N := 1) ?hd (cs := #[.int .i64 a0_0, .int .i64 a0_1]) (t := 26) ?hr ?_; (case hd => rfl); (case hg => rfl); (case hr => first | (go_simp; done) | (go_simp; rfl)); intro gb115 hg w3 hbox hb; have n0_ := Aside0.mk (below_step hb_ hb); have n1_ := Aside0.mk (hbox); have n2_ := Aside0.mk ((by rw [hg]; exact (below_size hb_) : w.heap.size ≤ gb115)); have n3_ := Aside0.mk ((by rw [hg]; exact (below_size hb_) : w.heap.size ≤ gb115)); clear HB; have HB := n0_; have BK115 := n1_; have GW115 := n2_; have GE115 := n3_; clear n0_ n1_ n2_ n3_; clear hb hbox hg; have hcz4_0 : w3.cell? ⟨gb115, 0, none⟩ = some (.int .i64 a0_0) := (blk_cell BK115.out 0).trans rfl; have hcz4_1 : w3.cell? ⟨gb115, 1, none⟩ = some (.int .i64 a0_1) := (blk_cell BK115.out 1).trans rfl; have hfz4_0 := blk_frozen BK115.out 0; have hfz4_1 := blk_frozen BK115.out 1))
  go_ret
  exact ⟨ew_, by repeat (first | (with_reducible first | exact HB.out | apply below_alloc | apply pw_below_drewN | apply below_drew1 | refine below_set ?_ GE115.out) | exact HB.out)⟩
 ·rw [if_neg c2] at H; have c2b0 : (a0_0 == 0 && (a0_1 == 0)) = false := by simpa using c2
  (try (have c2b1 : decide (a0_0 = 0 && (a0_1 == 0)) = false := by simpa using c2))
  (try (have c2b2 : (a0_0 == 0 && (a0_1 == 0)) = false := by simpa using c2))
  (try (have c2b3 : ¬ (a0_0 = 0 && (a0_1 == 0)) := by simpa using c2))
  clear c2; obtain rfl := Option.some.inj H; go_enter Tryd.func103, Tryd.ntmps103
  go_wp2_with (first | ((with_reducible refine gate_dst (N := 1) rfl ?_); refine box_event ?hg (N := 1) ?hd (cs := #[.int .i64 a0_0, .int .i64 a0_1]) (t := 26) ?hr ?_; (case hd => rfl); (case hg => rfl); (case hr => first | (go_simp; done) | (go_simp; rfl)); intro gb115 hg w5 hbox hb; have n0_ := Aside0.mk (below_step hb_ hb); have n1_ := Aside0.mk (hbox); have n2_ := Aside0.mk ((by rw [hg]; exact (below_size hb_) : w.heap.size ≤ gb115)); have n3_ := Aside0.mk ((by rw [hg]; exact (below_size hb_) : w.heap.size ≤ gb115)); clear HB; have HB := n0_; have BK115 := n1_; have GW115 := n2_; have GE115 := n3_; clear n0_ n1_ n2_ n3_; clear hb hbox hg; have hcz6_0 : w5.cell? ⟨gb115, 0, none⟩ = some (.int .i64 a0_0) := (blk_cell BK115.out 0).trans rfl; have hcz6_1 : w5.cell? ⟨gb115, 1, none⟩ = some (.int .i64 a0_1) := (blk_cell BK115.out 1).trans rfl; have hfz6_0 := blk_frozen BK115.out 0; have hfz6_1 := blk_frozen BK115.out 1))
  go_ret
  exact ⟨ew_, by repeat (first | (with_reducible first | exact HB.out | apply below_alloc | apply pw_below_drewN | apply below_drew1 | refine below_set ?_ GE115.out) | exact HB.out)⟩
end Go.Proofs.YthemhfloablccaaDoor.Pr
end

section
namespace Go.Proofs.YthemhfloablccaaDoor.Pr
open Go.RowKit Go.Proofs.YthemhfloablccaaDoorW.PrintWords Go.Proofs.YthemhfloablccaaDoorW.PrintLast Go.Proofs.YthemhfloablccaaDoorW.PrintMore
attribute [local go_sem] max2_int min2_int max_two min_two max_three min_three max_four min_four
theorem eqA28 (d : Nat) (w : World) (x0 y0 : Int) (x1 y1 : Int) (x2 y2 : Int) (x3 y3 : Int) (x4 y4 : Int) (x5 y5 : Int) (x6 y6 : Int) (x7 y7 : ByteArray) (x8 y8 : ByteArray) :
  (Op.equalIn (d + 3) 28 (.agg #[.int .i64 x0, .int .i64 x1, .int .i64 x2, .int .i64 x3, .int .i64 x4, .int .i64 x5, .int .i64 x6, .string x7, .string x8]) (.agg #[.int .i64 y0, .int .i64 y1, .int .i64 y2, .int .i64 y3, .int .i64 y4, .int .i64 y5, .int .i64 y6, .string y7, .string y8])).run Tryd.prog w = .ok (x0 == y0 && ((x1 == y1 && (x2 == y2)) && ((x3 == y3 && (x4 == y4)) && ((x5 == y5 && (x6 == y6)) && (x7.toList == y7.toList && (x8.toList == y8.toList)))))) w := by
 refine eqA_of Tryd.underlying28 (by kernel_rfl) ?_; refine eqf_cons (by rfl) (by go_simp; rfl) (by go_simp; rfl) (by go_simp) ?_; refine eqf_cons (by rfl) (by go_simp) (by go_simp) (eqA26 (d + 0) w _ _ _ _) ?_; refine eqf_cons (by rfl) (by go_simp) (by go_simp) (eqA26 (d + 0) w _ _ _ _) ?_; refine eqf_cons (by rfl) (by go_simp) (by go_simp) (eqA26 (d + 0) w _ _ _ _) ?_; refine eqf_cons (by rfl) (by go_simp; rfl) (by go_simp; rfl) (by go_simp) ?_; exact eqf_last (by rfl) (by go_simp; rfl) (by go_simp; rfl) (by go_simp)
end Go.Proofs.YthemhfloablccaaDoor.Pr
end

section
namespace Go.Proofs.YthemhfloablccaaDoor.Pr
open Go.RowKit Go.Deep Go.Proofs.YthemhfloablccaaDoorW.PrintWords Go.Proofs.YthemhfloablccaaDoorW.PrintLast Go.Proofs.YthemhfloablccaaDoorW.PrintMore
set_option maxHeartbeats 8000000
attribute [local go_sem high] eqA26 eqA28
def fineB (t w : Int) : Bool := decide (1 ≤ t ∧ t ≤ 1099511627775 ∧ 1 ≤ w ∧ w ≤ 6)
def outerB (t w : Int) : Bool := (t == 0 && w == 0) || (t == 0 && w == 1)
theorem fine_f (t w : Int) : tree_fine.f t w = some (fineB t w) := by
 unfold tree_fine.f clock_Check.f clock_may.f fineB
 by_cases h1 : t ≥ 1
 ·by_cases h2 : t ≤ 1099511627775
  ·by_cases h3 : w ≥ 1
   ·by_cases h4 : w ≤ 6
    ·rw [if_pos h1, if_pos h2, if_pos h3, decide_eq_true h4, decide_eq_true ⟨h1, h2, h3, h4⟩]; rfl
    ·rw [if_pos h1, if_pos h2, if_pos h3, decide_eq_false h4, decide_eq_false (fun q => h4 q.2.2.2)]; rfl
   ·rw [if_pos h1, if_pos h2, if_neg h3, decide_eq_false (fun q => h3 q.2.2.1)]; rfl
  ·rw [if_pos h1, if_neg h2, decide_eq_false (fun q => h2 q.2.1)]; rfl
 ·rw [if_neg h1, decide_eq_false (fun q => h1 q.1)]; rfl
theorem outer_f (t w : Int) : tree_outer.f t w = some (outerB t w) := by
 unfold tree_outer.f outerB
 by_cases h : (t == 0 && (w == 0)) = true
 ·rw [if_pos h, h]; rfl
 ·rw [if_neg h, Bool.eq_false_iff.2 h]; rfl
theorem fine_calls (t v : Int) (w : World) : Calls Tryd.prog 101 #[.agg #[.int .i64 t, .int .i64 v]] w fun e w' => e = .returned (.bool (fineB t v)) ∧ Below w.heap.size w w' := tree_fine.calls t v _ w (fine_f t v)
theorem outer_calls (t v : Int) (w : World) : Calls Tryd.prog 103 #[.agg #[.int .i64 t, .int .i64 v]] w fun e w' => e = .returned (.bool (outerB t v)) ∧ Below w.heap.size w w' := tree_outer.calls t v _ w (outer_f t v)
def nmV (kind : Int) (nm : ByteArray) (ok : Bool) : Option Bool := if (kind = 1 ∨ kind = 3) ∧ ok = true then (name_Check.f nm).map (· == 0) else some ok
def finOk (kind : Int) (ok : Bool) (val : ByteArray) : Bool := if kind = 4 then ok && decide ((val.size : Int) ≤ 64) else if kind = 1 ∨ kind = 2 ∨ kind = 3 ∨ kind = 5 then ok else false
def finPa (kind : Int) (ok : Bool) (p1 p2 : Int) : Bool := if kind = 1 ∨ kind = 2 then ok && (outerB p1 p2 || fineB p1 p2) else ok
def restB (q1 q2 : Int) (nm val : ByteArray) : Bool := !(q1 == 0) || !(q2 == 0) || !(nm.toList == ([] : List UInt8)) || !(val.toList == ([] : List UInt8))
abbrev nmR (kind : Int) (nm : ByteArray) : ByteArray := if kind = 1 ∨ kind = 3 then ⟨#[]⟩ else nm
abbrev vlR (kind : Int) (val : ByteArray) : ByteArray := if kind = 4 then ⟨#[]⟩ else val
def finV (kind : Int) (ok : Bool) (p1 p2 : Int) (nm val : ByteArray) : Int :=
 if (!(finPa kind (finOk kind ok val) p1 p2) || restB (if kind = 1 ∨ kind = 2 then 0 else p1) (if kind = 1 ∨ kind = 2 then 0 else p2) (nmR kind nm) (vlR kind val)) = true then 1 else 0
def tree_Check.f (a0_0 a0_1 a0_2 a0_3 a0_4 a0_5 a0_6 : Int) (a0_7 a0_8 : ByteArray) : Option Int :=
 (nmV a0_0 a0_7 (if a0_0 = 1 then (fineB a0_1 a0_2 && fineB a0_3 a0_4) && (a0_3 == a0_1 && a0_4 == a0_2) else fineB a0_1 a0_2 && fineB a0_3 a0_4)).map fun b => finV a0_0 b a0_5 a0_6 a0_7 a0_8
abbrev opRow (kind t1 t2 n1 n2 p1 p2 : Int) (nm val : ByteArray) : Array Value := #[.int .i64 kind, .int .i64 t1, .int .i64 t2, .int .i64 n1, .int .i64 n2, .int .i64 p1, .int .i64 p2, .string nm, .string val]
def TS (w : World) (g1 g2 : Nat) (o r : Array Value) (wx : World) : Prop :=
 Below w.heap.size w wx ∧ wx.heap[g1]? = some (.cells o 28 (0, 0)) ∧ wx.heap[g2]? = some (.cells r 28 (0, 0)) ∧ w.heap.size ≤ g2 ∧ g1 ≠ g2
theorem TS.set {w wx : World} {g1 g2 : Nat} {o r r' : Array Value} (h : TS w g1 g2 o r wx) (i : Nat) (v : Value) (e : r.setIfInBounds i v = r') : TS w g1 g2 o r' (wx.setCell ⟨g2, i, none⟩ v) :=
 ⟨below_set h.1 h.2.2.2.1, blk_far h.2.1 h.2.2.2.2 _, blk_put h.2.2.1 i v e, h.2.2.2.1, h.2.2.2.2⟩
theorem TS.below {w wx w' : World} {g1 g2 : Nat} {o r : Array Value} (h : TS w g1 g2 o r wx) (hb : Below wx.heap.size wx w') : TS w g1 g2 o r w' :=
 ⟨below_then h.1 h.1.size hb, blk_below h.2.1 hb, blk_below h.2.2.1 hb, h.2.2.2.1, h.2.2.2.2⟩
theorem nm_cases {kind : Int} {nm : ByteArray} {ok : Bool} {F : Bool → Int} {r : Int} (h : (nmV kind nm ok).map F = some r) :
  (((kind = 1 ∨ kind = 3) ∧ ok = true) → ∃ q, name_Check.f nm = some q ∧ F (q == 0) = r) ∧ (¬ ((kind = 1 ∨ kind = 3) ∧ ok = true) → F ok = r) := by
 unfold nmV at h
 by_cases hc : (kind = 1 ∨ kind = 3) ∧ ok = true
 ·rw [if_pos hc] at h
  refine ⟨fun _ => ?_, fun q => absurd hc q⟩
  rcases hq : name_Check.f nm with _ | q
  ·rw [hq] at h; cases h
  ·rw [hq] at h; exact ⟨q, rfl, Option.some.inj h⟩
 ·rw [if_neg hc] at h
  exact ⟨fun q => absurd q hc, fun _ => Option.some.inj h⟩
abbrev bigB (x0 x1 x2 x3 x4 x5 x6 : Int) (x7 x8 : ByteArray) : Bool := (!(x0 == 0) || ((!(x1 == 0) || (!(x2 == 0))) || ((!(x3 == 0) || (!(x4 == 0))) || ((!(x5 == 0) || (!(x6 == 0))) || (!(x7.toList == ([] : List UInt8)) || (!(x8.toList == ([] : List UInt8))))))))
theorem big_false (x0 x1 x2 x3 x4 x5 x6 : Int) (x7 x8 : ByteArray) : ((!(x0 == 0)) = false ∧ ((!(x1 == 0)) = false ∧ (!(x2 == 0)) = false) ∧ ((!(x3 == 0)) = false ∧ (!(x4 == 0)) = false) ∧ ((!(x5 == 0)) = false ∧ (!(x6 == 0)) = false) ∧ (!x7.toList.isEmpty) = false ∧ (!x8.toList.isEmpty) = false) ↔ bigB x0 x1 x2 x3 x4 x5 x6 x7 x8 = false := by
 have e : ∀ l : List UInt8, (l == []) = l.isEmpty := fun l => by cases l <;> rfl
 simp only [bigB, Bool.or_eq_false_iff, e]
theorem big_true (x0 x1 x2 x3 x4 x5 x6 : Int) (x7 x8 : ByteArray) : ((!(x0 == 0)) = true ∨ ((!(x1 == 0)) = true ∨ (!(x2 == 0)) = true) ∨ ((!(x3 == 0)) = true ∨ (!(x4 == 0)) = true) ∨ ((!(x5 == 0)) = true ∨ (!(x6 == 0)) = true) ∨ (!x7.toList.isEmpty) = true ∨ (!x8.toList.isEmpty) = true) ↔ bigB x0 x1 x2 x3 x4 x5 x6 x7 x8 = true := by
 have e : ∀ l : List UInt8, (l == []) = l.isEmpty := fun l => by cases l <;> rfl
 simp only [bigB, Bool.or_eq_true, e]
theorem big_rest (x5 x6 : Int) (x7 x8 : ByteArray) : bigB 0 0 0 0 0 x5 x6 x7 x8 = restB x5 x6 x7 x8 := by
 unfold bigB restB
 simp [Bool.or_assoc]
set_option maxRecDepth 100000 in
theorem tree_Check.calls (a0_0 a0_1 a0_2 a0_3 a0_4 a0_5 a0_6 : Int) (a0_7 a0_8 : ByteArray) (r : Int) (w : World) (h : tree_Check.f a0_0 a0_1 a0_2 a0_3 a0_4 a0_5 a0_6 a0_7 a0_8 = some r) :
  Calls Tryd.prog 76 #[.agg #[.int .i64 a0_0, .int .i64 a0_1, .int .i64 a0_2, .int .i64 a0_3, .int .i64 a0_4, .int .i64 a0_5, .int .i64 a0_6, .string a0_7, .string a0_8]] w fun e w' => e = .returned (.int .i64 r) ∧ Below w.heap.size w w' := by
 have hu1 := Tryd.underlying28
 have hu2 := Tryd.underlying26
 unfold tree_Check.f at h
 have HF1 := Aside0.mk (fine_calls a0_1 a0_2)
 have HF2 := Aside0.mk (fine_calls a0_3 a0_4)
 have HF3 := Aside0.mk (fine_calls a0_5 a0_6)
 have HO := Aside0.mk (outer_calls a0_5 a0_6)
 generalize hf1 : fineB a0_1 a0_2 = f1 at HF1 h
 generalize hf2 : fineB a0_3 a0_4 = f2 at HF2 h
 have HH := Aside0.mk h
 have HB := Aside0.mk (Below.refl w.heap.size w)
 clear h hf1 hf2
 go_enter Tryd.func76, Tryd.ntmps76
 go_upto_region 1 with (first | ((with_reducible refine gate_dst (N := 1) rfl ?_); (try (refine gate_guard (by rfl) ?_; dsimp only)); refine box_event ?hg (N := 1) ?hd (cs := opRow a0_0 a0_1 a0_2 a0_3 a0_4 a0_5 a0_6 a0_7 a0_8) (t := 28) ?hr ?_; (case hd => rfl); (case hg => rfl); (case hr => first | (go_simp; done) | (go_simp; rfl)); intro g1 hg w3 hbox hb; have HB1 := Aside0.mk (below_step HB.out hb); have HN1 := Aside0.mk hbox; have HG1 := Aside0.mk (show w.heap.size ≤ g1 by rw [hg]; exact Nat.le_refl _); clear hb hbox hg))
 (try simp only [Act.put, List.setIfInBounds_toArray, List.set_cons_zero, List.set_cons_succ])
 go_cut [3] (fun s3 wx => s3 = .bool (f1 && f2) ∧ Aside0 (Below w.heap.size w wx) ∧ Aside0 (wx.heap[g1]? = some (.cells (opRow a0_0 a0_1 a0_2 a0_3 a0_4 a0_5 a0_6 a0_7 a0_8) 28 (0, 0))))
 case first =>
  have c1 : w3.cell? ⟨g1, 1, none⟩ = some (.int .i64 a0_1) := (blk_cell HN1.out 1).trans rfl
  have c2 : w3.cell? ⟨g1, 2, none⟩ = some (.int .i64 a0_2) := (blk_cell HN1.out 2).trans rfl
  go_wp2_with (fail)
  refine (HF1.out _).mono ?_
  rintro e w1 ⟨rfl, hb1⟩
  have HB2 := Aside0.mk (below_then HB1.out HB1.out.size hb1)
  have HN2 := Aside0.mk (blk_below HN1.out hb1)
  have c3 : w1.cell? ⟨g1, 3, none⟩ = some (.int .i64 a0_3) := (blk_cell HN2.out 3).trans rfl
  have c4 : w1.cell? ⟨g1, 4, none⟩ = some (.int .i64 a0_4) := (blk_cell HN2.out 4).trans rfl
  clear hb1 c1 c2
  cases f1
  ·go_wp2_with (fail)
   go_meet
   exact ⟨rfl, HB2, HN2⟩
  ·go_wp2_with (fail)
   refine (HF2.out _).mono ?_
   rintro e w2 ⟨rfl, hb2⟩
   have HB3 := Aside0.mk (below_then HB2.out HB2.out.size hb2)
   have HN3 := Aside0.mk (blk_below HN2.out hb2)
   clear hb2 c3 c4
   go_wp2_with (fail)
   go_meet
   exact ⟨rfl, HB3, HN3⟩
 case rest =>
  obtain ⟨rfl, HB4, HR⟩ := hcut
  clear HB1 HN1
  have c0 : wc.cell? ⟨g1, 0, none⟩ = some (.int .i64 a0_0) := (blk_cell HR.out 0).trans rfl
  have c1 : wc.cell? ⟨g1, 1, none⟩ = some (.int .i64 a0_1) := (blk_cell HR.out 1).trans rfl
  have c2 : wc.cell? ⟨g1, 2, none⟩ = some (.int .i64 a0_2) := (blk_cell HR.out 2).trans rfl
  have c3 : wc.cell? ⟨g1, 3, none⟩ = some (.int .i64 a0_3) := (blk_cell HR.out 3).trans rfl
  have c4 : wc.cell? ⟨g1, 4, none⟩ = some (.int .i64 a0_4) := (blk_cell HR.out 4).trans rfl
  have c5 : wc.cell? ⟨g1, 5, none⟩ = some (.int .i64 a0_5) := (blk_cell HR.out 5).trans rfl
  have c6 : wc.cell? ⟨g1, 6, none⟩ = some (.int .i64 a0_6) := (blk_cell HR.out 6).trans rfl
  have c7 : wc.cell? ⟨g1, 7, none⟩ = some (.string a0_7) := (blk_cell HR.out 7).trans rfl
  have c8 : wc.cell? ⟨g1, 8, none⟩ = some (.string a0_8) := (blk_cell HR.out 8).trans rfl
  go_upto_block 0 with (first | ((with_reducible refine gate_dst (N := 4) rfl ?_); (try (refine gate_guard (by rfl) ?_; dsimp only)); refine box_event ?hg (N := 4) ?hd (cs := #[.int .i64 0, .int .i64 0, .int .i64 0, .int .i64 0, .int .i64 0, .int .i64 0, .int .i64 0, .string (⟨#[]⟩ : ByteArray), .string (⟨#[]⟩ : ByteArray)]) (t := 28) ?hr ?_; (case hd => rfl); (case hg => rfl); (case hr => first | (go_simp; done) | (go_simp; rfl)); intro g2 hg w4 hbox hb; have T0 := Aside0.mk (show TS w g1 g2 (opRow a0_0 a0_1 a0_2 a0_3 a0_4 a0_5 a0_6 a0_7 a0_8) _ w4 from ⟨below_step HB4.out hb, blk_below HR.out hb, hbox, by rw [hg]; exact HB4.out.size, by rw [hg]; exact Nat.ne_of_lt (blk_lt HR.out)⟩); clear c0 c1 c2 c3 c4 c5 c6 c7 c8 HB4 HR hb hbox hg ; have nn := T0.out.2.2.2.2; have c0 : w4.cell? ⟨g1, 0, none⟩ = some (.int .i64 a0_0) := (blk_cell T0.out.2.1 0).trans rfl; have d0 : w4.cell? ⟨g2, 0, none⟩ = some (.int .i64 0) := (blk_cell T0.out.2.2.1 0).trans rfl; have d1 : w4.cell? ⟨g2, 1, none⟩ = some (.int .i64 0) := (blk_cell T0.out.2.2.1 1).trans rfl; have d2 : w4.cell? ⟨g2, 2, none⟩ = some (.int .i64 0) := (blk_cell T0.out.2.2.1 2).trans rfl; have d3 : w4.cell? ⟨g2, 3, none⟩ = some (.int .i64 0) := (blk_cell T0.out.2.2.1 3).trans rfl; have d4 : w4.cell? ⟨g2, 4, none⟩ = some (.int .i64 0) := (blk_cell T0.out.2.2.1 4).trans rfl; have d5 : w4.cell? ⟨g2, 5, none⟩ = some (.int .i64 0) := (blk_cell T0.out.2.2.1 5).trans rfl; have d6 : w4.cell? ⟨g2, 6, none⟩ = some (.int .i64 0) := (blk_cell T0.out.2.2.1 6).trans rfl; have d7 : w4.cell? ⟨g2, 7, none⟩ = some (.string (⟨#[]⟩ : ByteArray)) := (blk_cell T0.out.2.2.1 7).trans rfl; have d8 : w4.cell? ⟨g2, 8, none⟩ = some (.string (⟨#[]⟩ : ByteArray)) := (blk_cell T0.out.2.2.1 8).trans rfl ; have z0 := blk_frozen T0.out.2.2.1 0; have z1 := blk_frozen T0.out.2.2.1 1; have z2 := blk_frozen T0.out.2.2.1 2; have z3 := blk_frozen T0.out.2.2.1 3; have z4 := blk_frozen T0.out.2.2.1 4; have z5 := blk_frozen T0.out.2.2.1 5; have z6 := blk_frozen T0.out.2.2.1 6; have z7 := blk_frozen T0.out.2.2.1 7; have z8 := blk_frozen T0.out.2.2.1 8))
  (try simp only [Act.put, List.setIfInBounds_toArray, List.set_cons_zero, List.set_cons_succ])
  have t := T0.out
  replace t := TS.set (r' := #[.int .i64 a0_0, .int .i64 0, .int .i64 0, .int .i64 0, .int .i64 0, .int .i64 0, .int .i64 0, .string (⟨#[]⟩ : ByteArray), .string (⟨#[]⟩ : ByteArray)]) t 0 (.int .i64 a0_0) rfl
  replace t := TS.set (r' := #[.int .i64 a0_0, .int .i64 a0_1, .int .i64 0, .int .i64 0, .int .i64 0, .int .i64 0, .int .i64 0, .string (⟨#[]⟩ : ByteArray), .string (⟨#[]⟩ : ByteArray)]) t 1 (.int .i64 a0_1) rfl
  replace t := TS.set (r' := #[.int .i64 a0_0, .int .i64 a0_1, .int .i64 a0_2, .int .i64 0, .int .i64 0, .int .i64 0, .int .i64 0, .string (⟨#[]⟩ : ByteArray), .string (⟨#[]⟩ : ByteArray)]) t 2 (.int .i64 a0_2) rfl
  replace t := TS.set (r' := #[.int .i64 a0_0, .int .i64 a0_1, .int .i64 a0_2, .int .i64 a0_3, .int .i64 0, .int .i64 0, .int .i64 0, .string (⟨#[]⟩ : ByteArray), .string (⟨#[]⟩ : ByteArray)]) t 3 (.int .i64 a0_3) rfl
  replace t := TS.set (r' := #[.int .i64 a0_0, .int .i64 a0_1, .int .i64 a0_2, .int .i64 a0_3, .int .i64 a0_4, .int .i64 0, .int .i64 0, .string (⟨#[]⟩ : ByteArray), .string (⟨#[]⟩ : ByteArray)]) t 4 (.int .i64 a0_4) rfl
  replace t := TS.set (r' := #[.int .i64 a0_0, .int .i64 a0_1, .int .i64 a0_2, .int .i64 a0_3, .int .i64 a0_4, .int .i64 a0_5, .int .i64 0, .string (⟨#[]⟩ : ByteArray), .string (⟨#[]⟩ : ByteArray)]) t 5 (.int .i64 a0_5) rfl
  replace t := TS.set (r' := #[.int .i64 a0_0, .int .i64 a0_1, .int .i64 a0_2, .int .i64 a0_3, .int .i64 a0_4, .int .i64 a0_5, .int .i64 a0_6, .string (⟨#[]⟩ : ByteArray), .string (⟨#[]⟩ : ByteArray)]) t 6 (.int .i64 a0_6) rfl
  replace t := TS.set (r' := #[.int .i64 a0_0, .int .i64 a0_1, .int .i64 a0_2, .int .i64 a0_3, .int .i64 a0_4, .int .i64 a0_5, .int .i64 a0_6, .string a0_7, .string (⟨#[]⟩ : ByteArray)]) t 7 (.string a0_7) rfl
  replace t := TS.set (r' := #[.int .i64 a0_0, .int .i64 a0_1, .int .i64 a0_2, .int .i64 a0_3, .int .i64 a0_4, .int .i64 a0_5, .int .i64 a0_6, .string a0_7, .string a0_8]) t 8 (.string a0_8) rfl
  replace t := TS.set (r' := #[.int .i64 0, .int .i64 a0_1, .int .i64 a0_2, .int .i64 a0_3, .int .i64 a0_4, .int .i64 a0_5, .int .i64 a0_6, .string a0_7, .string a0_8]) t 0 (.int .i64 0) rfl
  replace t := TS.set (r' := #[.int .i64 0, .int .i64 0, .int .i64 a0_2, .int .i64 a0_3, .int .i64 a0_4, .int .i64 a0_5, .int .i64 a0_6, .string a0_7, .string a0_8]) t 1 (.int .i64 0) rfl
  replace t := TS.set (r' := #[.int .i64 0, .int .i64 0, .int .i64 0, .int .i64 a0_3, .int .i64 a0_4, .int .i64 a0_5, .int .i64 a0_6, .string a0_7, .string a0_8]) t 2 (.int .i64 0) rfl
  replace t := TS.set (r' := #[.int .i64 0, .int .i64 0, .int .i64 0, .int .i64 0, .int .i64 a0_4, .int .i64 a0_5, .int .i64 a0_6, .string a0_7, .string a0_8]) t 3 (.int .i64 0) rfl
  replace t := TS.set (r' := #[.int .i64 0, .int .i64 0, .int .i64 0, .int .i64 0, .int .i64 0, .int .i64 a0_5, .int .i64 a0_6, .string a0_7, .string a0_8]) t 4 (.int .i64 0) rfl
  have T1 := Aside0.mk t
  clear t
  clear T0 c0 d0 d1 d2 d3 d4 d5 d6 d7 d8 z0 z1 z2 z3 z4 z5 z6 z7 z8
  revert T1
  generalize (World.setCell (World.setCell (World.setCell (World.setCell (World.setCell (World.setCell (World.setCell (World.setCell (World.setCell (World.setCell (World.setCell (World.setCell (World.setCell (World.setCell w4 ⟨g2, 0, none⟩ (.int .i64 a0_0)) ⟨g2, 1, none⟩ (.int .i64 a0_1)) ⟨g2, 2, none⟩ (.int .i64 a0_2)) ⟨g2, 3, none⟩ (.int .i64 a0_3)) ⟨g2, 4, none⟩ (.int .i64 a0_4)) ⟨g2, 5, none⟩ (.int .i64 a0_5)) ⟨g2, 6, none⟩ (.int .i64 a0_6)) ⟨g2, 7, none⟩ (.string a0_7)) ⟨g2, 8, none⟩ (.string a0_8)) ⟨g2, 0, none⟩ (.int .i64 0)) ⟨g2, 1, none⟩ (.int .i64 0)) ⟨g2, 2, none⟩ (.int .i64 0)) ⟨g2, 3, none⟩ (.int .i64 0)) ⟨g2, 4, none⟩ (.int .i64 0)) = w5
  intro T1
  generalize hb0 : (f1 && f2) = b0 at HH
  clear hb0 HF1 HF2 nn
  go_cut [3] (fun s3 wx => ∃ b : Bool, s3 = .bool (finOk a0_0 b a0_8) ∧ Aside0 (finV a0_0 b a0_5 a0_6 a0_7 a0_8 = r) ∧ Aside0 (TS w g1 g2 (opRow a0_0 a0_1 a0_2 a0_3 a0_4 a0_5 a0_6 a0_7 a0_8) #[.int .i64 0, .int .i64 0, .int .i64 0, .int .i64 0, .int .i64 0, .int .i64 a0_5, .int .i64 a0_6, .string (nmR a0_0 a0_7), .string (vlR a0_0 a0_8)] wx))
  case first =>
   have k1 : w5.cell? ⟨g1, 1, none⟩ = some (.int .i64 a0_1) := (blk_cell T1.out.2.1 1).trans rfl
   have k2 : w5.cell? ⟨g1, 2, none⟩ = some (.int .i64 a0_2) := (blk_cell T1.out.2.1 2).trans rfl
   have k3 : w5.cell? ⟨g1, 3, none⟩ = some (.int .i64 a0_3) := (blk_cell T1.out.2.1 3).trans rfl
   have k4 : w5.cell? ⟨g1, 4, none⟩ = some (.int .i64 a0_4) := (blk_cell T1.out.2.1 4).trans rfl
   have k5 : w5.cell? ⟨g1, 5, none⟩ = some (.int .i64 a0_5) := (blk_cell T1.out.2.1 5).trans rfl
   have k6 : w5.cell? ⟨g1, 6, none⟩ = some (.int .i64 a0_6) := (blk_cell T1.out.2.1 6).trans rfl
   have k7 : w5.cell? ⟨g1, 7, none⟩ = some (.string a0_7) := (blk_cell T1.out.2.1 7).trans rfl
   have k8 : w5.cell? ⟨g1, 8, none⟩ = some (.string a0_8) := (blk_cell T1.out.2.1 8).trans rfl
   have m7 : w5.cell? ⟨g2, 7, none⟩ = some (.string a0_7) := (blk_cell T1.out.2.2.1 7).trans rfl
   have m8 : w5.cell? ⟨g2, 8, none⟩ = some (.string a0_8) := (blk_cell T1.out.2.2.1 8).trans rfl
   have z7 := blk_frozen T1.out.2.2.1 7
   have z8 := blk_frozen T1.out.2.2.1 8
   by_cases h1 : a0_0 = 1
   ·subst h1
    have N := nm_cases HH.out
    cases b0
    ·have HV := Aside0.mk (N.2 (fun q => by have := q.2; simp at this))
     clear N HH
     go_wp2_with (fail)
     go_meet
     exact ⟨false, rfl, HV, ⟨T1.out.set 7 _ rfl⟩⟩
    ·rw [if_pos rfl, Bool.true_and] at N
     by_cases he : (a0_3 == a0_1 && (a0_4 == a0_2)) = true
     ·obtain ⟨q, hq, hv⟩ := N.1 ⟨.inl rfl, he⟩
      have HV := Aside0.mk hv
      have HN := Aside0.mk (fun W => name_Check.calls a0_7 q W hq)
      clear N HH hv hq
      go_wp2_with (fail)
      refine (HN.out _).mono ?_
      rintro e w6 ⟨rfl, hb⟩
      have T2 := Aside0.mk (T1.out.below hb)
      clear hb k1 k2 k3 k4 k5 k6 k7 k8 m7 m8 z7 z8
      have m7 : w6.cell? ⟨g2, 7, none⟩ = some (.string a0_7) := (blk_cell T2.out.2.2.1 7).trans rfl
      have z7 := blk_frozen T2.out.2.2.1 7
      generalize hqb : (q == 0) = qb at HV
      go_wp2_with (fail)
      go_meet
      exact ⟨qb, rfl, HV, ⟨T2.out.set 7 _ rfl⟩⟩
     ·have he := Bool.eq_false_iff.2 he
      have HV := Aside0.mk (N.2 (fun q => by rw [he] at q; have := q.2; simp at this))
      rw [he] at HV
      clear N HH
      go_wp2_with (fail)
      go_meet
      exact ⟨false, rfl, HV, ⟨T1.out.set 7 _ rfl⟩⟩
   ·have v1 := beq_eq_false_iff_ne.2 h1
    by_cases h3 : a0_0 = 3
    ·subst h3
     have N := nm_cases HH.out
     rw [if_neg h1] at N
     cases b0
     ·have HV := Aside0.mk (N.2 (fun q => by have := q.2; simp at this))
      clear N HH
      go_wp2_with (fail)
      go_meet
      exact ⟨false, rfl, HV, ⟨T1.out.set 7 _ rfl⟩⟩
     ·obtain ⟨q, hq, hv⟩ := N.1 ⟨.inr rfl, rfl⟩
      have HV := Aside0.mk hv
      have HN := Aside0.mk (fun W => name_Check.calls a0_7 q W hq)
      clear N HH hv hq
      go_wp2_with (fail)
      refine (HN.out _).mono ?_
      rintro e w6 ⟨rfl, hb⟩
      have T2 := Aside0.mk (T1.out.below hb)
      clear hb k1 k2 k3 k4 k5 k6 k7 k8 m7 m8 z7 z8
      have m7 : w6.cell? ⟨g2, 7, none⟩ = some (.string a0_7) := (blk_cell T2.out.2.2.1 7).trans rfl
      have z7 := blk_frozen T2.out.2.2.1 7
      generalize hqb : (q == 0) = qb at HV
      go_wp2_with (fail)
      go_meet
      exact ⟨qb, rfl, HV, ⟨T2.out.set 7 _ rfl⟩⟩
    ·have v3 := beq_eq_false_iff_ne.2 h3
     have N := (nm_cases HH.out).2 (fun q => q.1.elim h1 h3)
     rw [if_neg h1] at N
     have HV := Aside0.mk N
     clear N HH
     by_cases h4 : a0_0 = 4
     ·subst h4
      cases b0
      ·go_wp2_with (fail)
       go_meet
       exact ⟨false, rfl, HV, ⟨T1.out.set 8 _ rfl⟩⟩
      ·generalize hd : decide ((a0_8.size : Int) ≤ 64) = db
       go_wp2_with (fail)
       go_meet
       exact ⟨true, by rw [← hd]; rfl, HV, ⟨T1.out.set 8 _ rfl⟩⟩
     ·have v4 := beq_eq_false_iff_ne.2 h4
      have E1 : Aside0 (nmR a0_0 a0_7 = a0_7) := ⟨if_neg (by omega)⟩
      have E2 : Aside0 (vlR a0_0 a0_8 = a0_8) := ⟨if_neg (by omega)⟩
      by_cases h2 : a0_0 = 2
      ·subst h2
       go_wp2_with (fail)
       go_meet
       exact ⟨b0, rfl, HV, T1⟩
      ·have v2 := beq_eq_false_iff_ne.2 h2
       by_cases h5 : a0_0 = 5
       ·subst h5
        go_wp2_with (fail)
        go_meet
        exact ⟨b0, rfl, HV, T1⟩
       ·have v5 := beq_eq_false_iff_ne.2 h5
        have e3 : finOk a0_0 b0 a0_8 = false := by unfold finOk; rw [if_neg h4, if_neg (by omega)]
        have E3 := Aside0.mk e3
        clear e3 h1 h2 h3 h4 h5
        go_wp2_with (fail)
        go_meet
        exact ⟨b0, by rw [E3.out], HV, ⟨by rw [E1.out, E2.out]; exact T1.out⟩⟩
  case rest =>
   obtain ⟨b, rfl, HV, T2⟩ := hcut
   clear T1 HH
   unfold finV at HV
   generalize hob : finOk a0_0 b a0_8 = ob at HV
   generalize hn : nmR a0_0 a0_7 = nm at T2 HV
   generalize hvl : vlR a0_0 a0_8 = vl at T2 HV
   clear hob hn hvl b
   have c0 : wc.cell? ⟨g1, 0, none⟩ = some (.int .i64 a0_0) := (blk_cell T2.out.2.1 0).trans rfl
   have c5 : wc.cell? ⟨g1, 5, none⟩ = some (.int .i64 a0_5) := (blk_cell T2.out.2.1 5).trans rfl
   have c6 : wc.cell? ⟨g1, 6, none⟩ = some (.int .i64 a0_6) := (blk_cell T2.out.2.1 6).trans rfl
   by_cases h1 : a0_0 = 1
   ·subst h1
    have e1 : finPa 1 ob a0_5 a0_6 = (ob && (outerB a0_5 a0_6 || fineB a0_5 a0_6)) := if_pos (.inl rfl)
    have n12 : ((1 : Int) = 1 ∨ (1 : Int) = 2) := .inl rfl
    rw [e1, if_pos n12, if_pos n12] at HV
    clear e1 n12
    go_upto_region 18 with (fail)
    go_cut [3] (fun s3 wx => s3 = .bool (ob && (outerB a0_5 a0_6 || fineB a0_5 a0_6)) ∧ Aside0 (TS w g1 g2 (opRow 1 a0_1 a0_2 a0_3 a0_4 a0_5 a0_6 a0_7 a0_8) #[.int .i64 0, .int .i64 0, .int .i64 0, .int .i64 0, .int .i64 0, .int .i64 a0_5, .int .i64 a0_6, .string nm, .string vl] wx))
    case first =>
     cases ob
     ·go_wp2_with (fail)
      go_meet
      exact ⟨rfl, T2⟩
     ·obtain ⟨oo, ho⟩ : ∃ oo, outerB a0_5 a0_6 = oo := ⟨_, rfl⟩
      rw [ho] at HO
      have HOO := Aside0.mk ho
      clear ho
      obtain ⟨ff, hf⟩ : ∃ ff, fineB a0_5 a0_6 = ff := ⟨_, rfl⟩
      rw [hf] at HF3
      have HFF := Aside0.mk hf
      clear hf
      go_wp2_with (fail)
      refine (HO.out _).mono ?_
      rintro e w7 ⟨rfl, hb⟩
      have T3 := Aside0.mk (T2.out.below hb)
      clear hb c0 c5 c6
      cases oo
      ·have c5 : w7.cell? ⟨g1, 5, none⟩ = some (.int .i64 a0_5) := (blk_cell T3.out.2.1 5).trans rfl
       have c6 : w7.cell? ⟨g1, 6, none⟩ = some (.int .i64 a0_6) := (blk_cell T3.out.2.1 6).trans rfl
       go_wp2_with (fail)
       refine (HF3.out _).mono ?_
       rintro e w8 ⟨rfl, hb⟩
       have T4 := Aside0.mk (T3.out.below hb)
       clear hb c5 c6
       go_wp2_with (fail)
       go_meet
       exact ⟨by rw [HOO.out, HFF.out]; rfl, T4⟩
      ·go_wp2_with (fail)
       go_meet
       exact ⟨by rw [HOO.out]; rfl, T3⟩
    case rest =>
     obtain ⟨rfl, T3⟩ := hcut
     clear T2 HO HF3 c0 c5 c6
     have d5 : wc.cell? ⟨g2, 5, none⟩ = some (.int .i64 a0_5) := (blk_cell T3.out.2.2.1 5).trans rfl
     have d6 : wc.cell? ⟨g2, 6, none⟩ = some (.int .i64 a0_6) := (blk_cell T3.out.2.2.1 6).trans rfl
     have z5 := blk_frozen T3.out.2.2.1 5
     have z6 := blk_frozen T3.out.2.2.1 6
     go_upto_region 20 with (fail)
     have TQ := Aside0.mk (TS.set (r' := #[.int .i64 0, .int .i64 0, .int .i64 0, .int .i64 0, .int .i64 0, .int .i64 0, .int .i64 0, .string nm, .string vl]) (TS.set (r' := #[.int .i64 0, .int .i64 0, .int .i64 0, .int .i64 0, .int .i64 0, .int .i64 0, .int .i64 a0_6, .string nm, .string vl]) T3.out 5 (.int .i64 0) rfl) 6 (.int .i64 0) rfl)
     have HVQ := HV
     generalize (ob && (outerB a0_5 a0_6 || fineB a0_5 a0_6)) = ok at HVQ ⊢
     clear HV T3 d5 d6 z5 z6
     revert TQ
     generalize (wc.setCell ⟨g2, 5, none⟩ (.int .i64 0)).setCell ⟨g2, 6, none⟩ (.int .i64 0) = wq
     intro TQ
     obtain ⟨x0, x1, x2, x3, x4, x5, x6, x7, x8, T5, HR⟩ : ∃ (x0 x1 x2 x3 x4 x5 x6 : Int) (x7 x8 : ByteArray), Aside0 (TS w g1 g2 (opRow 1 a0_1 a0_2 a0_3 a0_4 a0_5 a0_6 a0_7 a0_8) #[.int .i64 x0, .int .i64 x1, .int .i64 x2, .int .i64 x3, .int .i64 x4, .int .i64 x5, .int .i64 x6, .string x7, .string x8] wq) ∧ Aside0 ((if (!ok || bigB x0 x1 x2 x3 x4 x5 x6 x7 x8) = true then (1 : Int) else 0) = r) := ⟨0, 0, 0, 0, 0, 0, 0, nm, vl, TQ, ⟨by rw [big_rest]; exact HVQ.out⟩⟩
     clear TQ HVQ
     have d0 : wq.cell? ⟨g2, 0, none⟩ = some (.int .i64 x0) := (blk_cell T5.out.2.2.1 0).trans rfl
     have d1 : wq.cell? ⟨g2, 1, none⟩ = some (.int .i64 x1) := (blk_cell T5.out.2.2.1 1).trans rfl
     have d2 : wq.cell? ⟨g2, 2, none⟩ = some (.int .i64 x2) := (blk_cell T5.out.2.2.1 2).trans rfl
     have d3 : wq.cell? ⟨g2, 3, none⟩ = some (.int .i64 x3) := (blk_cell T5.out.2.2.1 3).trans rfl
     have d4 : wq.cell? ⟨g2, 4, none⟩ = some (.int .i64 x4) := (blk_cell T5.out.2.2.1 4).trans rfl
     have d5 : wq.cell? ⟨g2, 5, none⟩ = some (.int .i64 x5) := (blk_cell T5.out.2.2.1 5).trans rfl
     have d6 : wq.cell? ⟨g2, 6, none⟩ = some (.int .i64 x6) := (blk_cell T5.out.2.2.1 6).trans rfl
     have d7 : wq.cell? ⟨g2, 7, none⟩ = some (.string x7) := (blk_cell T5.out.2.2.1 7).trans rfl
     have d8 : wq.cell? ⟨g2, 8, none⟩ = some (.string x8) := (blk_cell T5.out.2.2.1 8).trans rfl
     cases ok
     ·rw [Bool.not_false, Bool.true_or, if_pos rfl] at HR
      go_wp2_with (fail)
      go_ret
      exact ⟨by rw [← HR.out]; rfl, T5.out.1⟩
     ·rw [Bool.not_true, Bool.false_or] at HR
      go_wp2_with (fail)
      ·rename_i hz
       go_ret
       exact ⟨by rw [← HR.out, if_pos ((big_true x0 x1 x2 x3 x4 x5 x6 x7 x8).1 hz)]; rfl, T5.out.1⟩
      ·rename_i hz
       go_ret
       exact ⟨by rw [← HR.out, if_neg (by rw [(big_false x0 x1 x2 x3 x4 x5 x6 x7 x8).1 hz]; decide)]; rfl, T5.out.1⟩

   ·have v1 := beq_eq_false_iff_ne.2 h1
    by_cases h2 : a0_0 = 2
    ·subst h2
     have e1 : finPa 2 ob a0_5 a0_6 = (ob && (outerB a0_5 a0_6 || fineB a0_5 a0_6)) := if_pos (.inr rfl)
     have n12 : ((2 : Int) = 1 ∨ (2 : Int) = 2) := .inr rfl
     rw [e1, if_pos n12, if_pos n12] at HV
     clear e1 n12
     go_upto_region 18 with (fail)
     go_cut [3] (fun s3 wx => s3 = .bool (ob && (outerB a0_5 a0_6 || fineB a0_5 a0_6)) ∧ Aside0 (TS w g1 g2 (opRow 2 a0_1 a0_2 a0_3 a0_4 a0_5 a0_6 a0_7 a0_8) #[.int .i64 0, .int .i64 0, .int .i64 0, .int .i64 0, .int .i64 0, .int .i64 a0_5, .int .i64 a0_6, .string nm, .string vl] wx))
     case first =>
      cases ob
      ·go_wp2_with (fail)
       go_meet
       exact ⟨rfl, T2⟩
      ·obtain ⟨oo, ho⟩ : ∃ oo, outerB a0_5 a0_6 = oo := ⟨_, rfl⟩
       rw [ho] at HO
       have HOO := Aside0.mk ho
       clear ho
       obtain ⟨ff, hf⟩ : ∃ ff, fineB a0_5 a0_6 = ff := ⟨_, rfl⟩
       rw [hf] at HF3
       have HFF := Aside0.mk hf
       clear hf
       go_wp2_with (fail)
       refine (HO.out _).mono ?_
       rintro e w7 ⟨rfl, hb⟩
       have T3 := Aside0.mk (T2.out.below hb)
       clear hb c0 c5 c6
       cases oo
       ·have c5 : w7.cell? ⟨g1, 5, none⟩ = some (.int .i64 a0_5) := (blk_cell T3.out.2.1 5).trans rfl
        have c6 : w7.cell? ⟨g1, 6, none⟩ = some (.int .i64 a0_6) := (blk_cell T3.out.2.1 6).trans rfl
        go_wp2_with (fail)
        refine (HF3.out _).mono ?_
        rintro e w8 ⟨rfl, hb⟩
        have T4 := Aside0.mk (T3.out.below hb)
        clear hb c5 c6
        go_wp2_with (fail)
        go_meet
        exact ⟨by rw [HOO.out, HFF.out]; rfl, T4⟩
       ·go_wp2_with (fail)
        go_meet
        exact ⟨by rw [HOO.out]; rfl, T3⟩
     case rest =>
      obtain ⟨rfl, T3⟩ := hcut
      clear T2 HO HF3 c0 c5 c6
      have d5 : wc.cell? ⟨g2, 5, none⟩ = some (.int .i64 a0_5) := (blk_cell T3.out.2.2.1 5).trans rfl
      have d6 : wc.cell? ⟨g2, 6, none⟩ = some (.int .i64 a0_6) := (blk_cell T3.out.2.2.1 6).trans rfl
      have z5 := blk_frozen T3.out.2.2.1 5
      have z6 := blk_frozen T3.out.2.2.1 6
      go_upto_region 20 with (fail)
      have TQ := Aside0.mk (TS.set (r' := #[.int .i64 0, .int .i64 0, .int .i64 0, .int .i64 0, .int .i64 0, .int .i64 0, .int .i64 0, .string nm, .string vl]) (TS.set (r' := #[.int .i64 0, .int .i64 0, .int .i64 0, .int .i64 0, .int .i64 0, .int .i64 0, .int .i64 a0_6, .string nm, .string vl]) T3.out 5 (.int .i64 0) rfl) 6 (.int .i64 0) rfl)
      have HVQ := HV
      generalize (ob && (outerB a0_5 a0_6 || fineB a0_5 a0_6)) = ok at HVQ ⊢
      clear HV T3 d5 d6 z5 z6
      revert TQ
      generalize (wc.setCell ⟨g2, 5, none⟩ (.int .i64 0)).setCell ⟨g2, 6, none⟩ (.int .i64 0) = wq
      intro TQ
      obtain ⟨x0, x1, x2, x3, x4, x5, x6, x7, x8, T5, HR⟩ : ∃ (x0 x1 x2 x3 x4 x5 x6 : Int) (x7 x8 : ByteArray), Aside0 (TS w g1 g2 (opRow 2 a0_1 a0_2 a0_3 a0_4 a0_5 a0_6 a0_7 a0_8) #[.int .i64 x0, .int .i64 x1, .int .i64 x2, .int .i64 x3, .int .i64 x4, .int .i64 x5, .int .i64 x6, .string x7, .string x8] wq) ∧ Aside0 ((if (!ok || bigB x0 x1 x2 x3 x4 x5 x6 x7 x8) = true then (1 : Int) else 0) = r) := ⟨0, 0, 0, 0, 0, 0, 0, nm, vl, TQ, ⟨by rw [big_rest]; exact HVQ.out⟩⟩
      clear TQ HVQ
      have d0 : wq.cell? ⟨g2, 0, none⟩ = some (.int .i64 x0) := (blk_cell T5.out.2.2.1 0).trans rfl
      have d1 : wq.cell? ⟨g2, 1, none⟩ = some (.int .i64 x1) := (blk_cell T5.out.2.2.1 1).trans rfl
      have d2 : wq.cell? ⟨g2, 2, none⟩ = some (.int .i64 x2) := (blk_cell T5.out.2.2.1 2).trans rfl
      have d3 : wq.cell? ⟨g2, 3, none⟩ = some (.int .i64 x3) := (blk_cell T5.out.2.2.1 3).trans rfl
      have d4 : wq.cell? ⟨g2, 4, none⟩ = some (.int .i64 x4) := (blk_cell T5.out.2.2.1 4).trans rfl
      have d5 : wq.cell? ⟨g2, 5, none⟩ = some (.int .i64 x5) := (blk_cell T5.out.2.2.1 5).trans rfl
      have d6 : wq.cell? ⟨g2, 6, none⟩ = some (.int .i64 x6) := (blk_cell T5.out.2.2.1 6).trans rfl
      have d7 : wq.cell? ⟨g2, 7, none⟩ = some (.string x7) := (blk_cell T5.out.2.2.1 7).trans rfl
      have d8 : wq.cell? ⟨g2, 8, none⟩ = some (.string x8) := (blk_cell T5.out.2.2.1 8).trans rfl
      cases ok
      ·rw [Bool.not_false, Bool.true_or, if_pos rfl] at HR
       go_wp2_with (fail)
       go_ret
       exact ⟨by rw [← HR.out]; rfl, T5.out.1⟩
      ·rw [Bool.not_true, Bool.false_or] at HR
       go_wp2_with (fail)
       ·rename_i hz
        go_ret
        exact ⟨by rw [← HR.out, if_pos ((big_true x0 x1 x2 x3 x4 x5 x6 x7 x8).1 hz)]; rfl, T5.out.1⟩
       ·rename_i hz
        go_ret
        exact ⟨by rw [← HR.out, if_neg (by rw [(big_false x0 x1 x2 x3 x4 x5 x6 x7 x8).1 hz]; decide)]; rfl, T5.out.1⟩

    ·have v2 := beq_eq_false_iff_ne.2 h2
     have n12 : ¬ (a0_0 = 1 ∨ a0_0 = 2) := fun q => q.elim h1 h2
     have e1 : finPa a0_0 ob a0_5 a0_6 = ob := if_neg n12
     rw [e1, if_neg n12, if_neg n12] at HV
     clear e1 n12 h1 h2 HO HF3 c5 c6
     go_upto_region 20 with (fail)
     have TQ := T2
     have HVQ := HV
     clear T2 HV c0
     generalize wc = wq at TQ ⊢
     generalize ob = ok at HVQ ⊢
     obtain ⟨x0, x1, x2, x3, x4, x5, x6, x7, x8, T5, HR⟩ : ∃ (x0 x1 x2 x3 x4 x5 x6 : Int) (x7 x8 : ByteArray), Aside0 (TS w g1 g2 (opRow a0_0 a0_1 a0_2 a0_3 a0_4 a0_5 a0_6 a0_7 a0_8) #[.int .i64 x0, .int .i64 x1, .int .i64 x2, .int .i64 x3, .int .i64 x4, .int .i64 x5, .int .i64 x6, .string x7, .string x8] wq) ∧ Aside0 ((if (!ok || bigB x0 x1 x2 x3 x4 x5 x6 x7 x8) = true then (1 : Int) else 0) = r) := ⟨0, 0, 0, 0, 0, a0_5, a0_6, nm, vl, TQ, ⟨by rw [big_rest]; exact HVQ.out⟩⟩
     clear TQ HVQ
     have d0 : wq.cell? ⟨g2, 0, none⟩ = some (.int .i64 x0) := (blk_cell T5.out.2.2.1 0).trans rfl
     have d1 : wq.cell? ⟨g2, 1, none⟩ = some (.int .i64 x1) := (blk_cell T5.out.2.2.1 1).trans rfl
     have d2 : wq.cell? ⟨g2, 2, none⟩ = some (.int .i64 x2) := (blk_cell T5.out.2.2.1 2).trans rfl
     have d3 : wq.cell? ⟨g2, 3, none⟩ = some (.int .i64 x3) := (blk_cell T5.out.2.2.1 3).trans rfl
     have d4 : wq.cell? ⟨g2, 4, none⟩ = some (.int .i64 x4) := (blk_cell T5.out.2.2.1 4).trans rfl
     have d5 : wq.cell? ⟨g2, 5, none⟩ = some (.int .i64 x5) := (blk_cell T5.out.2.2.1 5).trans rfl
     have d6 : wq.cell? ⟨g2, 6, none⟩ = some (.int .i64 x6) := (blk_cell T5.out.2.2.1 6).trans rfl
     have d7 : wq.cell? ⟨g2, 7, none⟩ = some (.string x7) := (blk_cell T5.out.2.2.1 7).trans rfl
     have d8 : wq.cell? ⟨g2, 8, none⟩ = some (.string x8) := (blk_cell T5.out.2.2.1 8).trans rfl
     cases ok
     ·rw [Bool.not_false, Bool.true_or, if_pos rfl] at HR
      go_wp2_with (fail)
      go_ret
      exact ⟨by rw [← HR.out]; rfl, T5.out.1⟩
     ·rw [Bool.not_true, Bool.false_or] at HR
      go_wp2_with (fail)
      ·rename_i hz
       go_ret
       exact ⟨by rw [← HR.out, if_pos ((big_true x0 x1 x2 x3 x4 x5 x6 x7 x8).1 hz)]; rfl, T5.out.1⟩
      ·rename_i hz
       go_ret
       exact ⟨by rw [← HR.out, if_neg (by rw [(big_false x0 x1 x2 x3 x4 x5 x6 x7 x8).1 hz]; decide)]; rfl, T5.out.1⟩
end Go.Proofs.YthemhfloablccaaDoor.Pr
end

section
namespace Go.Proofs.YthemhfloablccaaDoor.Pr
open Go.RowKit Go.Deep Go.Proofs.YthemhfloablccaaDoorW.PrintWords Go.Proofs.YthemhfloablccaaDoorW.PrintLast Go.Proofs.YthemhfloablccaaDoorW.PrintMore
set_option maxHeartbeats 2000000
def badN (x : Int) : Bool := decide (x < 0) || decide (1099511627775 < x)
theorem badN_calls (x : Int) (w : World) : Calls Tryd.prog 100 #[.int .i64 x] w fun e w' => e = .returned (.bool (badN x)) ∧ w' = w := by
 by_cases h : x < 0
 ·have d1 : decide (x < 0) = true := decide_eq_true h
  have hv : badN x = true := by unfold badN; rw [d1]; rfl
  rw [hv]
  clear h hv
  go_enter Tryd.func100, Tryd.ntmps100
  go_wp2
  go_ret
  exact ⟨rfl, rfl⟩
 ·have d1 : decide (x < 0) = false := decide_eq_false h
  have hv : badN x = decide (1099511627775 < x) := by unfold badN; rw [d1]; rfl
  rw [hv]
  clear h hv
  generalize hd : decide (1099511627775 < x) = b
  go_enter Tryd.func100, Tryd.ntmps100
  go_wp2
  go_ret
  exact ⟨rfl, rfl⟩
theorem num_at {w : World} {A : Option Addr} {l : List Int} (h : Kd.C (Kd.int .i64) w A l.length l) (k : Nat) (hk : k < l.length) : ∃ ad x, A = some ad ∧ l[k]? = some x ∧ w.cell? (ad.add k) = some (.int .i64 x) := by
 obtain ⟨ad, he, hz⟩ := h.2.2 (by omega)
 obtain ⟨cs, h1, h2, h3⟩ := hz k _ (List.getElem?_eq_getElem hk)
 have h2' : cs = [.int .i64 l[k]] := h2
 subst h2'
 have h4 : w.cell? (ad.add (k * 1)) = some (.int .i64 l[k]) := h3 0 _ rfl
 rw [Nat.mul_one] at h4
 exact ⟨ad, l[k], he, List.getElem?_eq_getElem hk, h4⟩
theorem indexNum_calls (A : Option Addr) (cap : Nat) (l : List Int) (w : World) (hC : Kd.C (Kd.int .i64) w A l.length l) (hm : l.length ≤ 1000000) :
  Calls Tryd.prog 114 #[.slice A l.length cap, .func (.func 100) #[] #[]] w fun e w' => ∃ r : Int, e = .returned (.int .i64 r) ∧ decide (0 ≤ r) = l.any badN ∧ w' = w := by
 have HC := Aside0.mk hC
 have HM := Aside0.mk hm
 clear hC hm
 go_enter Tryd.func114, Tryd.ntmps114
 go_wp2
 go_loopg [8] l.length (fun gk i wr => ∃ k : Nat, k ≤ l.length ∧ i = .int .i64 (k : Int) ∧ Aside0 (gk = l.length - k) ∧ Aside0 (wr = w) ∧ Aside0 ((l.take k).any badN = false))
 case atStart => exact ⟨0, Nat.zero_le _, rfl, ⟨rfl⟩, ⟨rfl⟩, ⟨rfl⟩⟩
 case round =>
  obtain ⟨k, hk, rfl, HG, HW, HK⟩ := hrel
  obtain rfl := HW.out
  by_cases hlt : k < l.length
  ·have q1 : decide (k < l.length) = true := decide_eq_true hlt
   obtain ⟨ad, x, rfl, hx, hc⟩ := num_at HC.out k hlt
   have e5 := eq_true hlt
   have HX := Aside0.mk hx
   have HLT := Aside0.mk hlt
   have w1 : wrap64 ((k : Int) + 1) = ((k + 1 : Nat) : Int) := by have := HM.out; unfold wrap64; omega
   obtain ⟨b, hb⟩ : ∃ b, badN x = b := ⟨_, rfl⟩
   have hbc := badN_calls x wr
   rw [hb] at hbc
   have HBC := Aside0.mk hbc
   have HB := Aside0.mk hb
   have htk : (l.take (k + 1)).any badN = b := by
    rw [List.take_add_one, hx, List.any_append, HK.out]
    simp [hb]
   have HTK := Aside0.mk htk
   clear hk hlt hx hbc hb htk
   cases b
   ·go_wp2_with (fail)
    refine HBC.out.mono ?_
    rintro e w' ⟨rfl, rfl⟩
    go_wp2_with (fail)
    go_roundg (l.length - (k + 1))
    case measure => have := HG.out; have := HLT.out; omega
    case rel => exact ⟨k + 1, HLT.out, by go_num, ⟨rfl⟩, ⟨rfl⟩, HTK⟩
   ·go_wp2_with (fail)
    refine HBC.out.mono ?_
    rintro e w' ⟨rfl, rfl⟩
    go_wp2_with (fail)
    go_ret
    refine ⟨_, rfl, ?_, rfl⟩
    have : l.any badN = true := by
     rw [← List.take_append_drop (k + 1) l, List.any_append, HTK.out]
     rfl
    rw [this]
    exact decide_eq_true (by omega)
  ·have q1 : decide (k < l.length) = false := decide_eq_false hlt
   have HE : Aside0 (l.any badN = false) := ⟨by have := HK.out; rwa [List.take_of_length_le (by omega)] at this⟩
   clear hk hlt
   go_wp2_with (fail)
   go_ret
   exact ⟨_, rfl, by rw [HE.out]; rfl, rfl⟩
def wire_number.f (l0 : List Int) : Option Bool := if l0.length ≤ 1000000 then some (!(l0.any badN)) else none
theorem wire_number.calls (A0 : Option Addr) (c0 : Nat) (l0 : List Int) (r : Bool) (w : World) (hr0 : Kd.C (Kd.int .i64) w A0 l0.length l0) (hc0 : l0.length ≤ c0) (h : wire_number.f l0 = some r) :
  Calls Tryd.prog 75 #[.slice A0 l0.length c0] w fun e w' => e = .returned (.bool r) ∧ Below w.heap.size w w' := by
 unfold wire_number.f at h
 by_cases hm : l0.length ≤ 1000000
 ·rw [if_pos hm] at h
  cases h
  have HI := Aside0.mk (indexNum_calls A0 c0 l0 w hr0 hm)
  have HCF : Aside0 (Calls Tryd.prog 99 #[.slice A0 l0.length c0, .func (.func 100) #[] #[]] w fun e w' => e = .returned (.bool (l0.any badN)) ∧ w' = w) := ⟨by
   clear hr0 hm
   go_enter Tryd.func99, Tryd.ntmps99
   go_wp2_with (fail)
   refine HI.out.mono ?_
   rintro e w' ⟨r, rfl, hr, rfl⟩
   have HR := Aside0.mk hr
   clear hr
   generalize hd : decide (0 ≤ r) = b at HR
   go_wp2_with (fail)
   go_ret
   exact ⟨by rw [← HR.out]; rfl, rfl⟩⟩
  clear hr0 hm
  generalize l0.any badN = b at HCF ⊢
  go_enter Tryd.func75, Tryd.ntmps75
  go_wp2_with (fail)
  refine HCF.out.mono ?_
  rintro e w' ⟨rfl, rfl⟩
  go_wp2_with (fail)
  go_ret
  exact ⟨rfl, Below.refl _ _⟩
 ·rw [if_neg hm] at h
  cases h
end Go.Proofs.YthemhfloablccaaDoor.Pr
end

section
namespace Go.Proofs.YthemhfloablccaaDoor.Pr
open Go.RowKit Go.Proofs.YthemhfloablccaaDoorW.PrintWords Go.Proofs.YthemhfloablccaaDoorW.PrintLast Go.Proofs.YthemhfloablccaaDoorW.PrintMore
attribute [local go_sem] max2_int min2_int max_two min_two max_three min_three max_four min_four
def wire_member.f (a0 : Int) : Option (Bool) := if a0 ≥ 1 then (some (decide (a0 ≤ 6))) else (some false)
set_option maxHeartbeats 8000000 in
set_option maxRecDepth 100000 in
theorem wire_member.calls (a0 : Int) (r : Bool) (w : World) (h : wire_member.f a0 = some r) :
  Calls Tryd.prog 74 #[.int .i64 a0] w fun e w' => e = .returned (.bool r) ∧ Drawn0 w w' := by
 have H : (if a0 ≥ 1 then (some (decide (a0 ≤ 6))) else (some false)) = some r := h; clear h; by_cases c2 : a0 ≥ 1
 ·rw [if_pos c2] at H; have c2b0 : decide (1 ≤ a0) = true := decide_eq_true c2; clear c2; obtain rfl := Option.some.inj H; go_enter Tryd.func74, Tryd.ntmps74
  go_wp2; go_ret
  exact ⟨rz_, dz_⟩
 ·rw [if_neg c2] at H; have c2b0 : decide (1 ≤ a0) = false := decide_eq_false c2; clear c2; obtain rfl := Option.some.inj H; go_enter Tryd.func74, Tryd.ntmps74
  go_wp2; go_ret
  exact ⟨rz_, dz_⟩
def wire_wraps.l0 : Nat → Int → List (S80) → Int → Int → Option (Bool)
 | 0, _, _, _, _ => none
 | k + 1, x3, x6, x7, x8 => if x8 < x7 then (if 0 ≤ x8 then (if x8 < (x6.length : Int) then ((wire_member.f ((rd_T80 x6 x8).f0)).bind fun t118 => (if t118 = true then (if ((rd_T80 x6 x8).f0) ≤ x3 then (some false) else (if (((rd_T80 x6 x8).f1).size : Int) = 48 then (wire_wraps.l0 k ((rd_T80 x6 x8).f0) x6 x7 (wrap64 (x8 + 1))) else (some false))) else (some false))) else (none)) else (none)) else (some true)
def wire_wraps.f (k : Nat) (l0 : List (S80)) : Option (Bool) := wire_wraps.l0 k 0 l0 (l0.length : Int) 0
set_option maxHeartbeats 8000000 in
set_option maxRecDepth 100000 in
theorem wire_wraps.calls (k : Nat) (A0 : Option Addr) (c0 : Nat) (l0 : List (S80)) (r : Bool) (w : World) (hr0 : Kd.C k80 w A0 l0.length l0) (hc0 : l0.length ≤ c0) (h : wire_wraps.f k l0 = some r) :
    Calls Tryd.prog 77 #[.slice A0 l0.length c0] w fun e w' => e = .returned (.bool r) ∧ Below w.heap.size w w' := by
  have hu80 := Tryd.underlying80; have HR0 := Aside0.mk hr0; have HC0 := Aside0.mk hc0; clear hr0 hc0; have HB := Aside0.mk (Below.refl w.heap.size w); have H : (wire_wraps.l0 k 0 l0 (l0.length : Int) 0) = some r := h; clear h; have H' := Aside0.mk H; clear H; go_enter Tryd.func77, Tryd.ntmps77
  go_wp2; go_loopg [3, 8] k (fun kq v3 v8 w' => ∃ (x3_1 : Int) (x8_1 : Int), v3 = .int .i64 x3_1 ∧ v8 = .int .i64 x8_1 ∧ Aside0 (wire_wraps.l0 kq x3_1 l0 (l0.length : Int) x8_1 = some r) ∧ Aside0 (kq ≤ k) ∧ Aside0 (Below w.heap.size w w'))
  case atStart => exact ⟨(0), (0), rz_, rz_, H', ⟨Nat.le_refl _⟩, ⟨hb_⟩⟩
  case round =>
    clear H'; obtain ⟨x3_1, x8_1, rfl, rfl, HA, HK1, HB⟩ := hrel; cases gk with
    | zero => exact absurd HA.out (by simp [wire_wraps.l0])
    | succ k1 =>
      have H := HA.out; clear HA; simp only [wire_wraps.l0] at H; by_cases c2 : x8_1 < (l0.length : Int)
      · rw [if_pos c2] at H; have c2b0 : decide (x8_1 < (l0.length : Int)) = true := decide_eq_true c2; clear c2; by_cases c3 : 0 ≤ x8_1
        · rw [if_pos c3] at H; have c3b0 : decide (0 ≤ x8_1) = true := decide_eq_true c3; clear c3; by_cases c4 : x8_1 < (l0.length : Int)
          · rw [if_pos c4] at H; have c4b0 : decide (x8_1 < (l0.length : Int)) = true := decide_eq_true c4; clear c4; replace H := Option.bind_eq_some_iff.mp H; obtain ⟨t118, A50, H⟩ := H; have A5 := Aside0.mk A50; clear A50; by_cases c6 : t118 = true
            · subst c6; have H1 : (if ((rd_T80 l0 x8_1).f0) ≤ x3_1 then (some false) else (if (((rd_T80 l0 x8_1).f1).size : Int) = 48 then (wire_wraps.l0 k1 ((rd_T80 l0 x8_1).f0) l0 (l0.length : Int) (wrap64 (x8_1 + 1))) else (some false))) = some r := by rw [if_pos rfl] at H; exact H
              clear H; have H := H1; clear H1; by_cases c7 : ((rd_T80 l0 x8_1).f0) ≤ x3_1
              · rw [if_pos c7] at H; have c7b0 : decide (((rd_T80 l0 x8_1).f0) ≤ x3_1) = true := decide_eq_true c7; clear c7; obtain rfl := Option.some.inj H; have p116 : 0 ≤ (x8_1 : Int) := of_decide_eq_true as_'; have q116 : x8_1 < (l0.length : Int) := of_decide_eq_true as_'; obtain ⟨ad116, e116, hx116_0, hx116_1⟩ := at_T80 HR0.out x8_1 p116 q116; cases e116; replace hx116_0 := (HB.out.cell (World.block_lt_of_cell? w _ hx116_0)).trans hx116_0; replace hx116_1 := (HB.out.cell (World.block_lt_of_cell? w _ hx116_1)).trans hx116_1; replace p116 := eq_true p116; replace q116 := eq_true q116; go_wp2_with (first | ((with_reducible refine gate_dst (N := 5) rfl ?_); (try (refine gate_guard (by rfl) ?_; dsimp only)); refine box_event ?hg (N := 5) ?hd (cs := #[.int .i64 0, .string (⟨#[]⟩ : ByteArray)]) (t := 80) ?hr ?_; (case hd => rfl); (case hg => rfl); (case hr => first | (go_simp; done) | (go_simp; rfl)); intro gb117 hg w8 hbox hb; have n0_ := Aside0.mk (below_step hb_ hb); have n1_ := Aside0.mk (hbox); have n2_ := Aside0.mk ((by rw [hg]; exact (below_size hb_) : w.heap.size ≤ gb117)); have n3_ := Aside0.mk ((by rw [hg]; exact (below_size hb_) : w.heap.size ≤ gb117)); clear HB; have HB := n0_; have BK117 := n1_; have GW117 := n2_; have GE117 := n3_; clear n0_ n1_ n2_ n3_; clear hb hbox hg; have hcz9_0 : w8.cell? ⟨gb117, 0, none⟩ = some (.int .i64 0) := (blk_cell BK117.out 0).trans rfl; have hcz9_1 : w8.cell? ⟨gb117, 1, none⟩ = some (.string (⟨#[]⟩ : ByteArray)) := (blk_cell BK117.out 1).trans rfl; have hfz9_0 := blk_frozen BK117.out 0; have hfz9_1 := blk_frozen BK117.out 1) | ((with_reducible refine gate_callee (f := 74) rfl ?_); refine gl_ 14 Tryd.func74 #[.int .i64 ((rd_T80 l0 x8_1).f0)] ?_; (with_reducible refine (wire_member.calls ((rd_T80 l0 x8_1).f0) true _ A5.out).mono ?_); rintro e w' ⟨rfl, ⟨nd, rfl⟩⟩; refine ⟨_, rfl, ?_⟩))
                go_ret
                exact ⟨ew_, by repeat (first | (with_reducible first | exact HB.out | apply below_alloc | apply pw_below_drewN | apply below_drew1 | refine below_set ?_ GE117.out) | exact HB.out)⟩
              · rw [if_neg c7] at H; have c7b0 : decide (((rd_T80 l0 x8_1).f0) ≤ x3_1) = false := decide_eq_false c7; clear c7; by_cases c10 : (((rd_T80 l0 x8_1).f1).size : Int) = 48
                · rw [if_pos c10] at H; have c10b0 : ((((rd_T80 l0 x8_1).f1).size : Int) == 48) = true := beq_iff_eq.mpr c10; have c10b1 : ((((rd_T80 l0 x8_1).f1).size : Int) != 48) = false := bne_eq_false_iff_eq.mpr c10; clear c10; have H' := Aside0.mk H; clear H; have p116 : 0 ≤ (x8_1 : Int) := of_decide_eq_true as_'; have q116 : x8_1 < (l0.length : Int) := of_decide_eq_true as_'; obtain ⟨ad116, e116, hx116_0, hx116_1⟩ := at_T80 HR0.out x8_1 p116 q116; cases e116; replace hx116_0 := (HB.out.cell (World.block_lt_of_cell? w _ hx116_0)).trans hx116_0; replace hx116_1 := (HB.out.cell (World.block_lt_of_cell? w _ hx116_1)).trans hx116_1; replace p116 := eq_true p116; replace q116 := eq_true q116; go_wp2_with (first | ((with_reducible refine gate_dst (N := 5) rfl ?_); (try (refine gate_guard (by rfl) ?_; dsimp only)); refine box_event ?hg (N := 5) ?hd (cs := #[.int .i64 0, .string (⟨#[]⟩ : ByteArray)]) (t := 80) ?hr ?_; (case hd => rfl); (case hg => rfl); (case hr => first | (go_simp; done) | (go_simp; rfl)); intro gb117 hg w11 hbox hb; have n0_ := Aside0.mk (below_step hb_ hb); have n1_ := Aside0.mk (hbox); have n2_ := Aside0.mk ((by rw [hg]; exact (below_size hb_) : w.heap.size ≤ gb117)); have n3_ := Aside0.mk ((by rw [hg]; exact (below_size hb_) : w.heap.size ≤ gb117)); clear HB; have HB := n0_; have BK117 := n1_; have GW117 := n2_; have GE117 := n3_; clear n0_ n1_ n2_ n3_; clear hb hbox hg; have hcz12_0 : w11.cell? ⟨gb117, 0, none⟩ = some (.int .i64 0) := (blk_cell BK117.out 0).trans rfl; have hcz12_1 : w11.cell? ⟨gb117, 1, none⟩ = some (.string (⟨#[]⟩ : ByteArray)) := (blk_cell BK117.out 1).trans rfl; have hfz12_0 := blk_frozen BK117.out 0; have hfz12_1 := blk_frozen BK117.out 1) | ((with_reducible refine gate_callee (f := 74) rfl ?_); refine gl_ 14 Tryd.func74 #[.int .i64 ((rd_T80 l0 x8_1).f0)] ?_; (with_reducible refine (wire_member.calls ((rd_T80 l0 x8_1).f0) true _ A5.out).mono ?_); rintro e w' ⟨rfl, ⟨nd, rfl⟩⟩; refine ⟨_, rfl, ?_⟩))
                  go_roundg k1
                  case measure => have := HK1.out; omega
                  case rel => exact ⟨((rd_T80 l0 x8_1).f0), (wrap64 (x8_1 + 1)), rz_, rz_, H', ⟨by have := HK1.out; omega⟩, ⟨by repeat (first | (with_reducible first | exact HB.out | apply below_alloc | apply pw_below_drewN | apply below_drew1 | refine below_set ?_ GE117.out) | exact HB.out)⟩⟩
                · rw [if_neg c10] at H; have c10b0 : ((((rd_T80 l0 x8_1).f1).size : Int) == 48) = false := beq_eq_false_iff_ne.mpr c10; have c10b1 : ((((rd_T80 l0 x8_1).f1).size : Int) != 48) = true := bne_iff_ne.mpr c10; obtain rfl := Option.some.inj H; have p116 : 0 ≤ (x8_1 : Int) := of_decide_eq_true as_'; have q116 : x8_1 < (l0.length : Int) := of_decide_eq_true as_'; obtain ⟨ad116, e116, hx116_0, hx116_1⟩ := at_T80 HR0.out x8_1 p116 q116; cases e116; replace hx116_0 := (HB.out.cell (World.block_lt_of_cell? w _ hx116_0)).trans hx116_0; replace hx116_1 := (HB.out.cell (World.block_lt_of_cell? w _ hx116_1)).trans hx116_1; replace p116 := eq_true p116; replace q116 := eq_true q116; go_wp2_with (first | ((with_reducible refine gate_dst (N := 5) rfl ?_); (try (refine gate_guard (by rfl) ?_; dsimp only)); refine box_event ?hg (N := 5) ?hd (cs := #[.int .i64 0, .string (⟨#[]⟩ : ByteArray)]) (t := 80) ?hr ?_; (case hd => rfl); (case hg => rfl); (case hr => first | (go_simp; done) | (go_simp; rfl)); intro gb117 hg w13 hbox hb; have n0_ := Aside0.mk (below_step hb_ hb); have n1_ := Aside0.mk (hbox); have n2_ := Aside0.mk ((by rw [hg]; exact (below_size hb_) : w.heap.size ≤ gb117)); have n3_ := Aside0.mk ((by rw [hg]; exact (below_size hb_) : w.heap.size ≤ gb117)); clear HB; have HB := n0_; have BK117 := n1_; have GW117 := n2_; have GE117 := n3_; clear n0_ n1_ n2_ n3_; clear hb hbox hg; have hcz14_0 : w13.cell? ⟨gb117, 0, none⟩ = some (.int .i64 0) := (blk_cell BK117.out 0).trans rfl; have hcz14_1 : w13.cell? ⟨gb117, 1, none⟩ = some (.string (⟨#[]⟩ : ByteArray)) := (blk_cell BK117.out 1).trans rfl; have hfz14_0 := blk_frozen BK117.out 0; have hfz14_1 := blk_frozen BK117.out 1) | ((with_reducible refine gate_callee (f := 74) rfl ?_); refine gl_ 14 Tryd.func74 #[.int .i64 ((rd_T80 l0 x8_1).f0)] ?_; (with_reducible refine (wire_member.calls ((rd_T80 l0 x8_1).f0) true _ A5.out).mono ?_); rintro e w' ⟨rfl, ⟨nd, rfl⟩⟩; refine ⟨_, rfl, ?_⟩))
                  go_ret
                  exact ⟨ew_, by repeat (first | (with_reducible first | exact HB.out | apply below_alloc | apply pw_below_drewN | apply below_drew1 | refine below_set ?_ GE117.out) | exact HB.out)⟩
            · replace c6 := Bool.eq_false_iff.mpr c6; subst c6; have H1 : (some false) = some r := by rw [if_neg (show ¬ (false = true) by decide)] at H; exact H
              clear H; have H := H1; clear H1; obtain rfl := Option.some.inj H; have p116 : 0 ≤ (x8_1 : Int) := of_decide_eq_true as_'; have q116 : x8_1 < (l0.length : Int) := of_decide_eq_true as_'; obtain ⟨ad116, e116, hx116_0, hx116_1⟩ := at_T80 HR0.out x8_1 p116 q116; cases e116; replace hx116_0 := (HB.out.cell (World.block_lt_of_cell? w _ hx116_0)).trans hx116_0; replace hx116_1 := (HB.out.cell (World.block_lt_of_cell? w _ hx116_1)).trans hx116_1; replace p116 := eq_true p116; replace q116 := eq_true q116; go_wp2_with (first | ((with_reducible refine gate_dst (N := 5) rfl ?_); (try (refine gate_guard (by rfl) ?_; dsimp only)); refine box_event ?hg (N := 5) ?hd (cs := #[.int .i64 0, .string (⟨#[]⟩ : ByteArray)]) (t := 80) ?hr ?_; (case hd => rfl); (case hg => rfl); (case hr => first | (go_simp; done) | (go_simp; rfl)); intro gb117 hg w15 hbox hb; have n0_ := Aside0.mk (below_step hb_ hb); have n1_ := Aside0.mk (hbox); have n2_ := Aside0.mk ((by rw [hg]; exact (below_size hb_) : w.heap.size ≤ gb117)); have n3_ := Aside0.mk ((by rw [hg]; exact (below_size hb_) : w.heap.size ≤ gb117)); clear HB; have HB := n0_; have BK117 := n1_; have GW117 := n2_; have GE117 := n3_; clear n0_ n1_ n2_ n3_; clear hb hbox hg; have hcz16_0 : w15.cell? ⟨gb117, 0, none⟩ = some (.int .i64 0) := (blk_cell BK117.out 0).trans rfl; have hcz16_1 : w15.cell? ⟨gb117, 1, none⟩ = some (.string (⟨#[]⟩ : ByteArray)) := (blk_cell BK117.out 1).trans rfl; have hfz16_0 := blk_frozen BK117.out 0; have hfz16_1 := blk_frozen BK117.out 1) | ((with_reducible refine gate_callee (f := 74) rfl ?_); refine gl_ 14 Tryd.func74 #[.int .i64 ((rd_T80 l0 x8_1).f0)] ?_; (with_reducible refine (wire_member.calls ((rd_T80 l0 x8_1).f0) false _ A5.out).mono ?_); rintro e w' ⟨rfl, ⟨nd, rfl⟩⟩; refine ⟨_, rfl, ?_⟩))
              go_ret
              exact ⟨ew_, by repeat (first | (with_reducible first | exact HB.out | apply below_alloc | apply pw_below_drewN | apply below_drew1 | refine below_set ?_ GE117.out) | exact HB.out)⟩
          · rw [if_neg c4] at H; exact absurd H (by simp)
        · rw [if_neg c3] at H; exact absurd H (by simp)
      · rw [if_neg c2] at H; have c2b0 : decide (x8_1 < (l0.length : Int)) = false := decide_eq_false c2; clear c2; obtain rfl := Option.some.inj H; go_wp2; go_ret
        exact ⟨ew_, hb_⟩
end Go.Proofs.YthemhfloablccaaDoor.Pr
end

/- Joined texts (pack.py): what the statement's proof needs, part 2. No condition. -/
import Derived.Below
import Derived.Deep.Draws
import Derived.Deep.AppendLies
import Derived.Maps.AppendAt
import Derived.OwnWalk
import Derived.Laws.BytesArg
import Derived.Laws.MakeOwn
import Derived.Laws.OwnMore
import Derived.Deep.OwnRows
import Derived.Tactics
import Derived.Lib.ConvBytes
import Derived.Laws.Slices
import Derived.WalkKit
import Derived.KernelRfl
import Derived.RowKit3
import Derived.Deep.LoopGhost
import Derived.Deep.QuietTactic
import Derived.BigQuiet
import Derived.WideLaws
import Derived.Deep.DeepCutAuto
import Derived.Deep.CutBlock
import Derived.Deep.RegionHeld3
import Derived.Laws.Rows
import Derived.Lib.AppendStr
import Derived.ArgAppend
import Derived.Laws.IdiomCopy
import Derived.RowKit
import Derived.OrdersHeld
import Derived.Laws.BitsLemmas
import Derived.Laws.StructEq
import Derived.Deep.Slices
import Derived.ChangeArms
import Derived.OpenShut
import Derived.Test.YthemhfloablccaaDoorProg
import Derived.Deep.RegionLaw
import Derived.StillTailTactics
import Derived.Deep.Light
import Derived.Deep.RegionHeldLaw
import Derived.Deep.DrawnRows
import Derived.Test.YthemhfloablccaaDoorTie
import Derived.Test.YthemhfloablccaaDoorCards
import Derived.LaidMore
import Derived.Lay
import Derived.SevenTiedAt
import Derived.Stop.Joined
import Derived.ProofKit
import Derived.ShutString
import Derived.ChangeOld
import Derived.SizedLaws
import Derived.Carry
import Derived.Test.YthemhfloablccaaDoorGb1
set_option linter.unusedVariables false
set_option linter.unusedSimpArgs false
section
namespace Go.Proofs.YthemhfloablccaaDoor.Pr
open Go.RowKit Go.Proofs.YthemhfloablccaaDoorW.PrintWords Go.Proofs.YthemhfloablccaaDoorW.PrintLast Go.Proofs.YthemhfloablccaaDoorW.PrintMore
attribute [local go_sem] max2_int min2_int max_two min_two max_three min_three max_four min_four
def code_In_Byte.f (k : Nat) (s0_0 : Bool) (s0_1 : ByteArray) (s0_2 : Int) : Option (Int × Bool × ByteArray × Int) := (code_In_number.f k s0_0 s0_1 s0_2 1).bind fun bt156 => (some (bt156.1, bt156.2.2.1, bt156.2.2.2.1, bt156.2.2.2.2))
theorem code_In_Byte.mono : ∀ a0 a1 a2 k, LeO (code_In_Byte.f k a0 a1 a2) (code_In_Byte.f (k + 1) a0 a1 a2) := by
 intro a0 a1 a2 k; unfold code_In_Byte.f
 repeat' first
   | (with_reducible exact code_In_number.mono _ _ _ _ _)
   | (with_reducible exact LeO.refl _)
   | (with_reducible exact LeO.none _)
   | (with_reducible refine LeO.ite ?_ ?_)
   | (with_reducible refine LeO.bind ?_ (fun _ => ?_))
   | exact code_In_number.mono _ _ _ _ _
   | exact LeO.none _
   | refine LeO.ite ?_ ?_
   | refine LeO.bind ?_ (fun _ => ?_)
set_option maxHeartbeats 8000000 in
set_option maxRecDepth 100000 in
theorem code_In_Byte.calls (k : Nat) (g : Nat) (s0_0 : Bool) (s0_1 : ByteArray) (s0_2 : Int) (r1 : Int) (r2 : Bool) (r3 : ByteArray) (r4 : Int) (w0 w : World) (hI : IsS128 w0 w g s0_0 s0_1 s0_2) (hB : Below w0.heap.size w0 w) (h : code_In_Byte.f k s0_0 s0_1 s0_2 = some (r1, r2, r3, r4)) :
  Calls Tryd.prog 65 #[.pointer (some ⟨g, 0, none⟩)] w fun e w' => e = .returned (.int .i64 r1) ∧ IsS128 w0 w' g r2 r3 r4 ∧ Below w0.heap.size w0 w' ∧ KeepBut w w' g none := by
 have HI0 := Aside0.mk hI; have HK := Aside0.mk (KeepBut.refl w g none); have HL := Aside0.mk hB.size; clear hI; have HW0 := Aside0.mk hB.size; have HB := Aside0.mk hB; clear hB; have H : ((code_In_number.f k s0_0 s0_1 s0_2 1).bind fun bt156 => (some (bt156.1, bt156.2.2.1, bt156.2.2.2.1, bt156.2.2.2.2))) = some (r1, r2, r3, r4) := h; clear h; replace H := Option.bind_eq_some_iff.mp H; obtain ⟨⟨t156, t157, t158, t159, t160⟩, A20, H⟩ := H; try dsimp only at H
 have A2 := Aside0.mk A20; clear A20; simp only [Option.some.injEq, Prod.mk.injEq] at H; obtain ⟨rfl, rfl, rfl, rfl⟩ := H; go_enter Tryd.func65, Tryd.ntmps65
 go_wp2_with (first | ((with_reducible refine gate_callee (f := 93) rfl ?_); refine gl_ 7 Tryd.func93 #[.pointer (some ⟨g, 0, none⟩), .int .i64 1] ?_; (with_reducible refine (code_In_number.calls k g s0_0 s0_1 s0_2 1 t156 t157 t158 t159 t160 w0 _ ?side1 ?side2 A2.out).mono ?_); (case side1 => repeat (first | (with_reducible first | exact HI0.out | apply IsS128.alloc | apply IsS128.drewN | apply IsS128.drew | apply IsS128.set_0 | apply IsS128.set_1 | apply IsS128.set_2) | exact HI0.out)); (case side2 => repeat (first | (with_reducible first | exact HB.out | apply below_alloc | apply pw_below_drewN | apply below_drew1 | refine below_set ?_ (IsS128.ge HI0.out)) | exact HB.out)); rintro e w3 ⟨rfl, hi, hb, hk⟩; refine ⟨_, rfl, ?_⟩; replace HK := Aside0.mk (KeepBut.trans (by repeat (first | (with_reducible first | exact HK.out | apply KeepBut.set_ | apply keep_drewN | apply keep_drew | apply keep_alloc) | exact HK.out)) hk (.inl rfl)); replace HB := Aside0.mk (hb); replace HI0 := Aside0.mk (hi)))
 go_ret
 exact ⟨ew_, by repeat (first | (with_reducible first | exact HI0.out | apply IsS128.alloc | apply IsS128.drewN | apply IsS128.drew | apply IsS128.set_0 | apply IsS128.set_1 | apply IsS128.set_2) | exact HI0.out), by repeat (first | (with_reducible first | exact HB.out | apply below_alloc | apply pw_below_drewN | apply below_drew1 | refine below_set ?_ (IsS128.ge HI0.out)) | exact HB.out), by repeat (first | (with_reducible first | exact HK.out | apply KeepBut.set_ | apply keep_drewN | apply keep_drew | apply keep_alloc) | exact HK.out)⟩
def code_In_Done.f (s0_0 : Bool) (s0_1 : ByteArray) (s0_2 : Int) : Option (Int × Bool × ByteArray × Int) := if s0_0 = true then (if s0_2 = 0 then (if s0_1.toList = ([] : List UInt8) then (some (s0_2, s0_0, s0_1, s0_2)) else (some (91, s0_0, s0_1, s0_2))) else (some (s0_2, s0_0, s0_1, s0_2))) else (some (91, s0_0, s0_1, s0_2))
set_option maxHeartbeats 8000000 in
set_option maxRecDepth 100000 in
theorem code_In_Done.calls (g : Nat) (s0_0 : Bool) (s0_1 : ByteArray) (s0_2 : Int) (r1 : Int) (r2 : Bool) (r3 : ByteArray) (r4 : Int) (w0 w : World) (hI : IsS128 w0 w g s0_0 s0_1 s0_2) (hB : Below w0.heap.size w0 w) (h : code_In_Done.f s0_0 s0_1 s0_2 = some (r1, r2, r3, r4)) :
  Calls Tryd.prog 66 #[.pointer (some ⟨g, 0, none⟩)] w fun e w' => e = .returned (.int .i64 r1) ∧ IsS128 w0 w' g r2 r3 r4 ∧ Below w0.heap.size w0 w' ∧ KeepBut w w' g none := by
 have HI0 := Aside0.mk hI; have HK := Aside0.mk (KeepBut.refl w g none); have HL := Aside0.mk hB.size; clear hI; have HW0 := Aside0.mk hB.size; have HB := Aside0.mk hB; clear hB; have H : (if s0_0 = true then (if s0_2 = 0 then (if s0_1.toList = ([] : List UInt8) then (some (s0_2, s0_0, s0_1, s0_2)) else (some (91, s0_0, s0_1, s0_2))) else (some (s0_2, s0_0, s0_1, s0_2))) else (some (91, s0_0, s0_1, s0_2))) = some (r1, r2, r3, r4) := h; clear h; by_cases c2 : s0_0 = true
 ·subst c2; have H1 : (if s0_2 = 0 then (if s0_1.toList = ([] : List UInt8) then (some (s0_2, true, s0_1, s0_2)) else (some (91, true, s0_1, s0_2))) else (some (s0_2, true, s0_1, s0_2))) = some (r1, r2, r3, r4) := by rw [if_pos rfl] at H; exact H
  clear H; have H := H1; clear H1; by_cases c3 : s0_2 = 0
  ·rw [if_pos c3] at H; have c3b0 : (s0_2 == 0) = true := beq_iff_eq.mpr c3; have c3b1 : (s0_2 != 0) = false := bne_eq_false_iff_eq.mpr c3; clear c3; by_cases c4 : s0_1.toList = ([] : List UInt8)
   ·rw [if_pos c4] at H; have c4b0 : (s0_1.toList == ([] : List UInt8)) = true := beq_iff_eq.mpr c4; have c4b1 : (s0_1.toList != ([] : List UInt8)) = false := bne_eq_false_iff_eq.mpr c4; clear c4; simp only [Option.some.injEq, Prod.mk.injEq] at H; obtain ⟨rfl, rfl, rfl, rfl⟩ := H; obtain ⟨HGz5, hgz5⟩ := HI0.out; have hcz5_0 := cellS128_0 HGz5; have hcz5_1 := cellS128_1 HGz5; have hcz5_2 := cellS128_2 HGz5; have hfz5_0 := blk_frozen HGz5 0; have hfz5_1 := blk_frozen HGz5 1; have hfz5_2 := blk_frozen HGz5 2; clear HGz5 hgz5; go_enter Tryd.func66, Tryd.ntmps66
    go_wp2; go_ret
    exact ⟨ew_, by repeat (first | (with_reducible first | exact HI0.out | apply IsS128.alloc | apply IsS128.drewN | apply IsS128.drew | apply IsS128.set_0 | apply IsS128.set_1 | apply IsS128.set_2) | exact HI0.out), by repeat (first | (with_reducible first | exact HB.out | apply below_alloc | apply pw_below_drewN | apply below_drew1 | refine below_set ?_ (IsS128.ge HI0.out)) | exact HB.out), by repeat (first | (with_reducible first | exact HK.out | apply KeepBut.set_ | apply keep_drewN | apply keep_drew | apply keep_alloc) | exact HK.out)⟩
   ·rw [if_neg c4] at H; have c4b0 : (s0_1.toList == ([] : List UInt8)) = false := beq_eq_false_iff_ne.mpr c4; have c4b1 : (s0_1.toList != ([] : List UInt8)) = true := bne_iff_ne.mpr c4; simp only [Option.some.injEq, Prod.mk.injEq] at H; obtain ⟨rfl, rfl, rfl, rfl⟩ := H; obtain ⟨HGz6, hgz6⟩ := HI0.out; have hcz6_0 := cellS128_0 HGz6; have hcz6_1 := cellS128_1 HGz6; have hcz6_2 := cellS128_2 HGz6; have hfz6_0 := blk_frozen HGz6 0; have hfz6_1 := blk_frozen HGz6 1; have hfz6_2 := blk_frozen HGz6 2; clear HGz6 hgz6; go_enter Tryd.func66, Tryd.ntmps66
    go_wp2; go_ret
    exact ⟨ew_, by repeat (first | (with_reducible first | exact HI0.out | apply IsS128.alloc | apply IsS128.drewN | apply IsS128.drew | apply IsS128.set_0 | apply IsS128.set_1 | apply IsS128.set_2) | exact HI0.out), by repeat (first | (with_reducible first | exact HB.out | apply below_alloc | apply pw_below_drewN | apply below_drew1 | refine below_set ?_ (IsS128.ge HI0.out)) | exact HB.out), by repeat (first | (with_reducible first | exact HK.out | apply KeepBut.set_ | apply keep_drewN | apply keep_drew | apply keep_alloc) | exact HK.out)⟩
  ·rw [if_neg c3] at H; have c3b0 : (s0_2 == 0) = false := beq_eq_false_iff_ne.mpr c3; have c3b1 : (s0_2 != 0) = true := bne_iff_ne.mpr c3; simp only [Option.some.injEq, Prod.mk.injEq] at H; obtain ⟨rfl, rfl, rfl, rfl⟩ := H; obtain ⟨HGz7, hgz7⟩ := HI0.out; have hcz7_0 := cellS128_0 HGz7; have hcz7_1 := cellS128_1 HGz7; have hcz7_2 := cellS128_2 HGz7; have hfz7_0 := blk_frozen HGz7 0; have hfz7_1 := blk_frozen HGz7 1; have hfz7_2 := blk_frozen HGz7 2; clear HGz7 hgz7; go_enter Tryd.func66, Tryd.ntmps66
   go_wp2; go_ret
   exact ⟨ew_, by repeat (first | (with_reducible first | exact HI0.out | apply IsS128.alloc | apply IsS128.drewN | apply IsS128.drew | apply IsS128.set_0 | apply IsS128.set_1 | apply IsS128.set_2) | exact HI0.out), by repeat (first | (with_reducible first | exact HB.out | apply below_alloc | apply pw_below_drewN | apply below_drew1 | refine below_set ?_ (IsS128.ge HI0.out)) | exact HB.out), by repeat (first | (with_reducible first | exact HK.out | apply KeepBut.set_ | apply keep_drewN | apply keep_drew | apply keep_alloc) | exact HK.out)⟩
 ·replace c2 := Bool.eq_false_iff.mpr c2; subst c2; have H1 : (some (91, false, s0_1, s0_2)) = some (r1, r2, r3, r4) := by rw [if_neg (show ¬ (false = true) by decide)] at H; exact H
  clear H; have H := H1; clear H1; simp only [Option.some.injEq, Prod.mk.injEq] at H; obtain ⟨rfl, rfl, rfl, rfl⟩ := H; obtain ⟨HGz8, hgz8⟩ := HI0.out; have hcz8_0 := cellS128_0 HGz8; have hcz8_1 := cellS128_1 HGz8; have hcz8_2 := cellS128_2 HGz8; have hfz8_0 := blk_frozen HGz8 0; have hfz8_1 := blk_frozen HGz8 1; have hfz8_2 := blk_frozen HGz8 2; clear HGz8 hgz8; go_enter Tryd.func66, Tryd.ntmps66
  go_wp2; go_ret
  exact ⟨ew_, by repeat (first | (with_reducible first | exact HI0.out | apply IsS128.alloc | apply IsS128.drewN | apply IsS128.drew | apply IsS128.set_0 | apply IsS128.set_1 | apply IsS128.set_2) | exact HI0.out), by repeat (first | (with_reducible first | exact HB.out | apply below_alloc | apply pw_below_drewN | apply below_drew1 | refine below_set ?_ (IsS128.ge HI0.out)) | exact HB.out), by repeat (first | (with_reducible first | exact HK.out | apply KeepBut.set_ | apply keep_drewN | apply keep_drew | apply keep_alloc) | exact HK.out)⟩
def samphireref09_wrong.f (a0_0 : ByteArray) (a0_1 : Int) (a1 : Int) : Option (ByteArray × Int) := if a0_1 = 0 then (some ((⟨#[]⟩ : ByteArray), a1)) else (some ((⟨#[]⟩ : ByteArray), a0_1))
set_option maxHeartbeats 8000000 in
set_option maxRecDepth 100000 in
theorem samphireref09_wrong.calls (a0_0 : ByteArray) (a0_1 : Int) (a1 : Int) (r1 : ByteArray) (r2 : Int) (w : World) (h : samphireref09_wrong.f a0_0 a0_1 a1 = some (r1, r2)) :
  Calls Tryd.prog 96 #[.agg #[.string a0_0, .int .i64 a0_1], .int .i64 a1] w fun e w' => e = .returned (.agg #[.string r1, .int .i64 r2]) ∧ Below w.heap.size w w' := by
 have hu105 := Tryd.underlying105; have HB := Aside0.mk (Below.refl w.heap.size w); have H : (if a0_1 = 0 then (some ((⟨#[]⟩ : ByteArray), a1)) else (some ((⟨#[]⟩ : ByteArray), a0_1))) = some (r1, r2) := h; clear h; by_cases c3 : a0_1 = 0
 ·rw [if_pos c3] at H; have c3b0 : (a0_1 == 0) = true := beq_iff_eq.mpr c3; have c3b1 : (a0_1 != 0) = false := bne_eq_false_iff_eq.mpr c3; clear c3; simp only [Option.some.injEq, Prod.mk.injEq] at H; obtain ⟨rfl, rfl⟩ := H; go_enter Tryd.func96, Tryd.ntmps96
  go_wp2_with (first | ((with_reducible refine gate_dst (N := 2) rfl ?_); refine box_event ?hg (N := 2) ?hd (cs := #[.string a0_0, .int .i64 a0_1]) (t := 105) ?hr ?_; (case hd => rfl); (case hg => rfl); (case hr => first | (go_simp; done) | (go_simp; rfl)); intro gb415 hg w4 hbox hb; have n0_ := Aside0.mk (below_step hb_ hb); have n1_ := Aside0.mk (hbox); have n2_ := Aside0.mk ((by rw [hg]; exact (below_size hb_) : w.heap.size ≤ gb415)); have n3_ := Aside0.mk ((by rw [hg]; exact (below_size hb_) : w.heap.size ≤ gb415)); clear HB; have HB := n0_; have BK415 := n1_; have GW415 := n2_; have GE415 := n3_; clear n0_ n1_ n2_ n3_; clear hb hbox hg) | ((with_reducible refine gate_dst (N := 4) rfl ?_); refine box_event ?hg (N := 4) ?hd (cs := #[.string (⟨#[]⟩ : ByteArray), .int .i64 0]) (t := 105) ?hr ?_; (case hd => rfl); (case hg => rfl); (case hr => first | (go_simp; done) | (go_simp; rfl)); intro gb416 hg w5 hbox hb; have n0_ := Aside0.mk (blk_below (g := gb415) (o := .cells #[.string a0_0, .int .i64 a0_1] 105 (0, 0)) (by (with_reducible repeat (first | refine blk_drewN ?_ _ | refine blk_drew ?_ | refine blk_alloc ?_ _)); exact BK415.out) hb); have n1_ := Aside0.mk (below_step (by repeat (first | (with_reducible first | exact HB.out | apply below_alloc | apply pw_below_drewN | apply below_drew1 | refine below_set ?_ GE415.out) | exact HB.out)) hb); have n2_ := Aside0.mk (hbox); have n3_ := Aside0.mk ((by rw [hg]; exact (below_size (by repeat (first | (with_reducible first | exact HB.out | apply below_alloc | apply pw_below_drewN | apply below_drew1 | refine below_set ?_ GE415.out) | exact HB.out))) : w.heap.size ≤ gb416)); have n4_ := Aside0.mk ((by rw [hg]; exact (below_size (by repeat (first | (with_reducible first | exact HB.out | apply below_alloc | apply pw_below_drewN | apply below_drew1 | refine below_set ?_ GE415.out) | exact HB.out))) : w.heap.size ≤ gb416)); have n5_ := Aside0.mk ((by rw [hg]; exact Nat.ne_of_lt (blk_lt (g := gb415) (o := .cells #[.string a0_0, .int .i64 a0_1] 105 (0, 0)) (by (with_reducible repeat (first | refine blk_drewN ?_ _ | refine blk_drew ?_ | refine blk_alloc ?_ _)); exact BK415.out)) : gb415 ≠ gb416)); have n6_ := Aside0.mk ((by rw [hg]; exact Nat.ne_of_gt (blk_lt (g := gb415) (o := .cells #[.string a0_0, .int .i64 a0_1] 105 (0, 0)) (by (with_reducible repeat (first | refine blk_drewN ?_ _ | refine blk_drew ?_ | refine blk_alloc ?_ _)); exact BK415.out)) : gb416 ≠ gb415)); clear BK415; clear HB; have BK415 := n0_; have HB := n1_; have BK416 := n2_; have GW416 := n3_; have GE416 := n4_; have NB415_416 := n5_; have NB416_415 := n6_; clear n0_ n1_ n2_ n3_ n4_ n5_ n6_; clear hb hbox hg; have hnb6 := NB415_416.out; have hnc6 := NB416_415.out; have hcz7_0 : w5.cell? ⟨gb415, 0, none⟩ = some (.string a0_0) := (blk_cell BK415.out 0).trans rfl; have hcz7_1 : w5.cell? ⟨gb415, 1, none⟩ = some (.int .i64 a0_1) := (blk_cell BK415.out 1).trans rfl; have hfz7_0 := blk_frozen BK415.out 0; have hfz7_1 := blk_frozen BK415.out 1; have hcz8_0 : w5.cell? ⟨gb416, 0, none⟩ = some (.string (⟨#[]⟩ : ByteArray)) := (blk_cell BK416.out 0).trans rfl; have hcz8_1 : w5.cell? ⟨gb416, 1, none⟩ = some (.int .i64 0) := (blk_cell BK416.out 1).trans rfl; have hfz8_0 := blk_frozen BK416.out 0; have hfz8_1 := blk_frozen BK416.out 1))
  refine bodyPost_ret (results_cell_row rfl _ _ gb416 105 #[.string (⟨#[]⟩ : ByteArray), .int .i64 a1] (0, 0) _ rfl (by (with_reducible repeat (first | refine blk_drewN ?_ _ | refine blk_drew ?_ | refine blk_alloc ?_ _)); refine blk_put (cs := #[.string (⟨#[]⟩ : ByteArray), .int .i64 0]) ?_ 1 _ rfl; (with_reducible repeat (first | refine blk_drewN ?_ _ | refine blk_drew ?_ | refine blk_alloc ?_ _)); refine blk_put (cs := #[.string (⟨#[]⟩ : ByteArray), .int .i64 0]) ?_ 0 _ rfl; (with_reducible repeat (first | refine blk_drewN ?_ _ | refine blk_drew ?_ | refine blk_alloc ?_ _)); refine blk_far ?_ NB416_415.out _; (with_reducible repeat (first | refine blk_drewN ?_ _ | refine blk_drew ?_ | refine blk_alloc ?_ _)); refine blk_far ?_ NB416_415.out _; (with_reducible repeat (first | refine blk_drewN ?_ _ | refine blk_drew ?_ | refine blk_alloc ?_ _)); exact BK416.out) Tryd.underlying105 rfl (by kernel_rfl)) rfl ?_; exact ⟨ew_, by repeat (first | (with_reducible first | exact HB.out | apply below_alloc | apply pw_below_drewN | apply below_drew1 | refine below_set ?_ GE415.out | refine below_set ?_ GE416.out) | exact HB.out)⟩
 ·rw [if_neg c3] at H; have c3b0 : (a0_1 == 0) = false := beq_eq_false_iff_ne.mpr c3; have c3b1 : (a0_1 != 0) = true := bne_iff_ne.mpr c3; simp only [Option.some.injEq, Prod.mk.injEq] at H; obtain ⟨rfl, rfl⟩ := H; go_enter Tryd.func96, Tryd.ntmps96
  go_wp2_with (first | ((with_reducible refine gate_dst (N := 2) rfl ?_); refine box_event ?hg (N := 2) ?hd (cs := #[.string a0_0, .int .i64 a0_1]) (t := 105) ?hr ?_; (case hd => rfl); (case hg => rfl); (case hr => first | (go_simp; done) | (go_simp; rfl)); intro gb415 hg w9 hbox hb; have n0_ := Aside0.mk (below_step hb_ hb); have n1_ := Aside0.mk (hbox); have n2_ := Aside0.mk ((by rw [hg]; exact (below_size hb_) : w.heap.size ≤ gb415)); have n3_ := Aside0.mk ((by rw [hg]; exact (below_size hb_) : w.heap.size ≤ gb415)); clear HB; have HB := n0_; have BK415 := n1_; have GW415 := n2_; have GE415 := n3_; clear n0_ n1_ n2_ n3_; clear hb hbox hg) | ((with_reducible refine gate_dst (N := 4) rfl ?_); refine box_event ?hg (N := 4) ?hd (cs := #[.string (⟨#[]⟩ : ByteArray), .int .i64 0]) (t := 105) ?hr ?_; (case hd => rfl); (case hg => rfl); (case hr => first | (go_simp; done) | (go_simp; rfl)); intro gb416 hg w10 hbox hb; have n0_ := Aside0.mk (blk_below (g := gb415) (o := .cells #[.string a0_0, .int .i64 a0_1] 105 (0, 0)) (by (with_reducible repeat (first | refine blk_drewN ?_ _ | refine blk_drew ?_ | refine blk_alloc ?_ _)); exact BK415.out) hb); have n1_ := Aside0.mk (below_step (by repeat (first | (with_reducible first | exact HB.out | apply below_alloc | apply pw_below_drewN | apply below_drew1 | refine below_set ?_ GE415.out) | exact HB.out)) hb); have n2_ := Aside0.mk (hbox); have n3_ := Aside0.mk ((by rw [hg]; exact (below_size (by repeat (first | (with_reducible first | exact HB.out | apply below_alloc | apply pw_below_drewN | apply below_drew1 | refine below_set ?_ GE415.out) | exact HB.out))) : w.heap.size ≤ gb416)); have n4_ := Aside0.mk ((by rw [hg]; exact (below_size (by repeat (first | (with_reducible first | exact HB.out | apply below_alloc | apply pw_below_drewN | apply below_drew1 | refine below_set ?_ GE415.out) | exact HB.out))) : w.heap.size ≤ gb416)); have n5_ := Aside0.mk ((by rw [hg]; exact Nat.ne_of_lt (blk_lt (g := gb415) (o := .cells #[.string a0_0, .int .i64 a0_1] 105 (0, 0)) (by (with_reducible repeat (first | refine blk_drewN ?_ _ | refine blk_drew ?_ | refine blk_alloc ?_ _)); exact BK415.out)) : gb415 ≠ gb416)); have n6_ := Aside0.mk ((by rw [hg]; exact Nat.ne_of_gt (blk_lt (g := gb415) (o := .cells #[.string a0_0, .int .i64 a0_1] 105 (0, 0)) (by (with_reducible repeat (first | refine blk_drewN ?_ _ | refine blk_drew ?_ | refine blk_alloc ?_ _)); exact BK415.out)) : gb416 ≠ gb415)); clear BK415; clear HB; have BK415 := n0_; have HB := n1_; have BK416 := n2_; have GW416 := n3_; have GE416 := n4_; have NB415_416 := n5_; have NB416_415 := n6_; clear n0_ n1_ n2_ n3_ n4_ n5_ n6_; clear hb hbox hg; have hnb11 := NB415_416.out; have hnc11 := NB416_415.out; have hcz12_0 : w10.cell? ⟨gb415, 0, none⟩ = some (.string a0_0) := (blk_cell BK415.out 0).trans rfl; have hcz12_1 : w10.cell? ⟨gb415, 1, none⟩ = some (.int .i64 a0_1) := (blk_cell BK415.out 1).trans rfl; have hfz12_0 := blk_frozen BK415.out 0; have hfz12_1 := blk_frozen BK415.out 1; have hcz13_0 : w10.cell? ⟨gb416, 0, none⟩ = some (.string (⟨#[]⟩ : ByteArray)) := (blk_cell BK416.out 0).trans rfl; have hcz13_1 : w10.cell? ⟨gb416, 1, none⟩ = some (.int .i64 0) := (blk_cell BK416.out 1).trans rfl; have hfz13_0 := blk_frozen BK416.out 0; have hfz13_1 := blk_frozen BK416.out 1))
  refine bodyPost_ret (results_cell_row rfl _ _ gb416 105 #[.string (⟨#[]⟩ : ByteArray), .int .i64 a0_1] (0, 0) _ rfl (by (with_reducible repeat (first | refine blk_drewN ?_ _ | refine blk_drew ?_ | refine blk_alloc ?_ _)); refine blk_put (cs := #[.string (⟨#[]⟩ : ByteArray), .int .i64 0]) ?_ 1 _ rfl; (with_reducible repeat (first | refine blk_drewN ?_ _ | refine blk_drew ?_ | refine blk_alloc ?_ _)); refine blk_put (cs := #[.string (⟨#[]⟩ : ByteArray), .int .i64 0]) ?_ 0 _ rfl; (with_reducible repeat (first | refine blk_drewN ?_ _ | refine blk_drew ?_ | refine blk_alloc ?_ _)); refine blk_far ?_ NB416_415.out _; (with_reducible repeat (first | refine blk_drewN ?_ _ | refine blk_drew ?_ | refine blk_alloc ?_ _)); exact BK416.out) Tryd.underlying105 rfl (by kernel_rfl)) rfl ?_; exact ⟨ew_, by repeat (first | (with_reducible first | exact HB.out | apply below_alloc | apply pw_below_drewN | apply below_drew1 | refine below_set ?_ GE415.out | refine below_set ?_ GE416.out) | exact HB.out)⟩
end Go.Proofs.YthemhfloablccaaDoor.Pr
end

section
namespace Go.Proofs.YthemhfloablccaaDoor.Pr
open Go.RowKit Go.Proofs.YthemhfloablccaaDoorW.PrintWords Go.Proofs.YthemhfloablccaaDoorW.PrintLast Go.Proofs.YthemhfloablccaaDoorW.PrintMore
attribute [local go_sem] max2_int min2_int max_two min_two max_three min_three max_four min_four
mutual
def samphireref09_number.j0 : Nat → Int → Bool → ByteArray → Int → Option (ByteArray × Int × Int)
 | 0, _, _, _, _ => none
 | k + 1, x1, x17, x418000, x418001 => if x17 = true then ((samphireref09_wrong.f x418000 x418001 90).bind fun bt419 => (some (bt419.1, bt419.2, 0))) else (samphireref09_number.l0 k x1 0 0 x418000 x418001)
def samphireref09_number.l0 : Nat → Int → Int → Int → ByteArray → Int → Option (ByteArray × Int × Int)
 | 0, _, _, _, _, _ => none
 | k + 1, x1, x6, x7, x418000, x418001 => if x7 < x1 then (if 0 ≤ x7 then (if x7 < (x418000.size : Int) then (samphireref09_number.l0 k x1 (Go.bits .or .i64 (wrap64 (x6 * 256)) (wrap64 (bt x418000 x7))) (wrap64 (x7 + 1)) x418000 x418001) else (none)) else (none)) else (if 0 ≤ x1 then (if x1 ≤ (x418000.size : Int) then (some (x418000.extract (x1 : Int).toNat x418000.size, x418001, x6)) else (none)) else (none))
end
def samphireref09_number.f (k : Nat) (a0_0 : ByteArray) (a0_1 : Int) (a1 : Int) : Option (ByteArray × Int × Int) := if a0_1 = 0 then (samphireref09_number.j0 k a1 (decide ((a0_0.size : Int) < a1)) a0_0 a0_1) else (samphireref09_number.j0 k a1 true a0_0 a0_1)
set_option maxHeartbeats 8000000 in
set_option maxRecDepth 100000 in
theorem samphireref09_number.calls (k : Nat) (a0_0 : ByteArray) (a0_1 : Int) (a1 : Int) (r1 : ByteArray) (r2 : Int) (r3 : Int) (w : World) (h : samphireref09_number.f k a0_0 a0_1 a1 = some (r1, r2, r3)) :
    Calls Tryd.prog 95 #[.agg #[.string a0_0, .int .i64 a0_1], .int .i64 a1] w fun e w' => e = .returned (.tuple #[.agg #[.string r1, .int .i64 r2], .int .i64 r3]) ∧ Below w.heap.size w w' := by
  have hu105 := Tryd.underlying105; have HB := Aside0.mk (Below.refl w.heap.size w); have H : (if a0_1 = 0 then (samphireref09_number.j0 k a1 (decide ((a0_0.size : Int) < a1)) a0_0 a0_1) else (samphireref09_number.j0 k a1 true a0_0 a0_1)) = some (r1, r2, r3) := h; clear h; have HC3 := Aside0.mk H; clear H; go_enter Tryd.func95, Tryd.ntmps95
  go_upto_region 1 with (first | ((with_reducible refine gate_dst (N := 2) rfl ?_); (try (refine gate_guard (by rfl) ?_; dsimp only)); refine box_event ?hg (N := 2) ?hd (cs := #[.string a0_0, .int .i64 a0_1]) (t := 105) ?hr ?_; (case hd => rfl); (case hg => rfl); (case hr => first | (go_simp; done) | (go_simp; rfl)); intro gb417 hg w4 hbox hb; have n0_ := Aside0.mk (below_step hb_ hb); have n1_ := Aside0.mk (hbox); have n2_ := Aside0.mk ((by rw [hg]; exact (below_size hb_) : w.heap.size ≤ gb417)); have n3_ := Aside0.mk ((by rw [hg]; exact (below_size hb_) : w.heap.size ≤ gb417)); clear HB; have HB := n0_; have BK417 := n1_; have GW417 := n2_; have GE417 := n3_; clear n0_ n1_ n2_ n3_; clear hb hbox hg) | ((with_reducible refine gate_dst (N := 4) rfl ?_); (try (refine gate_guard (by rfl) ?_; dsimp only)); refine box_event ?hg (N := 4) ?hd (cs := #[.string (⟨#[]⟩ : ByteArray), .int .i64 0]) (t := 105) ?hr ?_; (case hd => rfl); (case hg => rfl); (case hr => first | (go_simp; done) | (go_simp; rfl)); intro gb418 hg w5 hbox hb; have n0_ := Aside0.mk (blk_below (g := gb417) (o := .cells #[.string a0_0, .int .i64 a0_1] 105 (0, 0)) (by (with_reducible repeat (first | refine blk_drewN ?_ _ | refine blk_drew ?_ | refine blk_alloc ?_ _)); exact BK417.out) hb); have n1_ := Aside0.mk (below_step (by repeat (first | (with_reducible first | exact HB.out | apply below_alloc | apply pw_below_drewN | apply below_drew1 | refine below_set ?_ GE417.out) | exact HB.out)) hb); have n2_ := Aside0.mk (hbox); have n3_ := Aside0.mk ((by rw [hg]; exact (below_size (by repeat (first | (with_reducible first | exact HB.out | apply below_alloc | apply pw_below_drewN | apply below_drew1 | refine below_set ?_ GE417.out) | exact HB.out))) : w.heap.size ≤ gb418)); have n4_ := Aside0.mk ((by rw [hg]; exact (below_size (by repeat (first | (with_reducible first | exact HB.out | apply below_alloc | apply pw_below_drewN | apply below_drew1 | refine below_set ?_ GE417.out) | exact HB.out))) : w.heap.size ≤ gb418)); have n5_ := Aside0.mk ((by rw [hg]; exact Nat.ne_of_lt (blk_lt (g := gb417) (o := .cells #[.string a0_0, .int .i64 a0_1] 105 (0, 0)) (by (with_reducible repeat (first | refine blk_drewN ?_ _ | refine blk_drew ?_ | refine blk_alloc ?_ _)); exact BK417.out)) : gb417 ≠ gb418)); have n6_ := Aside0.mk ((by rw [hg]; exact Nat.ne_of_gt (blk_lt (g := gb417) (o := .cells #[.string a0_0, .int .i64 a0_1] 105 (0, 0)) (by (with_reducible repeat (first | refine blk_drewN ?_ _ | refine blk_drew ?_ | refine blk_alloc ?_ _)); exact BK417.out)) : gb418 ≠ gb417)); clear BK417; clear HB; have BK417 := n0_; have HB := n1_; have BK418 := n2_; have GW418 := n3_; have GE418 := n4_; have NB417_418 := n5_; have NB418_417 := n6_; clear n0_ n1_ n2_ n3_ n4_ n5_ n6_; clear hb hbox hg))
  (try simp only [Act.put, List.setIfInBounds_toArray, List.set_cons_zero, List.set_cons_succ])
  go_cut [17] (fun v17 wc => ∃ (kq : Nat) (x17_2 : Bool), v17 = .bool x17_2 ∧ Aside0 (samphireref09_number.j0 kq a1 x17_2 a0_0 a0_1 = some (r1, r2, r3)) ∧ Aside0 (kq ≤ k) ∧ Aside0 (wc.heap[gb417]? = some (.cells #[.string a0_0, .int .i64 a0_1] 105 (0, 0))) ∧ Aside0 (wc.heap[gb418]? = some (.cells #[.string (⟨#[]⟩ : ByteArray), .int .i64 0] 105 (0, 0))) ∧ Aside0 (Below w.heap.size w wc))
  case first =>
    have H := HC3.out; clear HC3; by_cases c6 : a0_1 = 0
    · rw [if_pos c6] at H; have c6b0 : (a0_1 == 0) = true := beq_iff_eq.mpr c6; have c6b1 : (a0_1 != 0) = false := bne_eq_false_iff_eq.mpr c6; clear c6
      (first | rw [c6b0] | (simp only [i64_w, i32_w]; rw [c6b0]) | skip)
      have H' := Aside0.mk H; clear H; have hnb7 := NB417_418.out; have hnc7 := NB418_417.out; have hcz8_0 : w5.cell? ⟨gb417, 0, none⟩ = some (.string a0_0) := (blk_cell BK417.out 0).trans rfl; have hcz8_1 : w5.cell? ⟨gb417, 1, none⟩ = some (.int .i64 a0_1) := (blk_cell BK417.out 1).trans rfl; have hfz8_0 := blk_frozen BK417.out 0; have hfz8_1 := blk_frozen BK417.out 1; go_wp2; go_meet
      case rel => exact ⟨_, (decide ((a0_0.size : Int) < a1)), rz_, H', ⟨by first | omega | exact Nat.le_refl _⟩, ⟨by (with_reducible repeat (first | refine blk_drewN ?_ _ | refine blk_drew ?_ | refine blk_alloc ?_ _)); exact BK417.out⟩, ⟨by (with_reducible repeat (first | refine blk_drewN ?_ _ | refine blk_drew ?_ | refine blk_alloc ?_ _)); exact BK418.out⟩, ⟨by repeat (first | (with_reducible first | exact HB.out | apply below_alloc | apply pw_below_drewN | apply below_drew1 | refine below_set ?_ GE417.out | refine below_set ?_ GE418.out) | exact HB.out)⟩⟩
    · rw [if_neg c6] at H; have c6b0 : (a0_1 == 0) = false := beq_eq_false_iff_ne.mpr c6; have c6b1 : (a0_1 != 0) = true := bne_iff_ne.mpr c6
      (first | rw [c6b0] | (simp only [i64_w, i32_w]; rw [c6b0]) | skip)
      have H' := Aside0.mk H; clear H; have hnb9 := NB417_418.out; have hnc9 := NB418_417.out; have hcz10_0 : w5.cell? ⟨gb417, 0, none⟩ = some (.string a0_0) := (blk_cell BK417.out 0).trans rfl; have hcz10_1 : w5.cell? ⟨gb417, 1, none⟩ = some (.int .i64 a0_1) := (blk_cell BK417.out 1).trans rfl; have hfz10_0 := blk_frozen BK417.out 0; have hfz10_1 := blk_frozen BK417.out 1; go_wp2; go_meet
      case rel => exact ⟨_, (true), rz_, H', ⟨by first | omega | exact Nat.le_refl _⟩, ⟨by (with_reducible repeat (first | refine blk_drewN ?_ _ | refine blk_drew ?_ | refine blk_alloc ?_ _)); exact BK417.out⟩, ⟨by (with_reducible repeat (first | refine blk_drewN ?_ _ | refine blk_drew ?_ | refine blk_alloc ?_ _)); exact BK418.out⟩, ⟨by repeat (first | (with_reducible first | exact HB.out | apply below_alloc | apply pw_below_drewN | apply below_drew1 | refine below_set ?_ GE417.out | refine below_set ?_ GE418.out) | exact HB.out)⟩⟩
  case rest =>
    clear HC3; obtain ⟨kq, x17_2, rfl, HA, HJ2, BK417, BK418, HB⟩ := hcut; cases kq with
    | zero => exact absurd HA.out (by simp [samphireref09_number.j0])
    | succ kj2 =>
      have H := HA.out; clear HA; simp only [samphireref09_number.j0] at H; by_cases c11 : x17_2 = true
      · subst c11; have H1 : ((samphireref09_wrong.f a0_0 a0_1 90).bind fun bt419 => (some (bt419.1, bt419.2, 0))) = some (r1, r2, r3) := by rw [if_pos rfl] at H; exact H
        clear H; have H := H1; clear H1; replace H := Option.bind_eq_some_iff.mp H; obtain ⟨⟨t419, t420⟩, A120, H⟩ := H; try dsimp only at H
        have A12 := Aside0.mk A120; clear A120; simp only [Option.some.injEq, Prod.mk.injEq] at H; obtain ⟨rfl, rfl, rfl⟩ := H; have hnb13 := NB417_418.out; have hnc13 := NB418_417.out; have hcz14_0 : wc.cell? ⟨gb417, 0, none⟩ = some (.string a0_0) := (blk_cell BK417.out 0).trans rfl; have hcz14_1 : wc.cell? ⟨gb417, 1, none⟩ = some (.int .i64 a0_1) := (blk_cell BK417.out 1).trans rfl; have hfz14_0 := blk_frozen BK417.out 0; have hfz14_1 := blk_frozen BK417.out 1; go_wp2_with (first | ((with_reducible refine gate_callee (f := 96) rfl ?_); refine gl_ 19 Tryd.func96 #[.agg #[.string a0_0, .int .i64 a0_1], .int .i64 90] ?_; (with_reducible refine (samphireref09_wrong.calls a0_0 a0_1 90 t419 t420 _ A12.out).mono ?_); rintro e w15 ⟨rfl, hb⟩; refine ⟨_, rfl, ?_⟩; have n0_ := Aside0.mk (blk_below (g := gb417) (o := .cells #[.string a0_0, .int .i64 a0_1] 105 (0, 0)) (by (with_reducible repeat (first | refine blk_drewN ?_ _ | refine blk_drew ?_ | refine blk_alloc ?_ _)); exact BK417.out) hb); have n1_ := Aside0.mk (blk_below (g := gb418) (o := .cells #[.string (⟨#[]⟩ : ByteArray), .int .i64 0] 105 (0, 0)) (by (with_reducible repeat (first | refine blk_drewN ?_ _ | refine blk_drew ?_ | refine blk_alloc ?_ _)); exact BK418.out) hb); have n2_ := Aside0.mk (below_step (by repeat (first | (with_reducible first | exact HB.out | apply below_alloc | apply pw_below_drewN | apply below_drew1 | refine below_set ?_ GE417.out | refine below_set ?_ GE418.out) | exact HB.out)) hb); clear BK417; clear BK418; clear HB; have BK417 := n0_; have BK418 := n1_; have HB := n2_; clear n0_ n1_ n2_; have hcz16_0 : w15.cell? ⟨gb418, 0, none⟩ = some (.string (⟨#[]⟩ : ByteArray)) := (blk_cell BK418.out 0).trans rfl; have hcz16_1 : w15.cell? ⟨gb418, 1, none⟩ = some (.int .i64 0) := (blk_cell BK418.out 1).trans rfl; have hfz16_0 := blk_frozen BK418.out 0; have hfz16_1 := blk_frozen BK418.out 1))
        refine bodyPost_ret (results_ct rfl _ _ gb418 105 #[.string t419, .int .i64 t420] (0, 0) _ rfl (by (with_reducible repeat (first | refine blk_drewN ?_ _ | refine blk_drew ?_ | refine blk_alloc ?_ _)); refine blk_put (cs := #[.string t419, .int .i64 0]) ?_ 1 _ rfl; (with_reducible repeat (first | refine blk_drewN ?_ _ | refine blk_drew ?_ | refine blk_alloc ?_ _)); refine blk_put (cs := #[.string (⟨#[]⟩ : ByteArray), .int .i64 0]) ?_ 0 _ rfl; (with_reducible repeat (first | refine blk_drewN ?_ _ | refine blk_drew ?_ | refine blk_alloc ?_ _)); exact BK418.out) Tryd.underlying105 rfl (by kernel_rfl)) rfl ?_; exact ⟨ew_, by repeat (first | (with_reducible first | exact HB.out | apply below_alloc | apply pw_below_drewN | apply below_drew1 | refine below_set ?_ GE417.out | refine below_set ?_ GE418.out) | exact HB.out)⟩
      · replace c11 := Bool.eq_false_iff.mpr c11; subst c11; have H1 : (samphireref09_number.l0 kj2 a1 0 0 a0_0 a0_1) = some (r1, r2, r3) := by rw [if_neg (show ¬ (false = true) by decide)] at H; exact H
        clear H; have H := H1; clear H1; have H' := Aside0.mk H; clear H; go_wp2; go_loopg [6, 7] kj2 (fun kq v6 v7 w' => ∃ (x6_2 : Int) (x7_2 : Int), v6 = .int .i64 x6_2 ∧ v7 = .int .i64 x7_2 ∧ Aside0 (samphireref09_number.l0 kq a1 x6_2 x7_2 a0_0 a0_1 = some (r1, r2, r3)) ∧ Aside0 (kq ≤ kj2) ∧ Aside0 (w'.heap[gb417]? = some (.cells #[.string a0_0, .int .i64 a0_1] 105 (0, 0))) ∧ Aside0 (w'.heap[gb418]? = some (.cells #[.string (⟨#[]⟩ : ByteArray), .int .i64 0] 105 (0, 0))) ∧ Aside0 (Below w.heap.size w w'))
        case atStart => exact ⟨(0), (0), rz_, rz_, H', ⟨Nat.le_refl _⟩, ⟨by (with_reducible repeat (first | refine blk_drewN ?_ _ | refine blk_drew ?_ | refine blk_alloc ?_ _)); exact BK417.out⟩, ⟨by (with_reducible repeat (first | refine blk_drewN ?_ _ | refine blk_drew ?_ | refine blk_alloc ?_ _)); exact BK418.out⟩, ⟨by repeat (first | (with_reducible first | exact HB.out | apply below_alloc | apply pw_below_drewN | apply below_drew1 | refine below_set ?_ GE417.out | refine below_set ?_ GE418.out) | exact HB.out)⟩⟩
        case round =>
          clear H'; obtain ⟨x6_2, x7_2, rfl, rfl, HA, HK2, BK417, BK418, HB⟩ := hrel; cases gk with
          | zero => exact absurd HA.out (by simp [samphireref09_number.l0])
          | succ k2 =>
            have H := HA.out; clear HA; simp only [samphireref09_number.l0] at H; by_cases c17 : x7_2 < a1
            · rw [if_pos c17] at H; have c17b0 : decide (x7_2 < a1) = true := decide_eq_true c17; clear c17; by_cases c18 : 0 ≤ x7_2
              · rw [if_pos c18] at H; have c18b0 : decide (0 ≤ x7_2) = true := decide_eq_true c18; clear c18; by_cases c19 : x7_2 < (a0_0.size : Int)
                · rw [if_pos c19] at H; have c19b0 : decide (x7_2 < (a0_0.size : Int)) = true := decide_eq_true c19; clear c19; have H' := Aside0.mk H; clear H; have hnb21 := NB417_418.out; have hnc21 := NB418_417.out; have hcz22_0 : wr.cell? ⟨gb417, 0, none⟩ = some (.string a0_0) := (blk_cell BK417.out 0).trans rfl; have hcz22_1 : wr.cell? ⟨gb417, 1, none⟩ = some (.int .i64 a0_1) := (blk_cell BK417.out 1).trans rfl; have hfz22_0 := blk_frozen BK417.out 0; have hfz22_1 := blk_frozen BK417.out 1; have p20 : 0 ≤ (x7_2 : Int) := of_decide_eq_true as_'; have q20 : x7_2 < (a0_0.size : Int) := of_decide_eq_true as_'; have hx20 := bt_at a0_0 x7_2; replace p20 := eq_true p20; replace q20 := eq_true q20; go_wp2; go_roundg k2
                  case measure => have := HJ2.out; have := HK2.out; omega
                  case rel => exact ⟨(Go.bits .or .i64 (wrap64 (x6_2 * 256)) (wrap64 (bt a0_0 x7_2))), (wrap64 (x7_2 + 1)), rz_, rz_, H', ⟨by have := HJ2.out; have := HK2.out; omega⟩, ⟨by (with_reducible repeat (first | refine blk_drewN ?_ _ | refine blk_drew ?_ | refine blk_alloc ?_ _)); exact BK417.out⟩, ⟨by (with_reducible repeat (first | refine blk_drewN ?_ _ | refine blk_drew ?_ | refine blk_alloc ?_ _)); exact BK418.out⟩, ⟨by repeat (first | (with_reducible first | exact HB.out | apply below_alloc | apply pw_below_drewN | apply below_drew1 | refine below_set ?_ GE417.out | refine below_set ?_ GE418.out) | exact HB.out)⟩⟩
                · rw [if_neg c19] at H; exact absurd H (by simp)
              · rw [if_neg c18] at H; exact absurd H (by simp)
            · rw [if_neg c17] at H; have c17b0 : decide (x7_2 < a1) = false := decide_eq_false c17; clear c17; by_cases c23 : 0 ≤ a1
              · rw [if_pos c23] at H; have c23b0 := eq_true c23; have c23b1 : decide (0 ≤ a1) = true := decide_eq_true c23; clear c23; by_cases c24 : a1 ≤ (a0_0.size : Int)
                · rw [if_pos c24] at H; have c24b0 := eq_true c24; have c24b1 : decide (a1 ≤ (a0_0.size : Int)) = true := decide_eq_true c24; clear c24; simp only [Option.some.injEq, Prod.mk.injEq] at H; obtain ⟨rfl, rfl, rfl⟩ := H; have hnb25 := NB417_418.out; have hnc25 := NB418_417.out; have hcz26_0 : wr.cell? ⟨gb417, 0, none⟩ = some (.string a0_0) := (blk_cell BK417.out 0).trans rfl; have hcz26_1 : wr.cell? ⟨gb417, 1, none⟩ = some (.int .i64 a0_1) := (blk_cell BK417.out 1).trans rfl; have hfz26_0 := blk_frozen BK417.out 0; have hfz26_1 := blk_frozen BK417.out 1; have hcz27_0 : wr.cell? ⟨gb418, 0, none⟩ = some (.string (⟨#[]⟩ : ByteArray)) := (blk_cell BK418.out 0).trans rfl; have hcz27_1 : wr.cell? ⟨gb418, 1, none⟩ = some (.int .i64 0) := (blk_cell BK418.out 1).trans rfl; have hfz27_0 := blk_frozen BK418.out 0; have hfz27_1 := blk_frozen BK418.out 1; go_wp2; refine bodyPost_ret (results_ct rfl _ _ gb418 105 #[.string (a0_0.extract (a1 : Int).toNat a0_0.size), .int .i64 a0_1] (0, 0) _ rfl (by (with_reducible repeat (first | refine blk_drewN ?_ _ | refine blk_drew ?_ | refine blk_alloc ?_ _)); refine blk_put (cs := #[.string (a0_0.extract (a1 : Int).toNat a0_0.size), .int .i64 0]) ?_ 1 _ rfl; (with_reducible repeat (first | refine blk_drewN ?_ _ | refine blk_drew ?_ | refine blk_alloc ?_ _)); refine blk_put (cs := #[.string (⟨#[]⟩ : ByteArray), .int .i64 0]) ?_ 0 _ rfl; (with_reducible repeat (first | refine blk_drewN ?_ _ | refine blk_drew ?_ | refine blk_alloc ?_ _)); refine blk_far ?_ NB418_417.out _; (with_reducible repeat (first | refine blk_drewN ?_ _ | refine blk_drew ?_ | refine blk_alloc ?_ _)); exact BK418.out) Tryd.underlying105 rfl (by kernel_rfl)) rfl ?_; exact ⟨ew_, by repeat (first | (with_reducible first | exact HB.out | apply below_alloc | apply pw_below_drewN | apply below_drew1 | refine below_set ?_ GE417.out | refine below_set ?_ GE418.out) | exact HB.out)⟩
                · rw [if_neg c24] at H; exact absurd H (by simp)
              · rw [if_neg c23] at H; exact absurd H (by simp)
end Go.Proofs.YthemhfloablccaaDoor.Pr
end

section
namespace Go.Proofs.YthemhfloablccaaDoor.Pr
open Go.RowKit Go.Proofs.YthemhfloablccaaDoorW.PrintWords Go.Proofs.YthemhfloablccaaDoorW.PrintLast Go.Proofs.YthemhfloablccaaDoorW.PrintMore
attribute [local go_sem] max2_int min2_int max_two min_two max_three min_three max_four min_four
def samphireref09_InNum.f (k : Nat) (a0_0 : ByteArray) (a0_1 : Int) : Option (ByteArray × Int × Int) := (samphireref09_number.f k a0_0 a0_1 6).bind fun bt423 => (if bt423.2.2 > 1099511627775 then ((samphireref09_wrong.f bt423.1 bt423.2.1 91).bind fun bt427 => (some (bt427.1, bt427.2, 0))) else (some (bt423.1, bt423.2.1, bt423.2.2)))
set_option maxHeartbeats 8000000 in
set_option maxRecDepth 100000 in
theorem samphireref09_InNum.calls (k : Nat) (a0_0 : ByteArray) (a0_1 : Int) (r1 : ByteArray) (r2 : Int) (r3 : Int) (w : World) (h : samphireref09_InNum.f k a0_0 a0_1 = some (r1, r2, r3)) :
  Calls Tryd.prog 67 #[.agg #[.string a0_0, .int .i64 a0_1]] w fun e w' => e = .returned (.tuple #[.agg #[.string r1, .int .i64 r2], .int .i64 r3]) ∧ Below w.heap.size w w' := by
 have hu105 := Tryd.underlying105; have HB := Aside0.mk (Below.refl w.heap.size w); have H : ((samphireref09_number.f k a0_0 a0_1 6).bind fun bt423 => (if bt423.2.2 > 1099511627775 then ((samphireref09_wrong.f bt423.1 bt423.2.1 91).bind fun bt427 => (some (bt427.1, bt427.2, 0))) else (some (bt423.1, bt423.2.1, bt423.2.2)))) = some (r1, r2, r3) := h; clear h; replace H := Option.bind_eq_some_iff.mp H; obtain ⟨⟨t423, t424, t425⟩, A20, H⟩ := H; try dsimp only at H
 have A2 := Aside0.mk A20; clear A20; by_cases c3 : t425 > 1099511627775
 ·rw [if_pos c3] at H; have c3b0 : decide (1099511627775 < t425) = true := decide_eq_true c3; clear c3; replace H := Option.bind_eq_some_iff.mp H; obtain ⟨⟨t427, t428⟩, A40, H⟩ := H; try dsimp only at H
  have A4 := Aside0.mk A40; clear A40; simp only [Option.some.injEq, Prod.mk.injEq] at H; obtain ⟨rfl, rfl, rfl⟩ := H; go_enter Tryd.func67, Tryd.ntmps67
  go_wp2_with (first | ((with_reducible refine gate_dst (N := 1) rfl ?_); refine box_event ?hg (N := 1) ?hd (cs := #[.string a0_0, .int .i64 a0_1]) (t := 105) ?hr ?_; (case hd => rfl); (case hg => rfl); (case hr => first | (go_simp; done) | (go_simp; rfl)); intro gb421 hg w5 hbox hb; have n0_ := Aside0.mk (below_step hb_ hb); have n1_ := Aside0.mk (hbox); have n2_ := Aside0.mk ((by rw [hg]; exact (below_size hb_) : w.heap.size ≤ gb421)); have n3_ := Aside0.mk ((by rw [hg]; exact (below_size hb_) : w.heap.size ≤ gb421)); clear HB; have HB := n0_; have BK421 := n1_; have GW421 := n2_; have GE421 := n3_; clear n0_ n1_ n2_ n3_; clear hb hbox hg) | ((with_reducible refine gate_dst (N := 2) rfl ?_); refine box_event ?hg (N := 2) ?hd (cs := #[.string (⟨#[]⟩ : ByteArray), .int .i64 0]) (t := 105) ?hr ?_; (case hd => rfl); (case hg => rfl); (case hr => first | (go_simp; done) | (go_simp; rfl)); intro gb422 hg w6 hbox hb; have n0_ := Aside0.mk (blk_below (g := gb421) (o := .cells #[.string a0_0, .int .i64 a0_1] 105 (0, 0)) (by (with_reducible repeat (first | refine blk_drewN ?_ _ | refine blk_drew ?_ | refine blk_alloc ?_ _)); exact BK421.out) hb); have n1_ := Aside0.mk (below_step (by repeat (first | (with_reducible first | exact HB.out | apply below_alloc | apply pw_below_drewN | apply below_drew1 | refine below_set ?_ GE421.out) | exact HB.out)) hb); have n2_ := Aside0.mk (hbox); have n3_ := Aside0.mk ((by rw [hg]; exact (below_size (by repeat (first | (with_reducible first | exact HB.out | apply below_alloc | apply pw_below_drewN | apply below_drew1 | refine below_set ?_ GE421.out) | exact HB.out))) : w.heap.size ≤ gb422)); have n4_ := Aside0.mk ((by rw [hg]; exact (below_size (by repeat (first | (with_reducible first | exact HB.out | apply below_alloc | apply pw_below_drewN | apply below_drew1 | refine below_set ?_ GE421.out) | exact HB.out))) : w.heap.size ≤ gb422)); have n5_ := Aside0.mk ((by rw [hg]; exact Nat.ne_of_lt (blk_lt (g := gb421) (o := .cells #[.string a0_0, .int .i64 a0_1] 105 (0, 0)) (by (with_reducible repeat (first | refine blk_drewN ?_ _ | refine blk_drew ?_ | refine blk_alloc ?_ _)); exact BK421.out)) : gb421 ≠ gb422)); have n6_ := Aside0.mk ((by rw [hg]; exact Nat.ne_of_gt (blk_lt (g := gb421) (o := .cells #[.string a0_0, .int .i64 a0_1] 105 (0, 0)) (by (with_reducible repeat (first | refine blk_drewN ?_ _ | refine blk_drew ?_ | refine blk_alloc ?_ _)); exact BK421.out)) : gb422 ≠ gb421)); clear BK421; clear HB; have BK421 := n0_; have HB := n1_; have BK422 := n2_; have GW422 := n3_; have GE422 := n4_; have NB421_422 := n5_; have NB422_421 := n6_; clear n0_ n1_ n2_ n3_ n4_ n5_ n6_; clear hb hbox hg; have hnb7 := NB421_422.out; have hnc7 := NB422_421.out; have hcz8_0 : w6.cell? ⟨gb421, 0, none⟩ = some (.string a0_0) := (blk_cell BK421.out 0).trans rfl; have hcz8_1 : w6.cell? ⟨gb421, 1, none⟩ = some (.int .i64 a0_1) := (blk_cell BK421.out 1).trans rfl; have hfz8_0 := blk_frozen BK421.out 0; have hfz8_1 := blk_frozen BK421.out 1) | ((with_reducible refine gate_callee (f := 95) rfl ?_); refine gl_ 8 Tryd.func95 #[.agg #[.string a0_0, .int .i64 a0_1], .int .i64 6] ?_; (with_reducible refine (samphireref09_number.calls k a0_0 a0_1 6 t423 t424 t425 _ A2.out).mono ?_); rintro e w9 ⟨rfl, hb⟩; refine ⟨_, rfl, ?_⟩; have n0_ := Aside0.mk (blk_below (g := gb421) (o := .cells #[.string a0_0, .int .i64 a0_1] 105 (0, 0)) (by (with_reducible repeat (first | refine blk_drewN ?_ _ | refine blk_drew ?_ | refine blk_alloc ?_ _)); exact BK421.out) hb); have n1_ := Aside0.mk (blk_below (g := gb422) (o := .cells #[.string (⟨#[]⟩ : ByteArray), .int .i64 0] 105 (0, 0)) (by (with_reducible repeat (first | refine blk_drewN ?_ _ | refine blk_drew ?_ | refine blk_alloc ?_ _)); exact BK422.out) hb); have n2_ := Aside0.mk (below_step (by repeat (first | (with_reducible first | exact HB.out | apply below_alloc | apply pw_below_drewN | apply below_drew1 | refine below_set ?_ GE421.out | refine below_set ?_ GE422.out) | exact HB.out)) hb); clear BK421; clear BK422; clear HB; have BK421 := n0_; have BK422 := n1_; have HB := n2_; clear n0_ n1_ n2_) | ((with_reducible refine gate_dst (N := 4) rfl ?_); refine box_event ?hg (N := 4) ?hd (cs := #[.string (⟨#[]⟩ : ByteArray), .int .i64 0]) (t := 105) ?hr ?_; (case hd => rfl); (case hg => rfl); (case hr => first | (go_simp; done) | (go_simp; rfl)); intro gb426 hg w10 hbox hb; have n0_ := Aside0.mk (blk_below (g := gb421) (o := .cells #[.string a0_0, .int .i64 a0_1] 105 (0, 0)) (by (with_reducible repeat (first | refine blk_drewN ?_ _ | refine blk_drew ?_ | refine blk_alloc ?_ _)); exact BK421.out) hb); have n1_ := Aside0.mk (blk_below (g := gb422) (o := .cells #[.string (⟨#[]⟩ : ByteArray), .int .i64 0] 105 (0, 0)) (by (with_reducible repeat (first | refine blk_drewN ?_ _ | refine blk_drew ?_ | refine blk_alloc ?_ _)); exact BK422.out) hb); have n2_ := Aside0.mk (below_step (by repeat (first | (with_reducible first | exact HB.out | apply below_alloc | apply pw_below_drewN | apply below_drew1 | refine below_set ?_ GE421.out | refine below_set ?_ GE422.out) | exact HB.out)) hb); have n3_ := Aside0.mk (hbox); have n4_ := Aside0.mk ((by rw [hg]; exact (below_size (by repeat (first | (with_reducible first | exact HB.out | apply below_alloc | apply pw_below_drewN | apply below_drew1 | refine below_set ?_ GE421.out | refine below_set ?_ GE422.out) | exact HB.out))) : w.heap.size ≤ gb426)); have n5_ := Aside0.mk ((by rw [hg]; exact (below_size (by repeat (first | (with_reducible first | exact HB.out | apply below_alloc | apply pw_below_drewN | apply below_drew1 | refine below_set ?_ GE421.out | refine below_set ?_ GE422.out) | exact HB.out))) : w.heap.size ≤ gb426)); have n6_ := Aside0.mk ((by rw [hg]; exact Nat.ne_of_lt (blk_lt (g := gb421) (o := .cells #[.string a0_0, .int .i64 a0_1] 105 (0, 0)) (by (with_reducible repeat (first | refine blk_drewN ?_ _ | refine blk_drew ?_ | refine blk_alloc ?_ _)); exact BK421.out)) : gb421 ≠ gb426)); have n7_ := Aside0.mk ((by rw [hg]; exact Nat.ne_of_gt (blk_lt (g := gb421) (o := .cells #[.string a0_0, .int .i64 a0_1] 105 (0, 0)) (by (with_reducible repeat (first | refine blk_drewN ?_ _ | refine blk_drew ?_ | refine blk_alloc ?_ _)); exact BK421.out)) : gb426 ≠ gb421)); have n8_ := Aside0.mk ((by rw [hg]; exact Nat.ne_of_lt (blk_lt (g := gb422) (o := .cells #[.string (⟨#[]⟩ : ByteArray), .int .i64 0] 105 (0, 0)) (by (with_reducible repeat (first | refine blk_drewN ?_ _ | refine blk_drew ?_ | refine blk_alloc ?_ _)); exact BK422.out)) : gb422 ≠ gb426)); have n9_ := Aside0.mk ((by rw [hg]; exact Nat.ne_of_gt (blk_lt (g := gb422) (o := .cells #[.string (⟨#[]⟩ : ByteArray), .int .i64 0] 105 (0, 0)) (by (with_reducible repeat (first | refine blk_drewN ?_ _ | refine blk_drew ?_ | refine blk_alloc ?_ _)); exact BK422.out)) : gb426 ≠ gb422)); clear BK421; clear BK422; clear HB; have BK421 := n0_; have BK422 := n1_; have HB := n2_; have BK426 := n3_; have GW426 := n4_; have GE426 := n5_; have NB421_426 := n6_; have NB426_421 := n7_; have NB422_426 := n8_; have NB426_422 := n9_; clear n0_ n1_ n2_ n3_ n4_ n5_ n6_ n7_ n8_ n9_; clear hb hbox hg; have hnb11 := NB426_421.out; have hnc11 := NB421_426.out; have hnb12 := NB426_422.out; have hnc12 := NB422_426.out; have hcz13_0 : w10.cell? ⟨gb426, 0, none⟩ = some (.string (⟨#[]⟩ : ByteArray)) := (blk_cell BK426.out 0).trans rfl; have hcz13_1 : w10.cell? ⟨gb426, 1, none⟩ = some (.int .i64 0) := (blk_cell BK426.out 1).trans rfl; have hfz13_0 := blk_frozen BK426.out 0; have hfz13_1 := blk_frozen BK426.out 1) | ((with_reducible refine gate_callee (f := 96) rfl ?_); refine gl_ 14 Tryd.func96 #[.agg #[.string t423, .int .i64 t424], .int .i64 91] ?_; (with_reducible refine (samphireref09_wrong.calls t423 t424 91 t427 t428 _ A4.out).mono ?_); rintro e w14 ⟨rfl, hb⟩; refine ⟨_, rfl, ?_⟩; have n0_ := Aside0.mk (blk_below (g := gb421) (o := .cells #[.string a0_0, .int .i64 a0_1] 105 (0, 0)) (by (with_reducible repeat (first | refine blk_drewN ?_ _ | refine blk_drew ?_ | refine blk_alloc ?_ _)); refine blk_far ?_ NB421_426.out _; (with_reducible repeat (first | refine blk_drewN ?_ _ | refine blk_drew ?_ | refine blk_alloc ?_ _)); refine blk_far ?_ NB421_426.out _; (with_reducible repeat (first | refine blk_drewN ?_ _ | refine blk_drew ?_ | refine blk_alloc ?_ _)); exact BK421.out) hb); have n1_ := Aside0.mk (blk_below (g := gb422) (o := .cells #[.string (⟨#[]⟩ : ByteArray), .int .i64 0] 105 (0, 0)) (by (with_reducible repeat (first | refine blk_drewN ?_ _ | refine blk_drew ?_ | refine blk_alloc ?_ _)); refine blk_far ?_ NB422_426.out _; (with_reducible repeat (first | refine blk_drewN ?_ _ | refine blk_drew ?_ | refine blk_alloc ?_ _)); refine blk_far ?_ NB422_426.out _; (with_reducible repeat (first | refine blk_drewN ?_ _ | refine blk_drew ?_ | refine blk_alloc ?_ _)); exact BK422.out) hb); have n2_ := Aside0.mk (blk_below (g := gb426) (o := .cells #[.string t423, .int .i64 t424] 105 (0, 0)) (by (with_reducible repeat (first | refine blk_drewN ?_ _ | refine blk_drew ?_ | refine blk_alloc ?_ _)); refine blk_put (cs := #[.string t423, .int .i64 0]) ?_ 1 _ rfl; (with_reducible repeat (first | refine blk_drewN ?_ _ | refine blk_drew ?_ | refine blk_alloc ?_ _)); refine blk_put (cs := #[.string (⟨#[]⟩ : ByteArray), .int .i64 0]) ?_ 0 _ rfl; (with_reducible repeat (first | refine blk_drewN ?_ _ | refine blk_drew ?_ | refine blk_alloc ?_ _)); exact BK426.out) hb); have n3_ := Aside0.mk (below_step (by repeat (first | (with_reducible first | exact HB.out | apply below_alloc | apply pw_below_drewN | apply below_drew1 | refine below_set ?_ GE421.out | refine below_set ?_ GE422.out | refine below_set ?_ GE426.out) | exact HB.out)) hb); clear BK421; clear BK422; clear BK426; clear HB; have BK421 := n0_; have BK422 := n1_; have BK426 := n2_; have HB := n3_; clear n0_ n1_ n2_ n3_; have hcz15_0 : w14.cell? ⟨gb422, 0, none⟩ = some (.string (⟨#[]⟩ : ByteArray)) := (blk_cell BK422.out 0).trans rfl; have hcz15_1 : w14.cell? ⟨gb422, 1, none⟩ = some (.int .i64 0) := (blk_cell BK422.out 1).trans rfl; have hfz15_0 := blk_frozen BK422.out 0; have hfz15_1 := blk_frozen BK422.out 1))
  refine bodyPost_ret (results_ct rfl _ _ gb422 105 #[.string t427, .int .i64 t428] (0, 0) _ rfl (by (with_reducible repeat (first | refine blk_drewN ?_ _ | refine blk_drew ?_ | refine blk_alloc ?_ _)); refine blk_put (cs := #[.string t427, .int .i64 0]) ?_ 1 _ rfl; (with_reducible repeat (first | refine blk_drewN ?_ _ | refine blk_drew ?_ | refine blk_alloc ?_ _)); refine blk_put (cs := #[.string (⟨#[]⟩ : ByteArray), .int .i64 0]) ?_ 0 _ rfl; (with_reducible repeat (first | refine blk_drewN ?_ _ | refine blk_drew ?_ | refine blk_alloc ?_ _)); exact BK422.out) Tryd.underlying105 rfl (by kernel_rfl)) rfl ?_; exact ⟨ew_, by repeat (first | (with_reducible first | exact HB.out | apply below_alloc | apply pw_below_drewN | apply below_drew1 | refine below_set ?_ GE421.out | refine below_set ?_ GE422.out | refine below_set ?_ GE426.out) | exact HB.out)⟩
 ·rw [if_neg c3] at H; have c3b0 : decide (1099511627775 < t425) = false := decide_eq_false c3; clear c3; simp only [Option.some.injEq, Prod.mk.injEq] at H; obtain ⟨rfl, rfl, rfl⟩ := H; go_enter Tryd.func67, Tryd.ntmps67
  go_wp2_with (first | ((with_reducible refine gate_dst (N := 1) rfl ?_); refine box_event ?hg (N := 1) ?hd (cs := #[.string a0_0, .int .i64 a0_1]) (t := 105) ?hr ?_; (case hd => rfl); (case hg => rfl); (case hr => first | (go_simp; done) | (go_simp; rfl)); intro gb421 hg w16 hbox hb; have n0_ := Aside0.mk (below_step hb_ hb); have n1_ := Aside0.mk (hbox); have n2_ := Aside0.mk ((by rw [hg]; exact (below_size hb_) : w.heap.size ≤ gb421)); have n3_ := Aside0.mk ((by rw [hg]; exact (below_size hb_) : w.heap.size ≤ gb421)); clear HB; have HB := n0_; have BK421 := n1_; have GW421 := n2_; have GE421 := n3_; clear n0_ n1_ n2_ n3_; clear hb hbox hg) | ((with_reducible refine gate_dst (N := 2) rfl ?_); refine box_event ?hg (N := 2) ?hd (cs := #[.string (⟨#[]⟩ : ByteArray), .int .i64 0]) (t := 105) ?hr ?_; (case hd => rfl); (case hg => rfl); (case hr => first | (go_simp; done) | (go_simp; rfl)); intro gb422 hg w17 hbox hb; have n0_ := Aside0.mk (blk_below (g := gb421) (o := .cells #[.string a0_0, .int .i64 a0_1] 105 (0, 0)) (by (with_reducible repeat (first | refine blk_drewN ?_ _ | refine blk_drew ?_ | refine blk_alloc ?_ _)); exact BK421.out) hb); have n1_ := Aside0.mk (below_step (by repeat (first | (with_reducible first | exact HB.out | apply below_alloc | apply pw_below_drewN | apply below_drew1 | refine below_set ?_ GE421.out) | exact HB.out)) hb); have n2_ := Aside0.mk (hbox); have n3_ := Aside0.mk ((by rw [hg]; exact (below_size (by repeat (first | (with_reducible first | exact HB.out | apply below_alloc | apply pw_below_drewN | apply below_drew1 | refine below_set ?_ GE421.out) | exact HB.out))) : w.heap.size ≤ gb422)); have n4_ := Aside0.mk ((by rw [hg]; exact (below_size (by repeat (first | (with_reducible first | exact HB.out | apply below_alloc | apply pw_below_drewN | apply below_drew1 | refine below_set ?_ GE421.out) | exact HB.out))) : w.heap.size ≤ gb422)); have n5_ := Aside0.mk ((by rw [hg]; exact Nat.ne_of_lt (blk_lt (g := gb421) (o := .cells #[.string a0_0, .int .i64 a0_1] 105 (0, 0)) (by (with_reducible repeat (first | refine blk_drewN ?_ _ | refine blk_drew ?_ | refine blk_alloc ?_ _)); exact BK421.out)) : gb421 ≠ gb422)); have n6_ := Aside0.mk ((by rw [hg]; exact Nat.ne_of_gt (blk_lt (g := gb421) (o := .cells #[.string a0_0, .int .i64 a0_1] 105 (0, 0)) (by (with_reducible repeat (first | refine blk_drewN ?_ _ | refine blk_drew ?_ | refine blk_alloc ?_ _)); exact BK421.out)) : gb422 ≠ gb421)); clear BK421; clear HB; have BK421 := n0_; have HB := n1_; have BK422 := n2_; have GW422 := n3_; have GE422 := n4_; have NB421_422 := n5_; have NB422_421 := n6_; clear n0_ n1_ n2_ n3_ n4_ n5_ n6_; clear hb hbox hg; have hnb18 := NB421_422.out; have hnc18 := NB422_421.out; have hcz19_0 : w17.cell? ⟨gb421, 0, none⟩ = some (.string a0_0) := (blk_cell BK421.out 0).trans rfl; have hcz19_1 : w17.cell? ⟨gb421, 1, none⟩ = some (.int .i64 a0_1) := (blk_cell BK421.out 1).trans rfl; have hfz19_0 := blk_frozen BK421.out 0; have hfz19_1 := blk_frozen BK421.out 1) | ((with_reducible refine gate_callee (f := 95) rfl ?_); refine gl_ 8 Tryd.func95 #[.agg #[.string a0_0, .int .i64 a0_1], .int .i64 6] ?_; (with_reducible refine (samphireref09_number.calls k a0_0 a0_1 6 t423 t424 t425 _ A2.out).mono ?_); rintro e w20 ⟨rfl, hb⟩; refine ⟨_, rfl, ?_⟩; have n0_ := Aside0.mk (blk_below (g := gb421) (o := .cells #[.string a0_0, .int .i64 a0_1] 105 (0, 0)) (by (with_reducible repeat (first | refine blk_drewN ?_ _ | refine blk_drew ?_ | refine blk_alloc ?_ _)); exact BK421.out) hb); have n1_ := Aside0.mk (blk_below (g := gb422) (o := .cells #[.string (⟨#[]⟩ : ByteArray), .int .i64 0] 105 (0, 0)) (by (with_reducible repeat (first | refine blk_drewN ?_ _ | refine blk_drew ?_ | refine blk_alloc ?_ _)); exact BK422.out) hb); have n2_ := Aside0.mk (below_step (by repeat (first | (with_reducible first | exact HB.out | apply below_alloc | apply pw_below_drewN | apply below_drew1 | refine below_set ?_ GE421.out | refine below_set ?_ GE422.out) | exact HB.out)) hb); clear BK421; clear BK422; clear HB; have BK421 := n0_; have BK422 := n1_; have HB := n2_; clear n0_ n1_ n2_) | ((with_reducible refine gate_dst (N := 4) rfl ?_); refine box_event ?hg (N := 4) ?hd (cs := #[.string (⟨#[]⟩ : ByteArray), .int .i64 0]) (t := 105) ?hr ?_; (case hd => rfl); (case hg => rfl); (case hr => first | (go_simp; done) | (go_simp; rfl)); intro gb426 hg w21 hbox hb; have n0_ := Aside0.mk (blk_below (g := gb421) (o := .cells #[.string a0_0, .int .i64 a0_1] 105 (0, 0)) (by (with_reducible repeat (first | refine blk_drewN ?_ _ | refine blk_drew ?_ | refine blk_alloc ?_ _)); exact BK421.out) hb); have n1_ := Aside0.mk (blk_below (g := gb422) (o := .cells #[.string (⟨#[]⟩ : ByteArray), .int .i64 0] 105 (0, 0)) (by (with_reducible repeat (first | refine blk_drewN ?_ _ | refine blk_drew ?_ | refine blk_alloc ?_ _)); exact BK422.out) hb); have n2_ := Aside0.mk (below_step (by repeat (first | (with_reducible first | exact HB.out | apply below_alloc | apply pw_below_drewN | apply below_drew1 | refine below_set ?_ GE421.out | refine below_set ?_ GE422.out) | exact HB.out)) hb); have n3_ := Aside0.mk (hbox); have n4_ := Aside0.mk ((by rw [hg]; exact (below_size (by repeat (first | (with_reducible first | exact HB.out | apply below_alloc | apply pw_below_drewN | apply below_drew1 | refine below_set ?_ GE421.out | refine below_set ?_ GE422.out) | exact HB.out))) : w.heap.size ≤ gb426)); have n5_ := Aside0.mk ((by rw [hg]; exact (below_size (by repeat (first | (with_reducible first | exact HB.out | apply below_alloc | apply pw_below_drewN | apply below_drew1 | refine below_set ?_ GE421.out | refine below_set ?_ GE422.out) | exact HB.out))) : w.heap.size ≤ gb426)); have n6_ := Aside0.mk ((by rw [hg]; exact Nat.ne_of_lt (blk_lt (g := gb421) (o := .cells #[.string a0_0, .int .i64 a0_1] 105 (0, 0)) (by (with_reducible repeat (first | refine blk_drewN ?_ _ | refine blk_drew ?_ | refine blk_alloc ?_ _)); exact BK421.out)) : gb421 ≠ gb426)); have n7_ := Aside0.mk ((by rw [hg]; exact Nat.ne_of_gt (blk_lt (g := gb421) (o := .cells #[.string a0_0, .int .i64 a0_1] 105 (0, 0)) (by (with_reducible repeat (first | refine blk_drewN ?_ _ | refine blk_drew ?_ | refine blk_alloc ?_ _)); exact BK421.out)) : gb426 ≠ gb421)); have n8_ := Aside0.mk ((by rw [hg]; exact Nat.ne_of_lt (blk_lt (g := gb422) (o := .cells #[.string (⟨#[]⟩ : ByteArray), .int .i64 0] 105 (0, 0)) (by (with_reducible repeat (first | refine blk_drewN ?_ _ | refine blk_drew ?_ | refine blk_alloc ?_ _)); exact BK422.out)) : gb422 ≠ gb426)); have n9_ := Aside0.mk ((by rw [hg]; exact Nat.ne_of_gt (blk_lt (g := gb422) (o := .cells #[.string (⟨#[]⟩ : ByteArray), .int .i64 0] 105 (0, 0)) (by (with_reducible repeat (first | refine blk_drewN ?_ _ | refine blk_drew ?_ | refine blk_alloc ?_ _)); exact BK422.out)) : gb426 ≠ gb422)); clear BK421; clear BK422; clear HB; have BK421 := n0_; have BK422 := n1_; have HB := n2_; have BK426 := n3_; have GW426 := n4_; have GE426 := n5_; have NB421_426 := n6_; have NB426_421 := n7_; have NB422_426 := n8_; have NB426_422 := n9_; clear n0_ n1_ n2_ n3_ n4_ n5_ n6_ n7_ n8_ n9_; clear hb hbox hg; have hnb22 := NB426_421.out; have hnc22 := NB421_426.out; have hnb23 := NB426_422.out; have hnc23 := NB422_426.out; have hcz24_0 : w21.cell? ⟨gb426, 0, none⟩ = some (.string (⟨#[]⟩ : ByteArray)) := (blk_cell BK426.out 0).trans rfl; have hcz24_1 : w21.cell? ⟨gb426, 1, none⟩ = some (.int .i64 0) := (blk_cell BK426.out 1).trans rfl; have hfz24_0 := blk_frozen BK426.out 0; have hfz24_1 := blk_frozen BK426.out 1; have hcz25_0 : w21.cell? ⟨gb422, 0, none⟩ = some (.string (⟨#[]⟩ : ByteArray)) := (blk_cell BK422.out 0).trans rfl; have hcz25_1 : w21.cell? ⟨gb422, 1, none⟩ = some (.int .i64 0) := (blk_cell BK422.out 1).trans rfl; have hfz25_0 := blk_frozen BK422.out 0; have hfz25_1 := blk_frozen BK422.out 1))
  refine bodyPost_ret (results_ct rfl _ _ gb422 105 #[.string t423, .int .i64 t424] (0, 0) _ rfl (by (with_reducible repeat (first | refine blk_drewN ?_ _ | refine blk_drew ?_ | refine blk_alloc ?_ _)); refine blk_put (cs := #[.string t423, .int .i64 0]) ?_ 1 _ rfl; (with_reducible repeat (first | refine blk_drewN ?_ _ | refine blk_drew ?_ | refine blk_alloc ?_ _)); refine blk_put (cs := #[.string (⟨#[]⟩ : ByteArray), .int .i64 0]) ?_ 0 _ rfl; (with_reducible repeat (first | refine blk_drewN ?_ _ | refine blk_drew ?_ | refine blk_alloc ?_ _)); refine blk_far ?_ NB422_426.out _; (with_reducible repeat (first | refine blk_drewN ?_ _ | refine blk_drew ?_ | refine blk_alloc ?_ _)); refine blk_far ?_ NB422_426.out _; (with_reducible repeat (first | refine blk_drewN ?_ _ | refine blk_drew ?_ | refine blk_alloc ?_ _)); exact BK422.out) Tryd.underlying105 rfl (by kernel_rfl)) rfl ?_; exact ⟨ew_, by repeat (first | (with_reducible first | exact HB.out | apply below_alloc | apply pw_below_drewN | apply below_drew1 | refine below_set ?_ GE421.out | refine below_set ?_ GE422.out | refine below_set ?_ GE426.out) | exact HB.out)⟩
def samphireref09_InByte.f (k : Nat) (a0_0 : ByteArray) (a0_1 : Int) : Option (ByteArray × Int × Int) := (samphireref09_number.f k a0_0 a0_1 1).bind fun bt431 => (some (bt431.1, bt431.2.1, bt431.2.2))
set_option maxHeartbeats 8000000 in
set_option maxRecDepth 100000 in
theorem samphireref09_InByte.calls (k : Nat) (a0_0 : ByteArray) (a0_1 : Int) (r1 : ByteArray) (r2 : Int) (r3 : Int) (w : World) (h : samphireref09_InByte.f k a0_0 a0_1 = some (r1, r2, r3)) :
  Calls Tryd.prog 68 #[.agg #[.string a0_0, .int .i64 a0_1]] w fun e w' => e = .returned (.tuple #[.agg #[.string r1, .int .i64 r2], .int .i64 r3]) ∧ Below w.heap.size w w' := by
 have hu105 := Tryd.underlying105; have HB := Aside0.mk (Below.refl w.heap.size w); have H : ((samphireref09_number.f k a0_0 a0_1 1).bind fun bt431 => (some (bt431.1, bt431.2.1, bt431.2.2))) = some (r1, r2, r3) := h; clear h; replace H := Option.bind_eq_some_iff.mp H; obtain ⟨⟨t431, t432, t433⟩, A20, H⟩ := H; try dsimp only at H
 have A2 := Aside0.mk A20; clear A20; simp only [Option.some.injEq, Prod.mk.injEq] at H; obtain ⟨rfl, rfl, rfl⟩ := H; go_enter Tryd.func68, Tryd.ntmps68
 go_wp2_with (first | ((with_reducible refine gate_dst (N := 1) rfl ?_); refine box_event ?hg (N := 1) ?hd (cs := #[.string a0_0, .int .i64 a0_1]) (t := 105) ?hr ?_; (case hd => rfl); (case hg => rfl); (case hr => first | (go_simp; done) | (go_simp; rfl)); intro gb429 hg w3 hbox hb; have n0_ := Aside0.mk (below_step hb_ hb); have n1_ := Aside0.mk (hbox); have n2_ := Aside0.mk ((by rw [hg]; exact (below_size hb_) : w.heap.size ≤ gb429)); have n3_ := Aside0.mk ((by rw [hg]; exact (below_size hb_) : w.heap.size ≤ gb429)); clear HB; have HB := n0_; have BK429 := n1_; have GW429 := n2_; have GE429 := n3_; clear n0_ n1_ n2_ n3_; clear hb hbox hg) | ((with_reducible refine gate_dst (N := 2) rfl ?_); refine box_event ?hg (N := 2) ?hd (cs := #[.string (⟨#[]⟩ : ByteArray), .int .i64 0]) (t := 105) ?hr ?_; (case hd => rfl); (case hg => rfl); (case hr => first | (go_simp; done) | (go_simp; rfl)); intro gb430 hg w4 hbox hb; have n0_ := Aside0.mk (blk_below (g := gb429) (o := .cells #[.string a0_0, .int .i64 a0_1] 105 (0, 0)) (by (with_reducible repeat (first | refine blk_drewN ?_ _ | refine blk_drew ?_ | refine blk_alloc ?_ _)); exact BK429.out) hb); have n1_ := Aside0.mk (below_step (by repeat (first | (with_reducible first | exact HB.out | apply below_alloc | apply pw_below_drewN | apply below_drew1 | refine below_set ?_ GE429.out) | exact HB.out)) hb); have n2_ := Aside0.mk (hbox); have n3_ := Aside0.mk ((by rw [hg]; exact (below_size (by repeat (first | (with_reducible first | exact HB.out | apply below_alloc | apply pw_below_drewN | apply below_drew1 | refine below_set ?_ GE429.out) | exact HB.out))) : w.heap.size ≤ gb430)); have n4_ := Aside0.mk ((by rw [hg]; exact (below_size (by repeat (first | (with_reducible first | exact HB.out | apply below_alloc | apply pw_below_drewN | apply below_drew1 | refine below_set ?_ GE429.out) | exact HB.out))) : w.heap.size ≤ gb430)); have n5_ := Aside0.mk ((by rw [hg]; exact Nat.ne_of_lt (blk_lt (g := gb429) (o := .cells #[.string a0_0, .int .i64 a0_1] 105 (0, 0)) (by (with_reducible repeat (first | refine blk_drewN ?_ _ | refine blk_drew ?_ | refine blk_alloc ?_ _)); exact BK429.out)) : gb429 ≠ gb430)); have n6_ := Aside0.mk ((by rw [hg]; exact Nat.ne_of_gt (blk_lt (g := gb429) (o := .cells #[.string a0_0, .int .i64 a0_1] 105 (0, 0)) (by (with_reducible repeat (first | refine blk_drewN ?_ _ | refine blk_drew ?_ | refine blk_alloc ?_ _)); exact BK429.out)) : gb430 ≠ gb429)); clear BK429; clear HB; have BK429 := n0_; have HB := n1_; have BK430 := n2_; have GW430 := n3_; have GE430 := n4_; have NB429_430 := n5_; have NB430_429 := n6_; clear n0_ n1_ n2_ n3_ n4_ n5_ n6_; clear hb hbox hg; have hnb5 := NB429_430.out; have hnc5 := NB430_429.out; have hcz6_0 : w4.cell? ⟨gb429, 0, none⟩ = some (.string a0_0) := (blk_cell BK429.out 0).trans rfl; have hcz6_1 : w4.cell? ⟨gb429, 1, none⟩ = some (.int .i64 a0_1) := (blk_cell BK429.out 1).trans rfl; have hfz6_0 := blk_frozen BK429.out 0; have hfz6_1 := blk_frozen BK429.out 1) | ((with_reducible refine gate_callee (f := 95) rfl ?_); refine gl_ 5 Tryd.func95 #[.agg #[.string a0_0, .int .i64 a0_1], .int .i64 1] ?_; (with_reducible refine (samphireref09_number.calls k a0_0 a0_1 1 t431 t432 t433 _ A2.out).mono ?_); rintro e w7 ⟨rfl, hb⟩; refine ⟨_, rfl, ?_⟩; have n0_ := Aside0.mk (blk_below (g := gb429) (o := .cells #[.string a0_0, .int .i64 a0_1] 105 (0, 0)) (by (with_reducible repeat (first | refine blk_drewN ?_ _ | refine blk_drew ?_ | refine blk_alloc ?_ _)); exact BK429.out) hb); have n1_ := Aside0.mk (blk_below (g := gb430) (o := .cells #[.string (⟨#[]⟩ : ByteArray), .int .i64 0] 105 (0, 0)) (by (with_reducible repeat (first | refine blk_drewN ?_ _ | refine blk_drew ?_ | refine blk_alloc ?_ _)); exact BK430.out) hb); have n2_ := Aside0.mk (below_step (by repeat (first | (with_reducible first | exact HB.out | apply below_alloc | apply pw_below_drewN | apply below_drew1 | refine below_set ?_ GE429.out | refine below_set ?_ GE430.out) | exact HB.out)) hb); clear BK429; clear BK430; clear HB; have BK429 := n0_; have BK430 := n1_; have HB := n2_; clear n0_ n1_ n2_; have hcz8_0 : w7.cell? ⟨gb430, 0, none⟩ = some (.string (⟨#[]⟩ : ByteArray)) := (blk_cell BK430.out 0).trans rfl; have hcz8_1 : w7.cell? ⟨gb430, 1, none⟩ = some (.int .i64 0) := (blk_cell BK430.out 1).trans rfl; have hfz8_0 := blk_frozen BK430.out 0; have hfz8_1 := blk_frozen BK430.out 1))
 refine bodyPost_ret (results_ct rfl _ _ gb430 105 #[.string t431, .int .i64 t432] (0, 0) _ rfl (by (with_reducible repeat (first | refine blk_drewN ?_ _ | refine blk_drew ?_ | refine blk_alloc ?_ _)); refine blk_put (cs := #[.string t431, .int .i64 0]) ?_ 1 _ rfl; (with_reducible repeat (first | refine blk_drewN ?_ _ | refine blk_drew ?_ | refine blk_alloc ?_ _)); refine blk_put (cs := #[.string (⟨#[]⟩ : ByteArray), .int .i64 0]) ?_ 0 _ rfl; (with_reducible repeat (first | refine blk_drewN ?_ _ | refine blk_drew ?_ | refine blk_alloc ?_ _)); exact BK430.out) Tryd.underlying105 rfl (by kernel_rfl)) rfl ?_; exact ⟨ew_, by repeat (first | (with_reducible first | exact HB.out | apply below_alloc | apply pw_below_drewN | apply below_drew1 | refine below_set ?_ GE429.out | refine below_set ?_ GE430.out) | exact HB.out)⟩
def samphireref09_InDone.f (a0_0 : ByteArray) (a0_1 : Int) : Option (Int) := if a0_1 = 0 then (if a0_0.toList = ([] : List UInt8) then (some a0_1) else (some 91)) else (some a0_1)
set_option maxHeartbeats 8000000 in
set_option maxRecDepth 100000 in
theorem samphireref09_InDone.calls (a0_0 : ByteArray) (a0_1 : Int) (r : Int) (w : World) (h : samphireref09_InDone.f a0_0 a0_1 = some r) :
  Calls Tryd.prog 69 #[.agg #[.string a0_0, .int .i64 a0_1]] w fun e w' => e = .returned (.int .i64 r) ∧ Below w.heap.size w w' := by
 have hu105 := Tryd.underlying105; have HB := Aside0.mk (Below.refl w.heap.size w); have H : (if a0_1 = 0 then (if a0_0.toList = ([] : List UInt8) then (some a0_1) else (some 91)) else (some a0_1)) = some r := h; clear h; by_cases c2 : a0_1 = 0
 ·rw [if_pos c2] at H; have c2b0 : (a0_1 == 0) = true := beq_iff_eq.mpr c2; have c2b1 : (a0_1 != 0) = false := bne_eq_false_iff_eq.mpr c2; clear c2; by_cases c3 : a0_0.toList = ([] : List UInt8)
  ·rw [if_pos c3] at H; have c3b0 : (a0_0.toList == ([] : List UInt8)) = true := beq_iff_eq.mpr c3; have c3b1 : (a0_0.toList != ([] : List UInt8)) = false := bne_eq_false_iff_eq.mpr c3; clear c3; obtain rfl := Option.some.inj H; go_enter Tryd.func69, Tryd.ntmps69
   go_wp2_with (first | ((with_reducible refine gate_dst (N := 1) rfl ?_); refine box_event ?hg (N := 1) ?hd (cs := #[.string a0_0, .int .i64 a0_1]) (t := 105) ?hr ?_; (case hd => rfl); (case hg => rfl); (case hr => first | (go_simp; done) | (go_simp; rfl)); intro gb434 hg w4 hbox hb; have n0_ := Aside0.mk (below_step hb_ hb); have n1_ := Aside0.mk (hbox); have n2_ := Aside0.mk ((by rw [hg]; exact (below_size hb_) : w.heap.size ≤ gb434)); have n3_ := Aside0.mk ((by rw [hg]; exact (below_size hb_) : w.heap.size ≤ gb434)); clear HB; have HB := n0_; have BK434 := n1_; have GW434 := n2_; have GE434 := n3_; clear n0_ n1_ n2_ n3_; clear hb hbox hg; have hcz5_0 : w4.cell? ⟨gb434, 0, none⟩ = some (.string a0_0) := (blk_cell BK434.out 0).trans rfl; have hcz5_1 : w4.cell? ⟨gb434, 1, none⟩ = some (.int .i64 a0_1) := (blk_cell BK434.out 1).trans rfl; have hfz5_0 := blk_frozen BK434.out 0; have hfz5_1 := blk_frozen BK434.out 1))
   go_ret
   exact ⟨ew_, by repeat (first | (with_reducible first | exact HB.out | apply below_alloc | apply pw_below_drewN | apply below_drew1 | refine below_set ?_ GE434.out) | exact HB.out)⟩
  ·rw [if_neg c3] at H; have c3b0 : (a0_0.toList == ([] : List UInt8)) = false := beq_eq_false_iff_ne.mpr c3; have c3b1 : (a0_0.toList != ([] : List UInt8)) = true := bne_iff_ne.mpr c3; obtain rfl := Option.some.inj H; go_enter Tryd.func69, Tryd.ntmps69
   go_wp2_with (first | ((with_reducible refine gate_dst (N := 1) rfl ?_); refine box_event ?hg (N := 1) ?hd (cs := #[.string a0_0, .int .i64 a0_1]) (t := 105) ?hr ?_; (case hd => rfl); (case hg => rfl); (case hr => first | (go_simp; done) | (go_simp; rfl)); intro gb434 hg w6 hbox hb; have n0_ := Aside0.mk (below_step hb_ hb); have n1_ := Aside0.mk (hbox); have n2_ := Aside0.mk ((by rw [hg]; exact (below_size hb_) : w.heap.size ≤ gb434)); have n3_ := Aside0.mk ((by rw [hg]; exact (below_size hb_) : w.heap.size ≤ gb434)); clear HB; have HB := n0_; have BK434 := n1_; have GW434 := n2_; have GE434 := n3_; clear n0_ n1_ n2_ n3_; clear hb hbox hg; have hcz7_0 : w6.cell? ⟨gb434, 0, none⟩ = some (.string a0_0) := (blk_cell BK434.out 0).trans rfl; have hcz7_1 : w6.cell? ⟨gb434, 1, none⟩ = some (.int .i64 a0_1) := (blk_cell BK434.out 1).trans rfl; have hfz7_0 := blk_frozen BK434.out 0; have hfz7_1 := blk_frozen BK434.out 1))
   go_ret
   exact ⟨ew_, by repeat (first | (with_reducible first | exact HB.out | apply below_alloc | apply pw_below_drewN | apply below_drew1 | refine below_set ?_ GE434.out) | exact HB.out)⟩
 ·rw [if_neg c2] at H; have c2b0 : (a0_1 == 0) = false := beq_eq_false_iff_ne.mpr c2; have c2b1 : (a0_1 != 0) = true := bne_iff_ne.mpr c2; obtain rfl := Option.some.inj H; go_enter Tryd.func69, Tryd.ntmps69
  go_wp2_with (first | ((with_reducible refine gate_dst (N := 1) rfl ?_); refine box_event ?hg (N := 1) ?hd (cs := #[.string a0_0, .int .i64 a0_1]) (t := 105) ?hr ?_; (case hd => rfl); (case hg => rfl); (case hr => first | (go_simp; done) | (go_simp; rfl)); intro gb434 hg w8 hbox hb; have n0_ := Aside0.mk (below_step hb_ hb); have n1_ := Aside0.mk (hbox); have n2_ := Aside0.mk ((by rw [hg]; exact (below_size hb_) : w.heap.size ≤ gb434)); have n3_ := Aside0.mk ((by rw [hg]; exact (below_size hb_) : w.heap.size ≤ gb434)); clear HB; have HB := n0_; have BK434 := n1_; have GW434 := n2_; have GE434 := n3_; clear n0_ n1_ n2_ n3_; clear hb hbox hg; have hcz9_0 : w8.cell? ⟨gb434, 0, none⟩ = some (.string a0_0) := (blk_cell BK434.out 0).trans rfl; have hcz9_1 : w8.cell? ⟨gb434, 1, none⟩ = some (.int .i64 a0_1) := (blk_cell BK434.out 1).trans rfl; have hfz9_0 := blk_frozen BK434.out 0; have hfz9_1 := blk_frozen BK434.out 1))
  go_ret
  exact ⟨ew_, by repeat (first | (with_reducible first | exact HB.out | apply below_alloc | apply pw_below_drewN | apply below_drew1 | refine below_set ?_ GE434.out) | exact HB.out)⟩
end Go.Proofs.YthemhfloablccaaDoor.Pr
end

section
namespace Go.Proofs.YthemhfloablccaaDoor.Pr
open Go.RowKit Go.Deep Go.Proofs.YthemhfloablccaaDoorW.PrintWords Go.Proofs.YthemhfloablccaaDoorW.PrintLast Go.Proofs.YthemhfloablccaaDoorW.PrintMore
set_option maxHeartbeats 2000000
theorem or_byteS (a b : Nat) (hb : b < 256) (ha : a < 140737488355328) : Go.bits .or .i64 ((a : Int) * 256) (b : Int) = ((a * 256 + b : Nat) : Int) := by
 have e1 : ((a : Int) * 256) = ((a * 256 : Nat) : Int) := by omega
 rw [e1]
 show IntKind.i64.wrap ((BitVec.ofInt 64 ((a * 256 : Nat) : Int) ||| BitVec.ofInt 64 (b : Int)).toNat : Nat) = _
 have h1 : (BitVec.ofInt 64 ((a * 256 : Nat) : Int)).toNat = a * 256 := by rw [BitVec.toNat_ofInt]; omega
 have h2 : (BitVec.ofInt 64 (b : Int)).toNat = b := by rw [BitVec.toNat_ofInt]; omega
 rw [BitVec.toNat_or, h1, h2]
 have h3 : a * 256 ||| b = a * 256 + b := by
  have := Nat.two_pow_add_eq_or_of_lt (i := 8) (b := b) hb a
  rw [show (2 : Nat) ^ 8 = 256 from rfl, Nat.mul_comm] at this
  exact this.symm
 rw [h3, IntKind.wrap_i64]
 omega
def valS (l : List Nat) : Nat := l.foldl (fun a b => a * 256 + b) 0
theorem valS_snoc (l : List Nat) (b : Nat) : valS (l ++ [b]) = valS l * 256 + b := by simp [valS]
theorem foldS_lt : ∀ (l : List Nat) (a : Nat), (∀ x ∈ l, x < 256) → l.foldl (fun a b => a * 256 + b) a < (a + 1) * 256 ^ l.length
  | [], a, _ => by simp
  | b :: l, a, h => by
    have h1 := foldS_lt l (a * 256 + b) (fun x hx => h x (List.mem_cons_of_mem _ hx))
    have h2 := h b (List.mem_cons_self ..)
    rw [List.foldl_cons, List.length_cons, Nat.pow_succ, Nat.mul_comm (256 ^ l.length) 256, ← Nat.mul_assoc]
    exact Nat.lt_of_lt_of_le h1 (Nat.mul_le_mul_right _ (by omega))
theorem valS_lt (l : List Nat) (h : ∀ x ∈ l, x < 256) : valS l < 256 ^ l.length := by
 have := foldS_lt l 0 h
 simpa [valS] using this
theorem btS_txt (l : List Nat) (hl : ∀ x ∈ l, x < 256) (j : Nat) (hj : j < l.length) : bt (txt l) (j : Int) = (l[j] : Int) := by
 have h := hl l[j] (List.getElem_mem hj)
 unfold bt
 rw [dif_pos (by rw [Int.toNat_natCast, txt_size]; exact hj)]
 simp [txt, ByteArray.getElem_eq_getElem_data]
 omega
theorem numS_loop (l : List Nat) (hl : ∀ x ∈ l, x < 256) (hn : l.length ≤ 6) (x7 x1000 : Bool) (x1001 : ByteArray) (x1002 : Int) : ∀ (d k j : Nat), j + d = l.length → d < k →
    code_In_number.l0 k (txt l) x7 (valS (l.take j) : Int) (l.length : Int) (j : Int) x1000 x1001 x1002 = some ((valS l : Int), x7, x1000, x1001, x1002)
  | 0, k, j, hd, hk => by
    obtain ⟨k, rfl⟩ : ∃ m, k = m + 1 := ⟨k - 1, by omega⟩
    simp only [code_In_number.l0]
    rw [if_neg (by omega), List.take_of_length_le (by omega)]
  | d + 1, k, j, hd, hk => by
    obtain ⟨k, rfl⟩ : ∃ m, k = m + 1 := ⟨k - 1, by omega⟩
    have hj : j < l.length := by omega
    have hb := hl l[j] (List.getElem_mem hj)
    have hv : valS (l.take j) < 1099511627776 := by
      have h1 := valS_lt (l.take j) (fun x hx => hl x (List.mem_of_mem_take hx))
      have h2 : (l.take j).length ≤ 5 := by rw [List.length_take]; omega
      exact Nat.lt_of_lt_of_le h1 (Nat.pow_le_pow_right (by decide) h2)
    simp only [code_In_number.l0]
    rw [if_pos (by omega), if_pos (by omega), if_pos (by rw [txt_size]; omega), btS_txt l hl j hj]
    have w1 : wrap64 ((valS (l.take j) : Int) * 256) = (valS (l.take j) : Int) * 256 := by unfold wrap64; omega
    have w2 : wrap64 (l[j] : Int) = (l[j] : Int) := by unfold wrap64; omega
    have w3 : wrap64 ((j : Int) + 1) = ((j + 1 : Nat) : Int) := by unfold wrap64; omega
    rw [w1, w2, w3, or_byteS _ _ hb (by omega), ← valS_snoc, ← List.take_succ_eq_append_getElem hj]
    exact numS_loop l hl hn x7 x1000 x1001 x1002 d k (j + 1) (by omega) (by omega)
theorem takeS_ok (T : List Nat) (m : Nat) (h : m ≤ T.length) (k : Nat) : code_In_take.f (k + 1) true (txt T) 0 (m : Int) = some (txt (T.take m), true, true, txt (T.drop m), 0) := by
 unfold code_In_take.f
 rw [if_pos rfl]
 simp only [code_In_take.j0]
 rw [if_neg (by decide), if_neg (by rw [txt_size]; omega), if_pos (by omega), if_pos (by rw [txt_size]; omega), Int.toNat_natCast, txt_size, txt_extract, txt_extract, Nat.sub_zero, List.drop_zero, List.take_of_length_le (l := T.drop m) (by rw [List.length_drop]; omega)]
theorem takeS_short (T : List Nat) (m : Nat) (h : T.length < m) (k : Nat) : code_In_take.f (k + 1) true (txt T) 0 (m : Int) = some (⟨#[]⟩, false, true, ⟨#[]⟩, 90) := by
 unfold code_In_take.f
 rw [if_pos rfl]
 simp only [code_In_take.j0]
 rw [if_neg (by decide), if_pos (by rw [txt_size]; omega)]
 unfold code_In_wrong.f
 rw [if_pos rfl, Option.bind_some]
theorem takeS_bad (T : ByteArray) (e : Int) (he : e ≠ 0) (m : Int) (k : Nat) : code_In_take.f (k + 1) true T e m = some (⟨#[]⟩, false, true, T, e) := by
 unfold code_In_take.f
 rw [if_pos rfl]
 simp only [code_In_take.j0]
 rw [if_pos (by rw [bne_iff_ne]; exact he)]
theorem numberS_none (k : Nat) (x7 x1000 : Bool) (x1001 : ByteArray) (x1002 : Int) : code_In_number.l0 (k + 1) ⟨#[]⟩ x7 0 ((⟨#[]⟩ : ByteArray).size : Int) 0 x1000 x1001 x1002 = some (0, x7, x1000, x1001, x1002) := by
 simp only [code_In_number.l0]
 rw [if_neg (by decide)]
theorem numberS_ok (T : List Nat) (hT : ∀ x ∈ T, x < 256) (m : Nat) (hm : m ≤ 6) (h : m ≤ T.length) : code_In_number.f 10 true (txt T) 0 (m : Int) = some ((valS (T.take m) : Int), true, true, txt (T.drop m), 0) := by
 unfold code_In_number.f
 rw [takeS_ok T m h 9, Option.bind_some]
 have hl : (T.take m).length = m := by rw [List.length_take]; omega
 have := numS_loop (T.take m) (fun x hx => hT x (List.mem_of_mem_take hx)) (by omega) true true (txt (T.drop m)) 0 m 10 0 (by omega) (by omega)
 simpa [valS, txt_size] using this
theorem numberS_short (T : List Nat) (m : Nat) (h : T.length < m) : code_In_number.f 10 true (txt T) 0 (m : Int) = some (0, false, true, ⟨#[]⟩, 90) := by
 unfold code_In_number.f
 rw [takeS_short T m h 9, Option.bind_some]
 exact numberS_none 9 false true ⟨#[]⟩ 90
theorem numberS_bad (T : ByteArray) (e : Int) (he : e ≠ 0) (m : Int) : code_In_number.f 10 true T e m = some (0, false, true, T, e) := by
 unfold code_In_number.f
 rw [takeS_bad T e he m 9, Option.bind_some]
 exact numberS_none 9 false true T e
def numP (T : List Nat) : Int × List Nat × Int :=
 if T.length < 6 then (0, [], 90) else if valS (T.take 6) ≤ 1099511627775 then ((valS (T.take 6) : Int), T.drop 6, 0) else (0, [], 91)
theorem numS (T : List Nat) (hT : ∀ x ∈ T, x < 256) : code_In_Num.f 10 true (txt T) 0 = some ((numP T).1, true, txt (numP T).2.1, (numP T).2.2) := by
 unfold code_In_Num.f numP
 by_cases h : T.length < 6
 ·rw [show (6 : Int) = ((6 : Nat) : Int) from rfl, numberS_short T 6 h, Option.bind_some, if_pos h]
  simp only
  rw [if_neg (by decide)]
  rfl
 ·rw [show (6 : Int) = ((6 : Nat) : Int) from rfl, numberS_ok T hT 6 (by decide) (by omega), Option.bind_some, if_neg h]
  simp only
  rw [if_pos trivial, time_f, Option.bind_some]
  unfold timeB
  by_cases h2 : valS (T.take 6) ≤ 1099511627775
  ·rw [if_pos (decide_eq_true (by omega)), if_pos h2]
  ·rw [if_neg (by rw [decide_eq_true_eq]; omega), if_neg h2]
   unfold code_In_wrong.f
   rw [if_pos rfl, Option.bind_some]
   rfl
theorem numS_bad (T : ByteArray) (e : Int) (he : e ≠ 0) : code_In_Num.f 10 true T e = some (0, true, T, e) := by
 unfold code_In_Num.f
 rw [numberS_bad T e he, Option.bind_some]
 simp only
 rw [if_neg (by decide)]
theorem rnum_loop (T : List Nat) (hT : ∀ x ∈ T, x < 256) (m : Nat) (hm : m ≤ 6) (hl : m ≤ T.length) (e : Int) : ∀ (d k j : Nat), j + d = m → d < k →
    samphireref09_number.l0 k (m : Int) (valS (T.take j) : Int) (j : Int) (txt T) e = some (txt (T.drop m), e, (valS (T.take m) : Int))
  | 0, k, j, hd, hk => by
    obtain ⟨k, rfl⟩ : ∃ m, k = m + 1 := ⟨k - 1, by omega⟩
    obtain rfl : j = m := by omega
    simp only [samphireref09_number.l0]
    rw [if_neg (by omega), if_pos (by omega), if_pos (by rw [txt_size]; omega), Int.toNat_natCast, txt_size, txt_extract, List.take_of_length_le (l := T.drop j) (by rw [List.length_drop]; omega)]
  | d + 1, k, j, hd, hk => by
    obtain ⟨k, rfl⟩ : ∃ m, k = m + 1 := ⟨k - 1, by omega⟩
    have hj : j < T.length := by omega
    have hb := hT T[j] (List.getElem_mem hj)
    have hv : valS (T.take j) < 1099511627776 := by
      have h1 := valS_lt (T.take j) (fun x hx => hT x (List.mem_of_mem_take hx))
      have h2 : (T.take j).length ≤ 5 := by rw [List.length_take]; omega
      exact Nat.lt_of_lt_of_le h1 (Nat.pow_le_pow_right (by decide) h2)
    simp only [samphireref09_number.l0]
    rw [if_pos (by omega), if_pos (by omega), if_pos (by rw [txt_size]; omega), btS_txt T hT j hj]
    have w1 : wrap64 ((valS (T.take j) : Int) * 256) = (valS (T.take j) : Int) * 256 := by unfold wrap64; omega
    have w2 : wrap64 (T[j] : Int) = (T[j] : Int) := by unfold wrap64; omega
    have w3 : wrap64 ((j : Int) + 1) = ((j + 1 : Nat) : Int) := by unfold wrap64; omega
    rw [w1, w2, w3, or_byteS _ _ hb (by omega), ← valS_snoc, ← List.take_succ_eq_append_getElem hj]
    exact rnum_loop T hT m hm hl e d k (j + 1) (by omega) (by omega)
theorem rnumber_ok (T : List Nat) (hT : ∀ x ∈ T, x < 256) (m : Nat) (hm : m ≤ 6) (hl : m ≤ T.length) (k : Nat) (hk : 8 ≤ k) : samphireref09_number.f k (txt T) 0 (m : Int) = some (txt (T.drop m), 0, (valS (T.take m) : Int)) := by
 obtain ⟨k, rfl⟩ : ∃ m, k = m + 1 := ⟨k - 1, by omega⟩
 unfold samphireref09_number.f
 rw [if_pos rfl, decide_eq_false (by rw [txt_size]; omega)]
 simp only [samphireref09_number.j0]
 rw [if_neg (by decide)]
 have := rnum_loop T hT m hm hl 0 m k 0 (by omega) (by omega)
 simpa [valS] using this
theorem rnumber_short (T : List Nat) (m : Nat) (hl : T.length < m) (k : Nat) (hk : 1 ≤ k) : samphireref09_number.f k (txt T) 0 (m : Int) = some (⟨#[]⟩, 90, 0) := by
 obtain ⟨k, rfl⟩ : ∃ m, k = m + 1 := ⟨k - 1, by omega⟩
 unfold samphireref09_number.f
 rw [if_pos rfl, decide_eq_true (by rw [txt_size]; omega)]
 simp only [samphireref09_number.j0]
 unfold samphireref09_wrong.f
 rw [if_pos trivial, if_pos rfl, Option.bind_some]
theorem rnumber_bad (T : ByteArray) (e : Int) (he : e ≠ 0) (m : Int) (k : Nat) (hk : 1 ≤ k) : samphireref09_number.f k T e m = some (⟨#[]⟩, e, 0) := by
 obtain ⟨k, rfl⟩ : ∃ m, k = m + 1 := ⟨k - 1, by omega⟩
 unfold samphireref09_number.f
 rw [if_neg he]
 simp only [samphireref09_number.j0]
 unfold samphireref09_wrong.f
 rw [if_pos trivial, if_neg he, Option.bind_some]
theorem rInNum (T : List Nat) (hT : ∀ x ∈ T, x < 256) (k : Nat) (hk : 8 ≤ k) : samphireref09_InNum.f k (txt T) 0 = some (txt (numP T).2.1, (numP T).2.2, (numP T).1) := by
 unfold samphireref09_InNum.f numP
 by_cases h : T.length < 6
 ·rw [show (6 : Int) = ((6 : Nat) : Int) from rfl, rnumber_short T 6 h k (by omega), Option.bind_some, if_pos h]
  simp only
  rw [if_neg (by decide)]
  rfl
 ·rw [show (6 : Int) = ((6 : Nat) : Int) from rfl, rnumber_ok T hT 6 (by decide) (by omega) k hk, Option.bind_some, if_neg h]
  simp only
  by_cases h2 : valS (T.take 6) ≤ 1099511627775
  ·rw [if_neg (by omega), if_pos h2]
  ·unfold samphireref09_wrong.f
   rw [if_pos (by omega), if_neg h2, if_pos rfl, Option.bind_some]
   rfl
theorem rInNum_bad (T : ByteArray) (e : Int) (he : e ≠ 0) (k : Nat) (hk : 1 ≤ k) : samphireref09_InNum.f k T e = some (⟨#[]⟩, e, 0) := by
 unfold samphireref09_InNum.f
 rw [rnumber_bad T e he 6 k hk, Option.bind_some]
 simp only
 rw [if_neg (by decide)]
theorem downS_val (p : Nat) : ∀ (j m : Nat), j ≤ m → m ≤ 8 → p < 256 ^ m → valS ((downN (p : Int) m).take j) = p / 256 ^ (m - j)
  | 0, m, _, _, hp => by rw [List.take_zero, Nat.sub_zero, Nat.div_eq_of_lt hp]; rfl
  | j + 1, m, hj, hm, hp => by
    have ih := downS_val p j m (by omega) hm hp
    have hlen : ∀ (n : Nat), (downN (p : Int) n).length = n := by intro n; induction n with
      | zero => rfl
      | succ n ih => simp [downN, ih]
    have hget : ∀ (n i : Nat), i < n → (downN (p : Int) n)[i]? = some (p / 256 ^ (n - 1 - i) % 256) := by
      intro n
      induction n with
      | zero => intro i hi; omega
      | succ n ihn =>
        intro i hi
        cases i with
        | zero =>
          simp only [downN, List.getElem?_cons_zero, Option.some.injEq]
          rw [show (2 : Int) ^ (8 * n) = ((256 ^ n : Nat) : Int) by rw [Int.pow_mul]; simp]
          rw [show n + 1 - 1 - 0 = n by omega]
          omega
        | succ i =>
          simp only [downN, List.getElem?_cons_succ]
          rw [ihn i (by omega), show n + 1 - 1 - (i + 1) = n - 1 - i by omega]
    have hj2 : j < (downN (p : Int) m).length := by rw [hlen]; omega
    have hg := hget m j (by omega)
    rw [List.getElem?_eq_getElem hj2] at hg
    rw [List.take_succ_eq_append_getElem hj2, valS_snoc, ih, Option.some.inj hg]
    have e : m - j = (m - (j + 1)) + 1 := by omega
    rw [e, Nat.pow_succ, ← Nat.div_div_eq_div_mul, show m - 1 - j = m - (j + 1) by omega]
    omega
theorem valS_down (p m : Nat) (hm : m ≤ 8) (hp : p < 256 ^ m) : valS (downN (p : Int) m) = p := by
 have h := downS_val p m m (Nat.le_refl _) hm hp
 have hlen : ∀ (n : Nat), (downN (p : Int) n).length = n := by intro n; induction n with
  | zero => rfl
  | succ n ih => simp [downN, ih]
 rw [List.take_of_length_le (by rw [hlen]; exact Nat.le_refl _), Nat.sub_self, Nat.pow_zero, Nat.div_one] at h
 exact h
theorem numP_byN (t : Int) (R : List Nat) (h : timeB t = true) : numP (byN t 6 ++ R) = (t, R, 0) := by
 have hn := of_decide_eq_true h
 obtain ⟨p, rfl⟩ := Int.eq_ofNat_of_zero_le hn.1
 have hl : (byN (p : Int) 6).length = 6 := byN_length _ _ (by decide)
 have hv : valS (byN (p : Int) 6) = p := by rw [← (downN_byN _).2.2]; exact valS_down p 6 (by decide) (by omega)
 unfold numP
 rw [if_neg (by rw [List.length_append, hl]; omega), List.take_left' hl, List.drop_left' hl, hv, if_pos (by omega)]
theorem valS_inj : ∀ (m : Nat) (A B : List Nat), A.length = m → B.length = m → (∀ x ∈ A, x < 256) → (∀ x ∈ B, x < 256) → valS A = valS B → A = B
  | 0, A, B, ha, hb, _, _, _ => by rw [List.length_eq_zero_iff.1 ha, List.length_eq_zero_iff.1 hb]
  | m + 1, A, B, ha, hb, hA, hB, h => by
    have hA0 : A ≠ [] := by intro e; rw [e] at ha; simp at ha
    have hB0 : B ≠ [] := by intro e; rw [e] at hb; simp at hb
    have eA := (List.dropLast_concat_getLast hA0).symm
    have eB := (List.dropLast_concat_getLast hB0).symm
    have lA : A.getLast hA0 < 256 := hA _ (List.getLast_mem hA0)
    have lB : B.getLast hB0 < 256 := hB _ (List.getLast_mem hB0)
    rw [eA, eB, valS_snoc, valS_snoc] at h
    have h1 : valS A.dropLast = valS B.dropLast := by omega
    have h2 : A.getLast hA0 = B.getLast hB0 := by omega
    have := valS_inj m A.dropLast B.dropLast (by rw [List.length_dropLast]; omega) (by rw [List.length_dropLast]; omega) (fun x hx => hA x ((List.dropLast_sublist _).subset hx)) (fun x hx => hB x ((List.dropLast_sublist _).subset hx)) h1
    rw [eA, eB, this, h2]
theorem byN_valS (L : List Nat) (h : ∀ x ∈ L, x < 256) (m : Nat) (hm : L.length = m) (h8 : m ≤ 6) (hd : downN ((valS L : Nat) : Int) m = byN ((valS L : Nat) : Int) m) : byN ((valS L : Nat) : Int) m = L := by
 have hl := valS_lt L h
 rw [hm] at hl
 refine valS_inj m _ _ (byN_length _ _ (by omega)) hm (byN_lt _ _) h ?_
 rw [← hd]
 exact valS_down _ m (by omega) hl
def byteP (T : List Nat) : Int × List Nat × Int := if T.length < 1 then (0, [], 90) else ((valS (T.take 1) : Int), T.drop 1, 0)
theorem byteS (T : List Nat) (hT : ∀ x ∈ T, x < 256) : code_In_Byte.f 10 true (txt T) 0 = some ((byteP T).1, true, txt (byteP T).2.1, (byteP T).2.2) := by
 unfold code_In_Byte.f byteP
 by_cases h : T.length < 1
 ·rw [show (1 : Int) = ((1 : Nat) : Int) from rfl, numberS_short T 1 h, Option.bind_some, if_pos h]
  rfl
 ·rw [show (1 : Int) = ((1 : Nat) : Int) from rfl, numberS_ok T hT 1 (by decide) (by omega), Option.bind_some, if_neg h]
theorem byteS_bad (T : ByteArray) (e : Int) (he : e ≠ 0) : code_In_Byte.f 10 true T e = some (0, true, T, e) := by
 unfold code_In_Byte.f
 rw [numberS_bad T e he, Option.bind_some]
theorem rInByte (T : List Nat) (hT : ∀ x ∈ T, x < 256) (k : Nat) (hk : 8 ≤ k) : samphireref09_InByte.f k (txt T) 0 = some (txt (byteP T).2.1, (byteP T).2.2, (byteP T).1) := by
 unfold samphireref09_InByte.f byteP
 by_cases h : T.length < 1
 ·rw [show (1 : Int) = ((1 : Nat) : Int) from rfl, rnumber_short T 1 h k (by omega), Option.bind_some, if_pos h]
  rfl
 ·rw [show (1 : Int) = ((1 : Nat) : Int) from rfl, rnumber_ok T hT 1 (by decide) (by omega) k hk, Option.bind_some, if_neg h]
theorem rInByte_bad (T : ByteArray) (e : Int) (he : e ≠ 0) (k : Nat) (hk : 1 ≤ k) : samphireref09_InByte.f k T e = some (⟨#[]⟩, e, 0) := by
 unfold samphireref09_InByte.f
 rw [rnumber_bad T e he 1 k hk, Option.bind_some]
def numQ (T : List Nat) (e : Int) : Int × List Nat × Int := if e = 0 then numP T else (0, [], e)
def byteQ (T : List Nat) (e : Int) : Int × List Nat × Int := if e = 0 then byteP T else (0, [], e)
def InOk (T : List Nat) (e : Int) : Prop := (∀ x ∈ T, x < 256) ∧ (e ≠ 0 → T = [])
theorem numP_ok (T : List Nat) (hT : ∀ x ∈ T, x < 256) : InOk (numP T).2.1 (numP T).2.2 := by
 unfold numP
 split
 ·exact ⟨by simp, fun _ => rfl⟩
 ·split
  ·exact ⟨fun x hx => hT x (List.mem_of_mem_drop hx), fun h => absurd rfl h⟩
  ·exact ⟨by simp, fun _ => rfl⟩
theorem byteP_ok (T : List Nat) (hT : ∀ x ∈ T, x < 256) : InOk (byteP T).2.1 (byteP T).2.2 := by
 unfold byteP
 split
 ·exact ⟨by simp, fun _ => rfl⟩
 ·exact ⟨fun x hx => hT x (List.mem_of_mem_drop hx), fun h => absurd rfl h⟩
theorem numQ_ok {T : List Nat} {e : Int} (h : InOk T e) : InOk (numQ T e).2.1 (numQ T e).2.2 := by
 unfold numQ
 split
 ·exact numP_ok T h.1
 ·exact ⟨by simp, fun _ => rfl⟩
theorem byteQ_ok {T : List Nat} {e : Int} (h : InOk T e) : InOk (byteQ T e).2.1 (byteQ T e).2.2 := by
 unfold byteQ
 split
 ·exact byteP_ok T h.1
 ·exact ⟨by simp, fun _ => rfl⟩
theorem up10 {α : Type} {f : Nat → Option α} (hm : ∀ k, LeO (f k) (f (k + 1))) {x : α} (h : f 10 = some x) : ∀ d, f (10 + d) = some x
 | 0 => h
 | d + 1 => hm (10 + d) x (up10 hm h d)
theorem num_p {T : List Nat} {e : Int} (h : InOk T e) (k : Nat) (hk : 10 ≤ k) : code_In_Num.f k true (txt T) e = some ((numQ T e).1, true, txt (numQ T e).2.1, (numQ T e).2.2) := by
 obtain ⟨d, rfl⟩ : ∃ d, k = 10 + d := ⟨k - 10, by omega⟩
 refine up10 (f := fun k => code_In_Num.f k true (txt T) e) (fun k => code_In_Num.mono _ _ _ k) ?_ d
 unfold numQ
 by_cases he : e = 0
 ·subst he
  exact numS T h.1
 ·rw [if_neg he, h.2 he]
  exact numS_bad _ e he
theorem byte_p {T : List Nat} {e : Int} (h : InOk T e) (k : Nat) (hk : 10 ≤ k) : code_In_Byte.f k true (txt T) e = some ((byteQ T e).1, true, txt (byteQ T e).2.1, (byteQ T e).2.2) := by
 obtain ⟨d, rfl⟩ : ∃ d, k = 10 + d := ⟨k - 10, by omega⟩
 refine up10 (f := fun k => code_In_Byte.f k true (txt T) e) (fun k => code_In_Byte.mono _ _ _ k) ?_ d
 unfold byteQ
 by_cases he : e = 0
 ·subst he
  exact byteS T h.1
 ·rw [if_neg he, h.2 he]
  exact byteS_bad _ e he
theorem num_r {T : List Nat} {e : Int} (h : InOk T e) (k : Nat) (hk : 8 ≤ k) : samphireref09_InNum.f k (txt T) e = some (txt (numQ T e).2.1, (numQ T e).2.2, (numQ T e).1) := by
 unfold numQ
 by_cases he : e = 0
 ·subst he
  exact rInNum T h.1 k hk
 ·rw [if_neg he, h.2 he]
  exact rInNum_bad _ e he k (by omega)
theorem byte_r {T : List Nat} {e : Int} (h : InOk T e) (k : Nat) (hk : 8 ≤ k) : samphireref09_InByte.f k (txt T) e = some (txt (byteQ T e).2.1, (byteQ T e).2.2, (byteQ T e).1) := by
 unfold byteQ
 by_cases he : e = 0
 ·subst he
  exact rInByte T h.1 k hk
 ·rw [if_neg he, h.2 he]
  exact rInByte_bad _ e he k (by omega)
def doneQ (T : List Nat) (e : Int) : Bool := e == 0 && T.isEmpty
theorem txt_nil_iff (T : List Nat) : (txt T).toList = ([] : List UInt8) ↔ T = [] := by
 rw [txt_toList]
 cases T <;> simp
abbrev Mem := S46
def isM (who : Int) (m : Mem) : Bool := if m.f0 = who then m.f2 else false
theorem isM_calls (b : Nat) (who : Int) (m : Mem) (w : World) (hb : w.cell? ⟨b, 0, none⟩ = some (.int .i64 who)) :
  Calls Tryd.prog 54 #[.agg #[.int .i64 m.f0, .int .i64 m.f1, .bool m.f2], .pointer (some ⟨b, 0, none⟩)] w fun e w' => e = .returned (.bool (isM who m)) ∧ Below w.heap.size w w' := by
 obtain ⟨x, c, i⟩ := m
 have hlt : b < w.heap.size := World.block_lt_of_cell? w ⟨b, 0, none⟩ hb
 have hba := below_alloc (Below.refl w.heap.size w) (.cells #[.int .i64 x, .int .i64 c, .bool i] 46)
 have hb2 := hba.cell (p := ⟨b, 0, none⟩) hlt
 rw [hb] at hb2
 have HBA := Aside0.mk hba
 by_cases h : x = who
 ·have hv : isM who ⟨x, c, i⟩ = i := if_pos h
  have d1 : (x == who) = true := beq_iff_eq.2 h
  rw [hv]
  clear h hv hlt hba
  go_enter Tryd.func54, Tryd.ntmps54
  go_wp2
  go_ret
  exact ⟨rfl, HBA.out⟩
 ·have hv : isM who ⟨x, c, i⟩ = false := if_neg h
  have d1 : (x == who) = false := beq_eq_false_iff_ne.2 h
  rw [hv]
  clear h hv hlt hba
  go_enter Tryd.func54, Tryd.ntmps54
  go_wp2
  go_ret
  exact ⟨rfl, HBA.out⟩
theorem rd_mem (l : List Mem) (i : Nat) (y : Mem) (h : l[i]? = some y) : rd_T46 l (i : Int) = y := by
 unfold rd_T46
 rw [Int.toNat_natCast, List.getD_eq_getElem?_getD, h]
 rfl
theorem indexM_calls (A : Option Addr) (cap : Nat) (l : List Mem) (b : Nat) (who : Int) (w : World) (hC : Kd.C k46 w A l.length l) (hm : l.length ≤ 1000000) (hb : w.cell? ⟨b, 0, none⟩ = some (.int .i64 who)) :
  Calls Tryd.prog 87 #[.slice A l.length cap, .func (.func 54) #[] #[.pointer (some ⟨b, 0, none⟩)]] w fun e w' => ∃ r : Int, e = .returned (.int .i64 r) ∧ decide (0 ≤ r) = l.any (isM who) ∧ Below w.heap.size w w' := by
 have HC := Aside0.mk hC
 have HM := Aside0.mk hm
 have HW := Aside0.mk hb
 have hlt0 : b < w.heap.size := World.block_lt_of_cell? w ⟨b, 0, none⟩ hb
 have HLB := Aside0.mk hlt0
 clear hC hm hb hlt0
 go_enter Tryd.func87, Tryd.ntmps87
 go_wp2
 go_loopg [8] l.length (fun gk i wr => ∃ k : Nat, k ≤ l.length ∧ i = .int .i64 (k : Int) ∧ Aside0 (gk = l.length - k) ∧ Aside0 (Below w.heap.size w wr) ∧ Aside0 ((l.take k).any (isM who) = false))
 case atStart => exact ⟨0, Nat.zero_le _, rfl, ⟨rfl⟩, ⟨Below.refl _ _⟩, ⟨rfl⟩⟩
 case round =>
  obtain ⟨k, hk, rfl, HG, HB, HK⟩ := hrel
  by_cases hlt : k < l.length
  ·have q1 : decide (k < l.length) = true := decide_eq_true hlt
   obtain ⟨ad, hA, c0, c1, c2⟩ := at_T46 (Kd.C_below HC.out HB.out) (k : Int) (by omega) (by omega)
   subst hA
   have hx := List.getElem?_eq_getElem hlt
   generalize l[k] = m at hx
   rw [rd_mem l k m hx] at c0 c1 c2
   rw [Int.toNat_natCast] at c0 c1 c2
   have e5 := eq_true hlt
   have HLT := Aside0.mk hlt
   have w1 : wrap64 ((k : Int) + 1) = ((k + 1 : Nat) : Int) := by have := HM.out; unfold wrap64; omega
   obtain ⟨bb, hbb⟩ : ∃ z, isM who m = z := ⟨_, rfl⟩
   have hbc := isM_calls b who m wr ((HB.out.cell (p := ⟨b, 0, none⟩) HLB.out).trans HW.out)
   rw [hbb] at hbc
   have HBC := Aside0.mk hbc
   have htk : (l.take (k + 1)).any (isM who) = bb := by
    rw [List.take_add_one, hx, List.any_append, HK.out]
    simp [hbb]
   have HTK := Aside0.mk htk
   clear hk hlt hx hbc hbb htk
   cases bb
   ·go_wp2_with (fail)
    refine HBC.out.mono ?_
    rintro e w' ⟨rfl, hb⟩
    have HB2 := Aside0.mk (below_then HB.out HB.out.size hb)
    clear hb c0 c1 c2
    go_wp2_with (fail)
    go_roundg (l.length - (k + 1))
    case measure => have := HG.out; have := HLT.out; omega
    case rel => exact ⟨k + 1, HLT.out, by go_num, ⟨rfl⟩, HB2, HTK⟩
   ·go_wp2_with (fail)
    refine HBC.out.mono ?_
    rintro e w' ⟨rfl, hb⟩
    have HB2 := Aside0.mk (below_then HB.out HB.out.size hb)
    clear hb c0 c1 c2
    go_wp2_with (fail)
    go_ret
    refine ⟨_, rfl, ?_, HB2.out⟩
    have : l.any (isM who) = true := by
     rw [← List.take_append_drop (k + 1) l, List.any_append, HTK.out]
     rfl
    rw [this]
    exact decide_eq_true (by omega)
  ·have q1 : decide (k < l.length) = false := decide_eq_false hlt
   have HE : Aside0 (l.any (isM who) = false) := ⟨by have := HK.out; rwa [List.take_of_length_le (by omega)] at this⟩
   clear hk hlt
   go_wp2_with (fail)
   go_ret
   exact ⟨_, rfl, by rw [HE.out]; rfl, HB.out⟩
def group_In.f (a0_0 : Int) (l0_1 : List Mem) (a0_2 : Int) (a1 : Int) : Option Bool := if l0_1.length ≤ 1000000 then some (l0_1.any (isM a1)) else none
theorem group_In.calls (a0_0 : Int) (A0_1 : Option Addr) (c0_1 : Nat) (l0_1 : List Mem) (a0_2 : Int) (a1 : Int) (r : Bool) (w : World) (hr0_1 : Kd.C k46 w A0_1 l0_1.length l0_1) (hc0_1 : l0_1.length ≤ c0_1) (h : group_In.f a0_0 l0_1 a0_2 a1 = some r) :
  Calls Tryd.prog 23 #[.agg #[.int .i64 a0_0, .slice A0_1 l0_1.length c0_1, .int .i64 a0_2], .int .i64 a1] w fun e w' => e = .returned (.bool r) ∧ Below w.heap.size w w' := by
 unfold group_In.f at h
 by_cases hm : l0_1.length ≤ 1000000
 ·rw [if_pos hm] at h
  cases h
  have hba := below_alloc (below_alloc (Below.refl w.heap.size w) (.cells #[.int .i64 a0_0, .slice A0_1 l0_1.length c0_1, .int .i64 a0_2] 24)) (.cells #[.int .i64 a1] 3)
  have hsz : (w.alloc (.cells #[.int .i64 a0_0, .slice A0_1 l0_1.length c0_1, .int .i64 a0_2] 24)).heap.size = w.heap.size + 1 := Array.size_push _
  have HI := Aside0.mk (fun (b : Nat) (W : World) (hW : W.cell? ⟨b, 0, none⟩ = some (.int .i64 a1)) (hCW : Kd.C k46 W A0_1 l0_1.length l0_1) => indexM_calls A0_1 c0_1 l0_1 b a1 W hCW hm hW)
  have HCF : Aside0 (∀ (b : Nat) (W : World), W.cell? ⟨b, 0, none⟩ = some (.int .i64 a1) → Kd.C k46 W A0_1 l0_1.length l0_1 → Calls Tryd.prog 53 #[.slice A0_1 l0_1.length c0_1, .func (.func 54) #[] #[.pointer (some ⟨b, 0, none⟩)]] W fun e w' => e = .returned (.bool (l0_1.any (isM a1))) ∧ Below W.heap.size W w') := ⟨by
   intro b W hW hCW
   have HW := Aside0.mk (HI.out b W hW hCW)
   clear hW hCW hr0_1 hm hba hsz
   go_enter Tryd.func53, Tryd.ntmps53
   go_wp2_with (fail)
   refine HW.out.mono ?_
   rintro e w' ⟨r, rfl, hr, hb⟩
   have HR := Aside0.mk hr
   have HB := Aside0.mk hb
   clear hr hb
   generalize hd : decide (0 ≤ r) = z at HR
   go_wp2_with (fail)
   go_ret
   exact ⟨by rw [← HR.out]; rfl, HB.out⟩⟩
  have HBA := Aside0.mk hba
  have HC2 := Aside0.mk (Kd.C_below hr0_1 hba)
  have HN : Aside0 (((w.alloc (.cells #[.int .i64 a0_0, .slice A0_1 l0_1.length c0_1, .int .i64 a0_2] 24)).alloc (.cells #[.int .i64 a1] 3)).cell? ⟨w.heap.size + 1, 0, none⟩ = some (.int .i64 a1)) := ⟨by rw [← hsz]; rw [cell_of_row _ _ _ _ _ _ (heap_alloc_new _ _)]; rfl⟩
  clear hr0_1 hm hba hsz HI
  generalize l0_1.any (isM a1) = z at HCF ⊢
  go_enter Tryd.func23, Tryd.ntmps23
  go_wp2_with (fail)
  refine (HCF.out _ _ HN.out HC2.out).mono ?_
  rintro e w' ⟨rfl, hb⟩
  have HB := Aside0.mk (below_then HBA.out HBA.out.size hb)
  clear hb
  go_wp2_with (fail)
  go_ret
  exact ⟨rfl, HB.out⟩
 ·rw [if_neg hm] at h
  cases h
end Go.Proofs.YthemhfloablccaaDoor.Pr
end

section
namespace Go.Proofs.YthemhfloablccaaDoor.Pr
open Go.RowKit Go.Deep Go.Proofs.YthemhfloablccaaDoorW.PrintWords Go.Proofs.YthemhfloablccaaDoorW.PrintLast Go.Proofs.YthemhfloablccaaDoorW.PrintMore
set_option maxHeartbeats 4000000
def memC (m : Mem) : List Value := [.int .i64 m.f0, .int .i64 m.f1, .bool m.f2]
def MemAt (g cap : Nat) (l : List Mem) (w : World) : Prop :=
 ∃ cs : Array Value, w.heap[g]? = some (.cells cs 46 (0, 0)) ∧ cs.size = cap * 3 ∧ l.length ≤ cap ∧ cap ≤ maxLen ∧ ∀ i m, l[i]? = some m → (cs.toList.drop (i * 3)).take 3 = memC m
theorem MemAt.R {g cap : Nat} {l : List Mem} {w : World} (h : MemAt g cap l w) (base : Nat) (hb : base ≤ g) (ok : Nat → Prop) (hk : ok g) : Kd.R k46 46 w base ok (.slice (some ⟨g, 0, none⟩) l.length cap) l := by
  obtain ⟨cs, hh, hs, hl, hm, hc⟩ := h
  have hsz : cs.toList.length = cap * 3 := by simpa using hs
  refine ⟨fun k hk' => by have : g = k := by simpa [Value.ownBlock] using hk'
                          subst this; exact hk, cs.toList.take (l.length * 3), ⟨?_, .inr ⟨g, cap, cs, rfl, hb, hh, hl, hm, hs, rfl⟩⟩, ?_, ?_⟩
  · rw [List.length_take, hsz]
    exact Nat.min_eq_left (Nat.mul_le_mul_right 3 hl)
  · show (cs.toList.take (l.length * 3)).length = l.length * 3
    rw [List.length_take, hsz]
    exact Nat.min_eq_left (Nat.mul_le_mul_right 3 hl)
  · intro j p hj
    have hlt : j < l.length := (List.getElem?_eq_some_iff.1 hj).1
    have e : (List.drop (j * 3) (List.take (l.length * 3) cs.toList)).take 3 = memC p := by
      rw [List.drop_take, List.take_take, Nat.min_eq_left (by omega)]
      exact hc j p hj
    show k46.M w base _ p ((List.drop (j * 3) (List.take (l.length * 3) cs.toList)).take 3)
    rw [e]
    exact k46_mkM _ _ _ p
theorem MemAt.of_R {w : World} {base : Nat} {ok : Nat → Prop} {v : Value} {l : List Mem} (h : Kd.R k46 46 w base ok v l) (hn : 0 < l.length) : ∃ g cap, v = .slice (some ⟨g, 0, none⟩) l.length cap ∧ base ≤ g ∧ MemAt g cap l w := by
 obtain ⟨_, inner, ⟨hlen, ho⟩, hr⟩ := h
 rcases ho with ⟨_, h0⟩ | ⟨g, cap, cur, rfl, hg, hh, hl, hm, hs, ht⟩
 ·omega
 ·refine ⟨g, cap, rfl, hg, cur, hh, hs, hl, hm, fun i m hi => ?_⟩
  have hlt : i < l.length := (List.getElem?_eq_some_iff.1 hi).1
  have hM := k46_openM (hr.2 i m hi)
  have ht' : List.take (l.length * 3) cur.toList = inner := ht
  rw [← ht'] at hM
  have hM' : ((List.take (l.length * 3) cur.toList).drop (i * 3)).take 3 = memC m := hM
  rw [List.drop_take, List.take_take, Nat.min_eq_left (by omega)] at hM'
  exact hM'
theorem MemAt.cell {g cap : Nat} {l : List Mem} {w : World} (h : MemAt g cap l w) (i : Nat) (m : Mem) (hi : l[i]? = some m) :
  w.cell? ⟨g, i * 3, none⟩ = some (.int .i64 m.f0) ∧ w.cell? ⟨g, i * 3 + 1, none⟩ = some (.int .i64 m.f1) ∧ w.cell? ⟨g, i * 3 + 2, none⟩ = some (.bool m.f2) := by
 obtain ⟨cs, hh, hs, hl, hm, hc⟩ := h
 have hM := hc i m hi
 have hg : ∀ j, j < 3 → cs[i * 3 + j]? = (memC m)[j]? := by
  intro j hj
  rw [← hM, List.getElem?_take_of_lt hj, List.getElem?_drop, ← Array.getElem?_toList]
 refine ⟨?_, ?_, ?_⟩
 ·rw [cell_of_row _ _ _ _ _ _ hh]; exact hg 0 (by omega)
 ·rw [cell_of_row _ _ _ _ _ _ hh]; exact hg 1 (by omega)
 ·rw [cell_of_row _ _ _ _ _ _ hh]; exact hg 2 (by omega)
theorem MemAt.below {g cap : Nat} {l : List Mem} {w w' : World} (h : MemAt g cap l w) (hb : Below w.heap.size w w') : MemAt g cap l w' := by
 obtain ⟨cs, hh, r⟩ := h
 exact ⟨cs, blk_below hh hb, r⟩
theorem MemAt.far {g cap : Nat} {l : List Mem} {w : World} (h : MemAt g cap l w) {p : Nat} (hp : g ≠ p) (j : Nat) (u : Value) : MemAt g cap l (w.setCell ⟨p, j, none⟩ u) := by
 obtain ⟨cs, hh, r⟩ := h
 exact ⟨cs, (Below.heap_setCell w ⟨p, j, none⟩ u g hp).trans hh, r⟩
theorem MemAt.set {g cap : Nat} {l : List Mem} {w : World} (h : MemAt g cap l w) (i j : Nat) (hj : j < 3) (m m' : Mem) (u : Value) (hi : l[i]? = some m) (hu : (memC m).set j u = memC m') : MemAt g cap (l.set i m') (w.setCell ⟨g, i * 3 + j, none⟩ u) := by
 obtain ⟨cs, hh, hs, hl, hm, hc⟩ := h
 have hlt : i < l.length := (List.getElem?_eq_some_iff.1 hi).1
 refine ⟨_, blk_put hh (i * 3 + j) u rfl, by rw [Array.size_setIfInBounds]; exact hs, by rw [List.length_set]; exact hl, hm, fun k p hk => ?_⟩
 rw [Array.toList_setIfInBounds]
 by_cases e : k = i
 ·subst e
  rw [List.getElem?_set_self hlt] at hk
  cases hk
  rw [← hu, ← hc k m hi, List.drop_set, if_neg (by omega), List.take_set, show k * 3 + j - k * 3 = j by omega]
 ·rw [List.getElem?_set_ne (fun q => e q.symm)] at hk
  rw [← hc k p hk]
  apply List.ext_getElem?
  intro q
  by_cases hq : q < 3
  ·rw [List.getElem?_take_of_lt hq, List.getElem?_take_of_lt hq, List.getElem?_drop, List.getElem?_drop, List.getElem?_set_ne (by omega)]
  ·rw [List.getElem?_take_eq_none (by omega), List.getElem?_take_eq_none (by omega)]
theorem R_empty (W : World) (base : Nat) (hb : base ≤ W.heap.size) (ok : Nat → Prop) (hk : ok W.heap.size) : Kd.R k46 46 (W.alloc (.cells #[] 46)) base ok (.slice (some ⟨W.heap.size, 0, none⟩) 0 0) [] :=
  ⟨fun k hk' => by have : W.heap.size = k := by simpa [Value.ownBlock] using hk'
                   subst this; exact hk, [], ⟨rfl, .inr ⟨W.heap.size, 0, #[], rfl, hb, heap_alloc_new W _, Nat.le_refl _, Nat.zero_le _, rfl, rfl⟩⟩, Reps.none _ _⟩
set_option maxRecDepth 100000 in
theorem clone_calls (ad : Addr) (cap : Nat) (l : List Mem) (w : World) (hC : Kd.C k46 w (some ad) l.length l) (h0 : 0 < l.length) (hm : l.length ≤ 1000000) :
  Calls Tryd.prog 47 #[.slice (some ad) l.length cap] w fun e w' => ∃ g c, e = .returned (.slice (some ⟨g, 0, none⟩) l.length c) ∧ w.heap.size ≤ g ∧ MemAt g c l w' ∧ Below w.heap.size w w' := by
 have HC := Aside0.mk hC
 have HM := Aside0.mk hm
 have H0 := Aside0.mk h0
 generalize hn : l.length = n at HC HM H0
 have hq : ∀ W, Sem.run Tryd.prog (binOp BinOp.eql 22 (Value.slice (some ad) n cap) (Value.slice none 0 0)) W = .ok (.bool false) W := fun W => by rfl
 clear hC hm h0
 go_enter Tryd.func47, Tryd.ntmps47
 go_wp2_with (first | ((with_reducible refine gate_builtin (b := .append) (xs := #[.tmp 5, .tmp 6]) rfl ?_); at_builtin; refine Kd.R_append_rows k46 (w0 := w) w.heap.size rfl (.tmp 5) (.tmp 6) 22 46 (.agg #[(.int .i64 0), (.int .i64 0), (.bool false)]) 24 rfl Tryd.underlying22 info46 rfl (by decide) (by omega) (.slice (some ⟨w.heap.size, 0, none⟩) 0 0) ([] : List Mem) l _ _ _ (fun _ => True) (fun _ => False) rfl rfl ?aO ?aR (fun _ _ h => h) (fun _ h => h.elim) (fun _ _ => trivial) ?aB ?aS ?aL ?_; (case aO => exact R_empty w w.heap.size (Nat.le_refl _) (fun _ => True) trivial); (case aR => exact Kd.C_below HC.out (below_alloc (Below.refl _ _) _)); (case aB => exact below_alloc (Below.refl _ _) _); (case aS => exact below_size (below_alloc (Below.refl w.heap.size w) _)); (case aL => have := HM.out; simp only [List.length_nil]; omega); intro v1 w1 hr hb hg hat; rw [List.nil_append] at hr; obtain ⟨g, c, rfl, hge, hM1⟩ := MemAt.of_R hr (by rw [hn]; exact H0.out); have HE := Aside0.mk (show w.heap.size ≤ g ∧ MemAt g c l w1 ∧ Below w.heap.size w w1 from ⟨hge, hM1, hb⟩); clear hr hb hg hat hge hM1))
 go_ret
 exact ⟨g, c, rfl, HE.out⟩
def inM (l : List Mem) (k : Nat) (b : Bool) : List Mem := match l[k]? with | some m => l.set k { m with f2 := b } | none => l
def doesM (E : Int) (l : List Mem) (O ep kind frm who : Int) : Int × List Mem × Int × Bool :=
 if l.any (isM frm) = false then (E, l, O, false)
 else if kind = 1 then (if O < 500 then (E, l, O + 1, true) else (E, l, O, false))
 else if frm ≠ 1 ∨ ep ≠ E ∨ 1099511627775 ≤ E then (E, l, O, false)
 else if kind = 2 then (if l.any (isM who) = true then (E, l, O, false) else (E + 1, inM l (who - 1).toNat true, O, true))
 else if kind = 3 then (if who = 1 ∨ l.any (isM who) = false then (E, l, O, false) else (E + 1, inM l (who - 1).toNat false, O, true))
 else (E + 1, l, O, true)
def GrpAt (w0 : World) (gb g cap ob : Nat) (ov : Obj) (E : Int) (l : List Mem) (O : Int) (w : World) : Prop :=
 Below w0.heap.size w0 w ∧ w.heap[gb]? = some (.cells #[.int .i64 E, .slice (some ⟨g, 0, none⟩) l.length cap, .int .i64 O] 24 (0, 0)) ∧ MemAt g cap l w ∧ w0.heap.size ≤ gb ∧ w0.heap.size ≤ g ∧ gb ≠ g ∧ w.heap[ob]? = some ov ∧ ob ≠ gb ∧ ob ≠ g
section
variable {w0 w w' : World} {gb g cap ob : Nat} {ov : Obj} {E O : Int} {l : List Mem}
theorem GrpAt.below (h : GrpAt w0 gb g cap ob ov E l O w) (hb : Below w.heap.size w w') : GrpAt w0 gb g cap ob ov E l O w' :=
 ⟨below_then h.1 h.1.size hb, blk_below h.2.1 hb, h.2.2.1.below hb, h.2.2.2.1, h.2.2.2.2.1, h.2.2.2.2.2.1, blk_below h.2.2.2.2.2.2.1 hb, h.2.2.2.2.2.2.2⟩
theorem GrpAt.setE (h : GrpAt w0 gb g cap ob ov E l O w) (E' : Int) : GrpAt w0 gb g cap ob ov E' l O (w.setCell ⟨gb, 0, none⟩ (.int .i64 E')) :=
 ⟨below_set h.1 h.2.2.2.1, blk_put h.2.1 0 _ rfl, h.2.2.1.far h.2.2.2.2.2.1.symm 0 _, h.2.2.2.1, h.2.2.2.2.1, h.2.2.2.2.2.1, (Below.heap_setCell _ _ _ _ h.2.2.2.2.2.2.2.1).trans h.2.2.2.2.2.2.1, h.2.2.2.2.2.2.2⟩
theorem GrpAt.setO (h : GrpAt w0 gb g cap ob ov E l O w) (O' : Int) : GrpAt w0 gb g cap ob ov E l O' (w.setCell ⟨gb, 2, none⟩ (.int .i64 O')) :=
 ⟨below_set h.1 h.2.2.2.1, blk_put h.2.1 2 _ rfl, h.2.2.1.far h.2.2.2.2.2.1.symm 2 _, h.2.2.2.1, h.2.2.2.2.1, h.2.2.2.2.2.1, (Below.heap_setCell _ _ _ _ h.2.2.2.2.2.2.2.1).trans h.2.2.2.2.2.2.1, h.2.2.2.2.2.2.2⟩
theorem GrpAt.setM (h : GrpAt w0 gb g cap ob ov E l O w) (i j : Nat) (hj : j < 3) (m m' : Mem) (u : Value) (hi : l[i]? = some m) (hu : (memC m).set j u = memC m') : GrpAt w0 gb g cap ob ov E (l.set i m') O (w.setCell ⟨g, i * 3 + j, none⟩ u) :=
 ⟨below_set h.1 h.2.2.2.2.1, by rw [List.length_set]; exact blk_far h.2.1 h.2.2.2.2.2.1 _, h.2.2.1.set i j hj m m' u hi hu, h.2.2.2.1, h.2.2.2.2.1, h.2.2.2.2.2.1, (Below.heap_setCell _ _ _ _ h.2.2.2.2.2.2.2.2).trans h.2.2.2.2.2.2.1, h.2.2.2.2.2.2.2⟩
theorem GrpAt.cells (h : GrpAt w0 gb g cap ob ov E l O w) : w.cell? ⟨gb, 0, none⟩ = some (.int .i64 E) ∧ w.cell? ⟨gb, 1, none⟩ = some (.slice (some ⟨g, 0, none⟩) l.length cap) ∧ w.cell? ⟨gb, 2, none⟩ = some (.int .i64 O) :=
 ⟨(blk_cell h.2.1 0).trans rfl, (blk_cell h.2.1 1).trans rfl, (blk_cell h.2.1 2).trans rfl⟩
theorem GrpAt.C (h : GrpAt w0 gb g cap ob ov E l O w) : Kd.C k46 w (some ⟨g, 0, none⟩) l.length l := by
 obtain ⟨A, c, e, _, hc⟩ := Kd.R_reads (h.2.2.1.R 0 (Nat.zero_le _) (fun _ => True) trivial)
 cases e
 exact hc
theorem GrpAt.room (h : GrpAt w0 gb g cap ob ov E l O w) : l.length ≤ cap := by
 obtain ⟨cs, _, _, hl, _⟩ := h.2.2.1
 exact hl
theorem in_at (h : GrpAt w0 gb g cap ob ov E l O w) (hm : l.length ≤ 1000000) (who : Int) :
  Calls Tryd.prog 23 #[.agg #[.int .i64 E, .slice (some ⟨g, 0, none⟩) l.length cap, .int .i64 O], .int .i64 who] w fun e w' => e = .returned (.bool (l.any (isM who))) ∧ GrpAt w0 gb g cap ob ov E l O w' ∧ Below w.heap.size w w' := by
 refine (group_In.calls E (some ⟨g, 0, none⟩) cap l O who _ w h.C h.room (if_pos hm)).mono ?_
 rintro e w' ⟨rfl, hb⟩
 exact ⟨rfl, h.below hb, hb⟩
end
abbrev RecV (kind frm count seq : Int) (head : ByteArray) (o0 o1 o2 o3 o4 o5 o6 : Int) (o7 o8 : ByteArray) (who : Int) (wv : Value) : Array Value :=
 #[.int .i64 kind, .int .i64 frm, .int .i64 count, .int .i64 seq, .string head, .int .i64 o0, .int .i64 o1, .int .i64 o2, .int .i64 o3, .int .i64 o4, .int .i64 o5, .int .i64 o6, .string o7, .string o8, .int .i64 who, wv]
end Go.Proofs.YthemhfloablccaaDoor.Pr
end

section
namespace Go.Proofs.YthemhfloablccaaDoor.Pr
open Go.RowKit Go.Proofs.YthemhfloablccaaDoorW.PrintWords Go.Proofs.YthemhfloablccaaDoorW.PrintLast Go.Proofs.YthemhfloablccaaDoorW.PrintMore
attribute [local go_sem] max2_int min2_int max_two min_two max_three min_three max_four min_four
mutual
def group_Check.j0 : Nat → Bool → Int → List (S46) → Int → Option (Int)
 | 0, _, _, _, _ => none
 | k + 1, x3, x107000, x107001, x107002 => group_Check.l0 k x3 x107001 (x107001.length : Int) 0 x107000 x107001 x107002
def group_Check.l0 : Nat → Bool → List (S46) → Int → Int → Int → List (S46) → Int → Option (Int)
 | 0, _, _, _, _, _, _, _ => none
 | k + 1, x3, x31, x32, x33, x107000, x107001, x107002 => if x33 < x32 then (if 0 ≤ x33 then (if x33 < (x31.length : Int) then (if x3 = true then (if ((rd_T46 x31 x33).f0) = (wrap64 (x33 + 1)) then (if ((rd_T46 x31 x33).f1) ≥ 0 then (group_Check.l0 k (decide (((rd_T46 x31 x33).f1) ≤ 1099511627775)) x31 x32 (wrap64 (x33 + 1)) x107000 x107001 x107002) else (group_Check.l0 k false x31 x32 (wrap64 (x33 + 1)) x107000 x107001 x107002)) else (group_Check.l0 k false x31 x32 (wrap64 (x33 + 1)) x107000 x107001 x107002)) else (group_Check.l0 k false x31 x32 (wrap64 (x33 + 1)) x107000 x107001 x107002)) else (none)) else (none)) else (if x3 = true then (if 0 < (x107001.length : Int) then (if ((rd_T46 x107001 0).f2 = true) then (some 0) else (some 1)) else (none)) else (some 1))
end
def group_Check.f (k : Nat) (a0_0 : Int) (l0_1 : List (S46)) (a0_2 : Int) : Option (Int) := if a0_0 ≥ 1 then (if a0_0 ≤ 1099511627775 then (if a0_2 ≥ 0 then (if a0_2 ≤ 500 then (group_Check.j0 k ((l0_1.length : Int) == 6) a0_0 l0_1 a0_2) else (group_Check.j0 k false a0_0 l0_1 a0_2)) else (group_Check.j0 k false a0_0 l0_1 a0_2)) else (group_Check.j0 k false a0_0 l0_1 a0_2)) else (group_Check.j0 k false a0_0 l0_1 a0_2)
set_option maxHeartbeats 8000000 in
set_option maxRecDepth 100000 in
theorem group_Check.calls (k : Nat) (a0_0 : Int) (A0_1 : Option Addr) (c0_1 : Nat) (l0_1 : List (S46)) (a0_2 : Int) (r : Int) (w : World) (hr0_1 : Kd.C k46 w A0_1 l0_1.length l0_1) (hc0_1 : l0_1.length ≤ c0_1) (h : group_Check.f k a0_0 l0_1 a0_2 = some r) :
    Calls Tryd.prog 21 #[.agg #[.int .i64 a0_0, .slice A0_1 l0_1.length c0_1, .int .i64 a0_2]] w fun e w' => e = .returned (.int .i64 r) ∧ Below w.heap.size w w' := by
  have hu24 := Tryd.underlying24; have hu46 := Tryd.underlying46; have HR0_1 := Aside0.mk hr0_1; have HC0_1 := Aside0.mk hc0_1; clear hr0_1 hc0_1; have HB := Aside0.mk (Below.refl w.heap.size w); have H : (if a0_0 ≥ 1 then (if a0_0 ≤ 1099511627775 then (if a0_2 ≥ 0 then (if a0_2 ≤ 500 then (group_Check.j0 k ((l0_1.length : Int) == 6) a0_0 l0_1 a0_2) else (group_Check.j0 k false a0_0 l0_1 a0_2)) else (group_Check.j0 k false a0_0 l0_1 a0_2)) else (group_Check.j0 k false a0_0 l0_1 a0_2)) else (group_Check.j0 k false a0_0 l0_1 a0_2)) = some r := h; clear h; have HC2 := Aside0.mk H; clear H; go_enter Tryd.func21, Tryd.ntmps21
  go_upto_region 1 with (first | ((with_reducible refine gate_dst (N := 1) rfl ?_); (try (refine gate_guard (by rfl) ?_; dsimp only)); refine box_event ?hg (N := 1) ?hd (cs := #[.int .i64 a0_0, .slice A0_1 l0_1.length c0_1, .int .i64 a0_2]) (t := 24) ?hr ?_; (case hd => rfl); (case hg => rfl); (case hr => first | (go_simp; done) | (go_simp; rfl)); intro gb106 hg w3 hbox hb; have n0_ := Aside0.mk (below_step hb_ hb); have n1_ := Aside0.mk (hbox); have n2_ := Aside0.mk ((by rw [hg]; exact (below_size hb_) : w.heap.size ≤ gb106)); have n3_ := Aside0.mk ((by rw [hg]; exact (below_size hb_) : w.heap.size ≤ gb106)); clear HB; have HB := n0_; have BK106 := n1_; have GW106 := n2_; have GE106 := n3_; clear n0_ n1_ n2_ n3_; clear hb hbox hg))
  (try simp only [Act.put, List.setIfInBounds_toArray, List.set_cons_zero, List.set_cons_succ])
  go_cut [3] (fun v3 wc => ∃ (kq : Nat) (x3_1 : Bool), v3 = .bool x3_1 ∧ Aside0 (group_Check.j0 kq x3_1 a0_0 l0_1 a0_2 = some r) ∧ Aside0 (kq ≤ k) ∧ Aside0 (wc.heap[gb106]? = some (.cells #[.int .i64 a0_0, (.slice A0_1 l0_1.length c0_1), .int .i64 a0_2] 24 (0, 0))) ∧ Aside0 (Below w.heap.size w wc))
  case first =>
    have H := HC2.out; clear HC2; by_cases c4 : a0_0 ≥ 1
    · rw [if_pos c4] at H; have c4b0 : decide (1 ≤ a0_0) = true := decide_eq_true c4; clear c4
      (first | rw [c4b0] | (simp only [i64_w, i32_w]; rw [c4b0]) | skip)
      by_cases c5 : a0_0 ≤ 1099511627775
      · rw [if_pos c5] at H; have c5b0 : decide (a0_0 ≤ 1099511627775) = true := decide_eq_true c5; clear c5; by_cases c6 : a0_2 ≥ 0
        · rw [if_pos c6] at H; have c6b0 : decide (0 ≤ a0_2) = true := decide_eq_true c6; clear c6; by_cases c7 : a0_2 ≤ 500
          · rw [if_pos c7] at H; have c7b0 : decide (a0_2 ≤ 500) = true := decide_eq_true c7; clear c7; have H' := Aside0.mk H; clear H; have hcz8_0 : w3.cell? ⟨gb106, 0, none⟩ = some (.int .i64 a0_0) := (blk_cell BK106.out 0).trans rfl; have hcz8_1 : w3.cell? ⟨gb106, 1, none⟩ = some (.slice A0_1 l0_1.length c0_1) := (blk_cell BK106.out 1).trans rfl; have hcz8_2 : w3.cell? ⟨gb106, 2, none⟩ = some (.int .i64 a0_2) := (blk_cell BK106.out 2).trans rfl; have hfz8_0 := blk_frozen BK106.out 0; have hfz8_1 := blk_frozen BK106.out 1; have hfz8_2 := blk_frozen BK106.out 2; go_wp2; go_meet
            case rel => exact ⟨_, (((l0_1.length : Int) == 6)), rz_, H', ⟨by first | omega | exact Nat.le_refl _⟩, ⟨by (with_reducible repeat (first | refine blk_drewN ?_ _ | refine blk_drew ?_ | refine blk_alloc ?_ _)); exact BK106.out⟩, ⟨by repeat (first | (with_reducible first | exact HB.out | apply below_alloc | apply pw_below_drewN | apply below_drew1 | refine below_set ?_ GE106.out) | exact HB.out)⟩⟩
          · rw [if_neg c7] at H; have c7b0 : decide (a0_2 ≤ 500) = false := decide_eq_false c7; clear c7; have H' := Aside0.mk H; clear H; have hcz9_0 : w3.cell? ⟨gb106, 0, none⟩ = some (.int .i64 a0_0) := (blk_cell BK106.out 0).trans rfl; have hcz9_1 : w3.cell? ⟨gb106, 1, none⟩ = some (.slice A0_1 l0_1.length c0_1) := (blk_cell BK106.out 1).trans rfl; have hcz9_2 : w3.cell? ⟨gb106, 2, none⟩ = some (.int .i64 a0_2) := (blk_cell BK106.out 2).trans rfl; have hfz9_0 := blk_frozen BK106.out 0; have hfz9_1 := blk_frozen BK106.out 1; have hfz9_2 := blk_frozen BK106.out 2; go_wp2; go_meet
            case rel => exact ⟨_, (false), rz_, H', ⟨by first | omega | exact Nat.le_refl _⟩, ⟨by (with_reducible repeat (first | refine blk_drewN ?_ _ | refine blk_drew ?_ | refine blk_alloc ?_ _)); exact BK106.out⟩, ⟨by repeat (first | (with_reducible first | exact HB.out | apply below_alloc | apply pw_below_drewN | apply below_drew1 | refine below_set ?_ GE106.out) | exact HB.out)⟩⟩
        · rw [if_neg c6] at H; have c6b0 : decide (0 ≤ a0_2) = false := decide_eq_false c6; clear c6; have H' := Aside0.mk H; clear H; have hcz10_0 : w3.cell? ⟨gb106, 0, none⟩ = some (.int .i64 a0_0) := (blk_cell BK106.out 0).trans rfl; have hcz10_1 : w3.cell? ⟨gb106, 1, none⟩ = some (.slice A0_1 l0_1.length c0_1) := (blk_cell BK106.out 1).trans rfl; have hcz10_2 : w3.cell? ⟨gb106, 2, none⟩ = some (.int .i64 a0_2) := (blk_cell BK106.out 2).trans rfl; have hfz10_0 := blk_frozen BK106.out 0; have hfz10_1 := blk_frozen BK106.out 1; have hfz10_2 := blk_frozen BK106.out 2; go_wp2; go_meet
          case rel => exact ⟨_, (false), rz_, H', ⟨by first | omega | exact Nat.le_refl _⟩, ⟨by (with_reducible repeat (first | refine blk_drewN ?_ _ | refine blk_drew ?_ | refine blk_alloc ?_ _)); exact BK106.out⟩, ⟨by repeat (first | (with_reducible first | exact HB.out | apply below_alloc | apply pw_below_drewN | apply below_drew1 | refine below_set ?_ GE106.out) | exact HB.out)⟩⟩
      · rw [if_neg c5] at H; have c5b0 : decide (a0_0 ≤ 1099511627775) = false := decide_eq_false c5; clear c5; have H' := Aside0.mk H; clear H; have hcz11_0 : w3.cell? ⟨gb106, 0, none⟩ = some (.int .i64 a0_0) := (blk_cell BK106.out 0).trans rfl; have hcz11_1 : w3.cell? ⟨gb106, 1, none⟩ = some (.slice A0_1 l0_1.length c0_1) := (blk_cell BK106.out 1).trans rfl; have hcz11_2 : w3.cell? ⟨gb106, 2, none⟩ = some (.int .i64 a0_2) := (blk_cell BK106.out 2).trans rfl; have hfz11_0 := blk_frozen BK106.out 0; have hfz11_1 := blk_frozen BK106.out 1; have hfz11_2 := blk_frozen BK106.out 2; go_wp2; go_meet
        case rel => exact ⟨_, (false), rz_, H', ⟨by first | omega | exact Nat.le_refl _⟩, ⟨by (with_reducible repeat (first | refine blk_drewN ?_ _ | refine blk_drew ?_ | refine blk_alloc ?_ _)); exact BK106.out⟩, ⟨by repeat (first | (with_reducible first | exact HB.out | apply below_alloc | apply pw_below_drewN | apply below_drew1 | refine below_set ?_ GE106.out) | exact HB.out)⟩⟩
    · rw [if_neg c4] at H; have c4b0 : decide (1 ≤ a0_0) = false := decide_eq_false c4; clear c4
      (first | rw [c4b0] | (simp only [i64_w, i32_w]; rw [c4b0]) | skip)
      have H' := Aside0.mk H; clear H; have hcz12_0 : w3.cell? ⟨gb106, 0, none⟩ = some (.int .i64 a0_0) := (blk_cell BK106.out 0).trans rfl; have hcz12_1 : w3.cell? ⟨gb106, 1, none⟩ = some (.slice A0_1 l0_1.length c0_1) := (blk_cell BK106.out 1).trans rfl; have hcz12_2 : w3.cell? ⟨gb106, 2, none⟩ = some (.int .i64 a0_2) := (blk_cell BK106.out 2).trans rfl; have hfz12_0 := blk_frozen BK106.out 0; have hfz12_1 := blk_frozen BK106.out 1; have hfz12_2 := blk_frozen BK106.out 2; go_wp2; go_meet
      case rel => exact ⟨_, (false), rz_, H', ⟨by first | omega | exact Nat.le_refl _⟩, ⟨by (with_reducible repeat (first | refine blk_drewN ?_ _ | refine blk_drew ?_ | refine blk_alloc ?_ _)); exact BK106.out⟩, ⟨by repeat (first | (with_reducible first | exact HB.out | apply below_alloc | apply pw_below_drewN | apply below_drew1 | refine below_set ?_ GE106.out) | exact HB.out)⟩⟩
  case rest =>
    clear HC2; obtain ⟨kq, x3_1, rfl, HA, HJ1, BK106, HB⟩ := hcut; cases kq with
    | zero => exact absurd HA.out (by simp [group_Check.j0])
    | succ kj1 =>
      have H := HA.out; clear HA; simp only [group_Check.j0] at H; have H' := Aside0.mk H; clear H; have hcz13_0 : wc.cell? ⟨gb106, 0, none⟩ = some (.int .i64 a0_0) := (blk_cell BK106.out 0).trans rfl; have hcz13_1 : wc.cell? ⟨gb106, 1, none⟩ = some (.slice A0_1 l0_1.length c0_1) := (blk_cell BK106.out 1).trans rfl; have hcz13_2 : wc.cell? ⟨gb106, 2, none⟩ = some (.int .i64 a0_2) := (blk_cell BK106.out 2).trans rfl; have hfz13_0 := blk_frozen BK106.out 0; have hfz13_1 := blk_frozen BK106.out 1; have hfz13_2 := blk_frozen BK106.out 2; go_wp2; go_loopg [3, 33] kj1 (fun kq v3 v33 w' => ∃ (x3_2 : Bool) (x33_2 : Int), v3 = .bool x3_2 ∧ v33 = .int .i64 x33_2 ∧ Aside0 (group_Check.l0 kq x3_2 l0_1 (l0_1.length : Int) x33_2 a0_0 l0_1 a0_2 = some r) ∧ Aside0 (kq ≤ kj1) ∧ Aside0 (w'.heap[gb106]? = some (.cells #[.int .i64 a0_0, (.slice A0_1 l0_1.length c0_1), .int .i64 a0_2] 24 (0, 0))) ∧ Aside0 (Below w.heap.size w w'))
      case atStart => exact ⟨(x3_1), (0), rz_, rz_, H', ⟨Nat.le_refl _⟩, ⟨by (with_reducible repeat (first | refine blk_drewN ?_ _ | refine blk_drew ?_ | refine blk_alloc ?_ _)); exact BK106.out⟩, ⟨by repeat (first | (with_reducible first | exact HB.out | apply below_alloc | apply pw_below_drewN | apply below_drew1 | refine below_set ?_ GE106.out) | exact HB.out)⟩⟩
      case round =>
        clear H'; obtain ⟨x3_2, x33_2, rfl, rfl, HA, HK2, BK106, HB⟩ := hrel; cases gk with
        | zero => exact absurd HA.out (by simp [group_Check.l0])
        | succ k2 =>
          have H := HA.out; clear HA; simp only [group_Check.l0] at H; by_cases c14 : x33_2 < (l0_1.length : Int)
          · rw [if_pos c14] at H; have c14b0 : decide (x33_2 < (l0_1.length : Int)) = true := decide_eq_true c14; clear c14; by_cases c15 : 0 ≤ x33_2
            · rw [if_pos c15] at H; have c15b0 : decide (0 ≤ x33_2) = true := decide_eq_true c15; clear c15; by_cases c16 : x33_2 < (l0_1.length : Int)
              · rw [if_pos c16] at H; have c16b0 : decide (x33_2 < (l0_1.length : Int)) = true := decide_eq_true c16; clear c16; by_cases c17 : x3_2 = true
                · subst c17; have H1 : (if ((rd_T46 l0_1 x33_2).f0) = (wrap64 (x33_2 + 1)) then (if ((rd_T46 l0_1 x33_2).f1) ≥ 0 then (group_Check.l0 k2 (decide (((rd_T46 l0_1 x33_2).f1) ≤ 1099511627775)) l0_1 (l0_1.length : Int) (wrap64 (x33_2 + 1)) a0_0 l0_1 a0_2) else (group_Check.l0 k2 false l0_1 (l0_1.length : Int) (wrap64 (x33_2 + 1)) a0_0 l0_1 a0_2)) else (group_Check.l0 k2 false l0_1 (l0_1.length : Int) (wrap64 (x33_2 + 1)) a0_0 l0_1 a0_2)) = some r := by rw [if_pos rfl] at H; exact H
                  clear H; have H := H1; clear H1; by_cases c18 : ((rd_T46 l0_1 x33_2).f0) = (wrap64 (x33_2 + 1))
                  · rw [if_pos c18] at H; have c18b0 : (((rd_T46 l0_1 x33_2).f0) == (wrap64 (x33_2 + 1))) = true := beq_iff_eq.mpr c18; have c18b1 : (((rd_T46 l0_1 x33_2).f0) != (wrap64 (x33_2 + 1))) = false := bne_eq_false_iff_eq.mpr c18; clear c18; by_cases c19 : ((rd_T46 l0_1 x33_2).f1) ≥ 0
                    · rw [if_pos c19] at H; have c19b0 : decide (0 ≤ ((rd_T46 l0_1 x33_2).f1)) = true := decide_eq_true c19; clear c19; have H' := Aside0.mk H; clear H; have p107 : 0 ≤ (x33_2 : Int) := of_decide_eq_true as_'; have q107 : x33_2 < (l0_1.length : Int) := of_decide_eq_true as_'; obtain ⟨ad107, e107, hx107_0, hx107_1, hx107_2⟩ := at_T46 HR0_1.out x33_2 p107 q107; cases e107; replace hx107_0 := (HB.out.cell (World.block_lt_of_cell? w _ hx107_0)).trans hx107_0; replace hx107_1 := (HB.out.cell (World.block_lt_of_cell? w _ hx107_1)).trans hx107_1; replace hx107_2 := (HB.out.cell (World.block_lt_of_cell? w _ hx107_2)).trans hx107_2; replace p107 := eq_true p107; replace q107 := eq_true q107; go_wp2_with (first | ((with_reducible refine gate_dst (N := 5) rfl ?_); (try (refine gate_guard (by rfl) ?_; dsimp only)); refine box_event ?hg (N := 5) ?hd (cs := #[.int .i64 0, .int .i64 0, .bool false]) (t := 46) ?hr ?_; (case hd => rfl); (case hg => rfl); (case hr => first | (go_simp; done) | (go_simp; rfl)); intro gb108 hg w20 hbox hb; have n0_ := Aside0.mk (blk_below (g := gb106) (o := .cells #[.int .i64 a0_0, .slice (some ad107) l0_1.length c0_1, .int .i64 a0_2] 24 (0, 0)) (by (with_reducible repeat (first | refine blk_drewN ?_ _ | refine blk_drew ?_ | refine blk_alloc ?_ _)); exact BK106.out) hb); have n1_ := Aside0.mk (below_step (by repeat (first | (with_reducible first | exact HB.out | apply below_alloc | apply pw_below_drewN | apply below_drew1 | refine below_set ?_ GE106.out) | exact HB.out)) hb); have n2_ := Aside0.mk (hbox); have n3_ := Aside0.mk ((by rw [hg]; exact (below_size (by repeat (first | (with_reducible first | exact HB.out | apply below_alloc | apply pw_below_drewN | apply below_drew1 | refine below_set ?_ GE106.out) | exact HB.out))) : w.heap.size ≤ gb108)); have n4_ := Aside0.mk ((by rw [hg]; exact (below_size (by repeat (first | (with_reducible first | exact HB.out | apply below_alloc | apply pw_below_drewN | apply below_drew1 | refine below_set ?_ GE106.out) | exact HB.out))) : w.heap.size ≤ gb108)); have n5_ := Aside0.mk ((by rw [hg]; exact Nat.ne_of_lt (blk_lt (g := gb106) (o := .cells #[.int .i64 a0_0, .slice (some ad107) l0_1.length c0_1, .int .i64 a0_2] 24 (0, 0)) (by (with_reducible repeat (first | refine blk_drewN ?_ _ | refine blk_drew ?_ | refine blk_alloc ?_ _)); exact BK106.out)) : gb106 ≠ gb108)); have n6_ := Aside0.mk ((by rw [hg]; exact Nat.ne_of_gt (blk_lt (g := gb106) (o := .cells #[.int .i64 a0_0, .slice (some ad107) l0_1.length c0_1, .int .i64 a0_2] 24 (0, 0)) (by (with_reducible repeat (first | refine blk_drewN ?_ _ | refine blk_drew ?_ | refine blk_alloc ?_ _)); exact BK106.out)) : gb108 ≠ gb106)); clear BK106; clear HB; have BK106 := n0_; have HB := n1_; have BK108 := n2_; have GW108 := n3_; have GE108 := n4_; have NB106_108 := n5_; have NB108_106 := n6_; clear n0_ n1_ n2_ n3_ n4_ n5_ n6_; clear hb hbox hg; have hnb21 := NB108_106.out; have hnc21 := NB106_108.out; have hcz22_0 : w20.cell? ⟨gb108, 0, none⟩ = some (.int .i64 0) := (blk_cell BK108.out 0).trans rfl; have hcz22_1 : w20.cell? ⟨gb108, 1, none⟩ = some (.int .i64 0) := (blk_cell BK108.out 1).trans rfl; have hcz22_2 : w20.cell? ⟨gb108, 2, none⟩ = some (.bool false) := (blk_cell BK108.out 2).trans rfl; have hfz22_0 := blk_frozen BK108.out 0; have hfz22_1 := blk_frozen BK108.out 1; have hfz22_2 := blk_frozen BK108.out 2))
                      go_roundg k2
                      case measure => have := HJ1.out; have := HK2.out; omega
                      case rel => exact ⟨(decide (((rd_T46 l0_1 x33_2).f1) ≤ 1099511627775)), (wrap64 (x33_2 + 1)), rz_, rz_, H', ⟨by have := HJ1.out; have := HK2.out; omega⟩, ⟨by (with_reducible repeat (first | refine blk_drewN ?_ _ | refine blk_drew ?_ | refine blk_alloc ?_ _)); refine blk_far ?_ NB106_108.out _; (with_reducible repeat (first | refine blk_drewN ?_ _ | refine blk_drew ?_ | refine blk_alloc ?_ _)); refine blk_far ?_ NB106_108.out _; (with_reducible repeat (first | refine blk_drewN ?_ _ | refine blk_drew ?_ | refine blk_alloc ?_ _)); refine blk_far ?_ NB106_108.out _; (with_reducible repeat (first | refine blk_drewN ?_ _ | refine blk_drew ?_ | refine blk_alloc ?_ _)); exact BK106.out⟩, ⟨by repeat (first | (with_reducible first | exact HB.out | apply below_alloc | apply pw_below_drewN | apply below_drew1 | refine below_set ?_ GE106.out | refine below_set ?_ GE108.out) | exact HB.out)⟩⟩
                    · rw [if_neg c19] at H; have c19b0 : decide (0 ≤ ((rd_T46 l0_1 x33_2).f1)) = false := decide_eq_false c19; clear c19; have H' := Aside0.mk H; clear H; have p107 : 0 ≤ (x33_2 : Int) := of_decide_eq_true as_'; have q107 : x33_2 < (l0_1.length : Int) := of_decide_eq_true as_'; obtain ⟨ad107, e107, hx107_0, hx107_1, hx107_2⟩ := at_T46 HR0_1.out x33_2 p107 q107; cases e107; replace hx107_0 := (HB.out.cell (World.block_lt_of_cell? w _ hx107_0)).trans hx107_0; replace hx107_1 := (HB.out.cell (World.block_lt_of_cell? w _ hx107_1)).trans hx107_1; replace hx107_2 := (HB.out.cell (World.block_lt_of_cell? w _ hx107_2)).trans hx107_2; replace p107 := eq_true p107; replace q107 := eq_true q107; go_wp2_with (first | ((with_reducible refine gate_dst (N := 5) rfl ?_); (try (refine gate_guard (by rfl) ?_; dsimp only)); refine box_event ?hg (N := 5) ?hd (cs := #[.int .i64 0, .int .i64 0, .bool false]) (t := 46) ?hr ?_; (case hd => rfl); (case hg => rfl); (case hr => first | (go_simp; done) | (go_simp; rfl)); intro gb108 hg w23 hbox hb; have n0_ := Aside0.mk (blk_below (g := gb106) (o := .cells #[.int .i64 a0_0, .slice (some ad107) l0_1.length c0_1, .int .i64 a0_2] 24 (0, 0)) (by (with_reducible repeat (first | refine blk_drewN ?_ _ | refine blk_drew ?_ | refine blk_alloc ?_ _)); exact BK106.out) hb); have n1_ := Aside0.mk (below_step (by repeat (first | (with_reducible first | exact HB.out | apply below_alloc | apply pw_below_drewN | apply below_drew1 | refine below_set ?_ GE106.out) | exact HB.out)) hb); have n2_ := Aside0.mk (hbox); have n3_ := Aside0.mk ((by rw [hg]; exact (below_size (by repeat (first | (with_reducible first | exact HB.out | apply below_alloc | apply pw_below_drewN | apply below_drew1 | refine below_set ?_ GE106.out) | exact HB.out))) : w.heap.size ≤ gb108)); have n4_ := Aside0.mk ((by rw [hg]; exact (below_size (by repeat (first | (with_reducible first | exact HB.out | apply below_alloc | apply pw_below_drewN | apply below_drew1 | refine below_set ?_ GE106.out) | exact HB.out))) : w.heap.size ≤ gb108)); have n5_ := Aside0.mk ((by rw [hg]; exact Nat.ne_of_lt (blk_lt (g := gb106) (o := .cells #[.int .i64 a0_0, .slice (some ad107) l0_1.length c0_1, .int .i64 a0_2] 24 (0, 0)) (by (with_reducible repeat (first | refine blk_drewN ?_ _ | refine blk_drew ?_ | refine blk_alloc ?_ _)); exact BK106.out)) : gb106 ≠ gb108)); have n6_ := Aside0.mk ((by rw [hg]; exact Nat.ne_of_gt (blk_lt (g := gb106) (o := .cells #[.int .i64 a0_0, .slice (some ad107) l0_1.length c0_1, .int .i64 a0_2] 24 (0, 0)) (by (with_reducible repeat (first | refine blk_drewN ?_ _ | refine blk_drew ?_ | refine blk_alloc ?_ _)); exact BK106.out)) : gb108 ≠ gb106)); clear BK106; clear HB; have BK106 := n0_; have HB := n1_; have BK108 := n2_; have GW108 := n3_; have GE108 := n4_; have NB106_108 := n5_; have NB108_106 := n6_; clear n0_ n1_ n2_ n3_ n4_ n5_ n6_; clear hb hbox hg; have hnb24 := NB108_106.out; have hnc24 := NB106_108.out; have hcz25_0 : w23.cell? ⟨gb108, 0, none⟩ = some (.int .i64 0) := (blk_cell BK108.out 0).trans rfl; have hcz25_1 : w23.cell? ⟨gb108, 1, none⟩ = some (.int .i64 0) := (blk_cell BK108.out 1).trans rfl; have hcz25_2 : w23.cell? ⟨gb108, 2, none⟩ = some (.bool false) := (blk_cell BK108.out 2).trans rfl; have hfz25_0 := blk_frozen BK108.out 0; have hfz25_1 := blk_frozen BK108.out 1; have hfz25_2 := blk_frozen BK108.out 2))
                      go_roundg k2
                      case measure => have := HJ1.out; have := HK2.out; omega
                      case rel => exact ⟨(false), (wrap64 (x33_2 + 1)), rz_, rz_, H', ⟨by have := HJ1.out; have := HK2.out; omega⟩, ⟨by (with_reducible repeat (first | refine blk_drewN ?_ _ | refine blk_drew ?_ | refine blk_alloc ?_ _)); refine blk_far ?_ NB106_108.out _; (with_reducible repeat (first | refine blk_drewN ?_ _ | refine blk_drew ?_ | refine blk_alloc ?_ _)); refine blk_far ?_ NB106_108.out _; (with_reducible repeat (first | refine blk_drewN ?_ _ | refine blk_drew ?_ | refine blk_alloc ?_ _)); refine blk_far ?_ NB106_108.out _; (with_reducible repeat (first | refine blk_drewN ?_ _ | refine blk_drew ?_ | refine blk_alloc ?_ _)); exact BK106.out⟩, ⟨by repeat (first | (with_reducible first | exact HB.out | apply below_alloc | apply pw_below_drewN | apply below_drew1 | refine below_set ?_ GE106.out | refine below_set ?_ GE108.out) | exact HB.out)⟩⟩
                  · rw [if_neg c18] at H; have c18b0 : (((rd_T46 l0_1 x33_2).f0) == (wrap64 (x33_2 + 1))) = false := beq_eq_false_iff_ne.mpr c18; have c18b1 : (((rd_T46 l0_1 x33_2).f0) != (wrap64 (x33_2 + 1))) = true := bne_iff_ne.mpr c18; have H' := Aside0.mk H; clear H; have p107 : 0 ≤ (x33_2 : Int) := of_decide_eq_true as_'; have q107 : x33_2 < (l0_1.length : Int) := of_decide_eq_true as_'; obtain ⟨ad107, e107, hx107_0, hx107_1, hx107_2⟩ := at_T46 HR0_1.out x33_2 p107 q107; cases e107; replace hx107_0 := (HB.out.cell (World.block_lt_of_cell? w _ hx107_0)).trans hx107_0; replace hx107_1 := (HB.out.cell (World.block_lt_of_cell? w _ hx107_1)).trans hx107_1; replace hx107_2 := (HB.out.cell (World.block_lt_of_cell? w _ hx107_2)).trans hx107_2; replace p107 := eq_true p107; replace q107 := eq_true q107; go_wp2_with (first | ((with_reducible refine gate_dst (N := 5) rfl ?_); (try (refine gate_guard (by rfl) ?_; dsimp only)); refine box_event ?hg (N := 5) ?hd (cs := #[.int .i64 0, .int .i64 0, .bool false]) (t := 46) ?hr ?_; (case hd => rfl); (case hg => rfl); (case hr => first | (go_simp; done) | (go_simp; rfl)); intro gb108 hg w26 hbox hb; have n0_ := Aside0.mk (blk_below (g := gb106) (o := .cells #[.int .i64 a0_0, .slice (some ad107) l0_1.length c0_1, .int .i64 a0_2] 24 (0, 0)) (by (with_reducible repeat (first | refine blk_drewN ?_ _ | refine blk_drew ?_ | refine blk_alloc ?_ _)); exact BK106.out) hb); have n1_ := Aside0.mk (below_step (by repeat (first | (with_reducible first | exact HB.out | apply below_alloc | apply pw_below_drewN | apply below_drew1 | refine below_set ?_ GE106.out) | exact HB.out)) hb); have n2_ := Aside0.mk (hbox); have n3_ := Aside0.mk ((by rw [hg]; exact (below_size (by repeat (first | (with_reducible first | exact HB.out | apply below_alloc | apply pw_below_drewN | apply below_drew1 | refine below_set ?_ GE106.out) | exact HB.out))) : w.heap.size ≤ gb108)); have n4_ := Aside0.mk ((by rw [hg]; exact (below_size (by repeat (first | (with_reducible first | exact HB.out | apply below_alloc | apply pw_below_drewN | apply below_drew1 | refine below_set ?_ GE106.out) | exact HB.out))) : w.heap.size ≤ gb108)); have n5_ := Aside0.mk ((by rw [hg]; exact Nat.ne_of_lt (blk_lt (g := gb106) (o := .cells #[.int .i64 a0_0, .slice (some ad107) l0_1.length c0_1, .int .i64 a0_2] 24 (0, 0)) (by (with_reducible repeat (first | refine blk_drewN ?_ _ | refine blk_drew ?_ | refine blk_alloc ?_ _)); exact BK106.out)) : gb106 ≠ gb108)); have n6_ := Aside0.mk ((by rw [hg]; exact Nat.ne_of_gt (blk_lt (g := gb106) (o := .cells #[.int .i64 a0_0, .slice (some ad107) l0_1.length c0_1, .int .i64 a0_2] 24 (0, 0)) (by (with_reducible repeat (first | refine blk_drewN ?_ _ | refine blk_drew ?_ | refine blk_alloc ?_ _)); exact BK106.out)) : gb108 ≠ gb106)); clear BK106; clear HB; have BK106 := n0_; have HB := n1_; have BK108 := n2_; have GW108 := n3_; have GE108 := n4_; have NB106_108 := n5_; have NB108_106 := n6_; clear n0_ n1_ n2_ n3_ n4_ n5_ n6_; clear hb hbox hg; have hnb27 := NB108_106.out; have hnc27 := NB106_108.out; have hcz28_0 : w26.cell? ⟨gb108, 0, none⟩ = some (.int .i64 0) := (blk_cell BK108.out 0).trans rfl; have hcz28_1 : w26.cell? ⟨gb108, 1, none⟩ = some (.int .i64 0) := (blk_cell BK108.out 1).trans rfl; have hcz28_2 : w26.cell? ⟨gb108, 2, none⟩ = some (.bool false) := (blk_cell BK108.out 2).trans rfl; have hfz28_0 := blk_frozen BK108.out 0; have hfz28_1 := blk_frozen BK108.out 1; have hfz28_2 := blk_frozen BK108.out 2))
                    go_roundg k2
                    case measure => have := HJ1.out; have := HK2.out; omega
                    case rel => exact ⟨(false), (wrap64 (x33_2 + 1)), rz_, rz_, H', ⟨by have := HJ1.out; have := HK2.out; omega⟩, ⟨by (with_reducible repeat (first | refine blk_drewN ?_ _ | refine blk_drew ?_ | refine blk_alloc ?_ _)); refine blk_far ?_ NB106_108.out _; (with_reducible repeat (first | refine blk_drewN ?_ _ | refine blk_drew ?_ | refine blk_alloc ?_ _)); refine blk_far ?_ NB106_108.out _; (with_reducible repeat (first | refine blk_drewN ?_ _ | refine blk_drew ?_ | refine blk_alloc ?_ _)); refine blk_far ?_ NB106_108.out _; (with_reducible repeat (first | refine blk_drewN ?_ _ | refine blk_drew ?_ | refine blk_alloc ?_ _)); exact BK106.out⟩, ⟨by repeat (first | (with_reducible first | exact HB.out | apply below_alloc | apply pw_below_drewN | apply below_drew1 | refine below_set ?_ GE106.out | refine below_set ?_ GE108.out) | exact HB.out)⟩⟩
                · replace c17 := Bool.eq_false_iff.mpr c17; subst c17; have H1 : (group_Check.l0 k2 false l0_1 (l0_1.length : Int) (wrap64 (x33_2 + 1)) a0_0 l0_1 a0_2) = some r := by rw [if_neg (show ¬ (false = true) by decide)] at H; exact H
                  clear H; have H := H1; clear H1; have H' := Aside0.mk H; clear H; have p107 : 0 ≤ (x33_2 : Int) := of_decide_eq_true as_'; have q107 : x33_2 < (l0_1.length : Int) := of_decide_eq_true as_'; obtain ⟨ad107, e107, hx107_0, hx107_1, hx107_2⟩ := at_T46 HR0_1.out x33_2 p107 q107; cases e107; replace hx107_0 := (HB.out.cell (World.block_lt_of_cell? w _ hx107_0)).trans hx107_0; replace hx107_1 := (HB.out.cell (World.block_lt_of_cell? w _ hx107_1)).trans hx107_1; replace hx107_2 := (HB.out.cell (World.block_lt_of_cell? w _ hx107_2)).trans hx107_2; replace p107 := eq_true p107; replace q107 := eq_true q107; go_wp2_with (first | ((with_reducible refine gate_dst (N := 5) rfl ?_); (try (refine gate_guard (by rfl) ?_; dsimp only)); refine box_event ?hg (N := 5) ?hd (cs := #[.int .i64 0, .int .i64 0, .bool false]) (t := 46) ?hr ?_; (case hd => rfl); (case hg => rfl); (case hr => first | (go_simp; done) | (go_simp; rfl)); intro gb108 hg w29 hbox hb; have n0_ := Aside0.mk (blk_below (g := gb106) (o := .cells #[.int .i64 a0_0, .slice (some ad107) l0_1.length c0_1, .int .i64 a0_2] 24 (0, 0)) (by (with_reducible repeat (first | refine blk_drewN ?_ _ | refine blk_drew ?_ | refine blk_alloc ?_ _)); exact BK106.out) hb); have n1_ := Aside0.mk (below_step (by repeat (first | (with_reducible first | exact HB.out | apply below_alloc | apply pw_below_drewN | apply below_drew1 | refine below_set ?_ GE106.out) | exact HB.out)) hb); have n2_ := Aside0.mk (hbox); have n3_ := Aside0.mk ((by rw [hg]; exact (below_size (by repeat (first | (with_reducible first | exact HB.out | apply below_alloc | apply pw_below_drewN | apply below_drew1 | refine below_set ?_ GE106.out) | exact HB.out))) : w.heap.size ≤ gb108)); have n4_ := Aside0.mk ((by rw [hg]; exact (below_size (by repeat (first | (with_reducible first | exact HB.out | apply below_alloc | apply pw_below_drewN | apply below_drew1 | refine below_set ?_ GE106.out) | exact HB.out))) : w.heap.size ≤ gb108)); have n5_ := Aside0.mk ((by rw [hg]; exact Nat.ne_of_lt (blk_lt (g := gb106) (o := .cells #[.int .i64 a0_0, .slice (some ad107) l0_1.length c0_1, .int .i64 a0_2] 24 (0, 0)) (by (with_reducible repeat (first | refine blk_drewN ?_ _ | refine blk_drew ?_ | refine blk_alloc ?_ _)); exact BK106.out)) : gb106 ≠ gb108)); have n6_ := Aside0.mk ((by rw [hg]; exact Nat.ne_of_gt (blk_lt (g := gb106) (o := .cells #[.int .i64 a0_0, .slice (some ad107) l0_1.length c0_1, .int .i64 a0_2] 24 (0, 0)) (by (with_reducible repeat (first | refine blk_drewN ?_ _ | refine blk_drew ?_ | refine blk_alloc ?_ _)); exact BK106.out)) : gb108 ≠ gb106)); clear BK106; clear HB; have BK106 := n0_; have HB := n1_; have BK108 := n2_; have GW108 := n3_; have GE108 := n4_; have NB106_108 := n5_; have NB108_106 := n6_; clear n0_ n1_ n2_ n3_ n4_ n5_ n6_; clear hb hbox hg; have hnb30 := NB108_106.out; have hnc30 := NB106_108.out; have hcz31_0 : w29.cell? ⟨gb108, 0, none⟩ = some (.int .i64 0) := (blk_cell BK108.out 0).trans rfl; have hcz31_1 : w29.cell? ⟨gb108, 1, none⟩ = some (.int .i64 0) := (blk_cell BK108.out 1).trans rfl; have hcz31_2 : w29.cell? ⟨gb108, 2, none⟩ = some (.bool false) := (blk_cell BK108.out 2).trans rfl; have hfz31_0 := blk_frozen BK108.out 0; have hfz31_1 := blk_frozen BK108.out 1; have hfz31_2 := blk_frozen BK108.out 2))
                  go_roundg k2
                  case measure => have := HJ1.out; have := HK2.out; omega
                  case rel => exact ⟨(false), (wrap64 (x33_2 + 1)), rz_, rz_, H', ⟨by have := HJ1.out; have := HK2.out; omega⟩, ⟨by (with_reducible repeat (first | refine blk_drewN ?_ _ | refine blk_drew ?_ | refine blk_alloc ?_ _)); refine blk_far ?_ NB106_108.out _; (with_reducible repeat (first | refine blk_drewN ?_ _ | refine blk_drew ?_ | refine blk_alloc ?_ _)); refine blk_far ?_ NB106_108.out _; (with_reducible repeat (first | refine blk_drewN ?_ _ | refine blk_drew ?_ | refine blk_alloc ?_ _)); refine blk_far ?_ NB106_108.out _; (with_reducible repeat (first | refine blk_drewN ?_ _ | refine blk_drew ?_ | refine blk_alloc ?_ _)); exact BK106.out⟩, ⟨by repeat (first | (with_reducible first | exact HB.out | apply below_alloc | apply pw_below_drewN | apply below_drew1 | refine below_set ?_ GE106.out | refine below_set ?_ GE108.out) | exact HB.out)⟩⟩
              · rw [if_neg c16] at H; exact absurd H (by simp)
            · rw [if_neg c15] at H; exact absurd H (by simp)
          · rw [if_neg c14] at H; have c14b0 : decide (x33_2 < (l0_1.length : Int)) = false := decide_eq_false c14; clear c14; by_cases c32 : x3_2 = true
            · subst c32; have H1 : (if 0 < (l0_1.length : Int) then (if ((rd_T46 l0_1 0).f2 = true) then (some 0) else (some 1)) else (none)) = some r := by rw [if_pos rfl] at H; exact H
              clear H; have H := H1; clear H1; by_cases c33 : 0 < (l0_1.length : Int)
              · rw [if_pos c33] at H; have c33b0 : decide (0 < (l0_1.length : Int)) = true := decide_eq_true c33; have c33b1 : decide (0 < l0_1.length) = true := decide_eq_true (by omega); clear c33; obtain ⟨bq34, hbq34⟩ : ∃ b_ : Bool, b_ = ((rd_T46 l0_1 0).f2) := ⟨_, rfl⟩; replace H : (if (bq34 = true) then (some 0) else (some 1)) = some r := by rw [← hbq34] at H; exact H
                have Nbq34 := Aside0.mk hbq34; clear hbq34; by_cases c35 : (bq34 = true)
                · subst c35; have H1 : (some 0) = some r := by rw [if_pos rfl] at H; exact H
                  clear H; have H := H1; clear H1; obtain rfl := Option.some.inj H; have hcz36_0 : wr.cell? ⟨gb106, 0, none⟩ = some (.int .i64 a0_0) := (blk_cell BK106.out 0).trans rfl; have hcz36_1 : wr.cell? ⟨gb106, 1, none⟩ = some (.slice A0_1 l0_1.length c0_1) := (blk_cell BK106.out 1).trans rfl; have hcz36_2 : wr.cell? ⟨gb106, 2, none⟩ = some (.int .i64 a0_2) := (blk_cell BK106.out 2).trans rfl; have hfz36_0 := blk_frozen BK106.out 0; have hfz36_1 := blk_frozen BK106.out 1; have hfz36_2 := blk_frozen BK106.out 2; have p109 : 0 ≤ (0 : Int) := (by omega); have q109 : 0 < (l0_1.length : Int) := of_decide_eq_true as_'; obtain ⟨ad109, e109, hx109_0, hx109_1, hx109_2⟩ := at_T46 HR0_1.out 0 p109 q109
                  (try rw [← Nbq34.out] at hx109_2)
                  (try rw [← Nbq34.out] at hw109_2)
                  cases e109; have qi109 : (0 < l0_1.length) = True := eq_true (by omega)
                  (try rw [show ((0 : Int)).toNat = 0 from rfl] at hx109_0)
                  (try rw [show 0 * 3 = 0 from rfl] at hx109_0)
                  (try rw [Addr.add_zero'] at hx109_0)
                  (try rw [show ((0 : Int)).toNat = 0 from rfl] at hx109_1)
                  (try rw [show 0 * 3 = 0 from rfl] at hx109_1)
                  (try rw [Addr.add_zero'] at hx109_1)
                  (try rw [show ((0 : Int)).toNat = 0 from rfl] at hx109_2)
                  (try rw [show 0 * 3 = 0 from rfl] at hx109_2)
                  (try rw [Addr.add_zero'] at hx109_2)
                  replace hx109_0 := (HB.out.cell (World.block_lt_of_cell? w _ hx109_0)).trans hx109_0; replace hx109_1 := (HB.out.cell (World.block_lt_of_cell? w _ hx109_1)).trans hx109_1; replace hx109_2 := (HB.out.cell (World.block_lt_of_cell? w _ hx109_2)).trans hx109_2; replace p109 := eq_true p109; replace q109 := eq_true q109; go_wp2; go_ret
                  exact ⟨ew_, by repeat (first | (with_reducible first | exact HB.out | apply below_alloc | apply pw_below_drewN | apply below_drew1 | refine below_set ?_ GE106.out) | exact HB.out)⟩
                · replace c35 := Bool.eq_false_iff.mpr c35; subst c35; have H1 : (some 1) = some r := by rw [if_neg (show ¬ (false = true) by decide)] at H; exact H
                  clear H; have H := H1; clear H1; obtain rfl := Option.some.inj H; have hcz37_0 : wr.cell? ⟨gb106, 0, none⟩ = some (.int .i64 a0_0) := (blk_cell BK106.out 0).trans rfl; have hcz37_1 : wr.cell? ⟨gb106, 1, none⟩ = some (.slice A0_1 l0_1.length c0_1) := (blk_cell BK106.out 1).trans rfl; have hcz37_2 : wr.cell? ⟨gb106, 2, none⟩ = some (.int .i64 a0_2) := (blk_cell BK106.out 2).trans rfl; have hfz37_0 := blk_frozen BK106.out 0; have hfz37_1 := blk_frozen BK106.out 1; have hfz37_2 := blk_frozen BK106.out 2; have p109 : 0 ≤ (0 : Int) := (by omega); have q109 : 0 < (l0_1.length : Int) := of_decide_eq_true as_'; obtain ⟨ad109, e109, hx109_0, hx109_1, hx109_2⟩ := at_T46 HR0_1.out 0 p109 q109
                  (try rw [← Nbq34.out] at hx109_2)
                  (try rw [← Nbq34.out] at hw109_2)
                  cases e109; have qi109 : (0 < l0_1.length) = True := eq_true (by omega)
                  (try rw [show ((0 : Int)).toNat = 0 from rfl] at hx109_0)
                  (try rw [show 0 * 3 = 0 from rfl] at hx109_0)
                  (try rw [Addr.add_zero'] at hx109_0)
                  (try rw [show ((0 : Int)).toNat = 0 from rfl] at hx109_1)
                  (try rw [show 0 * 3 = 0 from rfl] at hx109_1)
                  (try rw [Addr.add_zero'] at hx109_1)
                  (try rw [show ((0 : Int)).toNat = 0 from rfl] at hx109_2)
                  (try rw [show 0 * 3 = 0 from rfl] at hx109_2)
                  (try rw [Addr.add_zero'] at hx109_2)
                  replace hx109_0 := (HB.out.cell (World.block_lt_of_cell? w _ hx109_0)).trans hx109_0; replace hx109_1 := (HB.out.cell (World.block_lt_of_cell? w _ hx109_1)).trans hx109_1; replace hx109_2 := (HB.out.cell (World.block_lt_of_cell? w _ hx109_2)).trans hx109_2; replace p109 := eq_true p109; replace q109 := eq_true q109; go_wp2; go_ret
                  exact ⟨ew_, by repeat (first | (with_reducible first | exact HB.out | apply below_alloc | apply pw_below_drewN | apply below_drew1 | refine below_set ?_ GE106.out) | exact HB.out)⟩
              · rw [if_neg c33] at H; exact absurd H (by simp)
            · replace c32 := Bool.eq_false_iff.mpr c32; subst c32; have H1 : (some 1) = some r := by rw [if_neg (show ¬ (false = true) by decide)] at H; exact H
              clear H; have H := H1; clear H1; obtain rfl := Option.some.inj H; go_wp2; go_ret
              exact ⟨ew_, by repeat (first | (with_reducible first | exact HB.out | apply below_alloc | apply pw_below_drewN | apply below_drew1 | refine below_set ?_ GE106.out) | exact HB.out)⟩
end Go.Proofs.YthemhfloablccaaDoor.Pr
end

section
namespace Go.Proofs.YthemhfloablccaaDoor.Pr
open Go.RowKit Go.Deep Go.Proofs.YthemhfloablccaaDoorW.PrintWords Go.Proofs.YthemhfloablccaaDoorW.PrintLast Go.Proofs.YthemhfloablccaaDoorW.PrintMore
set_option maxHeartbeats 4000000
def flagN (b : Bool) : Int := if b = true then 1 else 0
def memB (m : Mem) : List Nat := byN m.f1 6 ++ byN (flagN m.f2) 1
def grpL (E : Int) (l : List Mem) (O : Int) : List Nat := (byN E 6 ++ byN O 6) ++ l.flatMap memB
def goodG (E : Int) (l : List Mem) (O : Int) : Prop := l.length = 6 ∧ 0 ≤ E ∧ E ≤ 1099511627775 ∧ 0 ≤ O ∧ O ≤ 1099511627775 ∧ ∀ m ∈ l, 0 ≤ m.f1 ∧ m.f1 ≤ 1099511627775
instance (E : Int) (l : List Mem) (O : Int) : Decidable (goodG E l O) := by unfold goodG; infer_instance
def group_Put.f (k : Nat) (a0_0 : Int) (l0_1 : List Mem) (a0_2 : Int) : Option (ByteArray × Int) :=
 (group_Check.f k a0_0 l0_1 a0_2).bind fun c => if c = 0 then (if goodG a0_0 l0_1 a0_2 then some (txt (grpL a0_0 l0_1 a0_2), 0) else none) else some (⟨#[]⟩, c)
def PAt (w : World) (gb og : Nat) (gv : Array Value) (L : List Nat) (wx : World) : Prop :=
 Below w.heap.size w wx ∧ wx.heap[gb]? = some (.cells gv 24 (0, 0)) ∧ OutAt w.heap.size og true false L wx
section
variable {w wx w' : World} {gb og : Nat} {gv : Array Value} {L : List Nat}
theorem PAt.below (h : PAt w gb og gv L wx) (hb : Below wx.heap.size wx w') : PAt w gb og gv L w' := ⟨below_then h.1 h.1.size hb, blk_below h.2.1 hb, h.2.2.below hb⟩
theorem step_good (L M : List Nat) (h : L.length + M.length ≤ 65536) : outStep false L true M = (false, L ++ M) := by
 unfold outStep
 rw [if_neg (by intro q; rcases q with q | q | q; cases q; cases q; omega)]
theorem pnum (h : PAt w gb og gv L wx) (n : Int) (h0 : 0 ≤ n) (h1 : n ≤ 1099511627775) (hl : L.length + 6 ≤ 65536) :
  Calls Tryd.prog 56 #[.pointer (some ⟨og, 0, none⟩), .int .i64 n] wx fun e w' => e = .returned (.tuple #[]) ∧ PAt w gb og gv (L ++ byN n 6) w' ∧ FrO wx w' := by
 refine (Out_Num w.heap.size og true false L n wx h.2.2 (by omega) h.1.size).mono ?_
 rintro e w' ⟨rfl, ho, hf, hb⟩
 have ht : timeB n = true := decide_eq_true ⟨h0, h1⟩
 rw [ht, step_good _ _ (by rw [byN_length _ _ (by decide)]; exact hl)] at ho
 exact ⟨rfl, ⟨h.1.trans hb, hf.blk h.2.1 (by decide) (by decide), ho⟩, hf⟩
theorem pbyte (h : PAt w gb og gv L wx) (n : Int) (h0 : 0 ≤ n) (h1 : n ≤ 255) (hl : L.length + 1 ≤ 65536) :
  Calls Tryd.prog 58 #[.pointer (some ⟨og, 0, none⟩), .int .i64 n] wx fun e w' => e = .returned (.tuple #[]) ∧ PAt w gb og gv (L ++ byN n 1) w' ∧ FrO wx w' := by
 refine (Out_Byte w.heap.size og true false L n wx h.2.2 (by omega) h.1.size).mono ?_
 rintro e w' ⟨rfl, ho, hf, hb⟩
 have ht : oneB n = true := decide_eq_true ⟨h0, h1⟩
 rw [ht, step_good _ _ (by rw [byN_length _ _ (by decide)]; exact hl)] at ho
 exact ⟨rfl, ⟨h.1.trans hb, hf.blk h.2.1 (by decide) (by decide), ho⟩, hf⟩
end
theorem memB_len (l : List Mem) : (l.flatMap memB).length = 7 * l.length := by
 induction l with
 | nil => rfl
 | cons m l ih => rw [List.flatMap_cons, List.length_append, ih, memB, List.length_append, byN_length _ _ (by decide), byN_length _ _ (by decide), List.length_cons]; omega
theorem take_memB {l : List Mem} {j : Nat} {m : Mem} (h : l[j]? = some m) : (l.take (j + 1)).flatMap memB = (l.take j).flatMap memB ++ memB m := by
 rw [List.take_add_one, h, List.flatMap_append]
 simp
theorem flag_calls (b : Bool) (w : World) : Calls Tryd.prog 57 #[.bool b] w fun e w' => e = .returned (.int .i64 (flagN b)) ∧ w' = w := by
 cases b
 ·go_enter Tryd.func57, Tryd.ntmps57
  go_wp2
  go_ret
  exact ⟨rfl, rfl⟩
 ·go_enter Tryd.func57, Tryd.ntmps57
  go_wp2
  go_ret
  exact ⟨rfl, rfl⟩
set_option maxRecDepth 100000 in
theorem group_Put.calls (k : Nat) (a0_0 : Int) (A0_1 : Option Addr) (c0_1 : Nat) (l0_1 : List Mem) (a0_2 : Int) (r1 : ByteArray) (r2 : Int) (w : World) (hr0_1 : Kd.C k46 w A0_1 l0_1.length l0_1) (hc0_1 : l0_1.length ≤ c0_1) (h : group_Put.f k a0_0 l0_1 a0_2 = some (r1, r2)) :
  Calls Tryd.prog 27 #[.agg #[.int .i64 a0_0, .slice A0_1 l0_1.length c0_1, .int .i64 a0_2]] w fun e w' => e = .returned (.tuple #[.string r1, .int .i64 r2]) ∧ Below w.heap.size w w' := by
 unfold group_Put.f at h
 obtain ⟨c, hgc, h1⟩ := Option.bind_eq_some_iff.1 h
 have HGC := Aside0.mk (fun (W : World) (hb : Below w.heap.size w W) => group_Check.calls k a0_0 A0_1 c0_1 l0_1 a0_2 c W (Kd.C_below hr0_1 hb) hc0_1 hgc)
 have H := Aside0.mk h1
 have HR0 := Aside0.mk hr0_1
 have HBA := Aside0.mk (below_alloc (Below.refl w.heap.size w) (.cells #[.int .i64 a0_0, .slice A0_1 l0_1.length c0_1, .int .i64 a0_2] 24))
 have HNA := Aside0.mk (heap_alloc_new w (.cells #[.int .i64 a0_0, .slice A0_1 l0_1.length c0_1, .int .i64 a0_2] 24))
 clear h h1 hgc hr0_1 hc0_1
 by_cases hc : c = 0
 ·subst hc
  have hr := H.out
  rw [if_pos rfl] at hr
  by_cases hg : goodG a0_0 l0_1 a0_2
  ·rw [if_pos hg] at hr
   cases hr
   have HG := Aside0.mk hg
   clear hg H
   go_enter Tryd.func27, Tryd.ntmps27
   go_wp2_with (fail)
   refine (HGC.out _ HBA.out).mono ?_
   rintro e w1 ⟨rfl, hb⟩
   have HB1 := Aside0.mk (below_then HBA.out HBA.out.size hb)
   have HN1 := Aside0.mk (blk_below HNA.out hb)
   clear hb HBA HNA HGC
   go_wp2_with (fail)
   refine (NewOut_calls w.heap.size w1 HB1.out.size).mono ?_
   rintro e w2 ⟨rfl, ho, hb⟩
   have P2 := Aside0.mk (show PAt w w.heap.size w1.heap.size #[.int .i64 a0_0, .slice A0_1 l0_1.length c0_1, .int .i64 a0_2] [] w2 from ⟨below_then HB1.out HB1.out.size hb, blk_below HN1.out hb, ho⟩)
   clear hb ho HB1 HN1
   generalize w1.heap.size = og at P2 ⊢
   obtain ⟨b0, b1, b2⟩ := (show _ ∧ _ ∧ _ from ⟨(blk_cell P2.out.2.1 0).trans rfl, (blk_cell P2.out.2.1 1).trans rfl, (blk_cell P2.out.2.1 2).trans rfl⟩ : w2.cell? ⟨w.heap.size, 0, none⟩ = some (.int .i64 a0_0) ∧ w2.cell? ⟨w.heap.size, 1, none⟩ = some (.slice A0_1 l0_1.length c0_1) ∧ w2.cell? ⟨w.heap.size, 2, none⟩ = some (.int .i64 a0_2))
   go_wp2_with (fail)
   refine (pnum P2.out a0_0 HG.out.2.1 HG.out.2.2.1 (by simp)).mono ?_
   rintro e w3 ⟨rfl, h3, -⟩
   have P3 := Aside0.mk h3
   clear h3 b0 b1 b2
   have b2 : w3.cell? ⟨w.heap.size, 2, none⟩ = some (.int .i64 a0_2) := (blk_cell P3.out.2.1 2).trans rfl
   go_wp2_with (fail)
   refine (pnum P3.out a0_2 HG.out.2.2.2.1 HG.out.2.2.2.2.1 (by rw [List.nil_append, byN_length _ _ (by decide)]; omega)).mono ?_
   rintro e w4 ⟨rfl, h4, -⟩
   have P4 := Aside0.mk (show PAt w w.heap.size og #[.int .i64 a0_0, .slice A0_1 l0_1.length c0_1, .int .i64 a0_2] (byN a0_0 6 ++ byN a0_2 6) w4 by simpa using h4)
   clear h4 b2
   have b1 : w4.cell? ⟨w.heap.size, 1, none⟩ = some (.slice A0_1 l0_1.length c0_1) := (blk_cell P4.out.2.1 1).trans rfl
   obtain ⟨base, hbase⟩ : ∃ B, byN a0_0 6 ++ byN a0_2 6 = B := ⟨_, rfl⟩
   have hbl : base.length = 12 := by rw [← hbase, List.length_append, byN_length _ _ (by decide), byN_length _ _ (by decide)]
   have HBL := Aside0.mk hbl
   have HBASE := Aside0.mk hbase
   rw [hbase] at P4
   clear hbase hbl
   go_wp2_with (fail)
   clear b1
   go_loopg [26] l0_1.length (fun gk i wx => ∃ j : Nat, j ≤ l0_1.length ∧ i = .int .i64 (j : Int) ∧ Aside0 (gk = l0_1.length - j) ∧ Aside0 (PAt w w.heap.size og #[.int .i64 a0_0, .slice A0_1 l0_1.length c0_1, .int .i64 a0_2] (base ++ (l0_1.take j).flatMap memB) wx))
   case atStart => exact ⟨0, Nat.zero_le _, rfl, ⟨rfl⟩, ⟨by simpa using P4.out⟩⟩
   case round =>
    obtain ⟨j, hj, rfl, HGK, HP⟩ := hrel
    by_cases hlt : j < l0_1.length
    ·have q1 : decide (j < l0_1.length) = true := decide_eq_true hlt
     obtain ⟨ad, hA, c0, c1, c2⟩ := at_T46 (Kd.C_below HR0.out HP.out.1) (j : Int) (by omega) (by omega)
     subst hA
     have hx := List.getElem?_eq_getElem hlt
     generalize l0_1[j] = m at hx
     rw [rd_mem l0_1 j m hx] at c0 c1 c2
     rw [Int.toNat_natCast] at c0 c1 c2
     have e5 := eq_true hlt
     have HLT := Aside0.mk hlt
     have HX := Aside0.mk hx
     have w1 : wrap64 ((j : Int) + 1) = ((j + 1 : Nat) : Int) := by have := HG.out.1; unfold wrap64; omega
     clear hlt hx hj
     go_upto_region 11 with (first | ((with_reducible refine gate_dst (N := 8) rfl ?_); (try (refine gate_guard (by rfl) ?_; dsimp only)); refine box_event ?hg (N := 8) ?hd (cs := #[.int .i64 0, .int .i64 0, .bool false]) (t := 46) ?hr ?_; (case hd => rfl); (case hg => rfl); (case hr => first | (go_simp; done) | (go_simp; rfl)); intro g8 hg w5 hbox hb; have Q5 := Aside0.mk (HP.out.below hb); have K5 := Aside0.mk hbox; have L5 := Aside0.mk (show w.heap.size ≤ g8 ∧ w.heap.size ≠ g8 ∧ g8 ≠ og by rw [hg]; exact ⟨HP.out.1.size, Nat.ne_of_lt (blk_lt HP.out.2.1), Nat.ne_of_gt HP.out.2.2.lt⟩); clear hb hbox hg c0 c1 c2; have d0 : w5.cell? ⟨g8, 0, none⟩ = some (.int .i64 0) := (blk_cell K5.out 0).trans rfl; have d1 : w5.cell? ⟨g8, 1, none⟩ = some (.int .i64 0) := (blk_cell K5.out 1).trans rfl; have d2 : w5.cell? ⟨g8, 2, none⟩ = some (.bool false) := (blk_cell K5.out 2).trans rfl; have z0 := blk_frozen K5.out 0; have z1 := blk_frozen K5.out 1; have z2 := blk_frozen K5.out 2))
     (try simp only [Act.put, List.setIfInBounds_toArray, List.set_cons_zero, List.set_cons_succ])
     have K6 := Aside0.mk (blk_put (cs' := #[.int .i64 m.f0, .int .i64 m.f1, .bool m.f2]) (blk_put (cs' := #[.int .i64 m.f0, .int .i64 m.f1, .bool false]) (blk_put (cs' := #[.int .i64 m.f0, .int .i64 0, .bool false]) K5.out 0 (.int .i64 m.f0) rfl) 1 (.int .i64 m.f1) rfl) 2 (.bool m.f2) rfl)
     have P6 : Aside0 (PAt w w.heap.size og #[.int .i64 a0_0, .slice (some ad) l0_1.length c0_1, .int .i64 a0_2] (base ++ (l0_1.take j).flatMap memB) (((w5.setCell ⟨g8, 0, none⟩ (.int .i64 m.f0)).setCell ⟨g8, 1, none⟩ (.int .i64 m.f1)).setCell ⟨g8, 2, none⟩ (.bool m.f2))) := ⟨⟨below_set (below_set (below_set Q5.out.1 L5.out.1) L5.out.1) L5.out.1, blk_far (blk_far (blk_far Q5.out.2.1 L5.out.2.1 _) L5.out.2.1 _) L5.out.2.1 _, ((Q5.out.2.2.far K5.out (by decide) (by decide) 0 _).far (blk_put K5.out 0 _ rfl) (by decide) (by decide) 1 _).far (blk_put (blk_put K5.out 0 _ rfl) 1 _ rfl) (by decide) (by decide) 2 _⟩⟩
     clear Q5 K5 d0 d1 d2 z0 z1 z2
     generalize ((w5.setCell ⟨g8, 0, none⟩ (.int .i64 m.f0)).setCell ⟨g8, 1, none⟩ (.int .i64 m.f1)).setCell ⟨g8, 2, none⟩ (.bool m.f2) = w6 at K6 P6 ⊢
     have d1 : w6.cell? ⟨g8, 1, none⟩ = some (.int .i64 m.f1) := (blk_cell K6.out 1).trans rfl
     have hmr : 0 ≤ m.f1 ∧ m.f1 ≤ 1099511627775 := HG.out.2.2.2.2.2 m (List.mem_of_getElem? HX.out)
     have HMR := Aside0.mk hmr
     have hfl : ((l0_1.take j).flatMap memB).length = 7 * j := by rw [memB_len, List.length_take]; have := HLT.out; omega
     have hl1 : (base ++ (l0_1.take j).flatMap memB).length ≤ 54 := by rw [List.length_append, hfl]; have := HBL.out; have := HLT.out; have := HG.out.1; omega
     have HL1 := Aside0.mk hl1
     clear hmr hfl hl1
     generalize hL : base ++ (l0_1.take j).flatMap memB = L at P6 HL1
     have HLL := Aside0.mk hL
     clear hL
     go_wp2_with (fail)
     refine (pnum P6.out m.f1 HMR.out.1 HMR.out.2 (by have := HL1.out; omega)).mono ?_
     rintro e w7 ⟨rfl, h7, hf7⟩
     have P7 := Aside0.mk h7
     have K7 := Aside0.mk (hf7.blk K6.out (by decide) (by decide))
     clear h7 hf7 K6 P6 d1
     have d2 : w7.cell? ⟨g8, 2, none⟩ = some (.bool m.f2) := (blk_cell K7.out 2).trans rfl
     have HFC := Aside0.mk (flag_calls m.f2)
     have hfr : 0 ≤ flagN m.f2 ∧ flagN m.f2 ≤ 255 := by unfold flagN; split <;> omega
     have HFR := Aside0.mk hfr
     clear hfr
     go_wp2_with (fail)
     refine (HFC.out _).mono ?_
     rintro e w8 ⟨rfl, rfl⟩
     go_wp2_with (fail)
     refine (pbyte P7.out (flagN m.f2) HFR.out.1 HFR.out.2 (by rw [List.length_append, byN_length _ _ (by decide)]; have := HL1.out; omega)).mono ?_
     rintro e w9 ⟨rfl, h9, -⟩
     have P9 := Aside0.mk h9
     clear h9 d2
     go_wp2_with (fail)
     go_roundg (l0_1.length - (j + 1))
     case measure => have := HGK.out; have := HLT.out; omega
     case rel => exact ⟨j + 1, HLT.out, by go_num, ⟨rfl⟩, ⟨by rw [take_memB HX.out, ← List.append_assoc, HLL.out, memB, ← List.append_assoc]; exact P9.out⟩⟩
    ·have q1 : decide (j < l0_1.length) = false := decide_eq_false hlt
     obtain rfl : j = l0_1.length := by omega
     have PF := Aside0.mk (show PAt w w.heap.size og #[.int .i64 a0_0, .slice A0_1 l0_1.length c0_1, .int .i64 a0_2] (grpL a0_0 l0_1 a0_2) wr by have := HP.out; rwa [List.take_length, ← HBASE.out] at this)
     clear hlt hj HP
     have HD := Aside0.mk (Out_Done w.heap.size og _ wr PF.out.2.2)
     go_wp2_with (fail)
     refine HD.out.mono ?_
     rintro e w9 ⟨rfl, rfl⟩
     go_wp2_with (fail)
     first | go_ret | go_ret2
     exact ⟨rfl, PF.out.1⟩
  ·rw [if_neg hg] at hr
   cases hr
 ·have hr := H.out
  rw [if_neg hc] at hr
  cases hr
  have dn : (r2 != 0) = true := bne_iff_ne.2 hc
  clear hc H
  go_enter Tryd.func27, Tryd.ntmps27
  go_wp2_with (fail)
  refine (HGC.out _ HBA.out).mono ?_
  rintro e w1 ⟨rfl, hb⟩
  have HB1 := Aside0.mk (below_then HBA.out HBA.out.size hb)
  clear hb HBA HNA HGC
  go_wp2_with (fail)
  first | go_ret | go_ret2
  exact ⟨rfl, HB1.out⟩
end Go.Proofs.YthemhfloablccaaDoor.Pr
end

section
namespace Go.Proofs.YthemhfloablccaaDoor.Pr
open Go.RowKit Go.Proofs.YthemhfloablccaaDoorW.PrintWords Go.Proofs.YthemhfloablccaaDoorW.PrintLast Go.Proofs.YthemhfloablccaaDoorW.PrintMore
attribute [local go_sem] max2_int min2_int max_two min_two max_three min_three max_four min_four
def group_Take.l0 : Nat → Bool → Int → Bool → ByteArray → Int → Int → List (S46) → Int → Option (Int × (List (S46)) × Int × Int)
 | 0, _, _, _, _, _, _, _, _ => none
 | k + 1, x6, x17, x166000, x166001, x166002, x175000, x175001, x175002 => if x17 < 6 then ((code_In_Num.f k x166000 x166001 x166002).bind fun bt175 => ((code_In_Byte.f k bt175.2.1 bt175.2.2.1 bt175.2.2.2).bind fun bt180 => (if x6 = true then (if x175001.length < 5864062014805 then (group_Take.l0 k (decide (bt180.1 ≤ 1)) (wrap64 (x17 + 1)) bt180.2.1 bt180.2.2.1 bt180.2.2.2 x175000 (x175001 ++ [(⟨wrap64 (x17 + 1), bt175.1, (bt180.1 == 1)⟩ : S46)]) x175002) else (none)) else (if x175001.length < 5864062014805 then (group_Take.l0 k false (wrap64 (x17 + 1)) bt180.2.1 bt180.2.2.1 bt180.2.2.2 x175000 (x175001 ++ [(⟨wrap64 (x17 + 1), bt175.1, (bt180.1 == 1)⟩ : S46)]) x175002) else (none))))) else (if x6 = true then ((code_In_Done.f x166000 x166001 x166002).bind fun bt190 => (if bt190.1 = 0 then ((group_Check.f k x175000 x175001 x175002).bind fun t194 => (if t194 = 0 then (some (x175000, x175001, x175002, 0)) else (some (0, ([] : List (S46)), 0, 91)))) else (some (0, ([] : List (S46)), 0, 91)))) else (some (0, ([] : List (S46)), 0, 91)))
def group_Take.f (k : Nat) (a0 : ByteArray) : Option (Int × (List (S46)) × Int × Int) := (code_NewIn.f a0).bind fun bt162 => ((code_In_Num.f k bt162.1 bt162.2.1 bt162.2.2).bind fun bt166 => ((code_In_Num.f k bt166.2.1 bt166.2.2.1 bt166.2.2.2).bind fun bt170 => (group_Take.l0 k true 0 bt170.2.1 bt170.2.2.1 bt170.2.2.2 bt166.1 ([] : List (S46)) bt170.1)))
set_option maxHeartbeats 8000000 in
set_option maxRecDepth 100000 in
theorem group_Take.calls (k : Nat) (a0 : ByteArray) (r1 : Int) (r2 : List (S46)) (r3 : Int) (r4 : Int) (w : World) (h : group_Take.f k a0 = some (r1, r2, r3, r4)) :
    Calls Tryd.prog 29 #[.string a0] w fun e w' => ∃ v1_ : Value, e = .returned (.tuple #[.agg #[.int .i64 r1, v1_, .int .i64 r3], .int .i64 r4]) ∧ Kd.R k46 46 w' w.heap.size (fun _ => True) v1_ r2 ∧ Below w.heap.size w w' := by
  have hu24 := Tryd.underlying24; have hu46 := Tryd.underlying46; have HB := Aside0.mk (Below.refl w.heap.size w); have H : ((code_NewIn.f a0).bind fun bt162 => ((code_In_Num.f k bt162.1 bt162.2.1 bt162.2.2).bind fun bt166 => ((code_In_Num.f k bt166.2.1 bt166.2.2.1 bt166.2.2.2).bind fun bt170 => (group_Take.l0 k true 0 bt170.2.1 bt170.2.2.1 bt170.2.2.2 bt166.1 ([] : List (S46)) bt170.1)))) = some (r1, r2, r3, r4) := h; clear h; replace H := Option.bind_eq_some_iff.mp H; obtain ⟨⟨t162, t163, t164⟩, A20, H⟩ := H; try dsimp only at H
  have A2 := Aside0.mk A20; clear A20; replace H := Option.bind_eq_some_iff.mp H; obtain ⟨⟨t166, t167, t168, t169⟩, A30, H⟩ := H; try dsimp only at H
  have A3 := Aside0.mk A30; clear A30; replace H := Option.bind_eq_some_iff.mp H; obtain ⟨⟨t170, t171, t172, t173⟩, A40, H⟩ := H; try dsimp only at H
  have A4 := Aside0.mk A40; clear A40; have H' := Aside0.mk H; clear H; go_enter Tryd.func29, Tryd.ntmps29
  go_wp2_with (first | ((with_reducible refine gate_dst (N := 2) rfl ?_); refine box_event ?hg (N := 2) ?hd (cs := #[.int .i64 0, .slice none 0 0, .int .i64 0]) (t := 24) ?hr ?_; (case hd => rfl); (case hg => rfl); (case hr => first | (go_simp; done) | (go_simp; rfl)); intro gb161 hg w5 hbox hb; have n0_ := Aside0.mk (below_step hb_ hb); have n1_ := Aside0.mk (hbox); have n2_ := Aside0.mk ((by rw [hg]; exact (below_size hb_) : w.heap.size ≤ gb161)); have n3_ := Aside0.mk ((by rw [hg]; exact (below_size hb_) : w.heap.size ≤ gb161)); clear HB; have HB := n0_; have BK161 := n1_; have GW161 := n2_; have GE161 := n3_; clear n0_ n1_ n2_ n3_; clear hb hbox hg) | ((with_reducible refine gate_callee (f := 63) rfl ?_); refine gl_ 11 Tryd.func63 #[.string a0] ?_; (with_reducible refine (code_NewIn.calls a0 t162 t163 t164 w _ ?side1 A2.out).mono ?_); (case side1 => repeat (first | (with_reducible first | exact HB.out | apply below_alloc | apply pw_below_drewN | apply below_drew1 | refine below_set ?_ GE161.out) | exact HB.out)); rintro e w6 ⟨g165, rfl, hi, hb, hb2⟩; refine ⟨_, rfl, ?_⟩; have n0_ := Aside0.mk (blk_below (g := gb161) (o := .cells #[.int .i64 0, .slice none 0 0, .int .i64 0] 24 (0, 0)) (by (with_reducible repeat (first | refine blk_drewN ?_ _ | refine blk_drew ?_ | refine blk_alloc ?_ _)); exact BK161.out) hb2); have n1_ := Aside0.mk (hb); have n2_ := Aside0.mk (hi); have n3_ := Aside0.mk (IsS128.ne_blk hi (blk_below (g := gb161) (o := .cells #[.int .i64 0, .slice none 0 0, .int .i64 0] 24 (0, 0)) (by (with_reducible repeat (first | refine blk_drewN ?_ _ | refine blk_drew ?_ | refine blk_alloc ?_ _)); exact BK161.out) hb2) (by decide)); have n4_ := Aside0.mk (Ne.symm (IsS128.ne_blk hi (blk_below (g := gb161) (o := .cells #[.int .i64 0, .slice none 0 0, .int .i64 0] 24 (0, 0)) (by (with_reducible repeat (first | refine blk_drewN ?_ _ | refine blk_drew ?_ | refine blk_alloc ?_ _)); exact BK161.out) hb2) (by decide))); clear BK161; clear HB; have BK161 := n0_; have HB := n1_; have HI165 := n2_; have NB165_161 := n3_; have NB161_165 := n4_; clear n0_ n1_ n2_ n3_ n4_) | ((with_reducible refine gate_callee (f := 64) rfl ?_); refine gl_ 13 Tryd.func64 #[.pointer (some ⟨g165, 0, none⟩)] ?_; (with_reducible refine (code_In_Num.calls k g165 t162 t163 t164 t166 t167 t168 t169 w _ ?side1 ?side2 A3.out).mono ?_); (case side1 => repeat (first | (with_reducible first | exact HI165.out | apply IsS128.alloc | apply IsS128.drewN | apply IsS128.drew | apply IsS128.set_0 | apply IsS128.set_1 | apply IsS128.set_2 | refine IsS128.far ?_ NB165_161.out _) | exact HI165.out)); (case side2 => repeat (first | (with_reducible first | exact HB.out | apply below_alloc | apply pw_below_drewN | apply below_drew1 | refine below_set ?_ (IsS128.ge HI165.out) | refine below_set ?_ GE161.out) | exact HB.out)); rintro e w7 ⟨rfl, hi, hb, hk⟩; refine ⟨_, rfl, ?_⟩; have n0_ := Aside0.mk (KeepBut.blk hk (g' := gb161) (o := .cells #[.int .i64 0, .slice none 0 0, .int .i64 0] 24 (0, 0)) (by (with_reducible repeat (first | refine blk_drewN ?_ _ | refine blk_drew ?_ | refine blk_alloc ?_ _)); exact BK161.out) NB161_165.out (by simp)); have n1_ := Aside0.mk (hb); have n2_ := Aside0.mk (hi); clear BK161; clear HB; clear HI165; have BK161 := n0_; have HB := n1_; have HI165 := n2_; clear n0_ n1_ n2_) | ((with_reducible refine gate_callee (f := 64) rfl ?_); refine gl_ 15 Tryd.func64 #[.pointer (some ⟨g165, 0, none⟩)] ?_; (with_reducible refine (code_In_Num.calls k g165 t167 t168 t169 t170 t171 t172 t173 w _ ?side1 ?side2 A4.out).mono ?_); (case side1 => repeat (first | (with_reducible first | exact HI165.out | apply IsS128.alloc | apply IsS128.drewN | apply IsS128.drew | apply IsS128.set_0 | apply IsS128.set_1 | apply IsS128.set_2 | refine IsS128.far ?_ NB165_161.out _) | exact HI165.out)); (case side2 => repeat (first | (with_reducible first | exact HB.out | apply below_alloc | apply pw_below_drewN | apply below_drew1 | refine below_set ?_ (IsS128.ge HI165.out) | refine below_set ?_ GE161.out) | exact HB.out)); rintro e w8 ⟨rfl, hi, hb, hk⟩; refine ⟨_, rfl, ?_⟩; have n0_ := Aside0.mk (KeepBut.blk hk (g' := gb161) (o := .cells #[.int .i64 0, .slice none 0 0, .int .i64 0] 24 (0, 0)) (by (with_reducible repeat (first | refine blk_drewN ?_ _ | refine blk_drew ?_ | refine blk_alloc ?_ _)); exact BK161.out) NB161_165.out (by simp)); have n1_ := Aside0.mk (hb); have n2_ := Aside0.mk (hi); clear BK161; clear HB; clear HI165; have BK161 := n0_; have HB := n1_; have HI165 := n2_; clear n0_ n1_ n2_) | ((with_reducible refine gate_dst (N := 5) rfl ?_); refine box_event ?hg (N := 5) ?hd (cs := #[.int .i64 0, .slice none 0 0, .int .i64 0]) (t := 24) ?hr ?_; (case hd => rfl); (case hg => rfl); (case hr => first | (go_simp; done) | (go_simp; rfl)); intro gb174 hg w9 hbox hb; have n0_ := Aside0.mk (blk_below (g := gb161) (o := .cells #[.int .i64 0, .slice none 0 0, .int .i64 0] 24 (0, 0)) (by (with_reducible repeat (first | refine blk_drewN ?_ _ | refine blk_drew ?_ | refine blk_alloc ?_ _)); exact BK161.out) hb); have n1_ := Aside0.mk (IsS128.below (by repeat (first | (with_reducible first | exact HI165.out | apply IsS128.alloc | apply IsS128.drewN | apply IsS128.drew | apply IsS128.set_0 | apply IsS128.set_1 | apply IsS128.set_2 | refine IsS128.far ?_ NB165_161.out _) | exact HI165.out)) hb); have n2_ := Aside0.mk (below_step (by repeat (first | (with_reducible first | exact HB.out | apply below_alloc | apply pw_below_drewN | apply below_drew1 | refine below_set ?_ (IsS128.ge HI165.out) | refine below_set ?_ GE161.out) | exact HB.out)) hb); have n3_ := Aside0.mk (hbox); have n4_ := Aside0.mk ((by rw [hg]; exact (below_size (by repeat (first | (with_reducible first | exact HB.out | apply below_alloc | apply pw_below_drewN | apply below_drew1 | refine below_set ?_ (IsS128.ge HI165.out) | refine below_set ?_ GE161.out) | exact HB.out))) : w.heap.size ≤ gb174)); have n5_ := Aside0.mk ((by rw [hg]; exact (below_size (by repeat (first | (with_reducible first | exact HB.out | apply below_alloc | apply pw_below_drewN | apply below_drew1 | refine below_set ?_ (IsS128.ge HI165.out) | refine below_set ?_ GE161.out) | exact HB.out))) : w.heap.size ≤ gb174)); have n6_ := Aside0.mk ((by rw [hg]; exact Nat.ne_of_lt (blk_lt (g := gb161) (o := .cells #[.int .i64 0, .slice none 0 0, .int .i64 0] 24 (0, 0)) (by (with_reducible repeat (first | refine blk_drewN ?_ _ | refine blk_drew ?_ | refine blk_alloc ?_ _)); exact BK161.out)) : gb161 ≠ gb174)); have n7_ := Aside0.mk ((by rw [hg]; exact Nat.ne_of_gt (blk_lt (g := gb161) (o := .cells #[.int .i64 0, .slice none 0 0, .int .i64 0] 24 (0, 0)) (by (with_reducible repeat (first | refine blk_drewN ?_ _ | refine blk_drew ?_ | refine blk_alloc ?_ _)); exact BK161.out)) : gb174 ≠ gb161)); have n8_ := Aside0.mk ((by rw [hg]; exact Nat.ne_of_lt (IsS128.lt (show IsS128 w _ g165 t171 t172 t173 from by repeat (first | (with_reducible first | exact HI165.out | apply IsS128.alloc | apply IsS128.drewN | apply IsS128.drew | apply IsS128.set_0 | apply IsS128.set_1 | apply IsS128.set_2 | refine IsS128.far ?_ NB165_161.out _) | exact HI165.out))) : g165 ≠ gb174)); have n9_ := Aside0.mk ((by rw [hg]; exact Nat.ne_of_gt (IsS128.lt (show IsS128 w _ g165 t171 t172 t173 from by repeat (first | (with_reducible first | exact HI165.out | apply IsS128.alloc | apply IsS128.drewN | apply IsS128.drew | apply IsS128.set_0 | apply IsS128.set_1 | apply IsS128.set_2 | refine IsS128.far ?_ NB165_161.out _) | exact HI165.out))) : gb174 ≠ g165)); clear BK161; clear HI165; clear HB; have BK161 := n0_; have HI165 := n1_; have HB := n2_; have BK174 := n3_; have GW174 := n4_; have GE174 := n5_; have NB161_174 := n6_; have NB174_161 := n7_; have NB165_174 := n8_; have NB174_165 := n9_; clear n0_ n1_ n2_ n3_ n4_ n5_ n6_ n7_ n8_ n9_; clear hb hbox hg; have hnb10 := NB174_161.out; have hnc10 := NB161_174.out; have hnb11 := NB174_165.out; have hnc11 := NB165_174.out; have hcz12_0 : w9.cell? ⟨gb174, 0, none⟩ = some (.int .i64 0) := (blk_cell BK174.out 0).trans rfl; have hcz12_1 : w9.cell? ⟨gb174, 1, none⟩ = some (.slice none 0 0) := (blk_cell BK174.out 1).trans rfl; have hcz12_2 : w9.cell? ⟨gb174, 2, none⟩ = some (.int .i64 0) := (blk_cell BK174.out 2).trans rfl; have hfz12_0 := blk_frozen BK174.out 0; have hfz12_1 := blk_frozen BK174.out 1; have hfz12_2 := blk_frozen BK174.out 2))
  go_loopg [6, 17] k (fun kq v6 v17 w' => ∃ (x6_1 : Bool) (x17_1 : Int) (x166000_1 : Bool) (x166001_1 : ByteArray) (x166002_1 : Int) (x175001_1 : List (S46)) (u175001 : Value), v6 = .bool x6_1 ∧ v17 = .int .i64 x17_1 ∧ Aside0 (group_Take.l0 kq x6_1 x17_1 x166000_1 x166001_1 x166002_1 t166 x175001_1 t170 = some (r1, r2, r3, r4)) ∧ Aside0 (kq ≤ k) ∧ Aside0 (Kd.R k46 46 w' w.heap.size (fun _ => True) u175001 x175001_1) ∧ Aside0 (w'.heap[gb161]? = some (.cells #[.int .i64 0, (.slice none 0 0), .int .i64 0] 24 (0, 0))) ∧ Aside0 (w'.heap[gb174]? = some (.cells #[.int .i64 t166, u175001, .int .i64 t170] 24 (0, 0))) ∧ Aside0 (IsS128 w w' g165 x166000_1 x166001_1 x166002_1) ∧ Aside0 (Below w.heap.size w w'))
  case atStart => exact ⟨(true), (0), (t171), (t172), (t173), (([] : List (S46))), (.slice none 0 0), rz_, rz_, H', ⟨Nat.le_refl _⟩, ⟨by first | exact Kd.R_nil _ _ _ _ _ | exact Kd.N_nil _ _ _ _ _ | exact Kd.V_nil _ _ _ _ _ | exact Kd.Q_nil _ _ _ _ _ | exact Kd.S_nil _ _ _ _ _⟩, ⟨by (with_reducible repeat (first | refine blk_drewN ?_ _ | refine blk_drew ?_ | refine blk_alloc ?_ _)); refine blk_far ?_ NB161_174.out _; (with_reducible repeat (first | refine blk_drewN ?_ _ | refine blk_drew ?_ | refine blk_alloc ?_ _)); refine blk_far ?_ NB161_174.out _; (with_reducible repeat (first | refine blk_drewN ?_ _ | refine blk_drew ?_ | refine blk_alloc ?_ _)); refine blk_far ?_ NB161_174.out _; (with_reducible repeat (first | refine blk_drewN ?_ _ | refine blk_drew ?_ | refine blk_alloc ?_ _)); exact BK161.out⟩, ⟨by (with_reducible repeat (first | refine blk_drewN ?_ _ | refine blk_drew ?_ | refine blk_alloc ?_ _)); refine blk_put (cs := #[.int .i64 t166, .slice none 0 0, .int .i64 0]) ?_ 2 _ rfl; (with_reducible repeat (first | refine blk_drewN ?_ _ | refine blk_drew ?_ | refine blk_alloc ?_ _)); refine blk_put (cs := #[.int .i64 t166, .slice none 0 0, .int .i64 0]) ?_ 1 _ rfl; (with_reducible repeat (first | refine blk_drewN ?_ _ | refine blk_drew ?_ | refine blk_alloc ?_ _)); refine blk_put (cs := #[.int .i64 0, .slice none 0 0, .int .i64 0]) ?_ 0 _ rfl; (with_reducible repeat (first | refine blk_drewN ?_ _ | refine blk_drew ?_ | refine blk_alloc ?_ _)); exact BK174.out⟩, ⟨by repeat (first | (with_reducible first | exact HI165.out | apply IsS128.alloc | apply IsS128.drewN | apply IsS128.drew | apply IsS128.set_0 | apply IsS128.set_1 | apply IsS128.set_2 | refine IsS128.far ?_ NB165_161.out _ | refine IsS128.far ?_ NB165_174.out _) | exact HI165.out)⟩, ⟨by repeat (first | (with_reducible first | exact HB.out | apply below_alloc | apply pw_below_drewN | apply below_drew1 | refine below_set ?_ (IsS128.ge HI165.out) | refine below_set ?_ GE161.out | refine below_set ?_ GE174.out) | exact HB.out)⟩⟩
  case round =>
    clear H'; obtain ⟨x6_1, x17_1, x166000_1, x166001_1, x166002_1, x175001_1, u175001, rfl, rfl, HA, HK1, HO_175001, BK161, BK174, HI165, HB⟩ := hrel; cases gk with
    | zero => exact absurd HA.out (by simp [group_Take.l0])
    | succ k1 =>
      have H := HA.out; clear HA; simp only [group_Take.l0] at H; by_cases c13 : x17_1 < 6
      · rw [if_pos c13] at H; have c13b0 : decide (x17_1 < 6) = true := decide_eq_true c13; clear c13; replace H := Option.bind_eq_some_iff.mp H; obtain ⟨⟨t175, t176, t177, t178⟩, A140, H⟩ := H; try dsimp only at H
        have A14 := Aside0.mk A140; clear A140; replace H := Option.bind_eq_some_iff.mp H; obtain ⟨⟨t180, t181, t182, t183⟩, A150, H⟩ := H; try dsimp only at H
        have A15 := Aside0.mk A150; clear A150; by_cases c16 : x6_1 = true
        · subst c16; have H1 : (if x175001_1.length < 5864062014805 then (group_Take.l0 k1 (decide (t180 ≤ 1)) (wrap64 (x17_1 + 1)) t181 t182 t183 t166 (x175001_1 ++ [(⟨wrap64 (x17_1 + 1), t175, (t180 == 1)⟩ : S46)]) t170) else (none)) = some (r1, r2, r3, r4) := by rw [if_pos rfl] at H; exact H
          clear H; have H := H1; clear H1; by_cases c17 : x175001_1.length < 5864062014805
          · rw [if_pos c17] at H; have LMc17 := Aside0.mk c17; clear c17; obtain ⟨y184, hy184⟩ : ∃ y_ : List (S46), y_ = (x175001_1 ++ [(⟨wrap64 (x17_1 + 1), t175, (t180 == 1)⟩ : S46)]) := ⟨_, rfl⟩; replace H : (group_Take.l0 k1 (decide (t180 ≤ 1)) (wrap64 (x17_1 + 1)) t181 t182 t183 t166 y184 t170) = some (r1, r2, r3, r4) := by first | (rw [hy184]; with_reducible exact H) | (have H2_ := (Option.bind_some _ _).symm.trans H; rw [hy184]; with_reducible exact H2_) | (have H2_ := (Option.bind_some _ _).symm.trans H; with_reducible exact H2_) | with_reducible exact H | (rw [hy184]; exact H) | exact H
            have Ny184 := Aside0.mk hy184; clear hy184; have H' := Aside0.mk H; clear H; go_wp2_with (first | ((with_reducible refine gate_callee (f := 64) rfl ?_); refine gl_ 23 Tryd.func64 #[.pointer (some ⟨g165, 0, none⟩)] ?_; (with_reducible refine (code_In_Num.calls k1 g165 x166000_1 x166001_1 x166002_1 t175 t176 t177 t178 w _ ?side1 ?side2 A14.out).mono ?_); (case side1 => repeat (first | (with_reducible first | exact HI165.out | apply IsS128.alloc | apply IsS128.drewN | apply IsS128.drew | apply IsS128.set_0 | apply IsS128.set_1 | apply IsS128.set_2 | refine IsS128.far ?_ NB165_161.out _ | refine IsS128.far ?_ NB165_174.out _) | exact HI165.out)); (case side2 => repeat (first | (with_reducible first | exact HB.out | apply below_alloc | apply pw_below_drewN | apply below_drew1 | refine below_set ?_ (IsS128.ge HI165.out) | refine below_set ?_ GE161.out | refine below_set ?_ GE174.out) | exact HB.out)); rintro e w18 ⟨rfl, hi, hb, hk⟩; refine ⟨_, rfl, ?_⟩; have n0_ := Aside0.mk (Kd.R_mono (Kd.R_keep (IsS128.apart (show IsS128 w _ g165 x166000_1 x166001_1 x166002_1 from by repeat (first | (with_reducible first | exact HI165.out | apply IsS128.alloc | apply IsS128.drewN | apply IsS128.drew | apply IsS128.set_0 | apply IsS128.set_1 | apply IsS128.set_2 | refine IsS128.far ?_ NB165_161.out _ | refine IsS128.far ?_ NB165_174.out _) | exact HI165.out)) (ra_ HO_175001.out) (by decide)) hk (fun _ h => h.2)) (fun _ h => h.1)); have n1_ := Aside0.mk (KeepBut.blk hk (g' := gb161) (o := .cells #[.int .i64 0, .slice none 0 0, .int .i64 0] 24 (0, 0)) (by (with_reducible repeat (first | refine blk_drewN ?_ _ | refine blk_drew ?_ | refine blk_alloc ?_ _)); exact BK161.out) NB161_165.out (by simp)); have n2_ := Aside0.mk (KeepBut.blk hk (g' := gb174) (o := .cells #[.int .i64 t166, u175001, .int .i64 t170] 24 (0, 0)) (by (with_reducible repeat (first | refine blk_drewN ?_ _ | refine blk_drew ?_ | refine blk_alloc ?_ _)); exact BK174.out) NB174_165.out (by simp)); have n3_ := Aside0.mk (hb); have n4_ := Aside0.mk (hi); clear HO_175001; clear BK161; clear BK174; clear HB; clear HI165; have HO_175001 := n0_; have BK161 := n1_; have BK174 := n2_; have HB := n3_; have HI165 := n4_; clear n0_ n1_ n2_ n3_ n4_) | ((with_reducible refine gate_dst (N := 8) rfl ?_); refine box_event ?hg (N := 8) ?hd (cs := #[.int .i64 0, .int .i64 0, .bool false]) (t := 46) ?hr ?_; (case hd => rfl); (case hg => rfl); (case hr => first | (go_simp; done) | (go_simp; rfl)); intro gb179 hg w19 hbox hb; have n0_ := Aside0.mk (Kd.R_below (Kd.R_elderB (ra_ HO_175001.out) gb179 (Nat.le_of_eq hg.symm)) hb); have n1_ := Aside0.mk (blk_below (g := gb161) (o := .cells #[.int .i64 0, .slice none 0 0, .int .i64 0] 24 (0, 0)) (by (with_reducible repeat (first | refine blk_drewN ?_ _ | refine blk_drew ?_ | refine blk_alloc ?_ _)); exact BK161.out) hb); have n2_ := Aside0.mk (blk_below (g := gb174) (o := .cells #[.int .i64 t166, u175001, .int .i64 t170] 24 (0, 0)) (by (with_reducible repeat (first | refine blk_drewN ?_ _ | refine blk_drew ?_ | refine blk_alloc ?_ _)); exact BK174.out) hb); have n3_ := Aside0.mk (IsS128.below (by repeat (first | (with_reducible first | exact HI165.out | apply IsS128.alloc | apply IsS128.drewN | apply IsS128.drew | apply IsS128.set_0 | apply IsS128.set_1 | apply IsS128.set_2 | refine IsS128.far ?_ NB165_161.out _ | refine IsS128.far ?_ NB165_174.out _) | exact HI165.out)) hb); have n4_ := Aside0.mk (below_step (by repeat (first | (with_reducible first | exact HB.out | apply below_alloc | apply pw_below_drewN | apply below_drew1 | refine below_set ?_ (IsS128.ge HI165.out) | refine below_set ?_ GE161.out | refine below_set ?_ GE174.out) | exact HB.out)) hb); have n5_ := Aside0.mk (hbox); have n6_ := Aside0.mk ((by rw [hg]; exact (below_size (by repeat (first | (with_reducible first | exact HB.out | apply below_alloc | apply pw_below_drewN | apply below_drew1 | refine below_set ?_ (IsS128.ge HI165.out) | refine below_set ?_ GE161.out | refine below_set ?_ GE174.out) | exact HB.out))) : w.heap.size ≤ gb179)); have n7_ := Aside0.mk ((by rw [hg]; exact (below_size (by repeat (first | (with_reducible first | exact HB.out | apply below_alloc | apply pw_below_drewN | apply below_drew1 | refine below_set ?_ (IsS128.ge HI165.out) | refine below_set ?_ GE161.out | refine below_set ?_ GE174.out) | exact HB.out))) : w.heap.size ≤ gb179)); have n8_ := Aside0.mk ((by rw [hg]; exact Nat.ne_of_lt (blk_lt (g := gb161) (o := .cells #[.int .i64 0, .slice none 0 0, .int .i64 0] 24 (0, 0)) (by (with_reducible repeat (first | refine blk_drewN ?_ _ | refine blk_drew ?_ | refine blk_alloc ?_ _)); exact BK161.out)) : gb161 ≠ gb179)); have n9_ := Aside0.mk ((by rw [hg]; exact Nat.ne_of_gt (blk_lt (g := gb161) (o := .cells #[.int .i64 0, .slice none 0 0, .int .i64 0] 24 (0, 0)) (by (with_reducible repeat (first | refine blk_drewN ?_ _ | refine blk_drew ?_ | refine blk_alloc ?_ _)); exact BK161.out)) : gb179 ≠ gb161)); have n10_ := Aside0.mk ((by rw [hg]; exact Nat.ne_of_lt (blk_lt (g := gb174) (o := .cells #[.int .i64 t166, u175001, .int .i64 t170] 24 (0, 0)) (by (with_reducible repeat (first | refine blk_drewN ?_ _ | refine blk_drew ?_ | refine blk_alloc ?_ _)); exact BK174.out)) : gb174 ≠ gb179)); have n11_ := Aside0.mk ((by rw [hg]; exact Nat.ne_of_gt (blk_lt (g := gb174) (o := .cells #[.int .i64 t166, u175001, .int .i64 t170] 24 (0, 0)) (by (with_reducible repeat (first | refine blk_drewN ?_ _ | refine blk_drew ?_ | refine blk_alloc ?_ _)); exact BK174.out)) : gb179 ≠ gb174)); have n12_ := Aside0.mk ((by rw [hg]; exact Nat.ne_of_lt (IsS128.lt (show IsS128 w _ g165 t176 t177 t178 from by repeat (first | (with_reducible first | exact HI165.out | apply IsS128.alloc | apply IsS128.drewN | apply IsS128.drew | apply IsS128.set_0 | apply IsS128.set_1 | apply IsS128.set_2 | refine IsS128.far ?_ NB165_161.out _ | refine IsS128.far ?_ NB165_174.out _) | exact HI165.out))) : g165 ≠ gb179)); have n13_ := Aside0.mk ((by rw [hg]; exact Nat.ne_of_gt (IsS128.lt (show IsS128 w _ g165 t176 t177 t178 from by repeat (first | (with_reducible first | exact HI165.out | apply IsS128.alloc | apply IsS128.drewN | apply IsS128.drew | apply IsS128.set_0 | apply IsS128.set_1 | apply IsS128.set_2 | refine IsS128.far ?_ NB165_161.out _ | refine IsS128.far ?_ NB165_174.out _) | exact HI165.out))) : gb179 ≠ g165)); clear HO_175001; clear BK161; clear BK174; clear HI165; clear HB; have HO_175001 := n0_; have BK161 := n1_; have BK174 := n2_; have HI165 := n3_; have HB := n4_; have BK179 := n5_; have GW179 := n6_; have GE179 := n7_; have NB161_179 := n8_; have NB179_161 := n9_; have NB174_179 := n10_; have NB179_174 := n11_; have NB165_179 := n12_; have NB179_165 := n13_; clear n0_ n1_ n2_ n3_ n4_ n5_ n6_ n7_ n8_ n9_ n10_ n11_ n12_ n13_; clear hb hbox hg; have hnb20 := NB179_161.out; have hnc20 := NB161_179.out; have hnb21 := NB179_174.out; have hnc21 := NB174_179.out; have hnb22 := NB179_165.out; have hnc22 := NB165_179.out; have hcz23_0 : w19.cell? ⟨gb179, 0, none⟩ = some (.int .i64 0) := (blk_cell BK179.out 0).trans rfl; have hcz23_1 : w19.cell? ⟨gb179, 1, none⟩ = some (.int .i64 0) := (blk_cell BK179.out 1).trans rfl; have hcz23_2 : w19.cell? ⟨gb179, 2, none⟩ = some (.bool false) := (blk_cell BK179.out 2).trans rfl; have hfz23_0 := blk_frozen BK179.out 0; have hfz23_1 := blk_frozen BK179.out 1; have hfz23_2 := blk_frozen BK179.out 2) | ((with_reducible refine gate_callee (f := 65) rfl ?_); refine gl_ 26 Tryd.func65 #[.pointer (some ⟨g165, 0, none⟩)] ?_; (with_reducible refine (code_In_Byte.calls k1 g165 t176 t177 t178 t180 t181 t182 t183 w _ ?side1 ?side2 A15.out).mono ?_); (case side1 => repeat (first | (with_reducible first | exact HI165.out | apply IsS128.alloc | apply IsS128.drewN | apply IsS128.drew | apply IsS128.set_0 | apply IsS128.set_1 | apply IsS128.set_2 | refine IsS128.far ?_ NB165_161.out _ | refine IsS128.far ?_ NB165_174.out _ | refine IsS128.far ?_ NB165_179.out _) | exact HI165.out)); (case side2 => repeat (first | (with_reducible first | exact HB.out | apply below_alloc | apply pw_below_drewN | apply below_drew1 | refine below_set ?_ (IsS128.ge HI165.out) | refine below_set ?_ GE161.out | refine below_set ?_ GE174.out | refine below_set ?_ GE179.out) | exact HB.out)); rintro e w24 ⟨rfl, hi, hb, hk⟩; refine ⟨_, rfl, ?_⟩; have n0_ := Aside0.mk (Kd.R_mono (Kd.R_keep (IsS128.apart (show IsS128 w _ g165 t176 t177 t178 from by repeat (first | (with_reducible first | exact HI165.out | apply IsS128.alloc | apply IsS128.drewN | apply IsS128.drew | apply IsS128.set_0 | apply IsS128.set_1 | apply IsS128.set_2 | refine IsS128.far ?_ NB165_161.out _ | refine IsS128.far ?_ NB165_174.out _ | refine IsS128.far ?_ NB165_179.out _) | exact HI165.out)) (by (with_reducible repeat (first | apply Kd.R_alloc | apply Kd.R_drewN | apply Kd.R_drew)); exact (Kd.R_mono (Kd.R_far (p := ⟨gb179, 2, none⟩) (Kd.R_far (p := ⟨gb179, 1, none⟩) (Kd.R_far (p := ⟨gb179, 0, none⟩) (Kd.R_mono HO_175001.out (fun k_ hk => (⟨hk, hk.2⟩ : _ ∧ k_ ≠ gb179))) (fun _ hk => hk.2) (.int .i64 (wrap64 (x17_1 + 1)))) (fun _ hk => hk.2) (.int .i64 t175)) (fun _ hk => hk.2) (.bool false)) (fun _ h_ => h_.1))) (by decide)) hk (fun _ h => h.2)) (fun _ h => h.1)); have n1_ := Aside0.mk (KeepBut.blk hk (g' := gb161) (o := .cells #[.int .i64 0, .slice none 0 0, .int .i64 0] 24 (0, 0)) (by (with_reducible repeat (first | refine blk_drewN ?_ _ | refine blk_drew ?_ | refine blk_alloc ?_ _)); refine blk_far ?_ NB161_179.out _; (with_reducible repeat (first | refine blk_drewN ?_ _ | refine blk_drew ?_ | refine blk_alloc ?_ _)); refine blk_far ?_ NB161_179.out _; (with_reducible repeat (first | refine blk_drewN ?_ _ | refine blk_drew ?_ | refine blk_alloc ?_ _)); refine blk_far ?_ NB161_179.out _; (with_reducible repeat (first | refine blk_drewN ?_ _ | refine blk_drew ?_ | refine blk_alloc ?_ _)); exact BK161.out) NB161_165.out (by simp)); have n2_ := Aside0.mk (KeepBut.blk hk (g' := gb174) (o := .cells #[.int .i64 t166, u175001, .int .i64 t170] 24 (0, 0)) (by (with_reducible repeat (first | refine blk_drewN ?_ _ | refine blk_drew ?_ | refine blk_alloc ?_ _)); refine blk_far ?_ NB174_179.out _; (with_reducible repeat (first | refine blk_drewN ?_ _ | refine blk_drew ?_ | refine blk_alloc ?_ _)); refine blk_far ?_ NB174_179.out _; (with_reducible repeat (first | refine blk_drewN ?_ _ | refine blk_drew ?_ | refine blk_alloc ?_ _)); refine blk_far ?_ NB174_179.out _; (with_reducible repeat (first | refine blk_drewN ?_ _ | refine blk_drew ?_ | refine blk_alloc ?_ _)); exact BK174.out) NB174_165.out (by simp)); have n3_ := Aside0.mk (KeepBut.blk hk (g' := gb179) (o := .cells #[.int .i64 (wrap64 (x17_1 + 1)), .int .i64 t175, .bool false] 46 (0, 0)) (by (with_reducible repeat (first | refine blk_drewN ?_ _ | refine blk_drew ?_ | refine blk_alloc ?_ _)); refine blk_put (cs := #[.int .i64 (wrap64 (x17_1 + 1)), .int .i64 t175, .bool false]) ?_ 2 _ rfl; (with_reducible repeat (first | refine blk_drewN ?_ _ | refine blk_drew ?_ | refine blk_alloc ?_ _)); refine blk_put (cs := #[.int .i64 (wrap64 (x17_1 + 1)), .int .i64 0, .bool false]) ?_ 1 _ rfl; (with_reducible repeat (first | refine blk_drewN ?_ _ | refine blk_drew ?_ | refine blk_alloc ?_ _)); refine blk_put (cs := #[.int .i64 0, .int .i64 0, .bool false]) ?_ 0 _ rfl; (with_reducible repeat (first | refine blk_drewN ?_ _ | refine blk_drew ?_ | refine blk_alloc ?_ _)); exact BK179.out) NB179_165.out (by simp)); have n4_ := Aside0.mk (hb); have n5_ := Aside0.mk (hi); clear HO_175001; clear BK161; clear BK174; clear BK179; clear HB; clear HI165; have HO_175001 := n0_; have BK161 := n1_; have BK174 := n2_; have BK179 := n3_; have HB := n4_; have HI165 := n5_; clear n0_ n1_ n2_ n3_ n4_ n5_; have hcz25_0 : w24.cell? ⟨gb179, 0, none⟩ = some (.int .i64 (wrap64 (x17_1 + 1))) := (blk_cell BK179.out 0).trans rfl; have hcz25_1 : w24.cell? ⟨gb179, 1, none⟩ = some (.int .i64 t175) := (blk_cell BK179.out 1).trans rfl; have hcz25_2 : w24.cell? ⟨gb179, 2, none⟩ = some (.bool false) := (blk_cell BK179.out 2).trans rfl; have hfz25_0 := blk_frozen BK179.out 0; have hfz25_1 := blk_frozen BK179.out 1; have hfz25_2 := blk_frozen BK179.out 2; have hnb26 := NB174_161.out; have hnc26 := NB161_174.out; have hnb27 := NB174_165.out; have hnc27 := NB165_174.out; have hcz28_0 : w24.cell? ⟨gb174, 0, none⟩ = some (.int .i64 t166) := (blk_cell BK174.out 0).trans rfl; have hcz28_1 : w24.cell? ⟨gb174, 1, none⟩ = some (u175001) := (blk_cell BK174.out 1).trans rfl; have hcz28_2 : w24.cell? ⟨gb174, 2, none⟩ = some (.int .i64 t170) := (blk_cell BK174.out 2).trans rfl; have hfz28_0 := blk_frozen BK174.out 0; have hfz28_1 := blk_frozen BK174.out 1; have hfz28_2 := blk_frozen BK174.out 2) | ((with_reducible refine gate_builtin (b := .append) (xs := #[.tmp 36, .tmp 38]) rfl ?_); at_builtin; refine Kd.R_append k46 (w0 := w) w.heap.size rfl (.tmp 36) (.tmp 38) 22 46 (.agg #[(.int .i64 0), (.int .i64 0), (.bool false)]) 24 rfl Tryd.underlying22 info46 rfl (by decide) (by omega) u175001 x175001_1 (⟨wrap64 (x17_1 + 1), t175, (t180 == 1)⟩ : S46) [.int .i64 (wrap64 (x17_1 + 1)), .int .i64 t175, .bool (t180 == 1)] (fun k_ => k_ ≠ gb179) (fun _ => False) rfl (by first | (go_simp; done) | (go_simp; rfl)) ?aP (fun _ hk => hk.elim) ?aF ?aO ?aB ?aS ?aL ?_; (case aP => exact k46_mkM _ _ _ (⟨wrap64 (x17_1 + 1), t175, (t180 == 1)⟩ : S46)); (case aB => exact (by repeat (first | (with_reducible first | exact HB.out | apply below_alloc | apply pw_below_drewN | apply below_drew1 | refine below_set ?_ (IsS128.ge HI165.out) | refine below_set ?_ GE161.out | refine below_set ?_ GE174.out | refine below_set ?_ GE179.out) | exact HB.out))); (case aF => exact (fun k_ hk => Kd.freshB (g := gb179) (o := .cells #[.int .i64 (wrap64 (x17_1 + 1)), .int .i64 t175, .bool (t180 == 1)] 46 (0, 0)) (by (with_reducible repeat (first | refine blk_drewN ?_ _ | refine blk_drew ?_ | refine blk_alloc ?_ _)); refine blk_put (cs := #[.int .i64 (wrap64 (x17_1 + 1)), .int .i64 t175, .bool false]) ?_ 2 _ rfl; (with_reducible repeat (first | refine blk_drewN ?_ _ | refine blk_drew ?_ | refine blk_alloc ?_ _)); exact BK179.out) k_ hk)); (case aO => exact (by (with_reducible repeat (first | apply Kd.R_alloc | apply Kd.R_drewN | apply Kd.R_drew)); exact Kd.R_mono (Kd.R_far (p := ⟨gb179, 2, none⟩) (Kd.R_mono HO_175001.out (fun k_ hk => (⟨hk, hk.2⟩ : _ ∧ k_ ≠ gb179))) (fun _ hk => hk.2) (.bool (t180 == 1))) (fun _ hk => hk.1.2))); (case aS => exact (below_size (by repeat (first | (with_reducible first | exact HB.out | apply below_alloc | apply pw_below_drewN | apply below_drew1 | refine below_set ?_ (IsS128.ge HI165.out) | refine below_set ?_ GE161.out | refine below_set ?_ GE174.out | refine below_set ?_ GE179.out) | exact HB.out)))); (case aL => have := LMc17.out; omega); intro v185 w29 ho hb hg hat; rw [← Ny184.out] at ho; have n0_ := Aside0.mk (blk_grown (g := gb161) (o := .cells #[.int .i64 0, .slice none 0 0, .int .i64 0] 24 (0, 0)) (by (with_reducible repeat (first | refine blk_drewN ?_ _ | refine blk_drew ?_ | refine blk_alloc ?_ _)); refine blk_far ?_ NB161_179.out _; (with_reducible repeat (first | refine blk_drewN ?_ _ | refine blk_drew ?_ | refine blk_alloc ?_ _)); exact BK161.out) hg (Kd.R_ne HO_175001.out BK161.out (by decide))); have n1_ := Aside0.mk (blk_grown (g := gb174) (o := .cells #[.int .i64 t166, u175001, .int .i64 t170] 24 (0, 0)) (by (with_reducible repeat (first | refine blk_drewN ?_ _ | refine blk_drew ?_ | refine blk_alloc ?_ _)); refine blk_far ?_ NB174_179.out _; (with_reducible repeat (first | refine blk_drewN ?_ _ | refine blk_drew ?_ | refine blk_alloc ?_ _)); exact BK174.out) hg (Kd.R_ne HO_175001.out BK174.out (by decide))); have n2_ := Aside0.mk (IsS128.grown (IsS128.far HI165.out NB165_179.out _) hg (IsS128.own_ne HI165.out HO_175001.out (by decide))); have n3_ := Aside0.mk (blk_grown (g := gb179) (o := .cells #[.int .i64 (wrap64 (x17_1 + 1)), .int .i64 t175, .bool (t180 == 1)] 46 (0, 0)) (by (with_reducible repeat (first | refine blk_drewN ?_ _ | refine blk_drew ?_ | refine blk_alloc ?_ _)); refine blk_put (cs := #[.int .i64 (wrap64 (x17_1 + 1)), .int .i64 t175, .bool false]) ?_ 2 _ rfl; (with_reducible repeat (first | refine blk_drewN ?_ _ | refine blk_drew ?_ | refine blk_alloc ?_ _)); exact BK179.out) hg (Kd.R_away HO_175001.out (fun _ hk => hk.2))); have n4_ := Aside0.mk (hb); have n5_ := Aside0.mk (ho); clear BK161; clear BK174; clear HI165; clear BK179; clear HB; clear HO_175001; have BK161 := n0_; have BK174 := n1_; have HI165 := n2_; have BK179 := n3_; have HB := n4_; have HO186 := n5_; clear n0_ n1_ n2_ n3_ n4_ n5_; clear ho hb hg hat; obtain ⟨Ao30, co30, eo30⟩ := Kd.R_slice HO186.out; subst eo30; have hcz31_0 : w29.cell? ⟨gb174, 0, none⟩ = some (.int .i64 t166) := (blk_cell BK174.out 0).trans rfl; have hcz31_1 : w29.cell? ⟨gb174, 1, none⟩ = some (u175001) := (blk_cell BK174.out 1).trans rfl; have hcz31_2 : w29.cell? ⟨gb174, 2, none⟩ = some (.int .i64 t170) := (blk_cell BK174.out 2).trans rfl; have hfz31_0 := blk_frozen BK174.out 0; have hfz31_1 := blk_frozen BK174.out 1; have hfz31_2 := blk_frozen BK174.out 2))
            go_roundg k1
            case measure => have := HK1.out; omega
            case rel => exact ⟨(decide (t180 ≤ 1)), (wrap64 (x17_1 + 1)), (t181), (t182), (t183), (y184), (.slice Ao30 y184.length co30), rz_, rz_, H', ⟨by have := HK1.out; omega⟩, ⟨by (with_reducible repeat (first | apply Kd.R_alloc | apply Kd.R_drewN | apply Kd.R_drew)); exact Kd.R_mono (Kd.R_far (p := ⟨gb174, 1, none⟩) (Kd.R_types HO186.out BK174.out (by decide)) (fun _ hk => hk.2) (.slice Ao30 y184.length co30)) (fun _ hk => trivial)⟩, ⟨by (with_reducible repeat (first | refine blk_drewN ?_ _ | refine blk_drew ?_ | refine blk_alloc ?_ _)); refine blk_far ?_ NB161_174.out _; (with_reducible repeat (first | refine blk_drewN ?_ _ | refine blk_drew ?_ | refine blk_alloc ?_ _)); exact BK161.out⟩, ⟨by (with_reducible repeat (first | refine blk_drewN ?_ _ | refine blk_drew ?_ | refine blk_alloc ?_ _)); refine blk_put (cs := #[.int .i64 t166, u175001, .int .i64 t170]) ?_ 1 _ rfl; (with_reducible repeat (first | refine blk_drewN ?_ _ | refine blk_drew ?_ | refine blk_alloc ?_ _)); exact BK174.out⟩, ⟨by repeat (first | (with_reducible first | exact HI165.out | apply IsS128.alloc | apply IsS128.drewN | apply IsS128.drew | apply IsS128.set_0 | apply IsS128.set_1 | apply IsS128.set_2 | refine IsS128.far ?_ NB165_161.out _ | refine IsS128.far ?_ NB165_174.out _ | refine IsS128.far ?_ NB165_179.out _) | exact HI165.out)⟩, ⟨by repeat (first | (with_reducible first | exact HB.out | apply below_alloc | apply pw_below_drewN | apply below_drew1 | refine below_set ?_ (IsS128.ge HI165.out) | refine below_set ?_ GE161.out | refine below_set ?_ GE174.out | refine below_set ?_ GE179.out) | exact HB.out)⟩⟩
          · rw [if_neg c17] at H; exact absurd H (by simp)
        · replace c16 := Bool.eq_false_iff.mpr c16; subst c16; have H1 : (if x175001_1.length < 5864062014805 then (group_Take.l0 k1 false (wrap64 (x17_1 + 1)) t181 t182 t183 t166 (x175001_1 ++ [(⟨wrap64 (x17_1 + 1), t175, (t180 == 1)⟩ : S46)]) t170) else (none)) = some (r1, r2, r3, r4) := by rw [if_neg (show ¬ (false = true) by decide)] at H; exact H
          clear H; have H := H1; clear H1; by_cases c32 : x175001_1.length < 5864062014805
          · rw [if_pos c32] at H; have LMc32 := Aside0.mk c32; clear c32; obtain ⟨y187, hy187⟩ : ∃ y_ : List (S46), y_ = (x175001_1 ++ [(⟨wrap64 (x17_1 + 1), t175, (t180 == 1)⟩ : S46)]) := ⟨_, rfl⟩; replace H : (group_Take.l0 k1 false (wrap64 (x17_1 + 1)) t181 t182 t183 t166 y187 t170) = some (r1, r2, r3, r4) := by first | (rw [hy187]; with_reducible exact H) | (have H2_ := (Option.bind_some _ _).symm.trans H; rw [hy187]; with_reducible exact H2_) | (have H2_ := (Option.bind_some _ _).symm.trans H; with_reducible exact H2_) | with_reducible exact H | (rw [hy187]; exact H) | exact H
            have Ny187 := Aside0.mk hy187; clear hy187; have H' := Aside0.mk H; clear H; go_wp2_with (first | ((with_reducible refine gate_callee (f := 64) rfl ?_); refine gl_ 23 Tryd.func64 #[.pointer (some ⟨g165, 0, none⟩)] ?_; (with_reducible refine (code_In_Num.calls k1 g165 x166000_1 x166001_1 x166002_1 t175 t176 t177 t178 w _ ?side1 ?side2 A14.out).mono ?_); (case side1 => repeat (first | (with_reducible first | exact HI165.out | apply IsS128.alloc | apply IsS128.drewN | apply IsS128.drew | apply IsS128.set_0 | apply IsS128.set_1 | apply IsS128.set_2 | refine IsS128.far ?_ NB165_161.out _ | refine IsS128.far ?_ NB165_174.out _) | exact HI165.out)); (case side2 => repeat (first | (with_reducible first | exact HB.out | apply below_alloc | apply pw_below_drewN | apply below_drew1 | refine below_set ?_ (IsS128.ge HI165.out) | refine below_set ?_ GE161.out | refine below_set ?_ GE174.out) | exact HB.out)); rintro e w33 ⟨rfl, hi, hb, hk⟩; refine ⟨_, rfl, ?_⟩; have n0_ := Aside0.mk (Kd.R_mono (Kd.R_keep (IsS128.apart (show IsS128 w _ g165 x166000_1 x166001_1 x166002_1 from by repeat (first | (with_reducible first | exact HI165.out | apply IsS128.alloc | apply IsS128.drewN | apply IsS128.drew | apply IsS128.set_0 | apply IsS128.set_1 | apply IsS128.set_2 | refine IsS128.far ?_ NB165_161.out _ | refine IsS128.far ?_ NB165_174.out _) | exact HI165.out)) (ra_ HO_175001.out) (by decide)) hk (fun _ h => h.2)) (fun _ h => h.1)); have n1_ := Aside0.mk (KeepBut.blk hk (g' := gb161) (o := .cells #[.int .i64 0, .slice none 0 0, .int .i64 0] 24 (0, 0)) (by (with_reducible repeat (first | refine blk_drewN ?_ _ | refine blk_drew ?_ | refine blk_alloc ?_ _)); exact BK161.out) NB161_165.out (by simp)); have n2_ := Aside0.mk (KeepBut.blk hk (g' := gb174) (o := .cells #[.int .i64 t166, u175001, .int .i64 t170] 24 (0, 0)) (by (with_reducible repeat (first | refine blk_drewN ?_ _ | refine blk_drew ?_ | refine blk_alloc ?_ _)); exact BK174.out) NB174_165.out (by simp)); have n3_ := Aside0.mk (hb); have n4_ := Aside0.mk (hi); clear HO_175001; clear BK161; clear BK174; clear HB; clear HI165; have HO_175001 := n0_; have BK161 := n1_; have BK174 := n2_; have HB := n3_; have HI165 := n4_; clear n0_ n1_ n2_ n3_ n4_) | ((with_reducible refine gate_dst (N := 8) rfl ?_); refine box_event ?hg (N := 8) ?hd (cs := #[.int .i64 0, .int .i64 0, .bool false]) (t := 46) ?hr ?_; (case hd => rfl); (case hg => rfl); (case hr => first | (go_simp; done) | (go_simp; rfl)); intro gb179 hg w34 hbox hb; have n0_ := Aside0.mk (Kd.R_below (Kd.R_elderB (ra_ HO_175001.out) gb179 (Nat.le_of_eq hg.symm)) hb); have n1_ := Aside0.mk (blk_below (g := gb161) (o := .cells #[.int .i64 0, .slice none 0 0, .int .i64 0] 24 (0, 0)) (by (with_reducible repeat (first | refine blk_drewN ?_ _ | refine blk_drew ?_ | refine blk_alloc ?_ _)); exact BK161.out) hb); have n2_ := Aside0.mk (blk_below (g := gb174) (o := .cells #[.int .i64 t166, u175001, .int .i64 t170] 24 (0, 0)) (by (with_reducible repeat (first | refine blk_drewN ?_ _ | refine blk_drew ?_ | refine blk_alloc ?_ _)); exact BK174.out) hb); have n3_ := Aside0.mk (IsS128.below (by repeat (first | (with_reducible first | exact HI165.out | apply IsS128.alloc | apply IsS128.drewN | apply IsS128.drew | apply IsS128.set_0 | apply IsS128.set_1 | apply IsS128.set_2 | refine IsS128.far ?_ NB165_161.out _ | refine IsS128.far ?_ NB165_174.out _) | exact HI165.out)) hb); have n4_ := Aside0.mk (below_step (by repeat (first | (with_reducible first | exact HB.out | apply below_alloc | apply pw_below_drewN | apply below_drew1 | refine below_set ?_ (IsS128.ge HI165.out) | refine below_set ?_ GE161.out | refine below_set ?_ GE174.out) | exact HB.out)) hb); have n5_ := Aside0.mk (hbox); have n6_ := Aside0.mk ((by rw [hg]; exact (below_size (by repeat (first | (with_reducible first | exact HB.out | apply below_alloc | apply pw_below_drewN | apply below_drew1 | refine below_set ?_ (IsS128.ge HI165.out) | refine below_set ?_ GE161.out | refine below_set ?_ GE174.out) | exact HB.out))) : w.heap.size ≤ gb179)); have n7_ := Aside0.mk ((by rw [hg]; exact (below_size (by repeat (first | (with_reducible first | exact HB.out | apply below_alloc | apply pw_below_drewN | apply below_drew1 | refine below_set ?_ (IsS128.ge HI165.out) | refine below_set ?_ GE161.out | refine below_set ?_ GE174.out) | exact HB.out))) : w.heap.size ≤ gb179)); have n8_ := Aside0.mk ((by rw [hg]; exact Nat.ne_of_lt (blk_lt (g := gb161) (o := .cells #[.int .i64 0, .slice none 0 0, .int .i64 0] 24 (0, 0)) (by (with_reducible repeat (first | refine blk_drewN ?_ _ | refine blk_drew ?_ | refine blk_alloc ?_ _)); exact BK161.out)) : gb161 ≠ gb179)); have n9_ := Aside0.mk ((by rw [hg]; exact Nat.ne_of_gt (blk_lt (g := gb161) (o := .cells #[.int .i64 0, .slice none 0 0, .int .i64 0] 24 (0, 0)) (by (with_reducible repeat (first | refine blk_drewN ?_ _ | refine blk_drew ?_ | refine blk_alloc ?_ _)); exact BK161.out)) : gb179 ≠ gb161)); have n10_ := Aside0.mk ((by rw [hg]; exact Nat.ne_of_lt (blk_lt (g := gb174) (o := .cells #[.int .i64 t166, u175001, .int .i64 t170] 24 (0, 0)) (by (with_reducible repeat (first | refine blk_drewN ?_ _ | refine blk_drew ?_ | refine blk_alloc ?_ _)); exact BK174.out)) : gb174 ≠ gb179)); have n11_ := Aside0.mk ((by rw [hg]; exact Nat.ne_of_gt (blk_lt (g := gb174) (o := .cells #[.int .i64 t166, u175001, .int .i64 t170] 24 (0, 0)) (by (with_reducible repeat (first | refine blk_drewN ?_ _ | refine blk_drew ?_ | refine blk_alloc ?_ _)); exact BK174.out)) : gb179 ≠ gb174)); have n12_ := Aside0.mk ((by rw [hg]; exact Nat.ne_of_lt (IsS128.lt (show IsS128 w _ g165 t176 t177 t178 from by repeat (first | (with_reducible first | exact HI165.out | apply IsS128.alloc | apply IsS128.drewN | apply IsS128.drew | apply IsS128.set_0 | apply IsS128.set_1 | apply IsS128.set_2 | refine IsS128.far ?_ NB165_161.out _ | refine IsS128.far ?_ NB165_174.out _) | exact HI165.out))) : g165 ≠ gb179)); have n13_ := Aside0.mk ((by rw [hg]; exact Nat.ne_of_gt (IsS128.lt (show IsS128 w _ g165 t176 t177 t178 from by repeat (first | (with_reducible first | exact HI165.out | apply IsS128.alloc | apply IsS128.drewN | apply IsS128.drew | apply IsS128.set_0 | apply IsS128.set_1 | apply IsS128.set_2 | refine IsS128.far ?_ NB165_161.out _ | refine IsS128.far ?_ NB165_174.out _) | exact HI165.out))) : gb179 ≠ g165)); clear HO_175001; clear BK161; clear BK174; clear HI165; clear HB; have HO_175001 := n0_; have BK161 := n1_; have BK174 := n2_; have HI165 := n3_; have HB := n4_; have BK179 := n5_; have GW179 := n6_; have GE179 := n7_; have NB161_179 := n8_; have NB179_161 := n9_; have NB174_179 := n10_; have NB179_174 := n11_; have NB165_179 := n12_; have NB179_165 := n13_; clear n0_ n1_ n2_ n3_ n4_ n5_ n6_ n7_ n8_ n9_ n10_ n11_ n12_ n13_; clear hb hbox hg; have hnb35 := NB179_161.out; have hnc35 := NB161_179.out; have hnb36 := NB179_174.out; have hnc36 := NB174_179.out; have hnb37 := NB179_165.out; have hnc37 := NB165_179.out; have hcz38_0 : w34.cell? ⟨gb179, 0, none⟩ = some (.int .i64 0) := (blk_cell BK179.out 0).trans rfl; have hcz38_1 : w34.cell? ⟨gb179, 1, none⟩ = some (.int .i64 0) := (blk_cell BK179.out 1).trans rfl; have hcz38_2 : w34.cell? ⟨gb179, 2, none⟩ = some (.bool false) := (blk_cell BK179.out 2).trans rfl; have hfz38_0 := blk_frozen BK179.out 0; have hfz38_1 := blk_frozen BK179.out 1; have hfz38_2 := blk_frozen BK179.out 2) | ((with_reducible refine gate_callee (f := 65) rfl ?_); refine gl_ 26 Tryd.func65 #[.pointer (some ⟨g165, 0, none⟩)] ?_; (with_reducible refine (code_In_Byte.calls k1 g165 t176 t177 t178 t180 t181 t182 t183 w _ ?side1 ?side2 A15.out).mono ?_); (case side1 => repeat (first | (with_reducible first | exact HI165.out | apply IsS128.alloc | apply IsS128.drewN | apply IsS128.drew | apply IsS128.set_0 | apply IsS128.set_1 | apply IsS128.set_2 | refine IsS128.far ?_ NB165_161.out _ | refine IsS128.far ?_ NB165_174.out _ | refine IsS128.far ?_ NB165_179.out _) | exact HI165.out)); (case side2 => repeat (first | (with_reducible first | exact HB.out | apply below_alloc | apply pw_below_drewN | apply below_drew1 | refine below_set ?_ (IsS128.ge HI165.out) | refine below_set ?_ GE161.out | refine below_set ?_ GE174.out | refine below_set ?_ GE179.out) | exact HB.out)); rintro e w39 ⟨rfl, hi, hb, hk⟩; refine ⟨_, rfl, ?_⟩; have n0_ := Aside0.mk (Kd.R_mono (Kd.R_keep (IsS128.apart (show IsS128 w _ g165 t176 t177 t178 from by repeat (first | (with_reducible first | exact HI165.out | apply IsS128.alloc | apply IsS128.drewN | apply IsS128.drew | apply IsS128.set_0 | apply IsS128.set_1 | apply IsS128.set_2 | refine IsS128.far ?_ NB165_161.out _ | refine IsS128.far ?_ NB165_174.out _ | refine IsS128.far ?_ NB165_179.out _) | exact HI165.out)) (by (with_reducible repeat (first | apply Kd.R_alloc | apply Kd.R_drewN | apply Kd.R_drew)); exact (Kd.R_mono (Kd.R_far (p := ⟨gb179, 2, none⟩) (Kd.R_far (p := ⟨gb179, 1, none⟩) (Kd.R_far (p := ⟨gb179, 0, none⟩) (Kd.R_mono HO_175001.out (fun k_ hk => (⟨hk, hk.2⟩ : _ ∧ k_ ≠ gb179))) (fun _ hk => hk.2) (.int .i64 (wrap64 (x17_1 + 1)))) (fun _ hk => hk.2) (.int .i64 t175)) (fun _ hk => hk.2) (.bool false)) (fun _ h_ => h_.1))) (by decide)) hk (fun _ h => h.2)) (fun _ h => h.1)); have n1_ := Aside0.mk (KeepBut.blk hk (g' := gb161) (o := .cells #[.int .i64 0, .slice none 0 0, .int .i64 0] 24 (0, 0)) (by (with_reducible repeat (first | refine blk_drewN ?_ _ | refine blk_drew ?_ | refine blk_alloc ?_ _)); refine blk_far ?_ NB161_179.out _; (with_reducible repeat (first | refine blk_drewN ?_ _ | refine blk_drew ?_ | refine blk_alloc ?_ _)); refine blk_far ?_ NB161_179.out _; (with_reducible repeat (first | refine blk_drewN ?_ _ | refine blk_drew ?_ | refine blk_alloc ?_ _)); refine blk_far ?_ NB161_179.out _; (with_reducible repeat (first | refine blk_drewN ?_ _ | refine blk_drew ?_ | refine blk_alloc ?_ _)); exact BK161.out) NB161_165.out (by simp)); have n2_ := Aside0.mk (KeepBut.blk hk (g' := gb174) (o := .cells #[.int .i64 t166, u175001, .int .i64 t170] 24 (0, 0)) (by (with_reducible repeat (first | refine blk_drewN ?_ _ | refine blk_drew ?_ | refine blk_alloc ?_ _)); refine blk_far ?_ NB174_179.out _; (with_reducible repeat (first | refine blk_drewN ?_ _ | refine blk_drew ?_ | refine blk_alloc ?_ _)); refine blk_far ?_ NB174_179.out _; (with_reducible repeat (first | refine blk_drewN ?_ _ | refine blk_drew ?_ | refine blk_alloc ?_ _)); refine blk_far ?_ NB174_179.out _; (with_reducible repeat (first | refine blk_drewN ?_ _ | refine blk_drew ?_ | refine blk_alloc ?_ _)); exact BK174.out) NB174_165.out (by simp)); have n3_ := Aside0.mk (KeepBut.blk hk (g' := gb179) (o := .cells #[.int .i64 (wrap64 (x17_1 + 1)), .int .i64 t175, .bool false] 46 (0, 0)) (by (with_reducible repeat (first | refine blk_drewN ?_ _ | refine blk_drew ?_ | refine blk_alloc ?_ _)); refine blk_put (cs := #[.int .i64 (wrap64 (x17_1 + 1)), .int .i64 t175, .bool false]) ?_ 2 _ rfl; (with_reducible repeat (first | refine blk_drewN ?_ _ | refine blk_drew ?_ | refine blk_alloc ?_ _)); refine blk_put (cs := #[.int .i64 (wrap64 (x17_1 + 1)), .int .i64 0, .bool false]) ?_ 1 _ rfl; (with_reducible repeat (first | refine blk_drewN ?_ _ | refine blk_drew ?_ | refine blk_alloc ?_ _)); refine blk_put (cs := #[.int .i64 0, .int .i64 0, .bool false]) ?_ 0 _ rfl; (with_reducible repeat (first | refine blk_drewN ?_ _ | refine blk_drew ?_ | refine blk_alloc ?_ _)); exact BK179.out) NB179_165.out (by simp)); have n4_ := Aside0.mk (hb); have n5_ := Aside0.mk (hi); clear HO_175001; clear BK161; clear BK174; clear BK179; clear HB; clear HI165; have HO_175001 := n0_; have BK161 := n1_; have BK174 := n2_; have BK179 := n3_; have HB := n4_; have HI165 := n5_; clear n0_ n1_ n2_ n3_ n4_ n5_; have hcz40_0 : w39.cell? ⟨gb179, 0, none⟩ = some (.int .i64 (wrap64 (x17_1 + 1))) := (blk_cell BK179.out 0).trans rfl; have hcz40_1 : w39.cell? ⟨gb179, 1, none⟩ = some (.int .i64 t175) := (blk_cell BK179.out 1).trans rfl; have hcz40_2 : w39.cell? ⟨gb179, 2, none⟩ = some (.bool false) := (blk_cell BK179.out 2).trans rfl; have hfz40_0 := blk_frozen BK179.out 0; have hfz40_1 := blk_frozen BK179.out 1; have hfz40_2 := blk_frozen BK179.out 2; have hnb41 := NB174_161.out; have hnc41 := NB161_174.out; have hnb42 := NB174_165.out; have hnc42 := NB165_174.out; have hcz43_0 : w39.cell? ⟨gb174, 0, none⟩ = some (.int .i64 t166) := (blk_cell BK174.out 0).trans rfl; have hcz43_1 : w39.cell? ⟨gb174, 1, none⟩ = some (u175001) := (blk_cell BK174.out 1).trans rfl; have hcz43_2 : w39.cell? ⟨gb174, 2, none⟩ = some (.int .i64 t170) := (blk_cell BK174.out 2).trans rfl; have hfz43_0 := blk_frozen BK174.out 0; have hfz43_1 := blk_frozen BK174.out 1; have hfz43_2 := blk_frozen BK174.out 2) | ((with_reducible refine gate_builtin (b := .append) (xs := #[.tmp 36, .tmp 38]) rfl ?_); at_builtin; refine Kd.R_append k46 (w0 := w) w.heap.size rfl (.tmp 36) (.tmp 38) 22 46 (.agg #[(.int .i64 0), (.int .i64 0), (.bool false)]) 24 rfl Tryd.underlying22 info46 rfl (by decide) (by omega) u175001 x175001_1 (⟨wrap64 (x17_1 + 1), t175, (t180 == 1)⟩ : S46) [.int .i64 (wrap64 (x17_1 + 1)), .int .i64 t175, .bool (t180 == 1)] (fun k_ => k_ ≠ gb179) (fun _ => False) rfl (by first | (go_simp; done) | (go_simp; rfl)) ?aP (fun _ hk => hk.elim) ?aF ?aO ?aB ?aS ?aL ?_; (case aP => exact k46_mkM _ _ _ (⟨wrap64 (x17_1 + 1), t175, (t180 == 1)⟩ : S46)); (case aB => exact (by repeat (first | (with_reducible first | exact HB.out | apply below_alloc | apply pw_below_drewN | apply below_drew1 | refine below_set ?_ (IsS128.ge HI165.out) | refine below_set ?_ GE161.out | refine below_set ?_ GE174.out | refine below_set ?_ GE179.out) | exact HB.out))); (case aF => exact (fun k_ hk => Kd.freshB (g := gb179) (o := .cells #[.int .i64 (wrap64 (x17_1 + 1)), .int .i64 t175, .bool (t180 == 1)] 46 (0, 0)) (by (with_reducible repeat (first | refine blk_drewN ?_ _ | refine blk_drew ?_ | refine blk_alloc ?_ _)); refine blk_put (cs := #[.int .i64 (wrap64 (x17_1 + 1)), .int .i64 t175, .bool false]) ?_ 2 _ rfl; (with_reducible repeat (first | refine blk_drewN ?_ _ | refine blk_drew ?_ | refine blk_alloc ?_ _)); exact BK179.out) k_ hk)); (case aO => exact (by (with_reducible repeat (first | apply Kd.R_alloc | apply Kd.R_drewN | apply Kd.R_drew)); exact Kd.R_mono (Kd.R_far (p := ⟨gb179, 2, none⟩) (Kd.R_mono HO_175001.out (fun k_ hk => (⟨hk, hk.2⟩ : _ ∧ k_ ≠ gb179))) (fun _ hk => hk.2) (.bool (t180 == 1))) (fun _ hk => hk.1.2))); (case aS => exact (below_size (by repeat (first | (with_reducible first | exact HB.out | apply below_alloc | apply pw_below_drewN | apply below_drew1 | refine below_set ?_ (IsS128.ge HI165.out) | refine below_set ?_ GE161.out | refine below_set ?_ GE174.out | refine below_set ?_ GE179.out) | exact HB.out)))); (case aL => have := LMc32.out; omega); intro v188 w44 ho hb hg hat; rw [← Ny187.out] at ho; have n0_ := Aside0.mk (blk_grown (g := gb161) (o := .cells #[.int .i64 0, .slice none 0 0, .int .i64 0] 24 (0, 0)) (by (with_reducible repeat (first | refine blk_drewN ?_ _ | refine blk_drew ?_ | refine blk_alloc ?_ _)); refine blk_far ?_ NB161_179.out _; (with_reducible repeat (first | refine blk_drewN ?_ _ | refine blk_drew ?_ | refine blk_alloc ?_ _)); exact BK161.out) hg (Kd.R_ne HO_175001.out BK161.out (by decide))); have n1_ := Aside0.mk (blk_grown (g := gb174) (o := .cells #[.int .i64 t166, u175001, .int .i64 t170] 24 (0, 0)) (by (with_reducible repeat (first | refine blk_drewN ?_ _ | refine blk_drew ?_ | refine blk_alloc ?_ _)); refine blk_far ?_ NB174_179.out _; (with_reducible repeat (first | refine blk_drewN ?_ _ | refine blk_drew ?_ | refine blk_alloc ?_ _)); exact BK174.out) hg (Kd.R_ne HO_175001.out BK174.out (by decide))); have n2_ := Aside0.mk (IsS128.grown (IsS128.far HI165.out NB165_179.out _) hg (IsS128.own_ne HI165.out HO_175001.out (by decide))); have n3_ := Aside0.mk (blk_grown (g := gb179) (o := .cells #[.int .i64 (wrap64 (x17_1 + 1)), .int .i64 t175, .bool (t180 == 1)] 46 (0, 0)) (by (with_reducible repeat (first | refine blk_drewN ?_ _ | refine blk_drew ?_ | refine blk_alloc ?_ _)); refine blk_put (cs := #[.int .i64 (wrap64 (x17_1 + 1)), .int .i64 t175, .bool false]) ?_ 2 _ rfl; (with_reducible repeat (first | refine blk_drewN ?_ _ | refine blk_drew ?_ | refine blk_alloc ?_ _)); exact BK179.out) hg (Kd.R_away HO_175001.out (fun _ hk => hk.2))); have n4_ := Aside0.mk (hb); have n5_ := Aside0.mk (ho); clear BK161; clear BK174; clear HI165; clear BK179; clear HB; clear HO_175001; have BK161 := n0_; have BK174 := n1_; have HI165 := n2_; have BK179 := n3_; have HB := n4_; have HO189 := n5_; clear n0_ n1_ n2_ n3_ n4_ n5_; clear ho hb hg hat; obtain ⟨Ao45, co45, eo45⟩ := Kd.R_slice HO189.out; subst eo45; have hcz46_0 : w44.cell? ⟨gb174, 0, none⟩ = some (.int .i64 t166) := (blk_cell BK174.out 0).trans rfl; have hcz46_1 : w44.cell? ⟨gb174, 1, none⟩ = some (u175001) := (blk_cell BK174.out 1).trans rfl; have hcz46_2 : w44.cell? ⟨gb174, 2, none⟩ = some (.int .i64 t170) := (blk_cell BK174.out 2).trans rfl; have hfz46_0 := blk_frozen BK174.out 0; have hfz46_1 := blk_frozen BK174.out 1; have hfz46_2 := blk_frozen BK174.out 2))
            go_roundg k1
            case measure => have := HK1.out; omega
            case rel => exact ⟨(false), (wrap64 (x17_1 + 1)), (t181), (t182), (t183), (y187), (.slice Ao45 y187.length co45), rz_, rz_, H', ⟨by have := HK1.out; omega⟩, ⟨by (with_reducible repeat (first | apply Kd.R_alloc | apply Kd.R_drewN | apply Kd.R_drew)); exact Kd.R_mono (Kd.R_far (p := ⟨gb174, 1, none⟩) (Kd.R_types HO189.out BK174.out (by decide)) (fun _ hk => hk.2) (.slice Ao45 y187.length co45)) (fun _ hk => trivial)⟩, ⟨by (with_reducible repeat (first | refine blk_drewN ?_ _ | refine blk_drew ?_ | refine blk_alloc ?_ _)); refine blk_far ?_ NB161_174.out _; (with_reducible repeat (first | refine blk_drewN ?_ _ | refine blk_drew ?_ | refine blk_alloc ?_ _)); exact BK161.out⟩, ⟨by (with_reducible repeat (first | refine blk_drewN ?_ _ | refine blk_drew ?_ | refine blk_alloc ?_ _)); refine blk_put (cs := #[.int .i64 t166, u175001, .int .i64 t170]) ?_ 1 _ rfl; (with_reducible repeat (first | refine blk_drewN ?_ _ | refine blk_drew ?_ | refine blk_alloc ?_ _)); exact BK174.out⟩, ⟨by repeat (first | (with_reducible first | exact HI165.out | apply IsS128.alloc | apply IsS128.drewN | apply IsS128.drew | apply IsS128.set_0 | apply IsS128.set_1 | apply IsS128.set_2 | refine IsS128.far ?_ NB165_161.out _ | refine IsS128.far ?_ NB165_174.out _ | refine IsS128.far ?_ NB165_179.out _) | exact HI165.out)⟩, ⟨by repeat (first | (with_reducible first | exact HB.out | apply below_alloc | apply pw_below_drewN | apply below_drew1 | refine below_set ?_ (IsS128.ge HI165.out) | refine below_set ?_ GE161.out | refine below_set ?_ GE174.out | refine below_set ?_ GE179.out) | exact HB.out)⟩⟩
          · rw [if_neg c32] at H; exact absurd H (by simp)
      · rw [if_neg c13] at H; have c13b0 : decide (x17_1 < 6) = false := decide_eq_false c13; clear c13; by_cases c47 : x6_1 = true
        · subst c47; have H1 : ((code_In_Done.f x166000_1 x166001_1 x166002_1).bind fun bt190 => (if bt190.1 = 0 then ((group_Check.f k1 t166 x175001_1 t170).bind fun t194 => (if t194 = 0 then (some (t166, x175001_1, t170, 0)) else (some (0, ([] : List (S46)), 0, 91)))) else (some (0, ([] : List (S46)), 0, 91)))) = some (r1, r2, r3, r4) := by rw [if_pos rfl] at H; exact H
          clear H; have H := H1; clear H1; replace H := Option.bind_eq_some_iff.mp H; obtain ⟨⟨t190, t191, t192, t193⟩, A480, H⟩ := H; try dsimp only at H
          have A48 := Aside0.mk A480; clear A480; by_cases c49 : t190 = 0
          · rw [if_pos c49] at H; have c49b0 : (t190 == 0) = true := beq_iff_eq.mpr c49; have c49b1 : (t190 != 0) = false := bne_eq_false_iff_eq.mpr c49; clear c49; replace H := Option.bind_eq_some_iff.mp H; obtain ⟨t194, A500, H⟩ := H; have A50 := Aside0.mk A500; clear A500; by_cases c51 : t194 = 0
            · rw [if_pos c51] at H; have c51b0 : (t194 == 0) = true := beq_iff_eq.mpr c51; have c51b1 : (t194 != 0) = false := bne_eq_false_iff_eq.mpr c51; clear c51; simp only [Option.some.injEq, Prod.mk.injEq] at H; obtain ⟨rfl, rfl, rfl, rfl⟩ := H; go_wp2_with (first | (go_at_call 66; (with_reducible refine (code_In_Done.calls g165 x166000_1 x166001_1 x166002_1 t190 t191 t192 t193 w _ ?side1 ?side2 A48.out).mono ?_); (case side1 => repeat (first | (with_reducible first | exact HI165.out | apply IsS128.alloc | apply IsS128.drewN | apply IsS128.drew | apply IsS128.set_0 | apply IsS128.set_1 | apply IsS128.set_2 | refine IsS128.far ?_ NB165_161.out _ | refine IsS128.far ?_ NB165_174.out _) | exact HI165.out)); (case side2 => repeat (first | (with_reducible first | exact HB.out | apply below_alloc | apply pw_below_drewN | apply below_drew1 | refine below_set ?_ (IsS128.ge HI165.out) | refine below_set ?_ GE161.out | refine below_set ?_ GE174.out) | exact HB.out)); rintro e w52 ⟨rfl, hi, hb, hk⟩; have n0_ := Aside0.mk (Kd.R_mono (Kd.R_keep (IsS128.apart (show IsS128 w _ g165 x166000_1 x166001_1 x166002_1 from by repeat (first | (with_reducible first | exact HI165.out | apply IsS128.alloc | apply IsS128.drewN | apply IsS128.drew | apply IsS128.set_0 | apply IsS128.set_1 | apply IsS128.set_2 | refine IsS128.far ?_ NB165_161.out _ | refine IsS128.far ?_ NB165_174.out _) | exact HI165.out)) (ra_ HO_175001.out) (by decide)) hk (fun _ h => h.2)) (fun _ h => h.1)); have n1_ := Aside0.mk (KeepBut.blk hk (g' := gb161) (o := .cells #[.int .i64 0, .slice none 0 0, .int .i64 0] 24 (0, 0)) (by (with_reducible repeat (first | refine blk_drewN ?_ _ | refine blk_drew ?_ | refine blk_alloc ?_ _)); exact BK161.out) NB161_165.out (by simp)); have n2_ := Aside0.mk (KeepBut.blk hk (g' := gb174) (o := .cells #[.int .i64 t166, u175001, .int .i64 t170] 24 (0, 0)) (by (with_reducible repeat (first | refine blk_drewN ?_ _ | refine blk_drew ?_ | refine blk_alloc ?_ _)); exact BK174.out) NB174_165.out (by simp)); have n3_ := Aside0.mk (hb); have n4_ := Aside0.mk (hi); clear HO_175001; clear BK161; clear BK174; clear HB; clear HI165; have HO_175001 := n0_; have BK161 := n1_; have BK174 := n2_; have HB := n3_; have HI165 := n4_; clear n0_ n1_ n2_ n3_ n4_; have hnb53 := NB174_161.out; have hnc53 := NB161_174.out; have hnb54 := NB174_165.out; have hnc54 := NB165_174.out; have hcz55_0 : w52.cell? ⟨gb174, 0, none⟩ = some (.int .i64 t166) := (blk_cell BK174.out 0).trans rfl; have hcz55_1 : w52.cell? ⟨gb174, 1, none⟩ = some (u175001) := (blk_cell BK174.out 1).trans rfl; have hcz55_2 : w52.cell? ⟨gb174, 2, none⟩ = some (.int .i64 t170) := (blk_cell BK174.out 2).trans rfl; have hfz55_0 := blk_frozen BK174.out 0; have hfz55_1 := blk_frozen BK174.out 1; have hfz55_2 := blk_frozen BK174.out 2; obtain ⟨Ao56, co56, eo56⟩ := Kd.R_slice HO_175001.out; subst eo56) | (go_at_call 21; (with_reducible refine (group_Check.calls k1 t166 _ _ x175001_1 t170 t194 _ ?side1 ?side2 A50.out).mono ?_); (case side1 => exact ca_ (Kd.R_reads' HO_175001.out).2.2); (case side2 => exact (Kd.R_reads' HO_175001.out).2.1); rintro e w57 ⟨rfl, hb⟩; have n0_ := Aside0.mk (Kd.R_below (ra_ HO_175001.out) hb); have n1_ := Aside0.mk (blk_below (g := gb161) (o := .cells #[.int .i64 0, .slice none 0 0, .int .i64 0] 24 (0, 0)) (by (with_reducible repeat (first | refine blk_drewN ?_ _ | refine blk_drew ?_ | refine blk_alloc ?_ _)); exact BK161.out) hb); have n2_ := Aside0.mk (blk_below (g := gb174) (o := .cells #[.int .i64 t166, .slice Ao56 x175001_1.length co56, .int .i64 t170] 24 (0, 0)) (by (with_reducible repeat (first | refine blk_drewN ?_ _ | refine blk_drew ?_ | refine blk_alloc ?_ _)); exact BK174.out) hb); have n3_ := Aside0.mk (IsS128.below (by repeat (first | (with_reducible first | exact HI165.out | apply IsS128.alloc | apply IsS128.drewN | apply IsS128.drew | apply IsS128.set_0 | apply IsS128.set_1 | apply IsS128.set_2 | refine IsS128.far ?_ NB165_161.out _ | refine IsS128.far ?_ NB165_174.out _) | exact HI165.out)) hb); have n4_ := Aside0.mk (below_step (by repeat (first | (with_reducible first | exact HB.out | apply below_alloc | apply pw_below_drewN | apply below_drew1 | refine below_set ?_ (IsS128.ge HI165.out) | refine below_set ?_ GE161.out | refine below_set ?_ GE174.out) | exact HB.out)) hb); clear HO_175001; clear BK161; clear BK174; clear HI165; clear HB; have HO_175001 := n0_; have BK161 := n1_; have BK174 := n2_; have HI165 := n3_; have HB := n4_; clear n0_ n1_ n2_ n3_ n4_; have hcz58_0 : w57.cell? ⟨gb174, 0, none⟩ = some (.int .i64 t166) := (blk_cell BK174.out 0).trans rfl; have hcz58_1 : w57.cell? ⟨gb174, 1, none⟩ = some (.slice Ao56 x175001_1.length co56) := (blk_cell BK174.out 1).trans rfl; have hcz58_2 : w57.cell? ⟨gb174, 2, none⟩ = some (.int .i64 t170) := (blk_cell BK174.out 2).trans rfl; have hfz58_0 := blk_frozen BK174.out 0; have hfz58_1 := blk_frozen BK174.out 1; have hfz58_2 := blk_frozen BK174.out 2; have hnb59 := NB161_165.out; have hnc59 := NB165_161.out; have hcz60_0 : w57.cell? ⟨gb161, 0, none⟩ = some (.int .i64 0) := (blk_cell BK161.out 0).trans rfl; have hcz60_1 : w57.cell? ⟨gb161, 1, none⟩ = some (.slice none 0 0) := (blk_cell BK161.out 1).trans rfl; have hcz60_2 : w57.cell? ⟨gb161, 2, none⟩ = some (.int .i64 0) := (blk_cell BK161.out 2).trans rfl; have hfz60_0 := blk_frozen BK161.out 0; have hfz60_1 := blk_frozen BK161.out 1; have hfz60_2 := blk_frozen BK161.out 2))
              refine bodyPost_ret (results_ct rfl _ _ gb161 24 #[.int .i64 t166, .slice Ao56 x175001_1.length co56, .int .i64 t170] (0, 0) _ rfl (by (with_reducible repeat (first | refine blk_drewN ?_ _ | refine blk_drew ?_ | refine blk_alloc ?_ _)); refine blk_put (cs := #[.int .i64 t166, .slice Ao56 x175001_1.length co56, .int .i64 0]) ?_ 2 _ rfl; (with_reducible repeat (first | refine blk_drewN ?_ _ | refine blk_drew ?_ | refine blk_alloc ?_ _)); refine blk_put (cs := #[.int .i64 t166, .slice none 0 0, .int .i64 0]) ?_ 1 _ rfl; (with_reducible repeat (first | refine blk_drewN ?_ _ | refine blk_drew ?_ | refine blk_alloc ?_ _)); refine blk_put (cs := #[.int .i64 0, .slice none 0 0, .int .i64 0]) ?_ 0 _ rfl; (with_reducible repeat (first | refine blk_drewN ?_ _ | refine blk_drew ?_ | refine blk_alloc ?_ _)); exact BK161.out) Tryd.underlying24 rfl (by kernel_rfl)) rfl ?_; exact ⟨_, ew_, by (with_reducible repeat (first | apply Kd.R_alloc | apply Kd.R_drewN | apply Kd.R_drew)); exact Kd.R_mono (Kd.R_far (p := ⟨gb161, 2, none⟩) (Kd.R_far (p := ⟨gb161, 1, none⟩) (Kd.R_far (p := ⟨gb161, 0, none⟩) (Kd.R_types HO_175001.out BK161.out (by decide)) (fun _ hk => hk.2) (.int .i64 t166)) (fun _ hk => hk.2) (.slice Ao56 x175001_1.length co56)) (fun _ hk => hk.2) (.int .i64 t170)) (fun _ hk => trivial), by repeat (first | (with_reducible first | exact HB.out | apply below_alloc | apply pw_below_drewN | apply below_drew1 | refine below_set ?_ (IsS128.ge HI165.out) | refine below_set ?_ GE161.out | refine below_set ?_ GE174.out) | exact HB.out)⟩
            · rw [if_neg c51] at H; have c51b0 : (t194 == 0) = false := beq_eq_false_iff_ne.mpr c51; have c51b1 : (t194 != 0) = true := bne_iff_ne.mpr c51; simp only [Option.some.injEq, Prod.mk.injEq] at H; obtain ⟨rfl, rfl, rfl, rfl⟩ := H; go_wp2_with (first | (go_at_call 66; (with_reducible refine (code_In_Done.calls g165 x166000_1 x166001_1 x166002_1 t190 t191 t192 t193 w _ ?side1 ?side2 A48.out).mono ?_); (case side1 => repeat (first | (with_reducible first | exact HI165.out | apply IsS128.alloc | apply IsS128.drewN | apply IsS128.drew | apply IsS128.set_0 | apply IsS128.set_1 | apply IsS128.set_2 | refine IsS128.far ?_ NB165_161.out _ | refine IsS128.far ?_ NB165_174.out _) | exact HI165.out)); (case side2 => repeat (first | (with_reducible first | exact HB.out | apply below_alloc | apply pw_below_drewN | apply below_drew1 | refine below_set ?_ (IsS128.ge HI165.out) | refine below_set ?_ GE161.out | refine below_set ?_ GE174.out) | exact HB.out)); rintro e w61 ⟨rfl, hi, hb, hk⟩; have n0_ := Aside0.mk (Kd.R_mono (Kd.R_keep (IsS128.apart (show IsS128 w _ g165 x166000_1 x166001_1 x166002_1 from by repeat (first | (with_reducible first | exact HI165.out | apply IsS128.alloc | apply IsS128.drewN | apply IsS128.drew | apply IsS128.set_0 | apply IsS128.set_1 | apply IsS128.set_2 | refine IsS128.far ?_ NB165_161.out _ | refine IsS128.far ?_ NB165_174.out _) | exact HI165.out)) (ra_ HO_175001.out) (by decide)) hk (fun _ h => h.2)) (fun _ h => h.1)); have n1_ := Aside0.mk (KeepBut.blk hk (g' := gb161) (o := .cells #[.int .i64 0, .slice none 0 0, .int .i64 0] 24 (0, 0)) (by (with_reducible repeat (first | refine blk_drewN ?_ _ | refine blk_drew ?_ | refine blk_alloc ?_ _)); exact BK161.out) NB161_165.out (by simp)); have n2_ := Aside0.mk (KeepBut.blk hk (g' := gb174) (o := .cells #[.int .i64 t166, u175001, .int .i64 t170] 24 (0, 0)) (by (with_reducible repeat (first | refine blk_drewN ?_ _ | refine blk_drew ?_ | refine blk_alloc ?_ _)); exact BK174.out) NB174_165.out (by simp)); have n3_ := Aside0.mk (hb); have n4_ := Aside0.mk (hi); clear HO_175001; clear BK161; clear BK174; clear HB; clear HI165; have HO_175001 := n0_; have BK161 := n1_; have BK174 := n2_; have HB := n3_; have HI165 := n4_; clear n0_ n1_ n2_ n3_ n4_; have hnb62 := NB174_161.out; have hnc62 := NB161_174.out; have hnb63 := NB174_165.out; have hnc63 := NB165_174.out; have hcz64_0 : w61.cell? ⟨gb174, 0, none⟩ = some (.int .i64 t166) := (blk_cell BK174.out 0).trans rfl; have hcz64_1 : w61.cell? ⟨gb174, 1, none⟩ = some (u175001) := (blk_cell BK174.out 1).trans rfl; have hcz64_2 : w61.cell? ⟨gb174, 2, none⟩ = some (.int .i64 t170) := (blk_cell BK174.out 2).trans rfl; have hfz64_0 := blk_frozen BK174.out 0; have hfz64_1 := blk_frozen BK174.out 1; have hfz64_2 := blk_frozen BK174.out 2; obtain ⟨Ao65, co65, eo65⟩ := Kd.R_slice HO_175001.out; subst eo65) | (go_at_call 21; (with_reducible refine (group_Check.calls k1 t166 _ _ x175001_1 t170 t194 _ ?side1 ?side2 A50.out).mono ?_); (case side1 => exact ca_ (Kd.R_reads' HO_175001.out).2.2); (case side2 => exact (Kd.R_reads' HO_175001.out).2.1); rintro e w66 ⟨rfl, hb⟩; have n0_ := Aside0.mk (Kd.R_below (ra_ HO_175001.out) hb); have n1_ := Aside0.mk (blk_below (g := gb161) (o := .cells #[.int .i64 0, .slice none 0 0, .int .i64 0] 24 (0, 0)) (by (with_reducible repeat (first | refine blk_drewN ?_ _ | refine blk_drew ?_ | refine blk_alloc ?_ _)); exact BK161.out) hb); have n2_ := Aside0.mk (blk_below (g := gb174) (o := .cells #[.int .i64 t166, .slice Ao65 x175001_1.length co65, .int .i64 t170] 24 (0, 0)) (by (with_reducible repeat (first | refine blk_drewN ?_ _ | refine blk_drew ?_ | refine blk_alloc ?_ _)); exact BK174.out) hb); have n3_ := Aside0.mk (IsS128.below (by repeat (first | (with_reducible first | exact HI165.out | apply IsS128.alloc | apply IsS128.drewN | apply IsS128.drew | apply IsS128.set_0 | apply IsS128.set_1 | apply IsS128.set_2 | refine IsS128.far ?_ NB165_161.out _ | refine IsS128.far ?_ NB165_174.out _) | exact HI165.out)) hb); have n4_ := Aside0.mk (below_step (by repeat (first | (with_reducible first | exact HB.out | apply below_alloc | apply pw_below_drewN | apply below_drew1 | refine below_set ?_ (IsS128.ge HI165.out) | refine below_set ?_ GE161.out | refine below_set ?_ GE174.out) | exact HB.out)) hb); clear HO_175001; clear BK161; clear BK174; clear HI165; clear HB; have HO_175001 := n0_; have BK161 := n1_; have BK174 := n2_; have HI165 := n3_; have HB := n4_; clear n0_ n1_ n2_ n3_ n4_; have hnb67 := NB161_165.out; have hnc67 := NB165_161.out; have hcz68_0 : w66.cell? ⟨gb161, 0, none⟩ = some (.int .i64 0) := (blk_cell BK161.out 0).trans rfl; have hcz68_1 : w66.cell? ⟨gb161, 1, none⟩ = some (.slice none 0 0) := (blk_cell BK161.out 1).trans rfl; have hcz68_2 : w66.cell? ⟨gb161, 2, none⟩ = some (.int .i64 0) := (blk_cell BK161.out 2).trans rfl; have hfz68_0 := blk_frozen BK161.out 0; have hfz68_1 := blk_frozen BK161.out 1; have hfz68_2 := blk_frozen BK161.out 2))
              refine bodyPost_ret (results_ct rfl _ _ gb161 24 #[.int .i64 0, .slice none 0 0, .int .i64 0] (0, 0) _ rfl (by (with_reducible repeat (first | refine blk_drewN ?_ _ | refine blk_drew ?_ | refine blk_alloc ?_ _)); refine blk_put (cs := #[.int .i64 0, .slice none 0 0, .int .i64 0]) ?_ 2 _ rfl; (with_reducible repeat (first | refine blk_drewN ?_ _ | refine blk_drew ?_ | refine blk_alloc ?_ _)); refine blk_put (cs := #[.int .i64 0, .slice none 0 0, .int .i64 0]) ?_ 1 _ rfl; (with_reducible repeat (first | refine blk_drewN ?_ _ | refine blk_drew ?_ | refine blk_alloc ?_ _)); refine blk_put (cs := #[.int .i64 0, .slice none 0 0, .int .i64 0]) ?_ 0 _ rfl; (with_reducible repeat (first | refine blk_drewN ?_ _ | refine blk_drew ?_ | refine blk_alloc ?_ _)); exact BK161.out) Tryd.underlying24 rfl (by kernel_rfl)) rfl ?_; exact ⟨_, ew_, by first | exact Kd.R_nil _ _ _ _ _ | exact Kd.N_nil _ _ _ _ _ | exact Kd.V_nil _ _ _ _ _ | exact Kd.Q_nil _ _ _ _ _ | exact Kd.S_nil _ _ _ _ _, by repeat (first | (with_reducible first | exact HB.out | apply below_alloc | apply pw_below_drewN | apply below_drew1 | refine below_set ?_ (IsS128.ge HI165.out) | refine below_set ?_ GE161.out | refine below_set ?_ GE174.out) | exact HB.out)⟩
          · rw [if_neg c49] at H; have c49b0 : (t190 == 0) = false := beq_eq_false_iff_ne.mpr c49; have c49b1 : (t190 != 0) = true := bne_iff_ne.mpr c49; simp only [Option.some.injEq, Prod.mk.injEq] at H; obtain ⟨rfl, rfl, rfl, rfl⟩ := H; go_wp2_with (first | (go_at_call 66; (with_reducible refine (code_In_Done.calls g165 x166000_1 x166001_1 x166002_1 t190 t191 t192 t193 w _ ?side1 ?side2 A48.out).mono ?_); (case side1 => repeat (first | (with_reducible first | exact HI165.out | apply IsS128.alloc | apply IsS128.drewN | apply IsS128.drew | apply IsS128.set_0 | apply IsS128.set_1 | apply IsS128.set_2 | refine IsS128.far ?_ NB165_161.out _ | refine IsS128.far ?_ NB165_174.out _) | exact HI165.out)); (case side2 => repeat (first | (with_reducible first | exact HB.out | apply below_alloc | apply pw_below_drewN | apply below_drew1 | refine below_set ?_ (IsS128.ge HI165.out) | refine below_set ?_ GE161.out | refine below_set ?_ GE174.out) | exact HB.out)); rintro e w69 ⟨rfl, hi, hb, hk⟩; have n0_ := Aside0.mk (Kd.R_mono (Kd.R_keep (IsS128.apart (show IsS128 w _ g165 x166000_1 x166001_1 x166002_1 from by repeat (first | (with_reducible first | exact HI165.out | apply IsS128.alloc | apply IsS128.drewN | apply IsS128.drew | apply IsS128.set_0 | apply IsS128.set_1 | apply IsS128.set_2 | refine IsS128.far ?_ NB165_161.out _ | refine IsS128.far ?_ NB165_174.out _) | exact HI165.out)) (ra_ HO_175001.out) (by decide)) hk (fun _ h => h.2)) (fun _ h => h.1)); have n1_ := Aside0.mk (KeepBut.blk hk (g' := gb161) (o := .cells #[.int .i64 0, .slice none 0 0, .int .i64 0] 24 (0, 0)) (by (with_reducible repeat (first | refine blk_drewN ?_ _ | refine blk_drew ?_ | refine blk_alloc ?_ _)); exact BK161.out) NB161_165.out (by simp)); have n2_ := Aside0.mk (KeepBut.blk hk (g' := gb174) (o := .cells #[.int .i64 t166, u175001, .int .i64 t170] 24 (0, 0)) (by (with_reducible repeat (first | refine blk_drewN ?_ _ | refine blk_drew ?_ | refine blk_alloc ?_ _)); exact BK174.out) NB174_165.out (by simp)); have n3_ := Aside0.mk (hb); have n4_ := Aside0.mk (hi); clear HO_175001; clear BK161; clear BK174; clear HB; clear HI165; have HO_175001 := n0_; have BK161 := n1_; have BK174 := n2_; have HB := n3_; have HI165 := n4_; clear n0_ n1_ n2_ n3_ n4_; have hnb70 := NB161_174.out; have hnc70 := NB174_161.out; have hnb71 := NB161_165.out; have hnc71 := NB165_161.out; have hcz72_0 : w69.cell? ⟨gb161, 0, none⟩ = some (.int .i64 0) := (blk_cell BK161.out 0).trans rfl; have hcz72_1 : w69.cell? ⟨gb161, 1, none⟩ = some (.slice none 0 0) := (blk_cell BK161.out 1).trans rfl; have hcz72_2 : w69.cell? ⟨gb161, 2, none⟩ = some (.int .i64 0) := (blk_cell BK161.out 2).trans rfl; have hfz72_0 := blk_frozen BK161.out 0; have hfz72_1 := blk_frozen BK161.out 1; have hfz72_2 := blk_frozen BK161.out 2))
            refine bodyPost_ret (results_ct rfl _ _ gb161 24 #[.int .i64 0, .slice none 0 0, .int .i64 0] (0, 0) _ rfl (by (with_reducible repeat (first | refine blk_drewN ?_ _ | refine blk_drew ?_ | refine blk_alloc ?_ _)); refine blk_put (cs := #[.int .i64 0, .slice none 0 0, .int .i64 0]) ?_ 2 _ rfl; (with_reducible repeat (first | refine blk_drewN ?_ _ | refine blk_drew ?_ | refine blk_alloc ?_ _)); refine blk_put (cs := #[.int .i64 0, .slice none 0 0, .int .i64 0]) ?_ 1 _ rfl; (with_reducible repeat (first | refine blk_drewN ?_ _ | refine blk_drew ?_ | refine blk_alloc ?_ _)); refine blk_put (cs := #[.int .i64 0, .slice none 0 0, .int .i64 0]) ?_ 0 _ rfl; (with_reducible repeat (first | refine blk_drewN ?_ _ | refine blk_drew ?_ | refine blk_alloc ?_ _)); exact BK161.out) Tryd.underlying24 rfl (by kernel_rfl)) rfl ?_; exact ⟨_, ew_, by first | exact Kd.R_nil _ _ _ _ _ | exact Kd.N_nil _ _ _ _ _ | exact Kd.V_nil _ _ _ _ _ | exact Kd.Q_nil _ _ _ _ _ | exact Kd.S_nil _ _ _ _ _, by repeat (first | (with_reducible first | exact HB.out | apply below_alloc | apply pw_below_drewN | apply below_drew1 | refine below_set ?_ (IsS128.ge HI165.out) | refine below_set ?_ GE161.out | refine below_set ?_ GE174.out) | exact HB.out)⟩
        · replace c47 := Bool.eq_false_iff.mpr c47; subst c47; have H1 : (some (0, ([] : List (S46)), 0, 91)) = some (r1, r2, r3, r4) := by rw [if_neg (show ¬ (false = true) by decide)] at H; exact H
          clear H; have H := H1; clear H1; simp only [Option.some.injEq, Prod.mk.injEq] at H; obtain ⟨rfl, rfl, rfl, rfl⟩ := H; have hnb73 := NB161_174.out; have hnc73 := NB174_161.out; have hnb74 := NB161_165.out; have hnc74 := NB165_161.out; have hcz75_0 : wr.cell? ⟨gb161, 0, none⟩ = some (.int .i64 0) := (blk_cell BK161.out 0).trans rfl; have hcz75_1 : wr.cell? ⟨gb161, 1, none⟩ = some (.slice none 0 0) := (blk_cell BK161.out 1).trans rfl; have hcz75_2 : wr.cell? ⟨gb161, 2, none⟩ = some (.int .i64 0) := (blk_cell BK161.out 2).trans rfl; have hfz75_0 := blk_frozen BK161.out 0; have hfz75_1 := blk_frozen BK161.out 1; have hfz75_2 := blk_frozen BK161.out 2; go_wp2; refine bodyPost_ret (results_ct rfl _ _ gb161 24 #[.int .i64 0, .slice none 0 0, .int .i64 0] (0, 0) _ rfl (by (with_reducible repeat (first | refine blk_drewN ?_ _ | refine blk_drew ?_ | refine blk_alloc ?_ _)); refine blk_put (cs := #[.int .i64 0, .slice none 0 0, .int .i64 0]) ?_ 2 _ rfl; (with_reducible repeat (first | refine blk_drewN ?_ _ | refine blk_drew ?_ | refine blk_alloc ?_ _)); refine blk_put (cs := #[.int .i64 0, .slice none 0 0, .int .i64 0]) ?_ 1 _ rfl; (with_reducible repeat (first | refine blk_drewN ?_ _ | refine blk_drew ?_ | refine blk_alloc ?_ _)); refine blk_put (cs := #[.int .i64 0, .slice none 0 0, .int .i64 0]) ?_ 0 _ rfl; (with_reducible repeat (first | refine blk_drewN ?_ _ | refine blk_drew ?_ | refine blk_alloc ?_ _)); exact BK161.out) Tryd.underlying24 rfl (by kernel_rfl)) rfl ?_; exact ⟨_, ew_, by first | exact Kd.R_nil _ _ _ _ _ | exact Kd.N_nil _ _ _ _ _ | exact Kd.V_nil _ _ _ _ _ | exact Kd.Q_nil _ _ _ _ _ | exact Kd.S_nil _ _ _ _ _, by repeat (first | (with_reducible first | exact HB.out | apply below_alloc | apply pw_below_drewN | apply below_drew1 | refine below_set ?_ (IsS128.ge HI165.out) | refine below_set ?_ GE161.out | refine below_set ?_ GE174.out) | exact HB.out)⟩
end Go.Proofs.YthemhfloablccaaDoor.Pr
end

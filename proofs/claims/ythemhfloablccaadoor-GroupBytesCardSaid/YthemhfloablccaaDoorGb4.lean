/- Joined texts (pack.py): what the statement's proof needs, part 4. No condition. -/
import Derived.Below
import Derived.Deep.Draws
import Derived.Deep.AppendLies
import Derived.Maps.AppendAt
import Derived.OwnWalk
import Derived.Laws.BytesArg
import Derived.Laws.MakeOwn
import Derived.Laws.OwnMore
import Derived.Deep.OwnRows
import Derived.Tactics
import Derived.Lib.ConvBytes
import Derived.Laws.Slices
import Derived.WalkKit
import Derived.KernelRfl
import Derived.RowKit3
import Derived.Deep.LoopGhost
import Derived.Deep.QuietTactic
import Derived.BigQuiet
import Derived.WideLaws
import Derived.Deep.DeepCutAuto
import Derived.Deep.CutBlock
import Derived.Deep.RegionHeld3
import Derived.Laws.Rows
import Derived.Lib.AppendStr
import Derived.ArgAppend
import Derived.Laws.IdiomCopy
import Derived.RowKit
import Derived.OrdersHeld
import Derived.Laws.BitsLemmas
import Derived.Laws.StructEq
import Derived.Deep.Slices
import Derived.ChangeArms
import Derived.OpenShut
import Derived.Test.YthemhfloablccaaDoorProg
import Derived.Deep.RegionLaw
import Derived.StillTailTactics
import Derived.Deep.Light
import Derived.Deep.RegionHeldLaw
import Derived.Deep.DrawnRows
import Derived.Test.YthemhfloablccaaDoorTie
import Derived.Test.YthemhfloablccaaDoorCards
import Derived.LaidMore
import Derived.Lay
import Derived.SevenTiedAt
import Derived.Stop.Joined
import Derived.ProofKit
import Derived.ShutString
import Derived.ChangeOld
import Derived.SizedLaws
import Derived.Carry
import Derived.Test.YthemhfloablccaaDoorGb1
import Derived.Test.YthemhfloablccaaDoorGb2
import Derived.Test.YthemhfloablccaaDoorGb3
set_option linter.unusedVariables false
set_option linter.unusedSimpArgs false
section
namespace Go.Proofs.YthemhfloablccaaDoor.Pr
open Go.RowKit Go.Deep Go.Proofs.YthemhfloablccaaDoorW.PrintWords Go.Proofs.YthemhfloablccaaDoorW.PrintLast Go.Proofs.YthemhfloablccaaDoorW.PrintMore
set_option maxHeartbeats 4000000
def DAt (w0 : World) (gb g cap ob : Nat) (ov : Obj) (E : Int) (l : List Mem) (O : Int) (rb : Nat) (rv : Array Value) (w : World) : Prop :=
 GrpAt w0 gb g cap ob ov E l O w ∧ w.heap[rb]? = some (.cells rv 31 (0, 0))
section
variable {w0 w w' : World} {gb g cap rb ob : Nat} {ov : Obj} {E O : Int} {l : List Mem} {rv : Array Value}
theorem DAt.below (h : DAt w0 gb g cap ob ov E l O rb rv w) (hb : Below w.heap.size w w') : DAt w0 gb g cap ob ov E l O rb rv w' := ⟨h.1.below hb, blk_below h.2 hb⟩
theorem DAt.frozen (h : DAt w0 gb g cap ob ov E l O rb rv w) : w.frozen? ⟨gb, 0, none⟩ = false ∧ w.frozen? ⟨gb, 2, none⟩ = false ∧ ∀ j, w.frozen? ⟨g, j, none⟩ = false := by
 refine ⟨blk_frozen h.1.2.1 0, blk_frozen h.1.2.1 2, fun j => ?_⟩
 obtain ⟨cs, hh, _⟩ := h.1.2.2.1
 exact blk_frozen hh j
end
section
variable {w0 w : World} {gb g cap rb ob : Nat} {ov : Obj} {E O : Int} {l : List Mem} {kind frm count seq : Int} {head : ByteArray} {o0 o1 o2 o3 o4 o5 o6 : Int} {o7 o8 : ByteArray} {who : Int} {wv : Value}
theorem DAt.cells (h : DAt w0 gb g cap ob ov E l O rb (RecV kind frm count seq head o0 o1 o2 o3 o4 o5 o6 o7 o8 who wv) w) :
  w.cell? ⟨gb, 0, none⟩ = some (.int .i64 E) ∧ w.cell? ⟨gb, 1, none⟩ = some (.slice (some ⟨g, 0, none⟩) l.length cap) ∧ w.cell? ⟨gb, 2, none⟩ = some (.int .i64 O) ∧
  w.cell? ⟨rb, 0, none⟩ = some (.int .i64 kind) ∧ w.cell? ⟨rb, 1, none⟩ = some (.int .i64 frm) ∧ w.cell? ⟨rb, 14, none⟩ = some (.int .i64 who) :=
 ⟨h.1.cells.1, h.1.cells.2.1, h.1.cells.2.2, (blk_cell h.2 0).trans rfl, (blk_cell h.2 1).trans rfl, (blk_cell h.2 14).trans rfl⟩
end
set_option maxRecDepth 100000 in
theorem does_calls (w0 : World) (gb g cap ob : Nat) (ov : Obj) (E O ep : Int) (l : List Mem) (kind frm count seq : Int) (head : ByteArray) (o0 o1 o2 o3 o4 o5 o6 : Int) (o7 o8 : ByteArray) (who : Int) (wv : Value) (w : World)
  (hG : GrpAt w0 gb g cap ob ov E l O w) (hl : l.length = 6) (hE : 1 ≤ E ∧ E ≤ 1099511627775) (hO : 0 ≤ O ∧ O ≤ 500) (hw : kind = 2 ∨ kind = 3 → 1 ≤ who ∧ who ≤ 6) (hk : 1 ≤ kind ∧ kind ≤ 4) :
  Calls Tryd.prog 48 #[.pointer (some ⟨gb, 0, none⟩), .int .i64 ep, .agg (RecV kind frm count seq head o0 o1 o2 o3 o4 o5 o6 o7 o8 who wv)] w fun e w' =>
   e = .returned (.bool (doesM E l O ep kind frm who).2.2.2) ∧ GrpAt w0 gb g cap ob ov (doesM E l O ep kind frm who).1 (doesM E l O ep kind frm who).2.1 (doesM E l O ep kind frm who).2.2.1 w' := by
 have HG := Aside0.mk hG
 have hm : l.length ≤ 1000000 := by omega
 have HI := Aside0.mk (fun (W : World) (h : GrpAt w0 gb g cap ob ov E l O W) (x : Int) => in_at h hm x)
 have HL := Aside0.mk hl
 have HE := Aside0.mk hE
 have HO := Aside0.mk hO
 have HW := Aside0.mk hw
 have HK := Aside0.mk hk
 have HD0 := Aside0.mk (show DAt w0 gb g cap ob ov E l O w.heap.size (RecV kind frm count seq head o0 o1 o2 o3 o4 o5 o6 o7 o8 who wv) (w.alloc (.cells (RecV kind frm count seq head o0 o1 o2 o3 o4 o5 o6 o7 o8 who wv) 31)) from ⟨hG.below (below_alloc (Below.refl _ _) _), heap_alloc_new w _⟩)
 clear hm hG hl hE hO hw HG hk
 go_enter Tryd.func48, Tryd.ntmps48
 go_upto_block 0 with (fail)
 generalize w.alloc (.cells (RecV kind frm count seq head o0 o1 o2 o3 o4 o5 o6 o7 o8 who wv) 31) = w1 at HD0 ⊢
 generalize w.heap.size = rb at HD0 ⊢
 go_cut [7] (fun s wx => Aside0 (frm = 1 ∧ ep = E ∧ E < 1099511627775 ∧ kind ≠ 1 ∧ ¬ (l.any (isM frm) = false) ∧ (kind = 2 → l.any (isM who) = false) ∧ (kind = 3 → who ≠ 1 ∧ l.any (isM who) = true)) ∧ Aside0 (DAt w0 gb g cap ob ov E l O rb (RecV kind frm count seq head o0 o1 o2 o3 o4 o5 o6 o7 o8 who wv) wx))
 case first =>
  go_upto_region 1 with (fail)
  go_cut [7] (fun s wx => s = .bool (!(l.any (isM frm))) ∧ Aside0 (DAt w0 gb g cap ob ov E l O rb (RecV kind frm count seq head o0 o1 o2 o3 o4 o5 o6 o7 o8 who wv) wx))
  case first =>
   obtain ⟨x0, x1, x2, y0, y1, y2⟩ := HD0.out.cells
   have HDD := Aside0.mk (HD0.out.below (below_drew1 (Below.refl _ _)))
   have HGG := Aside0.mk HDD.out.1
   go_region_held3 (fun w' => w'.cell? ⟨gb, 0, none⟩ = some (.int .i64 E) ∧ w'.cell? ⟨gb, 1, none⟩ = some (.slice (some ⟨g, 0, none⟩) l.length cap) ∧ w'.cell? ⟨gb, 2, none⟩ = some (.int .i64 O) ∧ w'.cell? ⟨rb, 1, none⟩ = some (.int .i64 frm))
    (first | go_keep | exact ⟨x0, x1, x2, y1⟩)
    (first | (go_at_call 23; (with_reducible refine (HI.out _ HGG.out frm).mono ?_); rintro e2 w2 ⟨rfl, hg2, hb2⟩; have HD2 := Aside0.mk (HDD.out.below hb2); clear hg2 hb2 x0 x1 x2 y0 y1 y2; obtain ⟨x0, x1, x2, y0, y1, y2⟩ := HD2.out.cells))
   go_wp2_with (fail)
   go_meet
   exact ⟨rfl, HD2⟩
  case rest =>
   obtain ⟨rfl, HD⟩ := hcut
   clear HD0
   obtain ⟨x0, x1, x2, y0, y1, y2⟩ := HD.out.cells
   cases hi : l.any (isM frm)
   ·have hv : doesM E l O ep kind frm who = (E, l, O, false) := by unfold doesM; rw [if_pos hi]
    have HV := Aside0.mk hv
    clear hv hi
    go_wp2_with (fail)
    go_ret
    (rw [HV.out]; exact ⟨rfl, HD.out.1⟩)
   ·have hi' : ¬ (l.any (isM frm) = false) := by rw [hi]; decide
    by_cases h1 : kind = 1
    ·subst h1
     by_cases hO : O < 500
     ·have hv : doesM E l O ep 1 frm who = (E, l, O + 1, true) := by unfold doesM; rw [if_neg hi', if_pos rfl, if_pos hO]
      have HV := Aside0.mk hv
      have d1 : decide (O < 500) = true := decide_eq_true hO
      have e1 : wrap64 (O + 1) = O + 1 := by have := HO.out; unfold wrap64; omega
      obtain ⟨z0, z1, z2⟩ := HD.out.frozen
      have HF := Aside0.mk (HD.out.1.setO (O + 1))
      clear hv hi hi' hO z2
      go_wp2_with (fail)
      go_ret
      (rw [HV.out]; exact ⟨rfl, HF.out⟩)
     ·have hv : doesM E l O ep 1 frm who = (E, l, O, false) := by unfold doesM; rw [if_neg hi', if_pos rfl, if_neg hO]
      have HV := Aside0.mk hv
      have d1 : decide (O < 500) = false := decide_eq_false hO
      clear hv hi hi' hO
      go_wp2_with (fail)
      go_ret
      (rw [HV.out]; exact ⟨rfl, HD.out.1⟩)
    ·have d1 : (kind == 1) = false := beq_eq_false_iff_ne.2 h1
     by_cases hc : frm ≠ 1 ∨ ep ≠ E ∨ 1099511627775 ≤ E
     ·have hv : doesM E l O ep kind frm who = (E, l, O, false) := by unfold doesM; rw [if_neg hi', if_neg h1, if_pos hc]
      have HV := Aside0.mk hv
      clear hv
      by_cases h2 : frm = 1
      ·have d2 : (frm != 1) = false := by rw [h2]; rfl
       by_cases h3 : ep = E
       ·have d3 : (ep != E) = false := by rw [h3]; exact bne_self_eq_false E
        have d4 : decide (1099511627775 ≤ E) = true := decide_eq_true (by omega)
        clear hc h1 h2 h3 hi hi'
        go_wp2_with (fail)
        go_ret
        (rw [HV.out]; exact ⟨rfl, HD.out.1⟩)
       ·have d3 : (ep != E) = true := bne_iff_ne.2 h3
        clear hc h1 h2 h3 hi hi'
        go_wp2_with (fail)
        go_ret
        (rw [HV.out]; exact ⟨rfl, HD.out.1⟩)
      ·have d2 : (frm != 1) = true := bne_iff_ne.2 h2
       clear hc h1 h2 hi hi'
       go_wp2_with (fail)
       go_ret
       (rw [HV.out]; exact ⟨rfl, HD.out.1⟩)
     ·obtain ⟨h2, h3, h4⟩ : frm = 1 ∧ ep = E ∧ E < 1099511627775 := by omega
      subst h2 h3
      have d4 : decide (1099511627775 ≤ ep) = false := decide_eq_false (by omega)
      have e1 : wrap64 (ep + 1) = ep + 1 := by have := HE.out; unfold wrap64; omega
      have D1 := Aside0.mk d1
      have HC := Aside0.mk hc
      have H1 := Aside0.mk h1
      have HI1 := Aside0.mk hi'
      have E1 := Aside0.mk e1
      have HX := Aside0.mk h4
      have HIW := Aside0.mk (fun W h => HI.out W h who)
      clear hc h1 hi hi' h4 e1
      go_upto_region 8 with (fail)
      clear d4
      by_cases k2 : kind = 2
      ·subst k2
       cases hi2 : l.any (isM who)
       ·have I2 := Aside0.mk hi2
        rw [hi2] at HIW
        clear hi2
        have HDD := Aside0.mk (HD.out.below (below_drew1 (Below.refl _ _)))
        have HGG := Aside0.mk HDD.out.1
        go_region_held3 (fun w' => w'.cell? ⟨gb, 0, none⟩ = some (.int .i64 ep) ∧ w'.cell? ⟨gb, 1, none⟩ = some (.slice (some ⟨g, 0, none⟩) l.length cap) ∧ w'.cell? ⟨gb, 2, none⟩ = some (.int .i64 O) ∧ w'.cell? ⟨rb, 0, none⟩ = some (.int .i64 2) ∧ w'.cell? ⟨rb, 14, none⟩ = some (.int .i64 who))
         (first | go_keep | exact ⟨x0, x1, x2, y0, y2⟩)
         (first | (go_at_call 23; (with_reducible refine (HIW.out _ HGG.out).mono ?_); rintro e2 w2 ⟨rfl, hg2, hb2⟩; have HD2 := Aside0.mk (HDD.out.below hb2); clear hg2 hb2 x0 x1 x2 y0 y1 y2; obtain ⟨x0, x1, x2, y0, y1, y2⟩ := HD2.out.cells))
        clear HDD HGG HD
        go_upto_region 9 with (fail)
        refine start_ (n := 18) (S := fun w' => w'.cell? ⟨rb, 0, none⟩ = some (.int .i64 2) ∧ w'.cell? ⟨rb, 14, none⟩ = some (.int .i64 who)) (ds := []) #[false, false, false, false, false, false, false, false, false, false, false, false, false, false, false, false, false, false] (by kernel_rfl) rfl rfl ⟨y0, y2⟩ (fun hHeld => ?_)
        refine pz_ 0 69 rfl rfl (by kernel_rfl) ?_
        refine take_ (i := 1) (N := some 70) (v := ?_) (a' := ?_) #[true, true, false, false, false, false, false, false, false, false, false, false, false, false, false, false, false, false] rfl rfl (by kernel_rfl) (fun _ _ _ h => h) (Or.inl ⟨by rfl, ?_⟩) hHeld ?_ ?_
        rotate_left
        ·rintro w' ⟨s0, s1⟩
         go_simp
         with_reducible rfl
        rotate_left
        ·simp only [Act.put, List.setIfInBounds_toArray, List.set_cons_zero, List.set_cons_succ, i64_w, i32_w]
         rfl
        refine pz_ 2 71 rfl rfl (by kernel_rfl) ?_
        refine pz_ 3 72 rfl rfl (by kernel_rfl) ?_
        refine pure_ (i := 4) (N := some 73) (v := undef) (a' := ?_) #[true, true, true, true, true, false, false, false, false, false, false, false, false, false, false, false, false, false] rfl rfl (by kernel_rfl) (fun _ _ _ h => h) (Or.inr ⟨by rfl, rfl⟩) ?_ ?_
        rotate_left
        ·simp only [Act.put, List.setIfInBounds_toArray, List.set_cons_zero, List.set_cons_succ, i64_w, i32_w]
         rfl
        refine pure_ (i := 5) (N := some 74) (v := undef) (a' := ?_) #[true, true, true, true, true, true, false, false, false, false, false, false, false, false, false, false, false, false] rfl rfl (by kernel_rfl) (fun _ _ _ h => h) (Or.inr ⟨by rfl, rfl⟩) ?_ ?_
        rotate_left
        ·simp only [Act.put, List.setIfInBounds_toArray, List.set_cons_zero, List.set_cons_succ, i64_w, i32_w]
         rfl
        refine pure_ (i := 6) (N := some 75) (v := undef) (a' := ?_) #[true, true, true, true, true, true, true, false, false, false, false, false, false, false, false, false, false, false] rfl rfl (by kernel_rfl) (fun _ _ _ h => h) (Or.inr ⟨by rfl, rfl⟩) ?_ ?_
        rotate_left
        ·simp only [Act.put, List.setIfInBounds_toArray, List.set_cons_zero, List.set_cons_succ, i64_w, i32_w]
         rfl
        refine pure_ (i := 7) (N := some 76) (v := undef) (a' := ?_) #[true, true, true, true, true, true, true, true, false, false, false, false, false, false, false, false, false, false] rfl rfl (by kernel_rfl) (fun _ _ _ h => h) (Or.inr ⟨by rfl, rfl⟩) ?_ ?_
        rotate_left
        ·simp only [Act.put, List.setIfInBounds_toArray, List.set_cons_zero, List.set_cons_succ, i64_w, i32_w]
         rfl
        refine pure_ (i := 8) (N := some 77) (v := undef) (a' := ?_) #[true, true, true, true, true, true, true, true, true, false, false, false, false, false, false, false, false, false] rfl rfl (by kernel_rfl) (fun _ _ _ h => h) (Or.inr ⟨by rfl, rfl⟩) ?_ ?_
        rotate_left
        ·simp only [Act.put, List.setIfInBounds_toArray, List.set_cons_zero, List.set_cons_succ, i64_w, i32_w]
         rfl
        refine pure_ (i := 9) (N := some 78) (v := undef) (a' := ?_) #[true, true, true, true, true, true, true, true, true, true, false, false, false, false, false, false, false, false] rfl rfl (by kernel_rfl) (fun _ _ _ h => h) (Or.inr ⟨by rfl, rfl⟩) ?_ ?_
        rotate_left
        ·simp only [Act.put, List.setIfInBounds_toArray, List.set_cons_zero, List.set_cons_succ, i64_w, i32_w]
         rfl
        refine pure_ (i := 10) (N := some 79) (v := undef) (a' := ?_) #[true, true, true, true, true, true, true, true, true, true, true, false, false, false, false, false, false, false] rfl rfl (by kernel_rfl) (fun _ _ _ h => h) (Or.inr ⟨by rfl, rfl⟩) ?_ ?_
        rotate_left
        ·simp only [Act.put, List.setIfInBounds_toArray, List.set_cons_zero, List.set_cons_succ, i64_w, i32_w]
         rfl
        refine pure_ (i := 11) (N := some 80) (v := undef) (a' := ?_) #[true, true, true, true, true, true, true, true, true, true, true, true, false, false, false, false, false, false] rfl rfl (by kernel_rfl) (fun _ _ _ h => h) (Or.inr ⟨by rfl, rfl⟩) ?_ ?_
        rotate_left
        ·simp only [Act.put, List.setIfInBounds_toArray, List.set_cons_zero, List.set_cons_succ, i64_w, i32_w]
         rfl
        refine pure_ (i := 12) (N := some 81) (v := undef) (a' := ?_) #[true, true, true, true, true, true, true, true, true, true, true, true, true, false, false, false, false, false] rfl rfl (by kernel_rfl) (fun _ _ _ h => h) (Or.inr ⟨by rfl, rfl⟩) ?_ ?_
        rotate_left
        ·simp only [Act.put, List.setIfInBounds_toArray, List.set_cons_zero, List.set_cons_succ, i64_w, i32_w]
         rfl
        refine pure_ (i := 13) (N := some 82) (v := undef) (a' := ?_) #[true, true, true, true, true, true, true, true, true, true, true, true, true, true, false, false, false, false] rfl rfl (by kernel_rfl) (fun _ _ _ h => h) (Or.inr ⟨by rfl, rfl⟩) ?_ ?_
        rotate_left
        ·simp only [Act.put, List.setIfInBounds_toArray, List.set_cons_zero, List.set_cons_succ, i64_w, i32_w]
         rfl
        refine pure_ (i := 14) (N := some 83) (v := undef) (a' := ?_) #[true, true, true, true, true, true, true, true, true, true, true, true, true, true, true, false, false, false] rfl rfl (by kernel_rfl) (fun _ _ _ h => h) (Or.inr ⟨by rfl, rfl⟩) ?_ ?_
        rotate_left
        ·simp only [Act.put, List.setIfInBounds_toArray, List.set_cons_zero, List.set_cons_succ, i64_w, i32_w]
         rfl
        refine pure_ (i := 15) (N := some 84) (v := undef) (a' := ?_) #[true, true, true, true, true, true, true, true, true, true, true, true, true, true, true, true, false, false] rfl rfl (by kernel_rfl) (fun _ _ _ h => h) (Or.inr ⟨by rfl, rfl⟩) ?_ ?_
        rotate_left
        ·simp only [Act.put, List.setIfInBounds_toArray, List.set_cons_zero, List.set_cons_succ, i64_w, i32_w]
         rfl
        refine pz_ 16 85 rfl rfl (by kernel_rfl) ?_
        refine pz_ 17 57 rfl rfl (by kernel_rfl) ?_
        refine done_ (by kernel_rfl) ?_
        have HD3 := Aside0.mk (HD2.out.below (below_drew1 (Below.refl _ _)))
        clear x0 x1 x2 y0 y1 y2 HD2
        obtain ⟨x0, x1, x2, y0, y1, y2⟩ := HD3.out.cells
        go_wp2_with (fail)
        go_meet
        exact ⟨⟨trivial, trivial, HX.out, H1.out, HI1.out, fun _ => I2.out, fun q => absurd q (by decide)⟩, HD3⟩
       ·have hv : doesM ep l O ep 2 1 who = (ep, l, O, false) := by unfold doesM; rw [if_neg HI1.out, if_neg (by decide), if_neg HC.out, if_pos rfl, if_pos hi2]
        have HV := Aside0.mk hv
        rw [hi2] at HIW
        clear hv hi2
        have HDD := Aside0.mk (HD.out.below (below_drew1 (Below.refl _ _)))
        have HGG := Aside0.mk HDD.out.1
        go_region_held3 (fun w' => w'.cell? ⟨gb, 0, none⟩ = some (.int .i64 ep) ∧ w'.cell? ⟨gb, 1, none⟩ = some (.slice (some ⟨g, 0, none⟩) l.length cap) ∧ w'.cell? ⟨gb, 2, none⟩ = some (.int .i64 O) ∧ w'.cell? ⟨rb, 0, none⟩ = some (.int .i64 2) ∧ w'.cell? ⟨rb, 14, none⟩ = some (.int .i64 who))
         (first | go_keep | exact ⟨x0, x1, x2, y0, y2⟩)
         (first | (go_at_call 23; (with_reducible refine (HIW.out _ HGG.out).mono ?_); rintro e2 w2 ⟨rfl, hg2, hb2⟩; have HD2 := Aside0.mk (HDD.out.below hb2); clear hg2 hb2 x0 x1 x2 y0 y1 y2; obtain ⟨x0, x1, x2, y0, y1, y2⟩ := HD2.out.cells))
        clear HDD HGG HD
        go_wp2_with (fail)
        go_ret
        (rw [HV.out]; exact ⟨rfl, HD2.out.1⟩)
      ·have d2 : (kind == 2) = false := beq_eq_false_iff_ne.2 k2
       have d1 := D1.out
       refine start_ (n := 12) (S := fun w' => w'.cell? ⟨rb, 0, none⟩ = some (.int .i64 kind) ∧ w'.cell? ⟨rb, 14, none⟩ = some (.int .i64 who)) (ds := []) #[false, false, false, false, false, false, false, false, false, false, false, false] (by kernel_rfl) rfl rfl ⟨y0, y2⟩ (fun hHeld => ?_)
       refine pz_ 0 58 rfl rfl (by kernel_rfl) ?_
       refine take_ (i := 1) (N := some 59) (v := ?_) (a' := ?_) #[true, true, false, false, false, false, false, false, false, false, false, false] rfl rfl (by kernel_rfl) (fun _ _ _ h => h) (Or.inl ⟨by rfl, ?_⟩) hHeld ?_ ?_
       rotate_left
       ·rintro w' ⟨s0, s1⟩
        go_simp
        with_reducible rfl
       rotate_left
       ·simp only [Act.put, List.setIfInBounds_toArray, List.set_cons_zero, List.set_cons_succ, i64_w, i32_w]
        rfl
       refine pz_ 2 60 rfl rfl (by kernel_rfl) ?_
       refine pz_ 3 61 rfl rfl (by kernel_rfl) ?_
       refine pure_ (i := 4) (N := some 62) (v := undef) (a' := ?_) #[true, true, true, true, true, false, false, false, false, false, false, false] rfl rfl (by kernel_rfl) (fun _ _ _ h => h) (Or.inr ⟨by rfl, rfl⟩) ?_ ?_
       rotate_left
       ·simp only [Act.put, List.setIfInBounds_toArray, List.set_cons_zero, List.set_cons_succ, i64_w, i32_w]
        rfl
       refine pure_ (i := 5) (N := some 63) (v := undef) (a' := ?_) #[true, true, true, true, true, true, false, false, false, false, false, false] rfl rfl (by kernel_rfl) (fun _ _ _ h => h) (Or.inr ⟨by rfl, rfl⟩) ?_ ?_
       rotate_left
       ·simp only [Act.put, List.setIfInBounds_toArray, List.set_cons_zero, List.set_cons_succ, i64_w, i32_w]
        rfl
       refine pure_ (i := 6) (N := some 64) (v := undef) (a' := ?_) #[true, true, true, true, true, true, true, false, false, false, false, false] rfl rfl (by kernel_rfl) (fun _ _ _ h => h) (Or.inr ⟨by rfl, rfl⟩) ?_ ?_
       rotate_left
       ·simp only [Act.put, List.setIfInBounds_toArray, List.set_cons_zero, List.set_cons_succ, i64_w, i32_w]
        rfl
       refine pure_ (i := 7) (N := some 65) (v := undef) (a' := ?_) #[true, true, true, true, true, true, true, true, false, false, false, false] rfl rfl (by kernel_rfl) (fun _ _ _ h => h) (Or.inr ⟨by rfl, rfl⟩) ?_ ?_
       rotate_left
       ·simp only [Act.put, List.setIfInBounds_toArray, List.set_cons_zero, List.set_cons_succ, i64_w, i32_w]
        rfl
       refine pure_ (i := 8) (N := some 66) (v := undef) (a' := ?_) #[true, true, true, true, true, true, true, true, true, false, false, false] rfl rfl (by kernel_rfl) (fun _ _ _ h => h) (Or.inr ⟨by rfl, rfl⟩) ?_ ?_
       rotate_left
       ·simp only [Act.put, List.setIfInBounds_toArray, List.set_cons_zero, List.set_cons_succ, i64_w, i32_w]
        rfl
       refine pure_ (i := 9) (N := some 67) (v := undef) (a' := ?_) #[true, true, true, true, true, true, true, true, true, true, false, false] rfl rfl (by kernel_rfl) (fun _ _ _ h => h) (Or.inr ⟨by rfl, rfl⟩) ?_ ?_
       rotate_left
       ·simp only [Act.put, List.setIfInBounds_toArray, List.set_cons_zero, List.set_cons_succ, i64_w, i32_w]
        rfl
       refine pz_ 10 68 rfl rfl (by kernel_rfl) ?_
       refine pz_ 11 57 rfl rfl (by kernel_rfl) ?_
       refine done_ (by kernel_rfl) ?_
       have HD2 := Aside0.mk (HD.out.below (below_drew1 (Below.refl _ _)))
       clear x0 x1 x2 y0 y1 y2 HD
       obtain ⟨x0, x1, x2, y0, y1, y2⟩ := HD2.out.cells
       go_upto_region 9 with (fail)
       by_cases k3 : kind = 3
       ·subst k3
        clear d2 d1
        by_cases kw : who = 1
        ·subst kw
         have hv : doesM ep l O ep 3 1 1 = (ep, l, O, false) := by unfold doesM; rw [if_neg HI1.out, if_neg (by decide), if_neg HC.out, if_neg (by decide), if_pos rfl, if_pos (.inl rfl)]
         have HV := Aside0.mk hv
         clear hv
         refine start_ (n := 18) (S := fun w' => w'.cell? ⟨rb, 0, none⟩ = some (.int .i64 3) ∧ w'.cell? ⟨rb, 14, none⟩ = some (.int .i64 1)) (ds := []) #[false, false, false, false, false, false, false, false, false, false, false, false, false, false, false, false, false, false] (by kernel_rfl) rfl rfl ⟨y0, y2⟩ (fun hHeld => ?_)
         refine pz_ 0 69 rfl rfl (by kernel_rfl) ?_
         refine take_ (i := 1) (N := some 70) (v := ?_) (a' := ?_) #[true, true, false, false, false, false, false, false, false, false, false, false, false, false, false, false, false, false] rfl rfl (by kernel_rfl) (fun _ _ _ h => h) (Or.inl ⟨by rfl, ?_⟩) hHeld ?_ ?_
         rotate_left
         ·rintro w' ⟨s0, s1⟩
          go_simp
          with_reducible rfl
         rotate_left
         ·simp only [Act.put, List.setIfInBounds_toArray, List.set_cons_zero, List.set_cons_succ, i64_w, i32_w]
          rfl
         refine pz_ 2 71 rfl rfl (by kernel_rfl) ?_
         refine pz_ 3 72 rfl rfl (by kernel_rfl) ?_
         refine pz_ 4 73 rfl rfl (by kernel_rfl) ?_
         refine take_ (i := 5) (N := some 74) (v := ?_) (a' := ?_) #[true, true, true, true, true, true, false, false, false, false, false, false, false, false, false, false, false, false] rfl rfl (by kernel_rfl) (fun _ _ _ h => h) (Or.inl ⟨by rfl, ?_⟩) hHeld ?_ ?_
         rotate_left
         ·rintro w' ⟨s0, s1⟩
          go_simp
          with_reducible rfl
         rotate_left
         ·simp only [Act.put, List.setIfInBounds_toArray, List.set_cons_zero, List.set_cons_succ, i64_w, i32_w]
          rfl
         refine pz_ 6 75 rfl rfl (by kernel_rfl) ?_
         refine pz_ 7 76 rfl rfl (by kernel_rfl) ?_
         refine pure_ (i := 8) (N := some 77) (v := undef) (a' := ?_) #[true, true, true, true, true, true, true, true, true, false, false, false, false, false, false, false, false, false] rfl rfl (by kernel_rfl) (fun _ _ _ h => h) (Or.inr ⟨by rfl, rfl⟩) ?_ ?_
         rotate_left
         ·simp only [Act.put, List.setIfInBounds_toArray, List.set_cons_zero, List.set_cons_succ, i64_w, i32_w]
          rfl
         refine pure_ (i := 9) (N := some 78) (v := undef) (a' := ?_) #[true, true, true, true, true, true, true, true, true, true, false, false, false, false, false, false, false, false] rfl rfl (by kernel_rfl) (fun _ _ _ h => h) (Or.inr ⟨by rfl, rfl⟩) ?_ ?_
         rotate_left
         ·simp only [Act.put, List.setIfInBounds_toArray, List.set_cons_zero, List.set_cons_succ, i64_w, i32_w]
          rfl
         refine pure_ (i := 10) (N := some 79) (v := undef) (a' := ?_) #[true, true, true, true, true, true, true, true, true, true, true, false, false, false, false, false, false, false] rfl rfl (by kernel_rfl) (fun _ _ _ h => h) (Or.inr ⟨by rfl, rfl⟩) ?_ ?_
         rotate_left
         ·simp only [Act.put, List.setIfInBounds_toArray, List.set_cons_zero, List.set_cons_succ, i64_w, i32_w]
          rfl
         refine pure_ (i := 11) (N := some 80) (v := undef) (a' := ?_) #[true, true, true, true, true, true, true, true, true, true, true, true, false, false, false, false, false, false] rfl rfl (by kernel_rfl) (fun _ _ _ h => h) (Or.inr ⟨by rfl, rfl⟩) ?_ ?_
         rotate_left
         ·simp only [Act.put, List.setIfInBounds_toArray, List.set_cons_zero, List.set_cons_succ, i64_w, i32_w]
          rfl
         refine pure_ (i := 12) (N := some 81) (v := undef) (a' := ?_) #[true, true, true, true, true, true, true, true, true, true, true, true, true, false, false, false, false, false] rfl rfl (by kernel_rfl) (fun _ _ _ h => h) (Or.inr ⟨by rfl, rfl⟩) ?_ ?_
         rotate_left
         ·simp only [Act.put, List.setIfInBounds_toArray, List.set_cons_zero, List.set_cons_succ, i64_w, i32_w]
          rfl
         refine pure_ (i := 13) (N := some 82) (v := undef) (a' := ?_) #[true, true, true, true, true, true, true, true, true, true, true, true, true, true, false, false, false, false] rfl rfl (by kernel_rfl) (fun _ _ _ h => h) (Or.inr ⟨by rfl, rfl⟩) ?_ ?_
         rotate_left
         ·simp only [Act.put, List.setIfInBounds_toArray, List.set_cons_zero, List.set_cons_succ, i64_w, i32_w]
          rfl
         refine pure_ (i := 14) (N := some 83) (v := undef) (a' := ?_) #[true, true, true, true, true, true, true, true, true, true, true, true, true, true, true, false, false, false] rfl rfl (by kernel_rfl) (fun _ _ _ h => h) (Or.inr ⟨by rfl, rfl⟩) ?_ ?_
         rotate_left
         ·simp only [Act.put, List.setIfInBounds_toArray, List.set_cons_zero, List.set_cons_succ, i64_w, i32_w]
          rfl
         refine pz_ 15 84 rfl rfl (by kernel_rfl) ?_
         refine pz_ 16 85 rfl rfl (by kernel_rfl) ?_
         refine pz_ 17 57 rfl rfl (by kernel_rfl) ?_
         refine done_ (by kernel_rfl) ?_
         have HD3 := Aside0.mk (HD2.out.below (below_drew1 (Below.refl _ _)))
         clear x0 x1 x2 y0 y1 y2 HD2
         obtain ⟨x0, x1, x2, y0, y1, y2⟩ := HD3.out.cells
         go_wp2_with (fail)
         go_ret
         (rw [HV.out]; exact ⟨rfl, HD3.out.1⟩)
        ·have d5 : (who == 1) = false := beq_eq_false_iff_ne.2 kw
         have KW := Aside0.mk kw
         clear kw
         cases hi2 : l.any (isM who)
         ·have hv : doesM ep l O ep 3 1 who = (ep, l, O, false) := by unfold doesM; rw [if_neg HI1.out, if_neg (by decide), if_neg HC.out, if_neg (by decide), if_pos rfl, if_pos (.inr hi2)]
          have HV := Aside0.mk hv
          rw [hi2] at HIW
          clear hv hi2
          have HDD := Aside0.mk (HD2.out.below (below_drew1 (Below.refl _ _)))
          have HGG := Aside0.mk HDD.out.1
          go_region_held3 (fun w' => w'.cell? ⟨gb, 0, none⟩ = some (.int .i64 ep) ∧ w'.cell? ⟨gb, 1, none⟩ = some (.slice (some ⟨g, 0, none⟩) l.length cap) ∧ w'.cell? ⟨gb, 2, none⟩ = some (.int .i64 O) ∧ w'.cell? ⟨rb, 0, none⟩ = some (.int .i64 3) ∧ w'.cell? ⟨rb, 14, none⟩ = some (.int .i64 who))
           (first | go_keep | exact ⟨x0, x1, x2, y0, y2⟩)
           (first | (go_at_call 23; (with_reducible refine (HIW.out _ HGG.out).mono ?_); rintro e2 w2 ⟨rfl, hg2, hb2⟩; have HD3 := Aside0.mk (HDD.out.below hb2); clear hg2 hb2 x0 x1 x2 y0 y1 y2; obtain ⟨x0, x1, x2, y0, y1, y2⟩ := HD3.out.cells))
          clear HDD HGG HD2
          go_wp2_with (fail)
          go_ret
          (rw [HV.out]; exact ⟨rfl, HD3.out.1⟩)
         ·have I2 := Aside0.mk hi2
          rw [hi2] at HIW
          clear hi2
          have HDD := Aside0.mk (HD2.out.below (below_drew1 (Below.refl _ _)))
          have HGG := Aside0.mk HDD.out.1
          go_region_held3 (fun w' => w'.cell? ⟨gb, 0, none⟩ = some (.int .i64 ep) ∧ w'.cell? ⟨gb, 1, none⟩ = some (.slice (some ⟨g, 0, none⟩) l.length cap) ∧ w'.cell? ⟨gb, 2, none⟩ = some (.int .i64 O) ∧ w'.cell? ⟨rb, 0, none⟩ = some (.int .i64 3) ∧ w'.cell? ⟨rb, 14, none⟩ = some (.int .i64 who))
           (first | go_keep | exact ⟨x0, x1, x2, y0, y2⟩)
           (first | (go_at_call 23; (with_reducible refine (HIW.out _ HGG.out).mono ?_); rintro e2 w2 ⟨rfl, hg2, hb2⟩; have HD3 := Aside0.mk (HDD.out.below hb2); clear hg2 hb2 x0 x1 x2 y0 y1 y2; obtain ⟨x0, x1, x2, y0, y1, y2⟩ := HD3.out.cells))
          clear HDD HGG HD2
          go_wp2_with (fail)
          go_meet
          exact ⟨⟨trivial, trivial, HX.out, H1.out, HI1.out, fun q => absurd q (by decide), fun _ => ⟨KW.out, I2.out⟩⟩, HD3⟩
       ·have d3 : (kind == 3) = false := beq_eq_false_iff_ne.2 k3
        have K2 := Aside0.mk k2
        have K3 := Aside0.mk k3
        clear k2 k3
        refine start_ (n := 18) (S := fun w' => w'.cell? ⟨rb, 0, none⟩ = some (.int .i64 kind) ∧ w'.cell? ⟨rb, 14, none⟩ = some (.int .i64 who)) (ds := []) #[false, false, false, false, false, false, false, false, false, false, false, false, false, false, false, false, false, false] (by kernel_rfl) rfl rfl ⟨y0, y2⟩ (fun hHeld => ?_)
        refine pz_ 0 69 rfl rfl (by kernel_rfl) ?_
        refine take_ (i := 1) (N := some 70) (v := ?_) (a' := ?_) #[true, true, false, false, false, false, false, false, false, false, false, false, false, false, false, false, false, false] rfl rfl (by kernel_rfl) (fun _ _ _ h => h) (Or.inl ⟨by rfl, ?_⟩) hHeld ?_ ?_
        rotate_left
        ·rintro w' ⟨s0, s1⟩
         go_simp
         with_reducible rfl
        rotate_left
        ·simp only [Act.put, List.setIfInBounds_toArray, List.set_cons_zero, List.set_cons_succ, i64_w, i32_w]
         rfl
        refine pz_ 2 71 rfl rfl (by kernel_rfl) ?_
        refine pz_ 3 72 rfl rfl (by kernel_rfl) ?_
        refine pure_ (i := 4) (N := some 73) (v := undef) (a' := ?_) #[true, true, true, true, true, false, false, false, false, false, false, false, false, false, false, false, false, false] rfl rfl (by kernel_rfl) (fun _ _ _ h => h) (Or.inr ⟨by rfl, rfl⟩) ?_ ?_
        rotate_left
        ·simp only [Act.put, List.setIfInBounds_toArray, List.set_cons_zero, List.set_cons_succ, i64_w, i32_w]
         rfl
        refine pure_ (i := 5) (N := some 74) (v := undef) (a' := ?_) #[true, true, true, true, true, true, false, false, false, false, false, false, false, false, false, false, false, false] rfl rfl (by kernel_rfl) (fun _ _ _ h => h) (Or.inr ⟨by rfl, rfl⟩) ?_ ?_
        rotate_left
        ·simp only [Act.put, List.setIfInBounds_toArray, List.set_cons_zero, List.set_cons_succ, i64_w, i32_w]
         rfl
        refine pure_ (i := 6) (N := some 75) (v := undef) (a' := ?_) #[true, true, true, true, true, true, true, false, false, false, false, false, false, false, false, false, false, false] rfl rfl (by kernel_rfl) (fun _ _ _ h => h) (Or.inr ⟨by rfl, rfl⟩) ?_ ?_
        rotate_left
        ·simp only [Act.put, List.setIfInBounds_toArray, List.set_cons_zero, List.set_cons_succ, i64_w, i32_w]
         rfl
        refine pure_ (i := 7) (N := some 76) (v := undef) (a' := ?_) #[true, true, true, true, true, true, true, true, false, false, false, false, false, false, false, false, false, false] rfl rfl (by kernel_rfl) (fun _ _ _ h => h) (Or.inr ⟨by rfl, rfl⟩) ?_ ?_
        rotate_left
        ·simp only [Act.put, List.setIfInBounds_toArray, List.set_cons_zero, List.set_cons_succ, i64_w, i32_w]
         rfl
        refine pure_ (i := 8) (N := some 77) (v := undef) (a' := ?_) #[true, true, true, true, true, true, true, true, true, false, false, false, false, false, false, false, false, false] rfl rfl (by kernel_rfl) (fun _ _ _ h => h) (Or.inr ⟨by rfl, rfl⟩) ?_ ?_
        rotate_left
        ·simp only [Act.put, List.setIfInBounds_toArray, List.set_cons_zero, List.set_cons_succ, i64_w, i32_w]
         rfl
        refine pure_ (i := 9) (N := some 78) (v := undef) (a' := ?_) #[true, true, true, true, true, true, true, true, true, true, false, false, false, false, false, false, false, false] rfl rfl (by kernel_rfl) (fun _ _ _ h => h) (Or.inr ⟨by rfl, rfl⟩) ?_ ?_
        rotate_left
        ·simp only [Act.put, List.setIfInBounds_toArray, List.set_cons_zero, List.set_cons_succ, i64_w, i32_w]
         rfl
        refine pure_ (i := 10) (N := some 79) (v := undef) (a' := ?_) #[true, true, true, true, true, true, true, true, true, true, true, false, false, false, false, false, false, false] rfl rfl (by kernel_rfl) (fun _ _ _ h => h) (Or.inr ⟨by rfl, rfl⟩) ?_ ?_
        rotate_left
        ·simp only [Act.put, List.setIfInBounds_toArray, List.set_cons_zero, List.set_cons_succ, i64_w, i32_w]
         rfl
        refine pure_ (i := 11) (N := some 80) (v := undef) (a' := ?_) #[true, true, true, true, true, true, true, true, true, true, true, true, false, false, false, false, false, false] rfl rfl (by kernel_rfl) (fun _ _ _ h => h) (Or.inr ⟨by rfl, rfl⟩) ?_ ?_
        rotate_left
        ·simp only [Act.put, List.setIfInBounds_toArray, List.set_cons_zero, List.set_cons_succ, i64_w, i32_w]
         rfl
        refine pure_ (i := 12) (N := some 81) (v := undef) (a' := ?_) #[true, true, true, true, true, true, true, true, true, true, true, true, true, false, false, false, false, false] rfl rfl (by kernel_rfl) (fun _ _ _ h => h) (Or.inr ⟨by rfl, rfl⟩) ?_ ?_
        rotate_left
        ·simp only [Act.put, List.setIfInBounds_toArray, List.set_cons_zero, List.set_cons_succ, i64_w, i32_w]
         rfl
        refine pure_ (i := 13) (N := some 82) (v := undef) (a' := ?_) #[true, true, true, true, true, true, true, true, true, true, true, true, true, true, false, false, false, false] rfl rfl (by kernel_rfl) (fun _ _ _ h => h) (Or.inr ⟨by rfl, rfl⟩) ?_ ?_
        rotate_left
        ·simp only [Act.put, List.setIfInBounds_toArray, List.set_cons_zero, List.set_cons_succ, i64_w, i32_w]
         rfl
        refine pure_ (i := 14) (N := some 83) (v := undef) (a' := ?_) #[true, true, true, true, true, true, true, true, true, true, true, true, true, true, true, false, false, false] rfl rfl (by kernel_rfl) (fun _ _ _ h => h) (Or.inr ⟨by rfl, rfl⟩) ?_ ?_
        rotate_left
        ·simp only [Act.put, List.setIfInBounds_toArray, List.set_cons_zero, List.set_cons_succ, i64_w, i32_w]
         rfl
        refine pure_ (i := 15) (N := some 84) (v := undef) (a' := ?_) #[true, true, true, true, true, true, true, true, true, true, true, true, true, true, true, true, false, false] rfl rfl (by kernel_rfl) (fun _ _ _ h => h) (Or.inr ⟨by rfl, rfl⟩) ?_ ?_
        rotate_left
        ·simp only [Act.put, List.setIfInBounds_toArray, List.set_cons_zero, List.set_cons_succ, i64_w, i32_w]
         rfl
        refine pz_ 16 85 rfl rfl (by kernel_rfl) ?_
        refine pz_ 17 57 rfl rfl (by kernel_rfl) ?_
        refine done_ (by kernel_rfl) ?_
        have HD3 := Aside0.mk (HD2.out.below (below_drew1 (Below.refl _ _)))
        clear x0 x1 x2 y0 y1 y2 HD2
        obtain ⟨x0, x1, x2, y0, y1, y2⟩ := HD3.out.cells
        go_wp2_with (fail)
        go_meet
        exact ⟨⟨trivial, trivial, HX.out, H1.out, HI1.out, fun q => absurd q K2.out, fun q => absurd q K3.out⟩, HD3⟩
 case rest =>
  obtain ⟨HC, HD⟩ := hcut
  clear HD0
  obtain ⟨c1, c2, c3, c4, c5, c6, c7⟩ := HC.out
  subst c1 c2
  have nc : ¬ ((1 : Int) ≠ 1 ∨ ep ≠ ep ∨ 1099511627775 ≤ ep) := by omega
  have e1 : wrap64 (ep + 1) = ep + 1 := by have := HE.out; unfold wrap64; omega
  have E1 := Aside0.mk e1
  obtain ⟨x0, x1, x2, y0, y1, y2⟩ := HD.out.cells
  obtain ⟨z0, z1, z2⟩ := HD.out.frozen
  by_cases k4 : kind = 4
  ·subst k4
   have hv : doesM ep l O ep 4 1 who = (ep + 1, l, O, true) := by unfold doesM; rw [if_neg c5, if_neg (by decide), if_neg nc, if_neg (by decide), if_neg (by decide)]
   have HV := Aside0.mk hv
   have HF := Aside0.mk (HD.out.1.setE (ep + 1))
   clear hv c3 c4 c5 c6 c7 nc z2
   go_wp2_with (fail)
   go_ret
   (rw [HV.out]; exact ⟨rfl, HF.out⟩)
  ·have d4 : (kind != 4) = true := bne_iff_ne.2 k4
   have hk23 : kind = 2 ∨ kind = 3 := by have := HK.out; omega
   obtain ⟨k, hk⟩ : ∃ k : Nat, who = (k : Int) + 1 := ⟨(who - 1).toNat, by have := HW.out hk23; omega⟩
   have hlt : k < l.length := by have := HW.out hk23; have := HL.out; omega
   have hx := List.getElem?_eq_getElem hlt
   generalize l[k] = m at hx
   have hv : doesM ep l O ep kind 1 who = (ep + 1, l.set k { m with f2 := (kind == 2) }, O, true) := by
    have hm : ∀ b, inM l (who - 1).toNat b = l.set k { m with f2 := b } := fun b => by
     rw [show (who - 1).toNat = k by omega]
     unfold inM
     rw [hx]
    unfold doesM
    rw [if_neg c5, if_neg c4, if_neg nc]
    rcases hk23 with rfl | rfl
    ·rw [if_pos rfl, if_neg (by rw [c6 rfl]; decide), hm]; rfl
    ·rw [if_neg (by decide), if_pos rfl, if_neg (by have := c7 rfl; rw [this.2]; simp; exact this.1), hm]; rfl
   have HV := Aside0.mk hv
   have hr : wrap64 (who - 1) = (k : Int) := by have := HL.out; unfold wrap64; omega
   have hr2 : IntKind.i64.wrap (who - 1) = (k : Int) := by have := HL.out; rw [IntKind.wrap_i64]; omega
   have HDr := Aside0.mk (HD.out.below (below_drew1 (Below.refl _ _)))
   have HS := Aside0.mk ((HD.out.1.setM k 2 (by decide) m { m with f2 := (kind == 2) } (.bool (kind == 2)) hx rfl).below (below_drew1 (Below.refl _ _)))
   have e5 := eq_true hlt
   have HLT := Aside0.mk hlt
   have mc : wc.drew.cell? ⟨g, k * 3 + 2, none⟩ = some (.bool m.f2) := (HDr.out.1.2.2.1.cell k m hx).2.2
   have zz : wc.drew.frozen? ⟨g, k * 3 + 2, none⟩ = false := HDr.out.frozen.2.2 _
   generalize hbq : (kind == 2) = b at HV HS
   clear hk hv c3 c4 c5 c6 c7 nc hk23 k4 hlt hx z2
   go_upto_region 12 with (fail)
   refine start_ (n := 13) (S := fun w' => w'.cell? ⟨gb, 1, none⟩ = some (.slice (some ⟨g, 0, none⟩) l.length cap) ∧ w'.cell? ⟨rb, 0, none⟩ = some (.int .i64 kind) ∧ w'.cell? ⟨rb, 14, none⟩ = some (.int .i64 who)) (ds := [12]) #[false, false, false, false, false, false, false, false, false, false, false, false, false] (by kernel_rfl) rfl rfl ⟨x1, y0, y2⟩ (fun hHeld => ?_)
   refine pz_ 0 89 rfl rfl (by kernel_rfl) ?_
   refine pz_ 1 90 rfl rfl (by kernel_rfl) ?_
   refine pz_ 2 91 rfl rfl (by kernel_rfl) ?_
   refine pz_ 4 93 rfl rfl (by kernel_rfl) ?_
   refine pz_ 7 96 rfl rfl (by kernel_rfl) ?_
   refine take_ (i := 3) (N := some 92) (v := ?_) (a' := ?_) #[true, true, true, true, true, false, false, true, false, false, false, false, false] rfl rfl (by kernel_rfl) (fun _ _ _ h => h) (Or.inl ⟨by rfl, ?_⟩) hHeld ?_ ?_
   rotate_left
   ·rintro w' ⟨s0, s1, s2⟩
    go_simp
    with_reducible rfl
   rotate_left
   ·simp only [Act.put, List.setIfInBounds_toArray, List.set_cons_zero, List.set_cons_succ, i64_w, i32_w]
    rfl
   refine take_ (i := 5) (N := some 94) (v := ?_) (a' := ?_) #[true, true, true, true, true, true, false, true, false, false, false, false, false] rfl rfl (by kernel_rfl) (fun _ _ _ h => h) (Or.inl ⟨by rfl, ?_⟩) hHeld ?_ ?_
   rotate_left
   ·rintro w' ⟨s0, s1, s2⟩
    go_simp
    with_reducible rfl
   rotate_left
   ·simp only [Act.put, List.setIfInBounds_toArray, List.set_cons_zero, List.set_cons_succ, i64_w, i32_w]
    rfl
   refine pz_ 6 95 rfl rfl (by kernel_rfl) ?_
   refine take_ (i := 8) (N := some 97) (v := ?_) (a' := ?_) #[true, true, true, true, true, true, true, true, true, false, false, false, false] rfl rfl (by kernel_rfl) (fun _ _ _ h => h) (Or.inl ⟨by rfl, ?_⟩) hHeld ?_ ?_
   rotate_left
   ·rintro w' ⟨s0, s1, s2⟩
    go_simp
    with_reducible rfl
   rotate_left
   ·simp only [Act.put, List.setIfInBounds_toArray, List.set_cons_zero, List.set_cons_succ, i64_w, i32_w]
    rfl
   refine pz_ 9 98 rfl rfl (by kernel_rfl) ?_
   refine pz_ 10 99 rfl rfl (by kernel_rfl) ?_
   refine pz_ 11 100 rfl rfl (by kernel_rfl) ?_
   refine last_ (i := 12) (N := none) #[true, true, true, true, true, true, true, true, true, true, true, true, true] rfl rfl (by kernel_rfl) (by decide) (fun K hK => ?_)
   refine skip_ (w1 := ?_) (by rfl) rfl ?_ ?_
   rotate_left
   ·go_simp
    rfl
   refine hK.out _ _ ?_
   clear hK K
   refine done_ (by kernel_rfl) ?_
   clear mc zz x1 x2 y0 y1 y2 hr hr2 z0 x0
   have x0 := HS.out.cells.1
   have z0 := blk_frozen HS.out.2.1 0
   have HF := Aside0.mk (HS.out.setE (ep + 1))
   have e1 := E1.out
   go_wp2_with (fail)
   go_ret
   (rw [HV.out]; exact ⟨rfl, HF.out⟩)
end Go.Proofs.YthemhfloablccaaDoor.Pr
end

section
namespace Go.Proofs.YthemhfloablccaaDoor.Pr
open Go.RowKit Go.Deep Go.Proofs.YthemhfloablccaaDoorW.PrintWords Go.Proofs.YthemhfloablccaaDoorW.PrintLast Go.Proofs.YthemhfloablccaaDoorW.PrintMore
def name_Check.f (a0 : ByteArray) : Option Int := none
theorem name_Check.calls (a0 : ByteArray) (r : Int) (w : World) (h : name_Check.f a0 = some r) :
  Calls Tryd.prog 102 #[.string a0] w fun e w' => e = .returned (.int .i64 r) ∧ Below w.heap.size w w' := by cases h
end Go.Proofs.YthemhfloablccaaDoor.Pr
end

section
namespace Go.Proofs.YthemhfloablccaaDoor.Pr
open Go.RowKit Go.Proofs.YthemhfloablccaaDoorW.PrintWords Go.Proofs.YthemhfloablccaaDoorW.PrintLast Go.Proofs.YthemhfloablccaaDoorW.PrintMore
attribute [local go_sem] max2_int min2_int max_two min_two max_three min_three max_four min_four
def clock_may.f (a0_0 : Int) (a0_1 : Int) : Option (Bool) := if a0_0 ≥ 1 then (if a0_0 ≤ 1099511627775 then (if a0_1 ≥ 1 then (some (decide (a0_1 ≤ 6))) else (some false)) else (some false)) else (some false)
set_option maxHeartbeats 8000000 in
set_option maxRecDepth 100000 in
theorem clock_may.calls (a0_0 : Int) (a0_1 : Int) (r : Bool) (w : World) (h : clock_may.f a0_0 a0_1 = some r) :
  Calls Tryd.prog 123 #[.agg #[.int .i64 a0_0, .int .i64 a0_1]] w fun e w' => e = .returned (.bool r) ∧ Below w.heap.size w w' := by
 have hu26 := Tryd.underlying26; have HB := Aside0.mk (Below.refl w.heap.size w); have H : (if a0_0 ≥ 1 then (if a0_0 ≤ 1099511627775 then (if a0_1 ≥ 1 then (some (decide (a0_1 ≤ 6))) else (some false)) else (some false)) else (some false)) = some r := h; clear h; by_cases c2 : a0_0 ≥ 1
 ·rw [if_pos c2] at H; have c2b0 : decide (1 ≤ a0_0) = true := decide_eq_true c2; clear c2; by_cases c3 : a0_0 ≤ 1099511627775
  ·rw [if_pos c3] at H; have c3b0 : decide (a0_0 ≤ 1099511627775) = true := decide_eq_true c3; clear c3; by_cases c4 : a0_1 ≥ 1
   ·rw [if_pos c4] at H; have c4b0 : decide (1 ≤ a0_1) = true := decide_eq_true c4; clear c4; obtain rfl := Option.some.inj H; go_enter Tryd.func123, Tryd.ntmps123
    go_wp2_with (first | ((with_reducible refine gate_dst (N := 1) rfl ?_); refine box_event ?hg (N := 1) ?hd (cs := #[.int .i64 a0_0, .int .i64 a0_1]) (t := 26) ?hr ?_; (case hd => rfl); (case hg => rfl); (case hr => first | (go_simp; done) | (go_simp; rfl)); intro gb110 hg w5 hbox hb; have n0_ := Aside0.mk (below_step hb_ hb); have n1_ := Aside0.mk (hbox); have n2_ := Aside0.mk ((by rw [hg]; exact (below_size hb_) : w.heap.size ≤ gb110)); have n3_ := Aside0.mk ((by rw [hg]; exact (below_size hb_) : w.heap.size ≤ gb110)); clear HB; have HB := n0_; have BK110 := n1_; have GW110 := n2_; have GE110 := n3_; clear n0_ n1_ n2_ n3_; clear hb hbox hg; have hcz6_0 : w5.cell? ⟨gb110, 0, none⟩ = some (.int .i64 a0_0) := (blk_cell BK110.out 0).trans rfl; have hcz6_1 : w5.cell? ⟨gb110, 1, none⟩ = some (.int .i64 a0_1) := (blk_cell BK110.out 1).trans rfl; have hfz6_0 := blk_frozen BK110.out 0; have hfz6_1 := blk_frozen BK110.out 1))
    go_ret
    exact ⟨ew_, by repeat (first | (with_reducible first | exact HB.out | apply below_alloc | apply pw_below_drewN | apply below_drew1 | refine below_set ?_ GE110.out) | exact HB.out)⟩
   ·rw [if_neg c4] at H; have c4b0 : decide (1 ≤ a0_1) = false := decide_eq_false c4; clear c4; obtain rfl := Option.some.inj H; go_enter Tryd.func123, Tryd.ntmps123
    go_wp2_with (first | ((with_reducible refine gate_dst (N := 1) rfl ?_); refine box_event ?hg (N := 1) ?hd (cs := #[.int .i64 a0_0, .int .i64 a0_1]) (t := 26) ?hr ?_; (case hd => rfl); (case hg => rfl); (case hr => first | (go_simp; done) | (go_simp; rfl)); intro gb110 hg w7 hbox hb; have n0_ := Aside0.mk (below_step hb_ hb); have n1_ := Aside0.mk (hbox); have n2_ := Aside0.mk ((by rw [hg]; exact (below_size hb_) : w.heap.size ≤ gb110)); have n3_ := Aside0.mk ((by rw [hg]; exact (below_size hb_) : w.heap.size ≤ gb110)); clear HB; have HB := n0_; have BK110 := n1_; have GW110 := n2_; have GE110 := n3_; clear n0_ n1_ n2_ n3_; clear hb hbox hg; have hcz8_0 : w7.cell? ⟨gb110, 0, none⟩ = some (.int .i64 a0_0) := (blk_cell BK110.out 0).trans rfl; have hcz8_1 : w7.cell? ⟨gb110, 1, none⟩ = some (.int .i64 a0_1) := (blk_cell BK110.out 1).trans rfl; have hfz8_0 := blk_frozen BK110.out 0; have hfz8_1 := blk_frozen BK110.out 1))
    go_ret
    exact ⟨ew_, by repeat (first | (with_reducible first | exact HB.out | apply below_alloc | apply pw_below_drewN | apply below_drew1 | refine below_set ?_ GE110.out) | exact HB.out)⟩
  ·rw [if_neg c3] at H; have c3b0 : decide (a0_0 ≤ 1099511627775) = false := decide_eq_false c3; clear c3; obtain rfl := Option.some.inj H; go_enter Tryd.func123, Tryd.ntmps123
   go_wp2_with (first | ((with_reducible refine gate_dst (N := 1) rfl ?_); refine box_event ?hg (N := 1) ?hd (cs := #[.int .i64 a0_0, .int .i64 a0_1]) (t := 26) ?hr ?_; (case hd => rfl); (case hg => rfl); (case hr => first | (go_simp; done) | (go_simp; rfl)); intro gb110 hg w9 hbox hb; have n0_ := Aside0.mk (below_step hb_ hb); have n1_ := Aside0.mk (hbox); have n2_ := Aside0.mk ((by rw [hg]; exact (below_size hb_) : w.heap.size ≤ gb110)); have n3_ := Aside0.mk ((by rw [hg]; exact (below_size hb_) : w.heap.size ≤ gb110)); clear HB; have HB := n0_; have BK110 := n1_; have GW110 := n2_; have GE110 := n3_; clear n0_ n1_ n2_ n3_; clear hb hbox hg; have hcz10_0 : w9.cell? ⟨gb110, 0, none⟩ = some (.int .i64 a0_0) := (blk_cell BK110.out 0).trans rfl; have hcz10_1 : w9.cell? ⟨gb110, 1, none⟩ = some (.int .i64 a0_1) := (blk_cell BK110.out 1).trans rfl; have hfz10_0 := blk_frozen BK110.out 0; have hfz10_1 := blk_frozen BK110.out 1))
   go_ret
   exact ⟨ew_, by repeat (first | (with_reducible first | exact HB.out | apply below_alloc | apply pw_below_drewN | apply below_drew1 | refine below_set ?_ GE110.out) | exact HB.out)⟩
 ·rw [if_neg c2] at H; have c2b0 : decide (1 ≤ a0_0) = false := decide_eq_false c2; clear c2; obtain rfl := Option.some.inj H; go_enter Tryd.func123, Tryd.ntmps123
  go_wp2_with (first | ((with_reducible refine gate_dst (N := 1) rfl ?_); refine box_event ?hg (N := 1) ?hd (cs := #[.int .i64 a0_0, .int .i64 a0_1]) (t := 26) ?hr ?_; (case hd => rfl); (case hg => rfl); (case hr => first | (go_simp; done) | (go_simp; rfl)); intro gb110 hg w11 hbox hb; have n0_ := Aside0.mk (below_step hb_ hb); have n1_ := Aside0.mk (hbox); have n2_ := Aside0.mk ((by rw [hg]; exact (below_size hb_) : w.heap.size ≤ gb110)); have n3_ := Aside0.mk ((by rw [hg]; exact (below_size hb_) : w.heap.size ≤ gb110)); clear HB; have HB := n0_; have BK110 := n1_; have GW110 := n2_; have GE110 := n3_; clear n0_ n1_ n2_ n3_; clear hb hbox hg; have hcz12_0 : w11.cell? ⟨gb110, 0, none⟩ = some (.int .i64 a0_0) := (blk_cell BK110.out 0).trans rfl; have hcz12_1 : w11.cell? ⟨gb110, 1, none⟩ = some (.int .i64 a0_1) := (blk_cell BK110.out 1).trans rfl; have hfz12_0 := blk_frozen BK110.out 0; have hfz12_1 := blk_frozen BK110.out 1))
  go_ret
  exact ⟨ew_, by repeat (first | (with_reducible first | exact HB.out | apply below_alloc | apply pw_below_drewN | apply below_drew1 | refine below_set ?_ GE110.out) | exact HB.out)⟩
def clock_Check.f (a0_0 : Int) (a0_1 : Int) : Option (Int) := (clock_may.f a0_0 a0_1).bind fun t112 => (if t112 = true then (some 0) else (some 1))
set_option maxHeartbeats 8000000 in
set_option maxRecDepth 100000 in
theorem clock_Check.calls (a0_0 : Int) (a0_1 : Int) (r : Int) (w : World) (h : clock_Check.f a0_0 a0_1 = some r) :
  Calls Tryd.prog 115 #[.agg #[.int .i64 a0_0, .int .i64 a0_1]] w fun e w' => e = .returned (.int .i64 r) ∧ Below w.heap.size w w' := by
 have hu26 := Tryd.underlying26; have HB := Aside0.mk (Below.refl w.heap.size w); have H : ((clock_may.f a0_0 a0_1).bind fun t112 => (if t112 = true then (some 0) else (some 1))) = some r := h; clear h; replace H := Option.bind_eq_some_iff.mp H; obtain ⟨t112, A20, H⟩ := H; have A2 := Aside0.mk A20; clear A20; by_cases c3 : t112 = true
 ·subst c3; have H1 : (some 0) = some r := by rw [if_pos rfl] at H; exact H
  clear H; have H := H1; clear H1; obtain rfl := Option.some.inj H; go_enter Tryd.func115, Tryd.ntmps115
  go_wp2_with (first | ((with_reducible refine gate_dst (N := 1) rfl ?_); refine box_event ?hg (N := 1) ?hd (cs := #[.int .i64 a0_0, .int .i64 a0_1]) (t := 26) ?hr ?_; (case hd => rfl); (case hg => rfl); (case hr => first | (go_simp; done) | (go_simp; rfl)); intro gb111 hg w4 hbox hb; have n0_ := Aside0.mk (below_step hb_ hb); have n1_ := Aside0.mk (hbox); have n2_ := Aside0.mk ((by rw [hg]; exact (below_size hb_) : w.heap.size ≤ gb111)); have n3_ := Aside0.mk ((by rw [hg]; exact (below_size hb_) : w.heap.size ≤ gb111)); clear HB; have HB := n0_; have BK111 := n1_; have GW111 := n2_; have GE111 := n3_; clear n0_ n1_ n2_ n3_; clear hb hbox hg; have hcz5_0 : w4.cell? ⟨gb111, 0, none⟩ = some (.int .i64 a0_0) := (blk_cell BK111.out 0).trans rfl; have hcz5_1 : w4.cell? ⟨gb111, 1, none⟩ = some (.int .i64 a0_1) := (blk_cell BK111.out 1).trans rfl; have hfz5_0 := blk_frozen BK111.out 0; have hfz5_1 := blk_frozen BK111.out 1) | ((with_reducible refine gate_callee (f := 123) rfl ?_); refine gl_ 4 Tryd.func123 #[.agg #[.int .i64 a0_0, .int .i64 a0_1]] ?_; (with_reducible refine (clock_may.calls a0_0 a0_1 true _ A2.out).mono ?_); rintro e w6 ⟨rfl, hb⟩; refine ⟨_, rfl, ?_⟩; have n0_ := Aside0.mk (blk_below (g := gb111) (o := .cells #[.int .i64 a0_0, .int .i64 a0_1] 26 (0, 0)) (by (with_reducible repeat (first | refine blk_drewN ?_ _ | refine blk_drew ?_ | refine blk_alloc ?_ _)); exact BK111.out) hb); have n1_ := Aside0.mk (below_step (by repeat (first | (with_reducible first | exact HB.out | apply below_alloc | apply pw_below_drewN | apply below_drew1 | refine below_set ?_ GE111.out) | exact HB.out)) hb); clear BK111; clear HB; have BK111 := n0_; have HB := n1_; clear n0_ n1_))
  go_ret
  exact ⟨ew_, by repeat (first | (with_reducible first | exact HB.out | apply below_alloc | apply pw_below_drewN | apply below_drew1 | refine below_set ?_ GE111.out) | exact HB.out)⟩
 ·replace c3 := Bool.eq_false_iff.mpr c3; subst c3; have H1 : (some 1) = some r := by rw [if_neg (show ¬ (false = true) by decide)] at H; exact H
  clear H; have H := H1; clear H1; obtain rfl := Option.some.inj H; go_enter Tryd.func115, Tryd.ntmps115
  go_wp2_with (first | ((with_reducible refine gate_dst (N := 1) rfl ?_); refine box_event ?hg (N := 1) ?hd (cs := #[.int .i64 a0_0, .int .i64 a0_1]) (t := 26) ?hr ?_; (case hd => rfl); (case hg => rfl); (case hr => first | (go_simp; done) | (go_simp; rfl)); intro gb111 hg w7 hbox hb; have n0_ := Aside0.mk (below_step hb_ hb); have n1_ := Aside0.mk (hbox); have n2_ := Aside0.mk ((by rw [hg]; exact (below_size hb_) : w.heap.size ≤ gb111)); have n3_ := Aside0.mk ((by rw [hg]; exact (below_size hb_) : w.heap.size ≤ gb111)); clear HB; have HB := n0_; have BK111 := n1_; have GW111 := n2_; have GE111 := n3_; clear n0_ n1_ n2_ n3_; clear hb hbox hg; have hcz8_0 : w7.cell? ⟨gb111, 0, none⟩ = some (.int .i64 a0_0) := (blk_cell BK111.out 0).trans rfl; have hcz8_1 : w7.cell? ⟨gb111, 1, none⟩ = some (.int .i64 a0_1) := (blk_cell BK111.out 1).trans rfl; have hfz8_0 := blk_frozen BK111.out 0; have hfz8_1 := blk_frozen BK111.out 1) | ((with_reducible refine gate_callee (f := 123) rfl ?_); refine gl_ 4 Tryd.func123 #[.agg #[.int .i64 a0_0, .int .i64 a0_1]] ?_; (with_reducible refine (clock_may.calls a0_0 a0_1 false _ A2.out).mono ?_); rintro e w9 ⟨rfl, hb⟩; refine ⟨_, rfl, ?_⟩; have n0_ := Aside0.mk (blk_below (g := gb111) (o := .cells #[.int .i64 a0_0, .int .i64 a0_1] 26 (0, 0)) (by (with_reducible repeat (first | refine blk_drewN ?_ _ | refine blk_drew ?_ | refine blk_alloc ?_ _)); exact BK111.out) hb); have n1_ := Aside0.mk (below_step (by repeat (first | (with_reducible first | exact HB.out | apply below_alloc | apply pw_below_drewN | apply below_drew1 | refine below_set ?_ GE111.out) | exact HB.out)) hb); clear BK111; clear HB; have BK111 := n0_; have HB := n1_; clear n0_ n1_))
  go_ret
  exact ⟨ew_, by repeat (first | (with_reducible first | exact HB.out | apply below_alloc | apply pw_below_drewN | apply below_drew1 | refine below_set ?_ GE111.out) | exact HB.out)⟩
def tree_fine.f (a0_0 : Int) (a0_1 : Int) : Option (Bool) := (clock_Check.f a0_0 a0_1).bind fun t114 => (some (t114 == 0))
set_option maxHeartbeats 8000000 in
set_option maxRecDepth 100000 in
theorem tree_fine.calls (a0_0 : Int) (a0_1 : Int) (r : Bool) (w : World) (h : tree_fine.f a0_0 a0_1 = some r) :
  Calls Tryd.prog 101 #[.agg #[.int .i64 a0_0, .int .i64 a0_1]] w fun e w' => e = .returned (.bool r) ∧ Below w.heap.size w w' := by
 have hu26 := Tryd.underlying26; have HB := Aside0.mk (Below.refl w.heap.size w); have H : ((clock_Check.f a0_0 a0_1).bind fun t114 => (some (t114 == 0))) = some r := h; clear h; replace H := Option.bind_eq_some_iff.mp H; obtain ⟨t114, A20, H⟩ := H; have A2 := Aside0.mk A20; clear A20; obtain rfl := Option.some.inj H; go_enter Tryd.func101, Tryd.ntmps101
 go_wp2_with (first | ((with_reducible refine gate_dst (N := 1) rfl ?_); refine box_event ?hg (N := 1) ?hd (cs := #[.int .i64 a0_0, .int .i64 a0_1]) (t := 26) ?hr ?_; (case hd => rfl); (case hg => rfl); (case hr => first | (go_simp; done) | (go_simp; rfl)); intro gb113 hg w3 hbox hb; have n0_ := Aside0.mk (below_step hb_ hb); have n1_ := Aside0.mk (hbox); have n2_ := Aside0.mk ((by rw [hg]; exact (below_size hb_) : w.heap.size ≤ gb113)); have n3_ := Aside0.mk ((by rw [hg]; exact (below_size hb_) : w.heap.size ≤ gb113)); clear HB; have HB := n0_; have BK113 := n1_; have GW113 := n2_; have GE113 := n3_; clear n0_ n1_ n2_ n3_; clear hb hbox hg; have hcz4_0 : w3.cell? ⟨gb113, 0, none⟩ = some (.int .i64 a0_0) := (blk_cell BK113.out 0).trans rfl; have hcz4_1 : w3.cell? ⟨gb113, 1, none⟩ = some (.int .i64 a0_1) := (blk_cell BK113.out 1).trans rfl; have hfz4_0 := blk_frozen BK113.out 0; have hfz4_1 := blk_frozen BK113.out 1) | ((with_reducible refine gate_callee (f := 115) rfl ?_); refine gl_ 4 Tryd.func115 #[.agg #[.int .i64 a0_0, .int .i64 a0_1]] ?_; (with_reducible refine (clock_Check.calls a0_0 a0_1 t114 _ A2.out).mono ?_); rintro e w5 ⟨rfl, hb⟩; refine ⟨_, rfl, ?_⟩; have n0_ := Aside0.mk (blk_below (g := gb113) (o := .cells #[.int .i64 a0_0, .int .i64 a0_1] 26 (0, 0)) (by (with_reducible repeat (first | refine blk_drewN ?_ _ | refine blk_drew ?_ | refine blk_alloc ?_ _)); exact BK113.out) hb); have n1_ := Aside0.mk (below_step (by repeat (first | (with_reducible first | exact HB.out | apply below_alloc | apply pw_below_drewN | apply below_drew1 | refine below_set ?_ GE113.out) | exact HB.out)) hb); clear BK113; clear HB; have BK113 := n0_; have HB := n1_; clear n0_ n1_))
 go_ret
 exact ⟨ew_, by repeat (first | (with_reducible first | exact HB.out | apply below_alloc | apply pw_below_drewN | apply below_drew1 | refine below_set ?_ GE113.out) | exact HB.out)⟩
theorem eqA26 (d : Nat) (w : World) (x0 y0 : Int) (x1 y1 : Int) :
  (Op.equalIn (d + 2) 26 (.agg #[.int .i64 x0, .int .i64 x1]) (.agg #[.int .i64 y0, .int .i64 y1])).run Tryd.prog w = .ok (x0 == y0 && (x1 == y1)) w := by
 refine eqA_of Tryd.underlying26 (by kernel_rfl) ?_; refine eqf_cons (by rfl) (by go_simp; rfl) (by go_simp; rfl) (by go_simp) ?_; exact eqf_last (by rfl) (by go_simp; rfl) (by go_simp; rfl) (by go_simp)
end Go.Proofs.YthemhfloablccaaDoor.Pr
end

section
namespace Go.Proofs.YthemhfloablccaaDoor.Pr
open Go.RowKit Go.Proofs.YthemhfloablccaaDoorW.PrintWords Go.Proofs.YthemhfloablccaaDoorW.PrintLast Go.Proofs.YthemhfloablccaaDoorW.PrintMore
attribute [local go_sem] max2_int min2_int max_two min_two max_three min_three max_four min_four
attribute [local go_sem high] eqA26
def tree_outer.f (a0_0 : Int) (a0_1 : Int) : Option (Bool) := if (a0_0 == 0 && (a0_1 == 0)) = true then (some true) else (some (a0_0 == 0 && (a0_1 == 1)))
set_option maxHeartbeats 8000000 in
set_option maxRecDepth 100000 in
theorem tree_outer.calls (a0_0 : Int) (a0_1 : Int) (r : Bool) (w : World) (h : tree_outer.f a0_0 a0_1 = some r) :
  Calls Tryd.prog 103 #[.agg #[.int .i64 a0_0, .int .i64 a0_1]] w fun e w' => e = .returned (.bool r) ∧ Below w.heap.size w w' := by
 have hu26 := Tryd.underlying26; have HB := Aside0.mk (Below.refl w.heap.size w); have H : (if (a0_0 == 0 && (a0_1 == 0)) = true then (some true) else (some (a0_0 == 0 && (a0_1 == 1)))) = some r := h; clear h; by_cases c2 : (a0_0 == 0 && (a0_1 == 0)) = true
 ·rw [if_pos c2] at H; have c2b0 : (a0_0 == 0 && (a0_1 == 0)) = true := c2
  (try (have c2b1 : decide (a0_0 = 0 && (a0_1 == 0)) = true := by simpa using c2))
  (try (have c2b2 : (a0_0 == 0 && (a0_1 == 0)) = true := by simpa using c2))
  clear c2; obtain rfl := Option.some.inj H; go_enter Tryd.func103, Tryd.ntmps103
  go_wp2_with (first | ((with_reducible refine gate_dst (N := 1) rfl ?_); refine box_event ?hg (N := 1) ?hd (cs := #[.int .i64 a0_0, .int .i64 a0_1]) (t := 26) ?hr ?_; (case hd => rfl); (case hg => rfl); (case hr => first | (go_simp; done) | (go_simp; rfl)); intro gb115 hg w3 hbox hb; have n0_ := Aside0.mk (below_step hb_ hb); have n1_ := Aside0.mk (hbox); have n2_ := Aside0.mk ((by rw [hg]; exact (below_size hb_) : w.heap.size ≤ gb115)); have n3_ := Aside0.mk ((by rw [hg]; exact (below_size hb_) : w.heap.size ≤ gb115)); clear HB; have HB := n0_; have BK115 := n1_; have GW115 := n2_; have GE115 := n3_; clear n0_ n1_ n2_ n3_; clear hb hbox hg; have hcz4_0 : w3.cell? ⟨gb115, 0, none⟩ = some (.int .i64 a0_0) := (blk_cell BK115.out 0).trans rfl; have hcz4_1 : w3.cell? ⟨gb115, 1, none⟩ = some (.int .i64 a0_1) := (blk_cell BK115.out 1).trans rfl; have hfz4_0 := blk_frozen BK115.out 0; have hfz4_1 := blk_frozen BK115.out 1))
  go_ret
  exact ⟨ew_, by repeat (first | (with_reducible first | exact HB.out | apply below_alloc | apply pw_below_drewN | apply below_drew1 | refine below_set ?_ GE115.out) | exact HB.out)⟩
 ·rw [if_neg c2] at H; have c2b0 : (a0_0 == 0 && (a0_1 == 0)) = false := by simpa using c2
  (try (have c2b1 : decide (a0_0 = 0 && (a0_1 == 0)) = false := by simpa using c2))
  (try (have c2b2 : (a0_0 == 0 && (a0_1 == 0)) = false := by simpa using c2))
  (try (have c2b3 : ¬ (a0_0 = 0 && (a0_1 == 0)) := by simpa using c2))
  clear c2; obtain rfl := Option.some.inj H; go_enter Tryd.func103, Tryd.ntmps103
  go_wp2_with (first | ((with_reducible refine gate_dst (N := 1) rfl ?_); refine box_event ?hg (N := 1) ?hd (cs := #[.int .i64 a0_0, .int .i64 a0_1]) (t := 26) ?hr ?_; (case hd => rfl); (case hg => rfl); (case hr => first | (go_simp; done) | (go_simp; rfl)); intro gb115 hg w5 hbox hb; have n0_ := Aside0.mk (below_step hb_ hb); have n1_ := Aside0.mk (hbox); have n2_ := Aside0.mk ((by rw [hg]; exact (below_size hb_) : w.heap.size ≤ gb115)); have n3_ := Aside0.mk ((by rw [hg]; exact (below_size hb_) : w.heap.size ≤ gb115)); clear HB; have HB := n0_; have BK115 := n1_; have GW115 := n2_; have GE115 := n3_; clear n0_ n1_ n2_ n3_; clear hb hbox hg; have hcz6_0 : w5.cell? ⟨gb115, 0, none⟩ = some (.int .i64 a0_0) := (blk_cell BK115.out 0).trans rfl; have hcz6_1 : w5.cell? ⟨gb115, 1, none⟩ = some (.int .i64 a0_1) := (blk_cell BK115.out 1).trans rfl; have hfz6_0 := blk_frozen BK115.out 0; have hfz6_1 := blk_frozen BK115.out 1))
  go_ret
  exact ⟨ew_, by repeat (first | (with_reducible first | exact HB.out | apply below_alloc | apply pw_below_drewN | apply below_drew1 | refine below_set ?_ GE115.out) | exact HB.out)⟩
end Go.Proofs.YthemhfloablccaaDoor.Pr
end

section
namespace Go.Proofs.YthemhfloablccaaDoor.Pr
open Go.RowKit Go.Proofs.YthemhfloablccaaDoorW.PrintWords Go.Proofs.YthemhfloablccaaDoorW.PrintLast Go.Proofs.YthemhfloablccaaDoorW.PrintMore
attribute [local go_sem] max2_int min2_int max_two min_two max_three min_three max_four min_four
theorem eqA28 (d : Nat) (w : World) (x0 y0 : Int) (x1 y1 : Int) (x2 y2 : Int) (x3 y3 : Int) (x4 y4 : Int) (x5 y5 : Int) (x6 y6 : Int) (x7 y7 : ByteArray) (x8 y8 : ByteArray) :
  (Op.equalIn (d + 3) 28 (.agg #[.int .i64 x0, .int .i64 x1, .int .i64 x2, .int .i64 x3, .int .i64 x4, .int .i64 x5, .int .i64 x6, .string x7, .string x8]) (.agg #[.int .i64 y0, .int .i64 y1, .int .i64 y2, .int .i64 y3, .int .i64 y4, .int .i64 y5, .int .i64 y6, .string y7, .string y8])).run Tryd.prog w = .ok (x0 == y0 && ((x1 == y1 && (x2 == y2)) && ((x3 == y3 && (x4 == y4)) && ((x5 == y5 && (x6 == y6)) && (x7.toList == y7.toList && (x8.toList == y8.toList)))))) w := by
 refine eqA_of Tryd.underlying28 (by kernel_rfl) ?_; refine eqf_cons (by rfl) (by go_simp; rfl) (by go_simp; rfl) (by go_simp) ?_; refine eqf_cons (by rfl) (by go_simp) (by go_simp) (eqA26 (d + 0) w _ _ _ _) ?_; refine eqf_cons (by rfl) (by go_simp) (by go_simp) (eqA26 (d + 0) w _ _ _ _) ?_; refine eqf_cons (by rfl) (by go_simp) (by go_simp) (eqA26 (d + 0) w _ _ _ _) ?_; refine eqf_cons (by rfl) (by go_simp; rfl) (by go_simp; rfl) (by go_simp) ?_; exact eqf_last (by rfl) (by go_simp; rfl) (by go_simp; rfl) (by go_simp)
end Go.Proofs.YthemhfloablccaaDoor.Pr
end

section
namespace Go.Proofs.YthemhfloablccaaDoor.Pr
open Go.RowKit Go.Deep Go.Proofs.YthemhfloablccaaDoorW.PrintWords Go.Proofs.YthemhfloablccaaDoorW.PrintLast Go.Proofs.YthemhfloablccaaDoorW.PrintMore
set_option maxHeartbeats 8000000
attribute [local go_sem high] eqA26 eqA28
def fineB (t w : Int) : Bool := decide (1 ≤ t ∧ t ≤ 1099511627775 ∧ 1 ≤ w ∧ w ≤ 6)
def outerB (t w : Int) : Bool := (t == 0 && w == 0) || (t == 0 && w == 1)
theorem fine_f (t w : Int) : tree_fine.f t w = some (fineB t w) := by
 unfold tree_fine.f clock_Check.f clock_may.f fineB
 by_cases h1 : t ≥ 1
 ·by_cases h2 : t ≤ 1099511627775
  ·by_cases h3 : w ≥ 1
   ·by_cases h4 : w ≤ 6
    ·rw [if_pos h1, if_pos h2, if_pos h3, decide_eq_true h4, decide_eq_true ⟨h1, h2, h3, h4⟩]; rfl
    ·rw [if_pos h1, if_pos h2, if_pos h3, decide_eq_false h4, decide_eq_false (fun q => h4 q.2.2.2)]; rfl
   ·rw [if_pos h1, if_pos h2, if_neg h3, decide_eq_false (fun q => h3 q.2.2.1)]; rfl
  ·rw [if_pos h1, if_neg h2, decide_eq_false (fun q => h2 q.2.1)]; rfl
 ·rw [if_neg h1, decide_eq_false (fun q => h1 q.1)]; rfl
theorem outer_f (t w : Int) : tree_outer.f t w = some (outerB t w) := by
 unfold tree_outer.f outerB
 by_cases h : (t == 0 && (w == 0)) = true
 ·rw [if_pos h, h]; rfl
 ·rw [if_neg h, Bool.eq_false_iff.2 h]; rfl
theorem fine_calls (t v : Int) (w : World) : Calls Tryd.prog 101 #[.agg #[.int .i64 t, .int .i64 v]] w fun e w' => e = .returned (.bool (fineB t v)) ∧ Below w.heap.size w w' := tree_fine.calls t v _ w (fine_f t v)
theorem outer_calls (t v : Int) (w : World) : Calls Tryd.prog 103 #[.agg #[.int .i64 t, .int .i64 v]] w fun e w' => e = .returned (.bool (outerB t v)) ∧ Below w.heap.size w w' := tree_outer.calls t v _ w (outer_f t v)
def nmV (kind : Int) (nm : ByteArray) (ok : Bool) : Option Bool := if (kind = 1 ∨ kind = 3) ∧ ok = true then (name_Check.f nm).map (· == 0) else some ok
def finOk (kind : Int) (ok : Bool) (val : ByteArray) : Bool := if kind = 4 then ok && decide ((val.size : Int) ≤ 64) else if kind = 1 ∨ kind = 2 ∨ kind = 3 ∨ kind = 5 then ok else false
def finPa (kind : Int) (ok : Bool) (p1 p2 : Int) : Bool := if kind = 1 ∨ kind = 2 then ok && (outerB p1 p2 || fineB p1 p2) else ok
def restB (q1 q2 : Int) (nm val : ByteArray) : Bool := !(q1 == 0) || !(q2 == 0) || !(nm.toList == ([] : List UInt8)) || !(val.toList == ([] : List UInt8))
abbrev nmR (kind : Int) (nm : ByteArray) : ByteArray := if kind = 1 ∨ kind = 3 then ⟨#[]⟩ else nm
abbrev vlR (kind : Int) (val : ByteArray) : ByteArray := if kind = 4 then ⟨#[]⟩ else val
def finV (kind : Int) (ok : Bool) (p1 p2 : Int) (nm val : ByteArray) : Int :=
 if (!(finPa kind (finOk kind ok val) p1 p2) || restB (if kind = 1 ∨ kind = 2 then 0 else p1) (if kind = 1 ∨ kind = 2 then 0 else p2) (nmR kind nm) (vlR kind val)) = true then 1 else 0
def tree_Check.f (a0_0 a0_1 a0_2 a0_3 a0_4 a0_5 a0_6 : Int) (a0_7 a0_8 : ByteArray) : Option Int :=
 (nmV a0_0 a0_7 (if a0_0 = 1 then (fineB a0_1 a0_2 && fineB a0_3 a0_4) && (a0_3 == a0_1 && a0_4 == a0_2) else fineB a0_1 a0_2 && fineB a0_3 a0_4)).map fun b => finV a0_0 b a0_5 a0_6 a0_7 a0_8
abbrev opRow (kind t1 t2 n1 n2 p1 p2 : Int) (nm val : ByteArray) : Array Value := #[.int .i64 kind, .int .i64 t1, .int .i64 t2, .int .i64 n1, .int .i64 n2, .int .i64 p1, .int .i64 p2, .string nm, .string val]
def TS (w : World) (g1 g2 : Nat) (o r : Array Value) (wx : World) : Prop :=
 Below w.heap.size w wx ∧ wx.heap[g1]? = some (.cells o 28 (0, 0)) ∧ wx.heap[g2]? = some (.cells r 28 (0, 0)) ∧ w.heap.size ≤ g2 ∧ g1 ≠ g2
theorem TS.set {w wx : World} {g1 g2 : Nat} {o r r' : Array Value} (h : TS w g1 g2 o r wx) (i : Nat) (v : Value) (e : r.setIfInBounds i v = r') : TS w g1 g2 o r' (wx.setCell ⟨g2, i, none⟩ v) :=
 ⟨below_set h.1 h.2.2.2.1, blk_far h.2.1 h.2.2.2.2 _, blk_put h.2.2.1 i v e, h.2.2.2.1, h.2.2.2.2⟩
theorem TS.below {w wx w' : World} {g1 g2 : Nat} {o r : Array Value} (h : TS w g1 g2 o r wx) (hb : Below wx.heap.size wx w') : TS w g1 g2 o r w' :=
 ⟨below_then h.1 h.1.size hb, blk_below h.2.1 hb, blk_below h.2.2.1 hb, h.2.2.2.1, h.2.2.2.2⟩
theorem nm_cases {kind : Int} {nm : ByteArray} {ok : Bool} {F : Bool → Int} {r : Int} (h : (nmV kind nm ok).map F = some r) :
  (((kind = 1 ∨ kind = 3) ∧ ok = true) → ∃ q, name_Check.f nm = some q ∧ F (q == 0) = r) ∧ (¬ ((kind = 1 ∨ kind = 3) ∧ ok = true) → F ok = r) := by
 unfold nmV at h
 by_cases hc : (kind = 1 ∨ kind = 3) ∧ ok = true
 ·rw [if_pos hc] at h
  refine ⟨fun _ => ?_, fun q => absurd hc q⟩
  rcases hq : name_Check.f nm with _ | q
  ·rw [hq] at h; cases h
  ·rw [hq] at h; exact ⟨q, rfl, Option.some.inj h⟩
 ·rw [if_neg hc] at h
  exact ⟨fun q => absurd q hc, fun _ => Option.some.inj h⟩
abbrev bigB (x0 x1 x2 x3 x4 x5 x6 : Int) (x7 x8 : ByteArray) : Bool := (!(x0 == 0) || ((!(x1 == 0) || (!(x2 == 0))) || ((!(x3 == 0) || (!(x4 == 0))) || ((!(x5 == 0) || (!(x6 == 0))) || (!(x7.toList == ([] : List UInt8)) || (!(x8.toList == ([] : List UInt8))))))))
theorem big_false (x0 x1 x2 x3 x4 x5 x6 : Int) (x7 x8 : ByteArray) : ((!(x0 == 0)) = false ∧ ((!(x1 == 0)) = false ∧ (!(x2 == 0)) = false) ∧ ((!(x3 == 0)) = false ∧ (!(x4 == 0)) = false) ∧ ((!(x5 == 0)) = false ∧ (!(x6 == 0)) = false) ∧ (!x7.toList.isEmpty) = false ∧ (!x8.toList.isEmpty) = false) ↔ bigB x0 x1 x2 x3 x4 x5 x6 x7 x8 = false := by
 have e : ∀ l : List UInt8, (l == []) = l.isEmpty := fun l => by cases l <;> rfl
 simp only [bigB, Bool.or_eq_false_iff, e]
theorem big_true (x0 x1 x2 x3 x4 x5 x6 : Int) (x7 x8 : ByteArray) : ((!(x0 == 0)) = true ∨ ((!(x1 == 0)) = true ∨ (!(x2 == 0)) = true) ∨ ((!(x3 == 0)) = true ∨ (!(x4 == 0)) = true) ∨ ((!(x5 == 0)) = true ∨ (!(x6 == 0)) = true) ∨ (!x7.toList.isEmpty) = true ∨ (!x8.toList.isEmpty) = true) ↔ bigB x0 x1 x2 x3 x4 x5 x6 x7 x8 = true := by
 have e : ∀ l : List UInt8, (l == []) = l.isEmpty := fun l => by cases l <;> rfl
 simp only [bigB, Bool.or_eq_true, e]
theorem big_rest (x5 x6 : Int) (x7 x8 : ByteArray) : bigB 0 0 0 0 0 x5 x6 x7 x8 = restB x5 x6 x7 x8 := by
 unfold bigB restB
 simp [Bool.or_assoc]
set_option maxRecDepth 100000 in
theorem tree_Check.calls (a0_0 a0_1 a0_2 a0_3 a0_4 a0_5 a0_6 : Int) (a0_7 a0_8 : ByteArray) (r : Int) (w : World) (h : tree_Check.f a0_0 a0_1 a0_2 a0_3 a0_4 a0_5 a0_6 a0_7 a0_8 = some r) :
  Calls Tryd.prog 76 #[.agg #[.int .i64 a0_0, .int .i64 a0_1, .int .i64 a0_2, .int .i64 a0_3, .int .i64 a0_4, .int .i64 a0_5, .int .i64 a0_6, .string a0_7, .string a0_8]] w fun e w' => e = .returned (.int .i64 r) ∧ Below w.heap.size w w' := by
 have hu1 := Tryd.underlying28
 have hu2 := Tryd.underlying26
 unfold tree_Check.f at h
 have HF1 := Aside0.mk (fine_calls a0_1 a0_2)
 have HF2 := Aside0.mk (fine_calls a0_3 a0_4)
 have HF3 := Aside0.mk (fine_calls a0_5 a0_6)
 have HO := Aside0.mk (outer_calls a0_5 a0_6)
 generalize hf1 : fineB a0_1 a0_2 = f1 at HF1 h
 generalize hf2 : fineB a0_3 a0_4 = f2 at HF2 h
 have HH := Aside0.mk h
 have HB := Aside0.mk (Below.refl w.heap.size w)
 clear h hf1 hf2
 go_enter Tryd.func76, Tryd.ntmps76
 go_upto_region 1 with (first | ((with_reducible refine gate_dst (N := 1) rfl ?_); (try (refine gate_guard (by rfl) ?_; dsimp only)); refine box_event ?hg (N := 1) ?hd (cs := opRow a0_0 a0_1 a0_2 a0_3 a0_4 a0_5 a0_6 a0_7 a0_8) (t := 28) ?hr ?_; (case hd => rfl); (case hg => rfl); (case hr => first | (go_simp; done) | (go_simp; rfl)); intro g1 hg w3 hbox hb; have HB1 := Aside0.mk (below_step HB.out hb); have HN1 := Aside0.mk hbox; have HG1 := Aside0.mk (show w.heap.size ≤ g1 by rw [hg]; exact Nat.le_refl _); clear hb hbox hg))
 (try simp only [Act.put, List.setIfInBounds_toArray, List.set_cons_zero, List.set_cons_succ])
 go_cut [3] (fun s3 wx => s3 = .bool (f1 && f2) ∧ Aside0 (Below w.heap.size w wx) ∧ Aside0 (wx.heap[g1]? = some (.cells (opRow a0_0 a0_1 a0_2 a0_3 a0_4 a0_5 a0_6 a0_7 a0_8) 28 (0, 0))))
 case first =>
  have c1 : w3.cell? ⟨g1, 1, none⟩ = some (.int .i64 a0_1) := (blk_cell HN1.out 1).trans rfl
  have c2 : w3.cell? ⟨g1, 2, none⟩ = some (.int .i64 a0_2) := (blk_cell HN1.out 2).trans rfl
  go_wp2_with (fail)
  refine (HF1.out _).mono ?_
  rintro e w1 ⟨rfl, hb1⟩
  have HB2 := Aside0.mk (below_then HB1.out HB1.out.size hb1)
  have HN2 := Aside0.mk (blk_below HN1.out hb1)
  have c3 : w1.cell? ⟨g1, 3, none⟩ = some (.int .i64 a0_3) := (blk_cell HN2.out 3).trans rfl
  have c4 : w1.cell? ⟨g1, 4, none⟩ = some (.int .i64 a0_4) := (blk_cell HN2.out 4).trans rfl
  clear hb1 c1 c2
  cases f1
  ·go_wp2_with (fail)
   go_meet
   exact ⟨rfl, HB2, HN2⟩
  ·go_wp2_with (fail)
   refine (HF2.out _).mono ?_
   rintro e w2 ⟨rfl, hb2⟩
   have HB3 := Aside0.mk (below_then HB2.out HB2.out.size hb2)
   have HN3 := Aside0.mk (blk_below HN2.out hb2)
   clear hb2 c3 c4
   go_wp2_with (fail)
   go_meet
   exact ⟨rfl, HB3, HN3⟩
 case rest =>
  obtain ⟨rfl, HB4, HR⟩ := hcut
  clear HB1 HN1
  have c0 : wc.cell? ⟨g1, 0, none⟩ = some (.int .i64 a0_0) := (blk_cell HR.out 0).trans rfl
  have c1 : wc.cell? ⟨g1, 1, none⟩ = some (.int .i64 a0_1) := (blk_cell HR.out 1).trans rfl
  have c2 : wc.cell? ⟨g1, 2, none⟩ = some (.int .i64 a0_2) := (blk_cell HR.out 2).trans rfl
  have c3 : wc.cell? ⟨g1, 3, none⟩ = some (.int .i64 a0_3) := (blk_cell HR.out 3).trans rfl
  have c4 : wc.cell? ⟨g1, 4, none⟩ = some (.int .i64 a0_4) := (blk_cell HR.out 4).trans rfl
  have c5 : wc.cell? ⟨g1, 5, none⟩ = some (.int .i64 a0_5) := (blk_cell HR.out 5).trans rfl
  have c6 : wc.cell? ⟨g1, 6, none⟩ = some (.int .i64 a0_6) := (blk_cell HR.out 6).trans rfl
  have c7 : wc.cell? ⟨g1, 7, none⟩ = some (.string a0_7) := (blk_cell HR.out 7).trans rfl
  have c8 : wc.cell? ⟨g1, 8, none⟩ = some (.string a0_8) := (blk_cell HR.out 8).trans rfl
  go_upto_block 0 with (first | ((with_reducible refine gate_dst (N := 4) rfl ?_); (try (refine gate_guard (by rfl) ?_; dsimp only)); refine box_event ?hg (N := 4) ?hd (cs := #[.int .i64 0, .int .i64 0, .int .i64 0, .int .i64 0, .int .i64 0, .int .i64 0, .int .i64 0, .string (⟨#[]⟩ : ByteArray), .string (⟨#[]⟩ : ByteArray)]) (t := 28) ?hr ?_; (case hd => rfl); (case hg => rfl); (case hr => first | (go_simp; done) | (go_simp; rfl)); intro g2 hg w4 hbox hb; have T0 := Aside0.mk (show TS w g1 g2 (opRow a0_0 a0_1 a0_2 a0_3 a0_4 a0_5 a0_6 a0_7 a0_8) _ w4 from ⟨below_step HB4.out hb, blk_below HR.out hb, hbox, by rw [hg]; exact HB4.out.size, by rw [hg]; exact Nat.ne_of_lt (blk_lt HR.out)⟩); clear c0 c1 c2 c3 c4 c5 c6 c7 c8 HB4 HR hb hbox hg ; have nn := T0.out.2.2.2.2; have c0 : w4.cell? ⟨g1, 0, none⟩ = some (.int .i64 a0_0) := (blk_cell T0.out.2.1 0).trans rfl; have d0 : w4.cell? ⟨g2, 0, none⟩ = some (.int .i64 0) := (blk_cell T0.out.2.2.1 0).trans rfl; have d1 : w4.cell? ⟨g2, 1, none⟩ = some (.int .i64 0) := (blk_cell T0.out.2.2.1 1).trans rfl; have d2 : w4.cell? ⟨g2, 2, none⟩ = some (.int .i64 0) := (blk_cell T0.out.2.2.1 2).trans rfl; have d3 : w4.cell? ⟨g2, 3, none⟩ = some (.int .i64 0) := (blk_cell T0.out.2.2.1 3).trans rfl; have d4 : w4.cell? ⟨g2, 4, none⟩ = some (.int .i64 0) := (blk_cell T0.out.2.2.1 4).trans rfl; have d5 : w4.cell? ⟨g2, 5, none⟩ = some (.int .i64 0) := (blk_cell T0.out.2.2.1 5).trans rfl; have d6 : w4.cell? ⟨g2, 6, none⟩ = some (.int .i64 0) := (blk_cell T0.out.2.2.1 6).trans rfl; have d7 : w4.cell? ⟨g2, 7, none⟩ = some (.string (⟨#[]⟩ : ByteArray)) := (blk_cell T0.out.2.2.1 7).trans rfl; have d8 : w4.cell? ⟨g2, 8, none⟩ = some (.string (⟨#[]⟩ : ByteArray)) := (blk_cell T0.out.2.2.1 8).trans rfl ; have z0 := blk_frozen T0.out.2.2.1 0; have z1 := blk_frozen T0.out.2.2.1 1; have z2 := blk_frozen T0.out.2.2.1 2; have z3 := blk_frozen T0.out.2.2.1 3; have z4 := blk_frozen T0.out.2.2.1 4; have z5 := blk_frozen T0.out.2.2.1 5; have z6 := blk_frozen T0.out.2.2.1 6; have z7 := blk_frozen T0.out.2.2.1 7; have z8 := blk_frozen T0.out.2.2.1 8))
  (try simp only [Act.put, List.setIfInBounds_toArray, List.set_cons_zero, List.set_cons_succ])
  have t := T0.out
  replace t := TS.set (r' := #[.int .i64 a0_0, .int .i64 0, .int .i64 0, .int .i64 0, .int .i64 0, .int .i64 0, .int .i64 0, .string (⟨#[]⟩ : ByteArray), .string (⟨#[]⟩ : ByteArray)]) t 0 (.int .i64 a0_0) rfl
  replace t := TS.set (r' := #[.int .i64 a0_0, .int .i64 a0_1, .int .i64 0, .int .i64 0, .int .i64 0, .int .i64 0, .int .i64 0, .string (⟨#[]⟩ : ByteArray), .string (⟨#[]⟩ : ByteArray)]) t 1 (.int .i64 a0_1) rfl
  replace t := TS.set (r' := #[.int .i64 a0_0, .int .i64 a0_1, .int .i64 a0_2, .int .i64 0, .int .i64 0, .int .i64 0, .int .i64 0, .string (⟨#[]⟩ : ByteArray), .string (⟨#[]⟩ : ByteArray)]) t 2 (.int .i64 a0_2) rfl
  replace t := TS.set (r' := #[.int .i64 a0_0, .int .i64 a0_1, .int .i64 a0_2, .int .i64 a0_3, .int .i64 0, .int .i64 0, .int .i64 0, .string (⟨#[]⟩ : ByteArray), .string (⟨#[]⟩ : ByteArray)]) t 3 (.int .i64 a0_3) rfl
  replace t := TS.set (r' := #[.int .i64 a0_0, .int .i64 a0_1, .int .i64 a0_2, .int .i64 a0_3, .int .i64 a0_4, .int .i64 0, .int .i64 0, .string (⟨#[]⟩ : ByteArray), .string (⟨#[]⟩ : ByteArray)]) t 4 (.int .i64 a0_4) rfl
  replace t := TS.set (r' := #[.int .i64 a0_0, .int .i64 a0_1, .int .i64 a0_2, .int .i64 a0_3, .int .i64 a0_4, .int .i64 a0_5, .int .i64 0, .string (⟨#[]⟩ : ByteArray), .string (⟨#[]⟩ : ByteArray)]) t 5 (.int .i64 a0_5) rfl
  replace t := TS.set (r' := #[.int .i64 a0_0, .int .i64 a0_1, .int .i64 a0_2, .int .i64 a0_3, .int .i64 a0_4, .int .i64 a0_5, .int .i64 a0_6, .string (⟨#[]⟩ : ByteArray), .string (⟨#[]⟩ : ByteArray)]) t 6 (.int .i64 a0_6) rfl
  replace t := TS.set (r' := #[.int .i64 a0_0, .int .i64 a0_1, .int .i64 a0_2, .int .i64 a0_3, .int .i64 a0_4, .int .i64 a0_5, .int .i64 a0_6, .string a0_7, .string (⟨#[]⟩ : ByteArray)]) t 7 (.string a0_7) rfl
  replace t := TS.set (r' := #[.int .i64 a0_0, .int .i64 a0_1, .int .i64 a0_2, .int .i64 a0_3, .int .i64 a0_4, .int .i64 a0_5, .int .i64 a0_6, .string a0_7, .string a0_8]) t 8 (.string a0_8) rfl
  replace t := TS.set (r' := #[.int .i64 0, .int .i64 a0_1, .int .i64 a0_2, .int .i64 a0_3, .int .i64 a0_4, .int .i64 a0_5, .int .i64 a0_6, .string a0_7, .string a0_8]) t 0 (.int .i64 0) rfl
  replace t := TS.set (r' := #[.int .i64 0, .int .i64 0, .int .i64 a0_2, .int .i64 a0_3, .int .i64 a0_4, .int .i64 a0_5, .int .i64 a0_6, .string a0_7, .string a0_8]) t 1 (.int .i64 0) rfl
  replace t := TS.set (r' := #[.int .i64 0, .int .i64 0, .int .i64 0, .int .i64 a0_3, .int .i64 a0_4, .int .i64 a0_5, .int .i64 a0_6, .string a0_7, .string a0_8]) t 2 (.int .i64 0) rfl
  replace t := TS.set (r' := #[.int .i64 0, .int .i64 0, .int .i64 0, .int .i64 0, .int .i64 a0_4, .int .i64 a0_5, .int .i64 a0_6, .string a0_7, .string a0_8]) t 3 (.int .i64 0) rfl
  replace t := TS.set (r' := #[.int .i64 0, .int .i64 0, .int .i64 0, .int .i64 0, .int .i64 0, .int .i64 a0_5, .int .i64 a0_6, .string a0_7, .string a0_8]) t 4 (.int .i64 0) rfl
  have T1 := Aside0.mk t
  clear t
  clear T0 c0 d0 d1 d2 d3 d4 d5 d6 d7 d8 z0 z1 z2 z3 z4 z5 z6 z7 z8
  revert T1
  generalize (World.setCell (World.setCell (World.setCell (World.setCell (World.setCell (World.setCell (World.setCell (World.setCell (World.setCell (World.setCell (World.setCell (World.setCell (World.setCell (World.setCell w4 ⟨g2, 0, none⟩ (.int .i64 a0_0)) ⟨g2, 1, none⟩ (.int .i64 a0_1)) ⟨g2, 2, none⟩ (.int .i64 a0_2)) ⟨g2, 3, none⟩ (.int .i64 a0_3)) ⟨g2, 4, none⟩ (.int .i64 a0_4)) ⟨g2, 5, none⟩ (.int .i64 a0_5)) ⟨g2, 6, none⟩ (.int .i64 a0_6)) ⟨g2, 7, none⟩ (.string a0_7)) ⟨g2, 8, none⟩ (.string a0_8)) ⟨g2, 0, none⟩ (.int .i64 0)) ⟨g2, 1, none⟩ (.int .i64 0)) ⟨g2, 2, none⟩ (.int .i64 0)) ⟨g2, 3, none⟩ (.int .i64 0)) ⟨g2, 4, none⟩ (.int .i64 0)) = w5
  intro T1
  generalize hb0 : (f1 && f2) = b0 at HH
  clear hb0 HF1 HF2 nn
  go_cut [3] (fun s3 wx => ∃ b : Bool, s3 = .bool (finOk a0_0 b a0_8) ∧ Aside0 (finV a0_0 b a0_5 a0_6 a0_7 a0_8 = r) ∧ Aside0 (TS w g1 g2 (opRow a0_0 a0_1 a0_2 a0_3 a0_4 a0_5 a0_6 a0_7 a0_8) #[.int .i64 0, .int .i64 0, .int .i64 0, .int .i64 0, .int .i64 0, .int .i64 a0_5, .int .i64 a0_6, .string (nmR a0_0 a0_7), .string (vlR a0_0 a0_8)] wx))
  case first =>
   have k1 : w5.cell? ⟨g1, 1, none⟩ = some (.int .i64 a0_1) := (blk_cell T1.out.2.1 1).trans rfl
   have k2 : w5.cell? ⟨g1, 2, none⟩ = some (.int .i64 a0_2) := (blk_cell T1.out.2.1 2).trans rfl
   have k3 : w5.cell? ⟨g1, 3, none⟩ = some (.int .i64 a0_3) := (blk_cell T1.out.2.1 3).trans rfl
   have k4 : w5.cell? ⟨g1, 4, none⟩ = some (.int .i64 a0_4) := (blk_cell T1.out.2.1 4).trans rfl
   have k5 : w5.cell? ⟨g1, 5, none⟩ = some (.int .i64 a0_5) := (blk_cell T1.out.2.1 5).trans rfl
   have k6 : w5.cell? ⟨g1, 6, none⟩ = some (.int .i64 a0_6) := (blk_cell T1.out.2.1 6).trans rfl
   have k7 : w5.cell? ⟨g1, 7, none⟩ = some (.string a0_7) := (blk_cell T1.out.2.1 7).trans rfl
   have k8 : w5.cell? ⟨g1, 8, none⟩ = some (.string a0_8) := (blk_cell T1.out.2.1 8).trans rfl
   have m7 : w5.cell? ⟨g2, 7, none⟩ = some (.string a0_7) := (blk_cell T1.out.2.2.1 7).trans rfl
   have m8 : w5.cell? ⟨g2, 8, none⟩ = some (.string a0_8) := (blk_cell T1.out.2.2.1 8).trans rfl
   have z7 := blk_frozen T1.out.2.2.1 7
   have z8 := blk_frozen T1.out.2.2.1 8
   by_cases h1 : a0_0 = 1
   ·subst h1
    have N := nm_cases HH.out
    cases b0
    ·have HV := Aside0.mk (N.2 (fun q => by have := q.2; simp at this))
     clear N HH
     go_wp2_with (fail)
     go_meet
     exact ⟨false, rfl, HV, ⟨T1.out.set 7 _ rfl⟩⟩
    ·rw [if_pos rfl, Bool.true_and] at N
     by_cases he : (a0_3 == a0_1 && (a0_4 == a0_2)) = true
     ·obtain ⟨q, hq, hv⟩ := N.1 ⟨.inl rfl, he⟩
      have HV := Aside0.mk hv
      have HN := Aside0.mk (fun W => name_Check.calls a0_7 q W hq)
      clear N HH hv hq
      go_wp2_with (fail)
      refine (HN.out _).mono ?_
      rintro e w6 ⟨rfl, hb⟩
      have T2 := Aside0.mk (T1.out.below hb)
      clear hb k1 k2 k3 k4 k5 k6 k7 k8 m7 m8 z7 z8
      have m7 : w6.cell? ⟨g2, 7, none⟩ = some (.string a0_7) := (blk_cell T2.out.2.2.1 7).trans rfl
      have z7 := blk_frozen T2.out.2.2.1 7
      generalize hqb : (q == 0) = qb at HV
      go_wp2_with (fail)
      go_meet
      exact ⟨qb, rfl, HV, ⟨T2.out.set 7 _ rfl⟩⟩
     ·have he := Bool.eq_false_iff.2 he
      have HV := Aside0.mk (N.2 (fun q => by rw [he] at q; have := q.2; simp at this))
      rw [he] at HV
      clear N HH
      go_wp2_with (fail)
      go_meet
      exact ⟨false, rfl, HV, ⟨T1.out.set 7 _ rfl⟩⟩
   ·have v1 := beq_eq_false_iff_ne.2 h1
    by_cases h3 : a0_0 = 3
    ·subst h3
     have N := nm_cases HH.out
     rw [if_neg h1] at N
     cases b0
     ·have HV := Aside0.mk (N.2 (fun q => by have := q.2; simp at this))
      clear N HH
      go_wp2_with (fail)
      go_meet
      exact ⟨false, rfl, HV, ⟨T1.out.set 7 _ rfl⟩⟩
     ·obtain ⟨q, hq, hv⟩ := N.1 ⟨.inr rfl, rfl⟩
      have HV := Aside0.mk hv
      have HN := Aside0.mk (fun W => name_Check.calls a0_7 q W hq)
      clear N HH hv hq
      go_wp2_with (fail)
      refine (HN.out _).mono ?_
      rintro e w6 ⟨rfl, hb⟩
      have T2 := Aside0.mk (T1.out.below hb)
      clear hb k1 k2 k3 k4 k5 k6 k7 k8 m7 m8 z7 z8
      have m7 : w6.cell? ⟨g2, 7, none⟩ = some (.string a0_7) := (blk_cell T2.out.2.2.1 7).trans rfl
      have z7 := blk_frozen T2.out.2.2.1 7
      generalize hqb : (q == 0) = qb at HV
      go_wp2_with (fail)
      go_meet
      exact ⟨qb, rfl, HV, ⟨T2.out.set 7 _ rfl⟩⟩
    ·have v3 := beq_eq_false_iff_ne.2 h3
     have N := (nm_cases HH.out).2 (fun q => q.1.elim h1 h3)
     rw [if_neg h1] at N
     have HV := Aside0.mk N
     clear N HH
     by_cases h4 : a0_0 = 4
     ·subst h4
      cases b0
      ·go_wp2_with (fail)
       go_meet
       exact ⟨false, rfl, HV, ⟨T1.out.set 8 _ rfl⟩⟩
      ·generalize hd : decide ((a0_8.size : Int) ≤ 64) = db
       go_wp2_with (fail)
       go_meet
       exact ⟨true, by rw [← hd]; rfl, HV, ⟨T1.out.set 8 _ rfl⟩⟩
     ·have v4 := beq_eq_false_iff_ne.2 h4
      have E1 : Aside0 (nmR a0_0 a0_7 = a0_7) := ⟨if_neg (by omega)⟩
      have E2 : Aside0 (vlR a0_0 a0_8 = a0_8) := ⟨if_neg (by omega)⟩
      by_cases h2 : a0_0 = 2
      ·subst h2
       go_wp2_with (fail)
       go_meet
       exact ⟨b0, rfl, HV, T1⟩
      ·have v2 := beq_eq_false_iff_ne.2 h2
       by_cases h5 : a0_0 = 5
       ·subst h5
        go_wp2_with (fail)
        go_meet
        exact ⟨b0, rfl, HV, T1⟩
       ·have v5 := beq_eq_false_iff_ne.2 h5
        have e3 : finOk a0_0 b0 a0_8 = false := by unfold finOk; rw [if_neg h4, if_neg (by omega)]
        have E3 := Aside0.mk e3
        clear e3 h1 h2 h3 h4 h5
        go_wp2_with (fail)
        go_meet
        exact ⟨b0, by rw [E3.out], HV, ⟨by rw [E1.out, E2.out]; exact T1.out⟩⟩
  case rest =>
   obtain ⟨b, rfl, HV, T2⟩ := hcut
   clear T1 HH
   unfold finV at HV
   generalize hob : finOk a0_0 b a0_8 = ob at HV
   generalize hn : nmR a0_0 a0_7 = nm at T2 HV
   generalize hvl : vlR a0_0 a0_8 = vl at T2 HV
   clear hob hn hvl b
   have c0 : wc.cell? ⟨g1, 0, none⟩ = some (.int .i64 a0_0) := (blk_cell T2.out.2.1 0).trans rfl
   have c5 : wc.cell? ⟨g1, 5, none⟩ = some (.int .i64 a0_5) := (blk_cell T2.out.2.1 5).trans rfl
   have c6 : wc.cell? ⟨g1, 6, none⟩ = some (.int .i64 a0_6) := (blk_cell T2.out.2.1 6).trans rfl
   by_cases h1 : a0_0 = 1
   ·subst h1
    have e1 : finPa 1 ob a0_5 a0_6 = (ob && (outerB a0_5 a0_6 || fineB a0_5 a0_6)) := if_pos (.inl rfl)
    have n12 : ((1 : Int) = 1 ∨ (1 : Int) = 2) := .inl rfl
    rw [e1, if_pos n12, if_pos n12] at HV
    clear e1 n12
    go_upto_region 18 with (fail)
    go_cut [3] (fun s3 wx => s3 = .bool (ob && (outerB a0_5 a0_6 || fineB a0_5 a0_6)) ∧ Aside0 (TS w g1 g2 (opRow 1 a0_1 a0_2 a0_3 a0_4 a0_5 a0_6 a0_7 a0_8) #[.int .i64 0, .int .i64 0, .int .i64 0, .int .i64 0, .int .i64 0, .int .i64 a0_5, .int .i64 a0_6, .string nm, .string vl] wx))
    case first =>
     cases ob
     ·go_wp2_with (fail)
      go_meet
      exact ⟨rfl, T2⟩
     ·obtain ⟨oo, ho⟩ : ∃ oo, outerB a0_5 a0_6 = oo := ⟨_, rfl⟩
      rw [ho] at HO
      have HOO := Aside0.mk ho
      clear ho
      obtain ⟨ff, hf⟩ : ∃ ff, fineB a0_5 a0_6 = ff := ⟨_, rfl⟩
      rw [hf] at HF3
      have HFF := Aside0.mk hf
      clear hf
      go_wp2_with (fail)
      refine (HO.out _).mono ?_
      rintro e w7 ⟨rfl, hb⟩
      have T3 := Aside0.mk (T2.out.below hb)
      clear hb c0 c5 c6
      cases oo
      ·have c5 : w7.cell? ⟨g1, 5, none⟩ = some (.int .i64 a0_5) := (blk_cell T3.out.2.1 5).trans rfl
       have c6 : w7.cell? ⟨g1, 6, none⟩ = some (.int .i64 a0_6) := (blk_cell T3.out.2.1 6).trans rfl
       go_wp2_with (fail)
       refine (HF3.out _).mono ?_
       rintro e w8 ⟨rfl, hb⟩
       have T4 := Aside0.mk (T3.out.below hb)
       clear hb c5 c6
       go_wp2_with (fail)
       go_meet
       exact ⟨by rw [HOO.out, HFF.out]; rfl, T4⟩
      ·go_wp2_with (fail)
       go_meet
       exact ⟨by rw [HOO.out]; rfl, T3⟩
    case rest =>
     obtain ⟨rfl, T3⟩ := hcut
     clear T2 HO HF3 c0 c5 c6
     have d5 : wc.cell? ⟨g2, 5, none⟩ = some (.int .i64 a0_5) := (blk_cell T3.out.2.2.1 5).trans rfl
     have d6 : wc.cell? ⟨g2, 6, none⟩ = some (.int .i64 a0_6) := (blk_cell T3.out.2.2.1 6).trans rfl
     have z5 := blk_frozen T3.out.2.2.1 5
     have z6 := blk_frozen T3.out.2.2.1 6
     go_upto_region 20 with (fail)
     have TQ := Aside0.mk (TS.set (r' := #[.int .i64 0, .int .i64 0, .int .i64 0, .int .i64 0, .int .i64 0, .int .i64 0, .int .i64 0, .string nm, .string vl]) (TS.set (r' := #[.int .i64 0, .int .i64 0, .int .i64 0, .int .i64 0, .int .i64 0, .int .i64 0, .int .i64 a0_6, .string nm, .string vl]) T3.out 5 (.int .i64 0) rfl) 6 (.int .i64 0) rfl)
     have HVQ := HV
     generalize (ob && (outerB a0_5 a0_6 || fineB a0_5 a0_6)) = ok at HVQ ⊢
     clear HV T3 d5 d6 z5 z6
     revert TQ
     generalize (wc.setCell ⟨g2, 5, none⟩ (.int .i64 0)).setCell ⟨g2, 6, none⟩ (.int .i64 0) = wq
     intro TQ
     obtain ⟨x0, x1, x2, x3, x4, x5, x6, x7, x8, T5, HR⟩ : ∃ (x0 x1 x2 x3 x4 x5 x6 : Int) (x7 x8 : ByteArray), Aside0 (TS w g1 g2 (opRow 1 a0_1 a0_2 a0_3 a0_4 a0_5 a0_6 a0_7 a0_8) #[.int .i64 x0, .int .i64 x1, .int .i64 x2, .int .i64 x3, .int .i64 x4, .int .i64 x5, .int .i64 x6, .string x7, .string x8] wq) ∧ Aside0 ((if (!ok || bigB x0 x1 x2 x3 x4 x5 x6 x7 x8) = true then (1 : Int) else 0) = r) := ⟨0, 0, 0, 0, 0, 0, 0, nm, vl, TQ, ⟨by rw [big_rest]; exact HVQ.out⟩⟩
     clear TQ HVQ
     have d0 : wq.cell? ⟨g2, 0, none⟩ = some (.int .i64 x0) := (blk_cell T5.out.2.2.1 0).trans rfl
     have d1 : wq.cell? ⟨g2, 1, none⟩ = some (.int .i64 x1) := (blk_cell T5.out.2.2.1 1).trans rfl
     have d2 : wq.cell? ⟨g2, 2, none⟩ = some (.int .i64 x2) := (blk_cell T5.out.2.2.1 2).trans rfl
     have d3 : wq.cell? ⟨g2, 3, none⟩ = some (.int .i64 x3) := (blk_cell T5.out.2.2.1 3).trans rfl
     have d4 : wq.cell? ⟨g2, 4, none⟩ = some (.int .i64 x4) := (blk_cell T5.out.2.2.1 4).trans rfl
     have d5 : wq.cell? ⟨g2, 5, none⟩ = some (.int .i64 x5) := (blk_cell T5.out.2.2.1 5).trans rfl
     have d6 : wq.cell? ⟨g2, 6, none⟩ = some (.int .i64 x6) := (blk_cell T5.out.2.2.1 6).trans rfl
     have d7 : wq.cell? ⟨g2, 7, none⟩ = some (.string x7) := (blk_cell T5.out.2.2.1 7).trans rfl
     have d8 : wq.cell? ⟨g2, 8, none⟩ = some (.string x8) := (blk_cell T5.out.2.2.1 8).trans rfl
     cases ok
     ·rw [Bool.not_false, Bool.true_or, if_pos rfl] at HR
      go_wp2_with (fail)
      go_ret
      exact ⟨by rw [← HR.out]; rfl, T5.out.1⟩
     ·rw [Bool.not_true, Bool.false_or] at HR
      go_wp2_with (fail)
      ·rename_i hz
       go_ret
       exact ⟨by rw [← HR.out, if_pos ((big_true x0 x1 x2 x3 x4 x5 x6 x7 x8).1 hz)]; rfl, T5.out.1⟩
      ·rename_i hz
       go_ret
       exact ⟨by rw [← HR.out, if_neg (by rw [(big_false x0 x1 x2 x3 x4 x5 x6 x7 x8).1 hz]; decide)]; rfl, T5.out.1⟩

   ·have v1 := beq_eq_false_iff_ne.2 h1
    by_cases h2 : a0_0 = 2
    ·subst h2
     have e1 : finPa 2 ob a0_5 a0_6 = (ob && (outerB a0_5 a0_6 || fineB a0_5 a0_6)) := if_pos (.inr rfl)
     have n12 : ((2 : Int) = 1 ∨ (2 : Int) = 2) := .inr rfl
     rw [e1, if_pos n12, if_pos n12] at HV
     clear e1 n12
     go_upto_region 18 with (fail)
     go_cut [3] (fun s3 wx => s3 = .bool (ob && (outerB a0_5 a0_6 || fineB a0_5 a0_6)) ∧ Aside0 (TS w g1 g2 (opRow 2 a0_1 a0_2 a0_3 a0_4 a0_5 a0_6 a0_7 a0_8) #[.int .i64 0, .int .i64 0, .int .i64 0, .int .i64 0, .int .i64 0, .int .i64 a0_5, .int .i64 a0_6, .string nm, .string vl] wx))
     case first =>
      cases ob
      ·go_wp2_with (fail)
       go_meet
       exact ⟨rfl, T2⟩
      ·obtain ⟨oo, ho⟩ : ∃ oo, outerB a0_5 a0_6 = oo := ⟨_, rfl⟩
       rw [ho] at HO
       have HOO := Aside0.mk ho
       clear ho
       obtain ⟨ff, hf⟩ : ∃ ff, fineB a0_5 a0_6 = ff := ⟨_, rfl⟩
       rw [hf] at HF3
       have HFF := Aside0.mk hf
       clear hf
       go_wp2_with (fail)
       refine (HO.out _).mono ?_
       rintro e w7 ⟨rfl, hb⟩
       have T3 := Aside0.mk (T2.out.below hb)
       clear hb c0 c5 c6
       cases oo
       ·have c5 : w7.cell? ⟨g1, 5, none⟩ = some (.int .i64 a0_5) := (blk_cell T3.out.2.1 5).trans rfl
        have c6 : w7.cell? ⟨g1, 6, none⟩ = some (.int .i64 a0_6) := (blk_cell T3.out.2.1 6).trans rfl
        go_wp2_with (fail)
        refine (HF3.out _).mono ?_
        rintro e w8 ⟨rfl, hb⟩
        have T4 := Aside0.mk (T3.out.below hb)
        clear hb c5 c6
        go_wp2_with (fail)
        go_meet
        exact ⟨by rw [HOO.out, HFF.out]; rfl, T4⟩
       ·go_wp2_with (fail)
        go_meet
        exact ⟨by rw [HOO.out]; rfl, T3⟩
     case rest =>
      obtain ⟨rfl, T3⟩ := hcut
      clear T2 HO HF3 c0 c5 c6
      have d5 : wc.cell? ⟨g2, 5, none⟩ = some (.int .i64 a0_5) := (blk_cell T3.out.2.2.1 5).trans rfl
      have d6 : wc.cell? ⟨g2, 6, none⟩ = some (.int .i64 a0_6) := (blk_cell T3.out.2.2.1 6).trans rfl
      have z5 := blk_frozen T3.out.2.2.1 5
      have z6 := blk_frozen T3.out.2.2.1 6
      go_upto_region 20 with (fail)
      have TQ := Aside0.mk (TS.set (r' := #[.int .i64 0, .int .i64 0, .int .i64 0, .int .i64 0, .int .i64 0, .int .i64 0, .int .i64 0, .string nm, .string vl]) (TS.set (r' := #[.int .i64 0, .int .i64 0, .int .i64 0, .int .i64 0, .int .i64 0, .int .i64 0, .int .i64 a0_6, .string nm, .string vl]) T3.out 5 (.int .i64 0) rfl) 6 (.int .i64 0) rfl)
      have HVQ := HV
      generalize (ob && (outerB a0_5 a0_6 || fineB a0_5 a0_6)) = ok at HVQ ⊢
      clear HV T3 d5 d6 z5 z6
      revert TQ
      generalize (wc.setCell ⟨g2, 5, none⟩ (.int .i64 0)).setCell ⟨g2, 6, none⟩ (.int .i64 0) = wq
      intro TQ
      obtain ⟨x0, x1, x2, x3, x4, x5, x6, x7, x8, T5, HR⟩ : ∃ (x0 x1 x2 x3 x4 x5 x6 : Int) (x7 x8 : ByteArray), Aside0 (TS w g1 g2 (opRow 2 a0_1 a0_2 a0_3 a0_4 a0_5 a0_6 a0_7 a0_8) #[.int .i64 x0, .int .i64 x1, .int .i64 x2, .int .i64 x3, .int .i64 x4, .int .i64 x5, .int .i64 x6, .string x7, .string x8] wq) ∧ Aside0 ((if (!ok || bigB x0 x1 x2 x3 x4 x5 x6 x7 x8) = true then (1 : Int) else 0) = r) := ⟨0, 0, 0, 0, 0, 0, 0, nm, vl, TQ, ⟨by rw [big_rest]; exact HVQ.out⟩⟩
      clear TQ HVQ
      have d0 : wq.cell? ⟨g2, 0, none⟩ = some (.int .i64 x0) := (blk_cell T5.out.2.2.1 0).trans rfl
      have d1 : wq.cell? ⟨g2, 1, none⟩ = some (.int .i64 x1) := (blk_cell T5.out.2.2.1 1).trans rfl
      have d2 : wq.cell? ⟨g2, 2, none⟩ = some (.int .i64 x2) := (blk_cell T5.out.2.2.1 2).trans rfl
      have d3 : wq.cell? ⟨g2, 3, none⟩ = some (.int .i64 x3) := (blk_cell T5.out.2.2.1 3).trans rfl
      have d4 : wq.cell? ⟨g2, 4, none⟩ = some (.int .i64 x4) := (blk_cell T5.out.2.2.1 4).trans rfl
      have d5 : wq.cell? ⟨g2, 5, none⟩ = some (.int .i64 x5) := (blk_cell T5.out.2.2.1 5).trans rfl
      have d6 : wq.cell? ⟨g2, 6, none⟩ = some (.int .i64 x6) := (blk_cell T5.out.2.2.1 6).trans rfl
      have d7 : wq.cell? ⟨g2, 7, none⟩ = some (.string x7) := (blk_cell T5.out.2.2.1 7).trans rfl
      have d8 : wq.cell? ⟨g2, 8, none⟩ = some (.string x8) := (blk_cell T5.out.2.2.1 8).trans rfl
      cases ok
      ·rw [Bool.not_false, Bool.true_or, if_pos rfl] at HR
       go_wp2_with (fail)
       go_ret
       exact ⟨by rw [← HR.out]; rfl, T5.out.1⟩
      ·rw [Bool.not_true, Bool.false_or] at HR
       go_wp2_with (fail)
       ·rename_i hz
        go_ret
        exact ⟨by rw [← HR.out, if_pos ((big_true x0 x1 x2 x3 x4 x5 x6 x7 x8).1 hz)]; rfl, T5.out.1⟩
       ·rename_i hz
        go_ret
        exact ⟨by rw [← HR.out, if_neg (by rw [(big_false x0 x1 x2 x3 x4 x5 x6 x7 x8).1 hz]; decide)]; rfl, T5.out.1⟩

    ·have v2 := beq_eq_false_iff_ne.2 h2
     have n12 : ¬ (a0_0 = 1 ∨ a0_0 = 2) := fun q => q.elim h1 h2
     have e1 : finPa a0_0 ob a0_5 a0_6 = ob := if_neg n12
     rw [e1, if_neg n12, if_neg n12] at HV
     clear e1 n12 h1 h2 HO HF3 c5 c6
     go_upto_region 20 with (fail)
     have TQ := T2
     have HVQ := HV
     clear T2 HV c0
     generalize wc = wq at TQ ⊢
     generalize ob = ok at HVQ ⊢
     obtain ⟨x0, x1, x2, x3, x4, x5, x6, x7, x8, T5, HR⟩ : ∃ (x0 x1 x2 x3 x4 x5 x6 : Int) (x7 x8 : ByteArray), Aside0 (TS w g1 g2 (opRow a0_0 a0_1 a0_2 a0_3 a0_4 a0_5 a0_6 a0_7 a0_8) #[.int .i64 x0, .int .i64 x1, .int .i64 x2, .int .i64 x3, .int .i64 x4, .int .i64 x5, .int .i64 x6, .string x7, .string x8] wq) ∧ Aside0 ((if (!ok || bigB x0 x1 x2 x3 x4 x5 x6 x7 x8) = true then (1 : Int) else 0) = r) := ⟨0, 0, 0, 0, 0, a0_5, a0_6, nm, vl, TQ, ⟨by rw [big_rest]; exact HVQ.out⟩⟩
     clear TQ HVQ
     have d0 : wq.cell? ⟨g2, 0, none⟩ = some (.int .i64 x0) := (blk_cell T5.out.2.2.1 0).trans rfl
     have d1 : wq.cell? ⟨g2, 1, none⟩ = some (.int .i64 x1) := (blk_cell T5.out.2.2.1 1).trans rfl
     have d2 : wq.cell? ⟨g2, 2, none⟩ = some (.int .i64 x2) := (blk_cell T5.out.2.2.1 2).trans rfl
     have d3 : wq.cell? ⟨g2, 3, none⟩ = some (.int .i64 x3) := (blk_cell T5.out.2.2.1 3).trans rfl
     have d4 : wq.cell? ⟨g2, 4, none⟩ = some (.int .i64 x4) := (blk_cell T5.out.2.2.1 4).trans rfl
     have d5 : wq.cell? ⟨g2, 5, none⟩ = some (.int .i64 x5) := (blk_cell T5.out.2.2.1 5).trans rfl
     have d6 : wq.cell? ⟨g2, 6, none⟩ = some (.int .i64 x6) := (blk_cell T5.out.2.2.1 6).trans rfl
     have d7 : wq.cell? ⟨g2, 7, none⟩ = some (.string x7) := (blk_cell T5.out.2.2.1 7).trans rfl
     have d8 : wq.cell? ⟨g2, 8, none⟩ = some (.string x8) := (blk_cell T5.out.2.2.1 8).trans rfl
     cases ok
     ·rw [Bool.not_false, Bool.true_or, if_pos rfl] at HR
      go_wp2_with (fail)
      go_ret
      exact ⟨by rw [← HR.out]; rfl, T5.out.1⟩
     ·rw [Bool.not_true, Bool.false_or] at HR
      go_wp2_with (fail)
      ·rename_i hz
       go_ret
       exact ⟨by rw [← HR.out, if_pos ((big_true x0 x1 x2 x3 x4 x5 x6 x7 x8).1 hz)]; rfl, T5.out.1⟩
      ·rename_i hz
       go_ret
       exact ⟨by rw [← HR.out, if_neg (by rw [(big_false x0 x1 x2 x3 x4 x5 x6 x7 x8).1 hz]; decide)]; rfl, T5.out.1⟩
end Go.Proofs.YthemhfloablccaaDoor.Pr
end

section
namespace Go.Proofs.YthemhfloablccaaDoor.Pr
open Go.RowKit Go.Deep Go.Proofs.YthemhfloablccaaDoorW.PrintWords Go.Proofs.YthemhfloablccaaDoorW.PrintLast Go.Proofs.YthemhfloablccaaDoorW.PrintMore
set_option maxHeartbeats 2000000
def badN (x : Int) : Bool := decide (x < 0) || decide (1099511627775 < x)
theorem badN_calls (x : Int) (w : World) : Calls Tryd.prog 100 #[.int .i64 x] w fun e w' => e = .returned (.bool (badN x)) ∧ w' = w := by
 by_cases h : x < 0
 ·have d1 : decide (x < 0) = true := decide_eq_true h
  have hv : badN x = true := by unfold badN; rw [d1]; rfl
  rw [hv]
  clear h hv
  go_enter Tryd.func100, Tryd.ntmps100
  go_wp2
  go_ret
  exact ⟨rfl, rfl⟩
 ·have d1 : decide (x < 0) = false := decide_eq_false h
  have hv : badN x = decide (1099511627775 < x) := by unfold badN; rw [d1]; rfl
  rw [hv]
  clear h hv
  generalize hd : decide (1099511627775 < x) = b
  go_enter Tryd.func100, Tryd.ntmps100
  go_wp2
  go_ret
  exact ⟨rfl, rfl⟩
theorem num_at {w : World} {A : Option Addr} {l : List Int} (h : Kd.C (Kd.int .i64) w A l.length l) (k : Nat) (hk : k < l.length) : ∃ ad x, A = some ad ∧ l[k]? = some x ∧ w.cell? (ad.add k) = some (.int .i64 x) := by
 obtain ⟨ad, he, hz⟩ := h.2.2 (by omega)
 obtain ⟨cs, h1, h2, h3⟩ := hz k _ (List.getElem?_eq_getElem hk)
 have h2' : cs = [.int .i64 l[k]] := h2
 subst h2'
 have h4 : w.cell? (ad.add (k * 1)) = some (.int .i64 l[k]) := h3 0 _ rfl
 rw [Nat.mul_one] at h4
 exact ⟨ad, l[k], he, List.getElem?_eq_getElem hk, h4⟩
theorem indexNum_calls (A : Option Addr) (cap : Nat) (l : List Int) (w : World) (hC : Kd.C (Kd.int .i64) w A l.length l) (hm : l.length ≤ 1000000) :
  Calls Tryd.prog 114 #[.slice A l.length cap, .func (.func 100) #[] #[]] w fun e w' => ∃ r : Int, e = .returned (.int .i64 r) ∧ decide (0 ≤ r) = l.any badN ∧ w' = w := by
 have HC := Aside0.mk hC
 have HM := Aside0.mk hm
 clear hC hm
 go_enter Tryd.func114, Tryd.ntmps114
 go_wp2
 go_loopg [8] l.length (fun gk i wr => ∃ k : Nat, k ≤ l.length ∧ i = .int .i64 (k : Int) ∧ Aside0 (gk = l.length - k) ∧ Aside0 (wr = w) ∧ Aside0 ((l.take k).any badN = false))
 case atStart => exact ⟨0, Nat.zero_le _, rfl, ⟨rfl⟩, ⟨rfl⟩, ⟨rfl⟩⟩
 case round =>
  obtain ⟨k, hk, rfl, HG, HW, HK⟩ := hrel
  obtain rfl := HW.out
  by_cases hlt : k < l.length
  ·have q1 : decide (k < l.length) = true := decide_eq_true hlt
   obtain ⟨ad, x, rfl, hx, hc⟩ := num_at HC.out k hlt
   have e5 := eq_true hlt
   have HX := Aside0.mk hx
   have HLT := Aside0.mk hlt
   have w1 : wrap64 ((k : Int) + 1) = ((k + 1 : Nat) : Int) := by have := HM.out; unfold wrap64; omega
   obtain ⟨b, hb⟩ : ∃ b, badN x = b := ⟨_, rfl⟩
   have hbc := badN_calls x wr
   rw [hb] at hbc
   have HBC := Aside0.mk hbc
   have HB := Aside0.mk hb
   have htk : (l.take (k + 1)).any badN = b := by
    rw [List.take_add_one, hx, List.any_append, HK.out]
    simp [hb]
   have HTK := Aside0.mk htk
   clear hk hlt hx hbc hb htk
   cases b
   ·go_wp2_with (fail)
    refine HBC.out.mono ?_
    rintro e w' ⟨rfl, rfl⟩
    go_wp2_with (fail)
    go_roundg (l.length - (k + 1))
    case measure => have := HG.out; have := HLT.out; omega
    case rel => exact ⟨k + 1, HLT.out, by go_num, ⟨rfl⟩, ⟨rfl⟩, HTK⟩
   ·go_wp2_with (fail)
    refine HBC.out.mono ?_
    rintro e w' ⟨rfl, rfl⟩
    go_wp2_with (fail)
    go_ret
    refine ⟨_, rfl, ?_, rfl⟩
    have : l.any badN = true := by
     rw [← List.take_append_drop (k + 1) l, List.any_append, HTK.out]
     rfl
    rw [this]
    exact decide_eq_true (by omega)
  ·have q1 : decide (k < l.length) = false := decide_eq_false hlt
   have HE : Aside0 (l.any badN = false) := ⟨by have := HK.out; rwa [List.take_of_length_le (by omega)] at this⟩
   clear hk hlt
   go_wp2_with (fail)
   go_ret
   exact ⟨_, rfl, by rw [HE.out]; rfl, rfl⟩
def wire_number.f (l0 : List Int) : Option Bool := if l0.length ≤ 1000000 then some (!(l0.any badN)) else none
theorem wire_number.calls (A0 : Option Addr) (c0 : Nat) (l0 : List Int) (r : Bool) (w : World) (hr0 : Kd.C (Kd.int .i64) w A0 l0.length l0) (hc0 : l0.length ≤ c0) (h : wire_number.f l0 = some r) :
  Calls Tryd.prog 75 #[.slice A0 l0.length c0] w fun e w' => e = .returned (.bool r) ∧ Below w.heap.size w w' := by
 unfold wire_number.f at h
 by_cases hm : l0.length ≤ 1000000
 ·rw [if_pos hm] at h
  cases h
  have HI := Aside0.mk (indexNum_calls A0 c0 l0 w hr0 hm)
  have HCF : Aside0 (Calls Tryd.prog 99 #[.slice A0 l0.length c0, .func (.func 100) #[] #[]] w fun e w' => e = .returned (.bool (l0.any badN)) ∧ w' = w) := ⟨by
   clear hr0 hm
   go_enter Tryd.func99, Tryd.ntmps99
   go_wp2_with (fail)
   refine HI.out.mono ?_
   rintro e w' ⟨r, rfl, hr, rfl⟩
   have HR := Aside0.mk hr
   clear hr
   generalize hd : decide (0 ≤ r) = b at HR
   go_wp2_with (fail)
   go_ret
   exact ⟨by rw [← HR.out]; rfl, rfl⟩⟩
  clear hr0 hm
  generalize l0.any badN = b at HCF ⊢
  go_enter Tryd.func75, Tryd.ntmps75
  go_wp2_with (fail)
  refine HCF.out.mono ?_
  rintro e w' ⟨rfl, rfl⟩
  go_wp2_with (fail)
  go_ret
  exact ⟨rfl, Below.refl _ _⟩
 ·rw [if_neg hm] at h
  cases h
end Go.Proofs.YthemhfloablccaaDoor.Pr
end

section
namespace Go.Proofs.YthemhfloablccaaDoor.Pr
open Go.RowKit Go.Proofs.YthemhfloablccaaDoorW.PrintWords Go.Proofs.YthemhfloablccaaDoorW.PrintLast Go.Proofs.YthemhfloablccaaDoorW.PrintMore
attribute [local go_sem] max2_int min2_int max_two min_two max_three min_three max_four min_four
def wire_member.f (a0 : Int) : Option (Bool) := if a0 ≥ 1 then (some (decide (a0 ≤ 6))) else (some false)
set_option maxHeartbeats 8000000 in
set_option maxRecDepth 100000 in
theorem wire_member.calls (a0 : Int) (r : Bool) (w : World) (h : wire_member.f a0 = some r) :
  Calls Tryd.prog 74 #[.int .i64 a0] w fun e w' => e = .returned (.bool r) ∧ Drawn0 w w' := by
 have H : (if a0 ≥ 1 then (some (decide (a0 ≤ 6))) else (some false)) = some r := h; clear h; by_cases c2 : a0 ≥ 1
 ·rw [if_pos c2] at H; have c2b0 : decide (1 ≤ a0) = true := decide_eq_true c2; clear c2; obtain rfl := Option.some.inj H; go_enter Tryd.func74, Tryd.ntmps74
  go_wp2; go_ret
  exact ⟨rz_, dz_⟩
 ·rw [if_neg c2] at H; have c2b0 : decide (1 ≤ a0) = false := decide_eq_false c2; clear c2; obtain rfl := Option.some.inj H; go_enter Tryd.func74, Tryd.ntmps74
  go_wp2; go_ret
  exact ⟨rz_, dz_⟩
def wire_wraps.l0 : Nat → Int → List (S80) → Int → Int → Option (Bool)
 | 0, _, _, _, _ => none
 | k + 1, x3, x6, x7, x8 => if x8 < x7 then (if 0 ≤ x8 then (if x8 < (x6.length : Int) then ((wire_member.f ((rd_T80 x6 x8).f0)).bind fun t118 => (if t118 = true then (if ((rd_T80 x6 x8).f0) ≤ x3 then (some false) else (if (((rd_T80 x6 x8).f1).size : Int) = 48 then (wire_wraps.l0 k ((rd_T80 x6 x8).f0) x6 x7 (wrap64 (x8 + 1))) else (some false))) else (some false))) else (none)) else (none)) else (some true)
def wire_wraps.f (k : Nat) (l0 : List (S80)) : Option (Bool) := wire_wraps.l0 k 0 l0 (l0.length : Int) 0
set_option maxHeartbeats 8000000 in
set_option maxRecDepth 100000 in
theorem wire_wraps.calls (k : Nat) (A0 : Option Addr) (c0 : Nat) (l0 : List (S80)) (r : Bool) (w : World) (hr0 : Kd.C k80 w A0 l0.length l0) (hc0 : l0.length ≤ c0) (h : wire_wraps.f k l0 = some r) :
    Calls Tryd.prog 77 #[.slice A0 l0.length c0] w fun e w' => e = .returned (.bool r) ∧ Below w.heap.size w w' := by
  have hu80 := Tryd.underlying80; have HR0 := Aside0.mk hr0; have HC0 := Aside0.mk hc0; clear hr0 hc0; have HB := Aside0.mk (Below.refl w.heap.size w); have H : (wire_wraps.l0 k 0 l0 (l0.length : Int) 0) = some r := h; clear h; have H' := Aside0.mk H; clear H; go_enter Tryd.func77, Tryd.ntmps77
  go_wp2; go_loopg [3, 8] k (fun kq v3 v8 w' => ∃ (x3_1 : Int) (x8_1 : Int), v3 = .int .i64 x3_1 ∧ v8 = .int .i64 x8_1 ∧ Aside0 (wire_wraps.l0 kq x3_1 l0 (l0.length : Int) x8_1 = some r) ∧ Aside0 (kq ≤ k) ∧ Aside0 (Below w.heap.size w w'))
  case atStart => exact ⟨(0), (0), rz_, rz_, H', ⟨Nat.le_refl _⟩, ⟨hb_⟩⟩
  case round =>
    clear H'; obtain ⟨x3_1, x8_1, rfl, rfl, HA, HK1, HB⟩ := hrel; cases gk with
    | zero => exact absurd HA.out (by simp [wire_wraps.l0])
    | succ k1 =>
      have H := HA.out; clear HA; simp only [wire_wraps.l0] at H; by_cases c2 : x8_1 < (l0.length : Int)
      · rw [if_pos c2] at H; have c2b0 : decide (x8_1 < (l0.length : Int)) = true := decide_eq_true c2; clear c2; by_cases c3 : 0 ≤ x8_1
        · rw [if_pos c3] at H; have c3b0 : decide (0 ≤ x8_1) = true := decide_eq_true c3; clear c3; by_cases c4 : x8_1 < (l0.length : Int)
          · rw [if_pos c4] at H; have c4b0 : decide (x8_1 < (l0.length : Int)) = true := decide_eq_true c4; clear c4; replace H := Option.bind_eq_some_iff.mp H; obtain ⟨t118, A50, H⟩ := H; have A5 := Aside0.mk A50; clear A50; by_cases c6 : t118 = true
            · subst c6; have H1 : (if ((rd_T80 l0 x8_1).f0) ≤ x3_1 then (some false) else (if (((rd_T80 l0 x8_1).f1).size : Int) = 48 then (wire_wraps.l0 k1 ((rd_T80 l0 x8_1).f0) l0 (l0.length : Int) (wrap64 (x8_1 + 1))) else (some false))) = some r := by rw [if_pos rfl] at H; exact H
              clear H; have H := H1; clear H1; by_cases c7 : ((rd_T80 l0 x8_1).f0) ≤ x3_1
              · rw [if_pos c7] at H; have c7b0 : decide (((rd_T80 l0 x8_1).f0) ≤ x3_1) = true := decide_eq_true c7; clear c7; obtain rfl := Option.some.inj H; have p116 : 0 ≤ (x8_1 : Int) := of_decide_eq_true as_'; have q116 : x8_1 < (l0.length : Int) := of_decide_eq_true as_'; obtain ⟨ad116, e116, hx116_0, hx116_1⟩ := at_T80 HR0.out x8_1 p116 q116; cases e116; replace hx116_0 := (HB.out.cell (World.block_lt_of_cell? w _ hx116_0)).trans hx116_0; replace hx116_1 := (HB.out.cell (World.block_lt_of_cell? w _ hx116_1)).trans hx116_1; replace p116 := eq_true p116; replace q116 := eq_true q116; go_wp2_with (first | ((with_reducible refine gate_dst (N := 5) rfl ?_); (try (refine gate_guard (by rfl) ?_; dsimp only)); refine box_event ?hg (N := 5) ?hd (cs := #[.int .i64 0, .string (⟨#[]⟩ : ByteArray)]) (t := 80) ?hr ?_; (case hd => rfl); (case hg => rfl); (case hr => first | (go_simp; done) | (go_simp; rfl)); intro gb117 hg w8 hbox hb; have n0_ := Aside0.mk (below_step hb_ hb); have n1_ := Aside0.mk (hbox); have n2_ := Aside0.mk ((by rw [hg]; exact (below_size hb_) : w.heap.size ≤ gb117)); have n3_ := Aside0.mk ((by rw [hg]; exact (below_size hb_) : w.heap.size ≤ gb117)); clear HB; have HB := n0_; have BK117 := n1_; have GW117 := n2_; have GE117 := n3_; clear n0_ n1_ n2_ n3_; clear hb hbox hg; have hcz9_0 : w8.cell? ⟨gb117, 0, none⟩ = some (.int .i64 0) := (blk_cell BK117.out 0).trans rfl; have hcz9_1 : w8.cell? ⟨gb117, 1, none⟩ = some (.string (⟨#[]⟩ : ByteArray)) := (blk_cell BK117.out 1).trans rfl; have hfz9_0 := blk_frozen BK117.out 0; have hfz9_1 := blk_frozen BK117.out 1) | ((with_reducible refine gate_callee (f := 74) rfl ?_); refine gl_ 14 Tryd.func74 #[.int .i64 ((rd_T80 l0 x8_1).f0)] ?_; (with_reducible refine (wire_member.calls ((rd_T80 l0 x8_1).f0) true _ A5.out).mono ?_); rintro e w' ⟨rfl, ⟨nd, rfl⟩⟩; refine ⟨_, rfl, ?_⟩))
                go_ret
                exact ⟨ew_, by repeat (first | (with_reducible first | exact HB.out | apply below_alloc | apply pw_below_drewN | apply below_drew1 | refine below_set ?_ GE117.out) | exact HB.out)⟩
              · rw [if_neg c7] at H; have c7b0 : decide (((rd_T80 l0 x8_1).f0) ≤ x3_1) = false := decide_eq_false c7; clear c7; by_cases c10 : (((rd_T80 l0 x8_1).f1).size : Int) = 48
                · rw [if_pos c10] at H; have c10b0 : ((((rd_T80 l0 x8_1).f1).size : Int) == 48) = true := beq_iff_eq.mpr c10; have c10b1 : ((((rd_T80 l0 x8_1).f1).size : Int) != 48) = false := bne_eq_false_iff_eq.mpr c10; clear c10; have H' := Aside0.mk H; clear H; have p116 : 0 ≤ (x8_1 : Int) := of_decide_eq_true as_'; have q116 : x8_1 < (l0.length : Int) := of_decide_eq_true as_'; obtain ⟨ad116, e116, hx116_0, hx116_1⟩ := at_T80 HR0.out x8_1 p116 q116; cases e116; replace hx116_0 := (HB.out.cell (World.block_lt_of_cell? w _ hx116_0)).trans hx116_0; replace hx116_1 := (HB.out.cell (World.block_lt_of_cell? w _ hx116_1)).trans hx116_1; replace p116 := eq_true p116; replace q116 := eq_true q116; go_wp2_with (first | ((with_reducible refine gate_dst (N := 5) rfl ?_); (try (refine gate_guard (by rfl) ?_; dsimp only)); refine box_event ?hg (N := 5) ?hd (cs := #[.int .i64 0, .string (⟨#[]⟩ : ByteArray)]) (t := 80) ?hr ?_; (case hd => rfl); (case hg => rfl); (case hr => first | (go_simp; done) | (go_simp; rfl)); intro gb117 hg w11 hbox hb; have n0_ := Aside0.mk (below_step hb_ hb); have n1_ := Aside0.mk (hbox); have n2_ := Aside0.mk ((by rw [hg]; exact (below_size hb_) : w.heap.size ≤ gb117)); have n3_ := Aside0.mk ((by rw [hg]; exact (below_size hb_) : w.heap.size ≤ gb117)); clear HB; have HB := n0_; have BK117 := n1_; have GW117 := n2_; have GE117 := n3_; clear n0_ n1_ n2_ n3_; clear hb hbox hg; have hcz12_0 : w11.cell? ⟨gb117, 0, none⟩ = some (.int .i64 0) := (blk_cell BK117.out 0).trans rfl; have hcz12_1 : w11.cell? ⟨gb117, 1, none⟩ = some (.string (⟨#[]⟩ : ByteArray)) := (blk_cell BK117.out 1).trans rfl; have hfz12_0 := blk_frozen BK117.out 0; have hfz12_1 := blk_frozen BK117.out 1) | ((with_reducible refine gate_callee (f := 74) rfl ?_); refine gl_ 14 Tryd.func74 #[.int .i64 ((rd_T80 l0 x8_1).f0)] ?_; (with_reducible refine (wire_member.calls ((rd_T80 l0 x8_1).f0) true _ A5.out).mono ?_); rintro e w' ⟨rfl, ⟨nd, rfl⟩⟩; refine ⟨_, rfl, ?_⟩))
                  go_roundg k1
                  case measure => have := HK1.out; omega
                  case rel => exact ⟨((rd_T80 l0 x8_1).f0), (wrap64 (x8_1 + 1)), rz_, rz_, H', ⟨by have := HK1.out; omega⟩, ⟨by repeat (first | (with_reducible first | exact HB.out | apply below_alloc | apply pw_below_drewN | apply below_drew1 | refine below_set ?_ GE117.out) | exact HB.out)⟩⟩
                · rw [if_neg c10] at H; have c10b0 : ((((rd_T80 l0 x8_1).f1).size : Int) == 48) = false := beq_eq_false_iff_ne.mpr c10; have c10b1 : ((((rd_T80 l0 x8_1).f1).size : Int) != 48) = true := bne_iff_ne.mpr c10; obtain rfl := Option.some.inj H; have p116 : 0 ≤ (x8_1 : Int) := of_decide_eq_true as_'; have q116 : x8_1 < (l0.length : Int) := of_decide_eq_true as_'; obtain ⟨ad116, e116, hx116_0, hx116_1⟩ := at_T80 HR0.out x8_1 p116 q116; cases e116; replace hx116_0 := (HB.out.cell (World.block_lt_of_cell? w _ hx116_0)).trans hx116_0; replace hx116_1 := (HB.out.cell (World.block_lt_of_cell? w _ hx116_1)).trans hx116_1; replace p116 := eq_true p116; replace q116 := eq_true q116; go_wp2_with (first | ((with_reducible refine gate_dst (N := 5) rfl ?_); (try (refine gate_guard (by rfl) ?_; dsimp only)); refine box_event ?hg (N := 5) ?hd (cs := #[.int .i64 0, .string (⟨#[]⟩ : ByteArray)]) (t := 80) ?hr ?_; (case hd => rfl); (case hg => rfl); (case hr => first | (go_simp; done) | (go_simp; rfl)); intro gb117 hg w13 hbox hb; have n0_ := Aside0.mk (below_step hb_ hb); have n1_ := Aside0.mk (hbox); have n2_ := Aside0.mk ((by rw [hg]; exact (below_size hb_) : w.heap.size ≤ gb117)); have n3_ := Aside0.mk ((by rw [hg]; exact (below_size hb_) : w.heap.size ≤ gb117)); clear HB; have HB := n0_; have BK117 := n1_; have GW117 := n2_; have GE117 := n3_; clear n0_ n1_ n2_ n3_; clear hb hbox hg; have hcz14_0 : w13.cell? ⟨gb117, 0, none⟩ = some (.int .i64 0) := (blk_cell BK117.out 0).trans rfl; have hcz14_1 : w13.cell? ⟨gb117, 1, none⟩ = some (.string (⟨#[]⟩ : ByteArray)) := (blk_cell BK117.out 1).trans rfl; have hfz14_0 := blk_frozen BK117.out 0; have hfz14_1 := blk_frozen BK117.out 1) | ((with_reducible refine gate_callee (f := 74) rfl ?_); refine gl_ 14 Tryd.func74 #[.int .i64 ((rd_T80 l0 x8_1).f0)] ?_; (with_reducible refine (wire_member.calls ((rd_T80 l0 x8_1).f0) true _ A5.out).mono ?_); rintro e w' ⟨rfl, ⟨nd, rfl⟩⟩; refine ⟨_, rfl, ?_⟩))
                  go_ret
                  exact ⟨ew_, by repeat (first | (with_reducible first | exact HB.out | apply below_alloc | apply pw_below_drewN | apply below_drew1 | refine below_set ?_ GE117.out) | exact HB.out)⟩
            · replace c6 := Bool.eq_false_iff.mpr c6; subst c6; have H1 : (some false) = some r := by rw [if_neg (show ¬ (false = true) by decide)] at H; exact H
              clear H; have H := H1; clear H1; obtain rfl := Option.some.inj H; have p116 : 0 ≤ (x8_1 : Int) := of_decide_eq_true as_'; have q116 : x8_1 < (l0.length : Int) := of_decide_eq_true as_'; obtain ⟨ad116, e116, hx116_0, hx116_1⟩ := at_T80 HR0.out x8_1 p116 q116; cases e116; replace hx116_0 := (HB.out.cell (World.block_lt_of_cell? w _ hx116_0)).trans hx116_0; replace hx116_1 := (HB.out.cell (World.block_lt_of_cell? w _ hx116_1)).trans hx116_1; replace p116 := eq_true p116; replace q116 := eq_true q116; go_wp2_with (first | ((with_reducible refine gate_dst (N := 5) rfl ?_); (try (refine gate_guard (by rfl) ?_; dsimp only)); refine box_event ?hg (N := 5) ?hd (cs := #[.int .i64 0, .string (⟨#[]⟩ : ByteArray)]) (t := 80) ?hr ?_; (case hd => rfl); (case hg => rfl); (case hr => first | (go_simp; done) | (go_simp; rfl)); intro gb117 hg w15 hbox hb; have n0_ := Aside0.mk (below_step hb_ hb); have n1_ := Aside0.mk (hbox); have n2_ := Aside0.mk ((by rw [hg]; exact (below_size hb_) : w.heap.size ≤ gb117)); have n3_ := Aside0.mk ((by rw [hg]; exact (below_size hb_) : w.heap.size ≤ gb117)); clear HB; have HB := n0_; have BK117 := n1_; have GW117 := n2_; have GE117 := n3_; clear n0_ n1_ n2_ n3_; clear hb hbox hg; have hcz16_0 : w15.cell? ⟨gb117, 0, none⟩ = some (.int .i64 0) := (blk_cell BK117.out 0).trans rfl; have hcz16_1 : w15.cell? ⟨gb117, 1, none⟩ = some (.string (⟨#[]⟩ : ByteArray)) := (blk_cell BK117.out 1).trans rfl; have hfz16_0 := blk_frozen BK117.out 0; have hfz16_1 := blk_frozen BK117.out 1) | ((with_reducible refine gate_callee (f := 74) rfl ?_); refine gl_ 14 Tryd.func74 #[.int .i64 ((rd_T80 l0 x8_1).f0)] ?_; (with_reducible refine (wire_member.calls ((rd_T80 l0 x8_1).f0) false _ A5.out).mono ?_); rintro e w' ⟨rfl, ⟨nd, rfl⟩⟩; refine ⟨_, rfl, ?_⟩))
              go_ret
              exact ⟨ew_, by repeat (first | (with_reducible first | exact HB.out | apply below_alloc | apply pw_below_drewN | apply below_drew1 | refine below_set ?_ GE117.out) | exact HB.out)⟩
          · rw [if_neg c4] at H; exact absurd H (by simp)
        · rw [if_neg c3] at H; exact absurd H (by simp)
      · rw [if_neg c2] at H; have c2b0 : decide (x8_1 < (l0.length : Int)) = false := decide_eq_false c2; clear c2; obtain rfl := Option.some.inj H; go_wp2; go_ret
        exact ⟨ew_, hb_⟩
end Go.Proofs.YthemhfloablccaaDoor.Pr
end

section
namespace Go.Proofs.YthemhfloablccaaDoor.Pr
open Go.RowKit Go.Proofs.YthemhfloablccaaDoorW.PrintWords Go.Proofs.YthemhfloablccaaDoorW.PrintLast Go.Proofs.YthemhfloablccaaDoorW.PrintMore
attribute [local go_sem] max2_int min2_int max_two min_two max_three min_three max_four min_four
attribute [local go_sem high] eqA28
mutual
def wire_Check.j0 : Nat → Bool → Int → Int → Int → Int → ByteArray → Int → Int → Int → Int → Int → Int → Int → ByteArray → ByteArray → Int → List (S80) → Option (Int)
 | 0, _, _, _, _, _, _, _, _, _, _, _, _, _, _, _, _, _ => none
 | k + 1, x3, x120000, x120001, x120002, x120003, x120004, x120005, x120006, x120007, x120008, x120009, x120010, x120011, x120012, x120013, x120014, x120015 => if x120000 = 1 then (if x3 = true then ((tree_Check.f x120005 x120006 x120007 x120008 x120009 x120010 x120011 x120012 x120013).bind fun t125 => (if t125 = 0 then (if x120007 = x120001 then (if x120014 = 0 then (if ((x120015.length : Int) = 0) then (some 0) else (some 1)) else (some 1)) else (some 1)) else (some 1))) else (some 1)) else (if x120000 = 2 then (wire_Check.j1 k x3 x120000 (x120000 == 2) x120000 x120001 x120002 x120003 x120004 x120005 x120006 x120007 x120008 x120009 x120010 x120011 x120012 x120013 x120014 x120015) else (wire_Check.j1 k x3 x120000 (x120000 == 3) x120000 x120001 x120002 x120003 x120004 x120005 x120006 x120007 x120008 x120009 x120010 x120011 x120012 x120013 x120014 x120015))
def wire_Check.j1 : Nat → Bool → Int → Bool → Int → Int → Int → Int → ByteArray → Int → Int → Int → Int → Int → Int → Int → ByteArray → ByteArray → Int → List (S80) → Option (Int)
 | 0, _, _, _, _, _, _, _, _, _, _, _, _, _, _, _, _, _, _, _ => none
 | k + 1, x3, x27, x57, x120000, x120001, x120002, x120003, x120004, x120005, x120006, x120007, x120008, x120009, x120010, x120011, x120012, x120013, x120014, x120015 => if x57 = true then (if x3 = true then (if (x120005 == 0 && ((x120006 == 0 && (x120007 == 0)) && ((x120008 == 0 && (x120009 == 0)) && ((x120010 == 0 && (x120011 == 0)) && (x120012.toList == ([] : List UInt8) && (x120013.toList == ([] : List UInt8))))))) = true then ((wire_member.f x120014).bind fun t126 => (if t126 = true then ((wire_wraps.f k x120015).bind fun t127 => (if t127 = true then (some 0) else (some 1))) else (some 1))) else (some 1)) else (some 1)) else (if x27 = 4 then (if x3 = true then (if (x120005 == 0 && ((x120006 == 0 && (x120007 == 0)) && ((x120008 == 0 && (x120009 == 0)) && ((x120010 == 0 && (x120011 == 0)) && (x120012.toList == ([] : List UInt8) && (x120013.toList == ([] : List UInt8))))))) = true then (if x120014 = 0 then ((wire_wraps.f k x120015).bind fun t128 => (if t128 = true then (some 0) else (some 1))) else (some 1)) else (some 1)) else (some 1)) else (some 1))
end
def wire_Check.f (k : Nat) (a0_0 : Int) (a0_1 : Int) (a0_2 : Int) (a0_3 : Int) (a0_4 : ByteArray) (a0_5 : Int) (a0_6 : Int) (a0_7 : Int) (a0_8 : Int) (a0_9 : Int) (a0_10 : Int) (a0_11 : Int) (a0_12 : ByteArray) (a0_13 : ByteArray) (a0_14 : Int) (l0_15 : List (S80)) : Option (Int) := (wire_member.f a0_1).bind fun t120 => (if t120 = true then (if a0_2 ≥ 1 then ((wire_number.f (([a0_2, a0_3] : List Int))).bind fun t124 => (if t124 = true then (wire_Check.j0 k ((a0_4.size : Int) == 32) a0_0 a0_1 a0_2 a0_3 a0_4 a0_5 a0_6 a0_7 a0_8 a0_9 a0_10 a0_11 a0_12 a0_13 a0_14 l0_15) else (wire_Check.j0 k false a0_0 a0_1 a0_2 a0_3 a0_4 a0_5 a0_6 a0_7 a0_8 a0_9 a0_10 a0_11 a0_12 a0_13 a0_14 l0_15))) else (wire_Check.j0 k false a0_0 a0_1 a0_2 a0_3 a0_4 a0_5 a0_6 a0_7 a0_8 a0_9 a0_10 a0_11 a0_12 a0_13 a0_14 l0_15)) else (wire_Check.j0 k false a0_0 a0_1 a0_2 a0_3 a0_4 a0_5 a0_6 a0_7 a0_8 a0_9 a0_10 a0_11 a0_12 a0_13 a0_14 l0_15))
set_option maxHeartbeats 8000000 in
set_option maxRecDepth 100000 in
theorem wire_Check.calls (k : Nat) (a0_0 : Int) (a0_1 : Int) (a0_2 : Int) (a0_3 : Int) (a0_4 : ByteArray) (a0_5 : Int) (a0_6 : Int) (a0_7 : Int) (a0_8 : Int) (a0_9 : Int) (a0_10 : Int) (a0_11 : Int) (a0_12 : ByteArray) (a0_13 : ByteArray) (a0_14 : Int) (A0_15 : Option Addr) (c0_15 : Nat) (l0_15 : List (S80)) (r : Int) (w : World) (hr0_15 : Kd.C k80 w A0_15 l0_15.length l0_15) (hc0_15 : l0_15.length ≤ c0_15) (h : wire_Check.f k a0_0 a0_1 a0_2 a0_3 a0_4 a0_5 a0_6 a0_7 a0_8 a0_9 a0_10 a0_11 a0_12 a0_13 a0_14 l0_15 = some r) :
    Calls Tryd.prog 35 #[.agg #[.int .i64 a0_0, .int .i64 a0_1, .int .i64 a0_2, .int .i64 a0_3, .string a0_4, .int .i64 a0_5, .int .i64 a0_6, .int .i64 a0_7, .int .i64 a0_8, .int .i64 a0_9, .int .i64 a0_10, .int .i64 a0_11, .string a0_12, .string a0_13, .int .i64 a0_14, .slice A0_15 l0_15.length c0_15]] w fun e w' => e = .returned (.int .i64 r) ∧ Below w.heap.size w w' := by
  have hu31 := Tryd.underlying31; have hu28 := Tryd.underlying28; have HR0_15 := Aside0.mk hr0_15; have HC0_15 := Aside0.mk hc0_15; clear hr0_15 hc0_15; have HB := Aside0.mk (Below.refl w.heap.size w); have H : ((wire_member.f a0_1).bind fun t120 => (if t120 = true then (if a0_2 ≥ 1 then ((wire_number.f (([a0_2, a0_3] : List Int))).bind fun t124 => (if t124 = true then (wire_Check.j0 k ((a0_4.size : Int) == 32) a0_0 a0_1 a0_2 a0_3 a0_4 a0_5 a0_6 a0_7 a0_8 a0_9 a0_10 a0_11 a0_12 a0_13 a0_14 l0_15) else (wire_Check.j0 k false a0_0 a0_1 a0_2 a0_3 a0_4 a0_5 a0_6 a0_7 a0_8 a0_9 a0_10 a0_11 a0_12 a0_13 a0_14 l0_15))) else (wire_Check.j0 k false a0_0 a0_1 a0_2 a0_3 a0_4 a0_5 a0_6 a0_7 a0_8 a0_9 a0_10 a0_11 a0_12 a0_13 a0_14 l0_15)) else (wire_Check.j0 k false a0_0 a0_1 a0_2 a0_3 a0_4 a0_5 a0_6 a0_7 a0_8 a0_9 a0_10 a0_11 a0_12 a0_13 a0_14 l0_15))) = some r := h; clear h; have HC2 := Aside0.mk H; clear H; go_enter Tryd.func35, Tryd.ntmps35
  go_upto_region 1 with (first | ((with_reducible refine gate_dst (N := 1) rfl ?_); (try (refine gate_guard (by rfl) ?_; dsimp only)); refine box_event ?hg (N := 1) ?hd (cs := #[.int .i64 a0_0, .int .i64 a0_1, .int .i64 a0_2, .int .i64 a0_3, .string a0_4, .int .i64 a0_5, .int .i64 a0_6, .int .i64 a0_7, .int .i64 a0_8, .int .i64 a0_9, .int .i64 a0_10, .int .i64 a0_11, .string a0_12, .string a0_13, .int .i64 a0_14, .slice A0_15 l0_15.length c0_15]) (t := 31) ?hr ?_; (case hd => rfl); (case hg => rfl); (case hr => first | (go_simp; done) | (go_simp; rfl)); intro gb119 hg w3 hbox hb; have n0_ := Aside0.mk (below_step hb_ hb); have n1_ := Aside0.mk (hbox); have n2_ := Aside0.mk ((by rw [hg]; exact (below_size hb_) : w.heap.size ≤ gb119)); have n3_ := Aside0.mk ((by rw [hg]; exact (below_size hb_) : w.heap.size ≤ gb119)); clear HB; have HB := n0_; have BK119 := n1_; have GW119 := n2_; have GE119 := n3_; clear n0_ n1_ n2_ n3_; clear hb hbox hg))
  (try simp only [Act.put, List.setIfInBounds_toArray, List.set_cons_zero, List.set_cons_succ])
  go_cut [3] (fun v3 wc => ∃ (kq : Nat) (x3_1 : Bool), v3 = .bool x3_1 ∧ Aside0 (wire_Check.j0 kq x3_1 a0_0 a0_1 a0_2 a0_3 a0_4 a0_5 a0_6 a0_7 a0_8 a0_9 a0_10 a0_11 a0_12 a0_13 a0_14 l0_15 = some r) ∧ Aside0 (kq ≤ k) ∧ Aside0 (wc.heap[gb119]? = some (.cells #[.int .i64 a0_0, .int .i64 a0_1, .int .i64 a0_2, .int .i64 a0_3, .string a0_4, .int .i64 a0_5, .int .i64 a0_6, .int .i64 a0_7, .int .i64 a0_8, .int .i64 a0_9, .int .i64 a0_10, .int .i64 a0_11, .string a0_12, .string a0_13, .int .i64 a0_14, (.slice A0_15 l0_15.length c0_15)] 31 (0, 0))) ∧ Aside0 (Below w.heap.size w wc))
  case first =>
    have H := HC2.out; clear HC2; replace H := Option.bind_eq_some_iff.mp H; obtain ⟨t120, A40, H⟩ := H; have A4 := Aside0.mk A40; clear A40; by_cases c5 : t120 = true
    · subst c5; have H1 : (if a0_2 ≥ 1 then ((wire_number.f (([a0_2, a0_3] : List Int))).bind fun t124 => (if t124 = true then (wire_Check.j0 k ((a0_4.size : Int) == 32) a0_0 a0_1 a0_2 a0_3 a0_4 a0_5 a0_6 a0_7 a0_8 a0_9 a0_10 a0_11 a0_12 a0_13 a0_14 l0_15) else (wire_Check.j0 k false a0_0 a0_1 a0_2 a0_3 a0_4 a0_5 a0_6 a0_7 a0_8 a0_9 a0_10 a0_11 a0_12 a0_13 a0_14 l0_15))) else (wire_Check.j0 k false a0_0 a0_1 a0_2 a0_3 a0_4 a0_5 a0_6 a0_7 a0_8 a0_9 a0_10 a0_11 a0_12 a0_13 a0_14 l0_15)) = some r := by rw [if_pos rfl] at H; exact H
      clear H; have H := H1; clear H1; by_cases c6 : a0_2 ≥ 1
      · rw [if_pos c6] at H; have c6b0 : decide (1 ≤ a0_2) = true := decide_eq_true c6; clear c6
        (first | rw [c6b0] | (simp only [i64_w, i32_w]; rw [c6b0]) | skip)
        obtain ⟨y121, hy121⟩ : ∃ y_ : List Int, y_ = (([a0_2, a0_3] : List Int)) := ⟨_, rfl⟩; replace H : ((wire_number.f y121).bind fun t124 => (if t124 = true then (wire_Check.j0 k ((a0_4.size : Int) == 32) a0_0 a0_1 a0_2 a0_3 a0_4 a0_5 a0_6 a0_7 a0_8 a0_9 a0_10 a0_11 a0_12 a0_13 a0_14 l0_15) else (wire_Check.j0 k false a0_0 a0_1 a0_2 a0_3 a0_4 a0_5 a0_6 a0_7 a0_8 a0_9 a0_10 a0_11 a0_12 a0_13 a0_14 l0_15))) = some r := by first | (rw [hy121]; with_reducible exact H) | (have H2_ := (Option.bind_some _ _).symm.trans H; rw [hy121]; with_reducible exact H2_) | (have H2_ := (Option.bind_some _ _).symm.trans H; with_reducible exact H2_) | with_reducible exact H | (rw [hy121]; exact H) | exact H
        have Ny121 := Aside0.mk hy121; clear hy121; replace H := Option.bind_eq_some_iff.mp H; obtain ⟨t124, A70, H⟩ := H; have A7 := Aside0.mk A70; clear A70; by_cases c8 : t124 = true
        · subst c8; have H1 : (wire_Check.j0 k ((a0_4.size : Int) == 32) a0_0 a0_1 a0_2 a0_3 a0_4 a0_5 a0_6 a0_7 a0_8 a0_9 a0_10 a0_11 a0_12 a0_13 a0_14 l0_15) = some r := by rw [if_pos rfl] at H; exact H
          clear H; have H := H1; clear H1; have H' := Aside0.mk H; clear H; have hcz9_0 : w3.cell? ⟨gb119, 0, none⟩ = some (.int .i64 a0_0) := (blk_cell BK119.out 0).trans rfl; have hcz9_1 : w3.cell? ⟨gb119, 1, none⟩ = some (.int .i64 a0_1) := (blk_cell BK119.out 1).trans rfl; have hcz9_2 : w3.cell? ⟨gb119, 2, none⟩ = some (.int .i64 a0_2) := (blk_cell BK119.out 2).trans rfl; have hcz9_3 : w3.cell? ⟨gb119, 3, none⟩ = some (.int .i64 a0_3) := (blk_cell BK119.out 3).trans rfl; have hcz9_4 : w3.cell? ⟨gb119, 4, none⟩ = some (.string a0_4) := (blk_cell BK119.out 4).trans rfl; have hcz9_5 : w3.cell? ⟨gb119, 5, none⟩ = some (.int .i64 a0_5) := (blk_cell BK119.out 5).trans rfl; have hcz9_6 : w3.cell? ⟨gb119, 6, none⟩ = some (.int .i64 a0_6) := (blk_cell BK119.out 6).trans rfl; have hcz9_7 : w3.cell? ⟨gb119, 7, none⟩ = some (.int .i64 a0_7) := (blk_cell BK119.out 7).trans rfl; have hcz9_8 : w3.cell? ⟨gb119, 8, none⟩ = some (.int .i64 a0_8) := (blk_cell BK119.out 8).trans rfl; have hcz9_9 : w3.cell? ⟨gb119, 9, none⟩ = some (.int .i64 a0_9) := (blk_cell BK119.out 9).trans rfl; have hcz9_10 : w3.cell? ⟨gb119, 10, none⟩ = some (.int .i64 a0_10) := (blk_cell BK119.out 10).trans rfl; have hcz9_11 : w3.cell? ⟨gb119, 11, none⟩ = some (.int .i64 a0_11) := (blk_cell BK119.out 11).trans rfl; have hcz9_12 : w3.cell? ⟨gb119, 12, none⟩ = some (.string a0_12) := (blk_cell BK119.out 12).trans rfl; have hcz9_13 : w3.cell? ⟨gb119, 13, none⟩ = some (.string a0_13) := (blk_cell BK119.out 13).trans rfl; have hcz9_14 : w3.cell? ⟨gb119, 14, none⟩ = some (.int .i64 a0_14) := (blk_cell BK119.out 14).trans rfl; have hcz9_15 : w3.cell? ⟨gb119, 15, none⟩ = some (.slice A0_15 l0_15.length c0_15) := (blk_cell BK119.out 15).trans rfl; have hfz9_0 := blk_frozen BK119.out 0; have hfz9_1 := blk_frozen BK119.out 1; have hfz9_2 := blk_frozen BK119.out 2; have hfz9_3 := blk_frozen BK119.out 3; have hfz9_4 := blk_frozen BK119.out 4; have hfz9_5 := blk_frozen BK119.out 5; have hfz9_6 := blk_frozen BK119.out 6; have hfz9_7 := blk_frozen BK119.out 7; have hfz9_8 := blk_frozen BK119.out 8; have hfz9_9 := blk_frozen BK119.out 9; have hfz9_10 := blk_frozen BK119.out 10; have hfz9_11 := blk_frozen BK119.out 11; have hfz9_12 := blk_frozen BK119.out 12; have hfz9_13 := blk_frozen BK119.out 13; have hfz9_14 := blk_frozen BK119.out 14; have hfz9_15 := blk_frozen BK119.out 15; go_wp2_with (first | ((with_reducible refine gate_callee (f := 74) rfl ?_); refine gl_ 6 Tryd.func74 #[.int .i64 a0_1] ?_; (with_reducible refine (wire_member.calls a0_1 true _ A4.out).mono ?_); rintro e w' ⟨rfl, ⟨nd, rfl⟩⟩; refine ⟨_, rfl, ?_⟩) | ((with_reducible refine gate_dst (N := 17) rfl ?_); (try (refine gate_guard (by rfl) ?_; dsimp only)); refine Kd.R_lit (Kd.int .i64) _ 3 ?hg (N := 17) ?hd (xs := ([a0_2, a0_3] : List Int)) (inner := [.int .i64 a0_2, .int .i64 a0_3]) (ok := fun _ => True) (okp := fun _ => True) ?hr ?hp (fun _ hk => hk) trivial (Below.refl _ _) (Nat.le_refl _) (by simp) ?_; (case hd => rfl); (case hg => rfl); (case hr => first | (go_simp; done) | (go_simp; rfl)); (case hp => exact (ro_ (ro_ (Reps.none _ _)))); intro v122 w10 ho11 hb hg_ hnew_; clear hg_ hnew_; (first | rw [← Ny121.out] at ho11 | (simp only [Int.reduceToNat] at ho11; rw [← Ny121.out] at ho11)); have n0_ := Aside0.mk (Kd.R_lower ho11 (below_size (by repeat (first | (with_reducible first | exact HB.out | apply below_alloc | apply pw_below_drewN | apply below_drew1 | refine below_set ?_ GE119.out) | exact HB.out)))); have n1_ := Aside0.mk (blk_below (g := gb119) (o := .cells #[.int .i64 a0_0, .int .i64 a0_1, .int .i64 a0_2, .int .i64 a0_3, .string a0_4, .int .i64 a0_5, .int .i64 a0_6, .int .i64 a0_7, .int .i64 a0_8, .int .i64 a0_9, .int .i64 a0_10, .int .i64 a0_11, .string a0_12, .string a0_13, .int .i64 a0_14, .slice A0_15 l0_15.length c0_15] 31 (0, 0)) (by (with_reducible repeat (first | refine blk_drewN ?_ _ | refine blk_drew ?_ | refine blk_alloc ?_ _)); exact BK119.out) hb); have n2_ := Aside0.mk (below_step (by repeat (first | (with_reducible first | exact HB.out | apply below_alloc | apply pw_below_drewN | apply below_drew1 | refine below_set ?_ GE119.out) | exact HB.out)) hb); clear BK119; clear HB; have HO123 := n0_; have BK119 := n1_; have HB := n2_; clear n0_ n1_ n2_; clear hb ho11; obtain ⟨Ao12, co12, eo12⟩ := Kd.R_slice HO123.out; subst eo12) | (go_at_call 75; (with_reducible refine (wire_number.calls _ _ y121 true _ ?side1 ?side2 A7.out).mono ?_); (case side1 => exact ca_ (Kd.R_reads' HO123.out).2.2); (case side2 => exact (Kd.R_reads' HO123.out).2.1); rintro e w13 ⟨rfl, hb⟩; have n0_ := Aside0.mk (Kd.R_below (ra_ HO123.out) hb); have n1_ := Aside0.mk (blk_below (g := gb119) (o := .cells #[.int .i64 a0_0, .int .i64 a0_1, .int .i64 a0_2, .int .i64 a0_3, .string a0_4, .int .i64 a0_5, .int .i64 a0_6, .int .i64 a0_7, .int .i64 a0_8, .int .i64 a0_9, .int .i64 a0_10, .int .i64 a0_11, .string a0_12, .string a0_13, .int .i64 a0_14, .slice A0_15 l0_15.length c0_15] 31 (0, 0)) (by (with_reducible repeat (first | refine blk_drewN ?_ _ | refine blk_drew ?_ | refine blk_alloc ?_ _)); exact BK119.out) hb); have n2_ := Aside0.mk (below_step (by repeat (first | (with_reducible first | exact HB.out | apply below_alloc | apply pw_below_drewN | apply below_drew1 | refine below_set ?_ GE119.out) | exact HB.out)) hb); clear HO123; clear BK119; clear HB; have HO123 := n0_; have BK119 := n1_; have HB := n2_; clear n0_ n1_ n2_; have hcz14_0 : w13.cell? ⟨gb119, 0, none⟩ = some (.int .i64 a0_0) := (blk_cell BK119.out 0).trans rfl; have hcz14_1 : w13.cell? ⟨gb119, 1, none⟩ = some (.int .i64 a0_1) := (blk_cell BK119.out 1).trans rfl; have hcz14_2 : w13.cell? ⟨gb119, 2, none⟩ = some (.int .i64 a0_2) := (blk_cell BK119.out 2).trans rfl; have hcz14_3 : w13.cell? ⟨gb119, 3, none⟩ = some (.int .i64 a0_3) := (blk_cell BK119.out 3).trans rfl; have hcz14_4 : w13.cell? ⟨gb119, 4, none⟩ = some (.string a0_4) := (blk_cell BK119.out 4).trans rfl; have hcz14_5 : w13.cell? ⟨gb119, 5, none⟩ = some (.int .i64 a0_5) := (blk_cell BK119.out 5).trans rfl; have hcz14_6 : w13.cell? ⟨gb119, 6, none⟩ = some (.int .i64 a0_6) := (blk_cell BK119.out 6).trans rfl; have hcz14_7 : w13.cell? ⟨gb119, 7, none⟩ = some (.int .i64 a0_7) := (blk_cell BK119.out 7).trans rfl; have hcz14_8 : w13.cell? ⟨gb119, 8, none⟩ = some (.int .i64 a0_8) := (blk_cell BK119.out 8).trans rfl; have hcz14_9 : w13.cell? ⟨gb119, 9, none⟩ = some (.int .i64 a0_9) := (blk_cell BK119.out 9).trans rfl; have hcz14_10 : w13.cell? ⟨gb119, 10, none⟩ = some (.int .i64 a0_10) := (blk_cell BK119.out 10).trans rfl; have hcz14_11 : w13.cell? ⟨gb119, 11, none⟩ = some (.int .i64 a0_11) := (blk_cell BK119.out 11).trans rfl; have hcz14_12 : w13.cell? ⟨gb119, 12, none⟩ = some (.string a0_12) := (blk_cell BK119.out 12).trans rfl; have hcz14_13 : w13.cell? ⟨gb119, 13, none⟩ = some (.string a0_13) := (blk_cell BK119.out 13).trans rfl; have hcz14_14 : w13.cell? ⟨gb119, 14, none⟩ = some (.int .i64 a0_14) := (blk_cell BK119.out 14).trans rfl; have hcz14_15 : w13.cell? ⟨gb119, 15, none⟩ = some (.slice A0_15 l0_15.length c0_15) := (blk_cell BK119.out 15).trans rfl; have hfz14_0 := blk_frozen BK119.out 0; have hfz14_1 := blk_frozen BK119.out 1; have hfz14_2 := blk_frozen BK119.out 2; have hfz14_3 := blk_frozen BK119.out 3; have hfz14_4 := blk_frozen BK119.out 4; have hfz14_5 := blk_frozen BK119.out 5; have hfz14_6 := blk_frozen BK119.out 6; have hfz14_7 := blk_frozen BK119.out 7; have hfz14_8 := blk_frozen BK119.out 8; have hfz14_9 := blk_frozen BK119.out 9; have hfz14_10 := blk_frozen BK119.out 10; have hfz14_11 := blk_frozen BK119.out 11; have hfz14_12 := blk_frozen BK119.out 12; have hfz14_13 := blk_frozen BK119.out 13; have hfz14_14 := blk_frozen BK119.out 14; have hfz14_15 := blk_frozen BK119.out 15))
          go_meet
          case rel => exact ⟨_, (((a0_4.size : Int) == 32)), rz_, H', ⟨by first | omega | exact Nat.le_refl _⟩, ⟨by (with_reducible repeat (first | refine blk_drewN ?_ _ | refine blk_drew ?_ | refine blk_alloc ?_ _)); exact BK119.out⟩, ⟨by repeat (first | (with_reducible first | exact HB.out | apply below_alloc | apply pw_below_drewN | apply below_drew1 | refine below_set ?_ GE119.out) | exact HB.out)⟩⟩
        · replace c8 := Bool.eq_false_iff.mpr c8; subst c8; have H1 : (wire_Check.j0 k false a0_0 a0_1 a0_2 a0_3 a0_4 a0_5 a0_6 a0_7 a0_8 a0_9 a0_10 a0_11 a0_12 a0_13 a0_14 l0_15) = some r := by rw [if_neg (show ¬ (false = true) by decide)] at H; exact H
          clear H; have H := H1; clear H1; have H' := Aside0.mk H; clear H; have hcz15_0 : w3.cell? ⟨gb119, 0, none⟩ = some (.int .i64 a0_0) := (blk_cell BK119.out 0).trans rfl; have hcz15_1 : w3.cell? ⟨gb119, 1, none⟩ = some (.int .i64 a0_1) := (blk_cell BK119.out 1).trans rfl; have hcz15_2 : w3.cell? ⟨gb119, 2, none⟩ = some (.int .i64 a0_2) := (blk_cell BK119.out 2).trans rfl; have hcz15_3 : w3.cell? ⟨gb119, 3, none⟩ = some (.int .i64 a0_3) := (blk_cell BK119.out 3).trans rfl; have hcz15_4 : w3.cell? ⟨gb119, 4, none⟩ = some (.string a0_4) := (blk_cell BK119.out 4).trans rfl; have hcz15_5 : w3.cell? ⟨gb119, 5, none⟩ = some (.int .i64 a0_5) := (blk_cell BK119.out 5).trans rfl; have hcz15_6 : w3.cell? ⟨gb119, 6, none⟩ = some (.int .i64 a0_6) := (blk_cell BK119.out 6).trans rfl; have hcz15_7 : w3.cell? ⟨gb119, 7, none⟩ = some (.int .i64 a0_7) := (blk_cell BK119.out 7).trans rfl; have hcz15_8 : w3.cell? ⟨gb119, 8, none⟩ = some (.int .i64 a0_8) := (blk_cell BK119.out 8).trans rfl; have hcz15_9 : w3.cell? ⟨gb119, 9, none⟩ = some (.int .i64 a0_9) := (blk_cell BK119.out 9).trans rfl; have hcz15_10 : w3.cell? ⟨gb119, 10, none⟩ = some (.int .i64 a0_10) := (blk_cell BK119.out 10).trans rfl; have hcz15_11 : w3.cell? ⟨gb119, 11, none⟩ = some (.int .i64 a0_11) := (blk_cell BK119.out 11).trans rfl; have hcz15_12 : w3.cell? ⟨gb119, 12, none⟩ = some (.string a0_12) := (blk_cell BK119.out 12).trans rfl; have hcz15_13 : w3.cell? ⟨gb119, 13, none⟩ = some (.string a0_13) := (blk_cell BK119.out 13).trans rfl; have hcz15_14 : w3.cell? ⟨gb119, 14, none⟩ = some (.int .i64 a0_14) := (blk_cell BK119.out 14).trans rfl; have hcz15_15 : w3.cell? ⟨gb119, 15, none⟩ = some (.slice A0_15 l0_15.length c0_15) := (blk_cell BK119.out 15).trans rfl; have hfz15_0 := blk_frozen BK119.out 0; have hfz15_1 := blk_frozen BK119.out 1; have hfz15_2 := blk_frozen BK119.out 2; have hfz15_3 := blk_frozen BK119.out 3; have hfz15_4 := blk_frozen BK119.out 4; have hfz15_5 := blk_frozen BK119.out 5; have hfz15_6 := blk_frozen BK119.out 6; have hfz15_7 := blk_frozen BK119.out 7; have hfz15_8 := blk_frozen BK119.out 8; have hfz15_9 := blk_frozen BK119.out 9; have hfz15_10 := blk_frozen BK119.out 10; have hfz15_11 := blk_frozen BK119.out 11; have hfz15_12 := blk_frozen BK119.out 12; have hfz15_13 := blk_frozen BK119.out 13; have hfz15_14 := blk_frozen BK119.out 14; have hfz15_15 := blk_frozen BK119.out 15; go_wp2_with (first | ((with_reducible refine gate_callee (f := 74) rfl ?_); refine gl_ 6 Tryd.func74 #[.int .i64 a0_1] ?_; (with_reducible refine (wire_member.calls a0_1 true _ A4.out).mono ?_); rintro e w' ⟨rfl, ⟨nd, rfl⟩⟩; refine ⟨_, rfl, ?_⟩) | ((with_reducible refine gate_dst (N := 17) rfl ?_); (try (refine gate_guard (by rfl) ?_; dsimp only)); refine Kd.R_lit (Kd.int .i64) _ 3 ?hg (N := 17) ?hd (xs := ([a0_2, a0_3] : List Int)) (inner := [.int .i64 a0_2, .int .i64 a0_3]) (ok := fun _ => True) (okp := fun _ => True) ?hr ?hp (fun _ hk => hk) trivial (Below.refl _ _) (Nat.le_refl _) (by simp) ?_; (case hd => rfl); (case hg => rfl); (case hr => first | (go_simp; done) | (go_simp; rfl)); (case hp => exact (ro_ (ro_ (Reps.none _ _)))); intro v122 w16 ho17 hb hg_ hnew_; clear hg_ hnew_; (first | rw [← Ny121.out] at ho17 | (simp only [Int.reduceToNat] at ho17; rw [← Ny121.out] at ho17)); have n0_ := Aside0.mk (Kd.R_lower ho17 (below_size (by repeat (first | (with_reducible first | exact HB.out | apply below_alloc | apply pw_below_drewN | apply below_drew1 | refine below_set ?_ GE119.out) | exact HB.out)))); have n1_ := Aside0.mk (blk_below (g := gb119) (o := .cells #[.int .i64 a0_0, .int .i64 a0_1, .int .i64 a0_2, .int .i64 a0_3, .string a0_4, .int .i64 a0_5, .int .i64 a0_6, .int .i64 a0_7, .int .i64 a0_8, .int .i64 a0_9, .int .i64 a0_10, .int .i64 a0_11, .string a0_12, .string a0_13, .int .i64 a0_14, .slice A0_15 l0_15.length c0_15] 31 (0, 0)) (by (with_reducible repeat (first | refine blk_drewN ?_ _ | refine blk_drew ?_ | refine blk_alloc ?_ _)); exact BK119.out) hb); have n2_ := Aside0.mk (below_step (by repeat (first | (with_reducible first | exact HB.out | apply below_alloc | apply pw_below_drewN | apply below_drew1 | refine below_set ?_ GE119.out) | exact HB.out)) hb); clear BK119; clear HB; have HO123 := n0_; have BK119 := n1_; have HB := n2_; clear n0_ n1_ n2_; clear hb ho17; obtain ⟨Ao18, co18, eo18⟩ := Kd.R_slice HO123.out; subst eo18) | (go_at_call 75; (with_reducible refine (wire_number.calls _ _ y121 false _ ?side1 ?side2 A7.out).mono ?_); (case side1 => exact ca_ (Kd.R_reads' HO123.out).2.2); (case side2 => exact (Kd.R_reads' HO123.out).2.1); rintro e w19 ⟨rfl, hb⟩; have n0_ := Aside0.mk (Kd.R_below (ra_ HO123.out) hb); have n1_ := Aside0.mk (blk_below (g := gb119) (o := .cells #[.int .i64 a0_0, .int .i64 a0_1, .int .i64 a0_2, .int .i64 a0_3, .string a0_4, .int .i64 a0_5, .int .i64 a0_6, .int .i64 a0_7, .int .i64 a0_8, .int .i64 a0_9, .int .i64 a0_10, .int .i64 a0_11, .string a0_12, .string a0_13, .int .i64 a0_14, .slice A0_15 l0_15.length c0_15] 31 (0, 0)) (by (with_reducible repeat (first | refine blk_drewN ?_ _ | refine blk_drew ?_ | refine blk_alloc ?_ _)); exact BK119.out) hb); have n2_ := Aside0.mk (below_step (by repeat (first | (with_reducible first | exact HB.out | apply below_alloc | apply pw_below_drewN | apply below_drew1 | refine below_set ?_ GE119.out) | exact HB.out)) hb); clear HO123; clear BK119; clear HB; have HO123 := n0_; have BK119 := n1_; have HB := n2_; clear n0_ n1_ n2_))
          go_meet
          case rel => exact ⟨_, (false), rz_, H', ⟨by first | omega | exact Nat.le_refl _⟩, ⟨by (with_reducible repeat (first | refine blk_drewN ?_ _ | refine blk_drew ?_ | refine blk_alloc ?_ _)); exact BK119.out⟩, ⟨by repeat (first | (with_reducible first | exact HB.out | apply below_alloc | apply pw_below_drewN | apply below_drew1 | refine below_set ?_ GE119.out) | exact HB.out)⟩⟩
      · rw [if_neg c6] at H; have c6b0 : decide (1 ≤ a0_2) = false := decide_eq_false c6; clear c6
        (first | rw [c6b0] | (simp only [i64_w, i32_w]; rw [c6b0]) | skip)
        have H' := Aside0.mk H; clear H; have hcz20_0 : w3.cell? ⟨gb119, 0, none⟩ = some (.int .i64 a0_0) := (blk_cell BK119.out 0).trans rfl; have hcz20_1 : w3.cell? ⟨gb119, 1, none⟩ = some (.int .i64 a0_1) := (blk_cell BK119.out 1).trans rfl; have hcz20_2 : w3.cell? ⟨gb119, 2, none⟩ = some (.int .i64 a0_2) := (blk_cell BK119.out 2).trans rfl; have hcz20_3 : w3.cell? ⟨gb119, 3, none⟩ = some (.int .i64 a0_3) := (blk_cell BK119.out 3).trans rfl; have hcz20_4 : w3.cell? ⟨gb119, 4, none⟩ = some (.string a0_4) := (blk_cell BK119.out 4).trans rfl; have hcz20_5 : w3.cell? ⟨gb119, 5, none⟩ = some (.int .i64 a0_5) := (blk_cell BK119.out 5).trans rfl; have hcz20_6 : w3.cell? ⟨gb119, 6, none⟩ = some (.int .i64 a0_6) := (blk_cell BK119.out 6).trans rfl; have hcz20_7 : w3.cell? ⟨gb119, 7, none⟩ = some (.int .i64 a0_7) := (blk_cell BK119.out 7).trans rfl; have hcz20_8 : w3.cell? ⟨gb119, 8, none⟩ = some (.int .i64 a0_8) := (blk_cell BK119.out 8).trans rfl; have hcz20_9 : w3.cell? ⟨gb119, 9, none⟩ = some (.int .i64 a0_9) := (blk_cell BK119.out 9).trans rfl; have hcz20_10 : w3.cell? ⟨gb119, 10, none⟩ = some (.int .i64 a0_10) := (blk_cell BK119.out 10).trans rfl; have hcz20_11 : w3.cell? ⟨gb119, 11, none⟩ = some (.int .i64 a0_11) := (blk_cell BK119.out 11).trans rfl; have hcz20_12 : w3.cell? ⟨gb119, 12, none⟩ = some (.string a0_12) := (blk_cell BK119.out 12).trans rfl; have hcz20_13 : w3.cell? ⟨gb119, 13, none⟩ = some (.string a0_13) := (blk_cell BK119.out 13).trans rfl; have hcz20_14 : w3.cell? ⟨gb119, 14, none⟩ = some (.int .i64 a0_14) := (blk_cell BK119.out 14).trans rfl; have hcz20_15 : w3.cell? ⟨gb119, 15, none⟩ = some (.slice A0_15 l0_15.length c0_15) := (blk_cell BK119.out 15).trans rfl; have hfz20_0 := blk_frozen BK119.out 0; have hfz20_1 := blk_frozen BK119.out 1; have hfz20_2 := blk_frozen BK119.out 2; have hfz20_3 := blk_frozen BK119.out 3; have hfz20_4 := blk_frozen BK119.out 4; have hfz20_5 := blk_frozen BK119.out 5; have hfz20_6 := blk_frozen BK119.out 6; have hfz20_7 := blk_frozen BK119.out 7; have hfz20_8 := blk_frozen BK119.out 8; have hfz20_9 := blk_frozen BK119.out 9; have hfz20_10 := blk_frozen BK119.out 10; have hfz20_11 := blk_frozen BK119.out 11; have hfz20_12 := blk_frozen BK119.out 12; have hfz20_13 := blk_frozen BK119.out 13; have hfz20_14 := blk_frozen BK119.out 14; have hfz20_15 := blk_frozen BK119.out 15; go_wp2_with (first | ((with_reducible refine gate_callee (f := 74) rfl ?_); refine gl_ 6 Tryd.func74 #[.int .i64 a0_1] ?_; (with_reducible refine (wire_member.calls a0_1 true _ A4.out).mono ?_); rintro e w' ⟨rfl, ⟨nd, rfl⟩⟩; refine ⟨_, rfl, ?_⟩))
        go_meet
        case rel => exact ⟨_, (false), rz_, H', ⟨by first | omega | exact Nat.le_refl _⟩, ⟨by (with_reducible repeat (first | refine blk_drewN ?_ _ | refine blk_drew ?_ | refine blk_alloc ?_ _)); exact BK119.out⟩, ⟨by repeat (first | (with_reducible first | exact HB.out | apply below_alloc | apply pw_below_drewN | apply below_drew1 | refine below_set ?_ GE119.out) | exact HB.out)⟩⟩
    · replace c5 := Bool.eq_false_iff.mpr c5; subst c5; have H1 : (wire_Check.j0 k false a0_0 a0_1 a0_2 a0_3 a0_4 a0_5 a0_6 a0_7 a0_8 a0_9 a0_10 a0_11 a0_12 a0_13 a0_14 l0_15) = some r := by rw [if_neg (show ¬ (false = true) by decide)] at H; exact H
      clear H; have H := H1; clear H1; have H' := Aside0.mk H; clear H; have hcz21_0 : w3.cell? ⟨gb119, 0, none⟩ = some (.int .i64 a0_0) := (blk_cell BK119.out 0).trans rfl; have hcz21_1 : w3.cell? ⟨gb119, 1, none⟩ = some (.int .i64 a0_1) := (blk_cell BK119.out 1).trans rfl; have hcz21_2 : w3.cell? ⟨gb119, 2, none⟩ = some (.int .i64 a0_2) := (blk_cell BK119.out 2).trans rfl; have hcz21_3 : w3.cell? ⟨gb119, 3, none⟩ = some (.int .i64 a0_3) := (blk_cell BK119.out 3).trans rfl; have hcz21_4 : w3.cell? ⟨gb119, 4, none⟩ = some (.string a0_4) := (blk_cell BK119.out 4).trans rfl; have hcz21_5 : w3.cell? ⟨gb119, 5, none⟩ = some (.int .i64 a0_5) := (blk_cell BK119.out 5).trans rfl; have hcz21_6 : w3.cell? ⟨gb119, 6, none⟩ = some (.int .i64 a0_6) := (blk_cell BK119.out 6).trans rfl; have hcz21_7 : w3.cell? ⟨gb119, 7, none⟩ = some (.int .i64 a0_7) := (blk_cell BK119.out 7).trans rfl; have hcz21_8 : w3.cell? ⟨gb119, 8, none⟩ = some (.int .i64 a0_8) := (blk_cell BK119.out 8).trans rfl; have hcz21_9 : w3.cell? ⟨gb119, 9, none⟩ = some (.int .i64 a0_9) := (blk_cell BK119.out 9).trans rfl; have hcz21_10 : w3.cell? ⟨gb119, 10, none⟩ = some (.int .i64 a0_10) := (blk_cell BK119.out 10).trans rfl; have hcz21_11 : w3.cell? ⟨gb119, 11, none⟩ = some (.int .i64 a0_11) := (blk_cell BK119.out 11).trans rfl; have hcz21_12 : w3.cell? ⟨gb119, 12, none⟩ = some (.string a0_12) := (blk_cell BK119.out 12).trans rfl; have hcz21_13 : w3.cell? ⟨gb119, 13, none⟩ = some (.string a0_13) := (blk_cell BK119.out 13).trans rfl; have hcz21_14 : w3.cell? ⟨gb119, 14, none⟩ = some (.int .i64 a0_14) := (blk_cell BK119.out 14).trans rfl; have hcz21_15 : w3.cell? ⟨gb119, 15, none⟩ = some (.slice A0_15 l0_15.length c0_15) := (blk_cell BK119.out 15).trans rfl; have hfz21_0 := blk_frozen BK119.out 0; have hfz21_1 := blk_frozen BK119.out 1; have hfz21_2 := blk_frozen BK119.out 2; have hfz21_3 := blk_frozen BK119.out 3; have hfz21_4 := blk_frozen BK119.out 4; have hfz21_5 := blk_frozen BK119.out 5; have hfz21_6 := blk_frozen BK119.out 6; have hfz21_7 := blk_frozen BK119.out 7; have hfz21_8 := blk_frozen BK119.out 8; have hfz21_9 := blk_frozen BK119.out 9; have hfz21_10 := blk_frozen BK119.out 10; have hfz21_11 := blk_frozen BK119.out 11; have hfz21_12 := blk_frozen BK119.out 12; have hfz21_13 := blk_frozen BK119.out 13; have hfz21_14 := blk_frozen BK119.out 14; have hfz21_15 := blk_frozen BK119.out 15; go_wp2_with (first | ((with_reducible refine gate_callee (f := 74) rfl ?_); refine gl_ 6 Tryd.func74 #[.int .i64 a0_1] ?_; (with_reducible refine (wire_member.calls a0_1 false _ A4.out).mono ?_); rintro e w' ⟨rfl, ⟨nd, rfl⟩⟩; refine ⟨_, rfl, ?_⟩))
      go_meet
      case rel => exact ⟨_, (false), rz_, H', ⟨by first | omega | exact Nat.le_refl _⟩, ⟨by (with_reducible repeat (first | refine blk_drewN ?_ _ | refine blk_drew ?_ | refine blk_alloc ?_ _)); exact BK119.out⟩, ⟨by repeat (first | (with_reducible first | exact HB.out | apply below_alloc | apply pw_below_drewN | apply below_drew1 | refine below_set ?_ GE119.out) | exact HB.out)⟩⟩
  case rest =>
    clear HC2; obtain ⟨kq, x3_1, rfl, HA, HJ1, BK119, HB⟩ := hcut; cases kq with
    | zero => exact absurd HA.out (by simp [wire_Check.j0])
    | succ kj1 =>
      have H := HA.out; clear HA; simp only [wire_Check.j0] at H; by_cases c22 : a0_0 = 1
      · rw [if_pos c22] at H; have c22b0 : (a0_0 == 1) = true := beq_iff_eq.mpr c22; have c22b1 : (a0_0 != 1) = false := bne_eq_false_iff_eq.mpr c22; clear c22; by_cases c23 : x3_1 = true
        · subst c23; have H1 : ((tree_Check.f a0_5 a0_6 a0_7 a0_8 a0_9 a0_10 a0_11 a0_12 a0_13).bind fun t125 => (if t125 = 0 then (if a0_7 = a0_1 then (if a0_14 = 0 then (if ((l0_15.length : Int) = 0) then (some 0) else (some 1)) else (some 1)) else (some 1)) else (some 1))) = some r := by rw [if_pos rfl] at H; exact H
          clear H; have H := H1; clear H1; replace H := Option.bind_eq_some_iff.mp H; obtain ⟨t125, A240, H⟩ := H; have A24 := Aside0.mk A240; clear A240; by_cases c25 : t125 = 0
          · rw [if_pos c25] at H; have c25b0 : (t125 == 0) = true := beq_iff_eq.mpr c25; have c25b1 : (t125 != 0) = false := bne_eq_false_iff_eq.mpr c25; clear c25; by_cases c26 : a0_7 = a0_1
            · rw [if_pos c26] at H; have c26b0 : (a0_7 == a0_1) = true := beq_iff_eq.mpr c26; have c26b1 : (a0_7 != a0_1) = false := bne_eq_false_iff_eq.mpr c26; clear c26; by_cases c27 : a0_14 = 0
              · rw [if_pos c27] at H; have c27b0 : (a0_14 == 0) = true := beq_iff_eq.mpr c27; have c27b1 : (a0_14 != 0) = false := bne_eq_false_iff_eq.mpr c27; clear c27; by_cases c28 : ((l0_15.length : Int) = 0)
                · rw [if_pos c28] at H; have c28b0 : ((l0_15.length : Int) == 0) = true := beq_iff_eq.mpr c28; have c28b1 : ((l0_15.length : Int) != 0) = false := bne_eq_false_iff_eq.mpr c28; clear c28; obtain rfl := Option.some.inj H; have hcz29_0 : wc.cell? ⟨gb119, 0, none⟩ = some (.int .i64 a0_0) := (blk_cell BK119.out 0).trans rfl; have hcz29_1 : wc.cell? ⟨gb119, 1, none⟩ = some (.int .i64 a0_1) := (blk_cell BK119.out 1).trans rfl; have hcz29_2 : wc.cell? ⟨gb119, 2, none⟩ = some (.int .i64 a0_2) := (blk_cell BK119.out 2).trans rfl; have hcz29_3 : wc.cell? ⟨gb119, 3, none⟩ = some (.int .i64 a0_3) := (blk_cell BK119.out 3).trans rfl; have hcz29_4 : wc.cell? ⟨gb119, 4, none⟩ = some (.string a0_4) := (blk_cell BK119.out 4).trans rfl; have hcz29_5 : wc.cell? ⟨gb119, 5, none⟩ = some (.int .i64 a0_5) := (blk_cell BK119.out 5).trans rfl; have hcz29_6 : wc.cell? ⟨gb119, 6, none⟩ = some (.int .i64 a0_6) := (blk_cell BK119.out 6).trans rfl; have hcz29_7 : wc.cell? ⟨gb119, 7, none⟩ = some (.int .i64 a0_7) := (blk_cell BK119.out 7).trans rfl; have hcz29_8 : wc.cell? ⟨gb119, 8, none⟩ = some (.int .i64 a0_8) := (blk_cell BK119.out 8).trans rfl; have hcz29_9 : wc.cell? ⟨gb119, 9, none⟩ = some (.int .i64 a0_9) := (blk_cell BK119.out 9).trans rfl; have hcz29_10 : wc.cell? ⟨gb119, 10, none⟩ = some (.int .i64 a0_10) := (blk_cell BK119.out 10).trans rfl; have hcz29_11 : wc.cell? ⟨gb119, 11, none⟩ = some (.int .i64 a0_11) := (blk_cell BK119.out 11).trans rfl; have hcz29_12 : wc.cell? ⟨gb119, 12, none⟩ = some (.string a0_12) := (blk_cell BK119.out 12).trans rfl; have hcz29_13 : wc.cell? ⟨gb119, 13, none⟩ = some (.string a0_13) := (blk_cell BK119.out 13).trans rfl; have hcz29_14 : wc.cell? ⟨gb119, 14, none⟩ = some (.int .i64 a0_14) := (blk_cell BK119.out 14).trans rfl; have hcz29_15 : wc.cell? ⟨gb119, 15, none⟩ = some (.slice A0_15 l0_15.length c0_15) := (blk_cell BK119.out 15).trans rfl; have hfz29_0 := blk_frozen BK119.out 0; have hfz29_1 := blk_frozen BK119.out 1; have hfz29_2 := blk_frozen BK119.out 2; have hfz29_3 := blk_frozen BK119.out 3; have hfz29_4 := blk_frozen BK119.out 4; have hfz29_5 := blk_frozen BK119.out 5; have hfz29_6 := blk_frozen BK119.out 6; have hfz29_7 := blk_frozen BK119.out 7; have hfz29_8 := blk_frozen BK119.out 8; have hfz29_9 := blk_frozen BK119.out 9; have hfz29_10 := blk_frozen BK119.out 10; have hfz29_11 := blk_frozen BK119.out 11; have hfz29_12 := blk_frozen BK119.out 12; have hfz29_13 := blk_frozen BK119.out 13; have hfz29_14 := blk_frozen BK119.out 14; have hfz29_15 := blk_frozen BK119.out 15; go_wp2_with (first | (go_at_call 76; (with_reducible refine (tree_Check.calls a0_5 a0_6 a0_7 a0_8 a0_9 a0_10 a0_11 a0_12 a0_13 t125 _ A24.out).mono ?_); rintro e w30 ⟨rfl, hb⟩; have n0_ := Aside0.mk (blk_below (g := gb119) (o := .cells #[.int .i64 a0_0, .int .i64 a0_1, .int .i64 a0_2, .int .i64 a0_3, .string a0_4, .int .i64 a0_5, .int .i64 a0_6, .int .i64 a0_7, .int .i64 a0_8, .int .i64 a0_9, .int .i64 a0_10, .int .i64 a0_11, .string a0_12, .string a0_13, .int .i64 a0_14, .slice A0_15 l0_15.length c0_15] 31 (0, 0)) (by (with_reducible repeat (first | refine blk_drewN ?_ _ | refine blk_drew ?_ | refine blk_alloc ?_ _)); exact BK119.out) hb); have n1_ := Aside0.mk (below_step (by repeat (first | (with_reducible first | exact HB.out | apply below_alloc | apply pw_below_drewN | apply below_drew1 | refine below_set ?_ GE119.out) | exact HB.out)) hb); clear BK119; clear HB; have BK119 := n0_; have HB := n1_; clear n0_ n1_; have hcz31_0 : w30.cell? ⟨gb119, 0, none⟩ = some (.int .i64 a0_0) := (blk_cell BK119.out 0).trans rfl; have hcz31_1 : w30.cell? ⟨gb119, 1, none⟩ = some (.int .i64 a0_1) := (blk_cell BK119.out 1).trans rfl; have hcz31_2 : w30.cell? ⟨gb119, 2, none⟩ = some (.int .i64 a0_2) := (blk_cell BK119.out 2).trans rfl; have hcz31_3 : w30.cell? ⟨gb119, 3, none⟩ = some (.int .i64 a0_3) := (blk_cell BK119.out 3).trans rfl; have hcz31_4 : w30.cell? ⟨gb119, 4, none⟩ = some (.string a0_4) := (blk_cell BK119.out 4).trans rfl; have hcz31_5 : w30.cell? ⟨gb119, 5, none⟩ = some (.int .i64 a0_5) := (blk_cell BK119.out 5).trans rfl; have hcz31_6 : w30.cell? ⟨gb119, 6, none⟩ = some (.int .i64 a0_6) := (blk_cell BK119.out 6).trans rfl; have hcz31_7 : w30.cell? ⟨gb119, 7, none⟩ = some (.int .i64 a0_7) := (blk_cell BK119.out 7).trans rfl; have hcz31_8 : w30.cell? ⟨gb119, 8, none⟩ = some (.int .i64 a0_8) := (blk_cell BK119.out 8).trans rfl; have hcz31_9 : w30.cell? ⟨gb119, 9, none⟩ = some (.int .i64 a0_9) := (blk_cell BK119.out 9).trans rfl; have hcz31_10 : w30.cell? ⟨gb119, 10, none⟩ = some (.int .i64 a0_10) := (blk_cell BK119.out 10).trans rfl; have hcz31_11 : w30.cell? ⟨gb119, 11, none⟩ = some (.int .i64 a0_11) := (blk_cell BK119.out 11).trans rfl; have hcz31_12 : w30.cell? ⟨gb119, 12, none⟩ = some (.string a0_12) := (blk_cell BK119.out 12).trans rfl; have hcz31_13 : w30.cell? ⟨gb119, 13, none⟩ = some (.string a0_13) := (blk_cell BK119.out 13).trans rfl; have hcz31_14 : w30.cell? ⟨gb119, 14, none⟩ = some (.int .i64 a0_14) := (blk_cell BK119.out 14).trans rfl; have hcz31_15 : w30.cell? ⟨gb119, 15, none⟩ = some (.slice A0_15 l0_15.length c0_15) := (blk_cell BK119.out 15).trans rfl; have hfz31_0 := blk_frozen BK119.out 0; have hfz31_1 := blk_frozen BK119.out 1; have hfz31_2 := blk_frozen BK119.out 2; have hfz31_3 := blk_frozen BK119.out 3; have hfz31_4 := blk_frozen BK119.out 4; have hfz31_5 := blk_frozen BK119.out 5; have hfz31_6 := blk_frozen BK119.out 6; have hfz31_7 := blk_frozen BK119.out 7; have hfz31_8 := blk_frozen BK119.out 8; have hfz31_9 := blk_frozen BK119.out 9; have hfz31_10 := blk_frozen BK119.out 10; have hfz31_11 := blk_frozen BK119.out 11; have hfz31_12 := blk_frozen BK119.out 12; have hfz31_13 := blk_frozen BK119.out 13; have hfz31_14 := blk_frozen BK119.out 14; have hfz31_15 := blk_frozen BK119.out 15))
                  go_ret
                  exact ⟨ew_, by repeat (first | (with_reducible first | exact HB.out | apply below_alloc | apply pw_below_drewN | apply below_drew1 | refine below_set ?_ GE119.out) | exact HB.out)⟩
                · rw [if_neg c28] at H; have c28b0 : ((l0_15.length : Int) == 0) = false := beq_eq_false_iff_ne.mpr c28; have c28b1 : ((l0_15.length : Int) != 0) = true := bne_iff_ne.mpr c28; have c28b2 : ¬ (l0_15 = []) := fun h_ => c28 (by rw [h_]; rfl)
                  obtain rfl := Option.some.inj H; have hcz32_0 : wc.cell? ⟨gb119, 0, none⟩ = some (.int .i64 a0_0) := (blk_cell BK119.out 0).trans rfl; have hcz32_1 : wc.cell? ⟨gb119, 1, none⟩ = some (.int .i64 a0_1) := (blk_cell BK119.out 1).trans rfl; have hcz32_2 : wc.cell? ⟨gb119, 2, none⟩ = some (.int .i64 a0_2) := (blk_cell BK119.out 2).trans rfl; have hcz32_3 : wc.cell? ⟨gb119, 3, none⟩ = some (.int .i64 a0_3) := (blk_cell BK119.out 3).trans rfl; have hcz32_4 : wc.cell? ⟨gb119, 4, none⟩ = some (.string a0_4) := (blk_cell BK119.out 4).trans rfl; have hcz32_5 : wc.cell? ⟨gb119, 5, none⟩ = some (.int .i64 a0_5) := (blk_cell BK119.out 5).trans rfl; have hcz32_6 : wc.cell? ⟨gb119, 6, none⟩ = some (.int .i64 a0_6) := (blk_cell BK119.out 6).trans rfl; have hcz32_7 : wc.cell? ⟨gb119, 7, none⟩ = some (.int .i64 a0_7) := (blk_cell BK119.out 7).trans rfl; have hcz32_8 : wc.cell? ⟨gb119, 8, none⟩ = some (.int .i64 a0_8) := (blk_cell BK119.out 8).trans rfl; have hcz32_9 : wc.cell? ⟨gb119, 9, none⟩ = some (.int .i64 a0_9) := (blk_cell BK119.out 9).trans rfl; have hcz32_10 : wc.cell? ⟨gb119, 10, none⟩ = some (.int .i64 a0_10) := (blk_cell BK119.out 10).trans rfl; have hcz32_11 : wc.cell? ⟨gb119, 11, none⟩ = some (.int .i64 a0_11) := (blk_cell BK119.out 11).trans rfl; have hcz32_12 : wc.cell? ⟨gb119, 12, none⟩ = some (.string a0_12) := (blk_cell BK119.out 12).trans rfl; have hcz32_13 : wc.cell? ⟨gb119, 13, none⟩ = some (.string a0_13) := (blk_cell BK119.out 13).trans rfl; have hcz32_14 : wc.cell? ⟨gb119, 14, none⟩ = some (.int .i64 a0_14) := (blk_cell BK119.out 14).trans rfl; have hcz32_15 : wc.cell? ⟨gb119, 15, none⟩ = some (.slice A0_15 l0_15.length c0_15) := (blk_cell BK119.out 15).trans rfl; have hfz32_0 := blk_frozen BK119.out 0; have hfz32_1 := blk_frozen BK119.out 1; have hfz32_2 := blk_frozen BK119.out 2; have hfz32_3 := blk_frozen BK119.out 3; have hfz32_4 := blk_frozen BK119.out 4; have hfz32_5 := blk_frozen BK119.out 5; have hfz32_6 := blk_frozen BK119.out 6; have hfz32_7 := blk_frozen BK119.out 7; have hfz32_8 := blk_frozen BK119.out 8; have hfz32_9 := blk_frozen BK119.out 9; have hfz32_10 := blk_frozen BK119.out 10; have hfz32_11 := blk_frozen BK119.out 11; have hfz32_12 := blk_frozen BK119.out 12; have hfz32_13 := blk_frozen BK119.out 13; have hfz32_14 := blk_frozen BK119.out 14; have hfz32_15 := blk_frozen BK119.out 15; go_wp2_with (first | (go_at_call 76; (with_reducible refine (tree_Check.calls a0_5 a0_6 a0_7 a0_8 a0_9 a0_10 a0_11 a0_12 a0_13 t125 _ A24.out).mono ?_); rintro e w33 ⟨rfl, hb⟩; have n0_ := Aside0.mk (blk_below (g := gb119) (o := .cells #[.int .i64 a0_0, .int .i64 a0_1, .int .i64 a0_2, .int .i64 a0_3, .string a0_4, .int .i64 a0_5, .int .i64 a0_6, .int .i64 a0_7, .int .i64 a0_8, .int .i64 a0_9, .int .i64 a0_10, .int .i64 a0_11, .string a0_12, .string a0_13, .int .i64 a0_14, .slice A0_15 l0_15.length c0_15] 31 (0, 0)) (by (with_reducible repeat (first | refine blk_drewN ?_ _ | refine blk_drew ?_ | refine blk_alloc ?_ _)); exact BK119.out) hb); have n1_ := Aside0.mk (below_step (by repeat (first | (with_reducible first | exact HB.out | apply below_alloc | apply pw_below_drewN | apply below_drew1 | refine below_set ?_ GE119.out) | exact HB.out)) hb); clear BK119; clear HB; have BK119 := n0_; have HB := n1_; clear n0_ n1_; have hcz34_0 : w33.cell? ⟨gb119, 0, none⟩ = some (.int .i64 a0_0) := (blk_cell BK119.out 0).trans rfl; have hcz34_1 : w33.cell? ⟨gb119, 1, none⟩ = some (.int .i64 a0_1) := (blk_cell BK119.out 1).trans rfl; have hcz34_2 : w33.cell? ⟨gb119, 2, none⟩ = some (.int .i64 a0_2) := (blk_cell BK119.out 2).trans rfl; have hcz34_3 : w33.cell? ⟨gb119, 3, none⟩ = some (.int .i64 a0_3) := (blk_cell BK119.out 3).trans rfl; have hcz34_4 : w33.cell? ⟨gb119, 4, none⟩ = some (.string a0_4) := (blk_cell BK119.out 4).trans rfl; have hcz34_5 : w33.cell? ⟨gb119, 5, none⟩ = some (.int .i64 a0_5) := (blk_cell BK119.out 5).trans rfl; have hcz34_6 : w33.cell? ⟨gb119, 6, none⟩ = some (.int .i64 a0_6) := (blk_cell BK119.out 6).trans rfl; have hcz34_7 : w33.cell? ⟨gb119, 7, none⟩ = some (.int .i64 a0_7) := (blk_cell BK119.out 7).trans rfl; have hcz34_8 : w33.cell? ⟨gb119, 8, none⟩ = some (.int .i64 a0_8) := (blk_cell BK119.out 8).trans rfl; have hcz34_9 : w33.cell? ⟨gb119, 9, none⟩ = some (.int .i64 a0_9) := (blk_cell BK119.out 9).trans rfl; have hcz34_10 : w33.cell? ⟨gb119, 10, none⟩ = some (.int .i64 a0_10) := (blk_cell BK119.out 10).trans rfl; have hcz34_11 : w33.cell? ⟨gb119, 11, none⟩ = some (.int .i64 a0_11) := (blk_cell BK119.out 11).trans rfl; have hcz34_12 : w33.cell? ⟨gb119, 12, none⟩ = some (.string a0_12) := (blk_cell BK119.out 12).trans rfl; have hcz34_13 : w33.cell? ⟨gb119, 13, none⟩ = some (.string a0_13) := (blk_cell BK119.out 13).trans rfl; have hcz34_14 : w33.cell? ⟨gb119, 14, none⟩ = some (.int .i64 a0_14) := (blk_cell BK119.out 14).trans rfl; have hcz34_15 : w33.cell? ⟨gb119, 15, none⟩ = some (.slice A0_15 l0_15.length c0_15) := (blk_cell BK119.out 15).trans rfl; have hfz34_0 := blk_frozen BK119.out 0; have hfz34_1 := blk_frozen BK119.out 1; have hfz34_2 := blk_frozen BK119.out 2; have hfz34_3 := blk_frozen BK119.out 3; have hfz34_4 := blk_frozen BK119.out 4; have hfz34_5 := blk_frozen BK119.out 5; have hfz34_6 := blk_frozen BK119.out 6; have hfz34_7 := blk_frozen BK119.out 7; have hfz34_8 := blk_frozen BK119.out 8; have hfz34_9 := blk_frozen BK119.out 9; have hfz34_10 := blk_frozen BK119.out 10; have hfz34_11 := blk_frozen BK119.out 11; have hfz34_12 := blk_frozen BK119.out 12; have hfz34_13 := blk_frozen BK119.out 13; have hfz34_14 := blk_frozen BK119.out 14; have hfz34_15 := blk_frozen BK119.out 15))
                  go_ret
                  exact ⟨ew_, by repeat (first | (with_reducible first | exact HB.out | apply below_alloc | apply pw_below_drewN | apply below_drew1 | refine below_set ?_ GE119.out) | exact HB.out)⟩
              · rw [if_neg c27] at H; have c27b0 : (a0_14 == 0) = false := beq_eq_false_iff_ne.mpr c27; have c27b1 : (a0_14 != 0) = true := bne_iff_ne.mpr c27; obtain rfl := Option.some.inj H; have hcz35_0 : wc.cell? ⟨gb119, 0, none⟩ = some (.int .i64 a0_0) := (blk_cell BK119.out 0).trans rfl; have hcz35_1 : wc.cell? ⟨gb119, 1, none⟩ = some (.int .i64 a0_1) := (blk_cell BK119.out 1).trans rfl; have hcz35_2 : wc.cell? ⟨gb119, 2, none⟩ = some (.int .i64 a0_2) := (blk_cell BK119.out 2).trans rfl; have hcz35_3 : wc.cell? ⟨gb119, 3, none⟩ = some (.int .i64 a0_3) := (blk_cell BK119.out 3).trans rfl; have hcz35_4 : wc.cell? ⟨gb119, 4, none⟩ = some (.string a0_4) := (blk_cell BK119.out 4).trans rfl; have hcz35_5 : wc.cell? ⟨gb119, 5, none⟩ = some (.int .i64 a0_5) := (blk_cell BK119.out 5).trans rfl; have hcz35_6 : wc.cell? ⟨gb119, 6, none⟩ = some (.int .i64 a0_6) := (blk_cell BK119.out 6).trans rfl; have hcz35_7 : wc.cell? ⟨gb119, 7, none⟩ = some (.int .i64 a0_7) := (blk_cell BK119.out 7).trans rfl; have hcz35_8 : wc.cell? ⟨gb119, 8, none⟩ = some (.int .i64 a0_8) := (blk_cell BK119.out 8).trans rfl; have hcz35_9 : wc.cell? ⟨gb119, 9, none⟩ = some (.int .i64 a0_9) := (blk_cell BK119.out 9).trans rfl; have hcz35_10 : wc.cell? ⟨gb119, 10, none⟩ = some (.int .i64 a0_10) := (blk_cell BK119.out 10).trans rfl; have hcz35_11 : wc.cell? ⟨gb119, 11, none⟩ = some (.int .i64 a0_11) := (blk_cell BK119.out 11).trans rfl; have hcz35_12 : wc.cell? ⟨gb119, 12, none⟩ = some (.string a0_12) := (blk_cell BK119.out 12).trans rfl; have hcz35_13 : wc.cell? ⟨gb119, 13, none⟩ = some (.string a0_13) := (blk_cell BK119.out 13).trans rfl; have hcz35_14 : wc.cell? ⟨gb119, 14, none⟩ = some (.int .i64 a0_14) := (blk_cell BK119.out 14).trans rfl; have hcz35_15 : wc.cell? ⟨gb119, 15, none⟩ = some (.slice A0_15 l0_15.length c0_15) := (blk_cell BK119.out 15).trans rfl; have hfz35_0 := blk_frozen BK119.out 0; have hfz35_1 := blk_frozen BK119.out 1; have hfz35_2 := blk_frozen BK119.out 2; have hfz35_3 := blk_frozen BK119.out 3; have hfz35_4 := blk_frozen BK119.out 4; have hfz35_5 := blk_frozen BK119.out 5; have hfz35_6 := blk_frozen BK119.out 6; have hfz35_7 := blk_frozen BK119.out 7; have hfz35_8 := blk_frozen BK119.out 8; have hfz35_9 := blk_frozen BK119.out 9; have hfz35_10 := blk_frozen BK119.out 10; have hfz35_11 := blk_frozen BK119.out 11; have hfz35_12 := blk_frozen BK119.out 12; have hfz35_13 := blk_frozen BK119.out 13; have hfz35_14 := blk_frozen BK119.out 14; have hfz35_15 := blk_frozen BK119.out 15; go_wp2_with (first | (go_at_call 76; (with_reducible refine (tree_Check.calls a0_5 a0_6 a0_7 a0_8 a0_9 a0_10 a0_11 a0_12 a0_13 t125 _ A24.out).mono ?_); rintro e w36 ⟨rfl, hb⟩; have n0_ := Aside0.mk (blk_below (g := gb119) (o := .cells #[.int .i64 a0_0, .int .i64 a0_1, .int .i64 a0_2, .int .i64 a0_3, .string a0_4, .int .i64 a0_5, .int .i64 a0_6, .int .i64 a0_7, .int .i64 a0_8, .int .i64 a0_9, .int .i64 a0_10, .int .i64 a0_11, .string a0_12, .string a0_13, .int .i64 a0_14, .slice A0_15 l0_15.length c0_15] 31 (0, 0)) (by (with_reducible repeat (first | refine blk_drewN ?_ _ | refine blk_drew ?_ | refine blk_alloc ?_ _)); exact BK119.out) hb); have n1_ := Aside0.mk (below_step (by repeat (first | (with_reducible first | exact HB.out | apply below_alloc | apply pw_below_drewN | apply below_drew1 | refine below_set ?_ GE119.out) | exact HB.out)) hb); clear BK119; clear HB; have BK119 := n0_; have HB := n1_; clear n0_ n1_; have hcz37_0 : w36.cell? ⟨gb119, 0, none⟩ = some (.int .i64 a0_0) := (blk_cell BK119.out 0).trans rfl; have hcz37_1 : w36.cell? ⟨gb119, 1, none⟩ = some (.int .i64 a0_1) := (blk_cell BK119.out 1).trans rfl; have hcz37_2 : w36.cell? ⟨gb119, 2, none⟩ = some (.int .i64 a0_2) := (blk_cell BK119.out 2).trans rfl; have hcz37_3 : w36.cell? ⟨gb119, 3, none⟩ = some (.int .i64 a0_3) := (blk_cell BK119.out 3).trans rfl; have hcz37_4 : w36.cell? ⟨gb119, 4, none⟩ = some (.string a0_4) := (blk_cell BK119.out 4).trans rfl; have hcz37_5 : w36.cell? ⟨gb119, 5, none⟩ = some (.int .i64 a0_5) := (blk_cell BK119.out 5).trans rfl; have hcz37_6 : w36.cell? ⟨gb119, 6, none⟩ = some (.int .i64 a0_6) := (blk_cell BK119.out 6).trans rfl; have hcz37_7 : w36.cell? ⟨gb119, 7, none⟩ = some (.int .i64 a0_7) := (blk_cell BK119.out 7).trans rfl; have hcz37_8 : w36.cell? ⟨gb119, 8, none⟩ = some (.int .i64 a0_8) := (blk_cell BK119.out 8).trans rfl; have hcz37_9 : w36.cell? ⟨gb119, 9, none⟩ = some (.int .i64 a0_9) := (blk_cell BK119.out 9).trans rfl; have hcz37_10 : w36.cell? ⟨gb119, 10, none⟩ = some (.int .i64 a0_10) := (blk_cell BK119.out 10).trans rfl; have hcz37_11 : w36.cell? ⟨gb119, 11, none⟩ = some (.int .i64 a0_11) := (blk_cell BK119.out 11).trans rfl; have hcz37_12 : w36.cell? ⟨gb119, 12, none⟩ = some (.string a0_12) := (blk_cell BK119.out 12).trans rfl; have hcz37_13 : w36.cell? ⟨gb119, 13, none⟩ = some (.string a0_13) := (blk_cell BK119.out 13).trans rfl; have hcz37_14 : w36.cell? ⟨gb119, 14, none⟩ = some (.int .i64 a0_14) := (blk_cell BK119.out 14).trans rfl; have hcz37_15 : w36.cell? ⟨gb119, 15, none⟩ = some (.slice A0_15 l0_15.length c0_15) := (blk_cell BK119.out 15).trans rfl; have hfz37_0 := blk_frozen BK119.out 0; have hfz37_1 := blk_frozen BK119.out 1; have hfz37_2 := blk_frozen BK119.out 2; have hfz37_3 := blk_frozen BK119.out 3; have hfz37_4 := blk_frozen BK119.out 4; have hfz37_5 := blk_frozen BK119.out 5; have hfz37_6 := blk_frozen BK119.out 6; have hfz37_7 := blk_frozen BK119.out 7; have hfz37_8 := blk_frozen BK119.out 8; have hfz37_9 := blk_frozen BK119.out 9; have hfz37_10 := blk_frozen BK119.out 10; have hfz37_11 := blk_frozen BK119.out 11; have hfz37_12 := blk_frozen BK119.out 12; have hfz37_13 := blk_frozen BK119.out 13; have hfz37_14 := blk_frozen BK119.out 14; have hfz37_15 := blk_frozen BK119.out 15))
                go_ret
                exact ⟨ew_, by repeat (first | (with_reducible first | exact HB.out | apply below_alloc | apply pw_below_drewN | apply below_drew1 | refine below_set ?_ GE119.out) | exact HB.out)⟩
            · rw [if_neg c26] at H; have c26b0 : (a0_7 == a0_1) = false := beq_eq_false_iff_ne.mpr c26; have c26b1 : (a0_7 != a0_1) = true := bne_iff_ne.mpr c26; obtain rfl := Option.some.inj H; have hcz38_0 : wc.cell? ⟨gb119, 0, none⟩ = some (.int .i64 a0_0) := (blk_cell BK119.out 0).trans rfl; have hcz38_1 : wc.cell? ⟨gb119, 1, none⟩ = some (.int .i64 a0_1) := (blk_cell BK119.out 1).trans rfl; have hcz38_2 : wc.cell? ⟨gb119, 2, none⟩ = some (.int .i64 a0_2) := (blk_cell BK119.out 2).trans rfl; have hcz38_3 : wc.cell? ⟨gb119, 3, none⟩ = some (.int .i64 a0_3) := (blk_cell BK119.out 3).trans rfl; have hcz38_4 : wc.cell? ⟨gb119, 4, none⟩ = some (.string a0_4) := (blk_cell BK119.out 4).trans rfl; have hcz38_5 : wc.cell? ⟨gb119, 5, none⟩ = some (.int .i64 a0_5) := (blk_cell BK119.out 5).trans rfl; have hcz38_6 : wc.cell? ⟨gb119, 6, none⟩ = some (.int .i64 a0_6) := (blk_cell BK119.out 6).trans rfl; have hcz38_7 : wc.cell? ⟨gb119, 7, none⟩ = some (.int .i64 a0_7) := (blk_cell BK119.out 7).trans rfl; have hcz38_8 : wc.cell? ⟨gb119, 8, none⟩ = some (.int .i64 a0_8) := (blk_cell BK119.out 8).trans rfl; have hcz38_9 : wc.cell? ⟨gb119, 9, none⟩ = some (.int .i64 a0_9) := (blk_cell BK119.out 9).trans rfl; have hcz38_10 : wc.cell? ⟨gb119, 10, none⟩ = some (.int .i64 a0_10) := (blk_cell BK119.out 10).trans rfl; have hcz38_11 : wc.cell? ⟨gb119, 11, none⟩ = some (.int .i64 a0_11) := (blk_cell BK119.out 11).trans rfl; have hcz38_12 : wc.cell? ⟨gb119, 12, none⟩ = some (.string a0_12) := (blk_cell BK119.out 12).trans rfl; have hcz38_13 : wc.cell? ⟨gb119, 13, none⟩ = some (.string a0_13) := (blk_cell BK119.out 13).trans rfl; have hcz38_14 : wc.cell? ⟨gb119, 14, none⟩ = some (.int .i64 a0_14) := (blk_cell BK119.out 14).trans rfl; have hcz38_15 : wc.cell? ⟨gb119, 15, none⟩ = some (.slice A0_15 l0_15.length c0_15) := (blk_cell BK119.out 15).trans rfl; have hfz38_0 := blk_frozen BK119.out 0; have hfz38_1 := blk_frozen BK119.out 1; have hfz38_2 := blk_frozen BK119.out 2; have hfz38_3 := blk_frozen BK119.out 3; have hfz38_4 := blk_frozen BK119.out 4; have hfz38_5 := blk_frozen BK119.out 5; have hfz38_6 := blk_frozen BK119.out 6; have hfz38_7 := blk_frozen BK119.out 7; have hfz38_8 := blk_frozen BK119.out 8; have hfz38_9 := blk_frozen BK119.out 9; have hfz38_10 := blk_frozen BK119.out 10; have hfz38_11 := blk_frozen BK119.out 11; have hfz38_12 := blk_frozen BK119.out 12; have hfz38_13 := blk_frozen BK119.out 13; have hfz38_14 := blk_frozen BK119.out 14; have hfz38_15 := blk_frozen BK119.out 15; go_wp2_with (first | (go_at_call 76; (with_reducible refine (tree_Check.calls a0_5 a0_6 a0_7 a0_8 a0_9 a0_10 a0_11 a0_12 a0_13 t125 _ A24.out).mono ?_); rintro e w39 ⟨rfl, hb⟩; have n0_ := Aside0.mk (blk_below (g := gb119) (o := .cells #[.int .i64 a0_0, .int .i64 a0_1, .int .i64 a0_2, .int .i64 a0_3, .string a0_4, .int .i64 a0_5, .int .i64 a0_6, .int .i64 a0_7, .int .i64 a0_8, .int .i64 a0_9, .int .i64 a0_10, .int .i64 a0_11, .string a0_12, .string a0_13, .int .i64 a0_14, .slice A0_15 l0_15.length c0_15] 31 (0, 0)) (by (with_reducible repeat (first | refine blk_drewN ?_ _ | refine blk_drew ?_ | refine blk_alloc ?_ _)); exact BK119.out) hb); have n1_ := Aside0.mk (below_step (by repeat (first | (with_reducible first | exact HB.out | apply below_alloc | apply pw_below_drewN | apply below_drew1 | refine below_set ?_ GE119.out) | exact HB.out)) hb); clear BK119; clear HB; have BK119 := n0_; have HB := n1_; clear n0_ n1_; have hcz40_0 : w39.cell? ⟨gb119, 0, none⟩ = some (.int .i64 a0_0) := (blk_cell BK119.out 0).trans rfl; have hcz40_1 : w39.cell? ⟨gb119, 1, none⟩ = some (.int .i64 a0_1) := (blk_cell BK119.out 1).trans rfl; have hcz40_2 : w39.cell? ⟨gb119, 2, none⟩ = some (.int .i64 a0_2) := (blk_cell BK119.out 2).trans rfl; have hcz40_3 : w39.cell? ⟨gb119, 3, none⟩ = some (.int .i64 a0_3) := (blk_cell BK119.out 3).trans rfl; have hcz40_4 : w39.cell? ⟨gb119, 4, none⟩ = some (.string a0_4) := (blk_cell BK119.out 4).trans rfl; have hcz40_5 : w39.cell? ⟨gb119, 5, none⟩ = some (.int .i64 a0_5) := (blk_cell BK119.out 5).trans rfl; have hcz40_6 : w39.cell? ⟨gb119, 6, none⟩ = some (.int .i64 a0_6) := (blk_cell BK119.out 6).trans rfl; have hcz40_7 : w39.cell? ⟨gb119, 7, none⟩ = some (.int .i64 a0_7) := (blk_cell BK119.out 7).trans rfl; have hcz40_8 : w39.cell? ⟨gb119, 8, none⟩ = some (.int .i64 a0_8) := (blk_cell BK119.out 8).trans rfl; have hcz40_9 : w39.cell? ⟨gb119, 9, none⟩ = some (.int .i64 a0_9) := (blk_cell BK119.out 9).trans rfl; have hcz40_10 : w39.cell? ⟨gb119, 10, none⟩ = some (.int .i64 a0_10) := (blk_cell BK119.out 10).trans rfl; have hcz40_11 : w39.cell? ⟨gb119, 11, none⟩ = some (.int .i64 a0_11) := (blk_cell BK119.out 11).trans rfl; have hcz40_12 : w39.cell? ⟨gb119, 12, none⟩ = some (.string a0_12) := (blk_cell BK119.out 12).trans rfl; have hcz40_13 : w39.cell? ⟨gb119, 13, none⟩ = some (.string a0_13) := (blk_cell BK119.out 13).trans rfl; have hcz40_14 : w39.cell? ⟨gb119, 14, none⟩ = some (.int .i64 a0_14) := (blk_cell BK119.out 14).trans rfl; have hcz40_15 : w39.cell? ⟨gb119, 15, none⟩ = some (.slice A0_15 l0_15.length c0_15) := (blk_cell BK119.out 15).trans rfl; have hfz40_0 := blk_frozen BK119.out 0; have hfz40_1 := blk_frozen BK119.out 1; have hfz40_2 := blk_frozen BK119.out 2; have hfz40_3 := blk_frozen BK119.out 3; have hfz40_4 := blk_frozen BK119.out 4; have hfz40_5 := blk_frozen BK119.out 5; have hfz40_6 := blk_frozen BK119.out 6; have hfz40_7 := blk_frozen BK119.out 7; have hfz40_8 := blk_frozen BK119.out 8; have hfz40_9 := blk_frozen BK119.out 9; have hfz40_10 := blk_frozen BK119.out 10; have hfz40_11 := blk_frozen BK119.out 11; have hfz40_12 := blk_frozen BK119.out 12; have hfz40_13 := blk_frozen BK119.out 13; have hfz40_14 := blk_frozen BK119.out 14; have hfz40_15 := blk_frozen BK119.out 15))
              go_ret
              exact ⟨ew_, by repeat (first | (with_reducible first | exact HB.out | apply below_alloc | apply pw_below_drewN | apply below_drew1 | refine below_set ?_ GE119.out) | exact HB.out)⟩
          · rw [if_neg c25] at H; have c25b0 : (t125 == 0) = false := beq_eq_false_iff_ne.mpr c25; have c25b1 : (t125 != 0) = true := bne_iff_ne.mpr c25; obtain rfl := Option.some.inj H; have hcz41_0 : wc.cell? ⟨gb119, 0, none⟩ = some (.int .i64 a0_0) := (blk_cell BK119.out 0).trans rfl; have hcz41_1 : wc.cell? ⟨gb119, 1, none⟩ = some (.int .i64 a0_1) := (blk_cell BK119.out 1).trans rfl; have hcz41_2 : wc.cell? ⟨gb119, 2, none⟩ = some (.int .i64 a0_2) := (blk_cell BK119.out 2).trans rfl; have hcz41_3 : wc.cell? ⟨gb119, 3, none⟩ = some (.int .i64 a0_3) := (blk_cell BK119.out 3).trans rfl; have hcz41_4 : wc.cell? ⟨gb119, 4, none⟩ = some (.string a0_4) := (blk_cell BK119.out 4).trans rfl; have hcz41_5 : wc.cell? ⟨gb119, 5, none⟩ = some (.int .i64 a0_5) := (blk_cell BK119.out 5).trans rfl; have hcz41_6 : wc.cell? ⟨gb119, 6, none⟩ = some (.int .i64 a0_6) := (blk_cell BK119.out 6).trans rfl; have hcz41_7 : wc.cell? ⟨gb119, 7, none⟩ = some (.int .i64 a0_7) := (blk_cell BK119.out 7).trans rfl; have hcz41_8 : wc.cell? ⟨gb119, 8, none⟩ = some (.int .i64 a0_8) := (blk_cell BK119.out 8).trans rfl; have hcz41_9 : wc.cell? ⟨gb119, 9, none⟩ = some (.int .i64 a0_9) := (blk_cell BK119.out 9).trans rfl; have hcz41_10 : wc.cell? ⟨gb119, 10, none⟩ = some (.int .i64 a0_10) := (blk_cell BK119.out 10).trans rfl; have hcz41_11 : wc.cell? ⟨gb119, 11, none⟩ = some (.int .i64 a0_11) := (blk_cell BK119.out 11).trans rfl; have hcz41_12 : wc.cell? ⟨gb119, 12, none⟩ = some (.string a0_12) := (blk_cell BK119.out 12).trans rfl; have hcz41_13 : wc.cell? ⟨gb119, 13, none⟩ = some (.string a0_13) := (blk_cell BK119.out 13).trans rfl; have hcz41_14 : wc.cell? ⟨gb119, 14, none⟩ = some (.int .i64 a0_14) := (blk_cell BK119.out 14).trans rfl; have hcz41_15 : wc.cell? ⟨gb119, 15, none⟩ = some (.slice A0_15 l0_15.length c0_15) := (blk_cell BK119.out 15).trans rfl; have hfz41_0 := blk_frozen BK119.out 0; have hfz41_1 := blk_frozen BK119.out 1; have hfz41_2 := blk_frozen BK119.out 2; have hfz41_3 := blk_frozen BK119.out 3; have hfz41_4 := blk_frozen BK119.out 4; have hfz41_5 := blk_frozen BK119.out 5; have hfz41_6 := blk_frozen BK119.out 6; have hfz41_7 := blk_frozen BK119.out 7; have hfz41_8 := blk_frozen BK119.out 8; have hfz41_9 := blk_frozen BK119.out 9; have hfz41_10 := blk_frozen BK119.out 10; have hfz41_11 := blk_frozen BK119.out 11; have hfz41_12 := blk_frozen BK119.out 12; have hfz41_13 := blk_frozen BK119.out 13; have hfz41_14 := blk_frozen BK119.out 14; have hfz41_15 := blk_frozen BK119.out 15; go_wp2_with (first | (go_at_call 76; (with_reducible refine (tree_Check.calls a0_5 a0_6 a0_7 a0_8 a0_9 a0_10 a0_11 a0_12 a0_13 t125 _ A24.out).mono ?_); rintro e w42 ⟨rfl, hb⟩; have n0_ := Aside0.mk (blk_below (g := gb119) (o := .cells #[.int .i64 a0_0, .int .i64 a0_1, .int .i64 a0_2, .int .i64 a0_3, .string a0_4, .int .i64 a0_5, .int .i64 a0_6, .int .i64 a0_7, .int .i64 a0_8, .int .i64 a0_9, .int .i64 a0_10, .int .i64 a0_11, .string a0_12, .string a0_13, .int .i64 a0_14, .slice A0_15 l0_15.length c0_15] 31 (0, 0)) (by (with_reducible repeat (first | refine blk_drewN ?_ _ | refine blk_drew ?_ | refine blk_alloc ?_ _)); exact BK119.out) hb); have n1_ := Aside0.mk (below_step (by repeat (first | (with_reducible first | exact HB.out | apply below_alloc | apply pw_below_drewN | apply below_drew1 | refine below_set ?_ GE119.out) | exact HB.out)) hb); clear BK119; clear HB; have BK119 := n0_; have HB := n1_; clear n0_ n1_))
            go_ret
            exact ⟨ew_, by repeat (first | (with_reducible first | exact HB.out | apply below_alloc | apply pw_below_drewN | apply below_drew1 | refine below_set ?_ GE119.out) | exact HB.out)⟩
        · replace c23 := Bool.eq_false_iff.mpr c23; subst c23; have H1 : (some 1) = some r := by rw [if_neg (show ¬ (false = true) by decide)] at H; exact H
          clear H; have H := H1; clear H1; obtain rfl := Option.some.inj H; have hcz43_0 : wc.cell? ⟨gb119, 0, none⟩ = some (.int .i64 a0_0) := (blk_cell BK119.out 0).trans rfl; have hcz43_1 : wc.cell? ⟨gb119, 1, none⟩ = some (.int .i64 a0_1) := (blk_cell BK119.out 1).trans rfl; have hcz43_2 : wc.cell? ⟨gb119, 2, none⟩ = some (.int .i64 a0_2) := (blk_cell BK119.out 2).trans rfl; have hcz43_3 : wc.cell? ⟨gb119, 3, none⟩ = some (.int .i64 a0_3) := (blk_cell BK119.out 3).trans rfl; have hcz43_4 : wc.cell? ⟨gb119, 4, none⟩ = some (.string a0_4) := (blk_cell BK119.out 4).trans rfl; have hcz43_5 : wc.cell? ⟨gb119, 5, none⟩ = some (.int .i64 a0_5) := (blk_cell BK119.out 5).trans rfl; have hcz43_6 : wc.cell? ⟨gb119, 6, none⟩ = some (.int .i64 a0_6) := (blk_cell BK119.out 6).trans rfl; have hcz43_7 : wc.cell? ⟨gb119, 7, none⟩ = some (.int .i64 a0_7) := (blk_cell BK119.out 7).trans rfl; have hcz43_8 : wc.cell? ⟨gb119, 8, none⟩ = some (.int .i64 a0_8) := (blk_cell BK119.out 8).trans rfl; have hcz43_9 : wc.cell? ⟨gb119, 9, none⟩ = some (.int .i64 a0_9) := (blk_cell BK119.out 9).trans rfl; have hcz43_10 : wc.cell? ⟨gb119, 10, none⟩ = some (.int .i64 a0_10) := (blk_cell BK119.out 10).trans rfl; have hcz43_11 : wc.cell? ⟨gb119, 11, none⟩ = some (.int .i64 a0_11) := (blk_cell BK119.out 11).trans rfl; have hcz43_12 : wc.cell? ⟨gb119, 12, none⟩ = some (.string a0_12) := (blk_cell BK119.out 12).trans rfl; have hcz43_13 : wc.cell? ⟨gb119, 13, none⟩ = some (.string a0_13) := (blk_cell BK119.out 13).trans rfl; have hcz43_14 : wc.cell? ⟨gb119, 14, none⟩ = some (.int .i64 a0_14) := (blk_cell BK119.out 14).trans rfl; have hcz43_15 : wc.cell? ⟨gb119, 15, none⟩ = some (.slice A0_15 l0_15.length c0_15) := (blk_cell BK119.out 15).trans rfl; have hfz43_0 := blk_frozen BK119.out 0; have hfz43_1 := blk_frozen BK119.out 1; have hfz43_2 := blk_frozen BK119.out 2; have hfz43_3 := blk_frozen BK119.out 3; have hfz43_4 := blk_frozen BK119.out 4; have hfz43_5 := blk_frozen BK119.out 5; have hfz43_6 := blk_frozen BK119.out 6; have hfz43_7 := blk_frozen BK119.out 7; have hfz43_8 := blk_frozen BK119.out 8; have hfz43_9 := blk_frozen BK119.out 9; have hfz43_10 := blk_frozen BK119.out 10; have hfz43_11 := blk_frozen BK119.out 11; have hfz43_12 := blk_frozen BK119.out 12; have hfz43_13 := blk_frozen BK119.out 13; have hfz43_14 := blk_frozen BK119.out 14; have hfz43_15 := blk_frozen BK119.out 15; go_wp2; go_ret
          exact ⟨ew_, by repeat (first | (with_reducible first | exact HB.out | apply below_alloc | apply pw_below_drewN | apply below_drew1 | refine below_set ?_ GE119.out) | exact HB.out)⟩
      · rw [if_neg c22] at H; have c22b0 : (a0_0 == 1) = false := beq_eq_false_iff_ne.mpr c22; have c22b1 : (a0_0 != 1) = true := bne_iff_ne.mpr c22; have HC44 := Aside0.mk H; clear H; have hcz45_0 : wc.cell? ⟨gb119, 0, none⟩ = some (.int .i64 a0_0) := (blk_cell BK119.out 0).trans rfl; have hcz45_1 : wc.cell? ⟨gb119, 1, none⟩ = some (.int .i64 a0_1) := (blk_cell BK119.out 1).trans rfl; have hcz45_2 : wc.cell? ⟨gb119, 2, none⟩ = some (.int .i64 a0_2) := (blk_cell BK119.out 2).trans rfl; have hcz45_3 : wc.cell? ⟨gb119, 3, none⟩ = some (.int .i64 a0_3) := (blk_cell BK119.out 3).trans rfl; have hcz45_4 : wc.cell? ⟨gb119, 4, none⟩ = some (.string a0_4) := (blk_cell BK119.out 4).trans rfl; have hcz45_5 : wc.cell? ⟨gb119, 5, none⟩ = some (.int .i64 a0_5) := (blk_cell BK119.out 5).trans rfl; have hcz45_6 : wc.cell? ⟨gb119, 6, none⟩ = some (.int .i64 a0_6) := (blk_cell BK119.out 6).trans rfl; have hcz45_7 : wc.cell? ⟨gb119, 7, none⟩ = some (.int .i64 a0_7) := (blk_cell BK119.out 7).trans rfl; have hcz45_8 : wc.cell? ⟨gb119, 8, none⟩ = some (.int .i64 a0_8) := (blk_cell BK119.out 8).trans rfl; have hcz45_9 : wc.cell? ⟨gb119, 9, none⟩ = some (.int .i64 a0_9) := (blk_cell BK119.out 9).trans rfl; have hcz45_10 : wc.cell? ⟨gb119, 10, none⟩ = some (.int .i64 a0_10) := (blk_cell BK119.out 10).trans rfl; have hcz45_11 : wc.cell? ⟨gb119, 11, none⟩ = some (.int .i64 a0_11) := (blk_cell BK119.out 11).trans rfl; have hcz45_12 : wc.cell? ⟨gb119, 12, none⟩ = some (.string a0_12) := (blk_cell BK119.out 12).trans rfl; have hcz45_13 : wc.cell? ⟨gb119, 13, none⟩ = some (.string a0_13) := (blk_cell BK119.out 13).trans rfl; have hcz45_14 : wc.cell? ⟨gb119, 14, none⟩ = some (.int .i64 a0_14) := (blk_cell BK119.out 14).trans rfl; have hcz45_15 : wc.cell? ⟨gb119, 15, none⟩ = some (.slice A0_15 l0_15.length c0_15) := (blk_cell BK119.out 15).trans rfl; have hfz45_0 := blk_frozen BK119.out 0; have hfz45_1 := blk_frozen BK119.out 1; have hfz45_2 := blk_frozen BK119.out 2; have hfz45_3 := blk_frozen BK119.out 3; have hfz45_4 := blk_frozen BK119.out 4; have hfz45_5 := blk_frozen BK119.out 5; have hfz45_6 := blk_frozen BK119.out 6; have hfz45_7 := blk_frozen BK119.out 7; have hfz45_8 := blk_frozen BK119.out 8; have hfz45_9 := blk_frozen BK119.out 9; have hfz45_10 := blk_frozen BK119.out 10; have hfz45_11 := blk_frozen BK119.out 11; have hfz45_12 := blk_frozen BK119.out 12; have hfz45_13 := blk_frozen BK119.out 13; have hfz45_14 := blk_frozen BK119.out 14; have hfz45_15 := blk_frozen BK119.out 15; go_upto_if 57 with (fail)
        go_cut [57] (fun v57 wc => ∃ (kq : Nat) (x57_43 : Bool), v57 = .bool x57_43 ∧ Aside0 (wire_Check.j1 kq x3_1 a0_0 x57_43 a0_0 a0_1 a0_2 a0_3 a0_4 a0_5 a0_6 a0_7 a0_8 a0_9 a0_10 a0_11 a0_12 a0_13 a0_14 l0_15 = some r) ∧ Aside0 (kq ≤ kj1) ∧ Aside0 (wc.heap[gb119]? = some (.cells #[.int .i64 a0_0, .int .i64 a0_1, .int .i64 a0_2, .int .i64 a0_3, .string a0_4, .int .i64 a0_5, .int .i64 a0_6, .int .i64 a0_7, .int .i64 a0_8, .int .i64 a0_9, .int .i64 a0_10, .int .i64 a0_11, .string a0_12, .string a0_13, .int .i64 a0_14, (.slice A0_15 l0_15.length c0_15)] 31 (0, 0))) ∧ Aside0 (Below w.heap.size w wc))
        case first =>
          have H := HC44.out; clear HC44; by_cases c46 : a0_0 = 2
          · rw [if_pos c46] at H; have c46b0 : (a0_0 == 2) = true := beq_iff_eq.mpr c46; have c46b1 : (a0_0 != 2) = false := bne_eq_false_iff_eq.mpr c46; clear c46
            (first | rw [c46b0] | (simp only [i64_w, i32_w]; rw [c46b0]) | skip)
            have H' := Aside0.mk H; clear H; go_wp2; go_meet
            case rel => exact ⟨_, ((a0_0 == 2)), rz_, H', ⟨by have := HJ1.out; first | omega | exact Nat.le_refl _⟩, ⟨by (with_reducible repeat (first | refine blk_drewN ?_ _ | refine blk_drew ?_ | refine blk_alloc ?_ _)); exact BK119.out⟩, ⟨by repeat (first | (with_reducible first | exact HB.out | apply below_alloc | apply pw_below_drewN | apply below_drew1 | refine below_set ?_ GE119.out) | exact HB.out)⟩⟩
          · rw [if_neg c46] at H; have c46b0 : (a0_0 == 2) = false := beq_eq_false_iff_ne.mpr c46; have c46b1 : (a0_0 != 2) = true := bne_iff_ne.mpr c46
            (first | rw [c46b0] | (simp only [i64_w, i32_w]; rw [c46b0]) | skip)
            have H' := Aside0.mk H; clear H; go_wp2; go_meet
            case rel => exact ⟨_, ((a0_0 == 3)), rz_, H', ⟨by have := HJ1.out; first | omega | exact Nat.le_refl _⟩, ⟨by (with_reducible repeat (first | refine blk_drewN ?_ _ | refine blk_drew ?_ | refine blk_alloc ?_ _)); exact BK119.out⟩, ⟨by repeat (first | (with_reducible first | exact HB.out | apply below_alloc | apply pw_below_drewN | apply below_drew1 | refine below_set ?_ GE119.out) | exact HB.out)⟩⟩
        case rest =>
          clear HC44; obtain ⟨kq, x57_43, rfl, HA, HJ43, BK119, HB⟩ := hcut; cases kq with
          | zero => exact absurd HA.out (by simp [wire_Check.j1])
          | succ kj43 =>
            have H := HA.out; clear HA; simp only [wire_Check.j1] at H; by_cases c47 : x57_43 = true
            · subst c47; have H1 : (if x3_1 = true then (if (a0_5 == 0 && ((a0_6 == 0 && (a0_7 == 0)) && ((a0_8 == 0 && (a0_9 == 0)) && ((a0_10 == 0 && (a0_11 == 0)) && (a0_12.toList == ([] : List UInt8) && (a0_13.toList == ([] : List UInt8))))))) = true then ((wire_member.f a0_14).bind fun t126 => (if t126 = true then ((wire_wraps.f kj43 l0_15).bind fun t127 => (if t127 = true then (some 0) else (some 1))) else (some 1))) else (some 1)) else (some 1)) = some r := by rw [if_pos rfl] at H; exact H
              clear H; have H := H1; clear H1; by_cases c48 : x3_1 = true
              · subst c48; have H1 : (if (a0_5 == 0 && ((a0_6 == 0 && (a0_7 == 0)) && ((a0_8 == 0 && (a0_9 == 0)) && ((a0_10 == 0 && (a0_11 == 0)) && (a0_12.toList == ([] : List UInt8) && (a0_13.toList == ([] : List UInt8))))))) = true then ((wire_member.f a0_14).bind fun t126 => (if t126 = true then ((wire_wraps.f kj43 l0_15).bind fun t127 => (if t127 = true then (some 0) else (some 1))) else (some 1))) else (some 1)) = some r := by rw [if_pos rfl] at H; exact H
                clear H; have H := H1; clear H1; by_cases c49 : (a0_5 == 0 && ((a0_6 == 0 && (a0_7 == 0)) && ((a0_8 == 0 && (a0_9 == 0)) && ((a0_10 == 0 && (a0_11 == 0)) && (a0_12.toList == ([] : List UInt8) && (a0_13.toList == ([] : List UInt8))))))) = true
                · rw [if_pos c49] at H; have c49b0 : (a0_5 == 0 && ((a0_6 == 0 && (a0_7 == 0)) && ((a0_8 == 0 && (a0_9 == 0)) && ((a0_10 == 0 && (a0_11 == 0)) && (a0_12.toList == ([] : List UInt8) && (a0_13.toList == ([] : List UInt8))))))) = true := c49; have c49e0 : (a0_5 == 0 && ((a0_6 == 0 && (a0_7 == 0)) && ((a0_8 == 0 && (a0_9 == 0)) && ((a0_10 == 0 && (a0_11 == 0)) && (a0_12.toList.isEmpty && (a0_13.toList.isEmpty)))))) = true := by simpa only [show ∀ l_ : List UInt8, (l_ == ([] : List UInt8)) = l_.isEmpty from fun l_ => by cases l_ <;> rfl] using c49b0
                  (try (have c49b1 : decide (a0_5 = 0 && ((a0_6 == 0 && (a0_7 == 0)) && ((a0_8 == 0 && (a0_9 == 0)) && ((a0_10 == 0 && (a0_11 == 0)) && (a0_12.toList == ([] : List UInt8) && (a0_13.toList == ([] : List UInt8))))))) = true := by simpa using c49))
                  (try (have c49b2 : (a0_5 == 0 && ((a0_6 == 0 && (a0_7 == 0)) && ((a0_8 == 0 && (a0_9 == 0)) && ((a0_10 == 0 && (a0_11 == 0)) && (a0_12.toList == ([] : List UInt8) && (a0_13.toList == ([] : List UInt8))))))) = true := by simpa using c49))
                  clear c49; replace H := Option.bind_eq_some_iff.mp H; obtain ⟨t126, A500, H⟩ := H; have A50 := Aside0.mk A500; clear A500; by_cases c51 : t126 = true
                  · subst c51; have H1 : ((wire_wraps.f kj43 l0_15).bind fun t127 => (if t127 = true then (some 0) else (some 1))) = some r := by rw [if_pos rfl] at H; exact H
                    clear H; have H := H1; clear H1; replace H := Option.bind_eq_some_iff.mp H; obtain ⟨t127, A520, H⟩ := H; have A52 := Aside0.mk A520; clear A520; by_cases c53 : t127 = true
                    · subst c53; have H1 : (some 0) = some r := by rw [if_pos rfl] at H; exact H
                      clear H; have H := H1; clear H1; obtain rfl := Option.some.inj H; have hcz54_0 : wc.cell? ⟨gb119, 0, none⟩ = some (.int .i64 a0_0) := (blk_cell BK119.out 0).trans rfl; have hcz54_1 : wc.cell? ⟨gb119, 1, none⟩ = some (.int .i64 a0_1) := (blk_cell BK119.out 1).trans rfl; have hcz54_2 : wc.cell? ⟨gb119, 2, none⟩ = some (.int .i64 a0_2) := (blk_cell BK119.out 2).trans rfl; have hcz54_3 : wc.cell? ⟨gb119, 3, none⟩ = some (.int .i64 a0_3) := (blk_cell BK119.out 3).trans rfl; have hcz54_4 : wc.cell? ⟨gb119, 4, none⟩ = some (.string a0_4) := (blk_cell BK119.out 4).trans rfl; have hcz54_5 : wc.cell? ⟨gb119, 5, none⟩ = some (.int .i64 a0_5) := (blk_cell BK119.out 5).trans rfl; have hcz54_6 : wc.cell? ⟨gb119, 6, none⟩ = some (.int .i64 a0_6) := (blk_cell BK119.out 6).trans rfl; have hcz54_7 : wc.cell? ⟨gb119, 7, none⟩ = some (.int .i64 a0_7) := (blk_cell BK119.out 7).trans rfl; have hcz54_8 : wc.cell? ⟨gb119, 8, none⟩ = some (.int .i64 a0_8) := (blk_cell BK119.out 8).trans rfl; have hcz54_9 : wc.cell? ⟨gb119, 9, none⟩ = some (.int .i64 a0_9) := (blk_cell BK119.out 9).trans rfl; have hcz54_10 : wc.cell? ⟨gb119, 10, none⟩ = some (.int .i64 a0_10) := (blk_cell BK119.out 10).trans rfl; have hcz54_11 : wc.cell? ⟨gb119, 11, none⟩ = some (.int .i64 a0_11) := (blk_cell BK119.out 11).trans rfl; have hcz54_12 : wc.cell? ⟨gb119, 12, none⟩ = some (.string a0_12) := (blk_cell BK119.out 12).trans rfl; have hcz54_13 : wc.cell? ⟨gb119, 13, none⟩ = some (.string a0_13) := (blk_cell BK119.out 13).trans rfl; have hcz54_14 : wc.cell? ⟨gb119, 14, none⟩ = some (.int .i64 a0_14) := (blk_cell BK119.out 14).trans rfl; have hcz54_15 : wc.cell? ⟨gb119, 15, none⟩ = some (.slice A0_15 l0_15.length c0_15) := (blk_cell BK119.out 15).trans rfl; have hfz54_0 := blk_frozen BK119.out 0; have hfz54_1 := blk_frozen BK119.out 1; have hfz54_2 := blk_frozen BK119.out 2; have hfz54_3 := blk_frozen BK119.out 3; have hfz54_4 := blk_frozen BK119.out 4; have hfz54_5 := blk_frozen BK119.out 5; have hfz54_6 := blk_frozen BK119.out 6; have hfz54_7 := blk_frozen BK119.out 7; have hfz54_8 := blk_frozen BK119.out 8; have hfz54_9 := blk_frozen BK119.out 9; have hfz54_10 := blk_frozen BK119.out 10; have hfz54_11 := blk_frozen BK119.out 11; have hfz54_12 := blk_frozen BK119.out 12; have hfz54_13 := blk_frozen BK119.out 13; have hfz54_14 := blk_frozen BK119.out 14; have hfz54_15 := blk_frozen BK119.out 15; go_wp2_with (first | (go_at_call 74; (with_reducible refine (wire_member.calls a0_14 true _ A50.out).mono ?_); rintro e w' ⟨rfl, ⟨nd, rfl⟩⟩) | (go_at_call 77; (with_reducible refine (wire_wraps.calls kj43 _ _ l0_15 true _ ?side1 ?side2 A52.out).mono ?_); (case side1 => repeat (first | exact (Kd.C_below HR0_15.out (by repeat (first | (with_reducible first | exact HB.out | apply below_alloc | apply pw_below_drewN | apply below_drew1 | refine below_set ?_ GE119.out) | exact HB.out))) | (with_reducible refine Kd.C_alloc ?_ _) | (with_reducible refine Kd.C_drewN ?_ _) | (with_reducible refine Kd.C_drew ?_))); (case side2 => exact HC0_15.out); rintro e w55 ⟨rfl, hb⟩; have n0_ := Aside0.mk (blk_below (g := gb119) (o := .cells #[.int .i64 a0_0, .int .i64 a0_1, .int .i64 a0_2, .int .i64 a0_3, .string a0_4, .int .i64 a0_5, .int .i64 a0_6, .int .i64 a0_7, .int .i64 a0_8, .int .i64 a0_9, .int .i64 a0_10, .int .i64 a0_11, .string a0_12, .string a0_13, .int .i64 a0_14, .slice A0_15 l0_15.length c0_15] 31 (0, 0)) (by (with_reducible repeat (first | refine blk_drewN ?_ _ | refine blk_drew ?_ | refine blk_alloc ?_ _)); exact BK119.out) hb); have n1_ := Aside0.mk (below_step (by repeat (first | (with_reducible first | exact HB.out | apply below_alloc | apply pw_below_drewN | apply below_drew1 | refine below_set ?_ GE119.out) | exact HB.out)) hb); clear BK119; clear HB; have BK119 := n0_; have HB := n1_; clear n0_ n1_))
                      go_ret
                      exact ⟨ew_, by repeat (first | (with_reducible first | exact HB.out | apply below_alloc | apply pw_below_drewN | apply below_drew1 | refine below_set ?_ GE119.out) | exact HB.out)⟩
                    · replace c53 := Bool.eq_false_iff.mpr c53; subst c53; have H1 : (some 1) = some r := by rw [if_neg (show ¬ (false = true) by decide)] at H; exact H
                      clear H; have H := H1; clear H1; obtain rfl := Option.some.inj H; have hcz56_0 : wc.cell? ⟨gb119, 0, none⟩ = some (.int .i64 a0_0) := (blk_cell BK119.out 0).trans rfl; have hcz56_1 : wc.cell? ⟨gb119, 1, none⟩ = some (.int .i64 a0_1) := (blk_cell BK119.out 1).trans rfl; have hcz56_2 : wc.cell? ⟨gb119, 2, none⟩ = some (.int .i64 a0_2) := (blk_cell BK119.out 2).trans rfl; have hcz56_3 : wc.cell? ⟨gb119, 3, none⟩ = some (.int .i64 a0_3) := (blk_cell BK119.out 3).trans rfl; have hcz56_4 : wc.cell? ⟨gb119, 4, none⟩ = some (.string a0_4) := (blk_cell BK119.out 4).trans rfl; have hcz56_5 : wc.cell? ⟨gb119, 5, none⟩ = some (.int .i64 a0_5) := (blk_cell BK119.out 5).trans rfl; have hcz56_6 : wc.cell? ⟨gb119, 6, none⟩ = some (.int .i64 a0_6) := (blk_cell BK119.out 6).trans rfl; have hcz56_7 : wc.cell? ⟨gb119, 7, none⟩ = some (.int .i64 a0_7) := (blk_cell BK119.out 7).trans rfl; have hcz56_8 : wc.cell? ⟨gb119, 8, none⟩ = some (.int .i64 a0_8) := (blk_cell BK119.out 8).trans rfl; have hcz56_9 : wc.cell? ⟨gb119, 9, none⟩ = some (.int .i64 a0_9) := (blk_cell BK119.out 9).trans rfl; have hcz56_10 : wc.cell? ⟨gb119, 10, none⟩ = some (.int .i64 a0_10) := (blk_cell BK119.out 10).trans rfl; have hcz56_11 : wc.cell? ⟨gb119, 11, none⟩ = some (.int .i64 a0_11) := (blk_cell BK119.out 11).trans rfl; have hcz56_12 : wc.cell? ⟨gb119, 12, none⟩ = some (.string a0_12) := (blk_cell BK119.out 12).trans rfl; have hcz56_13 : wc.cell? ⟨gb119, 13, none⟩ = some (.string a0_13) := (blk_cell BK119.out 13).trans rfl; have hcz56_14 : wc.cell? ⟨gb119, 14, none⟩ = some (.int .i64 a0_14) := (blk_cell BK119.out 14).trans rfl; have hcz56_15 : wc.cell? ⟨gb119, 15, none⟩ = some (.slice A0_15 l0_15.length c0_15) := (blk_cell BK119.out 15).trans rfl; have hfz56_0 := blk_frozen BK119.out 0; have hfz56_1 := blk_frozen BK119.out 1; have hfz56_2 := blk_frozen BK119.out 2; have hfz56_3 := blk_frozen BK119.out 3; have hfz56_4 := blk_frozen BK119.out 4; have hfz56_5 := blk_frozen BK119.out 5; have hfz56_6 := blk_frozen BK119.out 6; have hfz56_7 := blk_frozen BK119.out 7; have hfz56_8 := blk_frozen BK119.out 8; have hfz56_9 := blk_frozen BK119.out 9; have hfz56_10 := blk_frozen BK119.out 10; have hfz56_11 := blk_frozen BK119.out 11; have hfz56_12 := blk_frozen BK119.out 12; have hfz56_13 := blk_frozen BK119.out 13; have hfz56_14 := blk_frozen BK119.out 14; have hfz56_15 := blk_frozen BK119.out 15; go_wp2_with (first | (go_at_call 74; (with_reducible refine (wire_member.calls a0_14 true _ A50.out).mono ?_); rintro e w' ⟨rfl, ⟨nd, rfl⟩⟩) | (go_at_call 77; (with_reducible refine (wire_wraps.calls kj43 _ _ l0_15 false _ ?side1 ?side2 A52.out).mono ?_); (case side1 => repeat (first | exact (Kd.C_below HR0_15.out (by repeat (first | (with_reducible first | exact HB.out | apply below_alloc | apply pw_below_drewN | apply below_drew1 | refine below_set ?_ GE119.out) | exact HB.out))) | (with_reducible refine Kd.C_alloc ?_ _) | (with_reducible refine Kd.C_drewN ?_ _) | (with_reducible refine Kd.C_drew ?_))); (case side2 => exact HC0_15.out); rintro e w57 ⟨rfl, hb⟩; have n0_ := Aside0.mk (blk_below (g := gb119) (o := .cells #[.int .i64 a0_0, .int .i64 a0_1, .int .i64 a0_2, .int .i64 a0_3, .string a0_4, .int .i64 a0_5, .int .i64 a0_6, .int .i64 a0_7, .int .i64 a0_8, .int .i64 a0_9, .int .i64 a0_10, .int .i64 a0_11, .string a0_12, .string a0_13, .int .i64 a0_14, .slice A0_15 l0_15.length c0_15] 31 (0, 0)) (by (with_reducible repeat (first | refine blk_drewN ?_ _ | refine blk_drew ?_ | refine blk_alloc ?_ _)); exact BK119.out) hb); have n1_ := Aside0.mk (below_step (by repeat (first | (with_reducible first | exact HB.out | apply below_alloc | apply pw_below_drewN | apply below_drew1 | refine below_set ?_ GE119.out) | exact HB.out)) hb); clear BK119; clear HB; have BK119 := n0_; have HB := n1_; clear n0_ n1_))
                      go_ret
                      exact ⟨ew_, by repeat (first | (with_reducible first | exact HB.out | apply below_alloc | apply pw_below_drewN | apply below_drew1 | refine below_set ?_ GE119.out) | exact HB.out)⟩
                  · replace c51 := Bool.eq_false_iff.mpr c51; subst c51; have H1 : (some 1) = some r := by rw [if_neg (show ¬ (false = true) by decide)] at H; exact H
                    clear H; have H := H1; clear H1; obtain rfl := Option.some.inj H; have hcz58_0 : wc.cell? ⟨gb119, 0, none⟩ = some (.int .i64 a0_0) := (blk_cell BK119.out 0).trans rfl; have hcz58_1 : wc.cell? ⟨gb119, 1, none⟩ = some (.int .i64 a0_1) := (blk_cell BK119.out 1).trans rfl; have hcz58_2 : wc.cell? ⟨gb119, 2, none⟩ = some (.int .i64 a0_2) := (blk_cell BK119.out 2).trans rfl; have hcz58_3 : wc.cell? ⟨gb119, 3, none⟩ = some (.int .i64 a0_3) := (blk_cell BK119.out 3).trans rfl; have hcz58_4 : wc.cell? ⟨gb119, 4, none⟩ = some (.string a0_4) := (blk_cell BK119.out 4).trans rfl; have hcz58_5 : wc.cell? ⟨gb119, 5, none⟩ = some (.int .i64 a0_5) := (blk_cell BK119.out 5).trans rfl; have hcz58_6 : wc.cell? ⟨gb119, 6, none⟩ = some (.int .i64 a0_6) := (blk_cell BK119.out 6).trans rfl; have hcz58_7 : wc.cell? ⟨gb119, 7, none⟩ = some (.int .i64 a0_7) := (blk_cell BK119.out 7).trans rfl; have hcz58_8 : wc.cell? ⟨gb119, 8, none⟩ = some (.int .i64 a0_8) := (blk_cell BK119.out 8).trans rfl; have hcz58_9 : wc.cell? ⟨gb119, 9, none⟩ = some (.int .i64 a0_9) := (blk_cell BK119.out 9).trans rfl; have hcz58_10 : wc.cell? ⟨gb119, 10, none⟩ = some (.int .i64 a0_10) := (blk_cell BK119.out 10).trans rfl; have hcz58_11 : wc.cell? ⟨gb119, 11, none⟩ = some (.int .i64 a0_11) := (blk_cell BK119.out 11).trans rfl; have hcz58_12 : wc.cell? ⟨gb119, 12, none⟩ = some (.string a0_12) := (blk_cell BK119.out 12).trans rfl; have hcz58_13 : wc.cell? ⟨gb119, 13, none⟩ = some (.string a0_13) := (blk_cell BK119.out 13).trans rfl; have hcz58_14 : wc.cell? ⟨gb119, 14, none⟩ = some (.int .i64 a0_14) := (blk_cell BK119.out 14).trans rfl; have hcz58_15 : wc.cell? ⟨gb119, 15, none⟩ = some (.slice A0_15 l0_15.length c0_15) := (blk_cell BK119.out 15).trans rfl; have hfz58_0 := blk_frozen BK119.out 0; have hfz58_1 := blk_frozen BK119.out 1; have hfz58_2 := blk_frozen BK119.out 2; have hfz58_3 := blk_frozen BK119.out 3; have hfz58_4 := blk_frozen BK119.out 4; have hfz58_5 := blk_frozen BK119.out 5; have hfz58_6 := blk_frozen BK119.out 6; have hfz58_7 := blk_frozen BK119.out 7; have hfz58_8 := blk_frozen BK119.out 8; have hfz58_9 := blk_frozen BK119.out 9; have hfz58_10 := blk_frozen BK119.out 10; have hfz58_11 := blk_frozen BK119.out 11; have hfz58_12 := blk_frozen BK119.out 12; have hfz58_13 := blk_frozen BK119.out 13; have hfz58_14 := blk_frozen BK119.out 14; have hfz58_15 := blk_frozen BK119.out 15; go_wp2_with (first | (go_at_call 74; (with_reducible refine (wire_member.calls a0_14 false _ A50.out).mono ?_); rintro e w' ⟨rfl, ⟨nd, rfl⟩⟩))
                    go_ret
                    exact ⟨ew_, by repeat (first | (with_reducible first | exact HB.out | apply below_alloc | apply pw_below_drewN | apply below_drew1 | refine below_set ?_ GE119.out) | exact HB.out)⟩
                · rw [if_neg c49] at H; have c49b0 : (a0_5 == 0 && ((a0_6 == 0 && (a0_7 == 0)) && ((a0_8 == 0 && (a0_9 == 0)) && ((a0_10 == 0 && (a0_11 == 0)) && (a0_12.toList == ([] : List UInt8) && (a0_13.toList == ([] : List UInt8))))))) = false := by simpa using c49
                  have c49e0 : (a0_5 == 0 && ((a0_6 == 0 && (a0_7 == 0)) && ((a0_8 == 0 && (a0_9 == 0)) && ((a0_10 == 0 && (a0_11 == 0)) && (a0_12.toList.isEmpty && (a0_13.toList.isEmpty)))))) = false := by simpa only [show ∀ l_ : List UInt8, (l_ == ([] : List UInt8)) = l_.isEmpty from fun l_ => by cases l_ <;> rfl] using c49b0
                  (try (have c49b1 : decide (a0_5 = 0 && ((a0_6 == 0 && (a0_7 == 0)) && ((a0_8 == 0 && (a0_9 == 0)) && ((a0_10 == 0 && (a0_11 == 0)) && (a0_12.toList == ([] : List UInt8) && (a0_13.toList == ([] : List UInt8))))))) = false := by simpa using c49))
                  (try (have c49b2 : (a0_5 == 0 && ((a0_6 == 0 && (a0_7 == 0)) && ((a0_8 == 0 && (a0_9 == 0)) && ((a0_10 == 0 && (a0_11 == 0)) && (a0_12.toList == ([] : List UInt8) && (a0_13.toList == ([] : List UInt8))))))) = false := by simpa using c49))
                  (try (have c49b3 : ¬ (a0_5 = 0 && ((a0_6 == 0 && (a0_7 == 0)) && ((a0_8 == 0 && (a0_9 == 0)) && ((a0_10 == 0 && (a0_11 == 0)) && (a0_12.toList == ([] : List UInt8) && (a0_13.toList == ([] : List UInt8))))))) := by simpa using c49))
                  clear c49; obtain rfl := Option.some.inj H; have hcz59_0 : wc.cell? ⟨gb119, 0, none⟩ = some (.int .i64 a0_0) := (blk_cell BK119.out 0).trans rfl; have hcz59_1 : wc.cell? ⟨gb119, 1, none⟩ = some (.int .i64 a0_1) := (blk_cell BK119.out 1).trans rfl; have hcz59_2 : wc.cell? ⟨gb119, 2, none⟩ = some (.int .i64 a0_2) := (blk_cell BK119.out 2).trans rfl; have hcz59_3 : wc.cell? ⟨gb119, 3, none⟩ = some (.int .i64 a0_3) := (blk_cell BK119.out 3).trans rfl; have hcz59_4 : wc.cell? ⟨gb119, 4, none⟩ = some (.string a0_4) := (blk_cell BK119.out 4).trans rfl; have hcz59_5 : wc.cell? ⟨gb119, 5, none⟩ = some (.int .i64 a0_5) := (blk_cell BK119.out 5).trans rfl; have hcz59_6 : wc.cell? ⟨gb119, 6, none⟩ = some (.int .i64 a0_6) := (blk_cell BK119.out 6).trans rfl; have hcz59_7 : wc.cell? ⟨gb119, 7, none⟩ = some (.int .i64 a0_7) := (blk_cell BK119.out 7).trans rfl; have hcz59_8 : wc.cell? ⟨gb119, 8, none⟩ = some (.int .i64 a0_8) := (blk_cell BK119.out 8).trans rfl; have hcz59_9 : wc.cell? ⟨gb119, 9, none⟩ = some (.int .i64 a0_9) := (blk_cell BK119.out 9).trans rfl; have hcz59_10 : wc.cell? ⟨gb119, 10, none⟩ = some (.int .i64 a0_10) := (blk_cell BK119.out 10).trans rfl; have hcz59_11 : wc.cell? ⟨gb119, 11, none⟩ = some (.int .i64 a0_11) := (blk_cell BK119.out 11).trans rfl; have hcz59_12 : wc.cell? ⟨gb119, 12, none⟩ = some (.string a0_12) := (blk_cell BK119.out 12).trans rfl; have hcz59_13 : wc.cell? ⟨gb119, 13, none⟩ = some (.string a0_13) := (blk_cell BK119.out 13).trans rfl; have hcz59_14 : wc.cell? ⟨gb119, 14, none⟩ = some (.int .i64 a0_14) := (blk_cell BK119.out 14).trans rfl; have hcz59_15 : wc.cell? ⟨gb119, 15, none⟩ = some (.slice A0_15 l0_15.length c0_15) := (blk_cell BK119.out 15).trans rfl; have hfz59_0 := blk_frozen BK119.out 0; have hfz59_1 := blk_frozen BK119.out 1; have hfz59_2 := blk_frozen BK119.out 2; have hfz59_3 := blk_frozen BK119.out 3; have hfz59_4 := blk_frozen BK119.out 4; have hfz59_5 := blk_frozen BK119.out 5; have hfz59_6 := blk_frozen BK119.out 6; have hfz59_7 := blk_frozen BK119.out 7; have hfz59_8 := blk_frozen BK119.out 8; have hfz59_9 := blk_frozen BK119.out 9; have hfz59_10 := blk_frozen BK119.out 10; have hfz59_11 := blk_frozen BK119.out 11; have hfz59_12 := blk_frozen BK119.out 12; have hfz59_13 := blk_frozen BK119.out 13; have hfz59_14 := blk_frozen BK119.out 14; have hfz59_15 := blk_frozen BK119.out 15; go_wp2; go_ret
                  exact ⟨ew_, by repeat (first | (with_reducible first | exact HB.out | apply below_alloc | apply pw_below_drewN | apply below_drew1 | refine below_set ?_ GE119.out) | exact HB.out)⟩
              · replace c48 := Bool.eq_false_iff.mpr c48; subst c48; have H1 : (some 1) = some r := by rw [if_neg (show ¬ (false = true) by decide)] at H; exact H
                clear H; have H := H1; clear H1; obtain rfl := Option.some.inj H; go_wp2; go_ret
                exact ⟨ew_, by repeat (first | (with_reducible first | exact HB.out | apply below_alloc | apply pw_below_drewN | apply below_drew1 | refine below_set ?_ GE119.out) | exact HB.out)⟩
            · replace c47 := Bool.eq_false_iff.mpr c47; subst c47; have H1 : (if a0_0 = 4 then (if x3_1 = true then (if (a0_5 == 0 && ((a0_6 == 0 && (a0_7 == 0)) && ((a0_8 == 0 && (a0_9 == 0)) && ((a0_10 == 0 && (a0_11 == 0)) && (a0_12.toList == ([] : List UInt8) && (a0_13.toList == ([] : List UInt8))))))) = true then (if a0_14 = 0 then ((wire_wraps.f kj43 l0_15).bind fun t128 => (if t128 = true then (some 0) else (some 1))) else (some 1)) else (some 1)) else (some 1)) else (some 1)) = some r := by rw [if_neg (show ¬ (false = true) by decide)] at H; exact H
              clear H; have H := H1; clear H1; by_cases c60 : a0_0 = 4
              · rw [if_pos c60] at H; have c60b0 : (a0_0 == 4) = true := beq_iff_eq.mpr c60; have c60b1 : (a0_0 != 4) = false := bne_eq_false_iff_eq.mpr c60; clear c60; by_cases c61 : x3_1 = true
                · subst c61; have H1 : (if (a0_5 == 0 && ((a0_6 == 0 && (a0_7 == 0)) && ((a0_8 == 0 && (a0_9 == 0)) && ((a0_10 == 0 && (a0_11 == 0)) && (a0_12.toList == ([] : List UInt8) && (a0_13.toList == ([] : List UInt8))))))) = true then (if a0_14 = 0 then ((wire_wraps.f kj43 l0_15).bind fun t128 => (if t128 = true then (some 0) else (some 1))) else (some 1)) else (some 1)) = some r := by rw [if_pos rfl] at H; exact H
                  clear H; have H := H1; clear H1; by_cases c62 : (a0_5 == 0 && ((a0_6 == 0 && (a0_7 == 0)) && ((a0_8 == 0 && (a0_9 == 0)) && ((a0_10 == 0 && (a0_11 == 0)) && (a0_12.toList == ([] : List UInt8) && (a0_13.toList == ([] : List UInt8))))))) = true
                  · rw [if_pos c62] at H; have c62b0 : (a0_5 == 0 && ((a0_6 == 0 && (a0_7 == 0)) && ((a0_8 == 0 && (a0_9 == 0)) && ((a0_10 == 0 && (a0_11 == 0)) && (a0_12.toList == ([] : List UInt8) && (a0_13.toList == ([] : List UInt8))))))) = true := c62; have c62e0 : (a0_5 == 0 && ((a0_6 == 0 && (a0_7 == 0)) && ((a0_8 == 0 && (a0_9 == 0)) && ((a0_10 == 0 && (a0_11 == 0)) && (a0_12.toList.isEmpty && (a0_13.toList.isEmpty)))))) = true := by simpa only [show ∀ l_ : List UInt8, (l_ == ([] : List UInt8)) = l_.isEmpty from fun l_ => by cases l_ <;> rfl] using c62b0
                    (try (have c62b1 : decide (a0_5 = 0 && ((a0_6 == 0 && (a0_7 == 0)) && ((a0_8 == 0 && (a0_9 == 0)) && ((a0_10 == 0 && (a0_11 == 0)) && (a0_12.toList == ([] : List UInt8) && (a0_13.toList == ([] : List UInt8))))))) = true := by simpa using c62))
                    (try (have c62b2 : (a0_5 == 0 && ((a0_6 == 0 && (a0_7 == 0)) && ((a0_8 == 0 && (a0_9 == 0)) && ((a0_10 == 0 && (a0_11 == 0)) && (a0_12.toList == ([] : List UInt8) && (a0_13.toList == ([] : List UInt8))))))) = true := by simpa using c62))
                    clear c62; by_cases c63 : a0_14 = 0
                    · rw [if_pos c63] at H; have c63b0 : (a0_14 == 0) = true := beq_iff_eq.mpr c63; have c63b1 : (a0_14 != 0) = false := bne_eq_false_iff_eq.mpr c63; clear c63; replace H := Option.bind_eq_some_iff.mp H; obtain ⟨t128, A640, H⟩ := H; have A64 := Aside0.mk A640; clear A640; by_cases c65 : t128 = true
                      · subst c65; have H1 : (some 0) = some r := by rw [if_pos rfl] at H; exact H
                        clear H; have H := H1; clear H1; obtain rfl := Option.some.inj H; have hcz66_0 : wc.cell? ⟨gb119, 0, none⟩ = some (.int .i64 a0_0) := (blk_cell BK119.out 0).trans rfl; have hcz66_1 : wc.cell? ⟨gb119, 1, none⟩ = some (.int .i64 a0_1) := (blk_cell BK119.out 1).trans rfl; have hcz66_2 : wc.cell? ⟨gb119, 2, none⟩ = some (.int .i64 a0_2) := (blk_cell BK119.out 2).trans rfl; have hcz66_3 : wc.cell? ⟨gb119, 3, none⟩ = some (.int .i64 a0_3) := (blk_cell BK119.out 3).trans rfl; have hcz66_4 : wc.cell? ⟨gb119, 4, none⟩ = some (.string a0_4) := (blk_cell BK119.out 4).trans rfl; have hcz66_5 : wc.cell? ⟨gb119, 5, none⟩ = some (.int .i64 a0_5) := (blk_cell BK119.out 5).trans rfl; have hcz66_6 : wc.cell? ⟨gb119, 6, none⟩ = some (.int .i64 a0_6) := (blk_cell BK119.out 6).trans rfl; have hcz66_7 : wc.cell? ⟨gb119, 7, none⟩ = some (.int .i64 a0_7) := (blk_cell BK119.out 7).trans rfl; have hcz66_8 : wc.cell? ⟨gb119, 8, none⟩ = some (.int .i64 a0_8) := (blk_cell BK119.out 8).trans rfl; have hcz66_9 : wc.cell? ⟨gb119, 9, none⟩ = some (.int .i64 a0_9) := (blk_cell BK119.out 9).trans rfl; have hcz66_10 : wc.cell? ⟨gb119, 10, none⟩ = some (.int .i64 a0_10) := (blk_cell BK119.out 10).trans rfl; have hcz66_11 : wc.cell? ⟨gb119, 11, none⟩ = some (.int .i64 a0_11) := (blk_cell BK119.out 11).trans rfl; have hcz66_12 : wc.cell? ⟨gb119, 12, none⟩ = some (.string a0_12) := (blk_cell BK119.out 12).trans rfl; have hcz66_13 : wc.cell? ⟨gb119, 13, none⟩ = some (.string a0_13) := (blk_cell BK119.out 13).trans rfl; have hcz66_14 : wc.cell? ⟨gb119, 14, none⟩ = some (.int .i64 a0_14) := (blk_cell BK119.out 14).trans rfl; have hcz66_15 : wc.cell? ⟨gb119, 15, none⟩ = some (.slice A0_15 l0_15.length c0_15) := (blk_cell BK119.out 15).trans rfl; have hfz66_0 := blk_frozen BK119.out 0; have hfz66_1 := blk_frozen BK119.out 1; have hfz66_2 := blk_frozen BK119.out 2; have hfz66_3 := blk_frozen BK119.out 3; have hfz66_4 := blk_frozen BK119.out 4; have hfz66_5 := blk_frozen BK119.out 5; have hfz66_6 := blk_frozen BK119.out 6; have hfz66_7 := blk_frozen BK119.out 7; have hfz66_8 := blk_frozen BK119.out 8; have hfz66_9 := blk_frozen BK119.out 9; have hfz66_10 := blk_frozen BK119.out 10; have hfz66_11 := blk_frozen BK119.out 11; have hfz66_12 := blk_frozen BK119.out 12; have hfz66_13 := blk_frozen BK119.out 13; have hfz66_14 := blk_frozen BK119.out 14; have hfz66_15 := blk_frozen BK119.out 15; go_wp2_with (first | (go_at_call 77; (with_reducible refine (wire_wraps.calls kj43 _ _ l0_15 true _ ?side1 ?side2 A64.out).mono ?_); (case side1 => exact ca_ (Kd.C_below HR0_15.out HB.out)); (case side2 => exact HC0_15.out); rintro e w67 ⟨rfl, hb⟩; have n0_ := Aside0.mk (blk_below (g := gb119) (o := .cells #[.int .i64 a0_0, .int .i64 a0_1, .int .i64 a0_2, .int .i64 a0_3, .string a0_4, .int .i64 a0_5, .int .i64 a0_6, .int .i64 a0_7, .int .i64 a0_8, .int .i64 a0_9, .int .i64 a0_10, .int .i64 a0_11, .string a0_12, .string a0_13, .int .i64 a0_14, .slice A0_15 l0_15.length c0_15] 31 (0, 0)) (by (with_reducible repeat (first | refine blk_drewN ?_ _ | refine blk_drew ?_ | refine blk_alloc ?_ _)); exact BK119.out) hb); have n1_ := Aside0.mk (below_step (by repeat (first | (with_reducible first | exact HB.out | apply below_alloc | apply pw_below_drewN | apply below_drew1 | refine below_set ?_ GE119.out) | exact HB.out)) hb); clear BK119; clear HB; have BK119 := n0_; have HB := n1_; clear n0_ n1_))
                        go_ret
                        exact ⟨ew_, by repeat (first | (with_reducible first | exact HB.out | apply below_alloc | apply pw_below_drewN | apply below_drew1 | refine below_set ?_ GE119.out) | exact HB.out)⟩
                      · replace c65 := Bool.eq_false_iff.mpr c65; subst c65; have H1 : (some 1) = some r := by rw [if_neg (show ¬ (false = true) by decide)] at H; exact H
                        clear H; have H := H1; clear H1; obtain rfl := Option.some.inj H; have hcz68_0 : wc.cell? ⟨gb119, 0, none⟩ = some (.int .i64 a0_0) := (blk_cell BK119.out 0).trans rfl; have hcz68_1 : wc.cell? ⟨gb119, 1, none⟩ = some (.int .i64 a0_1) := (blk_cell BK119.out 1).trans rfl; have hcz68_2 : wc.cell? ⟨gb119, 2, none⟩ = some (.int .i64 a0_2) := (blk_cell BK119.out 2).trans rfl; have hcz68_3 : wc.cell? ⟨gb119, 3, none⟩ = some (.int .i64 a0_3) := (blk_cell BK119.out 3).trans rfl; have hcz68_4 : wc.cell? ⟨gb119, 4, none⟩ = some (.string a0_4) := (blk_cell BK119.out 4).trans rfl; have hcz68_5 : wc.cell? ⟨gb119, 5, none⟩ = some (.int .i64 a0_5) := (blk_cell BK119.out 5).trans rfl; have hcz68_6 : wc.cell? ⟨gb119, 6, none⟩ = some (.int .i64 a0_6) := (blk_cell BK119.out 6).trans rfl; have hcz68_7 : wc.cell? ⟨gb119, 7, none⟩ = some (.int .i64 a0_7) := (blk_cell BK119.out 7).trans rfl; have hcz68_8 : wc.cell? ⟨gb119, 8, none⟩ = some (.int .i64 a0_8) := (blk_cell BK119.out 8).trans rfl; have hcz68_9 : wc.cell? ⟨gb119, 9, none⟩ = some (.int .i64 a0_9) := (blk_cell BK119.out 9).trans rfl; have hcz68_10 : wc.cell? ⟨gb119, 10, none⟩ = some (.int .i64 a0_10) := (blk_cell BK119.out 10).trans rfl; have hcz68_11 : wc.cell? ⟨gb119, 11, none⟩ = some (.int .i64 a0_11) := (blk_cell BK119.out 11).trans rfl; have hcz68_12 : wc.cell? ⟨gb119, 12, none⟩ = some (.string a0_12) := (blk_cell BK119.out 12).trans rfl; have hcz68_13 : wc.cell? ⟨gb119, 13, none⟩ = some (.string a0_13) := (blk_cell BK119.out 13).trans rfl; have hcz68_14 : wc.cell? ⟨gb119, 14, none⟩ = some (.int .i64 a0_14) := (blk_cell BK119.out 14).trans rfl; have hcz68_15 : wc.cell? ⟨gb119, 15, none⟩ = some (.slice A0_15 l0_15.length c0_15) := (blk_cell BK119.out 15).trans rfl; have hfz68_0 := blk_frozen BK119.out 0; have hfz68_1 := blk_frozen BK119.out 1; have hfz68_2 := blk_frozen BK119.out 2; have hfz68_3 := blk_frozen BK119.out 3; have hfz68_4 := blk_frozen BK119.out 4; have hfz68_5 := blk_frozen BK119.out 5; have hfz68_6 := blk_frozen BK119.out 6; have hfz68_7 := blk_frozen BK119.out 7; have hfz68_8 := blk_frozen BK119.out 8; have hfz68_9 := blk_frozen BK119.out 9; have hfz68_10 := blk_frozen BK119.out 10; have hfz68_11 := blk_frozen BK119.out 11; have hfz68_12 := blk_frozen BK119.out 12; have hfz68_13 := blk_frozen BK119.out 13; have hfz68_14 := blk_frozen BK119.out 14; have hfz68_15 := blk_frozen BK119.out 15; go_wp2_with (first | (go_at_call 77; (with_reducible refine (wire_wraps.calls kj43 _ _ l0_15 false _ ?side1 ?side2 A64.out).mono ?_); (case side1 => exact ca_ (Kd.C_below HR0_15.out HB.out)); (case side2 => exact HC0_15.out); rintro e w69 ⟨rfl, hb⟩; have n0_ := Aside0.mk (blk_below (g := gb119) (o := .cells #[.int .i64 a0_0, .int .i64 a0_1, .int .i64 a0_2, .int .i64 a0_3, .string a0_4, .int .i64 a0_5, .int .i64 a0_6, .int .i64 a0_7, .int .i64 a0_8, .int .i64 a0_9, .int .i64 a0_10, .int .i64 a0_11, .string a0_12, .string a0_13, .int .i64 a0_14, .slice A0_15 l0_15.length c0_15] 31 (0, 0)) (by (with_reducible repeat (first | refine blk_drewN ?_ _ | refine blk_drew ?_ | refine blk_alloc ?_ _)); exact BK119.out) hb); have n1_ := Aside0.mk (below_step (by repeat (first | (with_reducible first | exact HB.out | apply below_alloc | apply pw_below_drewN | apply below_drew1 | refine below_set ?_ GE119.out) | exact HB.out)) hb); clear BK119; clear HB; have BK119 := n0_; have HB := n1_; clear n0_ n1_))
                        go_ret
                        exact ⟨ew_, by repeat (first | (with_reducible first | exact HB.out | apply below_alloc | apply pw_below_drewN | apply below_drew1 | refine below_set ?_ GE119.out) | exact HB.out)⟩
                    · rw [if_neg c63] at H; have c63b0 : (a0_14 == 0) = false := beq_eq_false_iff_ne.mpr c63; have c63b1 : (a0_14 != 0) = true := bne_iff_ne.mpr c63; obtain rfl := Option.some.inj H; have hcz70_0 : wc.cell? ⟨gb119, 0, none⟩ = some (.int .i64 a0_0) := (blk_cell BK119.out 0).trans rfl; have hcz70_1 : wc.cell? ⟨gb119, 1, none⟩ = some (.int .i64 a0_1) := (blk_cell BK119.out 1).trans rfl; have hcz70_2 : wc.cell? ⟨gb119, 2, none⟩ = some (.int .i64 a0_2) := (blk_cell BK119.out 2).trans rfl; have hcz70_3 : wc.cell? ⟨gb119, 3, none⟩ = some (.int .i64 a0_3) := (blk_cell BK119.out 3).trans rfl; have hcz70_4 : wc.cell? ⟨gb119, 4, none⟩ = some (.string a0_4) := (blk_cell BK119.out 4).trans rfl; have hcz70_5 : wc.cell? ⟨gb119, 5, none⟩ = some (.int .i64 a0_5) := (blk_cell BK119.out 5).trans rfl; have hcz70_6 : wc.cell? ⟨gb119, 6, none⟩ = some (.int .i64 a0_6) := (blk_cell BK119.out 6).trans rfl; have hcz70_7 : wc.cell? ⟨gb119, 7, none⟩ = some (.int .i64 a0_7) := (blk_cell BK119.out 7).trans rfl; have hcz70_8 : wc.cell? ⟨gb119, 8, none⟩ = some (.int .i64 a0_8) := (blk_cell BK119.out 8).trans rfl; have hcz70_9 : wc.cell? ⟨gb119, 9, none⟩ = some (.int .i64 a0_9) := (blk_cell BK119.out 9).trans rfl; have hcz70_10 : wc.cell? ⟨gb119, 10, none⟩ = some (.int .i64 a0_10) := (blk_cell BK119.out 10).trans rfl; have hcz70_11 : wc.cell? ⟨gb119, 11, none⟩ = some (.int .i64 a0_11) := (blk_cell BK119.out 11).trans rfl; have hcz70_12 : wc.cell? ⟨gb119, 12, none⟩ = some (.string a0_12) := (blk_cell BK119.out 12).trans rfl; have hcz70_13 : wc.cell? ⟨gb119, 13, none⟩ = some (.string a0_13) := (blk_cell BK119.out 13).trans rfl; have hcz70_14 : wc.cell? ⟨gb119, 14, none⟩ = some (.int .i64 a0_14) := (blk_cell BK119.out 14).trans rfl; have hcz70_15 : wc.cell? ⟨gb119, 15, none⟩ = some (.slice A0_15 l0_15.length c0_15) := (blk_cell BK119.out 15).trans rfl; have hfz70_0 := blk_frozen BK119.out 0; have hfz70_1 := blk_frozen BK119.out 1; have hfz70_2 := blk_frozen BK119.out 2; have hfz70_3 := blk_frozen BK119.out 3; have hfz70_4 := blk_frozen BK119.out 4; have hfz70_5 := blk_frozen BK119.out 5; have hfz70_6 := blk_frozen BK119.out 6; have hfz70_7 := blk_frozen BK119.out 7; have hfz70_8 := blk_frozen BK119.out 8; have hfz70_9 := blk_frozen BK119.out 9; have hfz70_10 := blk_frozen BK119.out 10; have hfz70_11 := blk_frozen BK119.out 11; have hfz70_12 := blk_frozen BK119.out 12; have hfz70_13 := blk_frozen BK119.out 13; have hfz70_14 := blk_frozen BK119.out 14; have hfz70_15 := blk_frozen BK119.out 15; go_wp2; go_ret
                      exact ⟨ew_, by repeat (first | (with_reducible first | exact HB.out | apply below_alloc | apply pw_below_drewN | apply below_drew1 | refine below_set ?_ GE119.out) | exact HB.out)⟩
                  · rw [if_neg c62] at H; have c62b0 : (a0_5 == 0 && ((a0_6 == 0 && (a0_7 == 0)) && ((a0_8 == 0 && (a0_9 == 0)) && ((a0_10 == 0 && (a0_11 == 0)) && (a0_12.toList == ([] : List UInt8) && (a0_13.toList == ([] : List UInt8))))))) = false := by simpa using c62
                    have c62e0 : (a0_5 == 0 && ((a0_6 == 0 && (a0_7 == 0)) && ((a0_8 == 0 && (a0_9 == 0)) && ((a0_10 == 0 && (a0_11 == 0)) && (a0_12.toList.isEmpty && (a0_13.toList.isEmpty)))))) = false := by simpa only [show ∀ l_ : List UInt8, (l_ == ([] : List UInt8)) = l_.isEmpty from fun l_ => by cases l_ <;> rfl] using c62b0
                    (try (have c62b1 : decide (a0_5 = 0 && ((a0_6 == 0 && (a0_7 == 0)) && ((a0_8 == 0 && (a0_9 == 0)) && ((a0_10 == 0 && (a0_11 == 0)) && (a0_12.toList == ([] : List UInt8) && (a0_13.toList == ([] : List UInt8))))))) = false := by simpa using c62))
                    (try (have c62b2 : (a0_5 == 0 && ((a0_6 == 0 && (a0_7 == 0)) && ((a0_8 == 0 && (a0_9 == 0)) && ((a0_10 == 0 && (a0_11 == 0)) && (a0_12.toList == ([] : List UInt8) && (a0_13.toList == ([] : List UInt8))))))) = false := by simpa using c62))
                    (try (have c62b3 : ¬ (a0_5 = 0 && ((a0_6 == 0 && (a0_7 == 0)) && ((a0_8 == 0 && (a0_9 == 0)) && ((a0_10 == 0 && (a0_11 == 0)) && (a0_12.toList == ([] : List UInt8) && (a0_13.toList == ([] : List UInt8))))))) := by simpa using c62))
                    clear c62; obtain rfl := Option.some.inj H; have hcz71_0 : wc.cell? ⟨gb119, 0, none⟩ = some (.int .i64 a0_0) := (blk_cell BK119.out 0).trans rfl; have hcz71_1 : wc.cell? ⟨gb119, 1, none⟩ = some (.int .i64 a0_1) := (blk_cell BK119.out 1).trans rfl; have hcz71_2 : wc.cell? ⟨gb119, 2, none⟩ = some (.int .i64 a0_2) := (blk_cell BK119.out 2).trans rfl; have hcz71_3 : wc.cell? ⟨gb119, 3, none⟩ = some (.int .i64 a0_3) := (blk_cell BK119.out 3).trans rfl; have hcz71_4 : wc.cell? ⟨gb119, 4, none⟩ = some (.string a0_4) := (blk_cell BK119.out 4).trans rfl; have hcz71_5 : wc.cell? ⟨gb119, 5, none⟩ = some (.int .i64 a0_5) := (blk_cell BK119.out 5).trans rfl; have hcz71_6 : wc.cell? ⟨gb119, 6, none⟩ = some (.int .i64 a0_6) := (blk_cell BK119.out 6).trans rfl; have hcz71_7 : wc.cell? ⟨gb119, 7, none⟩ = some (.int .i64 a0_7) := (blk_cell BK119.out 7).trans rfl; have hcz71_8 : wc.cell? ⟨gb119, 8, none⟩ = some (.int .i64 a0_8) := (blk_cell BK119.out 8).trans rfl; have hcz71_9 : wc.cell? ⟨gb119, 9, none⟩ = some (.int .i64 a0_9) := (blk_cell BK119.out 9).trans rfl; have hcz71_10 : wc.cell? ⟨gb119, 10, none⟩ = some (.int .i64 a0_10) := (blk_cell BK119.out 10).trans rfl; have hcz71_11 : wc.cell? ⟨gb119, 11, none⟩ = some (.int .i64 a0_11) := (blk_cell BK119.out 11).trans rfl; have hcz71_12 : wc.cell? ⟨gb119, 12, none⟩ = some (.string a0_12) := (blk_cell BK119.out 12).trans rfl; have hcz71_13 : wc.cell? ⟨gb119, 13, none⟩ = some (.string a0_13) := (blk_cell BK119.out 13).trans rfl; have hcz71_14 : wc.cell? ⟨gb119, 14, none⟩ = some (.int .i64 a0_14) := (blk_cell BK119.out 14).trans rfl; have hcz71_15 : wc.cell? ⟨gb119, 15, none⟩ = some (.slice A0_15 l0_15.length c0_15) := (blk_cell BK119.out 15).trans rfl; have hfz71_0 := blk_frozen BK119.out 0; have hfz71_1 := blk_frozen BK119.out 1; have hfz71_2 := blk_frozen BK119.out 2; have hfz71_3 := blk_frozen BK119.out 3; have hfz71_4 := blk_frozen BK119.out 4; have hfz71_5 := blk_frozen BK119.out 5; have hfz71_6 := blk_frozen BK119.out 6; have hfz71_7 := blk_frozen BK119.out 7; have hfz71_8 := blk_frozen BK119.out 8; have hfz71_9 := blk_frozen BK119.out 9; have hfz71_10 := blk_frozen BK119.out 10; have hfz71_11 := blk_frozen BK119.out 11; have hfz71_12 := blk_frozen BK119.out 12; have hfz71_13 := blk_frozen BK119.out 13; have hfz71_14 := blk_frozen BK119.out 14; have hfz71_15 := blk_frozen BK119.out 15; go_wp2; go_ret
                    exact ⟨ew_, by repeat (first | (with_reducible first | exact HB.out | apply below_alloc | apply pw_below_drewN | apply below_drew1 | refine below_set ?_ GE119.out) | exact HB.out)⟩
                · replace c61 := Bool.eq_false_iff.mpr c61; subst c61; have H1 : (some 1) = some r := by rw [if_neg (show ¬ (false = true) by decide)] at H; exact H
                  clear H; have H := H1; clear H1; obtain rfl := Option.some.inj H; go_wp2; go_ret
                  exact ⟨ew_, by repeat (first | (with_reducible first | exact HB.out | apply below_alloc | apply pw_below_drewN | apply below_drew1 | refine below_set ?_ GE119.out) | exact HB.out)⟩
              · rw [if_neg c60] at H; have c60b0 : (a0_0 == 4) = false := beq_eq_false_iff_ne.mpr c60; have c60b1 : (a0_0 != 4) = true := bne_iff_ne.mpr c60; obtain rfl := Option.some.inj H; go_wp2; go_ret
                exact ⟨ew_, by repeat (first | (with_reducible first | exact HB.out | apply below_alloc | apply pw_below_drewN | apply below_drew1 | refine below_set ?_ GE119.out) | exact HB.out)⟩
end Go.Proofs.YthemhfloablccaaDoor.Pr
end

section
namespace Go.Proofs.YthemhfloablccaaDoor.Pr
open Go.RowKit Go.Deep Go.Proofs.YthemhfloablccaaDoorW.PrintWords Go.Proofs.YthemhfloablccaaDoorW.PrintLast Go.Proofs.YthemhfloablccaaDoorW.PrintMore
set_option maxHeartbeats 4000000
abbrev Wrp := S80
def judgeM (E : Int) (l : List Mem) (O ep kind frm count who : Int) : Int × List Mem × Int × Bool × Int :=
  match l[(frm - 1).toNat]? with
  | none => (0, [], 0, false, 1)
  | some m =>
    if 1099511627775 ≤ m.f1 ∨ count ≠ m.f1 + 1 then (0, [], 0, false, 1)
    else if ep < 1 ∨ E < ep ∨ ep < E - 1 then (0, [], 0, false, 201)
    else ((doesM E (l.set (frm - 1).toNat { m with f1 := m.f1 + 1 }) O ep kind frm who).1, (doesM E (l.set (frm - 1).toNat { m with f1 := m.f1 + 1 }) O ep kind frm who).2.1, (doesM E (l.set (frm - 1).toNat { m with f1 := m.f1 + 1 }) O ep kind frm who).2.2.1, (doesM E (l.set (frm - 1).toNat { m with f1 := m.f1 + 1 }) O ep kind frm who).2.2.2, 0)
def goodJ (E : Int) (l : List Mem) (O kind frm who : Int) : Prop :=
 l.length = 6 ∧ 1 ≤ E ∧ E ≤ 1099511627775 ∧ 0 ≤ O ∧ O ≤ 500 ∧ 1 ≤ frm ∧ frm ≤ 6 ∧ 1 ≤ kind ∧ kind ≤ 4 ∧ (kind = 2 ∨ kind = 3 → 1 ≤ who ∧ who ≤ 6) ∧ ∀ m ∈ l, 0 ≤ m.f1 ∧ m.f1 ≤ 1099511627775
instance (E : Int) (l : List Mem) (O kind frm who : Int) : Decidable (goodJ E l O kind frm who) := by unfold goodJ; infer_instance
def group_Judge.f (k : Nat) (a0_0 : Int) (l0_1 : List Mem) (a0_2 a1 a2_0 a2_1 a2_2 a2_3 : Int) (a2_4 : ByteArray) (a2_5 a2_6 a2_7 a2_8 a2_9 a2_10 a2_11 : Int) (a2_12 a2_13 : ByteArray) (a2_14 : Int) (l2_15 : List Wrp) : Option (Int × List Mem × Int × Bool × Int) :=
 (group_Check.f k a0_0 l0_1 a0_2).bind fun c => if c = 0 then ((wire_Check.f k a2_0 a2_1 a2_2 a2_3 a2_4 a2_5 a2_6 a2_7 a2_8 a2_9 a2_10 a2_11 a2_12 a2_13 a2_14 l2_15).bind fun d => if d = 0 then (if goodJ a0_0 l0_1 a0_2 a2_0 a2_1 a2_14 then some (judgeM a0_0 l0_1 a0_2 a1 a2_0 a2_1 a2_2 a2_14) else none) else some (0, [], 0, false, 1)) else some (0, [], 0, false, 1)
def JAt (w : World) (gb rb ob : Nat) (gv rv : Array Value) (wx : World) : Prop :=
 Below w.heap.size w wx ∧ wx.heap[gb]? = some (.cells gv 24 (0, 0)) ∧ wx.heap[rb]? = some (.cells rv 31 (0, 0)) ∧ wx.heap[ob]? = some (.cells #[.int .i64 0, .slice none 0 0, .int .i64 0] 24 (0, 0)) ∧ w.heap.size ≤ gb ∧ w.heap.size ≤ ob ∧ gb ≠ rb ∧ gb ≠ ob ∧ rb ≠ ob
theorem JAt.below {w wx w' : World} {gb rb ob : Nat} {gv rv : Array Value} (h : JAt w gb rb ob gv rv wx) (hb : Below wx.heap.size wx w') : JAt w gb rb ob gv rv w' :=
 ⟨below_then h.1 h.1.size hb, blk_below h.2.1 hb, blk_below h.2.2.1 hb, blk_below h.2.2.2.1 hb, h.2.2.2.2⟩
theorem JAt.zero {w wx : World} {gb rb ob : Nat} {gv rv : Array Value} (h : JAt w gb rb ob gv rv wx) :
  (((wx.setCell ⟨ob, 0, none⟩ (.int .i64 0)).setCell ⟨ob, 1, none⟩ (.slice none 0 0)).setCell ⟨ob, 2, none⟩ (.int .i64 0)).heap[ob]? = some (.cells #[.int .i64 0, .slice none 0 0, .int .i64 0] 24 (0, 0)) ∧
  Below w.heap.size w (((wx.setCell ⟨ob, 0, none⟩ (.int .i64 0)).setCell ⟨ob, 1, none⟩ (.slice none 0 0)).setCell ⟨ob, 2, none⟩ (.int .i64 0)) :=
 ⟨blk_put (blk_put (blk_put h.2.2.2.1 0 _ rfl) 1 _ rfl) 2 _ rfl, below_set (below_set (below_set h.1 h.2.2.2.2.2.1) h.2.2.2.2.2.1) h.2.2.2.2.2.1⟩
theorem rec_cells {wx : World} {rb : Nat} {a2_0 a2_1 a2_2 a2_3 : Int} {a2_4 : ByteArray} {a2_5 a2_6 a2_7 a2_8 a2_9 a2_10 a2_11 : Int} {a2_12 a2_13 : ByteArray} {a2_14 : Int} {wv : Value} (h : wx.heap[rb]? = some (.cells (RecV a2_0 a2_1 a2_2 a2_3 a2_4 a2_5 a2_6 a2_7 a2_8 a2_9 a2_10 a2_11 a2_12 a2_13 a2_14 wv) 31 (0, 0))) :
  wx.cell? ⟨rb, 0, none⟩ = some (.int .i64 a2_0) ∧ wx.cell? ⟨rb, 1, none⟩ = some (.int .i64 a2_1) ∧ wx.cell? ⟨rb, 2, none⟩ = some (.int .i64 a2_2) ∧ wx.cell? ⟨rb, 3, none⟩ = some (.int .i64 a2_3) ∧ wx.cell? ⟨rb, 4, none⟩ = some (.string a2_4) ∧ wx.cell? ⟨rb, 5, none⟩ = some (.int .i64 a2_5) ∧ wx.cell? ⟨rb, 6, none⟩ = some (.int .i64 a2_6) ∧ wx.cell? ⟨rb, 7, none⟩ = some (.int .i64 a2_7) ∧ wx.cell? ⟨rb, 8, none⟩ = some (.int .i64 a2_8) ∧ wx.cell? ⟨rb, 9, none⟩ = some (.int .i64 a2_9) ∧ wx.cell? ⟨rb, 10, none⟩ = some (.int .i64 a2_10) ∧ wx.cell? ⟨rb, 11, none⟩ = some (.int .i64 a2_11) ∧ wx.cell? ⟨rb, 12, none⟩ = some (.string a2_12) ∧ wx.cell? ⟨rb, 13, none⟩ = some (.string a2_13) ∧ wx.cell? ⟨rb, 14, none⟩ = some (.int .i64 a2_14) ∧ wx.cell? ⟨rb, 15, none⟩ = some wv :=
 ⟨(blk_cell h 0).trans rfl, (blk_cell h 1).trans rfl, (blk_cell h 2).trans rfl, (blk_cell h 3).trans rfl, (blk_cell h 4).trans rfl, (blk_cell h 5).trans rfl, (blk_cell h 6).trans rfl, (blk_cell h 7).trans rfl, (blk_cell h 8).trans rfl, (blk_cell h 9).trans rfl, (blk_cell h 10).trans rfl, (blk_cell h 11).trans rfl, (blk_cell h 12).trans rfl, (blk_cell h 13).trans rfl, (blk_cell h 14).trans rfl, (blk_cell h 15).trans rfl⟩
theorem grp_cells {wx : World} {gb : Nat} {x z : Int} {y : Value} {t : TypeId} (h : wx.heap[gb]? = some (.cells #[.int .i64 x, y, .int .i64 z] t (0, 0))) :
  wx.cell? ⟨gb, 0, none⟩ = some (.int .i64 x) ∧ wx.cell? ⟨gb, 1, none⟩ = some y ∧ wx.cell? ⟨gb, 2, none⟩ = some (.int .i64 z) ∧ wx.frozen? ⟨gb, 0, none⟩ = false ∧ wx.frozen? ⟨gb, 1, none⟩ = false ∧ wx.frozen? ⟨gb, 2, none⟩ = false :=
 ⟨(blk_cell h 0).trans rfl, (blk_cell h 1).trans rfl, (blk_cell h 2).trans rfl, blk_frozen h 0, blk_frozen h 1, blk_frozen h 2⟩
set_option maxRecDepth 100000 in
theorem group_Judge.calls (k : Nat) (a0_0 : Int) (A0_1 : Option Addr) (c0_1 : Nat) (l0_1 : List Mem) (a0_2 a1 a2_0 a2_1 a2_2 a2_3 : Int) (a2_4 : ByteArray) (a2_5 a2_6 a2_7 a2_8 a2_9 a2_10 a2_11 : Int) (a2_12 a2_13 : ByteArray) (a2_14 : Int) (A2_15 : Option Addr) (c2_15 : Nat) (l2_15 : List Wrp)
    (r1 : Int) (r2 : List Mem) (r3 : Int) (r4 : Bool) (r5 : Int) (w : World) (hr0_1 : Kd.C k46 w A0_1 l0_1.length l0_1) (hc0_1 : l0_1.length ≤ c0_1) (hr2_15 : Kd.C k80 w A2_15 l2_15.length l2_15) (hc2_15 : l2_15.length ≤ c2_15)
    (h : group_Judge.f k a0_0 l0_1 a0_2 a1 a2_0 a2_1 a2_2 a2_3 a2_4 a2_5 a2_6 a2_7 a2_8 a2_9 a2_10 a2_11 a2_12 a2_13 a2_14 l2_15 = some (r1, r2, r3, r4, r5)) :
    Calls Tryd.prog 18 #[.agg #[.int .i64 a0_0, .slice A0_1 l0_1.length c0_1, .int .i64 a0_2], .int .i64 a1, .agg #[.int .i64 a2_0, .int .i64 a2_1, .int .i64 a2_2, .int .i64 a2_3, .string a2_4, .int .i64 a2_5, .int .i64 a2_6, .int .i64 a2_7, .int .i64 a2_8, .int .i64 a2_9, .int .i64 a2_10, .int .i64 a2_11, .string a2_12, .string a2_13, .int .i64 a2_14, .slice A2_15 l2_15.length c2_15]] w fun e w' => ∃ v1_ : Value, e = .returned (.tuple #[.agg #[.int .i64 r1, v1_, .int .i64 r3], .bool r4, .int .i64 r5]) ∧ Kd.R k46 46 w' w.heap.size (fun _ => True) v1_ r2 ∧ Below w.heap.size w w' := by
  unfold group_Judge.f at h
  obtain ⟨c, hgc, h1⟩ := Option.bind_eq_some_iff.1 h
  have HGC := Aside0.mk (fun (W : World) (hb : Below w.heap.size w W) => group_Check.calls k a0_0 A0_1 c0_1 l0_1 a0_2 c W (Kd.C_below hr0_1 hb) hc0_1 hgc)
  have H := Aside0.mk h1
  have HWC := Aside0.mk (fun (d : Int) (hd : wire_Check.f k a2_0 a2_1 a2_2 a2_3 a2_4 a2_5 a2_6 a2_7 a2_8 a2_9 a2_10 a2_11 a2_12 a2_13 a2_14 l2_15 = some d) (W : World) (hb : Below w.heap.size w W) => wire_Check.calls k a2_0 a2_1 a2_2 a2_3 a2_4 a2_5 a2_6 a2_7 a2_8 a2_9 a2_10 a2_11 a2_12 a2_13 a2_14 A2_15 c2_15 l2_15 d W (Kd.C_below hr2_15 hb) hc2_15 hd)
  have HR0 := Aside0.mk hr0_1
  have HCC := Aside0.mk hc0_1
  clear h h1 hgc hr0_1 hr2_15 hc2_15 hc0_1
  have hu1 := Tryd.underlying24
  have hu2 := Tryd.underlying31
  go_enter Tryd.func18, Tryd.ntmps18
  go_upto_region 1 with (first | ((with_reducible refine gate_dst (N := 3) rfl ?_); (try (refine gate_guard (by rfl) ?_; dsimp only)); refine box_event ?hg (N := 3) ?hd (cs := #[.int .i64 a0_0, .slice A0_1 l0_1.length c0_1, .int .i64 a0_2]) (t := 24) ?hr ?_; (case hd => rfl); (case hg => rfl); (case hr => first | (go_simp; done) | (go_simp; rfl)); intro gb hg w1 hbox hb; have HB1 := Aside0.mk (below_step (Below.refl w.heap.size w) hb); have G1 := Aside0.mk hbox; have L1 := Aside0.mk (show w.heap.size ≤ gb by rw [hg]; exact Nat.le_refl _); clear hb hbox hg) | ((with_reducible refine gate_dst (N := 5) rfl ?_); (try (refine gate_guard (by rfl) ?_; dsimp only)); refine box_event ?hg (N := 5) ?hd (cs := (RecV a2_0 a2_1 a2_2 a2_3 a2_4 a2_5 a2_6 a2_7 a2_8 a2_9 a2_10 a2_11 a2_12 a2_13 a2_14 (.slice A2_15 l2_15.length c2_15))) (t := 31) ?hr ?_; (case hd => rfl); (case hg => rfl); (case hr => first | (go_simp; done) | (go_simp; rfl)); intro rb hg w2 hbox hb; have HB2 := Aside0.mk (below_step HB1.out hb); have G2 := Aside0.mk (blk_below G1.out hb); have R2 := Aside0.mk hbox; have L2 := Aside0.mk (show w.heap.size ≤ rb by rw [hg]; exact HB1.out.size); have N12 := Aside0.mk (show gb ≠ rb by rw [hg]; exact Nat.ne_of_lt (blk_lt G1.out)); clear HB1 G1; clear hb hbox hg) | ((with_reducible refine gate_dst (N := 6) rfl ?_); (try (refine gate_guard (by rfl) ?_; dsimp only)); refine box_event ?hg (N := 6) ?hd (cs := #[.int .i64 0, .slice none 0 0, .int .i64 0]) (t := 24) ?hr ?_; (case hd => rfl); (case hg => rfl); (case hr => first | (go_simp; done) | (go_simp; rfl)); intro ob hg w3 hbox hb; have J0 := Aside0.mk (show JAt w gb rb ob #[.int .i64 a0_0, .slice A0_1 l0_1.length c0_1, .int .i64 a0_2] (RecV a2_0 a2_1 a2_2 a2_3 a2_4 a2_5 a2_6 a2_7 a2_8 a2_9 a2_10 a2_11 a2_12 a2_13 a2_14 (.slice A2_15 l2_15.length c2_15)) w3 from ⟨below_step HB2.out hb, blk_below G2.out hb, blk_below R2.out hb, hbox, L1.out, by rw [hg]; exact HB2.out.size, N12.out, by rw [hg]; exact Nat.ne_of_lt (blk_lt G2.out), by rw [hg]; exact Nat.ne_of_lt (blk_lt R2.out)⟩); clear HB2 G2 R2 L1 L2 N12; clear hb hbox hg))
  (try simp only [Act.put, List.setIfInBounds_toArray, List.set_cons_zero, List.set_cons_succ])
  by_cases hc : c = 0
  · subst hc
    have H1 := H.out
    rw [if_pos rfl] at H1
    obtain ⟨d, hd, hr⟩ := Option.bind_eq_some_iff.1 H1
    have HWD := Aside0.mk (HWC.out d hd)
    have HR := Aside0.mk hr
    clear H H1 hd hr HWC
    by_cases hd0 : d = 0
    · subst hd0
      have hr := HR.out
      rw [if_pos rfl] at hr
      by_cases hg : goodJ a0_0 l0_1 a0_2 a2_0 a2_1 a2_14
      · rw [if_pos hg] at hr
        have HJ := Aside0.mk (Option.some.inj hr)
        have HGD := Aside0.mk hg
        clear hr hg HR
        obtain ⟨b0, b1, b2, -, -, -⟩ := grp_cells J0.out.2.1
        go_wp2_with (fail)
        refine (HGC.out _ J0.out.1).mono ?_
        rintro e w4 ⟨rfl, hb⟩
        have J1 := Aside0.mk (J0.out.below hb)
        clear hb b0 b1 b2
        obtain ⟨y0, y1, y2, y3, y4, y5, y6, y7, y8, y9, y10, y11, y12, y13, y14, y15⟩ := rec_cells J1.out.2.2.1
        go_wp2_with (fail)
        refine (HWD.out _ J1.out.1).mono ?_
        rintro e w5 ⟨rfl, hb⟩
        have J2 := Aside0.mk (J1.out.below hb)
        clear hb y0 y1 y2 y3 y4 y5 y6 y7 y8 y9 y10 y11 y12 y13 y14 y15
        obtain ⟨ad, hA, -⟩ := HR0.out.2.2 (by have := HGD.out.1; omega)
        subst hA
        obtain ⟨b0, b1, b2, f0, f1, f2⟩ := grp_cells J2.out.2.1
        have HCL := Aside0.mk (clone_calls ad c0_1 l0_1 w5 (Kd.C_below HR0.out J2.out.1) (by have := HGD.out.1; omega) (by have := HGD.out.1; omega))
        go_wp2_with (fail)
        refine HCL.out.mono ?_
        rintro e w6 ⟨g, cap, rfl, hge, hM, hb⟩
        have GQ := Aside0.mk (show GrpAt w gb g cap ob (.cells #[.int .i64 0, .slice none 0 0, .int .i64 0] 24 (0, 0)) a0_0 l0_1 a0_2 (w6.setCell ⟨gb, 1, none⟩ (.slice (some ⟨g, 0, none⟩) l0_1.length cap)) from
          ⟨below_set (below_then J2.out.1 J2.out.1.size hb) J2.out.2.2.2.2.1, blk_put (blk_below J2.out.2.1 hb) 1 _ rfl, hM.far (fun q => by have := blk_lt J2.out.2.1; omega) 1 _, J2.out.2.2.2.2.1, Nat.le_trans J2.out.1.size hge, (fun q => by have := blk_lt J2.out.2.1; omega),
           blk_far (blk_below J2.out.2.2.2.1 hb) (fun q => J2.out.2.2.2.2.2.2.2.1 q.symm) _, (fun q => J2.out.2.2.2.2.2.2.2.1 q.symm), (fun q => by have := blk_lt J2.out.2.2.2.1; omega)⟩)
        have RQ := Aside0.mk (show (w6.setCell ⟨gb, 1, none⟩ (.slice (some ⟨g, 0, none⟩) l0_1.length cap)).heap[rb]? = some (.cells (RecV a2_0 a2_1 a2_2 a2_3 a2_4 a2_5 a2_6 a2_7 a2_8 a2_9 a2_10 a2_11 a2_12 a2_13 a2_14 (.slice A2_15 l2_15.length c2_15)) 31 (0, 0)) from blk_far (blk_below J2.out.2.2.1 hb) (fun q => J2.out.2.2.2.2.2.2.1 q.symm) _)
        have NGR := Aside0.mk (show rb ≠ g from fun q => by have := blk_lt J2.out.2.2.1; omega)
        have JQ := Aside0.mk (show JAt w gb rb ob #[.int .i64 a0_0, (.slice (some ⟨g, 0, none⟩) l0_1.length cap), .int .i64 a0_2] (RecV a2_0 a2_1 a2_2 a2_3 a2_4 a2_5 a2_6 a2_7 a2_8 a2_9 a2_10 a2_11 a2_12 a2_13 a2_14 (.slice A2_15 l2_15.length c2_15)) (w6.setCell ⟨gb, 1, none⟩ (.slice (some ⟨g, 0, none⟩) l0_1.length cap)) from ⟨GQ.out.1, GQ.out.2.1, RQ.out, GQ.out.2.2.2.2.2.2.1, J2.out.2.2.2.2⟩)
        obtain ⟨b0, b1, b2, f0, f1, f2⟩ := grp_cells (blk_below J2.out.2.1 hb)
        clear hge hM hb HCL
        go_upto_region 4 with (fail)
        clear b0 b1 b2 f0 f1 f2
        generalize w6.setCell ⟨gb, 1, none⟩ (.slice (some ⟨g, 0, none⟩) l0_1.length cap) = wq at GQ RQ JQ ⊢
        obtain ⟨k, hk⟩ : ∃ k : Nat, a2_1 = (k : Int) + 1 := ⟨(a2_1 - 1).toNat, by have := HGD.out; unfold goodJ at this; omega⟩
        have hlt : k < l0_1.length := by have := HGD.out; unfold goodJ at this; omega
        have hx := List.getElem?_eq_getElem hlt
        generalize l0_1[k] = m at hx
        have hmr : 0 ≤ m.f1 ∧ m.f1 ≤ 1099511627775 := HGD.out.2.2.2.2.2.2.2.2.2.2 m (List.mem_of_getElem? hx)
        have hJ := HJ.out
        unfold judgeM at hJ
        rw [show (a2_1 - 1).toNat = k by omega, hx] at hJ
        simp only at hJ
        have HJ2 := Aside0.mk hJ
        have HX := Aside0.mk hx
        have hr : wrap64 (a2_1 - 1) = (k : Int) := by have := HGD.out.1; unfold wrap64; omega
        have HMR := Aside0.mk hmr
        have e5 := eq_true hlt
        have e6 : wrap64 (m.f1 + 1) = m.f1 + 1 := by unfold wrap64; omega
        have E6 := Aside0.mk e6
        have e7 : IntKind.i64.wrap (m.f1 + 1) = m.f1 + 1 := by rw [IntKind.wrap_i64]; omega
        have HKK := Aside0.mk hk
        clear hJ hk hx hlt hmr HJ e6
        obtain ⟨b0, b1, b2, f0, f1, f2⟩ := grp_cells GQ.out.2.1
        obtain ⟨y0, y1, y2, y3, y4, y5, y6, y7, y8, y9, y10, y11, y12, y13, y14, y15⟩ := rec_cells RQ.out
        go_upto_region 5 with (fail)
        clear hr e5
        have mc := (GQ.out.2.2.1.cell k m HX.out).2.1
        have JQD := Aside0.mk (JQ.out.below (below_drew1 (Below.refl _ _)))
        have oc := JQD.out
        obtain ⟨o0, o1, o2, p0, p1, p2⟩ := grp_cells oc.2.2.2.1
        clear oc
        by_cases hA : 1099511627775 ≤ m.f1
        · have hJ := HJ2.out
          rw [if_pos (.inl hA)] at hJ
          cases hJ
          have q1 : decide (1099511627775 ≤ m.f1) = true := decide_eq_true hA
          clear hA e7
          refine start_ (n := 16) (S := fun w' => w'.cell? ⟨g, k * 3 + 1, none⟩ = some (.int .i64 m.f1) ∧ w'.cell? ⟨rb, 2, none⟩ = some (.int .i64 a2_2)) (ds := []) #[false, false, false, false, false, false, false, false, false, false, false, false, false, false, false, false] (by kernel_rfl) rfl rfl ⟨mc, y2⟩ (fun hHeld => ?_)
          refine pz_ 0 31 rfl rfl (by kernel_rfl) ?_
          refine pz_ 1 32 rfl rfl (by kernel_rfl) ?_
          refine pz_ 2 33 rfl rfl (by kernel_rfl) ?_
          refine take_ (i := 3) (N := some 34) (v := ?_) (a' := ?_) #[true, true, true, true, false, false, false, false, false, false, false, false, false, false, false, false] rfl rfl (by kernel_rfl) (fun _ _ _ h => h) (Or.inl ⟨by rfl, ?_⟩) hHeld ?_ ?_
          rotate_left
          · rintro w' ⟨s0, s1⟩
            go_simp
            with_reducible rfl
          rotate_left
          · simp only [Act.put, List.setIfInBounds_toArray, List.set_cons_zero, List.set_cons_succ, i64_w, i32_w]
            rfl
          refine pz_ 4 35 rfl rfl (by kernel_rfl) ?_
          refine pz_ 5 36 rfl rfl (by kernel_rfl) ?_
          refine pure_ (i := 6) (N := some 37) (v := undef) (a' := ?_) #[true, true, true, true, true, true, true, false, false, false, false, false, false, false, false, false] rfl rfl (by kernel_rfl) (fun _ _ _ h => h) (Or.inr ⟨by rfl, rfl⟩) ?_ ?_
          rotate_left
          · simp only [Act.put, List.setIfInBounds_toArray, List.set_cons_zero, List.set_cons_succ, i64_w, i32_w]
            rfl
          refine pure_ (i := 7) (N := some 38) (v := undef) (a' := ?_) #[true, true, true, true, true, true, true, true, false, false, false, false, false, false, false, false] rfl rfl (by kernel_rfl) (fun _ _ _ h => h) (Or.inr ⟨by rfl, rfl⟩) ?_ ?_
          rotate_left
          · simp only [Act.put, List.setIfInBounds_toArray, List.set_cons_zero, List.set_cons_succ, i64_w, i32_w]
            rfl
          refine pure_ (i := 8) (N := some 39) (v := undef) (a' := ?_) #[true, true, true, true, true, true, true, true, true, false, false, false, false, false, false, false] rfl rfl (by kernel_rfl) (fun _ _ _ h => h) (Or.inr ⟨by rfl, rfl⟩) ?_ ?_
          rotate_left
          · simp only [Act.put, List.setIfInBounds_toArray, List.set_cons_zero, List.set_cons_succ, i64_w, i32_w]
            rfl
          refine pure_ (i := 9) (N := some 40) (v := undef) (a' := ?_) #[true, true, true, true, true, true, true, true, true, true, false, false, false, false, false, false] rfl rfl (by kernel_rfl) (fun _ _ _ h => h) (Or.inr ⟨by rfl, rfl⟩) ?_ ?_
          rotate_left
          · simp only [Act.put, List.setIfInBounds_toArray, List.set_cons_zero, List.set_cons_succ, i64_w, i32_w]
            rfl
          refine pure_ (i := 10) (N := some 41) (v := undef) (a' := ?_) #[true, true, true, true, true, true, true, true, true, true, true, false, false, false, false, false] rfl rfl (by kernel_rfl) (fun _ _ _ h => h) (Or.inr ⟨by rfl, rfl⟩) ?_ ?_
          rotate_left
          · simp only [Act.put, List.setIfInBounds_toArray, List.set_cons_zero, List.set_cons_succ, i64_w, i32_w]
            rfl
          refine pure_ (i := 11) (N := some 42) (v := undef) (a' := ?_) #[true, true, true, true, true, true, true, true, true, true, true, true, false, false, false, false] rfl rfl (by kernel_rfl) (fun _ _ _ h => h) (Or.inr ⟨by rfl, rfl⟩) ?_ ?_
          rotate_left
          · simp only [Act.put, List.setIfInBounds_toArray, List.set_cons_zero, List.set_cons_succ, i64_w, i32_w]
            rfl
          refine pure_ (i := 12) (N := some 43) (v := undef) (a' := ?_) #[true, true, true, true, true, true, true, true, true, true, true, true, true, false, false, false] rfl rfl (by kernel_rfl) (fun _ _ _ h => h) (Or.inr ⟨by rfl, rfl⟩) ?_ ?_
          rotate_left
          · simp only [Act.put, List.setIfInBounds_toArray, List.set_cons_zero, List.set_cons_succ, i64_w, i32_w]
            rfl
          refine pure_ (i := 13) (N := some 44) (v := undef) (a' := ?_) #[true, true, true, true, true, true, true, true, true, true, true, true, true, true, false, false] rfl rfl (by kernel_rfl) (fun _ _ _ h => h) (Or.inr ⟨by rfl, rfl⟩) ?_ ?_
          rotate_left
          · simp only [Act.put, List.setIfInBounds_toArray, List.set_cons_zero, List.set_cons_succ, i64_w, i32_w]
            rfl
          refine pz_ 14 45 rfl rfl (by kernel_rfl) ?_
          refine pz_ 15 30 rfl rfl (by kernel_rfl) ?_
          refine done_ (by kernel_rfl) ?_
          generalize wq.drew = wd at JQD o0 o1 o2 p0 p1 p2 ⊢
          go_wp2_with (fail)
          refine bodyPost_ret (results_ctt rfl _ _ ob 24 #[.int .i64 0, .slice none 0 0, .int .i64 0] (0, 0) _ rfl JQD.out.zero.1 Tryd.underlying24 rfl (by kernel_rfl)) rfl ?_
          exact ⟨_, rfl, Kd.R_nil _ _ _ _ _, JQD.out.zero.2⟩
        · have q1 : decide (1099511627775 ≤ m.f1) = false := decide_eq_false hA
          by_cases hB : a2_2 = m.f1 + 1
          · have q2 : (a2_2 != m.f1 + 1) = false := by rw [hB]; exact bne_self_eq_false _
            have hJ := HJ2.out
            rw [if_neg (show ¬ (1099511627775 ≤ m.f1 ∨ a2_2 ≠ m.f1 + 1) by omega)] at hJ
            have HJ3 := Aside0.mk hJ
            have HAA := Aside0.mk hA
            clear hA hB hJ HJ2
            refine start_ (n := 16) (S := fun w' => w'.cell? ⟨g, k * 3 + 1, none⟩ = some (.int .i64 m.f1) ∧ w'.cell? ⟨rb, 2, none⟩ = some (.int .i64 a2_2)) (ds := []) #[false, false, false, false, false, false, false, false, false, false, false, false, false, false, false, false] (by kernel_rfl) rfl rfl ⟨mc, y2⟩ (fun hHeld => ?_)
            refine pz_ 0 31 rfl rfl (by kernel_rfl) ?_
            refine pz_ 1 32 rfl rfl (by kernel_rfl) ?_
            refine pz_ 2 33 rfl rfl (by kernel_rfl) ?_
            refine take_ (i := 3) (N := some 34) (v := ?_) (a' := ?_) #[true, true, true, true, false, false, false, false, false, false, false, false, false, false, false, false] rfl rfl (by kernel_rfl) (fun _ _ _ h => h) (Or.inl ⟨by rfl, ?_⟩) hHeld ?_ ?_
            rotate_left
            · rintro w' ⟨s0, s1⟩
              go_simp
              with_reducible rfl
            rotate_left
            · simp only [Act.put, List.setIfInBounds_toArray, List.set_cons_zero, List.set_cons_succ, i64_w, i32_w]
              rfl
            refine pz_ 4 35 rfl rfl (by kernel_rfl) ?_
            refine pz_ 5 36 rfl rfl (by kernel_rfl) ?_
            refine pz_ 6 37 rfl rfl (by kernel_rfl) ?_
            refine pz_ 8 39 rfl rfl (by kernel_rfl) ?_
            refine pz_ 9 40 rfl rfl (by kernel_rfl) ?_
            refine pz_ 10 41 rfl rfl (by kernel_rfl) ?_
            refine take_ (i := 7) (N := some 38) (v := ?_) (a' := ?_) #[true, true, true, true, true, true, true, true, true, true, true, false, false, false, false, false] rfl rfl (by kernel_rfl) (fun _ _ _ h => h) (Or.inl ⟨by rfl, ?_⟩) hHeld ?_ ?_
            rotate_left
            · rintro w' ⟨s0, s1⟩
              go_simp
              with_reducible rfl
            rotate_left
            · simp only [Act.put, List.setIfInBounds_toArray, List.set_cons_zero, List.set_cons_succ, i64_w, i32_w]
              rfl
            refine take_ (i := 11) (N := some 42) (v := ?_) (a' := ?_) #[true, true, true, true, true, true, true, true, true, true, true, true, false, false, false, false] rfl rfl (by kernel_rfl) (fun _ _ _ h => h) (Or.inl ⟨by rfl, ?_⟩) hHeld ?_ ?_
            rotate_left
            · rintro w' ⟨s0, s1⟩
              go_simp
              with_reducible rfl
            rotate_left
            · simp only [Act.put, List.setIfInBounds_toArray, List.set_cons_zero, List.set_cons_succ, i64_w, i32_w]
              rfl
            refine pz_ 12 43 rfl rfl (by kernel_rfl) ?_
            refine pz_ 13 44 rfl rfl (by kernel_rfl) ?_
            refine pz_ 14 45 rfl rfl (by kernel_rfl) ?_
            refine pz_ 15 30 rfl rfl (by kernel_rfl) ?_
            refine done_ (by kernel_rfl) ?_
            have GQD := Aside0.mk (GQ.out.below (below_drew1 (Below.refl _ _)))
            have RQD := Aside0.mk (show wq.drew.heap[rb]? = _ from RQ.out)
            clear mc y0 y1 y2 y3 y4 y5 y6 y7 y8 y9 y10 y11 y12 y13 y14 y15 b0 b1 b2 f0 f1 f2
            generalize wq.drew = wd at JQD GQD RQD o0 o1 o2 p0 p1 p2 ⊢
            clear GQ RQ JQ
            obtain ⟨b0, b1, b2, f0, f1, f2⟩ := grp_cells GQD.out.2.1
            have mc := (GQD.out.2.2.1.cell k m HX.out).2.1
            have w7 : wrap64 (a0_0 - 1) = a0_0 - 1 := by have := HGD.out; unfold goodJ at this; unfold wrap64; omega
            by_cases hE : a1 < 1 ∨ a0_0 < a1 ∨ a1 < a0_0 - 1
            · have hJ := HJ3.out
              rw [if_pos hE] at hJ
              cases hJ
              by_cases h1 : a1 < 1
              · have q3 : decide (a1 < 1) = true := decide_eq_true h1
                clear h1 hE e7 w7
                go_wp2_with (fail)
                refine bodyPost_ret (results_ctt rfl _ _ ob 24 #[.int .i64 0, .slice none 0 0, .int .i64 0] (0, 0) _ rfl JQD.out.zero.1 Tryd.underlying24 rfl (by kernel_rfl)) rfl ?_
                exact ⟨_, rfl, Kd.R_nil _ _ _ _ _, JQD.out.zero.2⟩
              · have q3 : decide (a1 < 1) = false := decide_eq_false h1
                by_cases h2 : a0_0 < a1
                · have q4 : decide (a0_0 < a1) = true := decide_eq_true h2
                  clear h1 h2 hE e7 w7
                  go_wp2_with (fail)
                  refine bodyPost_ret (results_ctt rfl _ _ ob 24 #[.int .i64 0, .slice none 0 0, .int .i64 0] (0, 0) _ rfl JQD.out.zero.1 Tryd.underlying24 rfl (by kernel_rfl)) rfl ?_
                  exact ⟨_, rfl, Kd.R_nil _ _ _ _ _, JQD.out.zero.2⟩
                · have q4 : decide (a0_0 < a1) = false := decide_eq_false h2
                  have q5 : decide (a1 < a0_0 - 1) = true := decide_eq_true (by omega)
                  clear h1 h2 hE e7
                  go_wp2_with (fail)
                  refine bodyPost_ret (results_ctt rfl _ _ ob 24 #[.int .i64 0, .slice none 0 0, .int .i64 0] (0, 0) _ rfl JQD.out.zero.1 Tryd.underlying24 rfl (by kernel_rfl)) rfl ?_
                  exact ⟨_, rfl, Kd.R_nil _ _ _ _ _, JQD.out.zero.2⟩
            · have hJ := HJ3.out
              rw [if_neg hE] at hJ
              have q3 : decide (a1 < 1) = false := decide_eq_false (fun q => hE (.inl q))
              have q4 : decide (a0_0 < a1) = false := decide_eq_false (fun q => hE (.inr (.inl q)))
              have q5 : decide (a1 < a0_0 - 1) = false := decide_eq_false (fun q => hE (.inr (.inr q)))
              have HJ4 := Aside0.mk hJ
              clear hE hJ HJ3
              go_upto_region 9 with (fail)
              clear q3 q4 q5 w7
              have e6 := E6.out
              obtain ⟨cs, hcs, _⟩ := GQD.out.2.2.1
              have fz := blk_frozen hcs (k * 3 + 1)
              clear hcs
              have GS := Aside0.mk (GQD.out.setM k 1 (by decide) m { m with f1 := m.f1 + 1 } (.int .i64 (m.f1 + 1)) HX.out rfl)
              have RS := Aside0.mk (show (wd.setCell ⟨g, k * 3 + 1, none⟩ (.int .i64 (m.f1 + 1))).heap[rb]? = some (.cells (RecV a2_0 a2_1 a2_2 a2_3 a2_4 a2_5 a2_6 a2_7 a2_8 a2_9 a2_10 a2_11 a2_12 a2_13 a2_14 (.slice A2_15 l2_15.length c2_15)) 31 (0, 0)) from blk_far RQD.out NGR.out _)
              go_upto_region 10 with (fail)
              clear e6 e7 mc fz b0 b1 b2 f0 f1 f2
              generalize wd.setCell ⟨g, k * 3 + 1, none⟩ (.int .i64 (m.f1 + 1)) = ws at GS RS ⊢
              obtain ⟨y0, y1, y2, y3, y4, y5, y6, y7, y8, y9, y10, y11, y12, y13, y14, y15⟩ := rec_cells RS.out
              have HDO := Aside0.mk (does_calls w gb g cap ob (.cells #[.int .i64 0, .slice none 0 0, .int .i64 0] 24 (0, 0)) a0_0 a0_2 a1 (l0_1.set k { m with f1 := m.f1 + 1 }) a2_0 a2_1 a2_2 a2_3 a2_4 a2_5 a2_6 a2_7 a2_8 a2_9 a2_10 a2_11 a2_12 a2_13 a2_14 (.slice A2_15 l2_15.length c2_15) ws GS.out (by rw [List.length_set]; exact HGD.out.1) ⟨HGD.out.2.1, HGD.out.2.2.1⟩ ⟨HGD.out.2.2.2.1, HGD.out.2.2.2.2.1⟩ HGD.out.2.2.2.2.2.2.2.2.2.1 ⟨HGD.out.2.2.2.2.2.2.2.1, HGD.out.2.2.2.2.2.2.2.2.1⟩)
              generalize doesM a0_0 (l0_1.set k { m with f1 := m.f1 + 1 }) a0_2 a1 a2_0 a2_1 a2_14 = D at HDO HJ4
              obtain ⟨D1, D2, D3, D4⟩ := D
              have hJ := HJ4.out
              simp only [Prod.mk.injEq] at hJ
              obtain ⟨rfl, rfl, rfl, rfl, rfl⟩ := hJ
              simp only at HDO
              go_wp2_with (fail)
              refine HDO.out.mono ?_
              rintro e wf ⟨rfl, hG⟩
              have GF := Aside0.mk hG
              clear hG y0 y1 y2 y3 y4 y5 y6 y7 y8 y9 y10 y11 y12 y13 y14 y15 o0 o1 o2 p0 p1 p2 HDO
              obtain ⟨b0, b1, b2, f0, f1, f2⟩ := grp_cells GF.out.2.1
              obtain ⟨o0, o1, o2, p0, p1, p2⟩ := grp_cells GF.out.2.2.2.2.2.2.1
              go_wp2_with (fail)
              refine bodyPost_ret (results_ctt rfl _ _ ob 24 #[.int .i64 D1, .slice (some ⟨g, 0, none⟩) D2.length cap, .int .i64 D3] (0, 0) _ rfl (blk_put (blk_put (blk_put GF.out.2.2.2.2.2.2.1 0 _ rfl) 1 _ rfl) 2 _ rfl) Tryd.underlying24 rfl (by kernel_rfl)) rfl ?_
              exact ⟨_, rfl, MemAt.R (((GF.out.2.2.1.far GF.out.2.2.2.2.2.2.2.2.symm 0 _).far GF.out.2.2.2.2.2.2.2.2.symm 1 _).far GF.out.2.2.2.2.2.2.2.2.symm 2 _) _ GF.out.2.2.2.2.1 _ trivial, below_set (below_set (below_set GF.out.1 JQD.out.2.2.2.2.2.1) JQD.out.2.2.2.2.2.1) JQD.out.2.2.2.2.2.1⟩
          · have q2 : (a2_2 != m.f1 + 1) = true := bne_iff_ne.2 hB
            have hJ := HJ2.out
            rw [if_pos (.inr hB)] at hJ
            cases hJ
            clear hA hB
            refine start_ (n := 16) (S := fun w' => w'.cell? ⟨g, k * 3 + 1, none⟩ = some (.int .i64 m.f1) ∧ w'.cell? ⟨rb, 2, none⟩ = some (.int .i64 a2_2)) (ds := []) #[false, false, false, false, false, false, false, false, false, false, false, false, false, false, false, false] (by kernel_rfl) rfl rfl ⟨mc, y2⟩ (fun hHeld => ?_)
            refine pz_ 0 31 rfl rfl (by kernel_rfl) ?_
            refine pz_ 1 32 rfl rfl (by kernel_rfl) ?_
            refine pz_ 2 33 rfl rfl (by kernel_rfl) ?_
            refine take_ (i := 3) (N := some 34) (v := ?_) (a' := ?_) #[true, true, true, true, false, false, false, false, false, false, false, false, false, false, false, false] rfl rfl (by kernel_rfl) (fun _ _ _ h => h) (Or.inl ⟨by rfl, ?_⟩) hHeld ?_ ?_
            rotate_left
            · rintro w' ⟨s0, s1⟩
              go_simp
              with_reducible rfl
            rotate_left
            · simp only [Act.put, List.setIfInBounds_toArray, List.set_cons_zero, List.set_cons_succ, i64_w, i32_w]
              rfl
            refine pz_ 4 35 rfl rfl (by kernel_rfl) ?_
            refine pz_ 5 36 rfl rfl (by kernel_rfl) ?_
            refine pz_ 6 37 rfl rfl (by kernel_rfl) ?_
            refine pz_ 8 39 rfl rfl (by kernel_rfl) ?_
            refine pz_ 9 40 rfl rfl (by kernel_rfl) ?_
            refine pz_ 10 41 rfl rfl (by kernel_rfl) ?_
            refine take_ (i := 7) (N := some 38) (v := ?_) (a' := ?_) #[true, true, true, true, true, true, true, true, true, true, true, false, false, false, false, false] rfl rfl (by kernel_rfl) (fun _ _ _ h => h) (Or.inl ⟨by rfl, ?_⟩) hHeld ?_ ?_
            rotate_left
            · rintro w' ⟨s0, s1⟩
              go_simp
              with_reducible rfl
            rotate_left
            · simp only [Act.put, List.setIfInBounds_toArray, List.set_cons_zero, List.set_cons_succ, i64_w, i32_w]
              rfl
            refine take_ (i := 11) (N := some 42) (v := ?_) (a' := ?_) #[true, true, true, true, true, true, true, true, true, true, true, true, false, false, false, false] rfl rfl (by kernel_rfl) (fun _ _ _ h => h) (Or.inl ⟨by rfl, ?_⟩) hHeld ?_ ?_
            rotate_left
            · rintro w' ⟨s0, s1⟩
              go_simp
              with_reducible rfl
            rotate_left
            · simp only [Act.put, List.setIfInBounds_toArray, List.set_cons_zero, List.set_cons_succ, i64_w, i32_w]
              rfl
            refine pz_ 12 43 rfl rfl (by kernel_rfl) ?_
            refine pz_ 13 44 rfl rfl (by kernel_rfl) ?_
            refine pz_ 14 45 rfl rfl (by kernel_rfl) ?_
            refine pz_ 15 30 rfl rfl (by kernel_rfl) ?_
            refine done_ (by kernel_rfl) ?_
            generalize wq.drew = wd at JQD o0 o1 o2 p0 p1 p2 ⊢
            go_wp2_with (fail)
            refine bodyPost_ret (results_ctt rfl _ _ ob 24 #[.int .i64 0, .slice none 0 0, .int .i64 0] (0, 0) _ rfl JQD.out.zero.1 Tryd.underlying24 rfl (by kernel_rfl)) rfl ?_
            exact ⟨_, rfl, Kd.R_nil _ _ _ _ _, JQD.out.zero.2⟩
      · rw [if_neg hg] at hr
        cases hr
    · have hr := HR.out
      rw [if_neg hd0] at hr
      cases hr
      have dn : (d != 0) = true := bne_iff_ne.2 hd0
      clear hd0 HR
      obtain ⟨b0, b1, b2, -, -, -⟩ := grp_cells J0.out.2.1
      go_wp2_with (fail)
      refine (HGC.out _ J0.out.1).mono ?_
      rintro e w4 ⟨rfl, hb⟩
      have J1 := Aside0.mk (J0.out.below hb)
      clear hb b0 b1 b2
      obtain ⟨y0, y1, y2, y3, y4, y5, y6, y7, y8, y9, y10, y11, y12, y13, y14, y15⟩ := rec_cells J1.out.2.2.1
      go_wp2_with (fail)
      refine (HWD.out _ J1.out.1).mono ?_
      rintro e w5 ⟨rfl, hb⟩
      have J2 := Aside0.mk (J1.out.below hb)
      clear hb y0 y1 y2 y3 y4 y5 y6 y7 y8 y9 y10 y11 y12 y13 y14 y15
      obtain ⟨o0, o1, o2, p0, p1, p2⟩ := grp_cells J2.out.2.2.2.1
      go_wp2_with (fail)
      refine bodyPost_ret (results_ctt rfl _ _ ob 24 #[.int .i64 0, .slice none 0 0, .int .i64 0] (0, 0) _ rfl J2.out.zero.1 Tryd.underlying24 rfl (by kernel_rfl)) rfl ?_
      exact ⟨_, rfl, Kd.R_nil _ _ _ _ _, J2.out.zero.2⟩
  · have hr := H.out
    rw [if_neg hc] at hr
    cases hr
    have dn : (c != 0) = true := bne_iff_ne.2 hc
    clear hc H HWC
    obtain ⟨b0, b1, b2, -, -, -⟩ := grp_cells J0.out.2.1
    go_wp2_with (fail)
    refine (HGC.out _ J0.out.1).mono ?_
    rintro e w4 ⟨rfl, hb⟩
    have J1 := Aside0.mk (J0.out.below hb)
    clear hb b0 b1 b2
    obtain ⟨o0, o1, o2, p0, p1, p2⟩ := grp_cells J1.out.2.2.2.1
    go_wp2_with (fail)
    refine bodyPost_ret (results_ctt rfl _ _ ob 24 #[.int .i64 0, .slice none 0 0, .int .i64 0] (0, 0) _ rfl J1.out.zero.1 Tryd.underlying24 rfl (by kernel_rfl)) rfl ?_
    exact ⟨_, rfl, Kd.R_nil _ _ _ _ _, J1.out.zero.2⟩
end Go.Proofs.YthemhfloablccaaDoor.Pr
end

section
namespace Go.Proofs.YthemhfloablccaaDoor.Pr
open Go.RowKit Go.Proofs.YthemhfloablccaaDoorW.PrintWords Go.Proofs.YthemhfloablccaaDoorW.PrintLast Go.Proofs.YthemhfloablccaaDoorW.PrintMore
attribute [local go_sem] max2_int min2_int max_two min_two max_three min_three max_four min_four
def group_New.l0 : Nat → Int → Int → List (S46) → Int → Option (Int × (List (S46)) × Int)
 | 0, _, _, _, _ => none
 | k + 1, x4, x135000, x135001, x135002 => if x4 < 6 then (if x135001.length < 5864062014805 then (group_New.l0 k (wrap64 (x4 + 1)) x135000 (x135001 ++ [(⟨wrap64 (x4 + 1), 0, ((wrap64 (x4 + 1)) == 1)⟩ : S46)]) x135002) else (none)) else (some (x135000, x135001, x135002))
def group_New.f (k : Nat)  : Option (Int × (List (S46)) × Int) := group_New.l0 k 0 1 ([] : List (S46)) 0
set_option maxHeartbeats 8000000 in
set_option maxRecDepth 100000 in
theorem group_New.calls (k : Nat)  (r1 : Int) (r2 : List (S46)) (r3 : Int) (w : World) (h : group_New.f k  = some (r1, r2, r3)) :
    Calls Tryd.prog 25 #[] w fun e w' => ∃ v1_ : Value, e = .returned (.agg #[.int .i64 r1, v1_, .int .i64 r3]) ∧ Kd.R k46 46 w' w.heap.size (fun _ => True) v1_ r2 ∧ Below w.heap.size w w' := by
  have hu24 := Tryd.underlying24; have hu46 := Tryd.underlying46; have HB := Aside0.mk (Below.refl w.heap.size w); have H : (group_New.l0 k 0 1 ([] : List (S46)) 0) = some (r1, r2, r3) := h; clear h; have H' := Aside0.mk H; clear H; go_enter Tryd.func25, Tryd.ntmps25
  go_wp2_with (first | ((with_reducible refine gate_dst (N := 0) rfl ?_); refine box_event ?hg (N := 0) ?hd (cs := #[.int .i64 0, .slice none 0 0, .int .i64 0]) (t := 24) ?hr ?_; (case hd => rfl); (case hg => rfl); (case hr => first | (go_simp; done) | (go_simp; rfl)); intro gb133 hg w1 hbox hb; have n0_ := Aside0.mk (below_step hb_ hb); have n1_ := Aside0.mk (hbox); have n2_ := Aside0.mk ((by rw [hg]; exact (below_size hb_) : w.heap.size ≤ gb133)); have n3_ := Aside0.mk ((by rw [hg]; exact (below_size hb_) : w.heap.size ≤ gb133)); clear HB; have HB := n0_; have BK133 := n1_; have GW133 := n2_; have GE133 := n3_; clear n0_ n1_ n2_ n3_; clear hb hbox hg) | ((with_reducible refine gate_dst (N := 1) rfl ?_); refine box_event ?hg (N := 1) ?hd (cs := #[.int .i64 0, .slice none 0 0, .int .i64 0]) (t := 24) ?hr ?_; (case hd => rfl); (case hg => rfl); (case hr => first | (go_simp; done) | (go_simp; rfl)); intro gb134 hg w2 hbox hb; have n0_ := Aside0.mk (blk_below (g := gb133) (o := .cells #[.int .i64 0, .slice none 0 0, .int .i64 0] 24 (0, 0)) (by (with_reducible repeat (first | refine blk_drewN ?_ _ | refine blk_drew ?_ | refine blk_alloc ?_ _)); exact BK133.out) hb); have n1_ := Aside0.mk (below_step (by repeat (first | (with_reducible first | exact HB.out | apply below_alloc | apply pw_below_drewN | apply below_drew1 | refine below_set ?_ GE133.out) | exact HB.out)) hb); have n2_ := Aside0.mk (hbox); have n3_ := Aside0.mk ((by rw [hg]; exact (below_size (by repeat (first | (with_reducible first | exact HB.out | apply below_alloc | apply pw_below_drewN | apply below_drew1 | refine below_set ?_ GE133.out) | exact HB.out))) : w.heap.size ≤ gb134)); have n4_ := Aside0.mk ((by rw [hg]; exact (below_size (by repeat (first | (with_reducible first | exact HB.out | apply below_alloc | apply pw_below_drewN | apply below_drew1 | refine below_set ?_ GE133.out) | exact HB.out))) : w.heap.size ≤ gb134)); have n5_ := Aside0.mk ((by rw [hg]; exact Nat.ne_of_lt (blk_lt (g := gb133) (o := .cells #[.int .i64 0, .slice none 0 0, .int .i64 0] 24 (0, 0)) (by (with_reducible repeat (first | refine blk_drewN ?_ _ | refine blk_drew ?_ | refine blk_alloc ?_ _)); exact BK133.out)) : gb133 ≠ gb134)); have n6_ := Aside0.mk ((by rw [hg]; exact Nat.ne_of_gt (blk_lt (g := gb133) (o := .cells #[.int .i64 0, .slice none 0 0, .int .i64 0] 24 (0, 0)) (by (with_reducible repeat (first | refine blk_drewN ?_ _ | refine blk_drew ?_ | refine blk_alloc ?_ _)); exact BK133.out)) : gb134 ≠ gb133)); clear BK133; clear HB; have BK133 := n0_; have HB := n1_; have BK134 := n2_; have GW134 := n3_; have GE134 := n4_; have NB133_134 := n5_; have NB134_133 := n6_; clear n0_ n1_ n2_ n3_ n4_ n5_ n6_; clear hb hbox hg; have hnb3 := NB134_133.out; have hnc3 := NB133_134.out; have hcz4_0 : w2.cell? ⟨gb134, 0, none⟩ = some (.int .i64 0) := (blk_cell BK134.out 0).trans rfl; have hcz4_1 : w2.cell? ⟨gb134, 1, none⟩ = some (.slice none 0 0) := (blk_cell BK134.out 1).trans rfl; have hcz4_2 : w2.cell? ⟨gb134, 2, none⟩ = some (.int .i64 0) := (blk_cell BK134.out 2).trans rfl; have hfz4_0 := blk_frozen BK134.out 0; have hfz4_1 := blk_frozen BK134.out 1; have hfz4_2 := blk_frozen BK134.out 2))
  go_loopg [4] k (fun kq v4 w' => ∃ (x4_1 : Int) (x135001_1 : List (S46)) (u135001 : Value), v4 = .int .i64 x4_1 ∧ Aside0 (group_New.l0 kq x4_1 1 x135001_1 0 = some (r1, r2, r3)) ∧ Aside0 (kq ≤ k) ∧ Aside0 (Kd.R k46 46 w' w.heap.size (fun _ => True) u135001 x135001_1) ∧ Aside0 (w'.heap[gb133]? = some (.cells #[.int .i64 0, (.slice none 0 0), .int .i64 0] 24 (0, 0))) ∧ Aside0 (w'.heap[gb134]? = some (.cells #[.int .i64 1, u135001, .int .i64 0] 24 (0, 0))) ∧ Aside0 (Below w.heap.size w w'))
  case atStart => exact ⟨(0), (([] : List (S46))), (.slice none 0 0), rz_, H', ⟨Nat.le_refl _⟩, ⟨by first | exact Kd.R_nil _ _ _ _ _ | exact Kd.N_nil _ _ _ _ _ | exact Kd.V_nil _ _ _ _ _ | exact Kd.Q_nil _ _ _ _ _ | exact Kd.S_nil _ _ _ _ _⟩, ⟨by (with_reducible repeat (first | refine blk_drewN ?_ _ | refine blk_drew ?_ | refine blk_alloc ?_ _)); refine blk_far ?_ NB133_134.out _; (with_reducible repeat (first | refine blk_drewN ?_ _ | refine blk_drew ?_ | refine blk_alloc ?_ _)); refine blk_far ?_ NB133_134.out _; (with_reducible repeat (first | refine blk_drewN ?_ _ | refine blk_drew ?_ | refine blk_alloc ?_ _)); refine blk_far ?_ NB133_134.out _; (with_reducible repeat (first | refine blk_drewN ?_ _ | refine blk_drew ?_ | refine blk_alloc ?_ _)); exact BK133.out⟩, ⟨by (with_reducible repeat (first | refine blk_drewN ?_ _ | refine blk_drew ?_ | refine blk_alloc ?_ _)); refine blk_put (cs := #[.int .i64 1, .slice none 0 0, .int .i64 0]) ?_ 2 _ rfl; (with_reducible repeat (first | refine blk_drewN ?_ _ | refine blk_drew ?_ | refine blk_alloc ?_ _)); refine blk_put (cs := #[.int .i64 1, .slice none 0 0, .int .i64 0]) ?_ 1 _ rfl; (with_reducible repeat (first | refine blk_drewN ?_ _ | refine blk_drew ?_ | refine blk_alloc ?_ _)); refine blk_put (cs := #[.int .i64 0, .slice none 0 0, .int .i64 0]) ?_ 0 _ rfl; (with_reducible repeat (first | refine blk_drewN ?_ _ | refine blk_drew ?_ | refine blk_alloc ?_ _)); exact BK134.out⟩, ⟨by repeat (first | (with_reducible first | exact HB.out | apply below_alloc | apply pw_below_drewN | apply below_drew1 | refine below_set ?_ GE133.out | refine below_set ?_ GE134.out) | exact HB.out)⟩⟩
  case round =>
    clear H'; obtain ⟨x4_1, x135001_1, u135001, rfl, HA, HK1, HO_135001, BK133, BK134, HB⟩ := hrel; cases gk with
    | zero => exact absurd HA.out (by simp [group_New.l0])
    | succ k1 =>
      have H := HA.out; clear HA; simp only [group_New.l0] at H; by_cases c5 : x4_1 < 6
      · rw [if_pos c5] at H; have c5b0 : decide (x4_1 < 6) = true := decide_eq_true c5; clear c5; by_cases c6 : x135001_1.length < 5864062014805
        · rw [if_pos c6] at H; have LMc6 := Aside0.mk c6; clear c6; obtain ⟨y135, hy135⟩ : ∃ y_ : List (S46), y_ = (x135001_1 ++ [(⟨wrap64 (x4_1 + 1), 0, ((wrap64 (x4_1 + 1)) == 1)⟩ : S46)]) := ⟨_, rfl⟩; replace H : (group_New.l0 k1 (wrap64 (x4_1 + 1)) 1 y135 0) = some (r1, r2, r3) := by first | (rw [hy135]; with_reducible exact H) | (have H2_ := (Option.bind_some _ _).symm.trans H; rw [hy135]; with_reducible exact H2_) | (have H2_ := (Option.bind_some _ _).symm.trans H; with_reducible exact H2_) | with_reducible exact H | (rw [hy135]; exact H) | exact H
          have Ny135 := Aside0.mk hy135; clear hy135; have H' := Aside0.mk H; clear H; have hnb7 := NB134_133.out; have hnc7 := NB133_134.out; have hcz8_0 : wr.cell? ⟨gb134, 0, none⟩ = some (.int .i64 1) := (blk_cell BK134.out 0).trans rfl; have hcz8_1 : wr.cell? ⟨gb134, 1, none⟩ = some (u135001) := (blk_cell BK134.out 1).trans rfl; have hcz8_2 : wr.cell? ⟨gb134, 2, none⟩ = some (.int .i64 0) := (blk_cell BK134.out 2).trans rfl; have hfz8_0 := blk_frozen BK134.out 0; have hfz8_1 := blk_frozen BK134.out 1; have hfz8_2 := blk_frozen BK134.out 2; go_wp2_with (first | ((with_reducible refine gate_builtin (b := .append) (xs := #[.tmp 8, .tmp 15]) rfl ?_); at_builtin; refine Kd.R_append k46 (w0 := w) w.heap.size rfl (.tmp 8) (.tmp 15) 22 46 (.agg #[(.int .i64 0), (.int .i64 0), (.bool false)]) 24 rfl Tryd.underlying22 info46 rfl (by decide) (by omega) u135001 x135001_1 (⟨wrap64 (x4_1 + 1), 0, ((wrap64 (x4_1 + 1)) == 1)⟩ : S46) [.int .i64 (wrap64 (x4_1 + 1)), .int .i64 0, .bool ((wrap64 (x4_1 + 1)) == 1)] (fun _ => True) (fun _ => False) rfl rfl ?aP (fun _ hk => hk.elim) ?aF ?aO ?aB ?aS ?aL ?_; (case aP => exact k46_mkM _ _ _ (⟨wrap64 (x4_1 + 1), 0, ((wrap64 (x4_1 + 1)) == 1)⟩ : S46)); (case aB => exact (by repeat (first | (with_reducible first | exact HB.out | apply below_alloc | apply pw_below_drewN | apply below_drew1 | refine below_set ?_ GE133.out | refine below_set ?_ GE134.out) | exact HB.out))); (case aF => exact (fun _ _ => trivial)); (case aO => exact (ra_ HO_135001.out)); (case aS => exact (below_size (by repeat (first | (with_reducible first | exact HB.out | apply below_alloc | apply pw_below_drewN | apply below_drew1 | refine below_set ?_ GE133.out | refine below_set ?_ GE134.out) | exact HB.out)))); (case aL => have := LMc6.out; omega); intro v136 w9 ho hb hg hat; rw [← Ny135.out] at ho; have n0_ := Aside0.mk (blk_grown (g := gb133) (o := .cells #[.int .i64 0, .slice none 0 0, .int .i64 0] 24 (0, 0)) (by (with_reducible repeat (first | refine blk_drewN ?_ _ | refine blk_drew ?_ | refine blk_alloc ?_ _)); exact BK133.out) hg (Kd.R_ne HO_135001.out BK133.out (by decide))); have n1_ := Aside0.mk (blk_grown (g := gb134) (o := .cells #[.int .i64 1, u135001, .int .i64 0] 24 (0, 0)) (by (with_reducible repeat (first | refine blk_drewN ?_ _ | refine blk_drew ?_ | refine blk_alloc ?_ _)); exact BK134.out) hg (Kd.R_ne HO_135001.out BK134.out (by decide))); have n2_ := Aside0.mk (hb); have n3_ := Aside0.mk (ho); clear BK133; clear BK134; clear HB; clear HO_135001; have BK133 := n0_; have BK134 := n1_; have HB := n2_; have HO137 := n3_; clear n0_ n1_ n2_ n3_; clear ho hb hg hat; obtain ⟨Ao10, co10, eo10⟩ := Kd.R_slice HO137.out; subst eo10; have hcz11_0 : w9.cell? ⟨gb134, 0, none⟩ = some (.int .i64 1) := (blk_cell BK134.out 0).trans rfl; have hcz11_1 : w9.cell? ⟨gb134, 1, none⟩ = some (u135001) := (blk_cell BK134.out 1).trans rfl; have hcz11_2 : w9.cell? ⟨gb134, 2, none⟩ = some (.int .i64 0) := (blk_cell BK134.out 2).trans rfl; have hfz11_0 := blk_frozen BK134.out 0; have hfz11_1 := blk_frozen BK134.out 1; have hfz11_2 := blk_frozen BK134.out 2))
          go_roundg k1
          case measure => have := HK1.out; omega
          case rel => exact ⟨(wrap64 (x4_1 + 1)), (y135), (.slice Ao10 y135.length co10), rz_, H', ⟨by have := HK1.out; omega⟩, ⟨by (with_reducible repeat (first | apply Kd.R_alloc | apply Kd.R_drewN | apply Kd.R_drew)); exact Kd.R_mono (Kd.R_far (p := ⟨gb134, 1, none⟩) (Kd.R_types HO137.out BK134.out (by decide)) (fun _ hk => hk.2) (.slice Ao10 y135.length co10)) (fun _ hk => trivial)⟩, ⟨by (with_reducible repeat (first | refine blk_drewN ?_ _ | refine blk_drew ?_ | refine blk_alloc ?_ _)); refine blk_far ?_ NB133_134.out _; (with_reducible repeat (first | refine blk_drewN ?_ _ | refine blk_drew ?_ | refine blk_alloc ?_ _)); exact BK133.out⟩, ⟨by (with_reducible repeat (first | refine blk_drewN ?_ _ | refine blk_drew ?_ | refine blk_alloc ?_ _)); refine blk_put (cs := #[.int .i64 1, u135001, .int .i64 0]) ?_ 1 _ rfl; (with_reducible repeat (first | refine blk_drewN ?_ _ | refine blk_drew ?_ | refine blk_alloc ?_ _)); exact BK134.out⟩, ⟨by repeat (first | (with_reducible first | exact HB.out | apply below_alloc | apply pw_below_drewN | apply below_drew1 | refine below_set ?_ GE133.out | refine below_set ?_ GE134.out) | exact HB.out)⟩⟩
        · rw [if_neg c6] at H; exact absurd H (by simp)
      · rw [if_neg c5] at H; have c5b0 : decide (x4_1 < 6) = false := decide_eq_false c5; clear c5; simp only [Option.some.injEq, Prod.mk.injEq] at H; obtain ⟨rfl, rfl, rfl⟩ := H; have hnb12 := NB134_133.out; have hnc12 := NB133_134.out; have hcz13_0 : wr.cell? ⟨gb134, 0, none⟩ = some (.int .i64 1) := (blk_cell BK134.out 0).trans rfl; have hcz13_1 : wr.cell? ⟨gb134, 1, none⟩ = some (u135001) := (blk_cell BK134.out 1).trans rfl; have hcz13_2 : wr.cell? ⟨gb134, 2, none⟩ = some (.int .i64 0) := (blk_cell BK134.out 2).trans rfl; have hfz13_0 := blk_frozen BK134.out 0; have hfz13_1 := blk_frozen BK134.out 1; have hfz13_2 := blk_frozen BK134.out 2; have hcz14_0 : wr.cell? ⟨gb133, 0, none⟩ = some (.int .i64 0) := (blk_cell BK133.out 0).trans rfl; have hcz14_1 : wr.cell? ⟨gb133, 1, none⟩ = some (.slice none 0 0) := (blk_cell BK133.out 1).trans rfl; have hcz14_2 : wr.cell? ⟨gb133, 2, none⟩ = some (.int .i64 0) := (blk_cell BK133.out 2).trans rfl; have hfz14_0 := blk_frozen BK133.out 0; have hfz14_1 := blk_frozen BK133.out 1; have hfz14_2 := blk_frozen BK133.out 2; obtain ⟨Ao15, co15, eo15⟩ := Kd.R_slice HO_135001.out; subst eo15; go_wp2; refine bodyPost_ret (results_cell_row rfl _ _ gb133 24 #[.int .i64 1, .slice Ao15 x135001_1.length co15, .int .i64 0] (0, 0) _ rfl (by (with_reducible repeat (first | refine blk_drewN ?_ _ | refine blk_drew ?_ | refine blk_alloc ?_ _)); refine blk_put (cs := #[.int .i64 1, .slice Ao15 x135001_1.length co15, .int .i64 0]) ?_ 2 _ rfl; (with_reducible repeat (first | refine blk_drewN ?_ _ | refine blk_drew ?_ | refine blk_alloc ?_ _)); refine blk_put (cs := #[.int .i64 1, .slice none 0 0, .int .i64 0]) ?_ 1 _ rfl; (with_reducible repeat (first | refine blk_drewN ?_ _ | refine blk_drew ?_ | refine blk_alloc ?_ _)); refine blk_put (cs := #[.int .i64 0, .slice none 0 0, .int .i64 0]) ?_ 0 _ rfl; (with_reducible repeat (first | refine blk_drewN ?_ _ | refine blk_drew ?_ | refine blk_alloc ?_ _)); exact BK133.out) Tryd.underlying24 rfl (by kernel_rfl)) rfl ?_; exact ⟨_, ew_, by (with_reducible repeat (first | apply Kd.R_alloc | apply Kd.R_drewN | apply Kd.R_drew)); exact Kd.R_mono (Kd.R_far (p := ⟨gb133, 2, none⟩) (Kd.R_far (p := ⟨gb133, 1, none⟩) (Kd.R_far (p := ⟨gb133, 0, none⟩) (Kd.R_types HO_135001.out BK133.out (by decide)) (fun _ hk => hk.2) (.int .i64 1)) (fun _ hk => hk.2) (.slice Ao15 x135001_1.length co15)) (fun _ hk => hk.2) (.int .i64 0)) (fun _ hk => trivial), by repeat (first | (with_reducible first | exact HB.out | apply below_alloc | apply pw_below_drewN | apply below_drew1 | refine below_set ?_ GE133.out | refine below_set ?_ GE134.out) | exact HB.out)⟩
end Go.Proofs.YthemhfloablccaaDoor.Pr
end

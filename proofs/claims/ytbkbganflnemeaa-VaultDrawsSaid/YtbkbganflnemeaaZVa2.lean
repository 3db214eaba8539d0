/- Joined texts (pack.py): what the statement's proof needs, part a2. No condition. -/
import Derived.Below
import Derived.Deep.Draws
import Derived.Deep.AppendLies
import Derived.Maps.AppendAt
import Derived.OwnWalk
import Derived.Laws.BytesArg
import Derived.Laws.MakeOwn
import Derived.Laws.OwnMore
import Derived.Deep.OwnRows
import Derived.Tactics
import Derived.Lib.ConvBytes
import Derived.Laws.Slices
import Derived.WalkKit
import Derived.KernelRfl
import Derived.RowKit3
import Derived.Deep.LoopGhost
import Derived.Deep.QuietTactic
import Derived.BigQuiet
import Derived.WideLaws
import Derived.Deep.DeepCutAuto
import Derived.Deep.CutBlock
import Derived.Deep.RegionHeld3
import Derived.Laws.Rows
import Derived.Lib.AppendStr
import Derived.ArgAppend
import Derived.Laws.IdiomCopy
import Derived.RowKit
import Derived.OrdersHeld
import Derived.Laws.BitsLemmas
import Derived.Laws.StructEq
import Derived.Shelf.Strings.Builder1
import Derived.Shelf.Strings.Builder2
import Derived.Shelf.Strings.OnBuilder
import Derived.Shelf.Strings.BuilderF
import Derived.Shelf.Strings.Prefix
import Derived.Shelf.Bits.Mul64
import Derived.Shelf.Strings.Repeat
import Derived.Test.YtbkbganflnemeaaProg
import Derived.Deep.RegionLaw
import Derived.StillTailTactics
import Derived.Deep.Light
import Derived.Deep.RegionHeldLaw
import Derived.Deep.DrawnRows
import Derived.IntWalk
import Derived.Deep.WholeRow
import Derived.Laws.CopyOwn
import Derived.Maps.OwnSet
import Derived.Tactics2
import Derived.Defers
import Derived.Recover
import Derived.Laws.Pointers
import Derived.Test.YtbkbganflnemeaaRows
import Derived.ProofKit
import Derived.OpenShut
import Derived.ShutString
import Derived.ChangeOld
import Derived.SizedLaws
import Derived.Test.YtbkbganflnemeaaZVa1
set_option linter.unusedVariables false
set_option linter.unusedSimpArgs false
section
namespace Go.Proofs.Ytbkbganflnemeaa.Pr
open Go.RowKit Go.Deep Go.Maps Go.Proofs.YtbkbganflnemeaaW.PrintWords Go.Proofs.YtbkbganflnemeaaW.PrintLast Go.Proofs.YtbkbganflnemeaaW.PrintMore
attribute [local go_sem] max2_int min2_int max_two min_two max_three min_three max_four min_four
set_option maxHeartbeats 8000000
def vText : ByteArray := ⟨#[116, 101, 120, 116]⟩
def vD (o : ByteArray) (key nonce : ByteArray) : DataW Unit := (DataW.map []).put (.string o.data.toList) (wayD key nonce ⟨#[98]⟩ vText)
theorem vD_at (o key nonce : ByteArray) : (vD o key nonce).atKey (.string o.data.toList) noWay = wayD key nonce ⟨#[98]⟩ vText := atKey_put_same ⟨[], rfl⟩ (by trivial) _ _
theorem vD_has (o key nonce : ByteArray) : Maps.has (vD o key nonce) (.string o.data.toList) = true := has_put_same ⟨[], rfl⟩ (by trivial) _
theorem vD_size (o key nonce : ByteArray) : Maps.size (vD o key nonce) = 1 := by
 unfold vD
 rw [size_put ⟨[], rfl, by simp⟩]
 rfl
theorem sealO_size (seed : ByteArray) (c : Nat) (text : ByteArray) : (sealO seed c text).size = text.size + 16 := by
 unfold sealO sealN
 rw [txt_size, List.length_take, drawL_length]
 omega
theorem openR_yes (key nonce b d : ByteArray) : openR true key nonce b key nonce b d = (d, 0) := if_pos ⟨rfl, rfl, rfl, rfl⟩
theorem openR_no (has : Bool) (key nonce b key' nonce' b' d : ByteArray) (h : b' ≠ b) : openR has key nonce b key' nonce' b' d = (⟨#[]⟩, 70) := if_neg (fun q => h q.2.2.2)
set_option maxRecDepth 100000 in
theorem vawake_calls (w : World) : Calls Try.prog 24 #[] w fun e w' => e = .returned (.bool true) ∧ Below w.heap.size w w' := by
 have HB := Aside0.mk (Below.refl w.heap.size w)
 have c1b0 := eq_true (show 32 ≤ 281474976710656 by decide)
 have c1b1 : decide (32 ≤ 281474976710656) = true := rfl
 have c2b0 := eq_true (show 12 ≤ 281474976710656 by decide)
 have c2b1 : decide (12 ≤ 281474976710656) = true := rfl
 obtain ⟨y106, hy106⟩ : ∃ y_ : List Int, y_ = (List.replicate 32 0) := ⟨_, rfl⟩
 have Ny106 := Aside0.mk hy106
 clear hy106
 obtain ⟨y109, hy109⟩ : ∃ y_ : List Int, y_ = (List.replicate 12 0) := ⟨_, rfl⟩
 have Ny109 := Aside0.mk hy109
 clear hy109
 go_enter Try.func24, Try.ntmps24
 try go_wp2
 replace HB := Aside0.mk (below_drew1 HB.out)
 refine start_ (n := 6) (S := fun w' => True) (ds := []) #[false, false, false, false, false, false] (by kernel_rfl) rfl rfl trivial (fun hHeld => ?_)
 generalize w.drew = w10 at HB hHeld ⊢
 refine join_ (σ := Value × Value) 1 #[true, true, true, true, true, false] (fun s_ => [(10, s_.1), (11, .string (strOfNums y106)), (12, s_.2), (13, .string (strOfNums y109)), (1, .string (strOfNums y106))]) (fun s_ w' => (Kd.R (Kd.int .u8) 5 w' w.heap.size (fun k_ => some k_ ≠ (s_.2 : Value).ownBlock) s_.1 y106) ∧ (Kd.R (Kd.int .u8) 5 w' w.heap.size (fun k_ => some k_ ≠ (s_.1 : Value).ownBlock) s_.2 y109) ∧ (Below w.heap.size w w')) ?_ ?_
 rotate_left
 ·intro hJ0_1_2_3
  refine join_ (σ := Value × Value) 2 #[true, true, true, false, true, false] (fun s_ => [(10, s_.1), (11, .string (strOfNums y106)), (12, s_.2), (1, .string (strOfNums y106))]) (fun s_ w' => (Kd.R (Kd.int .u8) 5 w' w.heap.size (fun k_ => some k_ ≠ (s_.2 : Value).ownBlock) s_.1 y106) ∧ (Kd.R (Kd.int .u8) 5 w' w.heap.size (fun k_ => some k_ ≠ (s_.1 : Value).ownBlock) s_.2 y109) ∧ (Below w.heap.size w w')) ?_ ?_
  rotate_left
  ·intro hJ0_1_2
   refine join_ (σ := Value × Value) 3 #[true, false, true, true, false, false] (fun s_ => [(10, s_.1), (12, s_.2), (13, .string (strOfNums y109))]) (fun s_ w' => (Kd.R (Kd.int .u8) 5 w' w.heap.size (fun k_ => some k_ ≠ (s_.2 : Value).ownBlock) s_.1 y106) ∧ (Kd.R (Kd.int .u8) 5 w' w.heap.size (fun k_ => some k_ ≠ (s_.1 : Value).ownBlock) s_.2 y109) ∧ (Below w.heap.size w w')) ?_ ?_
   rotate_left
   ·intro hJ0_2_3
    refine join_ (σ := Value) 3 #[true, true, false, false, true, false] (fun s_ => [(10, s_), (11, .string (strOfNums y106)), (1, .string (strOfNums y106))]) (fun s_ w' => (Kd.R (Kd.int .u8) 5 w' w.heap.size (fun _ => True) s_ y106) ∧ (Below w.heap.size w w')) ?_ ?_
    rotate_left
    ·intro hJ0_1
     refine join_ (σ := Value × Value) 4 #[true, false, true, false, false, false] (fun s_ => [(10, s_.1), (12, s_.2)]) (fun s_ w' => (Kd.R (Kd.int .u8) 5 w' w.heap.size (fun k_ => some k_ ≠ (s_.2 : Value).ownBlock) s_.1 y106) ∧ (Kd.R (Kd.int .u8) 5 w' w.heap.size (fun k_ => some k_ ≠ (s_.1 : Value).ownBlock) s_.2 y109) ∧ (Below w.heap.size w w')) ?_ ?_
     rotate_left
     ·intro hJ0_2
      refine join_ (σ := Value) 4 #[false, false, true, true, false, false] (fun s_ => [(12, s_), (13, .string (strOfNums y109))]) (fun s_ w' => (Kd.R (Kd.int .u8) 5 w' w.heap.size (fun _ => True) s_ y109) ∧ (Below w.heap.size w w')) ?_ ?_
      rotate_left
      ·intro hJ2_3
       refine join_ (σ := Value) 5 #[true, false, false, false, false, false] (fun s_ => [(10, s_)]) (fun s_ w' => (Kd.R (Kd.int .u8) 5 w' w.heap.size (fun _ => True) s_ y106) ∧ (Below w.heap.size w w')) ?_ ?_
       rotate_left
       ·intro hJ0
        refine join_ (σ := Value) 5 #[false, false, true, false, false, false] (fun s_ => [(12, s_)]) (fun s_ w' => (Kd.R (Kd.int .u8) 5 w' w.heap.size (fun _ => True) s_ y109) ∧ (Below w.heap.size w w')) ?_ ?_
        rotate_left
        ·intro hJ2
         refine two_ (i := 0) (j := 2) (Ni := some 10) (Nj := some 12) #[true, false, false, false, false, false] #[false, false, true, false, false, false] rfl rfl rfl rfl (by kernel_rfl) (by decide) (by decide) (fun K hK => ?_) (fun K hK => ?_)
         ·skip
          refine Kd.R_make_step (Kd.int .u8) _ 5 (by rfl) (N := 10) rfl 68 _ _ rfl 32 rfl rfl Try.underlying68 (.int .u8 0) 1 info5 rfl (by decide) (by omega) 0 (ok := fun _ => True) (okp := fun _ => True) rfl (fun _ hk => hk) trivial (by omega) (by omega) (Below.refl _ _) (Nat.le_refl _) ?_
          intro v107 w11 ho12 hb hg_ hnew_
          clear hg_ hnew_
          (first | rw [← Ny106.out] at ho12 | (simp only [Int.reduceToNat] at ho12; rw [← Ny106.out] at ho12))
          have n0_ := Aside0.mk (Kd.R_lower ho12 (below_size hb_))
          have n1_ := Aside0.mk (below_step hb_ hb)
          clear HB
          have HO108 := n0_
          have HB := n1_
          clear n0_ n1_
          clear hb ho12
          refine hK.out _ _ trivial (fun hHeld => ?_)
          clear hK K
          refine norm_ sa_ ?_
          exact norm_ pu_ (hJ0 (v107) _ ⟨(ra_ HO108.out), hb_⟩)
         ·skip
          refine Kd.R_make_step (Kd.int .u8) _ 5 (by rfl) (N := 12) rfl 68 _ _ rfl 12 rfl rfl Try.underlying68 (.int .u8 0) 1 info5 rfl (by decide) (by omega) 0 (ok := fun _ => True) (okp := fun _ => True) rfl (fun _ hk => hk) trivial (by omega) (by omega) (Below.refl _ _) (Nat.le_refl _) ?_
          intro v110 w11 ho12 hb hg_ hnew_
          clear hg_ hnew_
          (first | rw [← Ny109.out] at ho12 | (simp only [Int.reduceToNat] at ho12; rw [← Ny109.out] at ho12))
          have n0_ := Aside0.mk (Kd.R_lower ho12 (below_size hb_))
          have n1_ := Aside0.mk (below_step hb_ hb)
          clear HB
          have HO111 := n0_
          have HB := n1_
          clear n0_ n1_
          clear hb ho12
          refine hK.out _ _ trivial (fun hHeld => ?_)
          clear hK K
          refine norm_ sa_ ?_
          exact norm_ pu_ (hJ2 (v110) _ ⟨(ra_ HO111.out), hb_⟩)
        ·skip
         rintro v110 w13 ⟨h0_, h1_⟩
         have n0_ : Aside0 (Kd.R (Kd.int .u8) 5 w13 w.heap.size (fun _ => True) v110 y109) := ⟨h0_⟩
         have n1_ : Aside0 (Below w.heap.size w w13) := ⟨h1_⟩
         clear HB
         clear h0_ h1_
         have HO111 := n0_
         have HB := n1_
         clear n0_ n1_
         have hHeld := trivial
         refine norm_ sb_ ?_
         refine two_ (i := 0) (j := 3) (Ni := some 10) (Nj := some 13) #[true, false, true, false, false, false] #[false, false, true, true, false, false] rfl rfl rfl rfl (by kernel_rfl) (by decide) (by decide) (fun K hK => ?_) (fun K hK => ?_)
         ·skip
          refine Kd.R_make_step (Kd.int .u8) _ 5 (by rfl) (N := 10) rfl 68 _ _ rfl 32 rfl rfl Try.underlying68 (.int .u8 0) 1 info5 rfl (by decide) (by omega) 0 (ok := fun _ => True) (okp := fun _ => True) rfl (fun _ hk => hk) trivial (by omega) (by omega) (Below.refl _ _) (Nat.le_refl _) ?_
          intro v107 w14 ho15 hb hg_ hnew_
          clear hg_ hnew_
          (first | rw [← Ny106.out] at ho15 | (simp only [Int.reduceToNat] at ho15; rw [← Ny106.out] at ho15))
          have n0_ := Aside0.mk (Kd.R_elder' (ra_ HO111.out) (Kd.R_base ho15) hb)
          have n1_ := Aside0.mk (Kd.R_lower (Kd.R_new' ho15 (Kd.R_lt (ra_ HO111.out))) (below_size hb_))
          have n2_ := Aside0.mk (below_step hb_ hb)
          clear HO111
          clear HB
          have HO111 := n0_
          have HO108 := n1_
          have HB := n2_
          clear n0_ n1_ n2_
          clear hb ho15
          refine hK.out _ _ trivial (fun hHeld => ?_)
          clear hK K
          refine norm_ sa_ ?_
          exact norm_ pu_ (hJ0_2 (v107, v110) _ ⟨(by (with_reducible repeat (first | apply Kd.R_alloc | apply Kd.R_drewN | apply Kd.R_drew)); exact Kd.R_mono HO108.out (fun _ hk => hk.2)), (by (with_reducible repeat (first | apply Kd.R_alloc | apply Kd.R_drewN | apply Kd.R_drew)); exact Kd.R_mono HO111.out (fun _ hk => hk.2)), hb_⟩)
         ·skip
          have hcv14 := own_string (P := Try.prog) Try.underlying68 Try.underlying5 Try.underlying9 (Kd.own_of_R HO111.out)
          refine value_ (w1 := ?_) (v := ?_) (by rfl) rfl ?_ ?_
          rotate_left 2
          ·go_simp
           constructor
           ·rfl
           ·rfl
          clear hcv14
          refine hK.out _ _ trivial (fun hHeld => ?_)
          clear hK K
          refine norm_ sa_ ?_
          exact norm_ pu_ (hJ2_3 (v110) _ ⟨(ra_ HO111.out), hb_⟩)
       ·skip
        rintro v107 w13 ⟨h0_, h1_⟩
        have n0_ : Aside0 (Kd.R (Kd.int .u8) 5 w13 w.heap.size (fun _ => True) v107 y106) := ⟨h0_⟩
        have n1_ : Aside0 (Below w.heap.size w w13) := ⟨h1_⟩
        clear HB
        clear h0_ h1_
        have HO108 := n0_
        have HB := n1_
        clear n0_ n1_
        have hHeld := trivial
        refine norm_ sb_ ?_
        refine two_ (i := 1) (j := 2) (Ni := some 11) (Nj := some 12) #[true, true, false, false, false, false] #[true, false, true, false, false, false] rfl rfl rfl rfl (by kernel_rfl) (by decide) (by decide) (fun K hK => ?_) (fun K hK => ?_)
        ·skip
         have hcv14 := own_string (P := Try.prog) Try.underlying68 Try.underlying5 Try.underlying9 (Kd.own_of_R HO108.out)
         refine value_ (w1 := ?_) (v := ?_) (by rfl) rfl ?_ ?_
         rotate_left 2
         ·go_simp
          constructor
          ·rfl
          ·rfl
         clear hcv14
         refine hK.out _ _ trivial (fun hHeld => ?_)
         clear hK K
         refine norm_ sa_ ?_
         refine pz_ 4 1 rfl rfl (by kernel_rfl) ?_
         exact norm_ pu_ (hJ0_1 (v107) _ ⟨(ra_ HO108.out), hb_⟩)
        ·skip
         refine Kd.R_make_step (Kd.int .u8) _ 5 (by rfl) (N := 12) rfl 68 _ _ rfl 12 rfl rfl Try.underlying68 (.int .u8 0) 1 info5 rfl (by decide) (by omega) 0 (ok := fun _ => True) (okp := fun _ => True) rfl (fun _ hk => hk) trivial (by omega) (by omega) (Below.refl _ _) (Nat.le_refl _) ?_
         intro v110 w14 ho15 hb hg_ hnew_
         clear hg_ hnew_
         (first | rw [← Ny109.out] at ho15 | (simp only [Int.reduceToNat] at ho15; rw [← Ny109.out] at ho15))
         have n0_ := Aside0.mk (Kd.R_elder' (ra_ HO108.out) (Kd.R_base ho15) hb)
         have n1_ := Aside0.mk (Kd.R_lower (Kd.R_new' ho15 (Kd.R_lt (ra_ HO108.out))) (below_size hb_))
         have n2_ := Aside0.mk (below_step hb_ hb)
         clear HO108
         clear HB
         have HO108 := n0_
         have HO111 := n1_
         have HB := n2_
         clear n0_ n1_ n2_
         clear hb ho15
         refine hK.out _ _ trivial (fun hHeld => ?_)
         clear hK K
         refine norm_ sa_ ?_
         exact norm_ pu_ (hJ0_2 (v107, v110) _ ⟨(by (with_reducible repeat (first | apply Kd.R_alloc | apply Kd.R_drewN | apply Kd.R_drew)); exact Kd.R_mono HO108.out (fun _ hk => hk.2)), (by (with_reducible repeat (first | apply Kd.R_alloc | apply Kd.R_drewN | apply Kd.R_drew)); exact Kd.R_mono HO111.out (fun _ hk => hk.2)), hb_⟩)
      ·skip
       rintro v110 w14 ⟨h0_, h1_⟩
       have n0_ : Aside0 (Kd.R (Kd.int .u8) 5 w14 w.heap.size (fun _ => True) v110 y109) := ⟨h0_⟩
       have n1_ : Aside0 (Below w.heap.size w w14) := ⟨h1_⟩
       clear HB
       clear h0_ h1_
       have HO111 := n0_
       have HB := n1_
       clear n0_ n1_
       have hHeld := trivial
       refine norm_ sb_ ?_
       refine one_ (i := 0) (N := some 10) #[true, false, true, true, false, false] rfl rfl (by kernel_rfl) (by decide) (fun K hK => ?_)
       refine Kd.R_make_step (Kd.int .u8) _ 5 (by rfl) (N := 10) rfl 68 _ _ rfl 32 rfl rfl Try.underlying68 (.int .u8 0) 1 info5 rfl (by decide) (by omega) 0 (ok := fun _ => True) (okp := fun _ => True) rfl (fun _ hk => hk) trivial (by omega) (by omega) (Below.refl _ _) (Nat.le_refl _) ?_
       intro v107 w15 ho16 hb hg_ hnew_
       clear hg_ hnew_
       (first | rw [← Ny106.out] at ho16 | (simp only [Int.reduceToNat] at ho16; rw [← Ny106.out] at ho16))
       have n0_ := Aside0.mk (Kd.R_elder' (ra_ HO111.out) (Kd.R_base ho16) hb)
       have n1_ := Aside0.mk (Kd.R_lower (Kd.R_new' ho16 (Kd.R_lt (ra_ HO111.out))) (below_size hb_))
       have n2_ := Aside0.mk (below_step hb_ hb)
       clear HO111
       clear HB
       have HO111 := n0_
       have HO108 := n1_
       have HB := n2_
       clear n0_ n1_ n2_
       clear hb ho16
       refine hK.out _ _ trivial (fun hHeld => ?_)
       clear hK K
       refine norm_ sa_ ?_
       exact norm_ pu_ (hJ0_2_3 (v107, v110) _ ⟨(by (with_reducible repeat (first | apply Kd.R_alloc | apply Kd.R_drewN | apply Kd.R_drew)); exact Kd.R_mono HO108.out (fun _ hk => hk.2)), (by (with_reducible repeat (first | apply Kd.R_alloc | apply Kd.R_drewN | apply Kd.R_drew)); exact Kd.R_mono HO111.out (fun _ hk => hk.2)), hb_⟩)
     ·skip
      rintro ⟨v107, v110⟩ w15 ⟨h0_, h1_, h2_⟩
      have n0_ : Aside0 (Kd.R (Kd.int .u8) 5 w15 w.heap.size (fun k_ => some k_ ≠ (v110 : Value).ownBlock) v107 y106) := ⟨h0_⟩
      have n1_ : Aside0 (Kd.R (Kd.int .u8) 5 w15 w.heap.size (fun k_ => some k_ ≠ (v107 : Value).ownBlock) v110 y109) := ⟨h1_⟩
      have n2_ : Aside0 (Below w.heap.size w w15) := ⟨h2_⟩
      clear HB
      clear h0_ h1_ h2_
      have HO108 := n0_
      have HO111 := n1_
      have HB := n2_
      clear n0_ n1_ n2_
      have hHeld := trivial
      refine norm_ sb_ ?_
      refine two_ (i := 1) (j := 3) (Ni := some 11) (Nj := some 13) #[true, true, true, false, false, false] #[true, false, true, true, false, false] rfl rfl rfl rfl (by kernel_rfl) (by decide) (by decide) (fun K hK => ?_) (fun K hK => ?_)
      ·skip
       have hcv16 := own_string (P := Try.prog) Try.underlying68 Try.underlying5 Try.underlying9 (Kd.own_of_R HO108.out)
       refine value_ (w1 := ?_) (v := ?_) (by rfl) rfl ?_ ?_
       rotate_left 2
       ·go_simp
        constructor
        ·rfl
        ·rfl
       clear hcv16
       refine hK.out _ _ trivial (fun hHeld => ?_)
       clear hK K
       refine norm_ sa_ ?_
       refine pz_ 4 1 rfl rfl (by kernel_rfl) ?_
       exact norm_ pu_ (hJ0_1_2 (v107, v110) _ ⟨(ra_ HO108.out), (ra_ HO111.out), hb_⟩)
      ·skip
       have hcv16 := own_string (P := Try.prog) Try.underlying68 Try.underlying5 Try.underlying9 (Kd.own_of_R HO111.out)
       refine value_ (w1 := ?_) (v := ?_) (by rfl) rfl ?_ ?_
       rotate_left 2
       ·go_simp
        constructor
        ·rfl
        ·rfl
       clear hcv16
       refine hK.out _ _ trivial (fun hHeld => ?_)
       clear hK K
       refine norm_ sa_ ?_
       exact norm_ pu_ (hJ0_2_3 (v107, v110) _ ⟨(ra_ HO108.out), (ra_ HO111.out), hb_⟩)
    ·skip
     rintro v107 w14 ⟨h0_, h1_⟩
     have n0_ : Aside0 (Kd.R (Kd.int .u8) 5 w14 w.heap.size (fun _ => True) v107 y106) := ⟨h0_⟩
     have n1_ : Aside0 (Below w.heap.size w w14) := ⟨h1_⟩
     clear HB
     clear h0_ h1_
     have HO108 := n0_
     have HB := n1_
     clear n0_ n1_
     have hHeld := trivial
     refine norm_ sb_ ?_
     refine one_ (i := 2) (N := some 12) #[true, true, true, false, true, false] rfl rfl (by kernel_rfl) (by decide) (fun K hK => ?_)
     refine Kd.R_make_step (Kd.int .u8) _ 5 (by rfl) (N := 12) rfl 68 _ _ rfl 12 rfl rfl Try.underlying68 (.int .u8 0) 1 info5 rfl (by decide) (by omega) 0 (ok := fun _ => True) (okp := fun _ => True) rfl (fun _ hk => hk) trivial (by omega) (by omega) (Below.refl _ _) (Nat.le_refl _) ?_
     intro v110 w15 ho16 hb hg_ hnew_
     clear hg_ hnew_
     (first | rw [← Ny109.out] at ho16 | (simp only [Int.reduceToNat] at ho16; rw [← Ny109.out] at ho16))
     have n0_ := Aside0.mk (Kd.R_elder' (ra_ HO108.out) (Kd.R_base ho16) hb)
     have n1_ := Aside0.mk (Kd.R_lower (Kd.R_new' ho16 (Kd.R_lt (ra_ HO108.out))) (below_size hb_))
     have n2_ := Aside0.mk (below_step hb_ hb)
     clear HO108
     clear HB
     have HO108 := n0_
     have HO111 := n1_
     have HB := n2_
     clear n0_ n1_ n2_
     clear hb ho16
     refine hK.out _ _ trivial (fun hHeld => ?_)
     clear hK K
     refine norm_ sa_ ?_
     exact norm_ pu_ (hJ0_1_2 (v107, v110) _ ⟨(by (with_reducible repeat (first | apply Kd.R_alloc | apply Kd.R_drewN | apply Kd.R_drew)); exact Kd.R_mono HO108.out (fun _ hk => hk.2)), (by (with_reducible repeat (first | apply Kd.R_alloc | apply Kd.R_drewN | apply Kd.R_drew)); exact Kd.R_mono HO111.out (fun _ hk => hk.2)), hb_⟩)
   ·skip
    rintro ⟨v107, v110⟩ w16 ⟨h0_, h1_, h2_⟩
    have n0_ : Aside0 (Kd.R (Kd.int .u8) 5 w16 w.heap.size (fun k_ => some k_ ≠ (v110 : Value).ownBlock) v107 y106) := ⟨h0_⟩
    have n1_ : Aside0 (Kd.R (Kd.int .u8) 5 w16 w.heap.size (fun k_ => some k_ ≠ (v107 : Value).ownBlock) v110 y109) := ⟨h1_⟩
    have n2_ : Aside0 (Below w.heap.size w w16) := ⟨h2_⟩
    clear HB
    clear h0_ h1_ h2_
    have HO108 := n0_
    have HO111 := n1_
    have HB := n2_
    clear n0_ n1_ n2_
    have hHeld := trivial
    refine norm_ sb_ ?_
    refine one_ (i := 1) (N := some 11) #[true, true, true, true, false, false] rfl rfl (by kernel_rfl) (by decide) (fun K hK => ?_)
    have hcv17 := own_string (P := Try.prog) Try.underlying68 Try.underlying5 Try.underlying9 (Kd.own_of_R HO108.out)
    refine value_ (w1 := ?_) (v := ?_) (by rfl) rfl ?_ ?_
    rotate_left 2
    ·go_simp
     constructor
     ·rfl
     ·rfl
    clear hcv17
    refine hK.out _ _ trivial (fun hHeld => ?_)
    clear hK K
    refine norm_ sa_ ?_
    refine pz_ 4 1 rfl rfl (by kernel_rfl) ?_
    exact norm_ pu_ (hJ0_1_2_3 (v107, v110) _ ⟨(ra_ HO108.out), (ra_ HO111.out), hb_⟩)
  ·skip
   rintro ⟨v107, v110⟩ w16 ⟨h0_, h1_, h2_⟩
   have n0_ : Aside0 (Kd.R (Kd.int .u8) 5 w16 w.heap.size (fun k_ => some k_ ≠ (v110 : Value).ownBlock) v107 y106) := ⟨h0_⟩
   have n1_ : Aside0 (Kd.R (Kd.int .u8) 5 w16 w.heap.size (fun k_ => some k_ ≠ (v107 : Value).ownBlock) v110 y109) := ⟨h1_⟩
   have n2_ : Aside0 (Below w.heap.size w w16) := ⟨h2_⟩
   clear HB
   clear h0_ h1_ h2_
   have HO108 := n0_
   have HO111 := n1_
   have HB := n2_
   clear n0_ n1_ n2_
   have hHeld := trivial
   refine norm_ sb_ ?_
   refine one_ (i := 3) (N := some 13) #[true, true, true, true, true, false] rfl rfl (by kernel_rfl) (by decide) (fun K hK => ?_)
   have hcv17 := own_string (P := Try.prog) Try.underlying68 Try.underlying5 Try.underlying9 (Kd.own_of_R HO111.out)
   refine value_ (w1 := ?_) (v := ?_) (by rfl) rfl ?_ ?_
   rotate_left 2
   ·go_simp
    constructor
    ·rfl
    ·rfl
   clear hcv17
   refine hK.out _ _ trivial (fun hHeld => ?_)
   clear hK K
   refine norm_ sa_ ?_
   exact norm_ pu_ (hJ0_1_2_3 (v107, v110) _ ⟨(ra_ HO108.out), (ra_ HO111.out), hb_⟩)
 rintro ⟨v107, v110⟩ w17 ⟨h0_, h1_, h2_⟩
 have n0_ : Aside0 (Kd.R (Kd.int .u8) 5 w17 w.heap.size (fun k_ => some k_ ≠ (v110 : Value).ownBlock) v107 y106) := ⟨h0_⟩
 have n1_ : Aside0 (Kd.R (Kd.int .u8) 5 w17 w.heap.size (fun k_ => some k_ ≠ (v107 : Value).ownBlock) v110 y109) := ⟨h1_⟩
 have n2_ : Aside0 (Below w.heap.size w w17) := ⟨h2_⟩
 clear HB
 clear h0_ h1_ h2_
 have HO108 := n0_
 have HO111 := n1_
 have HB := n2_
 clear n0_ n1_ n2_
 have hHeld := trivial
 refine norm_ sb_ ?_
 refine pz_ 5 2 rfl rfl (by kernel_rfl) ?_
 refine done_ (by kernel_rfl) ?_
 have hK : (strOfNums y106).size = 32 := by rw [Ny106.out, noughts_str, txt_size, List.length_replicate]
 have hN : (strOfNums y109).size = 12 := by rw [Ny109.out, noughts_str, txt_size, List.length_replicate]
 clear HO108 HO111 hHeld c1b0 c1b1 c2b0 c2b1 Ny106 Ny109
 generalize strOfNums y106 = KK at hK ⊢
 generalize strOfNums y109 = NN at hN ⊢
 have HK := Aside0.mk hK
 have HN := Aside0.mk hN
 clear hK hN
 go_wp2_with (fail)
 refine (Ideal_calls ⟨#[115, 101, 101, 100]⟩ _).mono ?_
 rintro e w1 ⟨rfl, hI, hb⟩
 have HB1 := Aside0.mk (below_then HB.out HB.out.size hb)
 have HT1 := Aside0.mk HB.out.size
 have HI1 := Aside0.mk hI
 clear hI hb HB
 generalize w17.heap.size = mb at HI1 HT1 ⊢
 go_wp2_with (fail)
 refine (Seal_ideal (mb + 2) (mb + 1) mb ⟨#[115, 101, 101, 100]⟩ 0 0 (.map []) KK NN ⟨#[98]⟩ ⟨#[116, 101, 120, 116]⟩ _ (by decide) (by decide) (by decide) ⟨HK.out, HN.out, by decide, by decide⟩ HI1.out).mono ?_
 rintro e w2 ⟨rfl, hI, hf⟩
 have HB2 := Aside0.mk (HB1.out.trans (hf.below (by have := HT1.out; omega) HT1.out HB1.out.size))
 have HI2 : Aside0 (IdealAt (mb + 2) (mb + 1) mb ⟨#[115, 101, 101, 100]⟩ (0 + sealN ⟨#[116, 101, 120, 116]⟩) (0 + 1) (vD (sealO ⟨#[115, 101, 101, 100]⟩ 0 ⟨#[116, 101, 120, 116]⟩) KK NN) w2) := ⟨hI⟩
 have hO := sealO_size ⟨#[115, 101, 101, 100]⟩ 0 ⟨#[116, 101, 120, 116]⟩
 clear hI hf HI1 HB1
 generalize sealO ⟨#[115, 101, 101, 100]⟩ 0 ⟨#[116, 101, 120, 116]⟩ = OO at *
 have hO2 : OO.size = 20 := hO
 have HO := Aside0.mk hO2
 clear hO hO2
 have h1 : (⟨#[98]⟩ : ByteArray) ≠ ⟨#[99]⟩ := by decide
 have HNE := Aside0.mk h1
 clear h1
 go_wp2_with (fail)
 refine (Open_ideal (mb + 2) (mb + 1) mb _ _ _ _ KK NN ⟨#[98]⟩ OO KK NN ⟨#[98]⟩ vText _ (by rw [HO.out]; decide) ⟨HK.out, HN.out, by decide, by rw [HO.out]; decide⟩ HI2.out (vD_at _ _ _)).mono ?_
 rw [vD_has, openR_yes]
 rintro e w3 ⟨rfl, hb⟩
 have HB3 := Aside0.mk (below_then HB2.out HB2.out.size hb)
 have HI3 := Aside0.mk (HI2.out.below hb)
 clear hb HB2 HI2
 go_wp2_with (fail)
 refine (Open_ideal (mb + 2) (mb + 1) mb _ _ _ _ KK NN ⟨#[99]⟩ OO KK NN ⟨#[98]⟩ vText _ (by rw [HO.out]; decide) ⟨HK.out, HN.out, by decide, by rw [HO.out]; decide⟩ HI3.out (vD_at _ _ _)).mono ?_
 rw [openR_no _ _ _ _ _ _ _ _ HNE.out]
 rintro e w4 ⟨rfl, hb⟩
 have HB4 := Aside0.mk (below_then HB3.out HB3.out.size hb)
 have HI4 := Aside0.mk (HI3.out.below hb)
 clear hb HB3 HI3
 have d1 : ((OO.size : Int) == 20) = true := by rw [HO.out]; rfl
 have d2 : (vText.toList == ([116, 101, 120, 116] : List UInt8)) = true := by rw [ByteArray.toList_eq]; rfl
 go_wp2_with (fail)
 refine (Many_ideal (mb + 2) (mb + 1) mb _ _ _ _ _ HI4.out).mono ?_
 rw [vD_size]
 rintro e w5 ⟨rfl, rfl⟩
 go_wp2_with (fail)
 refine (Real_calls _).mono ?_
 rintro e w6 ⟨rfl, hR, hb⟩
 have HR := Aside0.mk hR
 have HB6 := Aside0.mk (below_then HB4.out HB4.out.size hb)
 clear hR hb
 go_wp2_with (fail)
 refine (Many_real _ _ HR.out).mono ?_
 rintro e w7 ⟨rfl, rfl⟩
 go_wp2_with (fail)
 go_ret
 exact ⟨rfl, HB6.out⟩
end Go.Proofs.Ytbkbganflnemeaa.Pr
end

section
namespace Go.Proofs.Ytbkbganflnemeaa.Pr
open Go.RowKit Go.Deep Go.Maps Go.Proofs.YtbkbganflnemeaaW.PrintWords Go.Proofs.YtbkbganflnemeaaW.PrintLast Go.Proofs.YtbkbganflnemeaaW.PrintMore
set_option maxHeartbeats 4000000
theorem catch_panicking (p : Addr) (x : ByteArray) (u : TypeId) (pv : Value) (older : List PanicEntry) (w : World) (hc : w.cell? p = some (.string x)) (hz : w.frozen? p = false) :
  CallsD Try.prog 68 #[.pointer (some p)] (.panicking ({ v := .iface u pv, recovered := false } :: older)) w fun e u' w' =>
   e = .returned (.tuple #[]) ∧ u' = .panicking ({ v := .iface u pv, recovered := true } :: older) ∧ w' = w.setCell p (.string ⟨#[]⟩) := by
 refine callsD_of_wpS Try.func68 rfl fun c₀ cs hu => ?_
 apply wpS_seq
 apply wpS_region
 simp [wpOpsS, go_sem, recoverD, hu, Try.ntmps68, Exit.thenS]
 refine wpS_cond (t := true) (by simp [Act.eval, Array.replicate]) ?_
 simp only [if_true]
 apply wpS_region
 simp [wpOpsS, go_sem, hc, hz, bodyPostS, results, Try.results68]
theorem catch_idle (p : Addr) (w : World) :
  CallsD Try.prog 68 #[.pointer (some p)] .returning w fun e u' w' => e = .returned (.tuple #[]) ∧ u' = .returning ∧ w' = w := by
 refine callsD_of_wpS Try.func68 rfl fun c₀ cs hu => ?_
 apply wpS_seq
 apply wpS_region
 simp [wpOpsS, go_sem, recoverD, hu, Try.ntmps68, Exit.thenS]
 refine wpS_cond (t := false) (by simp [Act.eval, Array.replicate]) ?_
 simp only [Bool.false_eq_true, if_false]
 refine wpS_of_wp (wp_skip ?_)
 cases c₀
 simp_all [bodyPostS, results, Try.results68]
theorem as_table2 (s_ : TypeId) (v : Value) (w : World) : (Instr.typeAssert (.iface 92 v) s_ 92 false).run Try.prog w = .ok v w := by
 unfold Instr.typeAssert
 simp [Sem.run_bind, run_underlying Try.underlying92, Result.andThen]
theorem as_fail (s_ : TypeId) (v : Value) (w : World) : ∃ pv o, (Instr.typeAssert (.iface 91 v) s_ 92 false).run Try.prog w = .halt (.panic (.iface Try.prog.rt.typeAssertionError pv)) (w.alloc o) := by
 unfold Instr.typeAssert
 simp [Sem.run_bind, run_underlying Try.underlying92, Result.andThen, runtimePanic, elemOf, newVar]
 exact ⟨_, _, rfl⟩
theorem as_fail_nil (s_ : TypeId) (w : World) : ∃ pv o, (Instr.typeAssert .nilIface s_ 92 false).run Try.prog w = .halt (.panic (.iface Try.prog.rt.typeAssertionError pv)) (w.alloc o) := by
 unfold Instr.typeAssert
 simp [Sem.run_bind, run_underlying Try.underlying92, Result.andThen, runtimePanic, elemOf, newVar]
 exact ⟨_, _, rfl⟩
theorem Drawn_bad (p : Option Addr) (n : Int) (h : n < 0 ∨ 32768 < n) (w : World) :
  Calls Try.prog 30 #[.pointer p, .int .i64 n] w fun e w' => e = .returned (.string ⟨#[]⟩) ∧ Below w.heap.size w w' := by
 have hmf : ∀ (fn : Fn) (first cap : Array Value) (w : World), (Instr.makeFunc fn first cap).run Try.prog w = .ok (.func fn first cap) w := fun _ _ _ _ => rfl
 by_cases h1 : n < 0
 ·have d1 : decide (n < 0) = true := decide_eq_true h1
  clear h h1
  go_enter_defers Try.func30, Try.ntmps30
  go_wp2
  refine leaves_cons (f := 68) (args := #[.pointer (some ⟨w.heap.size, 0, none⟩)]) (by simp) (by simp [go_sem]) ?_
  refine (catch_idle ⟨w.heap.size, 0, none⟩ _).mono ?_
  rintro e u' w'' ⟨rfl, rfl, rfl⟩
  simp [Leaves, settle, results, Try.results30, go_sem]
  exact below_alloc (Below.refl _ _) _
 ·have d1 : decide (n < 0) = false := decide_eq_false h1
  have d2 : decide (32768 < n) = true := decide_eq_true (by omega)
  clear h h1
  go_enter_defers Try.func30, Try.ntmps30
  go_wp2
  refine leaves_cons (f := 68) (args := #[.pointer (some ⟨w.heap.size, 0, none⟩)]) (by simp) (by simp [go_sem]) ?_
  refine (catch_idle ⟨w.heap.size, 0, none⟩ _).mono ?_
  rintro e u' w'' ⟨rfl, rfl, rfl⟩
  simp [Leaves, settle, results, Try.results30, go_sem]
  exact below_alloc (Below.refl _ _) _
theorem Drawn_ideal (g tb mb : Nat) (seed : ByteArray) (c k n : Nat) (D : DataW Unit) (w : World) (hs : seed.size ≤ 1000000) (hc : c ≤ 1000000) (hn : n ≤ 32768) (hI : IdealAt g tb mb seed c k D w) :
  Calls Try.prog 30 #[.pointer (some ⟨g, 0, none⟩), .int .i64 (n : Int)] w fun e w' => e = .returned (.string (txt ((drawL seed c ((n + 31) / 32)).take n))) ∧ IdealAt g tb mb seed (c + (n + 31) / 32) k D w' ∧ FrV tb mb w w' := by
 have hmf : ∀ (fn : Fn) (first cap : Array Value) (w : World), (Instr.makeFunc fn first cap).run Try.prog w = .ok (.func fn first cap) w := fun _ _ _ _ => rfl
 have HI := Aside0.mk hI
 have HI1 := Aside0.mk (hI.below (below_alloc (Below.refl _ _) (.cells #[.string ⟨#[]⟩] 9)))
 have c0 : (w.alloc (.cells #[.string ⟨#[]⟩] 9)).cell? ⟨g, 0, none⟩ = some (.iface 92 (.pointer (some ⟨tb, 0, none⟩))) := by rw [cell_of_row _ _ _ _ _ _ HI1.out.box]; rfl
 have d1 : decide ((n : Int) < 0) = false := decide_eq_false (by omega)
 have d2 : decide (32768 < (n : Int)) = false := decide_eq_false (by omega)
 have HS := Aside0.mk hs
 have HC := Aside0.mk hc
 have HN := Aside0.mk hn
 have ha := as_table2
 clear hI hs hc hn
 go_enter_defers Try.func30, Try.ntmps30
 go_wp2_with (go_at_call 63; refine (draw_calls seed HS.out tb mb c n _ (by have := HN.out; omega) HC.out HI1.out.tab).mono ?_; rintro e w3 ⟨rfl, hT3, hg3⟩; have HT3 := Aside0.mk hT3; have HG3 := Aside0.mk hg3; have HBX := Aside0.mk ((hg3.block w.heap.size (by simp) (by have h0 : tb < w.heap.size := blk_lt HI.out.tab; intro e; cases e; omega)).trans (heap_alloc_new w (.cells #[.string ⟨#[]⟩] 9))); have b0 : w3.cell? ⟨w.heap.size, 0, none⟩ = some (.string ⟨#[]⟩) := (by rw [cell_of_row _ _ _ _ _ _ HBX.out]; rfl); have bz := blk_thaw HBX.out 0; clear hT3 hg3)
 have HW := Aside0.mk (blk_put HBX.out 0 (.string (txt ((drawL seed c ((n + 31) / 32)).take n))) rfl)
 have HGW : Aside0 (FrV tb mb w (w3.setCell ⟨w.heap.size, 0, none⟩ (.string (txt ((drawL seed c ((n + 31) / 32)).take n))))) := ⟨by
  have h1 : FrV tb mb w w3 := (FrV.of_below (below_alloc (Below.refl _ _) _)).trans (FrV.tb HG3.out)
  refine ⟨h1.1, h1.2.1, h1.2.2.1, ?_, fun i hi h2 h3 => (Below.heap_setCell w3 ⟨w.heap.size, 0, none⟩ _ i (fun e => by have e2 : i = w.heap.size := e; omega)).trans (h1.2.2.2.2 i hi h2 h3)⟩
  exact Nat.le_trans h1.2.2.2.1 (grown_set w3 w.heap.size 0 _).size⟩
 have HTW : Aside0 (TabAt tb mb seed (c + (n + 31) / 32) (w3.setCell ⟨w.heap.size, 0, none⟩ (.string (txt ((drawL seed c ((n + 31) / 32)).take n))))) := ⟨(Below.heap_setCell w3 ⟨w.heap.size, 0, none⟩ _ tb (fun e => by have e2 : tb = w.heap.size := e; have h0 : tb < w.heap.size := blk_lt HI.out.tab; omega)).trans HT3.out⟩
 have HOW : Aside0 ((w3.setCell ⟨w.heap.size, 0, none⟩ (.string (txt ((drawL seed c ((n + 31) / 32)).take n)))).ownsMap Try.prog 9 wayElem mb k D) := ⟨(HI1.out.own.kept HG3.out (by simpa using HI.out.tb_mb.symm)).kept (grown_set w3 w.heap.size 0 _) (by have := HI.out.own.lt; intro e; cases e; omega)⟩
 have HXW : Aside0 ((w3.setCell ⟨w.heap.size, 0, none⟩ (.string (txt ((drawL seed c ((n + 31) / 32)).take n)))).heap[g]? = some (.cells #[.iface 92 (.pointer (some ⟨tb, 0, none⟩))] 43 (0, 0))) := ⟨(HGW.out.2.2.2.2 g (blk_lt HI.out.box) HI.out.g_tb HI.out.g_mb).trans HI.out.box⟩
 clear b0 bz HBX HG3 HT3
 generalize w3.setCell ⟨w.heap.size, 0, none⟩ (.string (txt ((drawL seed c ((n + 31) / 32)).take n))) = WW at *
 have hc : WW.cell? ⟨w.heap.size, 0, none⟩ = some (.string (txt ((drawL seed c ((n + 31) / 32)).take n))) := by rw [cell_of_row _ _ _ _ _ _ HW.out]; rfl
 generalize txt ((drawL seed c ((n + 31) / 32)).take n) = OO at *
 refine leaves_cons (f := 68) (args := #[.pointer (some ⟨w.heap.size, 0, none⟩)]) (by simp) (by simp [go_sem]) ?_
 refine (catch_idle ⟨w.heap.size, 0, none⟩ _).mono ?_
 rintro e u' w'' ⟨rfl, rfl, rfl⟩
 simp [Leaves, settle, results, Try.results30, go_sem, hc]
 exact ⟨⟨HXW.out, HTW.out, HOW.out⟩, HGW.out⟩
theorem Drawn_real (g : Nat) (n : Int) (w : World) (hI : RealAt g w) :
  Calls Try.prog 30 #[.pointer (some ⟨g, 0, none⟩), .int .i64 n] w fun e w' => e = .returned (.string ⟨#[]⟩) ∧ Below w.heap.size w w' := by
 by_cases hb : n < 0 ∨ 32768 < n
 ·exact Drawn_bad _ n hb w
 have hmf : ∀ (fn : Fn) (first cap : Array Value) (w : World), (Instr.makeFunc fn first cap).run Try.prog w = .ok (.func fn first cap) w := fun _ _ _ _ => rfl
 have HI1 : RealAt g (w.alloc (.cells #[.string ⟨#[]⟩] 9)) := hI.below (below_alloc (Below.refl _ _) _)
 have c0 : (w.alloc (.cells #[.string ⟨#[]⟩] 9)).cell? ⟨g, 0, none⟩ = some (.iface 91 (.agg #[])) := by rw [cell_of_row _ _ _ _ _ _ HI1]; rfl
 have d1 : decide ((n : Int) < 0) = false := decide_eq_false (by omega)
 have d2 : decide (32768 < (n : Int)) = false := decide_eq_false (by omega)
 clear hI hb HI1
 obtain ⟨pv, o, hf⟩ := as_fail 20 (.agg #[]) (w.alloc (.cells #[.string ⟨#[]⟩] 9))
 go_enter_defers Try.func30, Try.ntmps30
 go_wp2
 refine leaves_cons (f := 68) (args := #[.pointer (some ⟨w.heap.size, 0, none⟩)]) (by simp) (by simp [go_sem]) ?_
 have hx : ((w.alloc (.cells #[.string ⟨#[]⟩] 9)).alloc o).heap[w.heap.size]? = some (.cells #[.string ⟨#[]⟩] 9 (0, 0)) := blk_alloc (heap_alloc_new w _) _
 refine (catch_panicking ⟨w.heap.size, 0, none⟩ ⟨#[]⟩ _ _ [] _ (by rw [cell_of_row _ _ _ _ _ _ hx]; rfl) (blk_thaw hx 0)).mono ?_
 rintro e u' w'' ⟨rfl, rfl, rfl⟩
 have hc : (((w.alloc (.cells #[.string ⟨#[]⟩] 9)).alloc o).setCell ⟨w.heap.size, 0, none⟩ (.string ⟨#[]⟩)).cell? ⟨w.heap.size, 0, none⟩ = some (.string ⟨#[]⟩) := by rw [cell_of_row _ _ _ _ _ _ (blk_put hx 0 (.string ⟨#[]⟩) rfl)]; rfl
 have HBW := Aside0.mk (((below_alloc (below_alloc (Below.refl _ _) _) _ : Below w.heap.size w ((w.alloc (.cells #[.string ⟨#[]⟩] 9)).alloc o))).setCell (p := ⟨w.heap.size, 0, none⟩) (Nat.le_refl _) (.string ⟨#[]⟩))
 generalize ((w.alloc (.cells #[.string ⟨#[]⟩] 9)).alloc o).setCell ⟨w.heap.size, 0, none⟩ (.string ⟨#[]⟩) = WW at *
 simp [Leaves, settle, results, Try.results30, go_sem, hc]
 exact HBW.out
theorem Drawn_none (g : Nat) (n : Int) (w : World) (hI : w.cell? ⟨g, 0, none⟩ = some .nilIface) :
  Calls Try.prog 30 #[.pointer (some ⟨g, 0, none⟩), .int .i64 n] w fun e w' => e = .returned (.string ⟨#[]⟩) ∧ Below w.heap.size w w' := by
 by_cases hb : n < 0 ∨ 32768 < n
 ·exact Drawn_bad _ n hb w
 have hmf : ∀ (fn : Fn) (first cap : Array Value) (w : World), (Instr.makeFunc fn first cap).run Try.prog w = .ok (.func fn first cap) w := fun _ _ _ _ => rfl
 have c0 : (w.alloc (.cells #[.string ⟨#[]⟩] 9)).cell? ⟨g, 0, none⟩ = some .nilIface := pw_cell_below (below_alloc (Below.refl w.heap.size w) _) hI
 have d1 : decide ((n : Int) < 0) = false := decide_eq_false (by omega)
 have d2 : decide (32768 < (n : Int)) = false := decide_eq_false (by omega)
 clear hI hb
 obtain ⟨pv, o, hf⟩ := as_fail_nil 20 (w.alloc (.cells #[.string ⟨#[]⟩] 9))
 go_enter_defers Try.func30, Try.ntmps30
 go_wp2
 refine leaves_cons (f := 68) (args := #[.pointer (some ⟨w.heap.size, 0, none⟩)]) (by simp) (by simp [go_sem]) ?_
 have hx : ((w.alloc (.cells #[.string ⟨#[]⟩] 9)).alloc o).heap[w.heap.size]? = some (.cells #[.string ⟨#[]⟩] 9 (0, 0)) := blk_alloc (heap_alloc_new w _) _
 refine (catch_panicking ⟨w.heap.size, 0, none⟩ ⟨#[]⟩ _ _ [] _ (by rw [cell_of_row _ _ _ _ _ _ hx]; rfl) (blk_thaw hx 0)).mono ?_
 rintro e u' w'' ⟨rfl, rfl, rfl⟩
 have hc : (((w.alloc (.cells #[.string ⟨#[]⟩] 9)).alloc o).setCell ⟨w.heap.size, 0, none⟩ (.string ⟨#[]⟩)).cell? ⟨w.heap.size, 0, none⟩ = some (.string ⟨#[]⟩) := by rw [cell_of_row _ _ _ _ _ _ (blk_put hx 0 (.string ⟨#[]⟩) rfl)]; rfl
 have HBW := Aside0.mk (((below_alloc (below_alloc (Below.refl _ _) _) _ : Below w.heap.size w ((w.alloc (.cells #[.string ⟨#[]⟩] 9)).alloc o))).setCell (p := ⟨w.heap.size, 0, none⟩) (Nat.le_refl _) (.string ⟨#[]⟩))
 generalize ((w.alloc (.cells #[.string ⟨#[]⟩] 9)).alloc o).setCell ⟨w.heap.size, 0, none⟩ (.string ⟨#[]⟩) = WW at *
 simp [Leaves, settle, results, Try.results30, go_sem, hc]
 exact HBW.out
theorem Drawn_nil (n : Int) (w : World) :
  Calls Try.prog 30 #[.pointer none, .int .i64 n] w fun e w' => e = .returned (.string ⟨#[]⟩) ∧ Below w.heap.size w w' := by
 by_cases hb : n < 0 ∨ 32768 < n
 ·exact Drawn_bad _ n hb w
 have hmf : ∀ (fn : Fn) (first cap : Array Value) (w : World), (Instr.makeFunc fn first cap).run Try.prog w = .ok (.func fn first cap) w := fun _ _ _ _ => rfl
 have d1 : decide ((n : Int) < 0) = false := decide_eq_false (by omega)
 have d2 : decide (32768 < (n : Int)) = false := decide_eq_false (by omega)
 clear hb
 go_enter_defers Try.func30, Try.ntmps30
 go_wp2
 refine leaves_cons (f := 68) (args := #[.pointer (some ⟨w.heap.size, 0, none⟩)]) (by simp) (by simp [go_sem]) ?_
 refine (catch_panicking ⟨w.heap.size, 0, none⟩ ⟨#[]⟩ _ _ [] _ ?_ ?_).mono ?_
 ·simp [go_sem]
 ·simp [go_sem]
 rintro e u' w'' ⟨rfl, rfl, rfl⟩
 simp [Leaves, settle, results, Try.results30, go_sem]
 exact below_alloc (Below.refl _ _) _
theorem Drawn_nobody (p : Option Addr) (n : Int) (w : World) (h : NobodyAt p w) : Calls Try.prog 30 #[.pointer p, .int .i64 n] w fun e w' => e = .returned (.string ⟨#[]⟩) ∧ Below w.heap.size w w' := by
 rcases h with rfl | ⟨g, rfl, hc⟩
 ·exact Drawn_nil n w
 ·exact Drawn_none g n w hc
end Go.Proofs.Ytbkbganflnemeaa.Pr
end

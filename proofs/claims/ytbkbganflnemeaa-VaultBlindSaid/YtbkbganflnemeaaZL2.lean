/- Joined texts (pack.py): what the statement's proof needs, part 2. No condition. -/
import Derived.Below
import Derived.Deep.Draws
import Derived.Deep.AppendLies
import Derived.Maps.AppendAt
import Derived.OwnWalk
import Derived.Laws.BytesArg
import Derived.Laws.MakeOwn
import Derived.Laws.OwnMore
import Derived.Deep.OwnRows
import Derived.Tactics
import Derived.Lib.ConvBytes
import Derived.Laws.Slices
import Derived.WalkKit
import Derived.KernelRfl
import Derived.RowKit3
import Derived.Deep.LoopGhost
import Derived.Deep.QuietTactic
import Derived.BigQuiet
import Derived.WideLaws
import Derived.Deep.DeepCutAuto
import Derived.Deep.CutBlock
import Derived.Deep.RegionHeld3
import Derived.Laws.Rows
import Derived.Lib.AppendStr
import Derived.ArgAppend
import Derived.Laws.IdiomCopy
import Derived.RowKit
import Derived.OrdersHeld
import Derived.Laws.BitsLemmas
import Derived.Laws.StructEq
import Derived.Test.YtbkbganflnemeaaRows
import Derived.ProofKit
import Derived.OpenShut
import Derived.ShutString
import Derived.ChangeOld
import Derived.Shelf.Strings.Builder1
import Derived.Shelf.Strings.Builder2
import Derived.Shelf.Strings.OnBuilder
import Derived.Shelf.Strings.BuilderF
import Derived.Shelf.Strings.Prefix
import Derived.Shelf.Bits.Mul64
import Derived.Shelf.Strings.Repeat
import Derived.Test.YtbkbganflnemeaaProg
import Derived.Deep.RegionLaw
import Derived.StillTailTactics
import Derived.Deep.Light
import Derived.Deep.RegionHeldLaw
import Derived.Deep.DrawnRows
import Derived.IntWalk
import Derived.Deep.WholeRow
import Derived.Laws.CopyOwn
import Derived.Maps.OwnSet
import Derived.Deep.Slices
import Derived.ChangeArms
import Derived.SizedLaws
import Derived.Carry
import Derived.Test.YtbkbganflnemeaaZL1
set_option linter.unusedVariables false
set_option linter.unusedSimpArgs false
section
namespace Go.Proofs.Ytbkbganflnemeaa.Pr
open Go.RowKit Go.Deep Go.Maps Go.Proofs.YtbkbganflnemeaaW.PrintWords Go.Proofs.YtbkbganflnemeaaW.PrintLast Go.Proofs.YtbkbganflnemeaaW.PrintMore
attribute [local go_sem] max2_int min2_int max_two min_two max_three min_three max_four min_four
set_option maxHeartbeats 8000000
def vText : ByteArray := ⟨#[116, 101, 120, 116]⟩
def vD (o : ByteArray) (key nonce : ByteArray) : DataW Unit := (DataW.map []).put (.string o.data.toList) (wayD key nonce ⟨#[98]⟩ vText)
theorem vD_at (o key nonce : ByteArray) : (vD o key nonce).atKey (.string o.data.toList) noWay = wayD key nonce ⟨#[98]⟩ vText := atKey_put_same ⟨[], rfl⟩ (by trivial) _ _
theorem vD_has (o key nonce : ByteArray) : Maps.has (vD o key nonce) (.string o.data.toList) = true := has_put_same ⟨[], rfl⟩ (by trivial) _
theorem vD_size (o key nonce : ByteArray) : Maps.size (vD o key nonce) = 1 := by
 unfold vD
 rw [size_put ⟨[], rfl, by simp⟩]
 rfl
theorem sealO_size (seed : ByteArray) (c : Nat) (text : ByteArray) : (sealO seed c text).size = text.size + 16 := by
 unfold sealO sealN
 rw [txt_size, List.length_take, drawL_length]
 omega
theorem openR_yes (key nonce b d : ByteArray) : openR true key nonce b key nonce b d = (d, 0) := if_pos ⟨rfl, rfl, rfl, rfl⟩
theorem openR_no (has : Bool) (key nonce b key' nonce' b' d : ByteArray) (h : b' ≠ b) : openR has key nonce b key' nonce' b' d = (⟨#[]⟩, 70) := if_neg (fun q => h q.2.2.2)
set_option maxRecDepth 100000 in
theorem vawake_calls (w : World) : Calls Try.prog 24 #[] w fun e w' => e = .returned (.bool true) ∧ Below w.heap.size w w' := by
 have HB := Aside0.mk (Below.refl w.heap.size w)
 have c1b0 := eq_true (show 32 ≤ 281474976710656 by decide)
 have c1b1 : decide (32 ≤ 281474976710656) = true := rfl
 have c2b0 := eq_true (show 12 ≤ 281474976710656 by decide)
 have c2b1 : decide (12 ≤ 281474976710656) = true := rfl
 obtain ⟨y106, hy106⟩ : ∃ y_ : List Int, y_ = (List.replicate 32 0) := ⟨_, rfl⟩
 have Ny106 := Aside0.mk hy106
 clear hy106
 obtain ⟨y109, hy109⟩ : ∃ y_ : List Int, y_ = (List.replicate 12 0) := ⟨_, rfl⟩
 have Ny109 := Aside0.mk hy109
 clear hy109
 go_enter Try.func24, Try.ntmps24
 try go_wp2
 replace HB := Aside0.mk (below_drew1 HB.out)
 refine start_ (n := 6) (S := fun w' => True) (ds := []) #[false, false, false, false, false, false] (by kernel_rfl) rfl rfl trivial (fun hHeld => ?_)
 generalize w.drew = w10 at HB hHeld ⊢
 refine join_ (σ := Value × Value) 1 #[true, true, true, true, true, false] (fun s_ => [(10, s_.1), (11, .string (strOfNums y106)), (12, s_.2), (13, .string (strOfNums y109)), (1, .string (strOfNums y106))]) (fun s_ w' => (Kd.R (Kd.int .u8) 5 w' w.heap.size (fun k_ => some k_ ≠ (s_.2 : Value).ownBlock) s_.1 y106) ∧ (Kd.R (Kd.int .u8) 5 w' w.heap.size (fun k_ => some k_ ≠ (s_.1 : Value).ownBlock) s_.2 y109) ∧ (Below w.heap.size w w')) ?_ ?_
 rotate_left
 ·intro hJ0_1_2_3
  refine join_ (σ := Value × Value) 2 #[true, true, true, false, true, false] (fun s_ => [(10, s_.1), (11, .string (strOfNums y106)), (12, s_.2), (1, .string (strOfNums y106))]) (fun s_ w' => (Kd.R (Kd.int .u8) 5 w' w.heap.size (fun k_ => some k_ ≠ (s_.2 : Value).ownBlock) s_.1 y106) ∧ (Kd.R (Kd.int .u8) 5 w' w.heap.size (fun k_ => some k_ ≠ (s_.1 : Value).ownBlock) s_.2 y109) ∧ (Below w.heap.size w w')) ?_ ?_
  rotate_left
  ·intro hJ0_1_2
   refine join_ (σ := Value × Value) 3 #[true, false, true, true, false, false] (fun s_ => [(10, s_.1), (12, s_.2), (13, .string (strOfNums y109))]) (fun s_ w' => (Kd.R (Kd.int .u8) 5 w' w.heap.size (fun k_ => some k_ ≠ (s_.2 : Value).ownBlock) s_.1 y106) ∧ (Kd.R (Kd.int .u8) 5 w' w.heap.size (fun k_ => some k_ ≠ (s_.1 : Value).ownBlock) s_.2 y109) ∧ (Below w.heap.size w w')) ?_ ?_
   rotate_left
   ·intro hJ0_2_3
    refine join_ (σ := Value) 3 #[true, true, false, false, true, false] (fun s_ => [(10, s_), (11, .string (strOfNums y106)), (1, .string (strOfNums y106))]) (fun s_ w' => (Kd.R (Kd.int .u8) 5 w' w.heap.size (fun _ => True) s_ y106) ∧ (Below w.heap.size w w')) ?_ ?_
    rotate_left
    ·intro hJ0_1
     refine join_ (σ := Value × Value) 4 #[true, false, true, false, false, false] (fun s_ => [(10, s_.1), (12, s_.2)]) (fun s_ w' => (Kd.R (Kd.int .u8) 5 w' w.heap.size (fun k_ => some k_ ≠ (s_.2 : Value).ownBlock) s_.1 y106) ∧ (Kd.R (Kd.int .u8) 5 w' w.heap.size (fun k_ => some k_ ≠ (s_.1 : Value).ownBlock) s_.2 y109) ∧ (Below w.heap.size w w')) ?_ ?_
     rotate_left
     ·intro hJ0_2
      refine join_ (σ := Value) 4 #[false, false, true, true, false, false] (fun s_ => [(12, s_), (13, .string (strOfNums y109))]) (fun s_ w' => (Kd.R (Kd.int .u8) 5 w' w.heap.size (fun _ => True) s_ y109) ∧ (Below w.heap.size w w')) ?_ ?_
      rotate_left
      ·intro hJ2_3
       refine join_ (σ := Value) 5 #[true, false, false, false, false, false] (fun s_ => [(10, s_)]) (fun s_ w' => (Kd.R (Kd.int .u8) 5 w' w.heap.size (fun _ => True) s_ y106) ∧ (Below w.heap.size w w')) ?_ ?_
       rotate_left
       ·intro hJ0
        refine join_ (σ := Value) 5 #[false, false, true, false, false, false] (fun s_ => [(12, s_)]) (fun s_ w' => (Kd.R (Kd.int .u8) 5 w' w.heap.size (fun _ => True) s_ y109) ∧ (Below w.heap.size w w')) ?_ ?_
        rotate_left
        ·intro hJ2
         refine two_ (i := 0) (j := 2) (Ni := some 10) (Nj := some 12) #[true, false, false, false, false, false] #[false, false, true, false, false, false] rfl rfl rfl rfl (by kernel_rfl) (by decide) (by decide) (fun K hK => ?_) (fun K hK => ?_)
         ·skip
          refine Kd.R_make_step (Kd.int .u8) _ 5 (by rfl) (N := 10) rfl 68 _ _ rfl 32 rfl rfl Try.underlying68 (.int .u8 0) 1 info5 rfl (by decide) (by omega) 0 (ok := fun _ => True) (okp := fun _ => True) rfl (fun _ hk => hk) trivial (by omega) (by omega) (Below.refl _ _) (Nat.le_refl _) ?_
          intro v107 w11 ho12 hb hg_ hnew_
          clear hg_ hnew_
          (first | rw [← Ny106.out] at ho12 | (simp only [Int.reduceToNat] at ho12; rw [← Ny106.out] at ho12))
          have n0_ := Aside0.mk (Kd.R_lower ho12 (below_size hb_))
          have n1_ := Aside0.mk (below_step hb_ hb)
          clear HB
          have HO108 := n0_
          have HB := n1_
          clear n0_ n1_
          clear hb ho12
          refine hK.out _ _ trivial (fun hHeld => ?_)
          clear hK K
          refine norm_ sa_ ?_
          exact norm_ pu_ (hJ0 (v107) _ ⟨(ra_ HO108.out), hb_⟩)
         ·skip
          refine Kd.R_make_step (Kd.int .u8) _ 5 (by rfl) (N := 12) rfl 68 _ _ rfl 12 rfl rfl Try.underlying68 (.int .u8 0) 1 info5 rfl (by decide) (by omega) 0 (ok := fun _ => True) (okp := fun _ => True) rfl (fun _ hk => hk) trivial (by omega) (by omega) (Below.refl _ _) (Nat.le_refl _) ?_
          intro v110 w11 ho12 hb hg_ hnew_
          clear hg_ hnew_
          (first | rw [← Ny109.out] at ho12 | (simp only [Int.reduceToNat] at ho12; rw [← Ny109.out] at ho12))
          have n0_ := Aside0.mk (Kd.R_lower ho12 (below_size hb_))
          have n1_ := Aside0.mk (below_step hb_ hb)
          clear HB
          have HO111 := n0_
          have HB := n1_
          clear n0_ n1_
          clear hb ho12
          refine hK.out _ _ trivial (fun hHeld => ?_)
          clear hK K
          refine norm_ sa_ ?_
          exact norm_ pu_ (hJ2 (v110) _ ⟨(ra_ HO111.out), hb_⟩)
        ·skip
         rintro v110 w13 ⟨h0_, h1_⟩
         have n0_ : Aside0 (Kd.R (Kd.int .u8) 5 w13 w.heap.size (fun _ => True) v110 y109) := ⟨h0_⟩
         have n1_ : Aside0 (Below w.heap.size w w13) := ⟨h1_⟩
         clear HB
         clear h0_ h1_
         have HO111 := n0_
         have HB := n1_
         clear n0_ n1_
         have hHeld := trivial
         refine norm_ sb_ ?_
         refine two_ (i := 0) (j := 3) (Ni := some 10) (Nj := some 13) #[true, false, true, false, false, false] #[false, false, true, true, false, false] rfl rfl rfl rfl (by kernel_rfl) (by decide) (by decide) (fun K hK => ?_) (fun K hK => ?_)
         ·skip
          refine Kd.R_make_step (Kd.int .u8) _ 5 (by rfl) (N := 10) rfl 68 _ _ rfl 32 rfl rfl Try.underlying68 (.int .u8 0) 1 info5 rfl (by decide) (by omega) 0 (ok := fun _ => True) (okp := fun _ => True) rfl (fun _ hk => hk) trivial (by omega) (by omega) (Below.refl _ _) (Nat.le_refl _) ?_
          intro v107 w14 ho15 hb hg_ hnew_
          clear hg_ hnew_
          (first | rw [← Ny106.out] at ho15 | (simp only [Int.reduceToNat] at ho15; rw [← Ny106.out] at ho15))
          have n0_ := Aside0.mk (Kd.R_elder' (ra_ HO111.out) (Kd.R_base ho15) hb)
          have n1_ := Aside0.mk (Kd.R_lower (Kd.R_new' ho15 (Kd.R_lt (ra_ HO111.out))) (below_size hb_))
          have n2_ := Aside0.mk (below_step hb_ hb)
          clear HO111
          clear HB
          have HO111 := n0_
          have HO108 := n1_
          have HB := n2_
          clear n0_ n1_ n2_
          clear hb ho15
          refine hK.out _ _ trivial (fun hHeld => ?_)
          clear hK K
          refine norm_ sa_ ?_
          exact norm_ pu_ (hJ0_2 (v107, v110) _ ⟨(by (with_reducible repeat (first | apply Kd.R_alloc | apply Kd.R_drewN | apply Kd.R_drew)); exact Kd.R_mono HO108.out (fun _ hk => hk.2)), (by (with_reducible repeat (first | apply Kd.R_alloc | apply Kd.R_drewN | apply Kd.R_drew)); exact Kd.R_mono HO111.out (fun _ hk => hk.2)), hb_⟩)
         ·skip
          have hcv14 := own_string (P := Try.prog) Try.underlying68 Try.underlying5 Try.underlying9 (Kd.own_of_R HO111.out)
          refine value_ (w1 := ?_) (v := ?_) (by rfl) rfl ?_ ?_
          rotate_left 2
          ·go_simp
           constructor
           ·rfl
           ·rfl
          clear hcv14
          refine hK.out _ _ trivial (fun hHeld => ?_)
          clear hK K
          refine norm_ sa_ ?_
          exact norm_ pu_ (hJ2_3 (v110) _ ⟨(ra_ HO111.out), hb_⟩)
       ·skip
        rintro v107 w13 ⟨h0_, h1_⟩
        have n0_ : Aside0 (Kd.R (Kd.int .u8) 5 w13 w.heap.size (fun _ => True) v107 y106) := ⟨h0_⟩
        have n1_ : Aside0 (Below w.heap.size w w13) := ⟨h1_⟩
        clear HB
        clear h0_ h1_
        have HO108 := n0_
        have HB := n1_
        clear n0_ n1_
        have hHeld := trivial
        refine norm_ sb_ ?_
        refine two_ (i := 1) (j := 2) (Ni := some 11) (Nj := some 12) #[true, true, false, false, false, false] #[true, false, true, false, false, false] rfl rfl rfl rfl (by kernel_rfl) (by decide) (by decide) (fun K hK => ?_) (fun K hK => ?_)
        ·skip
         have hcv14 := own_string (P := Try.prog) Try.underlying68 Try.underlying5 Try.underlying9 (Kd.own_of_R HO108.out)
         refine value_ (w1 := ?_) (v := ?_) (by rfl) rfl ?_ ?_
         rotate_left 2
         ·go_simp
          constructor
          ·rfl
          ·rfl
         clear hcv14
         refine hK.out _ _ trivial (fun hHeld => ?_)
         clear hK K
         refine norm_ sa_ ?_
         refine pz_ 4 1 rfl rfl (by kernel_rfl) ?_
         exact norm_ pu_ (hJ0_1 (v107) _ ⟨(ra_ HO108.out), hb_⟩)
        ·skip
         refine Kd.R_make_step (Kd.int .u8) _ 5 (by rfl) (N := 12) rfl 68 _ _ rfl 12 rfl rfl Try.underlying68 (.int .u8 0) 1 info5 rfl (by decide) (by omega) 0 (ok := fun _ => True) (okp := fun _ => True) rfl (fun _ hk => hk) trivial (by omega) (by omega) (Below.refl _ _) (Nat.le_refl _) ?_
         intro v110 w14 ho15 hb hg_ hnew_
         clear hg_ hnew_
         (first | rw [← Ny109.out] at ho15 | (simp only [Int.reduceToNat] at ho15; rw [← Ny109.out] at ho15))
         have n0_ := Aside0.mk (Kd.R_elder' (ra_ HO108.out) (Kd.R_base ho15) hb)
         have n1_ := Aside0.mk (Kd.R_lower (Kd.R_new' ho15 (Kd.R_lt (ra_ HO108.out))) (below_size hb_))
         have n2_ := Aside0.mk (below_step hb_ hb)
         clear HO108
         clear HB
         have HO108 := n0_
         have HO111 := n1_
         have HB := n2_
         clear n0_ n1_ n2_
         clear hb ho15
         refine hK.out _ _ trivial (fun hHeld => ?_)
         clear hK K
         refine norm_ sa_ ?_
         exact norm_ pu_ (hJ0_2 (v107, v110) _ ⟨(by (with_reducible repeat (first | apply Kd.R_alloc | apply Kd.R_drewN | apply Kd.R_drew)); exact Kd.R_mono HO108.out (fun _ hk => hk.2)), (by (with_reducible repeat (first | apply Kd.R_alloc | apply Kd.R_drewN | apply Kd.R_drew)); exact Kd.R_mono HO111.out (fun _ hk => hk.2)), hb_⟩)
      ·skip
       rintro v110 w14 ⟨h0_, h1_⟩
       have n0_ : Aside0 (Kd.R (Kd.int .u8) 5 w14 w.heap.size (fun _ => True) v110 y109) := ⟨h0_⟩
       have n1_ : Aside0 (Below w.heap.size w w14) := ⟨h1_⟩
       clear HB
       clear h0_ h1_
       have HO111 := n0_
       have HB := n1_
       clear n0_ n1_
       have hHeld := trivial
       refine norm_ sb_ ?_
       refine one_ (i := 0) (N := some 10) #[true, false, true, true, false, false] rfl rfl (by kernel_rfl) (by decide) (fun K hK => ?_)
       refine Kd.R_make_step (Kd.int .u8) _ 5 (by rfl) (N := 10) rfl 68 _ _ rfl 32 rfl rfl Try.underlying68 (.int .u8 0) 1 info5 rfl (by decide) (by omega) 0 (ok := fun _ => True) (okp := fun _ => True) rfl (fun _ hk => hk) trivial (by omega) (by omega) (Below.refl _ _) (Nat.le_refl _) ?_
       intro v107 w15 ho16 hb hg_ hnew_
       clear hg_ hnew_
       (first | rw [← Ny106.out] at ho16 | (simp only [Int.reduceToNat] at ho16; rw [← Ny106.out] at ho16))
       have n0_ := Aside0.mk (Kd.R_elder' (ra_ HO111.out) (Kd.R_base ho16) hb)
       have n1_ := Aside0.mk (Kd.R_lower (Kd.R_new' ho16 (Kd.R_lt (ra_ HO111.out))) (below_size hb_))
       have n2_ := Aside0.mk (below_step hb_ hb)
       clear HO111
       clear HB
       have HO111 := n0_
       have HO108 := n1_
       have HB := n2_
       clear n0_ n1_ n2_
       clear hb ho16
       refine hK.out _ _ trivial (fun hHeld => ?_)
       clear hK K
       refine norm_ sa_ ?_
       exact norm_ pu_ (hJ0_2_3 (v107, v110) _ ⟨(by (with_reducible repeat (first | apply Kd.R_alloc | apply Kd.R_drewN | apply Kd.R_drew)); exact Kd.R_mono HO108.out (fun _ hk => hk.2)), (by (with_reducible repeat (first | apply Kd.R_alloc | apply Kd.R_drewN | apply Kd.R_drew)); exact Kd.R_mono HO111.out (fun _ hk => hk.2)), hb_⟩)
     ·skip
      rintro ⟨v107, v110⟩ w15 ⟨h0_, h1_, h2_⟩
      have n0_ : Aside0 (Kd.R (Kd.int .u8) 5 w15 w.heap.size (fun k_ => some k_ ≠ (v110 : Value).ownBlock) v107 y106) := ⟨h0_⟩
      have n1_ : Aside0 (Kd.R (Kd.int .u8) 5 w15 w.heap.size (fun k_ => some k_ ≠ (v107 : Value).ownBlock) v110 y109) := ⟨h1_⟩
      have n2_ : Aside0 (Below w.heap.size w w15) := ⟨h2_⟩
      clear HB
      clear h0_ h1_ h2_
      have HO108 := n0_
      have HO111 := n1_
      have HB := n2_
      clear n0_ n1_ n2_
      have hHeld := trivial
      refine norm_ sb_ ?_
      refine two_ (i := 1) (j := 3) (Ni := some 11) (Nj := some 13) #[true, true, true, false, false, false] #[true, false, true, true, false, false] rfl rfl rfl rfl (by kernel_rfl) (by decide) (by decide) (fun K hK => ?_) (fun K hK => ?_)
      ·skip
       have hcv16 := own_string (P := Try.prog) Try.underlying68 Try.underlying5 Try.underlying9 (Kd.own_of_R HO108.out)
       refine value_ (w1 := ?_) (v := ?_) (by rfl) rfl ?_ ?_
       rotate_left 2
       ·go_simp
        constructor
        ·rfl
        ·rfl
       clear hcv16
       refine hK.out _ _ trivial (fun hHeld => ?_)
       clear hK K
       refine norm_ sa_ ?_
       refine pz_ 4 1 rfl rfl (by kernel_rfl) ?_
       exact norm_ pu_ (hJ0_1_2 (v107, v110) _ ⟨(ra_ HO108.out), (ra_ HO111.out), hb_⟩)
      ·skip
       have hcv16 := own_string (P := Try.prog) Try.underlying68 Try.underlying5 Try.underlying9 (Kd.own_of_R HO111.out)
       refine value_ (w1 := ?_) (v := ?_) (by rfl) rfl ?_ ?_
       rotate_left 2
       ·go_simp
        constructor
        ·rfl
        ·rfl
       clear hcv16
       refine hK.out _ _ trivial (fun hHeld => ?_)
       clear hK K
       refine norm_ sa_ ?_
       exact norm_ pu_ (hJ0_2_3 (v107, v110) _ ⟨(ra_ HO108.out), (ra_ HO111.out), hb_⟩)
    ·skip
     rintro v107 w14 ⟨h0_, h1_⟩
     have n0_ : Aside0 (Kd.R (Kd.int .u8) 5 w14 w.heap.size (fun _ => True) v107 y106) := ⟨h0_⟩
     have n1_ : Aside0 (Below w.heap.size w w14) := ⟨h1_⟩
     clear HB
     clear h0_ h1_
     have HO108 := n0_
     have HB := n1_
     clear n0_ n1_
     have hHeld := trivial
     refine norm_ sb_ ?_
     refine one_ (i := 2) (N := some 12) #[true, true, true, false, true, false] rfl rfl (by kernel_rfl) (by decide) (fun K hK => ?_)
     refine Kd.R_make_step (Kd.int .u8) _ 5 (by rfl) (N := 12) rfl 68 _ _ rfl 12 rfl rfl Try.underlying68 (.int .u8 0) 1 info5 rfl (by decide) (by omega) 0 (ok := fun _ => True) (okp := fun _ => True) rfl (fun _ hk => hk) trivial (by omega) (by omega) (Below.refl _ _) (Nat.le_refl _) ?_
     intro v110 w15 ho16 hb hg_ hnew_
     clear hg_ hnew_
     (first | rw [← Ny109.out] at ho16 | (simp only [Int.reduceToNat] at ho16; rw [← Ny109.out] at ho16))
     have n0_ := Aside0.mk (Kd.R_elder' (ra_ HO108.out) (Kd.R_base ho16) hb)
     have n1_ := Aside0.mk (Kd.R_lower (Kd.R_new' ho16 (Kd.R_lt (ra_ HO108.out))) (below_size hb_))
     have n2_ := Aside0.mk (below_step hb_ hb)
     clear HO108
     clear HB
     have HO108 := n0_
     have HO111 := n1_
     have HB := n2_
     clear n0_ n1_ n2_
     clear hb ho16
     refine hK.out _ _ trivial (fun hHeld => ?_)
     clear hK K
     refine norm_ sa_ ?_
     exact norm_ pu_ (hJ0_1_2 (v107, v110) _ ⟨(by (with_reducible repeat (first | apply Kd.R_alloc | apply Kd.R_drewN | apply Kd.R_drew)); exact Kd.R_mono HO108.out (fun _ hk => hk.2)), (by (with_reducible repeat (first | apply Kd.R_alloc | apply Kd.R_drewN | apply Kd.R_drew)); exact Kd.R_mono HO111.out (fun _ hk => hk.2)), hb_⟩)
   ·skip
    rintro ⟨v107, v110⟩ w16 ⟨h0_, h1_, h2_⟩
    have n0_ : Aside0 (Kd.R (Kd.int .u8) 5 w16 w.heap.size (fun k_ => some k_ ≠ (v110 : Value).ownBlock) v107 y106) := ⟨h0_⟩
    have n1_ : Aside0 (Kd.R (Kd.int .u8) 5 w16 w.heap.size (fun k_ => some k_ ≠ (v107 : Value).ownBlock) v110 y109) := ⟨h1_⟩
    have n2_ : Aside0 (Below w.heap.size w w16) := ⟨h2_⟩
    clear HB
    clear h0_ h1_ h2_
    have HO108 := n0_
    have HO111 := n1_
    have HB := n2_
    clear n0_ n1_ n2_
    have hHeld := trivial
    refine norm_ sb_ ?_
    refine one_ (i := 1) (N := some 11) #[true, true, true, true, false, false] rfl rfl (by kernel_rfl) (by decide) (fun K hK => ?_)
    have hcv17 := own_string (P := Try.prog) Try.underlying68 Try.underlying5 Try.underlying9 (Kd.own_of_R HO108.out)
    refine value_ (w1 := ?_) (v := ?_) (by rfl) rfl ?_ ?_
    rotate_left 2
    ·go_simp
     constructor
     ·rfl
     ·rfl
    clear hcv17
    refine hK.out _ _ trivial (fun hHeld => ?_)
    clear hK K
    refine norm_ sa_ ?_
    refine pz_ 4 1 rfl rfl (by kernel_rfl) ?_
    exact norm_ pu_ (hJ0_1_2_3 (v107, v110) _ ⟨(ra_ HO108.out), (ra_ HO111.out), hb_⟩)
  ·skip
   rintro ⟨v107, v110⟩ w16 ⟨h0_, h1_, h2_⟩
   have n0_ : Aside0 (Kd.R (Kd.int .u8) 5 w16 w.heap.size (fun k_ => some k_ ≠ (v110 : Value).ownBlock) v107 y106) := ⟨h0_⟩
   have n1_ : Aside0 (Kd.R (Kd.int .u8) 5 w16 w.heap.size (fun k_ => some k_ ≠ (v107 : Value).ownBlock) v110 y109) := ⟨h1_⟩
   have n2_ : Aside0 (Below w.heap.size w w16) := ⟨h2_⟩
   clear HB
   clear h0_ h1_ h2_
   have HO108 := n0_
   have HO111 := n1_
   have HB := n2_
   clear n0_ n1_ n2_
   have hHeld := trivial
   refine norm_ sb_ ?_
   refine one_ (i := 3) (N := some 13) #[true, true, true, true, true, false] rfl rfl (by kernel_rfl) (by decide) (fun K hK => ?_)
   have hcv17 := own_string (P := Try.prog) Try.underlying68 Try.underlying5 Try.underlying9 (Kd.own_of_R HO111.out)
   refine value_ (w1 := ?_) (v := ?_) (by rfl) rfl ?_ ?_
   rotate_left 2
   ·go_simp
    constructor
    ·rfl
    ·rfl
   clear hcv17
   refine hK.out _ _ trivial (fun hHeld => ?_)
   clear hK K
   refine norm_ sa_ ?_
   exact norm_ pu_ (hJ0_1_2_3 (v107, v110) _ ⟨(ra_ HO108.out), (ra_ HO111.out), hb_⟩)
 rintro ⟨v107, v110⟩ w17 ⟨h0_, h1_, h2_⟩
 have n0_ : Aside0 (Kd.R (Kd.int .u8) 5 w17 w.heap.size (fun k_ => some k_ ≠ (v110 : Value).ownBlock) v107 y106) := ⟨h0_⟩
 have n1_ : Aside0 (Kd.R (Kd.int .u8) 5 w17 w.heap.size (fun k_ => some k_ ≠ (v107 : Value).ownBlock) v110 y109) := ⟨h1_⟩
 have n2_ : Aside0 (Below w.heap.size w w17) := ⟨h2_⟩
 clear HB
 clear h0_ h1_ h2_
 have HO108 := n0_
 have HO111 := n1_
 have HB := n2_
 clear n0_ n1_ n2_
 have hHeld := trivial
 refine norm_ sb_ ?_
 refine pz_ 5 2 rfl rfl (by kernel_rfl) ?_
 refine done_ (by kernel_rfl) ?_
 have hK : (strOfNums y106).size = 32 := by rw [Ny106.out, noughts_str, txt_size, List.length_replicate]
 have hN : (strOfNums y109).size = 12 := by rw [Ny109.out, noughts_str, txt_size, List.length_replicate]
 clear HO108 HO111 hHeld c1b0 c1b1 c2b0 c2b1 Ny106 Ny109
 generalize strOfNums y106 = KK at hK ⊢
 generalize strOfNums y109 = NN at hN ⊢
 have HK := Aside0.mk hK
 have HN := Aside0.mk hN
 clear hK hN
 go_wp2_with (fail)
 refine (Ideal_calls ⟨#[115, 101, 101, 100]⟩ _).mono ?_
 rintro e w1 ⟨rfl, hI, hb⟩
 have HB1 := Aside0.mk (below_then HB.out HB.out.size hb)
 have HT1 := Aside0.mk HB.out.size
 have HI1 := Aside0.mk hI
 clear hI hb HB
 generalize w17.heap.size = mb at HI1 HT1 ⊢
 go_wp2_with (fail)
 refine (Seal_ideal (mb + 2) (mb + 1) mb ⟨#[115, 101, 101, 100]⟩ 0 0 (.map []) KK NN ⟨#[98]⟩ ⟨#[116, 101, 120, 116]⟩ _ (by decide) (by decide) (by decide) ⟨HK.out, HN.out, by decide, by decide⟩ HI1.out).mono ?_
 rintro e w2 ⟨rfl, hI, hf⟩
 have HB2 := Aside0.mk (HB1.out.trans (hf.below (by have := HT1.out; omega) HT1.out HB1.out.size))
 have HI2 : Aside0 (IdealAt (mb + 2) (mb + 1) mb ⟨#[115, 101, 101, 100]⟩ (0 + sealN ⟨#[116, 101, 120, 116]⟩) (0 + 1) (vD (sealO ⟨#[115, 101, 101, 100]⟩ 0 ⟨#[116, 101, 120, 116]⟩) KK NN) w2) := ⟨hI⟩
 have hO := sealO_size ⟨#[115, 101, 101, 100]⟩ 0 ⟨#[116, 101, 120, 116]⟩
 clear hI hf HI1 HB1
 generalize sealO ⟨#[115, 101, 101, 100]⟩ 0 ⟨#[116, 101, 120, 116]⟩ = OO at *
 have hO2 : OO.size = 20 := hO
 have HO := Aside0.mk hO2
 clear hO hO2
 have h1 : (⟨#[98]⟩ : ByteArray) ≠ ⟨#[99]⟩ := by decide
 have HNE := Aside0.mk h1
 clear h1
 go_wp2_with (fail)
 refine (Open_ideal (mb + 2) (mb + 1) mb _ _ _ _ KK NN ⟨#[98]⟩ OO KK NN ⟨#[98]⟩ vText _ (by rw [HO.out]; decide) ⟨HK.out, HN.out, by decide, by rw [HO.out]; decide⟩ HI2.out (vD_at _ _ _)).mono ?_
 rw [vD_has, openR_yes]
 rintro e w3 ⟨rfl, hb⟩
 have HB3 := Aside0.mk (below_then HB2.out HB2.out.size hb)
 have HI3 := Aside0.mk (HI2.out.below hb)
 clear hb HB2 HI2
 go_wp2_with (fail)
 refine (Open_ideal (mb + 2) (mb + 1) mb _ _ _ _ KK NN ⟨#[99]⟩ OO KK NN ⟨#[98]⟩ vText _ (by rw [HO.out]; decide) ⟨HK.out, HN.out, by decide, by rw [HO.out]; decide⟩ HI3.out (vD_at _ _ _)).mono ?_
 rw [openR_no _ _ _ _ _ _ _ _ HNE.out]
 rintro e w4 ⟨rfl, hb⟩
 have HB4 := Aside0.mk (below_then HB3.out HB3.out.size hb)
 have HI4 := Aside0.mk (HI3.out.below hb)
 clear hb HB3 HI3
 have d1 : ((OO.size : Int) == 20) = true := by rw [HO.out]; rfl
 have d2 : (vText.toList == ([116, 101, 120, 116] : List UInt8)) = true := by rw [ByteArray.toList_eq]; rfl
 go_wp2_with (fail)
 refine (Many_ideal (mb + 2) (mb + 1) mb _ _ _ _ _ HI4.out).mono ?_
 rw [vD_size]
 rintro e w5 ⟨rfl, rfl⟩
 go_wp2_with (fail)
 refine (Real_calls _).mono ?_
 rintro e w6 ⟨rfl, hR, hb⟩
 have HR := Aside0.mk hR
 have HB6 := Aside0.mk (below_then HB4.out HB4.out.size hb)
 clear hR hb
 go_wp2_with (fail)
 refine (Many_real _ _ HR.out).mono ?_
 rintro e w7 ⟨rfl, rfl⟩
 go_wp2_with (fail)
 go_ret
 exact ⟨rfl, HB6.out⟩
end Go.Proofs.Ytbkbganflnemeaa.Pr
end

section
namespace Go.Proofs.Ytbkbganflnemeaa.Pr
open Go.ChangeShapes Go.WideShapes Go.Deep Go.RowKit Go.Proofs.YtbkbganflnemeaaW.PrintWords Go.Proofs.YtbkbganflnemeaaW.PrintLast Go.Proofs.YtbkbganflnemeaaW.PrintMore
structure Rd {α : Type} (P : Program) (t : TypeId) (k : Kd α) (Q : α → Prop) : Prop where
 sz : P.cellsOf t = k.sz
 rd : ∀ {H : Type} (enc : TypeId × Value → H) (w : World) (base : Nat) (spare : Nat → Bool) (held : Bool) (fuel : Nat) (cs : List Value) (x : DataW H × List MemPlace), DataW.trod enc P w base spare held fuel t cs = some x → ∃ y, k.K w y cs ∧ Q y
variable {P : Program}
theorem Rd.int {t : TypeId} {k : IntKind} (ht : P.underlying t = some (.int k)) (hc : P.cellsOf t = 1) : Rd P t (Kd.int k) (fun y => (Lit.int k y).wf = true) :=
  ⟨hc, fun enc w base spare held fuel cs x h => by
    obtain ⟨n, rfl, _, hw⟩ := DataW.trod_int ht h
    exact ⟨n, rfl, hw⟩⟩
theorem list_of {α : Type} {R : Nat → α → Prop} : ∀ (n : Nat), (∀ i, i < n → ∃ y, R i y) → ∃ ys : List α, ys.length = n ∧ ∀ i y, ys[i]? = some y → R i y
  | 0, _ => ⟨[], rfl, fun i y h => by simp at h⟩
  | n + 1, h => by
    obtain ⟨ys, hl, hr⟩ := list_of n (fun i hi => h i (by omega))
    obtain ⟨y, hy⟩ := h n (by omega)
    refine ⟨ys ++ [y], by rw [List.length_append, hl]; rfl, fun i z hz => ?_⟩
    by_cases hi : i < n
    · rw [List.getElem?_append_left (by omega)] at hz
      exact hr i z hz
    · have hi2 : i = n := by
        have := (List.getElem?_eq_some_iff.1 hz).1
        rw [List.length_append, List.length_singleton] at this
        omega
      subst hi2
      rw [List.getElem?_append_right (by omega), hl, Nat.sub_self] at hz
      have : y = z := by simpa using hz
      subst this
      exact hy
theorem Rd.slice {α : Type} {t e : TypeId} {k : Kd α} {Q : α → Prop} (ht : P.underlying t = some (.slice e)) (hc : P.cellsOf t = 1) (h : Rd P e k Q) : Rd P t (Kd.slice e k) (fun ys => (∀ y ∈ ys, Q y) ∧ ys.length ≤ maxLen) :=
  ⟨hc, fun enc w base spare held fuel cs x hx => by
    rcases open_slice ht hx with ⟨rfl, _⟩ | ⟨a, len, cap, m, n, D, Pl, rfl, _, hlc, hcm, hm, _, hi⟩
    · exact ⟨[], ⟨none, 0, rfl, Nat.le_refl _, Kd.C_nil k w⟩, fun y hy => by simp at hy, Nat.zero_le _⟩
    · have hlm : len ≤ m := by rw [hm]; split <;> omega
      obtain ⟨ys, hl, hr⟩ := list_of (R := fun i y => ∃ cs', w.cells? base (a.add (i * P.cellsOf e)) (P.cellsOf e) = some cs' ∧ k.K w y cs' ∧ Q y) len (fun i hil => by
        obtain ⟨cs', hcs, htr⟩ := hi i (by omega)
        obtain ⟨y, hk, hq⟩ := h.rd enc w base spare held n cs' _ htr
        exact ⟨y, cs', hcs, hk, hq⟩)
      refine ⟨ys, ⟨some a, cap, by rw [hl], by omega, ?_⟩, fun y hy => ?_, by omega⟩
      · refine ⟨rfl, by unfold maxLen at hcm; omega, fun _ => ⟨a, rfl, fun j p hp => ?_⟩⟩
        obtain ⟨cs', hcs, hk, _⟩ := hr j p hp
        obtain ⟨_, hcl, hat⟩ := World.cells?_some hcs
        refine ⟨cs', k.K_len hk, hk, fun i u hu => ?_⟩
        have hi2 : i < P.cellsOf e := by
          have := (List.getElem?_eq_some_iff.1 hu).1
          omega
        have := hat i hi2
        rw [Go.Deep.add_add, h.sz] at this
        rw [this]
        exact hu
      · obtain ⟨i, hi2, rfl⟩ := List.getElem_of_mem hy
        obtain ⟨_, _, _, hq⟩ := hr i _ (List.getElem?_eq_getElem hi2)
        exact hq⟩
end Go.Proofs.Ytbkbganflnemeaa.Pr
end

section
namespace Go.Proofs.Ytbkbganflnemeaa.Pr
open Go.RowKit Go.Deep Go.Maps Go.WideShapes Go.ChangeShapes Go.Proofs.YtbkbganflnemeaaW.PrintWords Go.Proofs.YtbkbganflnemeaaW.PrintLast Go.Proofs.YtbkbganflnemeaaW.PrintMore
set_option maxHeartbeats 4000000
set_option maxRecDepth 100000 in
theorem rd_two : Rd Try.prog 32 (Kd.pair Kd.string Kd.string) (fun y => y.1.size ≤ maxLen ∧ y.2.size ≤ maxLen) :=
  ⟨by kernel_rfl, fun enc w base spare held fuel cs x h => by
    obtain ⟨xs, m, _, hx, hl, hxs, hp⟩ := DataW.trod_array Try.underlying32 h
    rw [show Try.prog.cellsOf 32 = 2 by kernel_rfl] at hl
    have hc : Try.prog.cellsOf 9 = 1 := by kernel_rfl
    match cs, hl with
    | [c0, c1], _ =>
      match xs, hxs with
      | [x0, x1], _ =>
        have h0 := hp 0 (by decide)
        have h1 := hp 1 (by decide)
        simp [hc] at h0 h1
        obtain ⟨n0, e0, rfl, w0⟩ := DataW.trod_string Try.underlying9 h0
        obtain ⟨n1, e1, rfl, w1⟩ := DataW.trod_string Try.underlying9 h1
        simp at e0 e1
        subst e0 e1
        exact ⟨(n0, n1), ⟨[.string n0], [.string n1], rfl, rfl, rfl⟩, w0, w1⟩⟩
theorem at_two {w : World} {A : Option Addr} {n : Nat} {l : List (ByteArray × ByteArray)} (h : (Kd.pair Kd.string Kd.string).C w A n l) (i : Nat) (hi : i < n) :
  ∃ ad x y, A = some ad ∧ l[i]? = some (x, y) ∧ w.cell? (ad.add (i * 2)) = some (.string x) ∧ w.cell? (ad.add (i * 2 + 1)) = some (.string y) := by
 obtain ⟨ad, he, hc⟩ := h.2.2 (by omega)
 have hl : i < l.length := by have := h.1; omega
 obtain ⟨cs, h1, ⟨c0, c1, rfl, k0, k1⟩, h3⟩ := hc i _ (List.getElem?_eq_getElem hl)
 have k0' : c0 = [.string (l[i]).1] := k0
 have k1' : c1 = [.string (l[i]).2] := k1
 subst k0' k1'
 exact ⟨ad, (l[i]).1, (l[i]).2, he, List.getElem?_eq_getElem hl, h3 0 _ rfl, h3 1 _ rfl⟩
def soN (seed : ByteArray) (c n : Nat) : ByteArray := txt ((drawL seed c ((n + 16 + 31) / 32)).take (n + 16))
theorem soN_size (seed : ByteArray) (c n : Nat) : (soN seed c n).size = n + 16 := by unfold soN; rw [txt_size, List.length_take, drawL_length]; omega
theorem Seal_n (g tb mb : Nat) (seed : ByteArray) (c k n : Nat) (key nonce bound text : ByteArray) (w : World) (hs : seed.size ≤ 1000000) (hc : c ≤ 1000000) (hk : k ≤ 1000000) (hok : aeadOK key nonce bound.size text.size) (hn : text.size = n) (hI : ∃ D, IdealAt g tb mb seed c k D w) :
  Calls Try.prog 27 #[.pointer (some ⟨g, 0, none⟩), .string key, .string nonce, .string bound, .string text] w fun e w' => e = .returned (.tuple #[.string (soN seed c n), .int .i64 0]) ∧
   (∃ D, IdealAt g tb mb seed (c + (n + 16 + 31) / 32) (k + 1) D w') ∧ FrV tb mb w w' := by
 obtain ⟨D, hI⟩ := hI
 subst hn
 exact (Seal_ideal g tb mb seed c k D key nonce bound text w hs hc hk hok hI).mono fun e w' h => ⟨h.1, ⟨_, h.2.1⟩, h.2.2⟩
theorem min3_run (ts : Array TypeId) (t : TypeId) (x y : Nat) (w : World) : Sem.run Try.prog (Builtin.min_ ts t #[.int .i64 (x : Int), .int .i64 (y : Int), .int .i64 300]) w = .ok (.int .i64 ((min (min x y) 300 : Nat) : Int)) w := by
 have e : Sem.run Try.prog (Builtin.min_ ts t #[.int .i64 (x : Int), .int .i64 (y : Int), .int .i64 300]) w = .ok (.int .i64 (if (300 : Int) < (if (y : Int) < (x : Int) then (y : Int) else x) then 300 else (if (y : Int) < x then (y : Int) else x))) w := rfl
 rw [e]
 congr 2
 split <;> split <;> omega
theorem blind_heavy (seed k0 k1 : ByteArray) (A : Option Addr) (len cap : Nat) (h : ¬ (seed.size ≤ 100 ∧ k0.size = 44 ∧ k1.size = 44 ∧ len ≤ 12)) (w : World) :
  Calls Try.prog 7 #[.string seed, .agg #[.string k0, .string k1], .slice A len cap] w fun e w' => e = .returned (.bool true) ∧ Below w.heap.size w w' := by
 have HB0 : Aside0 (Below w.heap.size w (w.alloc (Obj.cells #[Value.string k0, Value.string k1] 32))) := ⟨below_alloc (Below.refl _ _) _⟩
 have HX : Aside0 ((w.alloc (Obj.cells #[Value.string k0, Value.string k1] 32)).heap[w.heap.size]? = some (.cells #[.string k0, .string k1] 32 (0, 0))) := ⟨blk_new _ _⟩
 have ends : ∀ W, Aside0 (Below w.heap.size w W) → Calls Try.prog 24 #[] W fun e w' => e = .returned (.bool true) ∧ Aside0 (Below w.heap.size w w') := fun W hW => (vawake_calls W).mono (fun e w' q => ⟨q.1, ⟨below_then hW.out hW.out.size q.2⟩⟩)
 have HE := Aside0.mk ends
 clear ends
 by_cases h1 : seed.size ≤ 100
 ·have d1 : decide (100 < (seed.size : Int)) = false := decide_eq_false (by omega)
  by_cases h2 : k0.size = 44
  ·have d2 : ((k0.size : Int) != 44) = false := by rw [bne_eq_false_iff_eq]; omega
   by_cases h3 : k1.size = 44
   ·have d3 : ((k1.size : Int) != 44) = false := by rw [bne_eq_false_iff_eq]; omega
    have d4 : decide (12 < (len : Int)) = true := decide_eq_true (by omega)
    clear h h1 h2 h3
    go_enter Try.func7, Try.ntmps7
    go_wp2_with (fail)
    refine (HE.out _ HB0).mono ?_
    rintro e w1 ⟨rfl, hb⟩
    go_wp2_with (fail)
    go_ret
    exact ⟨rfl, hb.out⟩
   ·have d3 : ((k1.size : Int) != 44) = true := by rw [bne_iff_ne]; omega
    clear h h1 h2 h3
    go_enter Try.func7, Try.ntmps7
    go_wp2_with (fail)
    refine (HE.out _ HB0).mono ?_
    rintro e w1 ⟨rfl, hb⟩
    go_wp2_with (fail)
    go_ret
    exact ⟨rfl, hb.out⟩
  ·have d2 : ((k0.size : Int) != 44) = true := by rw [bne_iff_ne]; omega
   clear h h1 h2
   go_enter Try.func7, Try.ntmps7
   go_wp2_with (fail)
   refine (HE.out _ HB0).mono ?_
   rintro e w1 ⟨rfl, hb⟩
   go_wp2_with (fail)
   go_ret
   exact ⟨rfl, hb.out⟩
 ·have d1 : decide (100 < (seed.size : Int)) = true := decide_eq_true (by omega)
  clear h h1
  go_enter Try.func7, Try.ntmps7
  go_wp2_with (fail)
  refine (HE.out _ HB0).mono ?_
  rintro e w1 ⟨rfl, hb⟩
  go_wp2_with (fail)
  go_ret
  exact ⟨rfl, hb.out⟩
set_option maxRecDepth 100000 in
theorem blind_light (seed k0 k1 : ByteArray) (A : Option Addr) (cap : Nat) (l : List (ByteArray × ByteArray)) (h1 : seed.size ≤ 100) (h2 : k0.size = 44) (h3 : k1.size = 44) (h4 : l.length ≤ 12) (w : World) (hC : (Kd.pair Kd.string Kd.string).C w A l.length l) :
    Calls Try.prog 7 #[.string seed, .agg #[.string k0, .string k1], .slice A l.length cap] w fun e w' => e = .returned (.bool true) ∧ Below w.heap.size w w' := by
  have HB0 : Aside0 (Below w.heap.size w (w.alloc (Obj.cells #[Value.string k0, Value.string k1] 32))) := ⟨below_alloc (Below.refl _ _) _⟩
  have HX0 : Aside0 ((w.alloc (Obj.cells #[Value.string k0, Value.string k1] 32)).heap[w.heap.size]? = some (.cells #[.string k0, .string k1] 32 (0, 0))) := ⟨blk_new _ _⟩
  have d1 : decide (100 < (seed.size : Int)) = false := decide_eq_false (by omega)
  have d2 : ((k0.size : Int) != 44) = false := by rw [bne_eq_false_iff_eq]; omega
  have d3 : ((k1.size : Int) != 44) = false := by rw [bne_eq_false_iff_eq]; omega
  have d4 : decide (12 < (l.length : Int)) = false := decide_eq_false (by omega)
  have e3i := eq_true (show (32 : Int) ≤ (k0.size : Int) by omega)
  have e4i := eq_true (show (32 : Int) ≤ (k1.size : Int) by omega)
  have e3 := eq_true (show 32 ≤ k0.size by omega)
  have e4 := eq_true (show 32 ≤ k1.size by omega)
  have HK0 : Aside0 ((k0.extract 0 32).size = 32 ∧ (k0.extract 32 k0.size).size = 12) := ⟨⟨by rw [ByteArray.size_extract]; omega, by rw [ByteArray.size_extract]; omega⟩⟩
  have HK1 : Aside0 ((k1.extract 0 32).size = 32 ∧ (k1.extract 32 k1.size).size = 12) := ⟨⟨by rw [ByteArray.size_extract]; omega, by rw [ByteArray.size_extract]; omega⟩⟩
  have HS := Aside0.mk (show seed.size ≤ 1000000 by omega)
  have HL := Aside0.mk h4
  have HC := Aside0.mk hC
  clear h1 h2 h3 h4 hC
  go_enter Try.func7, Try.ntmps7
  go_wp2_with (fail)
  generalize w.alloc (Obj.cells #[Value.string k0, Value.string k1] 32) = W0 at *
  refine (Ideal_calls seed _).mono ?_
  rintro e w1 ⟨rfl, hI, hb⟩
  have HA1 := Aside0.mk hI
  have HB1 := Aside0.mk (show Below w.heap.size w w1 from below_then HB0.out HB0.out.size hb)
  have HX1 := Aside0.mk ((hb.block w.heap.size (blk_lt HX0.out)).trans HX0.out)
  have HT0 : Aside0 (w.heap.size < W0.heap.size) := ⟨blk_lt HX0.out⟩
  clear hI hb HX0 HB0
  generalize W0.heap.size = ma at *
  go_wp2_with (fail)
  refine (Ideal_calls seed _).mono ?_
  rintro e w2 ⟨rfl, hI, hb⟩
  have HC2 : Aside0 (∃ D, IdealAt (w1.heap.size + 2) (w1.heap.size + 1) w1.heap.size seed 0 0 D w2) := ⟨_, hI⟩
  have HA2 : Aside0 (∃ D, IdealAt (ma + 2) (ma + 1) ma seed 0 0 D w2) := ⟨_, HA1.out.below hb⟩
  have HB2 := Aside0.mk (show Below w.heap.size w w2 from below_then HB1.out HB1.out.size hb)
  have HX2 := Aside0.mk ((hb.block w.heap.size (blk_lt HX1.out)).trans HX1.out)
  have HT1 := Aside0.mk (show ma + 2 < w1.heap.size from blk_lt HA1.out.box)
  clear hI hb HX1 HB1 HA1
  generalize w1.heap.size = mc at *
  go_wp2_with (fail)
  go_loopw [9] (fun i wr => ∃ k c : Nat, k ≤ l.length ∧ i = .int .i64 k ∧ Aside0 (c ≤ 10 * k) ∧ Aside0 (wr.heap[w.heap.size]? = some (.cells #[.string k0, .string k1] 32 (0, 0))) ∧ Aside0 (∃ D, IdealAt (ma + 2) (ma + 1) ma seed c k D wr) ∧ Aside0 (∃ D, IdealAt (mc + 2) (mc + 1) mc seed c k D wr) ∧ Aside0 (Below w.heap.size w wr)) (fun i _ => l.length - (intOf i).toNat)
  case atStart => exact ⟨0, 0, by omega, rfl, ⟨by omega⟩, HX2, HA2, HC2, HB2⟩
  case round =>
    clear HX2 HA2 HC2 HB2
    obtain ⟨k, c, hk, rfl, HCN, HX, HA, HM, HB⟩ := hrel
    by_cases hlt : k < l.length
    · have q2 : decide (k < l.length) = true := decide_eq_true hlt
      obtain ⟨ad, x, y, rfl, hget, cx, cy⟩ := at_two HC.out k hlt
      have HKN := Aside0.mk (show k < 12 by have := HL.out; omega)
      have HLT := Aside0.mk hlt
      have cy0 : w.cell? ⟨(ad.add (k * 2)).block, (ad.add (k * 2)).off + 1, none⟩ = some (.string y) := (by rw [← cy]; congr 1; unfold Addr.add; by_cases hk0 : k * 2 = 0 <;> simp [hk0, Nat.add_assoc])
      have CX := Aside0.mk cx
      have CY := Aside0.mk cy0
      have cx' := pw_cell_below HB.out cx
      have cy' := pw_cell_below HB.out cy0
      have e5 := eq_true hlt
      obtain ⟨n, hn⟩ : ∃ n, min (min x.size y.size) 300 = n := ⟨_, rfl⟩
      have hmn : ∀ W, Sem.run Try.prog (Builtin.min_ #[3, 3, 3] 3 #[.int .i64 (x.size : Int), .int .i64 (y.size : Int), .int .i64 300]) W = .ok (.int .i64 (n : Int)) W := fun W => by rw [min3_run, hn]
      have HN := Aside0.mk (show n ≤ x.size ∧ n ≤ y.size ∧ n ≤ 300 by omega)
      have e6 := eq_true HN.out.1
      have e7 := eq_true HN.out.2.1
      have e6i := eq_true (show (n : Int) ≤ (x.size : Int) by have := HN.out; omega)
      have e7i := eq_true (show (n : Int) ≤ (y.size : Int) by have := HN.out; omega)
      clear hk hlt hget cx cy cy0 hn
      go_wp2_with (fail)
      go_region_held3 (fun w' => w'.cell? (ad.add (k * 2)) = some (.string x) ∧ w'.cell? ⟨(ad.add (k * 2)).block, (ad.add (k * 2)).off + 1, none⟩ = some (.string y))
        (first | go_keep | exact ⟨cx', cy'⟩)
        (fail)
      clear cx' cy' hmn
      have hsx : (x.extract 0 n).size = n := by rw [ByteArray.size_extract]; have := HN.out; omega
      have hsy : (y.extract 0 n).size = n := by rw [ByteArray.size_extract]; have := HN.out; omega
      have hsa : ∀ W, (∃ D, IdealAt (ma + 2) (ma + 1) ma seed c k D W) → Calls Try.prog 27 #[.pointer (some ⟨ma + 2, 0, none⟩), .string (k0.extract 0 32), .string (k0.extract 32 k0.size), .string ⟨#[97]⟩, .string (x.extract 0 n)] W fun e w' => e = .returned (.tuple #[.string (soN seed c n), .int .i64 0]) ∧
          (∃ D, IdealAt (ma + 2) (ma + 1) ma seed (c + (n + 16 + 31) / 32) (k + 1) D w') ∧ FrV (ma + 1) ma W w' := fun W hW => Seal_n (ma + 2) (ma + 1) ma seed c k n _ _ _ _ W HS.out (by have := HCN.out; have := HKN.out; omega) (by have := HKN.out; omega) ⟨HK0.out.1, HK0.out.2, by decide, by rw [hsx]; show n ≤ 32768 - 1; have := HN.out; omega⟩ hsx hW
      have hsc : ∀ W, (∃ D, IdealAt (mc + 2) (mc + 1) mc seed c k D W) → Calls Try.prog 27 #[.pointer (some ⟨mc + 2, 0, none⟩), .string (k1.extract 0 32), .string (k1.extract 32 k1.size), .string ⟨#[111, 116, 104, 101, 114]⟩, .string (y.extract 0 n)] W fun e w' => e = .returned (.tuple #[.string (soN seed c n), .int .i64 0]) ∧
          (∃ D, IdealAt (mc + 2) (mc + 1) mc seed (c + (n + 16 + 31) / 32) (k + 1) D w') ∧ FrV (mc + 1) mc W w' := fun W hW => Seal_n (mc + 2) (mc + 1) mc seed c k n _ _ _ _ W HS.out (by have := HCN.out; have := HKN.out; omega) (by have := HKN.out; omega) ⟨HK1.out.1, HK1.out.2, by decide, by rw [hsy]; show n ≤ 32768 - 5; have := HN.out; omega⟩ hsy hW
      have HSA := Aside0.mk hsa
      have HSC := Aside0.mk hsc
      have HO := Aside0.mk (soN_size seed c n)
      clear hsa hsc hsx hsy
      generalize soN seed c n = O at *
      have HAD : Aside0 (∃ D, IdealAt (ma + 2) (ma + 1) ma seed c k D wr.drew.drew) := ⟨HA.out.imp fun D h => (h.below (below_drew1 (Below.refl _ _))).below (below_drew1 (Below.refl _ _))⟩
      have HAD1 : Aside0 (∃ D, IdealAt (ma + 2) (ma + 1) ma seed c k D wr.drew) := ⟨HA.out.imp fun D h => (h.below (below_drew1 (Below.refl _ _)))⟩
      have HX0 : Aside0 (wr.drew.heap[w.heap.size]? = some (.cells #[.string k0, .string k1] 32 (0, 0))) := ⟨HX.out⟩
      have HM0 : Aside0 (∃ D, IdealAt (mc + 2) (mc + 1) mc seed c k D wr.drew) := ⟨HM.out.imp fun D h => (h.below (below_drew1 (Below.refl _ _)))⟩
      have HB0 := Aside0.mk (show Below w.heap.size w wr.drew from below_drew1 HB.out)
      clear HX HM HB HA
      generalize wr.drew = wa at *
      have g0 : wa.cell? ⟨w.heap.size, 0, none⟩ = some (.string k0) := by rw [cell_of_row _ _ _ _ _ _ HX0.out]; rfl
      have cx' := pw_cell_below HB0.out CX.out
      go_wp2_with (fail)
      go_region_held3 (fun w' => w'.cell? ⟨w.heap.size, 0, none⟩ = some (.string k0) ∧ w'.cell? (ad.add (k * 2)) = some (.string x))
        (first | go_keep | exact ⟨g0, cx'⟩)
        (first
          | (go_at_call 27; (with_reducible refine (HSA.out _ (by first | exact HAD.out | exact HAD1.out)).mono ?_); rintro e w3 ⟨rfl, hI, hf0⟩; have hf : FrV (ma + 1) ma wa w3 := FrV.trans (by first | exact FrV.of_below (below_drew1 (Below.refl _ _)) | exact FrV.refl _ _ _) hf0; clear hf0; have HA3 := Aside0.mk hI; have HX3 : Aside0 (w3.heap[w.heap.size]? = some (.cells #[.string k0, .string k1] 32 (0, 0))) := ⟨(hf.2.2.2.2 w.heap.size (blk_lt HX0.out) (by have := HT0.out; omega) (by have := HT0.out; omega)).trans HX0.out⟩; have HM3 : Aside0 (∃ D, IdealAt (mc + 2) (mc + 1) mc seed c k D w3) := ⟨HM0.out.imp fun D h => h.other hf (by have := HT1.out; omega) (by have := HT1.out; omega) (by have := HT1.out; omega) (by have := HT1.out; omega) (by have := HT1.out; omega) (by have := HT1.out; omega)⟩; have HB3 := Aside0.mk (HB0.out.trans (hf.below (by have := HT0.out; omega) (by have := HT0.out; omega) HB0.out.size)); clear hI hf g0 cx'; have g0 : w3.cell? ⟨w.heap.size, 0, none⟩ = some (.string k0) := (by rw [cell_of_row _ _ _ _ _ _ HX3.out]; rfl); have cx' := pw_cell_below HB3.out CX.out))
      have HMD : Aside0 (∃ D, IdealAt (mc + 2) (mc + 1) mc seed c k D w3.drew) := ⟨HM3.out.imp fun D h => h.below (below_drew1 (Below.refl _ _))⟩
      clear HX0 HM0 HB0 HAD HAD1 HSA g0 cx'
      have g1 : w3.cell? ⟨w.heap.size, 1, none⟩ = some (.string k1) := by rw [cell_of_row _ _ _ _ _ _ HX3.out]; rfl
      have cy' := pw_cell_below HB3.out CY.out
      go_wp2_with (fail)
      go_region_held3 (fun w' => w'.cell? ⟨w.heap.size, 1, none⟩ = some (.string k1) ∧ w'.cell? ⟨(ad.add (k * 2)).block, (ad.add (k * 2)).off + 1, none⟩ = some (.string y))
        (first | go_keep | exact ⟨g1, cy'⟩)
        (first
          | (go_at_call 27; (with_reducible refine (HSC.out _ (by first | exact HMD.out | exact HM3.out)).mono ?_); rintro e w4 ⟨rfl, hI, hf0⟩; have hf : FrV (mc + 1) mc w3 w4 := FrV.trans (by first | exact FrV.of_below (below_drew1 (Below.refl _ _)) | exact FrV.refl _ _ _) hf0; clear hf0; have HM4 := Aside0.mk hI; have HX4 : Aside0 (w4.heap[w.heap.size]? = some (.cells #[.string k0, .string k1] 32 (0, 0))) := ⟨(hf.2.2.2.2 w.heap.size (blk_lt HX3.out) (by have := HT0.out; have := HT1.out; omega) (by have := HT0.out; have := HT1.out; omega)).trans HX3.out⟩; have HA4 : Aside0 (∃ D, IdealAt (ma + 2) (ma + 1) ma seed (c + (n + 16 + 31) / 32) (k + 1) D w4) := ⟨HA3.out.imp fun D h => h.other hf (by have := HT1.out; omega) (by have := HT1.out; omega) (by have := HT1.out; omega) (by have := HT1.out; omega) (by have := HT1.out; omega) (by have := HT1.out; omega)⟩; have HB4 := Aside0.mk (HB3.out.trans (hf.below (by have := HT0.out; have := HT1.out; omega) (by have := HT0.out; have := HT1.out; omega) HB3.out.size)); clear hI hf g1 cy'; have g1 : w4.cell? ⟨w.heap.size, 1, none⟩ = some (.string k1) := (by rw [cell_of_row _ _ _ _ _ _ HX4.out]; rfl); have cy' := pw_cell_below HB4.out CY.out))
      have o1 : ((O.size : Int) != (n : Int) + 16) = false := by rw [bne_eq_false_iff_eq, HO.out]; omega
      have o2 : ((O.size : Int) != wrap64 ((n : Int) + 16)) = false := by rw [bne_eq_false_iff_eq, HO.out]; have := HN.out; unfold wrap64; omega
      clear HX3 HM3 HB3 HMD HSC g1 cy' HA3
      go_wp2_with (fail)
      have hkk := HKN.out
      have hll := HLT.out
      refine ⟨⟨k + 1, c + (n + 16 + 31) / 32, hll, by rw [show wrap64 ((k : Int) + 1) = ((k + 1 : Nat) : Int) by unfold wrap64; omega], ⟨by have := HCN.out; have := HN.out; omega⟩, HX4, HA4, HM4, HB4⟩, by rw [show wrap64 ((k : Int) + 1) = ((k + 1 : Nat) : Int) by unfold wrap64; omega]; simp only [intOf, Int.toNat_natCast]; omega⟩
    · obtain rfl : k = l.length := by omega
      have q2 : decide (l.length < l.length) = false := decide_eq_false (by omega)
      have q3 : (l.length < l.length) = False := eq_false (by omega)
      clear hk hlt HX HA HM
      go_wp2_with (fail)
      refine (vawake_calls _).mono ?_
      rintro e w3 ⟨rfl, hb⟩
      have HB3 := Aside0.mk (show Below w.heap.size w w3 from below_then HB.out HB.out.size hb)
      go_wp2_with (fail)
      go_ret
      exact ⟨rfl, HB3.out⟩
theorem blind_all (seed k0 k1 : ByteArray) (A : Option Addr) (cap : Nat) (l : List (ByteArray × ByteArray)) (w : World) (hC : (Kd.pair Kd.string Kd.string).C w A l.length l) :
  Calls Try.prog 7 #[.string seed, .agg #[.string k0, .string k1], .slice A l.length cap] w fun e w' => e = .returned (.bool true) ∧ Below w.heap.size w w' := by
 by_cases h : seed.size ≤ 100 ∧ k0.size = 44 ∧ k1.size = 44 ∧ l.length ≤ 12
 ·exact blind_light seed k0 k1 A cap l h.1 h.2.1 h.2.2.1 h.2.2.2 w hC
 ·exact blind_heavy seed k0 k1 A l.length cap h w
end Go.Proofs.Ytbkbganflnemeaa.Pr
end

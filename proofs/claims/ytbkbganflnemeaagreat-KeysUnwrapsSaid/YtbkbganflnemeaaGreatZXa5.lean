/- Joined texts (pack.py): what the statement's proof needs, part a5. No condition. -/
import Derived.Below
import Derived.Deep.Draws
import Derived.Deep.AppendLies
import Derived.Maps.AppendAt
import Derived.OwnWalk
import Derived.Laws.BytesArg
import Derived.Laws.MakeOwn
import Derived.Laws.OwnMore
import Derived.Deep.OwnRows
import Derived.Tactics
import Derived.Lib.ConvBytes
import Derived.Laws.Slices
import Derived.WalkKit
import Derived.KernelRfl
import Derived.RowKit3
import Derived.Deep.LoopGhost
import Derived.Deep.QuietTactic
import Derived.BigQuiet
import Derived.WideLaws
import Derived.Deep.DeepCutAuto
import Derived.Deep.CutBlock
import Derived.Deep.RegionHeld3
import Derived.Laws.Rows
import Derived.Lib.AppendStr
import Derived.ArgAppend
import Derived.Laws.IdiomCopy
import Derived.RowKit
import Derived.OrdersHeld
import Derived.Laws.BitsLemmas
import Derived.Laws.StructEq
import Derived.Test.YtbkbganflnemeaaGreatRows
import Derived.ProofKit
import Derived.OpenShut
import Derived.ShutString
import Derived.ChangeOld
import Derived.Shelf.Strings.Builder1
import Derived.Shelf.Strings.Builder2
import Derived.Shelf.Strings.OnBuilder
import Derived.Shelf.Strings.BuilderF
import Derived.Shelf.Strings.Prefix
import Derived.Shelf.Bits.Mul64
import Derived.Shelf.Strings.Repeat
import Derived.Test.YtbkbganflnemeaaGreatProg
import Derived.Deep.RegionLaw
import Derived.StillTailTactics
import Derived.Deep.Light
import Derived.Deep.RegionHeldLaw
import Derived.Deep.DrawnRows
import Derived.IntWalk
import Derived.Deep.WholeRow
import Derived.Laws.CopyOwn
import Derived.SizedLaws
import Derived.Test.YtbkbganflnemeaaGreatZXa1
import Derived.Test.YtbkbganflnemeaaGreatZXa2
import Derived.Test.YtbkbganflnemeaaGreatZXa3
import Derived.Test.YtbkbganflnemeaaGreatZXa4
set_option linter.unusedVariables false
set_option linter.unusedSimpArgs false
section
namespace Go.Proofs.YtbkbganflnemeaaGreat.Pr
open Go.RowKit Go.Proofs.YtbkbganflnemeaaGreatW.PrintWords Go.Proofs.YtbkbganflnemeaaGreatW.PrintLast Go.Proofs.YtbkbganflnemeaaGreatW.PrintMore
attribute [local go_sem] max2_int min2_int max_two min_two max_three min_three max_four min_four
def samphireref15_Nonce.j0 : Nat → Int → Int → Bool → Option (ByteArray × Int)
 | 0, _, _, _ => none
 | k + 1, x0, x1, x15 => if x15 = true then (some ((⟨#[]⟩ : ByteArray), 1)) else (if x1 > 1099511627775 then (some ((⟨#[]⟩ : ByteArray), 150)) else ((some (([(x0) % 256] : List Int) : List Int)).bind fun y288 => (if 5 ≤ 281474976710656 then ((some (List.replicate 5 0 : List Int)).bind fun y291 => (if (strOfNums y288).size + (strOfNums y291).size ≤ 9223372036854775807 then ((samphireref15_number.f k x1).bind fun t294 => (if ((strOfNums y288) ++ (strOfNums y291)).size + t294.size ≤ 9223372036854775807 then (some (((strOfNums y288) ++ (strOfNums y291)) ++ t294, 0)) else (none))) else (none))) else (none))))
def samphireref15_Nonce.f (k : Nat) (a0 : Int) (a1 : Int) : Option (ByteArray × Int) := if a0 < 0 then (samphireref15_Nonce.j0 k a0 a1 true) else (if a0 > 6 then (samphireref15_Nonce.j0 k a0 a1 true) else (samphireref15_Nonce.j0 k a0 a1 (decide (a1 < 0))))
def samphireref15_Nonce.T5 : Bool × List (List Nat × List Nat) := (true, [([], []), ([0], [0]), ([1], [1]), ([2], [2]), ([], []), ([4], [4]), ([3, 5], [3, 5]), ([], []), ([7], [7]), ([6, 8], [6, 8]), ([9, 8, 0, 1, 2, 3, 4, 5, 6, 7, 8, 9], [9]), ([10, 0, 1, 2, 3, 4, 5, 6, 7, 8, 9, 10], [])])
def samphireref15_Nonce.B5 : List Nat := [0, 1, 3, 7, 0, 16, 63, 0, 128, 511, 1023, 2047]
theorem samphireref15_Nonce.tab5 : rtab .any (opsOf Tryz.f36 5) = samphireref15_Nonce.T5 := by kernel_rfl
theorem samphireref15_Nonce.bits5 : waitsOk samphireref15_Nonce.T5.2 samphireref15_Nonce.B5 = true := by kernel_rfl
set_option maxHeartbeats 8000000 in
set_option maxRecDepth 100000 in
theorem samphireref15_Nonce.calls (k : Nat) (a0 : Int) (a1 : Int) (r1 : ByteArray) (r2 : Int) (w : World) (h : samphireref15_Nonce.f k a0 a1 = some (r1, r2)) :
    Calls Tryz.prog 36 #[.int .i64 a0, .int .i64 a1] w fun e w' => e = .returned (.tuple #[.string r1, .int .i64 r2]) ∧ Below w.heap.size w w' := by
  have HB := Aside0.mk (Below.refl w.heap.size w); have H : (if a0 < 0 then (samphireref15_Nonce.j0 k a0 a1 true) else (if a0 > 6 then (samphireref15_Nonce.j0 k a0 a1 true) else (samphireref15_Nonce.j0 k a0 a1 (decide (a1 < 0))))) = some (r1, r2) := h; clear h; have HC3 := Aside0.mk H; clear H; go_enter Tryz.func36, Tryz.ntmps36
  go_upto_region 1 with (fail)
  go_cut [15] (fun v15 wc => ∃ (kq : Nat) (x15_2 : Bool), v15 = .bool x15_2 ∧ Aside0 (samphireref15_Nonce.j0 kq a0 a1 x15_2 = some (r1, r2)) ∧ Aside0 (kq ≤ k) ∧ Aside0 (Below w.heap.size w wc))
  case first =>
    have H := HC3.out; clear HC3; by_cases c4 : a0 < 0
    · rw [if_pos c4] at H; have c4b0 : decide (a0 < 0) = true := decide_eq_true c4; clear c4
      (first | rw [c4b0] | (simp only [i64_w, i32_w]; rw [c4b0]) | skip)
      have H' := Aside0.mk H; clear H; go_wp2; go_meet
      case rel => exact ⟨_, (true), rz_, H', ⟨by first | omega | exact Nat.le_refl _⟩, ⟨hb_⟩⟩
    · rw [if_neg c4] at H; have c4b0 : decide (a0 < 0) = false := decide_eq_false c4; clear c4
      (first | rw [c4b0] | (simp only [i64_w, i32_w]; rw [c4b0]) | skip)
      by_cases c5 : a0 > 6
      · rw [if_pos c5] at H; have c5b0 : decide (6 < a0) = true := decide_eq_true c5; clear c5; have H' := Aside0.mk H; clear H; go_wp2; go_meet
        case rel => exact ⟨_, (true), rz_, H', ⟨by first | omega | exact Nat.le_refl _⟩, ⟨hb_⟩⟩
      · rw [if_neg c5] at H; have c5b0 : decide (6 < a0) = false := decide_eq_false c5; clear c5; have H' := Aside0.mk H; clear H; go_wp2; go_meet
        case rel => exact ⟨_, (decide (a1 < 0)), rz_, H', ⟨by first | omega | exact Nat.le_refl _⟩, ⟨hb_⟩⟩
  case rest =>
    clear HC3; obtain ⟨kq, x15_2, rfl, HA, HJ2, HB⟩ := hcut; cases kq with
    | zero => exact absurd HA.out (by simp [samphireref15_Nonce.j0])
    | succ kj2 =>
      have H := HA.out; clear HA; simp only [samphireref15_Nonce.j0] at H; by_cases c6 : x15_2 = true
      · subst c6; have H1 : (some ((⟨#[]⟩ : ByteArray), 1)) = some (r1, r2) := by rw [if_pos rfl] at H; exact H
        clear H; have H := H1; clear H1; simp only [Option.some.injEq, Prod.mk.injEq] at H; obtain ⟨rfl, rfl⟩ := H; go_wp2; go_ret2
        exact ⟨ew_, hb_⟩
      · replace c6 := Bool.eq_false_iff.mpr c6; subst c6; have H1 : (if a1 > 1099511627775 then (some ((⟨#[]⟩ : ByteArray), 150)) else ((some (([(a0) % 256] : List Int) : List Int)).bind fun y288 => (if 5 ≤ 281474976710656 then ((some (List.replicate 5 0 : List Int)).bind fun y291 => (if (strOfNums y288).size + (strOfNums y291).size ≤ 9223372036854775807 then ((samphireref15_number.f kj2 a1).bind fun t294 => (if ((strOfNums y288) ++ (strOfNums y291)).size + t294.size ≤ 9223372036854775807 then (some (((strOfNums y288) ++ (strOfNums y291)) ++ t294, 0)) else (none))) else (none))) else (none)))) = some (r1, r2) := by rw [if_neg (show ¬ (false = true) by decide)] at H; exact H
        clear H; have H := H1; clear H1; by_cases c7 : a1 > 1099511627775
        · rw [if_pos c7] at H; have c7b0 : decide (1099511627775 < a1) = true := decide_eq_true c7; clear c7; simp only [Option.some.injEq, Prod.mk.injEq] at H; obtain ⟨rfl, rfl⟩ := H; go_wp2; go_ret2
          exact ⟨ew_, hb_⟩
        · rw [if_neg c7] at H; have c7b0 : decide (1099511627775 < a1) = false := decide_eq_false c7; clear c7; obtain ⟨y288, hy288⟩ : ∃ y_ : List Int, y_ = (([(a0) % 256] : List Int)) := ⟨_, rfl⟩; replace H : (if 5 ≤ 281474976710656 then ((some (List.replicate 5 0 : List Int)).bind fun y291 => (if (strOfNums y288).size + (strOfNums y291).size ≤ 9223372036854775807 then ((samphireref15_number.f kj2 a1).bind fun t294 => (if ((strOfNums y288) ++ (strOfNums y291)).size + t294.size ≤ 9223372036854775807 then (some (((strOfNums y288) ++ (strOfNums y291)) ++ t294, 0)) else (none))) else (none))) else (none)) = some (r1, r2) := by first | (rw [hy288]; with_reducible exact H) | (have H2_ := (Option.bind_some _ _).symm.trans H; rw [hy288]; with_reducible exact H2_) | (have H2_ := (Option.bind_some _ _).symm.trans H; with_reducible exact H2_) | with_reducible exact H | (rw [hy288]; exact H) | exact H
          have Ny288 := Aside0.mk hy288; clear hy288; by_cases c8 : 5 ≤ 281474976710656
          · rw [if_pos c8] at H; have c8b0 := eq_true c8; have c8b1 : decide (5 ≤ 281474976710656) = true := decide_eq_true c8; clear c8; obtain ⟨y291, hy291⟩ : ∃ y_ : List Int, y_ = (List.replicate 5 0) := ⟨_, rfl⟩; replace H : (if (strOfNums y288).size + (strOfNums y291).size ≤ 9223372036854775807 then ((samphireref15_number.f kj2 a1).bind fun t294 => (if ((strOfNums y288) ++ (strOfNums y291)).size + t294.size ≤ 9223372036854775807 then (some (((strOfNums y288) ++ (strOfNums y291)) ++ t294, 0)) else (none))) else (none)) = some (r1, r2) := by first | (rw [hy291]; with_reducible exact H) | (have H2_ := (Option.bind_some _ _).symm.trans H; rw [hy291]; with_reducible exact H2_) | (have H2_ := (Option.bind_some _ _).symm.trans H; with_reducible exact H2_) | with_reducible exact H | (rw [hy291]; exact H) | exact H
            have Ny291 := Aside0.mk hy291; clear hy291; by_cases c9 : (strOfNums y288).size + (strOfNums y291).size ≤ 9223372036854775807
            · rw [if_pos c9] at H; have c9b0 := eq_true c9; have c9b1 : decide ((strOfNums y288).size + (strOfNums y291).size ≤ 9223372036854775807) = true := decide_eq_true c9; try have c9b2 : (9223372036854775807 < (strOfNums y288).size + (strOfNums y291).size) = False := eq_false (Nat.not_lt.2 c9)
              replace H := Option.bind_eq_some_iff.mp H; obtain ⟨t294, A100, H⟩ := H; have A10 := Aside0.mk A100; clear A100; by_cases c11 : ((strOfNums y288) ++ (strOfNums y291)).size + t294.size ≤ 9223372036854775807
              · rw [if_pos c11] at H; have c11b0 := eq_true c11; have c11b1 : decide (((strOfNums y288) ++ (strOfNums y291)).size + t294.size ≤ 9223372036854775807) = true := decide_eq_true c11; try have c11b2 : (9223372036854775807 < ((strOfNums y288) ++ (strOfNums y291)).size + t294.size) = False := eq_false (Nat.not_lt.2 c11)
                try (have c11b3 := c11b2; simp only [ByteArray.size_append] at c11b3)
                simp only [Option.some.injEq, Prod.mk.injEq] at H; obtain ⟨rfl, rfl⟩ := H; try go_wp2
                replace HB := Aside0.mk (below_drew1 HB.out); refine start_ (n := 12) (S := fun w' => True) (ds := []) #[false, false, false, false, false, false, false, false, false, false, false, false] (by kernel_rfl) rfl rfl trivial (fun hHeld => ?_); refine with_tabW samphireref15_Nonce.tab5 samphireref15_Nonce.bits5 (fun HT_ HW_ => ?_); generalize wc.drew = w12 at HB hHeld ⊢; refine pz_ 0 18 rfl rfl (any_of HT_.out (by kernel_rfl)) ?_; refine pz_ 1 19 rfl rfl (any_of HT_.out (by kernel_rfl)) ?_; refine pz_ 7 25 rfl rfl (any_of HT_.out (by kernel_rfl)) ?_; refine join_ (σ := Value × Value) 3 #[true, true, true, true, true, true, true, true, true, false, false, false] (fun s_ => [(20, s_.1), (21, .string (strOfNums y288)), (22, s_.2), (23, .string (strOfNums y291)), (26, .string t294), (24, .string ((strOfNums y288) ++ (strOfNums y291)))]) (fun s_ w' => (Kd.R (Kd.int .u8) 5 w' w.heap.size (fun k_ => some k_ ≠ (s_.2 : Value).ownBlock) s_.1 y288) ∧ (Kd.R (Kd.int .u8) 5 w' w.heap.size (fun k_ => some k_ ≠ (s_.1 : Value).ownBlock) s_.2 y291) ∧ (Below w.heap.size w w')) ?_ ?_; rotate_left
                · intro hJ2_3_4_5_8; refine join_ (σ := Value × Value) 4 #[true, true, true, true, true, true, true, true, false, false, false, false] (fun s_ => [(20, s_.1), (21, .string (strOfNums y288)), (22, s_.2), (23, .string (strOfNums y291)), (24, .string ((strOfNums y288) ++ (strOfNums y291)))]) (fun s_ w' => (Kd.R (Kd.int .u8) 5 w' w.heap.size (fun k_ => some k_ ≠ (s_.2 : Value).ownBlock) s_.1 y288) ∧ (Kd.R (Kd.int .u8) 5 w' w.heap.size (fun k_ => some k_ ≠ (s_.1 : Value).ownBlock) s_.2 y291) ∧ (Below w.heap.size w w')) ?_ ?_; rotate_left
                  · intro hJ2_3_4_5; refine join_ (σ := Value × Value) 5 #[true, true, true, true, true, false, false, true, true, false, false, false] (fun s_ => [(20, s_.1), (21, .string (strOfNums y288)), (22, s_.2), (26, .string t294)]) (fun s_ w' => (Kd.R (Kd.int .u8) 5 w' w.heap.size (fun k_ => some k_ ≠ (s_.2 : Value).ownBlock) s_.1 y288) ∧ (Kd.R (Kd.int .u8) 5 w' w.heap.size (fun k_ => some k_ ≠ (s_.1 : Value).ownBlock) s_.2 y291) ∧ (Below w.heap.size w w')) ?_ ?_; rotate_left
                    · intro hJ2_3_4_8; refine join_ (σ := Value × Value) 5 #[true, true, true, false, true, true, false, true, true, false, false, false] (fun s_ => [(20, s_.1), (22, s_.2), (23, .string (strOfNums y291)), (26, .string t294)]) (fun s_ w' => (Kd.R (Kd.int .u8) 5 w' w.heap.size (fun k_ => some k_ ≠ (s_.2 : Value).ownBlock) s_.1 y288) ∧ (Kd.R (Kd.int .u8) 5 w' w.heap.size (fun k_ => some k_ ≠ (s_.1 : Value).ownBlock) s_.2 y291) ∧ (Below w.heap.size w w')) ?_ ?_; rotate_left
                      · intro hJ2_4_5_8; refine join_ (σ := Value × Value) 6 #[true, true, true, true, true, false, false, true, false, false, false, false] (fun s_ => [(20, s_.1), (21, .string (strOfNums y288)), (22, s_.2)]) (fun s_ w' => (Kd.R (Kd.int .u8) 5 w' w.heap.size (fun k_ => some k_ ≠ (s_.2 : Value).ownBlock) s_.1 y288) ∧ (Kd.R (Kd.int .u8) 5 w' w.heap.size (fun k_ => some k_ ≠ (s_.1 : Value).ownBlock) s_.2 y291) ∧ (Below w.heap.size w w')) ?_ ?_; rotate_left
                        · intro hJ2_3_4; refine join_ (σ := Value) 6 #[true, true, true, true, false, false, false, true, true, false, false, false] (fun s_ => [(20, s_), (21, .string (strOfNums y288)), (26, .string t294)]) (fun s_ w' => (Kd.R (Kd.int .u8) 5 w' w.heap.size (fun _ => True) s_ y288) ∧ (Below w.heap.size w w')) ?_ ?_; rotate_left
                          · intro hJ2_3_8; refine join_ (σ := Value × Value) 6 #[true, true, true, false, true, true, false, true, false, false, false, false] (fun s_ => [(20, s_.1), (22, s_.2), (23, .string (strOfNums y291))]) (fun s_ w' => (Kd.R (Kd.int .u8) 5 w' w.heap.size (fun k_ => some k_ ≠ (s_.2 : Value).ownBlock) s_.1 y288) ∧ (Kd.R (Kd.int .u8) 5 w' w.heap.size (fun k_ => some k_ ≠ (s_.1 : Value).ownBlock) s_.2 y291) ∧ (Below w.heap.size w w')) ?_ ?_; rotate_left
                            · intro hJ2_4_5; refine join_ (σ := Value × Value) 6 #[true, true, true, false, true, false, false, true, true, false, false, false] (fun s_ => [(20, s_.1), (22, s_.2), (26, .string t294)]) (fun s_ w' => (Kd.R (Kd.int .u8) 5 w' w.heap.size (fun k_ => some k_ ≠ (s_.2 : Value).ownBlock) s_.1 y288) ∧ (Kd.R (Kd.int .u8) 5 w' w.heap.size (fun k_ => some k_ ≠ (s_.1 : Value).ownBlock) s_.2 y291) ∧ (Below w.heap.size w w')) ?_ ?_; rotate_left
                              · intro hJ2_4_8; refine join_ (σ := Value) 6 #[true, true, false, false, true, true, false, true, true, false, false, false] (fun s_ => [(22, s_), (23, .string (strOfNums y291)), (26, .string t294)]) (fun s_ w' => (Kd.R (Kd.int .u8) 5 w' w.heap.size (fun _ => True) s_ y291) ∧ (Below w.heap.size w w')) ?_ ?_; rotate_left
                                · intro hJ4_5_8; refine join_ (σ := Value) 7 #[true, true, true, true, false, false, false, true, false, false, false, false] (fun s_ => [(20, s_), (21, .string (strOfNums y288))]) (fun s_ w' => (Kd.R (Kd.int .u8) 5 w' w.heap.size (fun _ => True) s_ y288) ∧ (Below w.heap.size w w')) ?_ ?_; rotate_left
                                  · intro hJ2_3; refine join_ (σ := Value × Value) 7 #[true, true, true, false, true, false, false, true, false, false, false, false] (fun s_ => [(20, s_.1), (22, s_.2)]) (fun s_ w' => (Kd.R (Kd.int .u8) 5 w' w.heap.size (fun k_ => some k_ ≠ (s_.2 : Value).ownBlock) s_.1 y288) ∧ (Kd.R (Kd.int .u8) 5 w' w.heap.size (fun k_ => some k_ ≠ (s_.1 : Value).ownBlock) s_.2 y291) ∧ (Below w.heap.size w w')) ?_ ?_; rotate_left
                                    · intro hJ2_4; refine join_ (σ := Value) 7 #[true, true, true, false, false, false, false, true, true, false, false, false] (fun s_ => [(20, s_), (26, .string t294)]) (fun s_ w' => (Kd.R (Kd.int .u8) 5 w' w.heap.size (fun _ => True) s_ y288) ∧ (Below w.heap.size w w')) ?_ ?_; rotate_left
                                      · intro hJ2_8; refine join_ (σ := Value) 7 #[true, true, false, false, true, true, false, true, false, false, false, false] (fun s_ => [(22, s_), (23, .string (strOfNums y291))]) (fun s_ w' => (Kd.R (Kd.int .u8) 5 w' w.heap.size (fun _ => True) s_ y291) ∧ (Below w.heap.size w w')) ?_ ?_; rotate_left
                                        · intro hJ4_5; refine join_ (σ := Value) 7 #[true, true, false, false, true, false, false, true, true, false, false, false] (fun s_ => [(22, s_), (26, .string t294)]) (fun s_ w' => (Kd.R (Kd.int .u8) 5 w' w.heap.size (fun _ => True) s_ y291) ∧ (Below w.heap.size w w')) ?_ ?_; rotate_left
                                          · intro hJ4_8; refine join_ (σ := Value) 8 #[true, true, true, false, false, false, false, true, false, false, false, false] (fun s_ => [(20, s_)]) (fun s_ w' => (Kd.R (Kd.int .u8) 5 w' w.heap.size (fun _ => True) s_ y288) ∧ (Below w.heap.size w w')) ?_ ?_; rotate_left
                                            · intro hJ2; refine join_ (σ := Value) 8 #[true, true, false, false, true, false, false, true, false, false, false, false] (fun s_ => [(22, s_)]) (fun s_ w' => (Kd.R (Kd.int .u8) 5 w' w.heap.size (fun _ => True) s_ y291) ∧ (Below w.heap.size w w')) ?_ ?_; rotate_left
                                              · intro hJ4; refine join_ (σ := Unit) 8 #[true, true, false, false, false, false, false, true, true, false, false, false] (fun s_ => [(26, .string t294)]) (fun s_ w' => (Below w.heap.size w w')) ?_ ?_; rotate_left
                                                · intro hJ8; refine three_ (i := 2) (j := 4) (k := 8) (Ni := some 20) (Nj := some 22) (Nk := some 26) #[true, true, true, false, false, false, false, true, false, false, false, false] #[true, true, false, false, true, false, false, true, false, false, false, false] #[true, true, false, false, false, false, false, true, true, false, false, false] rfl rfl rfl rfl rfl rfl (three_of HT_.out (by kernel_rfl)) (by decide) (by decide) (by decide) (fun K hK => ?_) (fun K hK => ?_) (fun K hK => ?_)
                                                  · skip; refine Kd.R_lit_step (Kd.int .u8) _ 5 ?hg (N := 20) ?hd (xs := ([(a0) % 256] : List Int)) (inner := [.int .u8 ((a0) % 256)]) (ok := fun _ => True) (okp := fun _ => True) ?hr ?hp (fun _ hk => hk) trivial (Below.refl _ _) (Nat.le_refl _) (by simp) ?_; (case hd => rfl); (case hg => rfl); (case hr => first | (go_simp; done) | (go_simp; rfl)); (case hp => exact (Reps.one (show Kd.M (Kd.int .u8) _ _ _ ((a0) % 256) [.int .u8 ((a0) % 256)] from rfl) (Reps.none _ _))); intro v289 w13 ho14 hb hg_ hnew_; clear hg_ hnew_
                                                    (first | rw [← Ny288.out] at ho14 | (simp only [Int.reduceToNat] at ho14; rw [← Ny288.out] at ho14))
                                                    have HO290 := Aside0.mk (Kd.R_lower ho14 (below_size hb_)); replace HB := Aside0.mk (below_step hb_ hb); clear hb ho14; refine hK.out _ _ trivial (fun hHeld => ?_); clear hK K; refine norm_ sa_ ?_; exact norm_ pu_ (hJ2 (v289) _ ⟨(ra_ HO290.out), hb_⟩)
                                                  · skip; refine Kd.R_make_step (Kd.int .u8) _ 5 (by rfl) (N := 22) rfl 68 _ _ rfl 5 rfl rfl Tryz.underlying68 (.int .u8 0) 1 info5 rfl (by decide) (by omega) 0 (ok := fun _ => True) (okp := fun _ => True) rfl (fun _ hk => hk) trivial (by omega) (by omega) (Below.refl _ _) (Nat.le_refl _) ?_; intro v292 w13 ho14 hb hg_ hnew_; clear hg_ hnew_
                                                    (first | rw [← Ny291.out] at ho14 | (simp only [Int.reduceToNat] at ho14; rw [← Ny291.out] at ho14))
                                                    have HO293 := Aside0.mk (Kd.R_lower ho14 (below_size hb_)); replace HB := Aside0.mk (below_step hb_ hb); clear hb ho14; refine hK.out _ _ trivial (fun hHeld => ?_); clear hK K; refine norm_ sa_ ?_; exact norm_ pu_ (hJ4 (v292) _ ⟨(ra_ HO293.out), hb_⟩)
                                                  · skip; refine goes_ Tryz.func69 (by kernel_rfl) rfl #[.int .i64 a1] (by rfl) rfl rfl la_ ?_; with_reducible refine (samphireref15_number.calls kj2 a1 t294 _ A10.out).mono ?_
                                                    rintro e w13 ⟨rfl, hb⟩; refine ⟨_, rfl, ?_⟩; replace HB := Aside0.mk (below_step hb_ hb); refine hK.out _ _ trivial (fun hHeld => ?_); clear hK K; refine norm_ sa_ ?_; exact norm_ pu_ (hJ8 () _ hb_)
                                                · skip; rintro _ w14 h0_; have n0_ : Aside0 (Below w.heap.size w w14) := ⟨h0_⟩; clear HB h0_; have HB := n0_; clear n0_; have hHeld := trivial; refine norm_ sb_ ?_; refine two_ (i := 2) (j := 4) (Ni := some 20) (Nj := some 22) #[true, true, true, false, false, false, false, true, true, false, false, false] #[true, true, false, false, true, false, false, true, true, false, false, false] rfl rfl rfl rfl (two_of HT_.out (by kernel_rfl)) (by decide) (by decide) (fun K hK => ?_) (fun K hK => ?_)
                                                  · skip; refine Kd.R_lit_step (Kd.int .u8) _ 5 ?hg (N := 20) ?hd (xs := ([(a0) % 256] : List Int)) (inner := [.int .u8 ((a0) % 256)]) (ok := fun _ => True) (okp := fun _ => True) ?hr ?hp (fun _ hk => hk) trivial (Below.refl _ _) (Nat.le_refl _) (by simp) ?_; (case hd => rfl); (case hg => rfl); (case hr => first | (go_simp; done) | (go_simp; rfl)); (case hp => exact (Reps.one (show Kd.M (Kd.int .u8) _ _ _ ((a0) % 256) [.int .u8 ((a0) % 256)] from rfl) (Reps.none _ _))); intro v289 w15 ho16 hb hg_ hnew_; clear hg_ hnew_
                                                    (first | rw [← Ny288.out] at ho16 | (simp only [Int.reduceToNat] at ho16; rw [← Ny288.out] at ho16))
                                                    have HO290 := Aside0.mk (Kd.R_lower ho16 (below_size hb_)); replace HB := Aside0.mk (below_step hb_ hb); clear hb ho16; refine hK.out _ _ trivial (fun hHeld => ?_); clear hK K; refine norm_ sa_ ?_; exact norm_ pu_ (hJ2_8 (v289) _ ⟨(ra_ HO290.out), hb_⟩)
                                                  · skip; refine Kd.R_make_step (Kd.int .u8) _ 5 (by rfl) (N := 22) rfl 68 _ _ rfl 5 rfl rfl Tryz.underlying68 (.int .u8 0) 1 info5 rfl (by decide) (by omega) 0 (ok := fun _ => True) (okp := fun _ => True) rfl (fun _ hk => hk) trivial (by omega) (by omega) (Below.refl _ _) (Nat.le_refl _) ?_; intro v292 w15 ho16 hb hg_ hnew_; clear hg_ hnew_
                                                    (first | rw [← Ny291.out] at ho16 | (simp only [Int.reduceToNat] at ho16; rw [← Ny291.out] at ho16))
                                                    have HO293 := Aside0.mk (Kd.R_lower ho16 (below_size hb_)); replace HB := Aside0.mk (below_step hb_ hb); clear hb ho16; refine hK.out _ _ trivial (fun hHeld => ?_); clear hK K; refine norm_ sa_ ?_; exact norm_ pu_ (hJ4_8 (v292) _ ⟨(ra_ HO293.out), hb_⟩)
                                              · skip; rintro v292 w15 ⟨h0_, h1_⟩; have n0_ : Aside0 (Kd.R (Kd.int .u8) 5 w15 w.heap.size (fun _ => True) v292 y291) := ⟨h0_⟩; have n1_ : Aside0 (Below w.heap.size w w15) := ⟨h1_⟩; clear HB h0_ h1_; have HO293 := n0_; have HB := n1_; clear n0_ n1_; have hHeld := trivial; refine norm_ sb_ ?_; refine three_ (i := 2) (j := 5) (k := 8) (Ni := some 20) (Nj := some 23) (Nk := some 26) #[true, true, true, false, true, false, false, true, false, false, false, false] #[true, true, false, false, true, true, false, true, false, false, false, false] #[true, true, false, false, true, false, false, true, true, false, false, false] rfl rfl rfl rfl rfl rfl (three_of HT_.out (by kernel_rfl)) (by decide) (by decide) (by decide) (fun K hK => ?_) (fun K hK => ?_) (fun K hK => ?_)
                                                · skip; refine Kd.R_lit_step (Kd.int .u8) _ 5 ?hg (N := 20) ?hd (xs := ([(a0) % 256] : List Int)) (inner := [.int .u8 ((a0) % 256)]) (ok := fun _ => True) (okp := fun _ => True) ?hr ?hp (fun _ hk => hk) trivial (Below.refl _ _) (Nat.le_refl _) (by simp) ?_; (case hd => rfl); (case hg => rfl); (case hr => first | (go_simp; done) | (go_simp; rfl)); (case hp => exact (Reps.one (show Kd.M (Kd.int .u8) _ _ _ ((a0) % 256) [.int .u8 ((a0) % 256)] from rfl) (Reps.none _ _))); intro v289 w16 ho17 hb hg_ hnew_; clear hg_ hnew_
                                                  (first | rw [← Ny288.out] at ho17 | (simp only [Int.reduceToNat] at ho17; rw [← Ny288.out] at ho17))
                                                  have HO290 := Aside0.mk (Kd.R_lower (Kd.R_new' ho17 (Kd.R_lt (ra_ HO293.out))) (below_size hb_)); replace HO293 := Aside0.mk (Kd.R_elder' (ra_ HO293.out) (Kd.R_base ho17) hb); replace HB := Aside0.mk (below_step hb_ hb); clear hb ho17; refine hK.out _ _ trivial (fun hHeld => ?_); clear hK K; refine norm_ sa_ ?_; exact norm_ pu_ (hJ2_4 (v289, v292) _ ⟨(by (with_reducible repeat (first | apply Kd.R_alloc | apply Kd.R_drewN | apply Kd.R_drew)); exact Kd.R_mono HO290.out (fun _ hk => hk.2)), (by (with_reducible repeat (first | apply Kd.R_alloc | apply Kd.R_drewN | apply Kd.R_drew)); exact Kd.R_mono HO293.out (fun _ hk => hk.2)), hb_⟩)
                                                · skip; have hcv16 := own_string (P := Tryz.prog) Tryz.underlying68 Tryz.underlying5 Tryz.underlying9 (Kd.own_of_R HO293.out); refine value_ (w1 := ?_) (v := ?_) (by rfl) rfl ?_ ?_; rotate_left 2
                                                  · go_simp
                                                    constructor
                                                    · rfl
                                                    · rfl
                                                  clear hcv16; refine hK.out _ _ trivial (fun hHeld => ?_); clear hK K; refine norm_ sa_ ?_; exact norm_ pu_ (hJ4_5 (v292) _ ⟨(ra_ HO293.out), hb_⟩)
                                                · skip; refine goes_ Tryz.func69 (by kernel_rfl) rfl #[.int .i64 a1] (by rfl) rfl rfl la_ ?_; with_reducible refine (samphireref15_number.calls kj2 a1 t294 _ A10.out).mono ?_
                                                  rintro e w16 ⟨rfl, hb⟩; refine ⟨_, rfl, ?_⟩; replace HO293 := Aside0.mk (Kd.R_below (ra_ HO293.out) hb); replace HB := Aside0.mk (below_step hb_ hb); refine hK.out _ _ trivial (fun hHeld => ?_); clear hK K; refine norm_ sa_ ?_; exact norm_ pu_ (hJ4_8 (v292) _ ⟨(ra_ HO293.out), hb_⟩)
                                            · skip; rintro v289 w15 ⟨h0_, h1_⟩; have n0_ : Aside0 (Kd.R (Kd.int .u8) 5 w15 w.heap.size (fun _ => True) v289 y288) := ⟨h0_⟩; have n1_ : Aside0 (Below w.heap.size w w15) := ⟨h1_⟩; clear HB h0_ h1_; have HO290 := n0_; have HB := n1_; clear n0_ n1_; have hHeld := trivial; refine norm_ sb_ ?_; refine three_ (i := 3) (j := 4) (k := 8) (Ni := some 21) (Nj := some 22) (Nk := some 26) #[true, true, true, true, false, false, false, true, false, false, false, false] #[true, true, true, false, true, false, false, true, false, false, false, false] #[true, true, true, false, false, false, false, true, true, false, false, false] rfl rfl rfl rfl rfl rfl (three_of HT_.out (by kernel_rfl)) (by decide) (by decide) (by decide) (fun K hK => ?_) (fun K hK => ?_) (fun K hK => ?_)
                                              · skip; have hcv16 := own_string (P := Tryz.prog) Tryz.underlying68 Tryz.underlying5 Tryz.underlying9 (Kd.own_of_R HO290.out); refine value_ (w1 := ?_) (v := ?_) (by rfl) rfl ?_ ?_; rotate_left 2
                                                · go_simp
                                                  constructor
                                                  · rfl
                                                  · rfl
                                                clear hcv16; refine hK.out _ _ trivial (fun hHeld => ?_); clear hK K; refine norm_ sa_ ?_; exact norm_ pu_ (hJ2_3 (v289) _ ⟨(ra_ HO290.out), hb_⟩)
                                              · skip; refine Kd.R_make_step (Kd.int .u8) _ 5 (by rfl) (N := 22) rfl 68 _ _ rfl 5 rfl rfl Tryz.underlying68 (.int .u8 0) 1 info5 rfl (by decide) (by omega) 0 (ok := fun _ => True) (okp := fun _ => True) rfl (fun _ hk => hk) trivial (by omega) (by omega) (Below.refl _ _) (Nat.le_refl _) ?_; intro v292 w16 ho17 hb hg_ hnew_; clear hg_ hnew_
                                                (first | rw [← Ny291.out] at ho17 | (simp only [Int.reduceToNat] at ho17; rw [← Ny291.out] at ho17))
                                                have HO293 := Aside0.mk (Kd.R_lower (Kd.R_new' ho17 (Kd.R_lt (ra_ HO290.out))) (below_size hb_)); replace HO290 := Aside0.mk (Kd.R_elder' (ra_ HO290.out) (Kd.R_base ho17) hb); replace HB := Aside0.mk (below_step hb_ hb); clear hb ho17; refine hK.out _ _ trivial (fun hHeld => ?_); clear hK K; refine norm_ sa_ ?_; exact norm_ pu_ (hJ2_4 (v289, v292) _ ⟨(by (with_reducible repeat (first | apply Kd.R_alloc | apply Kd.R_drewN | apply Kd.R_drew)); exact Kd.R_mono HO290.out (fun _ hk => hk.2)), (by (with_reducible repeat (first | apply Kd.R_alloc | apply Kd.R_drewN | apply Kd.R_drew)); exact Kd.R_mono HO293.out (fun _ hk => hk.2)), hb_⟩)
                                              · skip; refine goes_ Tryz.func69 (by kernel_rfl) rfl #[.int .i64 a1] (by rfl) rfl rfl la_ ?_; with_reducible refine (samphireref15_number.calls kj2 a1 t294 _ A10.out).mono ?_
                                                rintro e w16 ⟨rfl, hb⟩; refine ⟨_, rfl, ?_⟩; replace HO290 := Aside0.mk (Kd.R_below (ra_ HO290.out) hb); replace HB := Aside0.mk (below_step hb_ hb); refine hK.out _ _ trivial (fun hHeld => ?_); clear hK K; refine norm_ sa_ ?_; exact norm_ pu_ (hJ2_8 (v289) _ ⟨(ra_ HO290.out), hb_⟩)
                                          · skip; rintro v292 w16 ⟨h0_, h1_⟩; have n0_ : Aside0 (Kd.R (Kd.int .u8) 5 w16 w.heap.size (fun _ => True) v292 y291) := ⟨h0_⟩; have n1_ : Aside0 (Below w.heap.size w w16) := ⟨h1_⟩; clear HB h0_ h1_; have HO293 := n0_; have HB := n1_; clear n0_ n1_; have hHeld := trivial; refine norm_ sb_ ?_; refine two_ (i := 2) (j := 5) (Ni := some 20) (Nj := some 23) #[true, true, true, false, true, false, false, true, true, false, false, false] #[true, true, false, false, true, true, false, true, true, false, false, false] rfl rfl rfl rfl (two_of HT_.out (by kernel_rfl)) (by decide) (by decide) (fun K hK => ?_) (fun K hK => ?_)
                                            · skip; refine Kd.R_lit_step (Kd.int .u8) _ 5 ?hg (N := 20) ?hd (xs := ([(a0) % 256] : List Int)) (inner := [.int .u8 ((a0) % 256)]) (ok := fun _ => True) (okp := fun _ => True) ?hr ?hp (fun _ hk => hk) trivial (Below.refl _ _) (Nat.le_refl _) (by simp) ?_; (case hd => rfl); (case hg => rfl); (case hr => first | (go_simp; done) | (go_simp; rfl)); (case hp => exact (Reps.one (show Kd.M (Kd.int .u8) _ _ _ ((a0) % 256) [.int .u8 ((a0) % 256)] from rfl) (Reps.none _ _))); intro v289 w17 ho18 hb hg_ hnew_; clear hg_ hnew_
                                              (first | rw [← Ny288.out] at ho18 | (simp only [Int.reduceToNat] at ho18; rw [← Ny288.out] at ho18))
                                              have HO290 := Aside0.mk (Kd.R_lower (Kd.R_new' ho18 (Kd.R_lt (ra_ HO293.out))) (below_size hb_)); replace HO293 := Aside0.mk (Kd.R_elder' (ra_ HO293.out) (Kd.R_base ho18) hb); replace HB := Aside0.mk (below_step hb_ hb); clear hb ho18; refine hK.out _ _ trivial (fun hHeld => ?_); clear hK K; refine norm_ sa_ ?_; exact norm_ pu_ (hJ2_4_8 (v289, v292) _ ⟨(by (with_reducible repeat (first | apply Kd.R_alloc | apply Kd.R_drewN | apply Kd.R_drew)); exact Kd.R_mono HO290.out (fun _ hk => hk.2)), (by (with_reducible repeat (first | apply Kd.R_alloc | apply Kd.R_drewN | apply Kd.R_drew)); exact Kd.R_mono HO293.out (fun _ hk => hk.2)), hb_⟩)
                                            · skip; have hcv17 := own_string (P := Tryz.prog) Tryz.underlying68 Tryz.underlying5 Tryz.underlying9 (Kd.own_of_R HO293.out); refine value_ (w1 := ?_) (v := ?_) (by rfl) rfl ?_ ?_; rotate_left 2
                                              · go_simp
                                                constructor
                                                · rfl
                                                · rfl
                                              clear hcv17; refine hK.out _ _ trivial (fun hHeld => ?_); clear hK K; refine norm_ sa_ ?_; exact norm_ pu_ (hJ4_5_8 (v292) _ ⟨(ra_ HO293.out), hb_⟩)
                                        · skip; rintro v292 w16 ⟨h0_, h1_⟩; have n0_ : Aside0 (Kd.R (Kd.int .u8) 5 w16 w.heap.size (fun _ => True) v292 y291) := ⟨h0_⟩; have n1_ : Aside0 (Below w.heap.size w w16) := ⟨h1_⟩; clear HB h0_ h1_; have HO293 := n0_; have HB := n1_; clear n0_ n1_; have hHeld := trivial; refine norm_ sb_ ?_; refine two_ (i := 2) (j := 8) (Ni := some 20) (Nj := some 26) #[true, true, true, false, true, true, false, true, false, false, false, false] #[true, true, false, false, true, true, false, true, true, false, false, false] rfl rfl rfl rfl (two_of HT_.out (by kernel_rfl)) (by decide) (by decide) (fun K hK => ?_) (fun K hK => ?_)
                                          · skip; refine Kd.R_lit_step (Kd.int .u8) _ 5 ?hg (N := 20) ?hd (xs := ([(a0) % 256] : List Int)) (inner := [.int .u8 ((a0) % 256)]) (ok := fun _ => True) (okp := fun _ => True) ?hr ?hp (fun _ hk => hk) trivial (Below.refl _ _) (Nat.le_refl _) (by simp) ?_; (case hd => rfl); (case hg => rfl); (case hr => first | (go_simp; done) | (go_simp; rfl)); (case hp => exact (Reps.one (show Kd.M (Kd.int .u8) _ _ _ ((a0) % 256) [.int .u8 ((a0) % 256)] from rfl) (Reps.none _ _))); intro v289 w17 ho18 hb hg_ hnew_; clear hg_ hnew_
                                            (first | rw [← Ny288.out] at ho18 | (simp only [Int.reduceToNat] at ho18; rw [← Ny288.out] at ho18))
                                            have HO290 := Aside0.mk (Kd.R_lower (Kd.R_new' ho18 (Kd.R_lt (ra_ HO293.out))) (below_size hb_)); replace HO293 := Aside0.mk (Kd.R_elder' (ra_ HO293.out) (Kd.R_base ho18) hb); replace HB := Aside0.mk (below_step hb_ hb); clear hb ho18; refine hK.out _ _ trivial (fun hHeld => ?_); clear hK K; refine norm_ sa_ ?_; exact norm_ pu_ (hJ2_4_5 (v289, v292) _ ⟨(by (with_reducible repeat (first | apply Kd.R_alloc | apply Kd.R_drewN | apply Kd.R_drew)); exact Kd.R_mono HO290.out (fun _ hk => hk.2)), (by (with_reducible repeat (first | apply Kd.R_alloc | apply Kd.R_drewN | apply Kd.R_drew)); exact Kd.R_mono HO293.out (fun _ hk => hk.2)), hb_⟩)
                                          · skip; refine goes_ Tryz.func69 (by kernel_rfl) rfl #[.int .i64 a1] (by rfl) rfl rfl la_ ?_; with_reducible refine (samphireref15_number.calls kj2 a1 t294 _ A10.out).mono ?_
                                            rintro e w17 ⟨rfl, hb⟩; refine ⟨_, rfl, ?_⟩; replace HO293 := Aside0.mk (Kd.R_below (ra_ HO293.out) hb); replace HB := Aside0.mk (below_step hb_ hb); refine hK.out _ _ trivial (fun hHeld => ?_); clear hK K; refine norm_ sa_ ?_; exact norm_ pu_ (hJ4_5_8 (v292) _ ⟨(ra_ HO293.out), hb_⟩)
                                      · skip; rintro v289 w16 ⟨h0_, h1_⟩; have n0_ : Aside0 (Kd.R (Kd.int .u8) 5 w16 w.heap.size (fun _ => True) v289 y288) := ⟨h0_⟩; have n1_ : Aside0 (Below w.heap.size w w16) := ⟨h1_⟩; clear HB h0_ h1_; have HO290 := n0_; have HB := n1_; clear n0_ n1_; have hHeld := trivial; refine norm_ sb_ ?_; refine two_ (i := 3) (j := 4) (Ni := some 21) (Nj := some 22) #[true, true, true, true, false, false, false, true, true, false, false, false] #[true, true, true, false, true, false, false, true, true, false, false, false] rfl rfl rfl rfl (two_of HT_.out (by kernel_rfl)) (by decide) (by decide) (fun K hK => ?_) (fun K hK => ?_)
                                        · skip; have hcv17 := own_string (P := Tryz.prog) Tryz.underlying68 Tryz.underlying5 Tryz.underlying9 (Kd.own_of_R HO290.out); refine value_ (w1 := ?_) (v := ?_) (by rfl) rfl ?_ ?_; rotate_left 2
                                          · go_simp
                                            constructor
                                            · rfl
                                            · rfl
                                          clear hcv17; refine hK.out _ _ trivial (fun hHeld => ?_); clear hK K; refine norm_ sa_ ?_; exact norm_ pu_ (hJ2_3_8 (v289) _ ⟨(ra_ HO290.out), hb_⟩)
                                        · skip; refine Kd.R_make_step (Kd.int .u8) _ 5 (by rfl) (N := 22) rfl 68 _ _ rfl 5 rfl rfl Tryz.underlying68 (.int .u8 0) 1 info5 rfl (by decide) (by omega) 0 (ok := fun _ => True) (okp := fun _ => True) rfl (fun _ hk => hk) trivial (by omega) (by omega) (Below.refl _ _) (Nat.le_refl _) ?_; intro v292 w17 ho18 hb hg_ hnew_; clear hg_ hnew_
                                          (first | rw [← Ny291.out] at ho18 | (simp only [Int.reduceToNat] at ho18; rw [← Ny291.out] at ho18))
                                          have HO293 := Aside0.mk (Kd.R_lower (Kd.R_new' ho18 (Kd.R_lt (ra_ HO290.out))) (below_size hb_)); replace HO290 := Aside0.mk (Kd.R_elder' (ra_ HO290.out) (Kd.R_base ho18) hb); replace HB := Aside0.mk (below_step hb_ hb); clear hb ho18; refine hK.out _ _ trivial (fun hHeld => ?_); clear hK K; refine norm_ sa_ ?_; exact norm_ pu_ (hJ2_4_8 (v289, v292) _ ⟨(by (with_reducible repeat (first | apply Kd.R_alloc | apply Kd.R_drewN | apply Kd.R_drew)); exact Kd.R_mono HO290.out (fun _ hk => hk.2)), (by (with_reducible repeat (first | apply Kd.R_alloc | apply Kd.R_drewN | apply Kd.R_drew)); exact Kd.R_mono HO293.out (fun _ hk => hk.2)), hb_⟩)
                                    · skip; rintro ⟨v289, v292⟩ w17 ⟨h0_, h1_, h2_⟩; have n0_ : Aside0 (Kd.R (Kd.int .u8) 5 w17 w.heap.size (fun k_ => some k_ ≠ (v292 : Value).ownBlock) v289 y288) := ⟨h0_⟩; have n1_ : Aside0 (Kd.R (Kd.int .u8) 5 w17 w.heap.size (fun k_ => some k_ ≠ (v289 : Value).ownBlock) v292 y291) := ⟨h1_⟩; have n2_ : Aside0 (Below w.heap.size w w17) := ⟨h2_⟩; clear HB h0_ h1_ h2_; have HO290 := n0_; have HO293 := n1_; have HB := n2_; clear n0_ n1_ n2_; have hHeld := trivial; refine norm_ sb_ ?_; refine three_ (i := 3) (j := 5) (k := 8) (Ni := some 21) (Nj := some 23) (Nk := some 26) #[true, true, true, true, true, false, false, true, false, false, false, false] #[true, true, true, false, true, true, false, true, false, false, false, false] #[true, true, true, false, true, false, false, true, true, false, false, false] rfl rfl rfl rfl rfl rfl (three_of HT_.out (by kernel_rfl)) (by decide) (by decide) (by decide) (fun K hK => ?_) (fun K hK => ?_) (fun K hK => ?_)
                                      · skip; have hcv18 := own_string (P := Tryz.prog) Tryz.underlying68 Tryz.underlying5 Tryz.underlying9 (Kd.own_of_R HO290.out); refine value_ (w1 := ?_) (v := ?_) (by rfl) rfl ?_ ?_; rotate_left 2
                                        · go_simp
                                          constructor
                                          · rfl
                                          · rfl
                                        clear hcv18; refine hK.out _ _ trivial (fun hHeld => ?_); clear hK K; refine norm_ sa_ ?_; exact norm_ pu_ (hJ2_3_4 (v289, v292) _ ⟨(ra_ HO290.out), (ra_ HO293.out), hb_⟩)
                                      · skip; have hcv18 := own_string (P := Tryz.prog) Tryz.underlying68 Tryz.underlying5 Tryz.underlying9 (Kd.own_of_R HO293.out); refine value_ (w1 := ?_) (v := ?_) (by rfl) rfl ?_ ?_; rotate_left 2
                                        · go_simp
                                          constructor
                                          · rfl
                                          · rfl
                                        clear hcv18; refine hK.out _ _ trivial (fun hHeld => ?_); clear hK K; refine norm_ sa_ ?_; exact norm_ pu_ (hJ2_4_5 (v289, v292) _ ⟨(ra_ HO290.out), (ra_ HO293.out), hb_⟩)
                                      · skip; refine goes_ Tryz.func69 (by kernel_rfl) rfl #[.int .i64 a1] (by rfl) rfl rfl la_ ?_; with_reducible refine (samphireref15_number.calls kj2 a1 t294 _ A10.out).mono ?_
                                        rintro e w18 ⟨rfl, hb⟩; refine ⟨_, rfl, ?_⟩; replace HO290 := Aside0.mk (Kd.R_below (ra_ HO290.out) hb); replace HO293 := Aside0.mk (Kd.R_below (ra_ HO293.out) hb); replace HB := Aside0.mk (below_step hb_ hb); refine hK.out _ _ trivial (fun hHeld => ?_); clear hK K; refine norm_ sa_ ?_; exact norm_ pu_ (hJ2_4_8 (v289, v292) _ ⟨(ra_ HO290.out), (ra_ HO293.out), hb_⟩)
                                  · skip; rintro v289 w16 ⟨h0_, h1_⟩; have n0_ : Aside0 (Kd.R (Kd.int .u8) 5 w16 w.heap.size (fun _ => True) v289 y288) := ⟨h0_⟩; have n1_ : Aside0 (Below w.heap.size w w16) := ⟨h1_⟩; clear HB h0_ h1_; have HO290 := n0_; have HB := n1_; clear n0_ n1_; have hHeld := trivial; refine norm_ sb_ ?_; refine two_ (i := 4) (j := 8) (Ni := some 22) (Nj := some 26) #[true, true, true, true, true, false, false, true, false, false, false, false] #[true, true, true, true, false, false, false, true, true, false, false, false] rfl rfl rfl rfl (two_of HT_.out (by kernel_rfl)) (by decide) (by decide) (fun K hK => ?_) (fun K hK => ?_)
                                    · skip; refine Kd.R_make_step (Kd.int .u8) _ 5 (by rfl) (N := 22) rfl 68 _ _ rfl 5 rfl rfl Tryz.underlying68 (.int .u8 0) 1 info5 rfl (by decide) (by omega) 0 (ok := fun _ => True) (okp := fun _ => True) rfl (fun _ hk => hk) trivial (by omega) (by omega) (Below.refl _ _) (Nat.le_refl _) ?_; intro v292 w17 ho18 hb hg_ hnew_; clear hg_ hnew_
                                      (first | rw [← Ny291.out] at ho18 | (simp only [Int.reduceToNat] at ho18; rw [← Ny291.out] at ho18))
                                      have HO293 := Aside0.mk (Kd.R_lower (Kd.R_new' ho18 (Kd.R_lt (ra_ HO290.out))) (below_size hb_)); replace HO290 := Aside0.mk (Kd.R_elder' (ra_ HO290.out) (Kd.R_base ho18) hb); replace HB := Aside0.mk (below_step hb_ hb); clear hb ho18; refine hK.out _ _ trivial (fun hHeld => ?_); clear hK K; refine norm_ sa_ ?_; exact norm_ pu_ (hJ2_3_4 (v289, v292) _ ⟨(by (with_reducible repeat (first | apply Kd.R_alloc | apply Kd.R_drewN | apply Kd.R_drew)); exact Kd.R_mono HO290.out (fun _ hk => hk.2)), (by (with_reducible repeat (first | apply Kd.R_alloc | apply Kd.R_drewN | apply Kd.R_drew)); exact Kd.R_mono HO293.out (fun _ hk => hk.2)), hb_⟩)
                                    · skip; refine goes_ Tryz.func69 (by kernel_rfl) rfl #[.int .i64 a1] (by rfl) rfl rfl la_ ?_; with_reducible refine (samphireref15_number.calls kj2 a1 t294 _ A10.out).mono ?_
                                      rintro e w17 ⟨rfl, hb⟩; refine ⟨_, rfl, ?_⟩; replace HO290 := Aside0.mk (Kd.R_below (ra_ HO290.out) hb); replace HB := Aside0.mk (below_step hb_ hb); refine hK.out _ _ trivial (fun hHeld => ?_); clear hK K; refine norm_ sa_ ?_; exact norm_ pu_ (hJ2_3_8 (v289) _ ⟨(ra_ HO290.out), hb_⟩)
                                · skip; rintro v292 w17 ⟨h0_, h1_⟩; have n0_ : Aside0 (Kd.R (Kd.int .u8) 5 w17 w.heap.size (fun _ => True) v292 y291) := ⟨h0_⟩; have n1_ : Aside0 (Below w.heap.size w w17) := ⟨h1_⟩; clear HB h0_ h1_; have HO293 := n0_; have HB := n1_; clear n0_ n1_; have hHeld := trivial; refine norm_ sb_ ?_; refine one_ (i := 2) (N := some 20) #[true, true, true, false, true, true, false, true, true, false, false, false] rfl rfl (one_of HT_.out (by kernel_rfl)) (by decide) (fun K hK => ?_); refine Kd.R_lit_step (Kd.int .u8) _ 5 ?hg (N := 20) ?hd (xs := ([(a0) % 256] : List Int)) (inner := [.int .u8 ((a0) % 256)]) (ok := fun _ => True) (okp := fun _ => True) ?hr ?hp (fun _ hk => hk) trivial (Below.refl _ _) (Nat.le_refl _) (by simp) ?_; (case hd => rfl); (case hg => rfl); (case hr => first | (go_simp; done) | (go_simp; rfl)); (case hp => exact (Reps.one (show Kd.M (Kd.int .u8) _ _ _ ((a0) % 256) [.int .u8 ((a0) % 256)] from rfl) (Reps.none _ _))); intro v289 w18 ho19 hb hg_ hnew_; clear hg_ hnew_
                                  (first | rw [← Ny288.out] at ho19 | (simp only [Int.reduceToNat] at ho19; rw [← Ny288.out] at ho19))
                                  have HO290 := Aside0.mk (Kd.R_lower (Kd.R_new' ho19 (Kd.R_lt (ra_ HO293.out))) (below_size hb_)); replace HO293 := Aside0.mk (Kd.R_elder' (ra_ HO293.out) (Kd.R_base ho19) hb); replace HB := Aside0.mk (below_step hb_ hb); clear hb ho19; refine hK.out _ _ trivial (fun hHeld => ?_); clear hK K; refine norm_ sa_ ?_; exact norm_ pu_ (hJ2_4_5_8 (v289, v292) _ ⟨(by (with_reducible repeat (first | apply Kd.R_alloc | apply Kd.R_drewN | apply Kd.R_drew)); exact Kd.R_mono HO290.out (fun _ hk => hk.2)), (by (with_reducible repeat (first | apply Kd.R_alloc | apply Kd.R_drewN | apply Kd.R_drew)); exact Kd.R_mono HO293.out (fun _ hk => hk.2)), hb_⟩)
                              · skip; rintro ⟨v289, v292⟩ w18 ⟨h0_, h1_, h2_⟩; have n0_ : Aside0 (Kd.R (Kd.int .u8) 5 w18 w.heap.size (fun k_ => some k_ ≠ (v292 : Value).ownBlock) v289 y288) := ⟨h0_⟩; have n1_ : Aside0 (Kd.R (Kd.int .u8) 5 w18 w.heap.size (fun k_ => some k_ ≠ (v289 : Value).ownBlock) v292 y291) := ⟨h1_⟩; have n2_ : Aside0 (Below w.heap.size w w18) := ⟨h2_⟩; clear HB h0_ h1_ h2_; have HO290 := n0_; have HO293 := n1_; have HB := n2_; clear n0_ n1_ n2_; have hHeld := trivial; refine norm_ sb_ ?_; refine two_ (i := 3) (j := 5) (Ni := some 21) (Nj := some 23) #[true, true, true, true, true, false, false, true, true, false, false, false] #[true, true, true, false, true, true, false, true, true, false, false, false] rfl rfl rfl rfl (two_of HT_.out (by kernel_rfl)) (by decide) (by decide) (fun K hK => ?_) (fun K hK => ?_)
                                · skip; have hcv19 := own_string (P := Tryz.prog) Tryz.underlying68 Tryz.underlying5 Tryz.underlying9 (Kd.own_of_R HO290.out); refine value_ (w1 := ?_) (v := ?_) (by rfl) rfl ?_ ?_; rotate_left 2
                                  · go_simp
                                    constructor
                                    · rfl
                                    · rfl
                                  clear hcv19; refine hK.out _ _ trivial (fun hHeld => ?_); clear hK K; refine norm_ sa_ ?_; exact norm_ pu_ (hJ2_3_4_8 (v289, v292) _ ⟨(ra_ HO290.out), (ra_ HO293.out), hb_⟩)
                                · skip; have hcv19 := own_string (P := Tryz.prog) Tryz.underlying68 Tryz.underlying5 Tryz.underlying9 (Kd.own_of_R HO293.out); refine value_ (w1 := ?_) (v := ?_) (by rfl) rfl ?_ ?_; rotate_left 2
                                  · go_simp
                                    constructor
                                    · rfl
                                    · rfl
                                  clear hcv19; refine hK.out _ _ trivial (fun hHeld => ?_); clear hK K; refine norm_ sa_ ?_; exact norm_ pu_ (hJ2_4_5_8 (v289, v292) _ ⟨(ra_ HO290.out), (ra_ HO293.out), hb_⟩)
                            · skip; rintro ⟨v289, v292⟩ w18 ⟨h0_, h1_, h2_⟩; have n0_ : Aside0 (Kd.R (Kd.int .u8) 5 w18 w.heap.size (fun k_ => some k_ ≠ (v292 : Value).ownBlock) v289 y288) := ⟨h0_⟩; have n1_ : Aside0 (Kd.R (Kd.int .u8) 5 w18 w.heap.size (fun k_ => some k_ ≠ (v289 : Value).ownBlock) v292 y291) := ⟨h1_⟩; have n2_ : Aside0 (Below w.heap.size w w18) := ⟨h2_⟩; clear HB h0_ h1_ h2_; have HO290 := n0_; have HO293 := n1_; have HB := n2_; clear n0_ n1_ n2_; have hHeld := trivial; refine norm_ sb_ ?_; refine two_ (i := 3) (j := 8) (Ni := some 21) (Nj := some 26) #[true, true, true, true, true, true, false, true, false, false, false, false] #[true, true, true, false, true, true, false, true, true, false, false, false] rfl rfl rfl rfl (two_of HT_.out (by kernel_rfl)) (by decide) (by decide) (fun K hK => ?_) (fun K hK => ?_)
                              · skip; have hcv19 := own_string (P := Tryz.prog) Tryz.underlying68 Tryz.underlying5 Tryz.underlying9 (Kd.own_of_R HO290.out); refine value_ (w1 := ?_) (v := ?_) (by rfl) rfl ?_ ?_; rotate_left 2
                                · go_simp
                                  constructor
                                  · rfl
                                  · rfl
                                clear hcv19; refine hK.out _ _ trivial (fun hHeld => ?_); clear hK K; refine norm_ sa_ ?_; refine pz_ 6 24 rfl rfl (any_of HT_.out (by kernel_rfl)) ?_; exact norm_ pu_ (hJ2_3_4_5 (v289, v292) _ ⟨(ra_ HO290.out), (ra_ HO293.out), hb_⟩)
                              · skip; refine goes_ Tryz.func69 (by kernel_rfl) rfl #[.int .i64 a1] (by rfl) rfl rfl la_ ?_; with_reducible refine (samphireref15_number.calls kj2 a1 t294 _ A10.out).mono ?_
                                rintro e w19 ⟨rfl, hb⟩; refine ⟨_, rfl, ?_⟩; replace HO290 := Aside0.mk (Kd.R_below (ra_ HO290.out) hb); replace HO293 := Aside0.mk (Kd.R_below (ra_ HO293.out) hb); replace HB := Aside0.mk (below_step hb_ hb); refine hK.out _ _ trivial (fun hHeld => ?_); clear hK K; refine norm_ sa_ ?_; exact norm_ pu_ (hJ2_4_5_8 (v289, v292) _ ⟨(ra_ HO290.out), (ra_ HO293.out), hb_⟩)
                          · skip; rintro v289 w17 ⟨h0_, h1_⟩; have n0_ : Aside0 (Kd.R (Kd.int .u8) 5 w17 w.heap.size (fun _ => True) v289 y288) := ⟨h0_⟩; have n1_ : Aside0 (Below w.heap.size w w17) := ⟨h1_⟩; clear HB h0_ h1_; have HO290 := n0_; have HB := n1_; clear n0_ n1_; have hHeld := trivial; refine norm_ sb_ ?_; refine one_ (i := 4) (N := some 22) #[true, true, true, true, true, false, false, true, true, false, false, false] rfl rfl (one_of HT_.out (by kernel_rfl)) (by decide) (fun K hK => ?_); refine Kd.R_make_step (Kd.int .u8) _ 5 (by rfl) (N := 22) rfl 68 _ _ rfl 5 rfl rfl Tryz.underlying68 (.int .u8 0) 1 info5 rfl (by decide) (by omega) 0 (ok := fun _ => True) (okp := fun _ => True) rfl (fun _ hk => hk) trivial (by omega) (by omega) (Below.refl _ _) (Nat.le_refl _) ?_; intro v292 w18 ho19 hb hg_ hnew_; clear hg_ hnew_
                            (first | rw [← Ny291.out] at ho19 | (simp only [Int.reduceToNat] at ho19; rw [← Ny291.out] at ho19))
                            have HO293 := Aside0.mk (Kd.R_lower (Kd.R_new' ho19 (Kd.R_lt (ra_ HO290.out))) (below_size hb_)); replace HO290 := Aside0.mk (Kd.R_elder' (ra_ HO290.out) (Kd.R_base ho19) hb); replace HB := Aside0.mk (below_step hb_ hb); clear hb ho19; refine hK.out _ _ trivial (fun hHeld => ?_); clear hK K; refine norm_ sa_ ?_; exact norm_ pu_ (hJ2_3_4_8 (v289, v292) _ ⟨(by (with_reducible repeat (first | apply Kd.R_alloc | apply Kd.R_drewN | apply Kd.R_drew)); exact Kd.R_mono HO290.out (fun _ hk => hk.2)), (by (with_reducible repeat (first | apply Kd.R_alloc | apply Kd.R_drewN | apply Kd.R_drew)); exact Kd.R_mono HO293.out (fun _ hk => hk.2)), hb_⟩)
                        · skip; rintro ⟨v289, v292⟩ w18 ⟨h0_, h1_, h2_⟩; have n0_ : Aside0 (Kd.R (Kd.int .u8) 5 w18 w.heap.size (fun k_ => some k_ ≠ (v292 : Value).ownBlock) v289 y288) := ⟨h0_⟩; have n1_ : Aside0 (Kd.R (Kd.int .u8) 5 w18 w.heap.size (fun k_ => some k_ ≠ (v289 : Value).ownBlock) v292 y291) := ⟨h1_⟩; have n2_ : Aside0 (Below w.heap.size w w18) := ⟨h2_⟩; clear HB h0_ h1_ h2_; have HO290 := n0_; have HO293 := n1_; have HB := n2_; clear n0_ n1_ n2_; have hHeld := trivial; refine norm_ sb_ ?_; refine two_ (i := 5) (j := 8) (Ni := some 23) (Nj := some 26) #[true, true, true, true, true, true, false, true, false, false, false, false] #[true, true, true, true, true, false, false, true, true, false, false, false] rfl rfl rfl rfl (two_of HT_.out (by kernel_rfl)) (by decide) (by decide) (fun K hK => ?_) (fun K hK => ?_)
                          · skip; have hcv19 := own_string (P := Tryz.prog) Tryz.underlying68 Tryz.underlying5 Tryz.underlying9 (Kd.own_of_R HO293.out); refine value_ (w1 := ?_) (v := ?_) (by rfl) rfl ?_ ?_; rotate_left 2
                            · go_simp
                              constructor
                              · rfl
                              · rfl
                            clear hcv19; refine hK.out _ _ trivial (fun hHeld => ?_); clear hK K; refine norm_ sa_ ?_; refine pz_ 6 24 rfl rfl (any_of HT_.out (by kernel_rfl)) ?_; exact norm_ pu_ (hJ2_3_4_5 (v289, v292) _ ⟨(ra_ HO290.out), (ra_ HO293.out), hb_⟩)
                          · skip; refine goes_ Tryz.func69 (by kernel_rfl) rfl #[.int .i64 a1] (by rfl) rfl rfl la_ ?_; with_reducible refine (samphireref15_number.calls kj2 a1 t294 _ A10.out).mono ?_
                            rintro e w19 ⟨rfl, hb⟩; refine ⟨_, rfl, ?_⟩; replace HO290 := Aside0.mk (Kd.R_below (ra_ HO290.out) hb); replace HO293 := Aside0.mk (Kd.R_below (ra_ HO293.out) hb); replace HB := Aside0.mk (below_step hb_ hb); refine hK.out _ _ trivial (fun hHeld => ?_); clear hK K; refine norm_ sa_ ?_; exact norm_ pu_ (hJ2_3_4_8 (v289, v292) _ ⟨(ra_ HO290.out), (ra_ HO293.out), hb_⟩)
                      · skip; rintro ⟨v289, v292⟩ w19 ⟨h0_, h1_, h2_⟩; have n0_ : Aside0 (Kd.R (Kd.int .u8) 5 w19 w.heap.size (fun k_ => some k_ ≠ (v292 : Value).ownBlock) v289 y288) := ⟨h0_⟩; have n1_ : Aside0 (Kd.R (Kd.int .u8) 5 w19 w.heap.size (fun k_ => some k_ ≠ (v289 : Value).ownBlock) v292 y291) := ⟨h1_⟩; have n2_ : Aside0 (Below w.heap.size w w19) := ⟨h2_⟩; clear HB h0_ h1_ h2_; have HO290 := n0_; have HO293 := n1_; have HB := n2_; clear n0_ n1_ n2_; have hHeld := trivial; refine norm_ sb_ ?_; refine one_ (i := 3) (N := some 21) #[true, true, true, true, true, true, false, true, true, false, false, false] rfl rfl (one_of HT_.out (by kernel_rfl)) (by decide) (fun K hK => ?_); have hcv20 := own_string (P := Tryz.prog) Tryz.underlying68 Tryz.underlying5 Tryz.underlying9 (Kd.own_of_R HO290.out); refine value_ (w1 := ?_) (v := ?_) (by rfl) rfl ?_ ?_; rotate_left 2
                        · go_simp
                          constructor
                          · rfl
                          · rfl
                        clear hcv20; refine hK.out _ _ trivial (fun hHeld => ?_); clear hK K; refine norm_ sa_ ?_; refine pz_ 6 24 rfl rfl (any_of HT_.out (by kernel_rfl)) ?_; exact norm_ pu_ (hJ2_3_4_5_8 (v289, v292) _ ⟨(ra_ HO290.out), (ra_ HO293.out), hb_⟩)
                    · skip; rintro ⟨v289, v292⟩ w19 ⟨h0_, h1_, h2_⟩; have n0_ : Aside0 (Kd.R (Kd.int .u8) 5 w19 w.heap.size (fun k_ => some k_ ≠ (v292 : Value).ownBlock) v289 y288) := ⟨h0_⟩; have n1_ : Aside0 (Kd.R (Kd.int .u8) 5 w19 w.heap.size (fun k_ => some k_ ≠ (v289 : Value).ownBlock) v292 y291) := ⟨h1_⟩; have n2_ : Aside0 (Below w.heap.size w w19) := ⟨h2_⟩; clear HB h0_ h1_ h2_; have HO290 := n0_; have HO293 := n1_; have HB := n2_; clear n0_ n1_ n2_; have hHeld := trivial; refine norm_ sb_ ?_; refine one_ (i := 5) (N := some 23) #[true, true, true, true, true, true, false, true, true, false, false, false] rfl rfl (one_of HT_.out (by kernel_rfl)) (by decide) (fun K hK => ?_); have hcv20 := own_string (P := Tryz.prog) Tryz.underlying68 Tryz.underlying5 Tryz.underlying9 (Kd.own_of_R HO293.out); refine value_ (w1 := ?_) (v := ?_) (by rfl) rfl ?_ ?_; rotate_left 2
                      · go_simp
                        constructor
                        · rfl
                        · rfl
                      clear hcv20; refine hK.out _ _ trivial (fun hHeld => ?_); clear hK K; refine norm_ sa_ ?_; refine pz_ 6 24 rfl rfl (any_of HT_.out (by kernel_rfl)) ?_; exact norm_ pu_ (hJ2_3_4_5_8 (v289, v292) _ ⟨(ra_ HO290.out), (ra_ HO293.out), hb_⟩)
                  · skip; rintro ⟨v289, v292⟩ w19 ⟨h0_, h1_, h2_⟩; have n0_ : Aside0 (Kd.R (Kd.int .u8) 5 w19 w.heap.size (fun k_ => some k_ ≠ (v292 : Value).ownBlock) v289 y288) := ⟨h0_⟩; have n1_ : Aside0 (Kd.R (Kd.int .u8) 5 w19 w.heap.size (fun k_ => some k_ ≠ (v289 : Value).ownBlock) v292 y291) := ⟨h1_⟩; have n2_ : Aside0 (Below w.heap.size w w19) := ⟨h2_⟩; clear HB h0_ h1_ h2_; have HO290 := n0_; have HO293 := n1_; have HB := n2_; clear n0_ n1_ n2_; have hHeld := trivial; refine norm_ sb_ ?_; refine one_ (i := 8) (N := some 26) #[true, true, true, true, true, true, true, true, true, false, false, false] rfl rfl (one_of HT_.out (by kernel_rfl)) (by decide) (fun K hK => ?_); refine goes_ Tryz.func69 (by kernel_rfl) rfl #[.int .i64 a1] (by rfl) rfl rfl la_ ?_; with_reducible refine (samphireref15_number.calls kj2 a1 t294 _ A10.out).mono ?_
                    rintro e w20 ⟨rfl, hb⟩; refine ⟨_, rfl, ?_⟩; replace HO290 := Aside0.mk (Kd.R_below (ra_ HO290.out) hb); replace HO293 := Aside0.mk (Kd.R_below (ra_ HO293.out) hb); replace HB := Aside0.mk (below_step hb_ hb); refine hK.out _ _ trivial (fun hHeld => ?_); clear hK K; refine norm_ sa_ ?_; exact norm_ pu_ (hJ2_3_4_5_8 (v289, v292) _ ⟨(ra_ HO290.out), (ra_ HO293.out), hb_⟩)
                rintro ⟨v289, v292⟩ w20 ⟨h0_, h1_, h2_⟩; have n0_ : Aside0 (Kd.R (Kd.int .u8) 5 w20 w.heap.size (fun k_ => some k_ ≠ (v292 : Value).ownBlock) v289 y288) := ⟨h0_⟩; have n1_ : Aside0 (Kd.R (Kd.int .u8) 5 w20 w.heap.size (fun k_ => some k_ ≠ (v289 : Value).ownBlock) v292 y291) := ⟨h1_⟩; have n2_ : Aside0 (Below w.heap.size w w20) := ⟨h2_⟩; clear HB h0_ h1_ h2_; have HO290 := n0_; have HO293 := n1_; have HB := n2_; clear n0_ n1_ n2_; have hHeld := trivial; refine norm_ sb_ ?_; refine pz_ 9 27 rfl rfl (any_of HT_.out (by kernel_rfl)) ?_; refine pz_ 10 4 rfl rfl (any_of HT_.out (by kernel_rfl)) ?_; refine pz_ 11 5 rfl rfl (any_of HT_.out (by kernel_rfl)) ?_; refine done_ (done_of HT_.out (by kernel_rfl)) ?_; try go_wp2
                go_ret2
                exact ⟨ew_, hb_⟩
              · rw [if_neg c11] at H; exact absurd H (by simp)
            · rw [if_neg c9] at H; exact absurd H (by simp)
          · rw [if_neg c8] at H; exact absurd H (by simp)
end Go.Proofs.YtbkbganflnemeaaGreat.Pr
end

section
namespace Go.Proofs.YtbkbganflnemeaaGreat.Pr
open Go.RowKit Go.Deep Go.Proofs.YtbkbganflnemeaaGreatW.PrintWords Go.Proofs.YtbkbganflnemeaaGreatW.PrintLast Go.Proofs.YtbkbganflnemeaaGreatW.PrintMore
set_option maxHeartbeats 2000000
theorem rnonce_f (k : Nat) (who n : Int) : samphireref15_Nonce.f (k + 11) who n = some (nonceF who n) := by
 have hno : ∀ m, samphireref15_Nonce.j0 (m + 1) who n true = some (⟨#[]⟩, 1) := fun m => by rw [samphireref15_Nonce.j0, if_pos rfl]
 unfold samphireref15_Nonce.f nonceF
 by_cases h0 : who < 0
 ·rw [if_pos h0, hno, if_pos (.inl h0)]
 ·rw [if_neg h0]
  by_cases h6 : who > 6
  ·rw [if_pos h6, hno, if_pos (.inr (.inl h6))]
  ·rw [if_neg h6]
   by_cases hn : n < 0
   ·rw [decide_eq_true hn, hno, if_pos (.inr (.inr hn))]
   ·rw [decide_eq_false hn, if_neg (by omega), samphireref15_Nonce.j0, if_neg (by decide)]
    by_cases hs : n > 1099511627775
    ·rw [if_pos hs, if_pos (by omega)]
    ·have e1 : numT n = txt (byN n 6) := if_pos (by unfold timeB; exact decide_eq_true (by omega))
     rw [if_neg hs, if_neg (by omega), Option.bind_some, if_pos (by decide), Option.bind_some, one_str, noughts_str 5, if_pos (by rw [txt_size, txt_size]; simp), rnum_f k, Option.bind_some, e1, ← txt_append,
      if_pos (by rw [txt_size, txt_size, byN_length _ _ (by decide)]; simp), ← txt_append]
     rfl
end Go.Proofs.YtbkbganflnemeaaGreat.Pr
end

section
namespace Go.Proofs.YtbkbganflnemeaaGreat.Pr
open Go.RowKit Go.Proofs.YtbkbganflnemeaaGreatW.PrintWords
set_option maxHeartbeats 1000000
set_option maxRecDepth 100000 in
theorem rQuarter_calls (a b c d : Nat) (w : World) (ha : a < 4294967296) (hb : b < 4294967296) (hc : c < 4294967296) (hd : d < 4294967296) :
  Calls Tryz.prog 189 #[.agg #[.int .i64 a, .int .i64 b, .int .i64 c, .int .i64 d]] w fun e w' => e = .returned (.agg #[.int .i64 (qa2 a b c d : Nat), .int .i64 (qb2 a b c d : Nat), .int .i64 (qc2 a b c d : Nat), .int .i64 (qd2 a b c d : Nat)]) ∧ Below w.heap.size w w' := by
 obtain ⟨k1, k2, k3, k4, k5, k6, k7, k8⟩ := qbounds a b c d ha hb hc hd
 have word : ∀ (z : Int) (n r : Nat), z = (n : Int) → n % 4294967296 = r → n < 4611686018427387904 → ∀ W, Calls Tryz.prog 120 #[.int .i64 z] W fun e w' => e = .returned (.int .i64 (r : Nat)) ∧ w' = W := by
  intro z n r hz hr hn W
  subst hz; subst hr
  exact word_any n W hn
 have c1 := Aside0.mk (word ((a : Int) + b) (a + b) (qa1 a b) (by omega) rfl (by omega))
 have c2 := Aside0.mk (word ((c : Int) + ((qd1 a b d : Nat) : Int)) (c + qd1 a b d) (qc1 a b c d) (by omega) rfl (by omega))
 have c3 := Aside0.mk (word (((qa1 a b : Nat) : Int) + ((qb1 a b c d : Nat) : Int)) (qa1 a b + qb1 a b c d) (qa2 a b c d) (by omega) rfl (by omega))
 have c4 := Aside0.mk (word (((qc1 a b c d : Nat) : Int) + ((qd2 a b c d : Nat) : Int)) (qc1 a b c d + qd2 a b c d) (qc2 a b c d) (by omega) rfl (by omega))
 have r1 : Aside0 (∀ W, Calls Tryz.prog 196 #[.int .i64 (bits .xor .i64 (d : Int) ((qa1 a b : Nat) : Int)), .int .i64 16] W fun e w' => e = .returned (.int .i64 (qd1 a b d : Nat)) ∧ ∃ n, w' = W.drewN n) := ⟨fun W => by
  rw [xor62 _ _ (by omega) (by omega)]; exact rot_16 _ W (xlt32 hd k1)⟩
 have r2 : Aside0 (∀ W, Calls Tryz.prog 196 #[.int .i64 (bits .xor .i64 (b : Int) ((qc1 a b c d : Nat) : Int)), .int .i64 12] W fun e w' => e = .returned (.int .i64 (qb1 a b c d : Nat)) ∧ ∃ n, w' = W.drewN n) := ⟨fun W => by
  rw [xor62 _ _ (by omega) (by omega)]; exact rot_12 _ W (xlt32 hb k3)⟩
 have r3 : Aside0 (∀ W, Calls Tryz.prog 196 #[.int .i64 (bits .xor .i64 ((qd1 a b d : Nat) : Int) ((qa2 a b c d : Nat) : Int)), .int .i64 8] W fun e w' => e = .returned (.int .i64 (qd2 a b c d : Nat)) ∧ ∃ n, w' = W.drewN n) := ⟨fun W => by
  rw [xor62 _ _ (by omega) (by omega)]; exact rot_8 _ W (xlt32 k2 k5)⟩
 have r4 : Aside0 (∀ W, Calls Tryz.prog 196 #[.int .i64 (bits .xor .i64 ((qb1 a b c d : Nat) : Int) ((qc2 a b c d : Nat) : Int)), .int .i64 7] W fun e w' => e = .returned (.int .i64 (qb2 a b c d : Nat)) ∧ ∃ n, w' = W.drewN n) := ⟨fun W => by
  rw [xor62 _ _ (by omega) (by omega)]; exact rot_7 _ W (xlt32 k4 k7)⟩
 have wa := Aside0.mk (word (a : Int) a a rfl (Nat.mod_eq_of_lt ha) (by omega))
 have wb := Aside0.mk (word (b : Int) b b rfl (Nat.mod_eq_of_lt hb) (by omega))
 have wc := Aside0.mk (word (c : Int) c c rfl (Nat.mod_eq_of_lt hc) (by omega))
 have wd := Aside0.mk (word (d : Int) d d rfl (Nat.mod_eq_of_lt hd) (by omega))
 clear word
 generalize qa1 a b = a1 at *
 generalize qd1 a b d = d1 at *
 generalize qc1 a b c d = c1' at *
 generalize qb1 a b c d = b1 at *
 generalize qa2 a b c d = a2 at *
 generalize qd2 a b c d = d2 at *
 generalize qc2 a b c d = c2' at *
 generalize qb2 a b c d = b2 at *
 go_enter Tryz.func189, Tryz.ntmps189
 go_wp2_with (fail)
 go_quiet (first | (go_at_call 120; exact Calls.quiet_of_same (wa.out _)) | (go_at_call 120; exact Calls.quiet_of_same (wb.out _)) | (go_at_call 120; exact Calls.quiet_of_same (wc.out _)) | (go_at_call 120; exact Calls.quiet_of_same (wd.out _)))
 go_wp2_with (fail)
 refine (c1.out _).mono ?_
 rintro e w1 ⟨rfl, rfl⟩
 go_wp2_with (fail)
 refine (r1.out _).mono ?_
 rintro e w1 ⟨rfl, ⟨n1, rfl⟩⟩
 go_wp2_with (fail)
 refine (c2.out _).mono ?_
 rintro e w1 ⟨rfl, rfl⟩
 go_wp2_with (fail)
 refine (r2.out _).mono ?_
 rintro e w1 ⟨rfl, ⟨n3, rfl⟩⟩
 go_wp2_with (fail)
 refine (c3.out _).mono ?_
 rintro e w1 ⟨rfl, rfl⟩
 go_wp2_with (fail)
 refine (r3.out _).mono ?_
 rintro e w1 ⟨rfl, ⟨n5, rfl⟩⟩
 go_wp2_with (fail)
 refine (c4.out _).mono ?_
 rintro e w1 ⟨rfl, rfl⟩
 go_wp2_with (fail)
 refine (r4.out _).mono ?_
 rintro e w1 ⟨rfl, ⟨n7, rfl⟩⟩
 go_wp2_with (fail)
 have hb0 : (((w.alloc (.cells #[.int .i64 a, .int .i64 b, .int .i64 c, .int .i64 d] 223)).alloc (.cells #[.int .i64 0, .int .i64 0, .int .i64 0, .int .i64 0] 223)).drewN (nq + n1 + n3 + n5 + n7)).heap[w.heap.size + 1]? = some (.cells #[.int .i64 0, .int .i64 0, .int .i64 0, .int .i64 0] 223 (0, 0)) := by
  have := heap_alloc_new (w.alloc (.cells #[.int .i64 a, .int .i64 b, .int .i64 c, .int .i64 d] 223)) (.cells #[.int .i64 0, .int .i64 0, .int .i64 0, .int .i64 0] 223)
  rwa [show (w.alloc (.cells #[.int .i64 a, .int .i64 b, .int .i64 c, .int .i64 d] 223)).heap.size = w.heap.size + 1 by simp] at this
 refine bodyPost_ret (results_cell_row rfl _ _ (w.heap.size + 1) 223 #[.int .i64 a2, .int .i64 b2, .int .i64 c2', .int .i64 d2] (0, 0) _ rfl (blk_put (blk_put (blk_put (blk_put hb0 0 _ rfl) 1 _ rfl) 2 _ rfl) 3 _ rfl) Tryz.underlying223 rfl (by kernel_rfl)) rfl ?_
 refine ⟨rfl, ?_⟩
 have hB := pw_below_drewN (below_alloc (below_alloc (Below.refl w.heap.size w) (.cells #[.int .i64 a, .int .i64 b, .int .i64 c, .int .i64 d] 223)) (.cells #[.int .i64 0, .int .i64 0, .int .i64 0, .int .i64 0] 223)) (nq + n1 + n3 + n5 + n7)
 exact (((hB.setCell (by simp) _).setCell (by simp) _).setCell (by simp) _).setCell (by simp) _
end Go.Proofs.YtbkbganflnemeaaGreat.Pr
end

section
namespace Go.Proofs.YtbkbganflnemeaaGreat.Pr
open Go.RowKit Go.Proofs.YtbkbganflnemeaaGreatW.PrintWords Go.Proofs.YtbkbganflnemeaaGreatW.PrintLast
set_option maxHeartbeats 2000000
structure RAt (w : World) (s go cap : Nat) (Y : Array Value) (l : List Nat) (W : World) : Prop where
 own : (Kd.int .i64).R 3 W w.heap.size (fun _ => True) (.slice (some ⟨go, 0, none⟩) 16 cap) (ints l)
 box : W.heap[s]? = some (.cells Y 223 (0, 0))
 bel : Below w.heap.size w W
 ne : s ≠ go
 ge : w.heap.size ≤ go
theorem ints_set (l : List Nat) (i y : Nat) : (ints l).set i (y : Int) = ints (l.set i y) := by simp [ints]
theorem RAt.put {w W : World} {s go cap : Nat} {Y : Array Value} {l : List Nat} (h : RAt w s go cap Y l W) (i y : Nat) : RAt w s go cap Y (l.set i y) (W.setCell ⟨go, i, none⟩ (.int .i64 (y : Int))) := by
 refine ⟨?_, blk_far h.box h.ne _, below_set h.bel h.ge, h.ne, h.ge⟩
 have := Kd.R_putn h.own (i : Int) (y : Int)
 rw [Int.toNat_natCast, ints_set] at this
 exact this
theorem RAt.cell {w W : World} {s go cap : Nat} {Y : Array Value} {l : List Nat} (h : RAt w s go cap Y l W) (i : Nat) (hi : i < 16) : W.cell? ⟨go, i, none⟩ = some (.int .i64 (l.getD i 0 : Nat)) ∧ W.frozen? ⟨go, i, none⟩ = false := by
 obtain ⟨h1, h2⟩ := Kd.R_celln (0 : Int) h.own (i : Int) (by omega) (by omega)
 rw [Int.toNat_natCast] at h1 h2
 have e : rdOf (0 : Int) (ints l) (i : Int) = (l.getD i 0 : Nat) := rd_ints l i
 rw [e] at h1
 exact ⟨h1, h2⟩
set_option maxRecDepth 100000 in
theorem round_yes (ad : Addr) (c0_ : Nat) (L : List Nat) (a b c d : Nat) (w : World) (hL : L.length = 16) (hs : Small L) (ha : a < 16) (hb : b < 16) (hc : c < 16) (hd : d < 16) (hr0 : (Kd.int .i64).C w (some ad) 16 (ints L)) (hc0 : 16 ≤ c0_) :
  Calls Tryz.prog 161 #[.slice (some ad) 16 c0_, .int .i64 a, .int .i64 b, .int .i64 c, .int .i64 d] w fun e w' => ∃ v0_ : Value, e = .returned v0_ ∧ (Kd.int .i64).R 3 w' w.heap.size (fun _ => True) v0_ (ints (qr L a b c d)) ∧ Below w.heap.size w w' := by
 have cell : ∀ i : Nat, i < 16 → w.cell? (ad.add i) = some (.int .i64 (L.getD i 0 : Nat)) := by
  intro i hi
  obtain ⟨ad', e, h⟩ := Kd.at_int hr0 (i : Int) (by omega) (by omega)
  cases e
  rw [rd_ints] at h
  exact h
 have c0 := cell a ha
 have c1 := cell b hb
 have c2 := cell c hc
 have c3 := cell d hd
 have hq : qr L a b c d = (((L.set a (qa2 (L.getD a 0) (L.getD b 0) (L.getD c 0) (L.getD d 0))).set b (qb2 (L.getD a 0) (L.getD b 0) (L.getD c 0) (L.getD d 0))).set c (qc2 (L.getD a 0) (L.getD b 0) (L.getD c 0) (L.getD d 0))).set d (qd2 (L.getD a 0) (L.getD b 0) (L.getD c 0) (L.getD d 0)) := rfl
 have b0 := hs a
 have b1 := hs b
 have b2 := hs c
 have b3 := hs d
 rw [hq]
 clear hq cell
 generalize L.getD a 0 = x0 at *
 generalize L.getD b 0 = x1 at *
 generalize L.getD c 0 = x2 at *
 generalize L.getD d 0 = x3 at *
 have HR := Aside0.mk hr0
 have HLl := Aside0.mk hL
 have q0 : (a : Int) < 16 := by omega
 have q1 : (b : Int) < 16 := by omega
 have q2 : (c : Int) < 16 := by omega
 have q3 : (d : Int) < 16 := by omega
 clear hr0 hL hs
 go_enter Tryz.func161, Tryz.ntmps161
 go_wp2_with (fail)
 refine start_ (n := 20) (S := fun w' => w'.cell? (ad.add a) = some (.int .i64 (x0 : Int)) ∧ w'.cell? (ad.add b) = some (.int .i64 (x1 : Int)) ∧ w'.cell? (ad.add c) = some (.int .i64 (x2 : Int)) ∧ w'.cell? (ad.add d) = some (.int .i64 (x3 : Int))) (ds := [19]) #[false, false, false, false, false, false, false, false, false, false, false, false, false, false, false, false, false, false, false, false] (by kernel_rfl) rfl rfl ⟨(show _ from c0), (show _ from c1), (show _ from c2), (show _ from c3)⟩ (fun hHeld => ?_)
 refine pz_ 0 13 rfl rfl (by kernel_rfl) ?_
 refine pz_ 1 14 rfl rfl (by kernel_rfl) ?_
 refine pz_ 2 15 rfl rfl (by kernel_rfl) ?_
 refine pz_ 4 17 rfl rfl (by kernel_rfl) ?_
 refine pz_ 5 18 rfl rfl (by kernel_rfl) ?_
 refine pz_ 6 19 rfl rfl (by kernel_rfl) ?_
 refine pz_ 8 21 rfl rfl (by kernel_rfl) ?_
 refine pz_ 9 22 rfl rfl (by kernel_rfl) ?_
 refine pz_ 10 23 rfl rfl (by kernel_rfl) ?_
 refine pz_ 12 25 rfl rfl (by kernel_rfl) ?_
 refine pz_ 13 26 rfl rfl (by kernel_rfl) ?_
 refine pz_ 14 27 rfl rfl (by kernel_rfl) ?_
 refine take_ (i := 3) (N := some 16) (v := ?_) (a' := ?_) #[true, true, true, true, true, true, true, false, true, true, true, false, true, true, true, false, false, false, false, false] rfl rfl (by kernel_rfl) (fun _ _ _ h => h) (Or.inl ⟨by rfl, ?_⟩) hHeld ?_ ?_
 rotate_left
 ·rintro w' ⟨s0, s1, s2, s3⟩
  go_simp
  with_reducible rfl
 rotate_left
 ·simp only [Act.put, List.setIfInBounds_toArray, List.set_cons_zero, List.set_cons_succ, i64_w, i32_w]
  rfl
 refine take_ (i := 7) (N := some 20) (v := ?_) (a' := ?_) #[true, true, true, true, true, true, true, true, true, true, true, false, true, true, true, false, false, false, false, false] rfl rfl (by kernel_rfl) (fun _ _ _ h => h) (Or.inl ⟨by rfl, ?_⟩) hHeld ?_ ?_
 rotate_left
 ·rintro w' ⟨s0, s1, s2, s3⟩
  go_simp
  with_reducible rfl
 rotate_left
 ·simp only [Act.put, List.setIfInBounds_toArray, List.set_cons_zero, List.set_cons_succ, i64_w, i32_w]
  rfl
 refine take_ (i := 11) (N := some 24) (v := ?_) (a' := ?_) #[true, true, true, true, true, true, true, true, true, true, true, true, true, true, true, false, false, false, false, false] rfl rfl (by kernel_rfl) (fun _ _ _ h => h) (Or.inl ⟨by rfl, ?_⟩) hHeld ?_ ?_
 rotate_left
 ·rintro w' ⟨s0, s1, s2, s3⟩
  go_simp
  with_reducible rfl
 rotate_left
 ·simp only [Act.put, List.setIfInBounds_toArray, List.set_cons_zero, List.set_cons_succ, i64_w, i32_w]
  rfl
 refine take_ (i := 15) (N := some 28) (v := ?_) (a' := ?_) #[true, true, true, true, true, true, true, true, true, true, true, true, true, true, true, true, false, false, false, false] rfl rfl (by kernel_rfl) (fun _ _ _ h => h) (Or.inl ⟨by rfl, ?_⟩) hHeld ?_ ?_
 rotate_left
 ·rintro w' ⟨s0, s1, s2, s3⟩
  go_simp
  with_reducible rfl
 rotate_left
 ·simp only [Act.put, List.setIfInBounds_toArray, List.set_cons_zero, List.set_cons_succ, i64_w, i32_w]
  rfl
 refine pz_ 16 29 rfl rfl (by kernel_rfl) ?_
 refine join_ (σ := Nat) 1 #[true, true, true, true, true, true, true, true, true, true, true, true, true, true, true, true, true, true, true, false] (fun s => [(30, .agg #[.int .i64 (qa2 x0 x1 x2 x3 : Nat), .int .i64 (qb2 x0 x1 x2 x3 : Nat), .int .i64 (qc2 x0 x1 x2 x3 : Nat), .int .i64 (qd2 x0 x1 x2 x3 : Nat)]), (11, .pointer (some ⟨s, 0, none⟩))]) (fun s w' => w'.heap[s]? = some (.cells #[.int .i64 0, .int .i64 0, .int .i64 0, .int .i64 0] 223 (0, 0)) ∧ Below w.heap.size w w' ∧ w.heap.size ≤ s) ?_ ?_
 rotate_left
 ·intro hCont
  refine two_ (i := 17) (j := 18) (Ni := some 30) (Nj := some 11) #[true, true, true, true, true, true, true, true, true, true, true, true, true, true, true, true, true, true, false, false] #[true, true, true, true, true, true, true, true, true, true, true, true, true, true, true, true, true, false, true, false] rfl rfl rfl rfl (by kernel_rfl) (by decide) (by decide) (fun K hK => ?_) (fun K hK => ?_)
  ·skip
   refine goes_ Tryz.func189 (by kernel_rfl) rfl #[.agg #[.int .i64 (x0 : Int), .int .i64 (x1 : Int), .int .i64 (x2 : Int), .int .i64 (x3 : Int)]] (by rfl) rfl rfl (by simp only [List.map_toArray, List.map_cons, List.map_nil]; rfl) ?_
   with_reducible refine (rQuarter_calls x0 x1 x2 x3 _ b0 b1 b2 b3).mono ?_
   rintro e w3 ⟨rfl, hb⟩
   refine ⟨_, rfl, ?_⟩
   refine hK.out _ _ ⟨(pw_cell_below hb (by first | exact c0 | (simp only [go_sem]; exact c0) | (simp; exact c0) | exact pw_cell_below (below_alloc (below_drew (Below.refl _ _)) _) c0)), (pw_cell_below hb (by first | exact c1 | (simp only [go_sem]; exact c1) | (simp; exact c1) | exact pw_cell_below (below_alloc (below_drew (Below.refl _ _)) _) c1)), (pw_cell_below hb (by first | exact c2 | (simp only [go_sem]; exact c2) | (simp; exact c2) | exact pw_cell_below (below_alloc (below_drew (Below.refl _ _)) _) c2)), (pw_cell_below hb (by first | exact c3 | (simp only [go_sem]; exact c3) | (simp; exact c3) | exact pw_cell_below (below_alloc (below_drew (Below.refl _ _)) _) c3))⟩ (fun hHeld => ?_)
   clear hK K
   refine norm_ sa_ ?_
   refine one_ (i := 18) (N := some 11) #[true, true, true, true, true, true, true, true, true, true, true, true, true, true, true, true, true, true, true, false] rfl rfl (by kernel_rfl) (by decide) (fun K hK => ?_)
   refine value_ (w1 := ?_) (v := ?_) (by rfl) rfl ?_ ?_
   rotate_left 2
   ·go_simp
    constructor
    ·rfl
    ·rfl
   refine hK.out _ _ ⟨(pw_cell_below (below_alloc (Below.refl _ _) _) (by first | exact c0 | exact pw_cell_below hb c0)), (pw_cell_below (below_alloc (Below.refl _ _) _) (by first | exact c1 | exact pw_cell_below hb c1)), (pw_cell_below (below_alloc (Below.refl _ _) _) (by first | exact c2 | exact pw_cell_below hb c2)), (pw_cell_below (below_alloc (Below.refl _ _) _) (by first | exact c3 | exact pw_cell_below hb c3))⟩ (fun hHeld => ?_)
   clear hK K
   refine norm_ sa_ ?_
   exact norm_ (by simp only [putAll, Act.put, List.setIfInBounds_toArray, List.set_cons_zero, List.set_cons_succ]) (hCont _ _ ⟨blk_new _ _, below_alloc (below_then (below_drew (Below.refl _ w)) (Nat.le_refl _) hb) _, hb.size⟩)
  ·skip
   refine value_ (w1 := ?_) (v := ?_) (by rfl) rfl ?_ ?_
   rotate_left 2
   ·go_simp
    constructor
    ·rfl
    ·rfl
   refine hK.out _ _ ⟨(pw_cell_below (below_alloc (Below.refl _ _) _) (by first | exact c0 | exact pw_cell_below hb c0)), (pw_cell_below (below_alloc (Below.refl _ _) _) (by first | exact c1 | exact pw_cell_below hb c1)), (pw_cell_below (below_alloc (Below.refl _ _) _) (by first | exact c2 | exact pw_cell_below hb c2)), (pw_cell_below (below_alloc (Below.refl _ _) _) (by first | exact c3 | exact pw_cell_below hb c3))⟩ (fun hHeld => ?_)
   clear hK K
   refine norm_ sa_ ?_
   refine one_ (i := 17) (N := some 30) #[true, true, true, true, true, true, true, true, true, true, true, true, true, true, true, true, true, true, true, false] rfl rfl (by kernel_rfl) (by decide) (fun K hK => ?_)
   refine goes_ Tryz.func189 (by kernel_rfl) rfl #[.agg #[.int .i64 (x0 : Int), .int .i64 (x1 : Int), .int .i64 (x2 : Int), .int .i64 (x3 : Int)]] (by rfl) rfl rfl (by simp only [List.map_toArray, List.map_cons, List.map_nil]; rfl) ?_
   with_reducible refine (rQuarter_calls x0 x1 x2 x3 _ b0 b1 b2 b3).mono ?_
   rintro e w3 ⟨rfl, hb⟩
   refine ⟨_, rfl, ?_⟩
   refine hK.out _ _ ⟨(pw_cell_below hb (by first | exact c0 | (simp only [go_sem]; exact c0) | (simp; exact c0) | exact pw_cell_below (below_alloc (below_drew (Below.refl _ _)) _) c0)), (pw_cell_below hb (by first | exact c1 | (simp only [go_sem]; exact c1) | (simp; exact c1) | exact pw_cell_below (below_alloc (below_drew (Below.refl _ _)) _) c1)), (pw_cell_below hb (by first | exact c2 | (simp only [go_sem]; exact c2) | (simp; exact c2) | exact pw_cell_below (below_alloc (below_drew (Below.refl _ _)) _) c2)), (pw_cell_below hb (by first | exact c3 | (simp only [go_sem]; exact c3) | (simp; exact c3) | exact pw_cell_below (below_alloc (below_drew (Below.refl _ _)) _) c3))⟩ (fun hHeld => ?_)
   clear hK K
   refine norm_ sa_ ?_
   exact norm_ (by simp only [putAll, Act.put, List.setIfInBounds_toArray, List.set_cons_zero, List.set_cons_succ]) (hCont _ _ ⟨blk_below (blk_drew (blk_new w _)) hb, below_then (below_drew (below_alloc (Below.refl _ w) _)) (by simp) hb, Nat.le_refl _⟩)
 rintro s w5 ⟨hbox, hbel, hs⟩
 have k0 := blk_cell hbox 0
 have k1 := blk_cell hbox 1
 have k2 := blk_cell hbox 2
 have k3 := blk_cell hbox 3
 have kf : ∀ i, w5.frozen? ⟨s, i, none⟩ = false := fun i => blk_frozen hbox i
 have hHeld : _ ∧ _ ∧ _ ∧ _ := ⟨pw_cell_below hbel c0, pw_cell_below hbel c1, pw_cell_below hbel c2, pw_cell_below hbel c3⟩
 refine norm_ sb_ ?_
 refine last_ (i := 19) (N := none) #[true, true, true, true, true, true, true, true, true, true, true, true, true, true, true, true, true, true, true, true] rfl rfl (by kernel_rfl) (by decide) (fun K hK => ?_)
 refine skip_ (w1 := ?_) (by rfl) rfl ?_ ?_
 rotate_left
 ·go_simp
  rfl
 refine hK.out _ _ ?_
 clear hK K
 refine done_ (by kernel_rfl) ?_
 have hbox6 : ((((w5.setCell ⟨s, 0, none⟩ (.int .i64 (qa2 x0 x1 x2 x3 : Nat))).setCell ⟨s, 1, none⟩ (.int .i64 (qb2 x0 x1 x2 x3 : Nat))).setCell ⟨s, 2, none⟩ (.int .i64 (qc2 x0 x1 x2 x3 : Nat))).setCell ⟨s, 3, none⟩ (.int .i64 (qd2 x0 x1 x2 x3 : Nat))).heap[s]? = some (.cells #[.int .i64 (qa2 x0 x1 x2 x3 : Nat), .int .i64 (qb2 x0 x1 x2 x3 : Nat), .int .i64 (qc2 x0 x1 x2 x3 : Nat), .int .i64 (qd2 x0 x1 x2 x3 : Nat)] 223 (0, 0)) := blk_put (blk_put (blk_put (blk_put hbox 0 _ rfl) 1 _ rfl) 2 _ rfl) 3 _ rfl
 have hbel6 : Below w.heap.size w ((((w5.setCell ⟨s, 0, none⟩ (.int .i64 (qa2 x0 x1 x2 x3 : Nat))).setCell ⟨s, 1, none⟩ (.int .i64 (qb2 x0 x1 x2 x3 : Nat))).setCell ⟨s, 2, none⟩ (.int .i64 (qc2 x0 x1 x2 x3 : Nat))).setCell ⟨s, 3, none⟩ (.int .i64 (qd2 x0 x1 x2 x3 : Nat))) := below_set (below_set (below_set (below_set hbel hs) hs) hs) hs
 clear k0 k1 k2 k3 kf hHeld c0 c1 c2 c3 hbox hbel b0 b1 b2 b3
 generalize ((((w5.setCell ⟨s, 0, none⟩ (.int .i64 (qa2 x0 x1 x2 x3 : Nat))).setCell ⟨s, 1, none⟩ (.int .i64 (qb2 x0 x1 x2 x3 : Nat))).setCell ⟨s, 2, none⟩ (.int .i64 (qc2 x0 x1 x2 x3 : Nat))).setCell ⟨s, 3, none⟩ (.int .i64 (qd2 x0 x1 x2 x3 : Nat))) = w6 at hbox6 hbel6 ⊢
 generalize e0 : qa2 x0 x1 x2 x3 = y0 at hbox6 hbel6 ⊢
 have E0 := Aside0.mk e0
 clear e0
 generalize e1 : qb2 x0 x1 x2 x3 = y1 at hbox6 hbel6 ⊢
 have E1 := Aside0.mk e1
 clear e1
 generalize e2 : qc2 x0 x1 x2 x3 = y2 at hbox6 hbel6 ⊢
 have E2 := Aside0.mk e2
 clear e2
 generalize e3 : qd2 x0 x1 x2 x3 = y3 at hbox6 hbel6 ⊢
 have E3 := Aside0.mk e3
 clear e3
 have HR6 := Aside0.mk (Kd.C_below HR.out hbel6)
 have HBX := Aside0.mk hbox6
 have HBL := Aside0.mk hbel6
 clear hbox6 hbel6
 go_upto_region 4 with (at_builtin; refine Kd.R_append_row (Value.int .i64) (0 : Int) (w0 := w) w.heap.size rfl (.tmp 31) (.tmp 32) 116 3 (.int .i64 0) 8 rfl Tryz.underlying116 info3 rfl (by omega) (.slice none 0 0) [] (ints L) (some ad) 16 c0_ (fun _ => True) rfl rfl (fun _ _ => trivial) (Kd.R_nil _ _ _ _ _) HR6.out HBL.out HBL.out.size (by decide) ?_; intro v1 w7 HO hb7 hg hat)
 have hl16 : (ints L).length = 16 := by rw [ints_length]; exact HLl.out
 rw [List.nil_append] at HO
 obtain ⟨go, cap, e1, gb, gl, cl, hG⟩ := Kd.R_form HO (by omega)
 rw [hl16] at e1
 subst e1
 have hbx7 := blk_grown HBX.out hg (by simp [Value.ownBlock])
 have hsg : s ≠ go := blk_ne hbx7 hG (by decide)
 have H := Aside0.mk (RAt.mk (l := L) HO hbx7 hb7 hsg gb)
 clear hbx7 hg hat hb7 hsg gl cl hG hl16 HO
 obtain ⟨hx, hf⟩ := H.out.cell a ha
 generalize List.getD _ a 0 = z at hx
 have k := blk_cell H.out.box 0
 go_upto_region 5 with (fail)
 have H := Aside0.mk (H.out.put a y0)
 clear hx hf k
 generalize World.setCell _ ⟨go, a, none⟩ _ = w8 at H ⊢
 obtain ⟨hx, hf⟩ := H.out.cell b hb
 generalize List.getD _ b 0 = z at hx
 have k := blk_cell H.out.box 1
 go_upto_region 6 with (fail)
 have H := Aside0.mk (H.out.put b y1)
 clear hx hf k
 generalize World.setCell _ ⟨go, b, none⟩ _ = w9 at H ⊢
 obtain ⟨hx, hf⟩ := H.out.cell c hc
 generalize List.getD _ c 0 = z at hx
 have k := blk_cell H.out.box 2
 go_upto_region 7 with (fail)
 have H := Aside0.mk (H.out.put c y2)
 clear hx hf k
 generalize World.setCell _ ⟨go, c, none⟩ _ = w10 at H ⊢
 obtain ⟨hx, hf⟩ := H.out.cell d hd
 generalize List.getD _ d 0 = z at hx
 have k := blk_cell H.out.box 3
 go_upto_region 8 with (fail)
 have H := Aside0.mk (H.out.put d y3)
 clear hx hf k
 generalize World.setCell _ ⟨go, d, none⟩ _ = w11 at H ⊢
 go_wp2
 go_ret
 exact ⟨_, rfl, by rw [E0.out, E1.out, E2.out, E3.out]; exact H.out.own, H.out.bel⟩
end Go.Proofs.YtbkbganflnemeaaGreat.Pr
end

section
namespace Go.Proofs.YtbkbganflnemeaaGreat.Pr
open Go.RowKit Go.Proofs.YtbkbganflnemeaaGreatW.PrintWords Go.Proofs.YtbkbganflnemeaaGreatW.PrintLast Go.Proofs.YtbkbganflnemeaaGreatW.PrintMore
attribute [local go_sem] max2_int min2_int max_two min_two max_three min_three max_four min_four
def samphireref06_digits.l0 : Nat → ByteArray → List Int → Int → Option (List Int)
 | 0, _, _, _ => none
 | k + 1, x0, x3, x4 => if x4 < (x0.size : Int) then (if 0 ≤ x4 then (if x3.length < 17592186044416 then (samphireref06_digits.l0 k x0 (x3 ++ [wrap64 (bt x0 x4)]) (wrap64 (x4 + 1))) else (none)) else (none)) else (some x3)
def samphireref06_digits.f (k : Nat) (a0 : ByteArray) : Option (List Int) := samphireref06_digits.l0 k a0 ([] : List Int) 0
set_option maxHeartbeats 8000000 in
set_option maxRecDepth 100000 in
theorem samphireref06_digits.calls (k : Nat) (a0 : ByteArray) (r : List Int) (w : World) (h : samphireref06_digits.f k a0 = some r) :
    Calls Tryz.prog 163 #[.string a0] w fun e w' => ∃ v0_ : Value, e = .returned (v0_) ∧ Kd.R (Kd.int .i64) 3 w' w.heap.size (fun _ => True) v0_ r ∧ Below w.heap.size w w' := by
  have HB := Aside0.mk (Below.refl w.heap.size w); have H : (samphireref06_digits.l0 k a0 ([] : List Int) 0) = some r := h; clear h; have H' := Aside0.mk H; clear H; go_enter Tryz.func163, Tryz.ntmps163
  go_wp2; go_loopg [3, 4] k (fun kq v3 v4 w' => ∃ (x3_1 : List Int) (x4_1 : Int), v4 = .int .i64 x4_1 ∧ Aside0 (samphireref06_digits.l0 kq a0 x3_1 x4_1 = some r) ∧ Aside0 (kq ≤ k) ∧ Aside0 (Kd.R (Kd.int .i64) 3 w' w.heap.size (fun _ => True) v3 x3_1) ∧ Aside0 (Below w.heap.size w w'))
  case atStart => exact ⟨(([] : List Int)), (0), rz_, H', ⟨Nat.le_refl _⟩, ⟨by first | exact Kd.R_nil _ _ _ _ _ | exact Kd.N_nil _ _ _ _ _ | exact Kd.V_nil _ _ _ _ _ | exact Kd.Q_nil _ _ _ _ _ | exact Kd.S_nil _ _ _ _ _⟩, ⟨hb_⟩⟩
  case round =>
    clear H'; obtain ⟨x3_1, x4_1, rfl, HA, HK1, HO_3, HB⟩ := hrel; cases gk with
    | zero => exact absurd HA.out (by simp [samphireref06_digits.l0])
    | succ k1 =>
      have H := HA.out; clear HA; simp only [samphireref06_digits.l0] at H; by_cases c2 : x4_1 < (a0.size : Int)
      · rw [if_pos c2] at H; have c2b0 : decide (x4_1 < (a0.size : Int)) = true := decide_eq_true c2; clear c2; by_cases c3 : 0 ≤ x4_1
        · rw [if_pos c3] at H; have c3b0 : decide (0 ≤ x4_1) = true := decide_eq_true c3; clear c3; by_cases c5 : x3_1.length < 17592186044416
          · rw [if_pos c5] at H; have LMc5 := Aside0.mk c5; clear c5; obtain ⟨y324, hy324⟩ : ∃ y_ : List Int, y_ = (x3_1 ++ [wrap64 (bt a0 x4_1)]) := ⟨_, rfl⟩; replace H : (samphireref06_digits.l0 k1 a0 y324 (wrap64 (x4_1 + 1))) = some r := by first | (rw [hy324]; with_reducible exact H) | (have H2_ := (Option.bind_some _ _).symm.trans H; rw [hy324]; with_reducible exact H2_) | (have H2_ := (Option.bind_some _ _).symm.trans H; with_reducible exact H2_) | with_reducible exact H | (rw [hy324]; exact H) | exact H
            have Ny324 := Aside0.mk hy324; clear hy324; have H' := Aside0.mk H; clear H; have p4 : 0 ≤ (x4_1 : Int) := of_decide_eq_true as_'; have q4 : x4_1 < (a0.size : Int) := of_decide_eq_true as_'; have hx4 := bt_at a0 x4_1; replace p4 := eq_true p4; replace q4 := eq_true q4; go_wp2_with (first | ((with_reducible refine gate_builtin (b := .append) (xs := #[.tmp 11, .tmp 16]) rfl ?_); at_builtin; refine Kd.R_append (Kd.int .i64) (w0 := w) w.heap.size rfl (.tmp 11) (.tmp 16) 116 3 (.int .i64 0) 8 rfl Tryz.underlying116 info3 rfl (by decide) (by omega) u3 x3_1 (wrap64 (bt a0 x4_1)) [.int .i64 (wrap64 (bt a0 x4_1))] (fun _ => True) (fun _ => False) rfl rfl ?aP (fun _ hk => hk.elim) ?aF ?aO ?aB ?aS ?aL ?_; (case aP => exact rfl); (case aB => exact hb_); (case aF => exact (fun _ _ => trivial)); (case aO => exact (ra_ HO_3.out)); (case aS => exact (below_size hb_)); (case aL => have := LMc5.out; omega); intro v325 w6 ho hb hg hat; rw [← Ny324.out] at ho; replace HB := Aside0.mk (hb); have HO326 := Aside0.mk (ho); clear HO_3; clear ho hb hg hat))
            go_roundg k1
            case measure => have := HK1.out; omega
            case rel => exact ⟨(y324), (wrap64 (x4_1 + 1)), rz_, H', ⟨by have := HK1.out; omega⟩, ⟨ra_ HO326.out⟩, ⟨hb_⟩⟩
          · rw [if_neg c5] at H; exact absurd H (by simp)
        · rw [if_neg c3] at H; exact absurd H (by simp)
      · rw [if_neg c2] at H; have c2b0 : decide (x4_1 < (a0.size : Int)) = false := decide_eq_false c2; clear c2; obtain rfl := Option.some.inj H; go_wp2; go_ret
        exact ⟨_, ew_, ra_ HO_3.out, hb_⟩
def samphireref06_carried.l0 : Nat → List Int → Int → List Int → Int → Int → Option (List Int)
 | 0, _, _, _, _, _ => none
 | k + 1, x0, x1, x5, x6, x7 => if x7 < x1 then (if x7 < (x0.length : Int) then (if 0 ≤ x7 then (if x7 < (x5.length : Int) then (samphireref06_carried.l0 k x0 x1 (x5.set (x7 : Int).toNat (Go.bits .and .i64 (wrap64 (x6 + (rd x0 x7))) 255)) ((wrap64 (x6 + (rd x0 x7))) / 256) (wrap64 (x7 + 1))) else (none)) else (none)) else (if 0 ≤ x7 then (if x7 < (x5.length : Int) then (samphireref06_carried.l0 k x0 x1 (x5.set (x7 : Int).toNat (Go.bits .and .i64 x6 255)) (x6 / 256) (wrap64 (x7 + 1))) else (none)) else (none))) else (some x5)
def samphireref06_carried.f (k : Nat) (l0 : List Int) (a1 : Int) : Option (List Int) := if 0 ≤ a1 then (if (a1 : Int).toNat ≤ 35184372088832 then (samphireref06_carried.l0 k l0 a1 (List.replicate (a1 : Int).toNat 0) 0 0) else (none)) else (none)
set_option maxHeartbeats 8000000 in
set_option maxRecDepth 100000 in
theorem samphireref06_carried.calls (k : Nat) (A0 : Option Addr) (c0 : Nat) (l0 : List Int) (a1 : Int) (r : List Int) (w : World) (hr0 : Kd.C (Kd.int .i64) w A0 l0.length l0) (hc0 : l0.length ≤ c0) (h : samphireref06_carried.f k l0 a1 = some r) :
    Calls Tryz.prog 193 #[.slice A0 l0.length c0, .int .i64 a1] w fun e w' => ∃ v0_ : Value, e = .returned (v0_) ∧ Kd.R (Kd.int .i64) 3 w' w.heap.size (fun _ => True) v0_ r ∧ Below w.heap.size w w' := by
  have HR0 := Aside0.mk hr0; have HC0 := Aside0.mk hc0; clear hr0 hc0; have HB := Aside0.mk (Below.refl w.heap.size w); have H : (if 0 ≤ a1 then (if (a1 : Int).toNat ≤ 35184372088832 then (samphireref06_carried.l0 k l0 a1 (List.replicate (a1 : Int).toNat 0) 0 0) else (none)) else (none)) = some r := h; clear h; by_cases c3 : 0 ≤ a1
  · rw [if_pos c3] at H; have c3b0 := eq_true c3; have c3b1 : decide (0 ≤ a1) = true := decide_eq_true c3; clear c3; by_cases c4 : (a1 : Int).toNat ≤ 35184372088832
    · rw [if_pos c4] at H; have c4b0 := eq_true c4; have c4b1 : decide ((a1 : Int).toNat ≤ 35184372088832) = true := decide_eq_true c4; clear c4; obtain ⟨y327, hy327⟩ : ∃ y_ : List Int, y_ = (List.replicate (a1 : Int).toNat 0) := ⟨_, rfl⟩; replace H : (samphireref06_carried.l0 k l0 a1 y327 0 0) = some r := by first | (rw [hy327]; with_reducible exact H) | (have H2_ := (Option.bind_some _ _).symm.trans H; rw [hy327]; with_reducible exact H2_) | (have H2_ := (Option.bind_some _ _).symm.trans H; with_reducible exact H2_) | with_reducible exact H | (rw [hy327]; exact H) | exact H
      have Ny327 := Aside0.mk hy327; clear hy327; have H' := Aside0.mk H; clear H; go_enter Tryz.func193, Tryz.ntmps193
      go_wp2_with (first | ((with_reducible refine gate_dst (N := 9) rfl ?_); refine Kd.R_make (Kd.int .i64) _ 3 rfl (N := 9) rfl 116 _ _ rfl a1 rfl rfl Tryz.underlying116 (.int .i64 0) 8 info3 rfl (by decide) (by omega) 0 (ok := fun _ => True) (okp := fun _ => True) rfl (fun _ hk => hk) trivial (of_decide_eq_true as_') (Nat.le_trans (Nat.mul_le_mul_right _ (of_decide_eq_true as_' : a1.toNat ≤ 35184372088832)) (by omega)) (Below.refl _ _) (Nat.le_refl _) ?_; intro v328 w5 ho6 hb hg_ hnew_; clear hg_ hnew_; (first | rw [← Ny327.out] at ho6 | (simp only [Int.reduceToNat] at ho6; rw [← Ny327.out] at ho6)); have HO329 := Aside0.mk (Kd.R_lower ho6 (below_size hb_)); replace HB := Aside0.mk (below_step hb_ hb); clear hb ho6))
      go_loopg [6, 7] k (fun kq v6 v7 w' => ∃ (x5_1 : List Int) (x6_1 : Int) (x7_1 : Int), v6 = .int .i64 x6_1 ∧ v7 = .int .i64 x7_1 ∧ Aside0 (samphireref06_carried.l0 kq l0 a1 x5_1 x6_1 x7_1 = some r) ∧ Aside0 (kq ≤ k) ∧ Aside0 (Kd.R (Kd.int .i64) 3 w' w.heap.size (fun _ => True) v328 x5_1) ∧ Aside0 (Below w.heap.size w w'))
      case atStart => exact ⟨(y327), (0), (0), rz_, rz_, H', ⟨Nat.le_refl _⟩, ⟨ra_ HO329.out⟩, ⟨hb_⟩⟩
      case round =>
        clear H'; obtain ⟨x5_1, x6_1, x7_1, rfl, rfl, HA, HK1, HO_5, HB⟩ := hrel; cases gk with
        | zero => exact absurd HA.out (by simp [samphireref06_carried.l0])
        | succ k1 =>
          have H := HA.out; clear HA; simp only [samphireref06_carried.l0] at H; by_cases c7 : x7_1 < a1
          · rw [if_pos c7] at H; have c7b0 : decide (x7_1 < a1) = true := decide_eq_true c7; clear c7; by_cases c8 : x7_1 < (l0.length : Int)
            · rw [if_pos c8] at H; have c8b0 : decide (x7_1 < (l0.length : Int)) = true := decide_eq_true c8; clear c8; by_cases c9 : 0 ≤ x7_1
              · rw [if_pos c9] at H; have c9b0 : decide (0 ≤ x7_1) = true := decide_eq_true c9; clear c9; by_cases c10 : x7_1 < (x5_1.length : Int)
                · rw [if_pos c10] at H; have c10b0 : decide (x7_1 < (x5_1.length : Int)) = true := decide_eq_true c10; clear c10; obtain ⟨y331, hy331⟩ : ∃ y_ : List Int, y_ = (x5_1.set (x7_1 : Int).toNat (Go.bits .and .i64 (wrap64 (x6_1 + (rd l0 x7_1))) 255)) := ⟨_, rfl⟩; replace H : (samphireref06_carried.l0 k1 l0 a1 y331 ((wrap64 (x6_1 + (rd l0 x7_1))) / 256) (wrap64 (x7_1 + 1))) = some r := by first | (rw [hy331]; with_reducible exact H) | (have H2_ := (Option.bind_some _ _).symm.trans H; rw [hy331]; with_reducible exact H2_) | (have H2_ := (Option.bind_some _ _).symm.trans H; with_reducible exact H2_) | with_reducible exact H | (rw [hy331]; exact H) | exact H
                  have Ny331 := Aside0.mk hy331; clear hy331; have H' := Aside0.mk H; clear H; have p330 : 0 ≤ (x7_1 : Int) := of_decide_eq_true as_'; have q330 : x7_1 < (l0.length : Int) := of_decide_eq_true as_'; obtain ⟨ad330, e330, hx330_0⟩ := Kd.at_int HR0.out x7_1 p330 q330; cases e330; replace hx330_0 := (HB.out.cell (World.block_lt_of_cell? w _ hx330_0)).trans hx330_0; replace p330 := eq_true p330; replace q330 := eq_true q330; have p11 : 0 ≤ (x7_1 : Int) := of_decide_eq_true as_'; have q11 : (x7_1 : Int) < ((x5_1.length : Int) : Int) := of_decide_eq_true as_'; obtain ⟨go11, co11, eo11, gb11, gl11, cl11, HG11⟩ := Kd.R_form HO_5.out (by omega)
                  (first | cases eo11 | (injection eo11 with ea_ en_ ec_; (first | subst ea_ | (injection ea_ with ea_; subst ea_)); subst ec_; clear en_))
                  have GB11 := Aside0.mk gb11; have GG11 := Aside0.mk HG11; clear gb11 gl11 HG11; obtain ⟨hx11_0, hf11_0⟩ := Kd.R_celln 0 HO_5.out (x7_1 : Int) p11 q11; replace p11 := eq_true p11; replace q11 := eq_true q11; have HP12 := Kd.R_putg HO_5.out (x7_1 : Int) (Go.bits .and .i64 (wrap64 (x6_1 + (rd l0 x7_1))) 255); go_wp2_with (first | ((with_reducible refine gate_store (t := 3) (p := 29) rfl ?_); refine store_event (t := 3) (p := 29) (v := ?vo_w13) (w1 := (wr.setCell ⟨go11, (x7_1 : Int).toNat, none⟩ (.int .i64 (Go.bits .and .i64 (wrap64 (x6_1 + (rd l0 x7_1))) 255)))) ?hg ?ho ?hn ?hr ?_; (case ho => rfl); (case hg => rfl); (case hn => rfl); (case hr => first | (go_simp; done) | (go_simp; rfl)); intro w13 hw; have hg : wr.grownBy w13 (some go11) := (by rw [hw]; exact HP12.2); have hp_ : Kd.R (Kd.int .i64) 3 w13 w.heap.size (fun _ => True) (.slice (some ⟨go11, 0, none⟩) x5_1.length co11) y331 := (by rw [hw, Ny331.out]; exact HP12.1); clear HP12; have n0_ := Aside0.mk (hp_); have n1_ := Aside0.mk ((by rw [hw]; exact below_set (HB.out) GB11.out : Below w.heap.size w w13)); clear HO_5; clear HB; have HO_5 := n0_; have HB := n1_; clear n0_ n1_; clear hg hw hp_))
                  go_roundg k1
                  case measure => have := HK1.out; omega
                  case rel => exact ⟨(y331), ((wrap64 (x6_1 + (rd l0 x7_1))) / 256), (wrap64 (x7_1 + 1)), rz_, rz_, H', ⟨by have := HK1.out; omega⟩, ⟨ra_ HO_5.out⟩, ⟨hb_⟩⟩
                · rw [if_neg c10] at H; exact absurd H (by simp)
              · rw [if_neg c9] at H; exact absurd H (by simp)
            · rw [if_neg c8] at H; have c8b0 : decide (x7_1 < (l0.length : Int)) = false := decide_eq_false c8; clear c8; by_cases c14 : 0 ≤ x7_1
              · rw [if_pos c14] at H; have c14b0 : decide (0 ≤ x7_1) = true := decide_eq_true c14; clear c14; by_cases c15 : x7_1 < (x5_1.length : Int)
                · rw [if_pos c15] at H; have c15b0 : decide (x7_1 < (x5_1.length : Int)) = true := decide_eq_true c15; clear c15; obtain ⟨y332, hy332⟩ : ∃ y_ : List Int, y_ = (x5_1.set (x7_1 : Int).toNat (Go.bits .and .i64 x6_1 255)) := ⟨_, rfl⟩; replace H : (samphireref06_carried.l0 k1 l0 a1 y332 (x6_1 / 256) (wrap64 (x7_1 + 1))) = some r := by first | (rw [hy332]; with_reducible exact H) | (have H2_ := (Option.bind_some _ _).symm.trans H; rw [hy332]; with_reducible exact H2_) | (have H2_ := (Option.bind_some _ _).symm.trans H; with_reducible exact H2_) | with_reducible exact H | (rw [hy332]; exact H) | exact H
                  have Ny332 := Aside0.mk hy332; clear hy332; have H' := Aside0.mk H; clear H; have p16 : 0 ≤ (x7_1 : Int) := of_decide_eq_true as_'; have q16 : (x7_1 : Int) < ((x5_1.length : Int) : Int) := of_decide_eq_true as_'; obtain ⟨go16, co16, eo16, gb16, gl16, cl16, HG16⟩ := Kd.R_form HO_5.out (by omega)
                  (first | cases eo16 | (injection eo16 with ea_ en_ ec_; (first | subst ea_ | (injection ea_ with ea_; subst ea_)); subst ec_; clear en_))
                  have GB16 := Aside0.mk gb16; have GG16 := Aside0.mk HG16; clear gb16 gl16 HG16; obtain ⟨hx16_0, hf16_0⟩ := Kd.R_celln 0 HO_5.out (x7_1 : Int) p16 q16; replace p16 := eq_true p16; replace q16 := eq_true q16; have HP17 := Kd.R_putg HO_5.out (x7_1 : Int) (Go.bits .and .i64 x6_1 255); go_wp2_with (first | ((with_reducible refine gate_store (t := 3) (p := 29) rfl ?_); refine store_event (t := 3) (p := 29) (v := ?vo_w18) (w1 := (wr.setCell ⟨go16, (x7_1 : Int).toNat, none⟩ (.int .i64 (Go.bits .and .i64 x6_1 255)))) ?hg ?ho ?hn ?hr ?_; (case ho => rfl); (case hg => rfl); (case hn => rfl); (case hr => first | (go_simp; done) | (go_simp; rfl)); intro w18 hw; have hg : wr.grownBy w18 (some go16) := (by rw [hw]; exact HP17.2); have hp_ : Kd.R (Kd.int .i64) 3 w18 w.heap.size (fun _ => True) (.slice (some ⟨go16, 0, none⟩) x5_1.length co16) y332 := (by rw [hw, Ny332.out]; exact HP17.1); clear HP17; have n0_ := Aside0.mk (hp_); have n1_ := Aside0.mk ((by rw [hw]; exact below_set (HB.out) GB16.out : Below w.heap.size w w18)); clear HO_5; clear HB; have HO_5 := n0_; have HB := n1_; clear n0_ n1_; clear hg hw hp_))
                  go_roundg k1
                  case measure => have := HK1.out; omega
                  case rel => exact ⟨(y332), (x6_1 / 256), (wrap64 (x7_1 + 1)), rz_, rz_, H', ⟨by have := HK1.out; omega⟩, ⟨ra_ HO_5.out⟩, ⟨hb_⟩⟩
                · rw [if_neg c15] at H; exact absurd H (by simp)
              · rw [if_neg c14] at H; exact absurd H (by simp)
          · rw [if_neg c7] at H; have c7b0 : decide (x7_1 < a1) = false := decide_eq_false c7; clear c7; obtain rfl := Option.some.inj H; go_wp2; go_ret
            exact ⟨_, ew_, ra_ HO_5.out, hb_⟩
    · rw [if_neg c4] at H; exact absurd H (by simp)
  · rw [if_neg c3] at H; exact absurd H (by simp)
end Go.Proofs.YtbkbganflnemeaaGreat.Pr
end

section
namespace Go.Proofs.YtbkbganflnemeaaGreat.Pr
open Go.RowKit Go.Proofs.YtbkbganflnemeaaGreatW.PrintWords Go.Proofs.YtbkbganflnemeaaGreatW.PrintLast Go.Proofs.YtbkbganflnemeaaGreatW.PrintMore
attribute [local go_sem] max2_int min2_int max_two min_two max_three min_three max_four min_four
mutual
def samphireref06_times.l0 : Nat → List Int → List Int → List Int → Int → Option (List Int)
 | 0, _, _, _, _ => none
 | k + 1, x0, x1, x5, x6 => if x6 < (x0.length : Int) then (samphireref06_times.l1 k x0 x1 x5 x6 0) else ((samphireref06_carried.f k x5 (x5.length : Int)).bind fun t336 => (some t336))
def samphireref06_times.l1 : Nat → List Int → List Int → List Int → Int → Int → Option (List Int)
 | 0, _, _, _, _, _ => none
 | k + 1, x0, x1, x5, x6, x7 => if x7 < (x1.length : Int) then (if 0 ≤ (wrap64 (x6 + x7)) then (if (wrap64 (x6 + x7)) < (x5.length : Int) then (if 0 ≤ x6 then (if x6 < (x0.length : Int) then (if 0 ≤ x7 then (samphireref06_times.l1 k x0 x1 (x5.set ((wrap64 (x6 + x7)) : Int).toNat (wrap64 ((rd x5 (wrap64 (x6 + x7))) + (wrap64 ((rd x0 x6) * (rd x1 x7)))))) x6 (wrap64 (x7 + 1))) else (none)) else (none)) else (none)) else (none)) else (none)) else (samphireref06_times.l0 k x0 x1 x5 (wrap64 (x6 + 1)))
end
def samphireref06_times.f (k : Nat) (l0 : List Int) (l1 : List Int) : Option (List Int) := if 0 ≤ (wrap64 ((wrap64 ((l0.length : Int) + (l1.length : Int))) + 1)) then (if (wrap64 ((wrap64 ((l0.length : Int) + (l1.length : Int))) + 1) : Int).toNat ≤ 35184372088832 then (samphireref06_times.l0 k l0 l1 (List.replicate (wrap64 ((wrap64 ((l0.length : Int) + (l1.length : Int))) + 1) : Int).toNat 0) 0) else (none)) else (none)
def samphireref06_times.T8 : Bool × List (List Nat × List Nat) := (true, [([], []), ([], []), ([], []), ([1, 2], [1, 2]), ([], []), ([], []), ([], []), ([5, 6], [5, 6]), ([4, 7], [4, 7]), ([8], [8]), ([], []), ([], []), ([10, 11], [10, 11]), ([12], [12]), ([], []), ([], []), ([14, 15], [14, 15]), ([16], [16]), ([13, 17], [13, 17]), ([9, 18], [9, 18]), ([0, 3, 0, 1, 2, 3, 4, 5, 6, 7, 8, 9, 10, 11, 12, 13, 14, 15, 16, 17, 18, 19], [0, 3]), ([20, 19, 0, 1, 2, 3, 4, 5, 6, 7, 8, 9, 10, 11, 12, 13, 14, 15, 16, 17, 18, 19], [19, 20])])
def samphireref06_times.B8 : List Nat := [0, 0, 0, 6, 0, 0, 0, 96, 240, 496, 0, 0, 3072, 7168, 0, 0, 49152, 114688, 261120, 524272, 1048575, 2097151]
theorem samphireref06_times.tab8 : rtab .any (opsOf Tryz.f165 8) = samphireref06_times.T8 := by kernel_rfl
theorem samphireref06_times.bits8 : waitsOk samphireref06_times.T8.2 samphireref06_times.B8 = true := by kernel_rfl
set_option maxHeartbeats 8000000 in
set_option maxRecDepth 100000 in
theorem samphireref06_times.calls (k : Nat) (A0 : Option Addr) (c0 : Nat) (l0 : List Int) (A1 : Option Addr) (c1 : Nat) (l1 : List Int) (r : List Int) (w : World) (hr0 : Kd.C (Kd.int .i64) w A0 l0.length l0) (hc0 : l0.length ≤ c0) (hr1 : Kd.C (Kd.int .i64) w A1 l1.length l1) (hc1 : l1.length ≤ c1) (h : samphireref06_times.f k l0 l1 = some r) :
    Calls Tryz.prog 165 #[.slice A0 l0.length c0, .slice A1 l1.length c1] w fun e w' => ∃ v0_ : Value, e = .returned (v0_) ∧ Kd.R (Kd.int .i64) 3 w' w.heap.size (fun _ => True) v0_ r ∧ Below w.heap.size w w' := by
  have HR0 := Aside0.mk hr0; have HC0 := Aside0.mk hc0; clear hr0 hc0; have HR1 := Aside0.mk hr1; have HC1 := Aside0.mk hc1; clear hr1 hc1; have HB := Aside0.mk (Below.refl w.heap.size w); have H : (if 0 ≤ (wrap64 ((wrap64 ((l0.length : Int) + (l1.length : Int))) + 1)) then (if (wrap64 ((wrap64 ((l0.length : Int) + (l1.length : Int))) + 1) : Int).toNat ≤ 35184372088832 then (samphireref06_times.l0 k l0 l1 (List.replicate (wrap64 ((wrap64 ((l0.length : Int) + (l1.length : Int))) + 1) : Int).toNat 0) 0) else (none)) else (none)) = some r := h; clear h; obtain ⟨ji3, hji3⟩ : ∃ j_ : Int, (wrap64 ((wrap64 ((l0.length : Int) + (l1.length : Int))) + 1)) = j_ := ⟨_, rfl⟩; replace H : (if 0 ≤ (ji3) then (if (ji3 : Int).toNat ≤ 35184372088832 then (samphireref06_times.l0 k l0 l1 (List.replicate (ji3 : Int).toNat 0) 0) else (none)) else (none)) = some r := by first | (rw [hji3] at H; exact H) | (simp only [hji3] at H ⊢; exact H)
  have hji3w : (IntKind.i64.wrap ((wrap64 ((l0.length : Int) + (l1.length : Int))) + 1)) = ji3 := (i64_w _).trans hji3; by_cases c4 : 0 ≤ (ji3)
  · rw [if_pos c4] at H; have c4b0 := eq_true c4; have c4b1 : decide (0 ≤ (ji3)) = true := decide_eq_true c4; clear c4; by_cases c5 : (ji3 : Int).toNat ≤ 35184372088832
    · rw [if_pos c5] at H; have c5b0 := eq_true c5; have c5b1 : decide ((ji3 : Int).toNat ≤ 35184372088832) = true := decide_eq_true c5; clear c5; obtain ⟨y333, hy333⟩ : ∃ y_ : List Int, y_ = (List.replicate (ji3 : Int).toNat 0) := ⟨_, rfl⟩; replace H : (samphireref06_times.l0 k l0 l1 y333 0) = some r := by first | (rw [hy333]; with_reducible exact H) | (have H2_ := (Option.bind_some _ _).symm.trans H; rw [hy333]; with_reducible exact H2_) | (have H2_ := (Option.bind_some _ _).symm.trans H; with_reducible exact H2_) | with_reducible exact H | (rw [hy333]; exact H) | exact H
      have Ny333 := Aside0.mk hy333; clear hy333; have H' := Aside0.mk H; clear H; go_enter Tryz.func165, Tryz.ntmps165
      go_wp2_with (first | ((with_reducible refine gate_dst (N := 14) rfl ?_); refine Kd.R_make (Kd.int .i64) _ 3 rfl (N := 14) rfl 116 _ _ rfl ji3 rfl rfl Tryz.underlying116 (.int .i64 0) 8 info3 rfl (by decide) (by omega) 0 (ok := fun _ => True) (okp := fun _ => True) rfl (fun _ hk => hk) trivial (of_decide_eq_true as_') (Nat.le_trans (Nat.mul_le_mul_right _ (of_decide_eq_true as_' : ji3.toNat ≤ 35184372088832)) (by omega)) (Below.refl _ _) (Nat.le_refl _) ?_; intro v334 w6 ho7 hb hg_ hnew_; clear hg_ hnew_; (first | rw [← Ny333.out] at ho7 | (simp only [Int.reduceToNat] at ho7; rw [← Ny333.out] at ho7)); have HO335 := Aside0.mk (Kd.R_lower ho7 (below_size hb_)); replace HB := Aside0.mk (below_step hb_ hb); clear hb ho7))
      go_loopg [6] k (fun kq v6 w' => ∃ (x5_1 : List Int) (x6_1 : Int), v6 = .int .i64 x6_1 ∧ Aside0 (samphireref06_times.l0 kq l0 l1 x5_1 x6_1 = some r) ∧ Aside0 (kq ≤ k) ∧ Aside0 (Kd.R (Kd.int .i64) 3 w' w.heap.size (fun _ => True) v334 x5_1) ∧ Aside0 (Below w.heap.size w w'))
      case atStart => exact ⟨(y333), (0), rz_, H', ⟨Nat.le_refl _⟩, ⟨ra_ HO335.out⟩, ⟨hb_⟩⟩
      case round =>
        clear H'; obtain ⟨x5_1, x6_1, rfl, HA, HK1, HO_5, HB⟩ := hrel; cases gk with
        | zero => exact absurd HA.out (by simp [samphireref06_times.l0])
        | succ k1 =>
          have H := HA.out; clear HA; simp only [samphireref06_times.l0] at H; by_cases c8 : x6_1 < (l0.length : Int)
          · rw [if_pos c8] at H; have c8b0 : decide (x6_1 < (l0.length : Int)) = true := decide_eq_true c8; clear c8; have H' := Aside0.mk H; clear H; go_wp2; go_loopg [7] k1 (fun kq v7 w' => ∃ (x5_2 : List Int) (x7_2 : Int), v7 = .int .i64 x7_2 ∧ Aside0 (samphireref06_times.l1 kq l0 l1 x5_2 x6_1 x7_2 = some r) ∧ Aside0 (kq ≤ k1) ∧ Aside0 (Kd.R (Kd.int .i64) 3 w' w.heap.size (fun _ => True) v334 x5_2) ∧ Aside0 (Below w.heap.size w w'))
            case atStart => exact ⟨(x5_1), (0), rz_, H', ⟨Nat.le_refl _⟩, ⟨ra_ HO_5.out⟩, ⟨hb_⟩⟩
            case round =>
              clear H'; obtain ⟨x5_2, x7_2, rfl, HA, HK2, HO_5, HB⟩ := hrel; cases gk with
              | zero => exact absurd HA.out (by simp [samphireref06_times.l1])
              | succ k2 =>
                have H := HA.out; clear HA; simp only [samphireref06_times.l1] at H; by_cases c9 : x7_2 < (l1.length : Int)
                · rw [if_pos c9] at H; have c9b0 : decide (x7_2 < (l1.length : Int)) = true := decide_eq_true c9; clear c9; obtain ⟨ji10, hji10⟩ : ∃ j_ : Int, (wrap64 (x6_1 + x7_2)) = j_ := ⟨_, rfl⟩; replace H : (if 0 ≤ (ji10) then (if (ji10) < (x5_2.length : Int) then (if 0 ≤ x6_1 then (if x6_1 < (l0.length : Int) then (if 0 ≤ x7_2 then (samphireref06_times.l1 k2 l0 l1 (x5_2.set ((ji10) : Int).toNat (wrap64 ((rd x5_2 (ji10)) + (wrap64 ((rd l0 x6_1) * (rd l1 x7_2)))))) x6_1 (wrap64 (x7_2 + 1))) else (none)) else (none)) else (none)) else (none)) else (none)) = some r := by first | (rw [hji10] at H; exact H) | (simp only [hji10] at H ⊢; exact H)
                  have hji10w : (IntKind.i64.wrap (x6_1 + x7_2)) = ji10 := (i64_w _).trans hji10; by_cases c11 : 0 ≤ (ji10)
                  · rw [if_pos c11] at H; have c11b0 : decide (0 ≤ (ji10)) = true := decide_eq_true c11; clear c11; by_cases c12 : (ji10) < (x5_2.length : Int)
                    · rw [if_pos c12] at H; have c12b0 : decide ((ji10) < (x5_2.length : Int)) = true := decide_eq_true c12; clear c12; by_cases c13 : 0 ≤ x6_1
                      · rw [if_pos c13] at H; have c13b0 : decide (0 ≤ x6_1) = true := decide_eq_true c13; clear c13; by_cases c14 : x6_1 < (l0.length : Int)
                        · rw [if_pos c14] at H; have c14b0 : decide (x6_1 < (l0.length : Int)) = true := decide_eq_true c14; clear c14; by_cases c15 : 0 ≤ x7_2
                          · rw [if_pos c15] at H; have c15b0 : decide (0 ≤ x7_2) = true := decide_eq_true c15; clear c15; obtain ⟨y342, hy342⟩ : ∃ y_ : List Int, y_ = (x5_2.set ((ji10) : Int).toNat (wrap64 ((rd x5_2 (ji10)) + (wrap64 ((rd l0 x6_1) * (rd l1 x7_2)))))) := ⟨_, rfl⟩; replace H : (samphireref06_times.l1 k2 l0 l1 y342 x6_1 (wrap64 (x7_2 + 1))) = some r := by first | (rw [hy342]; with_reducible exact H) | (have H2_ := (Option.bind_some _ _).symm.trans H; rw [hy342]; with_reducible exact H2_) | (have H2_ := (Option.bind_some _ _).symm.trans H; with_reducible exact H2_) | with_reducible exact H | (rw [hy342]; exact H) | exact H
                            have Ny342 := Aside0.mk hy342; clear hy342; have H' := Aside0.mk H; clear H; try go_wp2
                            replace HO_5 := Aside0.mk (Kd.R_drew HO_5.out); replace HB := Aside0.mk (below_drew1 HB.out); obtain ⟨Ao18, co18, eo18⟩ := Kd.R_slice HO_5.out
                            (first | subst eo18 | (injection eo18 with f1_ f2_ f3_; have f4_ := f1_.symm; have f5_ := f3_.symm; clear f1_ f2_ f3_; subst f4_; subst f5_))
                            have p339 : 0 ≤ ((ji10) : Int) := of_decide_eq_true as_'; have q339 : (ji10) < (x5_2.length : Int) := of_decide_eq_true as_'; obtain ⟨ad339, e339, hx339_0⟩ := Kd.at_int (Kd.R_reads' HO_5.out).2.2 (ji10) p339 q339; cases e339; replace p339 := eq_true p339; replace q339 := eq_true q339; have p340 : 0 ≤ (x6_1 : Int) := of_decide_eq_true as_'; have q340 : x6_1 < (l0.length : Int) := of_decide_eq_true as_'; obtain ⟨ad340, e340, hx340_0⟩ := Kd.at_int HR0.out x6_1 p340 q340; have hw340_0 := hx340_0; cases e340; replace hx340_0 := (HB.out.cell (World.block_lt_of_cell? w _ hx340_0)).trans hx340_0; replace p340 := eq_true p340; replace q340 := eq_true q340; have p341 : 0 ≤ (x7_2 : Int) := of_decide_eq_true as_'; have q341 : x7_2 < (l1.length : Int) := of_decide_eq_true as_'; obtain ⟨ad341, e341, hx341_0⟩ := Kd.at_int HR1.out x7_2 p341 q341; have hw341_0 := hx341_0; cases e341; replace hx341_0 := (HB.out.cell (World.block_lt_of_cell? w _ hx341_0)).trans hx341_0; replace p341 := eq_true p341; replace q341 := eq_true q341; have p16 : 0 ≤ ((ji10) : Int) := of_decide_eq_true as_'; have q16 : ((ji10) : Int) < ((x5_2.length : Int) : Int) := of_decide_eq_true as_'; obtain ⟨go16, co16, eo16, gb16, gl16, cl16, HG16⟩ := Kd.R_form HO_5.out (by omega)
                            (first | cases eo16 | (injection eo16 with ea_ en_ ec_; (first | subst ea_ | (injection ea_ with ea_; subst ea_)); subst ec_; clear en_))
                            have GB16 := Aside0.mk gb16; have GG16 := Aside0.mk HG16; clear gb16 gl16 HG16
                            (first | simp only [add_plain] at hx339_0 | skip)
                            obtain ⟨hx16_0, hf16_0⟩ := Kd.R_celln 0 HO_5.out ((ji10) : Int) p16 q16; replace p16 := eq_true p16; replace q16 := eq_true q16; have HP19 := Kd.R_putn HO_5.out ((ji10) : Int) (wrap64 ((rd x5_2 (ji10)) + (wrap64 ((rd l0 x6_1) * (rd l1 x7_2))))); rw [← Ny342.out] at HP19; have HQ19 := Aside0.mk HP19; clear HP19; refine start_ (n := 22) (S := fun w' => w'.cell? ⟨go16, ((ji10)).toNat, none⟩ = some (.int .i64 (rd x5_2 (ji10))) ∧ w'.cell? (ad340.add (x6_1).toNat) = some (.int .i64 (rd l0 x6_1)) ∧ w'.cell? (ad341.add (x7_2).toNat) = some (.int .i64 (rd l1 x7_2))) (ds := [21]) #[false, false, false, false, false, false, false, false, false, false, false, false, false, false, false, false, false, false, false, false, false, false] (by kernel_rfl) rfl rfl ⟨hx339_0, ((HB.out.cell (World.block_lt_of_cell? w _ hw340_0)).trans hw340_0), ((HB.out.cell (World.block_lt_of_cell? w _ hw341_0)).trans hw341_0)⟩ (fun hHeld => ?_); refine with_tabW samphireref06_times.tab8 samphireref06_times.bits8 (fun HT_ HW_ => ?_); generalize wr.drew = w17 at HO_5 HB GG16 HQ19 hf16_0 hx16_0 hx339_0 hx340_0 hx341_0 hHeld ⊢; refine pz_ 0 27 rfl rfl (any_of HT_.out (by kernel_rfl)) ?_; refine pz_ 1 28 rfl rfl (any_of HT_.out (by kernel_rfl)) ?_; refine pz_ 2 29 rfl rfl (any_of HT_.out (by kernel_rfl)) ?_; refine pz_ 3 30 rfl rfl (any_of HT_.out (by kernel_rfl)) ?_; refine pz_ 4 31 rfl rfl (any_of HT_.out (by kernel_rfl)) ?_; refine pz_ 5 32 rfl rfl (any_of HT_.out (by kernel_rfl)) ?_; refine pz_ 6 33 rfl rfl (any_of HT_.out (by kernel_rfl)) ?_; refine pz_ 7 34 rfl rfl (any_of HT_.out (by kernel_rfl)) ?_; refine pz_ 8 35 rfl rfl (any_of HT_.out (by kernel_rfl)) ?_; refine pz_ 10 37 rfl rfl (any_of HT_.out (by kernel_rfl)) ?_; refine pz_ 11 38 rfl rfl (any_of HT_.out (by kernel_rfl)) ?_; refine pz_ 12 39 rfl rfl (any_of HT_.out (by kernel_rfl)) ?_; refine pz_ 14 41 rfl rfl (any_of HT_.out (by kernel_rfl)) ?_; refine pz_ 15 42 rfl rfl (any_of HT_.out (by kernel_rfl)) ?_; refine pz_ 16 43 rfl rfl (any_of HT_.out (by kernel_rfl)) ?_; refine take_ (i := 9) (N := some 36) (v := ?_) (a' := ?_) #[true, true, true, true, true, true, true, true, true, true, true, true, true, false, true, true, true, false, false, false, false, false] rfl rfl (take_ofW HT_.out HW_.out (by kernel_rfl)) (fun _ _ _ h => h) (Or.inl ⟨by rfl, ?_⟩) hHeld ?_ ?_; rotate_left
                            · rintro w' ⟨s0, s1, s2⟩; go_simp
                              with_reducible rfl
                            rotate_left
                            · simp only [Act.put, List.setIfInBounds_toArray, List.set_cons_zero, List.set_cons_succ, i64_w, i32_w]; rfl
                            refine take_ (i := 13) (N := some 40) (v := ?_) (a' := ?_) #[true, true, true, true, true, true, true, true, true, true, true, true, true, true, true, true, true, false, false, false, false, false] rfl rfl (take_ofW HT_.out HW_.out (by kernel_rfl)) (fun _ _ _ h => h) (Or.inl ⟨by rfl, ?_⟩) hHeld ?_ ?_; rotate_left
                            · rintro w' ⟨s0, s1, s2⟩; go_simp
                              with_reducible rfl
                            rotate_left
                            · simp only [Act.put, List.setIfInBounds_toArray, List.set_cons_zero, List.set_cons_succ, i64_w, i32_w]; rfl
                            refine take_ (i := 17) (N := some 44) (v := ?_) (a' := ?_) #[true, true, true, true, true, true, true, true, true, true, true, true, true, true, true, true, true, true, false, false, false, false] rfl rfl (take_ofW HT_.out HW_.out (by kernel_rfl)) (fun _ _ _ h => h) (Or.inl ⟨by rfl, ?_⟩) hHeld ?_ ?_; rotate_left
                            · rintro w' ⟨s0, s1, s2⟩; go_simp
                              with_reducible rfl
                            rotate_left
                            · simp only [Act.put, List.setIfInBounds_toArray, List.set_cons_zero, List.set_cons_succ, i64_w, i32_w]; rfl
                            refine pz_ 18 45 rfl rfl (any_of HT_.out (by kernel_rfl)) ?_; refine pz_ 19 46 rfl rfl (any_of HT_.out (by kernel_rfl)) ?_; refine pz_ 20 47 rfl rfl (any_of HT_.out (by kernel_rfl)) ?_; refine last_ (i := 21) (N := none) #[true, true, true, true, true, true, true, true, true, true, true, true, true, true, true, true, true, true, true, true, true, true] rfl rfl (one_of HT_.out (by kernel_rfl)) (by decide) (fun K hK => ?_); refine skip_ (w1 := ?_) (by rfl) rfl ?_ ?_; rotate_left
                            · go_simp
                              rfl
                            refine hK.out _ _ ?_; clear hK K; refine done_ (done_of HT_.out (by kernel_rfl)) ?_; try go_wp2
                            go_roundg k2
                            case measure => have := HK1.out; have := HK2.out; omega
                            case rel => exact ⟨(y342), (wrap64 (x7_2 + 1)), rz_, H', ⟨by have := HK1.out; have := HK2.out; omega⟩, ⟨by (with_reducible repeat (first | apply Kd.R_alloc | apply Kd.R_drewN | apply Kd.R_drew)); exact HQ19.out⟩, ⟨by repeat (first | (with_reducible first | exact HB.out | apply below_alloc | apply pw_below_drewN | apply below_drew1 | refine below_set ?_ GB16.out) | exact HB.out)⟩⟩
                          · rw [if_neg c15] at H; exact absurd H (by simp)
                        · rw [if_neg c14] at H; exact absurd H (by simp)
                      · rw [if_neg c13] at H; exact absurd H (by simp)
                    · rw [if_neg c12] at H; exact absurd H (by simp)
                  · rw [if_neg c11] at H; exact absurd H (by simp)
                · rw [if_neg c9] at H; have c9b0 : decide (x7_2 < (l1.length : Int)) = false := decide_eq_false c9; clear c9; have H' := Aside0.mk H; clear H; go_wp2; go_roundg k2
                  case measure => have := HK1.out; have := HK2.out; omega
                  case rel => exact ⟨(x5_2), (wrap64 (x6_1 + 1)), rz_, H', ⟨by have := HK1.out; have := HK2.out; omega⟩, ⟨ra_ HO_5.out⟩, ⟨hb_⟩⟩
          · rw [if_neg c8] at H; have c8b0 : decide (x6_1 < (l0.length : Int)) = false := decide_eq_false c8; clear c8; replace H := Option.bind_eq_some_iff.mp H; obtain ⟨t336, A200, H⟩ := H; have A20 := Aside0.mk A200; clear A200; obtain rfl := Option.some.inj H; obtain ⟨Ao21, co21, eo21⟩ := Kd.R_slice HO_5.out; subst eo21; go_wp2_with (first | ((with_reducible refine gate_callee (f := 193) rfl ?_); refine gl_ 51 Tryz.func193 #[.slice Ao21 x5_1.length co21, .int .i64 (x5_1.length : Int)] ?_; (with_reducible refine (samphireref06_carried.calls k1 _ _ x5_1 (x5_1.length : Int) t336 _ ?side1 ?side2 A20.out).mono ?_); (case side1 => exact ca_ (Kd.R_reads' HO_5.out).2.2); (case side2 => exact (Kd.R_reads' HO_5.out).2.1); rintro e w22 ⟨v337, rfl, ho0, hb⟩; refine ⟨_, rfl, ?_⟩; have HO338 := Aside0.mk (Kd.R_lower (Kd.R_new' ho0 (Kd.R_lt (ra_ HO_5.out))) (below_size hb_)); replace HO_5 := Aside0.mk (Kd.R_elder' (ra_ HO_5.out) (Kd.R_base ho0) hb); replace HB := Aside0.mk (below_step hb_ hb); (try clear ho0)))
            go_ret
            exact ⟨_, by first | rfl | (simp [errW_none, errW_some] <;> rfl) | (simp only [← hji3]; first | rfl | (simp [errW_none, errW_some] <;> rfl)) | (simp [*, errW_none, errW_some] <;> rfl), by (with_reducible repeat (first | apply Kd.R_alloc | apply Kd.R_drewN | apply Kd.R_drew)); exact Kd.R_mono HO338.out (fun _ hk => trivial), hb_⟩
    · rw [if_neg c5] at H; exact absurd H (by simp)
  · rw [if_neg c4] at H; exact absurd H (by simp)
end Go.Proofs.YtbkbganflnemeaaGreat.Pr
end

section
namespace Go.Proofs.YtbkbganflnemeaaGreat.Pr
open Go.RowKit Go.Proofs.YtbkbganflnemeaaGreatW.PrintWords Go.Proofs.YtbkbganflnemeaaGreatW.PrintLast Go.Proofs.YtbkbganflnemeaaGreatW.PrintMore
attribute [local go_sem] max2_int min2_int max_two min_two max_three min_three max_four min_four
def samphireref06_add.l0 : Nat → List Int → List Int → Int → List Int → Int → Option (List Int)
 | 0, _, _, _, _, _ => none
 | k + 1, x0, x1, x2, x7, x8 => if x8 < x2 then (if x8 < (x0.length : Int) then (if 0 ≤ x8 then (if x8 < (x7.length : Int) then ((some (x7.set (x8 : Int).toNat (wrap64 ((rd x7 x8) + (rd x0 x8))) : List Int)).bind fun y351 => (if x8 < (x1.length : Int) then (samphireref06_add.l0 k x0 x1 x2 (y351.set (x8 : Int).toNat (wrap64 ((rd y351 x8) + (rd x1 x8)))) (wrap64 (x8 + 1))) else (samphireref06_add.l0 k x0 x1 x2 y351 (wrap64 (x8 + 1))))) else (none)) else (none)) else (if x8 < (x1.length : Int) then (if 0 ≤ x8 then (if x8 < (x7.length : Int) then (samphireref06_add.l0 k x0 x1 x2 (x7.set (x8 : Int).toNat (wrap64 ((rd x7 x8) + (rd x1 x8)))) (wrap64 (x8 + 1))) else (none)) else (none)) else (samphireref06_add.l0 k x0 x1 x2 x7 (wrap64 (x8 + 1))))) else ((samphireref06_carried.f k x7 x2).bind fun t346 => (some t346))
def samphireref06_add.f (k : Nat) (l0 : List Int) (l1 : List Int) (a2 : Int) : Option (List Int) := if 0 ≤ a2 then (if (a2 : Int).toNat ≤ 35184372088832 then (samphireref06_add.l0 k l0 l1 a2 (List.replicate (a2 : Int).toNat 0) 0) else (none)) else (none)
def samphireref06_add.T6 : Bool × List (List Nat × List Nat) := (true, [([], []), ([], []), ([], []), ([], []), ([2, 3], [2, 3]), ([4], [4]), ([], []), ([], []), ([6, 7], [6, 7]), ([8], [8]), ([5, 9], [5, 9]), ([0, 1, 0, 1, 2, 3, 4, 5, 6, 7, 8, 9, 10], [0, 1]), ([11, 10, 0, 1, 2, 3, 4, 5, 6, 7, 8, 9, 10], [10, 11])])
def samphireref06_add.B6 : List Nat := [0, 0, 0, 0, 12, 28, 0, 0, 192, 448, 1020, 2047, 4095]
theorem samphireref06_add.tab6 : rtab .any (opsOf Tryz.f166 6) = samphireref06_add.T6 := by kernel_rfl
theorem samphireref06_add.bits6 : waitsOk samphireref06_add.T6.2 samphireref06_add.B6 = true := by kernel_rfl
def samphireref06_add.T8 : Bool × List (List Nat × List Nat) := (true, [([], []), ([], []), ([], []), ([], []), ([2, 3], [2, 3]), ([4], [4]), ([], []), ([], []), ([6, 7], [6, 7]), ([8], [8]), ([5, 9], [5, 9]), ([0, 1, 0, 1, 2, 3, 4, 5, 6, 7, 8, 9, 10], [0, 1]), ([11, 10, 0, 1, 2, 3, 4, 5, 6, 7, 8, 9, 10], [10, 11])])
def samphireref06_add.B8 : List Nat := [0, 0, 0, 0, 12, 28, 0, 0, 192, 448, 1020, 2047, 4095]
theorem samphireref06_add.tab8 : rtab .any (opsOf Tryz.f166 8) = samphireref06_add.T8 := by kernel_rfl
theorem samphireref06_add.bits8 : waitsOk samphireref06_add.T8.2 samphireref06_add.B8 = true := by kernel_rfl
set_option maxHeartbeats 8000000 in
set_option maxRecDepth 100000 in
theorem samphireref06_add.calls (k : Nat) (A0 : Option Addr) (c0 : Nat) (l0 : List Int) (A1 : Option Addr) (c1 : Nat) (l1 : List Int) (a2 : Int) (r : List Int) (w : World) (hr0 : Kd.C (Kd.int .i64) w A0 l0.length l0) (hc0 : l0.length ≤ c0) (hr1 : Kd.C (Kd.int .i64) w A1 l1.length l1) (hc1 : l1.length ≤ c1) (h : samphireref06_add.f k l0 l1 a2 = some r) :
    Calls Tryz.prog 166 #[.slice A0 l0.length c0, .slice A1 l1.length c1, .int .i64 a2] w fun e w' => ∃ v0_ : Value, e = .returned (v0_) ∧ Kd.R (Kd.int .i64) 3 w' w.heap.size (fun _ => True) v0_ r ∧ Below w.heap.size w w' := by
  have HR0 := Aside0.mk hr0; have HC0 := Aside0.mk hc0; clear hr0 hc0; have HR1 := Aside0.mk hr1; have HC1 := Aside0.mk hc1; clear hr1 hc1; have HB := Aside0.mk (Below.refl w.heap.size w); have H : (if 0 ≤ a2 then (if (a2 : Int).toNat ≤ 35184372088832 then (samphireref06_add.l0 k l0 l1 a2 (List.replicate (a2 : Int).toNat 0) 0) else (none)) else (none)) = some r := h; clear h; by_cases c4 : 0 ≤ a2
  · rw [if_pos c4] at H; have c4b0 := eq_true c4; have c4b1 : decide (0 ≤ a2) = true := decide_eq_true c4; clear c4; by_cases c5 : (a2 : Int).toNat ≤ 35184372088832
    · rw [if_pos c5] at H; have c5b0 := eq_true c5; have c5b1 : decide ((a2 : Int).toNat ≤ 35184372088832) = true := decide_eq_true c5; clear c5; obtain ⟨y343, hy343⟩ : ∃ y_ : List Int, y_ = (List.replicate (a2 : Int).toNat 0) := ⟨_, rfl⟩; replace H : (samphireref06_add.l0 k l0 l1 a2 y343 0) = some r := by first | (rw [hy343]; with_reducible exact H) | (have H2_ := (Option.bind_some _ _).symm.trans H; rw [hy343]; with_reducible exact H2_) | (have H2_ := (Option.bind_some _ _).symm.trans H; with_reducible exact H2_) | with_reducible exact H | (rw [hy343]; exact H) | exact H
      have Ny343 := Aside0.mk hy343; clear hy343; have H' := Aside0.mk H; clear H; go_enter Tryz.func166, Tryz.ntmps166
      go_wp2_with (first | ((with_reducible refine gate_dst (N := 10) rfl ?_); refine Kd.R_make (Kd.int .i64) _ 3 rfl (N := 10) rfl 116 _ _ rfl a2 rfl rfl Tryz.underlying116 (.int .i64 0) 8 info3 rfl (by decide) (by omega) 0 (ok := fun _ => True) (okp := fun _ => True) rfl (fun _ hk => hk) trivial (of_decide_eq_true as_') (Nat.le_trans (Nat.mul_le_mul_right _ (of_decide_eq_true as_' : a2.toNat ≤ 35184372088832)) (by omega)) (Below.refl _ _) (Nat.le_refl _) ?_; intro v344 w6 ho7 hb hg_ hnew_; clear hg_ hnew_; (first | rw [← Ny343.out] at ho7 | (simp only [Int.reduceToNat] at ho7; rw [← Ny343.out] at ho7)); have HO345 := Aside0.mk (Kd.R_lower ho7 (below_size hb_)); replace HB := Aside0.mk (below_step hb_ hb); clear hb ho7))
      go_loopg [8] k (fun kq v8 w' => ∃ (x7_1 : List Int) (x8_1 : Int), v8 = .int .i64 x8_1 ∧ Aside0 (samphireref06_add.l0 kq l0 l1 a2 x7_1 x8_1 = some r) ∧ Aside0 (kq ≤ k) ∧ Aside0 (Kd.R (Kd.int .i64) 3 w' w.heap.size (fun _ => True) v344 x7_1) ∧ Aside0 (Below w.heap.size w w'))
      case atStart => exact ⟨(y343), (0), rz_, H', ⟨Nat.le_refl _⟩, ⟨ra_ HO345.out⟩, ⟨hb_⟩⟩
      case round =>
        clear H'; obtain ⟨x7_1, x8_1, rfl, HA, HK1, HO_7, HB⟩ := hrel; cases gk with
        | zero => exact absurd HA.out (by simp [samphireref06_add.l0])
        | succ k1 =>
          have H := HA.out; clear HA; simp only [samphireref06_add.l0] at H; by_cases c8 : x8_1 < a2
          · rw [if_pos c8] at H; have c8b0 : decide (x8_1 < a2) = true := decide_eq_true c8; clear c8; by_cases c9 : x8_1 < (l0.length : Int)
            · rw [if_pos c9] at H; have c9b0 : decide (x8_1 < (l0.length : Int)) = true := decide_eq_true c9; clear c9; by_cases c10 : 0 ≤ x8_1
              · rw [if_pos c10] at H; have c10b0 : decide (0 ≤ x8_1) = true := decide_eq_true c10; clear c10; by_cases c11 : x8_1 < (x7_1.length : Int)
                · rw [if_pos c11] at H; have c11b0 : decide (x8_1 < (x7_1.length : Int)) = true := decide_eq_true c11; clear c11; obtain ⟨y351, hy351⟩ : ∃ y_ : List Int, y_ = (x7_1.set (x8_1 : Int).toNat (wrap64 ((rd x7_1 x8_1) + (rd l0 x8_1)))) := ⟨_, rfl⟩; replace H : (if x8_1 < (l1.length : Int) then (samphireref06_add.l0 k1 l0 l1 a2 (y351.set (x8_1 : Int).toNat (wrap64 ((rd y351 x8_1) + (rd l1 x8_1)))) (wrap64 (x8_1 + 1))) else (samphireref06_add.l0 k1 l0 l1 a2 y351 (wrap64 (x8_1 + 1)))) = some r := by first | (rw [hy351]; with_reducible exact H) | (have H2_ := (Option.bind_some _ _).symm.trans H; rw [hy351]; with_reducible exact H2_) | (have H2_ := (Option.bind_some _ _).symm.trans H; with_reducible exact H2_) | with_reducible exact H | (rw [hy351]; exact H) | exact H
                  have Ny351 := Aside0.mk hy351; clear hy351; by_cases c13 : x8_1 < (l1.length : Int)
                  · rw [if_pos c13] at H; have c13b0 : decide (x8_1 < (l1.length : Int)) = true := decide_eq_true c13; clear c13; obtain ⟨y354, hy354⟩ : ∃ y_ : List Int, y_ = (y351.set (x8_1 : Int).toNat (wrap64 ((rd y351 x8_1) + (rd l1 x8_1)))) := ⟨_, rfl⟩; replace H : (samphireref06_add.l0 k1 l0 l1 a2 y354 (wrap64 (x8_1 + 1))) = some r := by first | (rw [hy354]; with_reducible exact H) | (have H2_ := (Option.bind_some _ _).symm.trans H; rw [hy354]; with_reducible exact H2_) | (have H2_ := (Option.bind_some _ _).symm.trans H; with_reducible exact H2_) | with_reducible exact H | (rw [hy354]; exact H) | exact H
                    have Ny354 := Aside0.mk hy354; clear hy354; have H' := Aside0.mk H; clear H; try go_wp2
                    replace HO_7 := Aside0.mk (Kd.R_drew HO_7.out); replace HB := Aside0.mk (below_drew1 HB.out); obtain ⟨Ao16, co16, eo16⟩ := Kd.R_slice HO_7.out
                    (first | subst eo16 | (injection eo16 with f1_ f2_ f3_; have f4_ := f1_.symm; have f5_ := f3_.symm; clear f1_ f2_ f3_; subst f4_; subst f5_))
                    have p349 : 0 ≤ (x8_1 : Int) := of_decide_eq_true as_'; have q349 : x8_1 < (x7_1.length : Int) := of_decide_eq_true as_'; obtain ⟨ad349, e349, hx349_0⟩ := Kd.at_int (Kd.R_reads' HO_7.out).2.2 x8_1 p349 q349; cases e349; replace p349 := eq_true p349; replace q349 := eq_true q349; have p350 : 0 ≤ (x8_1 : Int) := of_decide_eq_true as_'; have q350 : x8_1 < (l0.length : Int) := of_decide_eq_true as_'; obtain ⟨ad350, e350, hx350_0⟩ := Kd.at_int HR0.out x8_1 p350 q350; have hw350_0 := hx350_0; cases e350; replace hx350_0 := (HB.out.cell (World.block_lt_of_cell? w _ hx350_0)).trans hx350_0; replace p350 := eq_true p350; replace q350 := eq_true q350; have p12 : 0 ≤ (x8_1 : Int) := of_decide_eq_true as_'; have q12 : (x8_1 : Int) < ((x7_1.length : Int) : Int) := of_decide_eq_true as_'; obtain ⟨go12, co12, eo12, gb12, gl12, cl12, HG12⟩ := Kd.R_form HO_7.out (by omega)
                    (first | cases eo12 | (injection eo12 with ea_ en_ ec_; (first | subst ea_ | (injection ea_ with ea_; subst ea_)); subst ec_; clear en_))
                    have GB12 := Aside0.mk gb12; have GG12 := Aside0.mk HG12; clear gb12 gl12 HG12
                    (first | simp only [add_plain] at hx349_0 | skip)
                    obtain ⟨hx12_0, hf12_0⟩ := Kd.R_celln 0 HO_7.out (x8_1 : Int) p12 q12; replace p12 := eq_true p12; replace q12 := eq_true q12; have HP17 := Kd.R_putn HO_7.out (x8_1 : Int) (wrap64 ((rd x7_1 x8_1) + (rd l0 x8_1))); rw [← Ny351.out] at HP17; have HQ17 := Aside0.mk HP17; clear HP17; refine start_ (n := 13) (S := fun w' => w'.cell? ⟨go12, (x8_1).toNat, none⟩ = some (.int .i64 (rd x7_1 x8_1)) ∧ w'.cell? (ad350.add (x8_1).toNat) = some (.int .i64 (rd l0 x8_1))) (ds := [12]) #[false, false, false, false, false, false, false, false, false, false, false, false, false] (by kernel_rfl) rfl rfl ⟨hx349_0, ((HB.out.cell (World.block_lt_of_cell? w _ hw350_0)).trans hw350_0)⟩ (fun hHeld => ?_); refine with_tabW samphireref06_add.tab6 samphireref06_add.bits6 (fun HT_ HW_ => ?_); generalize wr.drew = w15 at HO_7 HB GG12 HQ17 hf12_0 hx12_0 hx349_0 hx350_0 hHeld ⊢; refine pz_ 0 20 rfl rfl (any_of HT_.out (by kernel_rfl)) ?_; refine pz_ 1 21 rfl rfl (any_of HT_.out (by kernel_rfl)) ?_; refine pz_ 2 22 rfl rfl (any_of HT_.out (by kernel_rfl)) ?_; refine pz_ 3 23 rfl rfl (any_of HT_.out (by kernel_rfl)) ?_; refine pz_ 4 24 rfl rfl (any_of HT_.out (by kernel_rfl)) ?_; refine pz_ 6 26 rfl rfl (any_of HT_.out (by kernel_rfl)) ?_; refine pz_ 7 27 rfl rfl (any_of HT_.out (by kernel_rfl)) ?_; refine pz_ 8 28 rfl rfl (any_of HT_.out (by kernel_rfl)) ?_; refine take_ (i := 5) (N := some 25) (v := ?_) (a' := ?_) #[true, true, true, true, true, true, true, true, true, false, false, false, false] rfl rfl (take_ofW HT_.out HW_.out (by kernel_rfl)) (fun _ _ _ h => h) (Or.inl ⟨by rfl, ?_⟩) hHeld ?_ ?_; rotate_left
                    · rintro w' ⟨s0, s1⟩; go_simp
                      with_reducible rfl
                    rotate_left
                    · simp only [Act.put, List.setIfInBounds_toArray, List.set_cons_zero, List.set_cons_succ, i64_w, i32_w]; rfl
                    refine take_ (i := 9) (N := some 29) (v := ?_) (a' := ?_) #[true, true, true, true, true, true, true, true, true, true, false, false, false] rfl rfl (take_ofW HT_.out HW_.out (by kernel_rfl)) (fun _ _ _ h => h) (Or.inl ⟨by rfl, ?_⟩) hHeld ?_ ?_; rotate_left
                    · rintro w' ⟨s0, s1⟩; go_simp
                      with_reducible rfl
                    rotate_left
                    · simp only [Act.put, List.setIfInBounds_toArray, List.set_cons_zero, List.set_cons_succ, i64_w, i32_w]; rfl
                    refine pz_ 10 30 rfl rfl (any_of HT_.out (by kernel_rfl)) ?_; refine pz_ 11 31 rfl rfl (any_of HT_.out (by kernel_rfl)) ?_; refine last_ (i := 12) (N := none) #[true, true, true, true, true, true, true, true, true, true, true, true, true] rfl rfl (one_of HT_.out (by kernel_rfl)) (by decide) (fun K hK => ?_); refine skip_ (w1 := ?_) (by rfl) rfl ?_ ?_; rotate_left
                    · go_simp
                      rfl
                    refine hK.out _ _ ?_; clear hK K; refine done_ (done_of HT_.out (by kernel_rfl)) ?_; try go_wp2
                    have n0_ : Aside0 (Kd.R (Kd.int .i64) 3 (w15.setCell ⟨go12, (x8_1 : Int).toNat, none⟩ (.int .i64 (wrap64 ((rd x7_1 x8_1) + (rd l0 x8_1))))) w.heap.size (fun _ => True) (.slice (some ⟨go12, 0, none⟩) x7_1.length co16) y351) := ⟨by (with_reducible repeat (first | apply Kd.R_alloc | apply Kd.R_drewN | apply Kd.R_drew)); exact HQ17.out⟩; have n1_ : Aside0 (Below w.heap.size w (w15.setCell ⟨go12, (x8_1 : Int).toNat, none⟩ (.int .i64 (wrap64 ((rd x7_1 x8_1) + (rd l0 x8_1)))))) := ⟨by repeat (first | (with_reducible first | exact HB.out | apply below_alloc | apply pw_below_drewN | apply below_drew1 | refine below_set ?_ GB12.out) | exact HB.out)⟩; generalize (w15.setCell ⟨go12, (x8_1 : Int).toNat, none⟩ (.int .i64 (wrap64 ((rd x7_1 x8_1) + (rd l0 x8_1))))) = w18 at n0_ n1_ ⊢; have HO_7 := n0_; have HB := n1_; clear n0_ n1_; replace HO_7 := Aside0.mk (Kd.R_drew HO_7.out); replace HB := Aside0.mk (below_drew1 HB.out); have p352 : 0 ≤ (x8_1 : Int) := of_decide_eq_true as_'; have q352 : x8_1 < (y351.length : Int) := (by have h_ : (x8_1 : Int) < ((x7_1.length : Int) : Int) := of_decide_eq_true as_'; first | (have e_ := (Kd.R_reads' HO_7.out).1; omega) | simpa only [Ny351.out, List.length_set] using h_); have ql352 : ((x8_1 : Int) < ((x7_1.length : Int) : Int)) = True := eq_true (of_decide_eq_true as_'); obtain ⟨ad352, e352, hx352_0⟩ := Kd.at_int (Kd.R_reads' HO_7.out).2.2 x8_1 p352 q352; obtain rfl : (⟨go12, 0, none⟩ : Addr) = ad352 := (by injection e352)
                    (first | simp only [add_plain] at hx352_0 | simp only [add_at] at hx352_0 | simp only [Addr.add, Nat.zero_add] at hx352_0 | skip)
                    replace p352 := eq_true p352; replace q352 := eq_true q352; have p353 : 0 ≤ (x8_1 : Int) := of_decide_eq_true as_'; have q353 : x8_1 < (l1.length : Int) := of_decide_eq_true as_'; obtain ⟨ad353, e353, hx353_0⟩ := Kd.at_int HR1.out x8_1 p353 q353; have hw353_0 := hx353_0; cases e353; replace hx353_0 := (HB.out.cell (World.block_lt_of_cell? w _ hx353_0)).trans hx353_0; replace p353 := eq_true p353; replace q353 := eq_true q353; have p14 : 0 ≤ (x8_1 : Int) := of_decide_eq_true as_'; have q14 : (x8_1 : Int) < ((x7_1.length : Int) : Int) := of_decide_eq_true as_'; obtain ⟨hx14_0, hf14_0⟩ := Kd.R_celln 0 HO_7.out (x8_1 : Int) p14 q14; replace p14 := eq_true p14; replace q14 := eq_true q14; have HP20 := Kd.R_putn HO_7.out (x8_1 : Int) (wrap64 ((rd y351 x8_1) + (rd l1 x8_1))); rw [← Ny354.out] at HP20; have HQ20 := Aside0.mk HP20; clear HP20; refine start_ (n := 13) (S := fun w' => w'.cell? ⟨go12, (x8_1).toNat, none⟩ = some (.int .i64 (rd y351 x8_1)) ∧ w'.cell? (ad353.add (x8_1).toNat) = some (.int .i64 (rd l1 x8_1))) (ds := [12]) #[false, false, false, false, false, false, false, false, false, false, false, false, false] (by kernel_rfl) rfl rfl ⟨hx352_0, ((HB.out.cell (World.block_lt_of_cell? w _ hw353_0)).trans hw353_0)⟩ (fun hHeld => ?_); refine with_tabW samphireref06_add.tab8 samphireref06_add.bits8 (fun HT_ HW_ => ?_); generalize w18.drew = w19 at HO_7 HB HQ17 HQ20 hf14_0 hx14_0 hx352_0 hx353_0 hHeld ⊢; refine pz_ 0 36 rfl rfl (any_of HT_.out (by kernel_rfl)) ?_; refine pz_ 1 37 rfl rfl (any_of HT_.out (by kernel_rfl)) ?_; refine pz_ 2 38 rfl rfl (any_of HT_.out (by kernel_rfl)) ?_; refine pz_ 3 39 rfl rfl (any_of HT_.out (by kernel_rfl)) ?_; refine pz_ 4 40 rfl rfl (any_of HT_.out (by kernel_rfl)) ?_; refine pz_ 6 42 rfl rfl (any_of HT_.out (by kernel_rfl)) ?_; refine pz_ 7 43 rfl rfl (any_of HT_.out (by kernel_rfl)) ?_; refine pz_ 8 44 rfl rfl (any_of HT_.out (by kernel_rfl)) ?_; refine take_ (i := 5) (N := some 41) (v := ?_) (a' := ?_) #[true, true, true, true, true, true, true, true, true, false, false, false, false] rfl rfl (take_ofW HT_.out HW_.out (by kernel_rfl)) (fun _ _ _ h => h) (Or.inl ⟨by rfl, ?_⟩) hHeld ?_ ?_; rotate_left
                    · rintro w' ⟨s0, s1⟩; go_simp
                      with_reducible rfl
                    rotate_left
                    · simp only [Act.put, List.setIfInBounds_toArray, List.set_cons_zero, List.set_cons_succ, i64_w, i32_w]; rfl
                    refine take_ (i := 9) (N := some 45) (v := ?_) (a' := ?_) #[true, true, true, true, true, true, true, true, true, true, false, false, false] rfl rfl (take_ofW HT_.out HW_.out (by kernel_rfl)) (fun _ _ _ h => h) (Or.inl ⟨by rfl, ?_⟩) hHeld ?_ ?_; rotate_left
                    · rintro w' ⟨s0, s1⟩; go_simp
                      with_reducible rfl
                    rotate_left
                    · simp only [Act.put, List.setIfInBounds_toArray, List.set_cons_zero, List.set_cons_succ, i64_w, i32_w]; rfl
                    refine pz_ 10 46 rfl rfl (any_of HT_.out (by kernel_rfl)) ?_; refine pz_ 11 47 rfl rfl (any_of HT_.out (by kernel_rfl)) ?_; refine last_ (i := 12) (N := none) #[true, true, true, true, true, true, true, true, true, true, true, true, true] rfl rfl (one_of HT_.out (by kernel_rfl)) (by decide) (fun K hK => ?_); refine skip_ (w1 := ?_) (by rfl) rfl ?_ ?_; rotate_left
                    · go_simp
                      rfl
                    refine hK.out _ _ ?_; clear hK K; refine done_ (done_of HT_.out (by kernel_rfl)) ?_; try go_wp2
                    go_roundg k1
                    case measure => have := HK1.out; omega
                    case rel => exact ⟨(y354), (wrap64 (x8_1 + 1)), rz_, H', ⟨by have := HK1.out; omega⟩, ⟨by (with_reducible repeat (first | apply Kd.R_alloc | apply Kd.R_drewN | apply Kd.R_drew)); exact HQ20.out⟩, ⟨by repeat (first | (with_reducible first | exact HB.out | apply below_alloc | apply pw_below_drewN | apply below_drew1 | refine below_set ?_ GB12.out) | exact HB.out)⟩⟩
                  · rw [if_neg c13] at H; have c13b0 : decide (x8_1 < (l1.length : Int)) = false := decide_eq_false c13; clear c13; have H' := Aside0.mk H; clear H; try go_wp2
                    replace HO_7 := Aside0.mk (Kd.R_drew HO_7.out); replace HB := Aside0.mk (below_drew1 HB.out); obtain ⟨Ao22, co22, eo22⟩ := Kd.R_slice HO_7.out
                    (first | subst eo22 | (injection eo22 with f1_ f2_ f3_; have f4_ := f1_.symm; have f5_ := f3_.symm; clear f1_ f2_ f3_; subst f4_; subst f5_))
                    have p349 : 0 ≤ (x8_1 : Int) := of_decide_eq_true as_'; have q349 : x8_1 < (x7_1.length : Int) := of_decide_eq_true as_'; obtain ⟨ad349, e349, hx349_0⟩ := Kd.at_int (Kd.R_reads' HO_7.out).2.2 x8_1 p349 q349; cases e349; replace p349 := eq_true p349; replace q349 := eq_true q349; have p350 : 0 ≤ (x8_1 : Int) := of_decide_eq_true as_'; have q350 : x8_1 < (l0.length : Int) := of_decide_eq_true as_'; obtain ⟨ad350, e350, hx350_0⟩ := Kd.at_int HR0.out x8_1 p350 q350; have hw350_0 := hx350_0; cases e350; replace hx350_0 := (HB.out.cell (World.block_lt_of_cell? w _ hx350_0)).trans hx350_0; replace p350 := eq_true p350; replace q350 := eq_true q350; have p12 : 0 ≤ (x8_1 : Int) := of_decide_eq_true as_'; have q12 : (x8_1 : Int) < ((x7_1.length : Int) : Int) := of_decide_eq_true as_'; obtain ⟨go12, co12, eo12, gb12, gl12, cl12, HG12⟩ := Kd.R_form HO_7.out (by omega)
                    (first | cases eo12 | (injection eo12 with ea_ en_ ec_; (first | subst ea_ | (injection ea_ with ea_; subst ea_)); subst ec_; clear en_))
                    have GB12 := Aside0.mk gb12; have GG12 := Aside0.mk HG12; clear gb12 gl12 HG12
                    (first | simp only [add_plain] at hx349_0 | skip)
                    obtain ⟨hx12_0, hf12_0⟩ := Kd.R_celln 0 HO_7.out (x8_1 : Int) p12 q12; replace p12 := eq_true p12; replace q12 := eq_true q12; have HP23 := Kd.R_putn HO_7.out (x8_1 : Int) (wrap64 ((rd x7_1 x8_1) + (rd l0 x8_1))); rw [← Ny351.out] at HP23; have HQ23 := Aside0.mk HP23; clear HP23; refine start_ (n := 13) (S := fun w' => w'.cell? ⟨go12, (x8_1).toNat, none⟩ = some (.int .i64 (rd x7_1 x8_1)) ∧ w'.cell? (ad350.add (x8_1).toNat) = some (.int .i64 (rd l0 x8_1))) (ds := [12]) #[false, false, false, false, false, false, false, false, false, false, false, false, false] (by kernel_rfl) rfl rfl ⟨hx349_0, ((HB.out.cell (World.block_lt_of_cell? w _ hw350_0)).trans hw350_0)⟩ (fun hHeld => ?_); refine with_tabW samphireref06_add.tab6 samphireref06_add.bits6 (fun HT_ HW_ => ?_); generalize wr.drew = w21 at HO_7 HB GG12 HQ23 hf12_0 hx12_0 hx349_0 hx350_0 hHeld ⊢; refine pz_ 0 20 rfl rfl (any_of HT_.out (by kernel_rfl)) ?_; refine pz_ 1 21 rfl rfl (any_of HT_.out (by kernel_rfl)) ?_; refine pz_ 2 22 rfl rfl (any_of HT_.out (by kernel_rfl)) ?_; refine pz_ 3 23 rfl rfl (any_of HT_.out (by kernel_rfl)) ?_; refine pz_ 4 24 rfl rfl (any_of HT_.out (by kernel_rfl)) ?_; refine pz_ 6 26 rfl rfl (any_of HT_.out (by kernel_rfl)) ?_; refine pz_ 7 27 rfl rfl (any_of HT_.out (by kernel_rfl)) ?_; refine pz_ 8 28 rfl rfl (any_of HT_.out (by kernel_rfl)) ?_; refine take_ (i := 5) (N := some 25) (v := ?_) (a' := ?_) #[true, true, true, true, true, true, true, true, true, false, false, false, false] rfl rfl (take_ofW HT_.out HW_.out (by kernel_rfl)) (fun _ _ _ h => h) (Or.inl ⟨by rfl, ?_⟩) hHeld ?_ ?_; rotate_left
                    · rintro w' ⟨s0, s1⟩; go_simp
                      with_reducible rfl
                    rotate_left
                    · simp only [Act.put, List.setIfInBounds_toArray, List.set_cons_zero, List.set_cons_succ, i64_w, i32_w]; rfl
                    refine take_ (i := 9) (N := some 29) (v := ?_) (a' := ?_) #[true, true, true, true, true, true, true, true, true, true, false, false, false] rfl rfl (take_ofW HT_.out HW_.out (by kernel_rfl)) (fun _ _ _ h => h) (Or.inl ⟨by rfl, ?_⟩) hHeld ?_ ?_; rotate_left
                    · rintro w' ⟨s0, s1⟩; go_simp
                      with_reducible rfl
                    rotate_left
                    · simp only [Act.put, List.setIfInBounds_toArray, List.set_cons_zero, List.set_cons_succ, i64_w, i32_w]; rfl
                    refine pz_ 10 30 rfl rfl (any_of HT_.out (by kernel_rfl)) ?_; refine pz_ 11 31 rfl rfl (any_of HT_.out (by kernel_rfl)) ?_; refine last_ (i := 12) (N := none) #[true, true, true, true, true, true, true, true, true, true, true, true, true] rfl rfl (one_of HT_.out (by kernel_rfl)) (by decide) (fun K hK => ?_); refine skip_ (w1 := ?_) (by rfl) rfl ?_ ?_; rotate_left
                    · go_simp
                      rfl
                    refine hK.out _ _ ?_; clear hK K; refine done_ (done_of HT_.out (by kernel_rfl)) ?_; try go_wp2
                    go_roundg k1
                    case measure => have := HK1.out; omega
                    case rel => exact ⟨(y351), (wrap64 (x8_1 + 1)), rz_, H', ⟨by have := HK1.out; omega⟩, ⟨by (with_reducible repeat (first | apply Kd.R_alloc | apply Kd.R_drewN | apply Kd.R_drew)); exact HQ23.out⟩, ⟨by repeat (first | (with_reducible first | exact HB.out | apply below_alloc | apply pw_below_drewN | apply below_drew1 | refine below_set ?_ GB12.out) | exact HB.out)⟩⟩
                · rw [if_neg c11] at H; exact absurd H (by simp)
              · rw [if_neg c10] at H; exact absurd H (by simp)
            · rw [if_neg c9] at H; have c9b0 : decide (x8_1 < (l0.length : Int)) = false := decide_eq_false c9; clear c9; by_cases c24 : x8_1 < (l1.length : Int)
              · rw [if_pos c24] at H; have c24b0 : decide (x8_1 < (l1.length : Int)) = true := decide_eq_true c24; clear c24; by_cases c25 : 0 ≤ x8_1
                · rw [if_pos c25] at H; have c25b0 : decide (0 ≤ x8_1) = true := decide_eq_true c25; clear c25; by_cases c26 : x8_1 < (x7_1.length : Int)
                  · rw [if_pos c26] at H; have c26b0 : decide (x8_1 < (x7_1.length : Int)) = true := decide_eq_true c26; clear c26; obtain ⟨y357, hy357⟩ : ∃ y_ : List Int, y_ = (x7_1.set (x8_1 : Int).toNat (wrap64 ((rd x7_1 x8_1) + (rd l1 x8_1)))) := ⟨_, rfl⟩; replace H : (samphireref06_add.l0 k1 l0 l1 a2 y357 (wrap64 (x8_1 + 1))) = some r := by first | (rw [hy357]; with_reducible exact H) | (have H2_ := (Option.bind_some _ _).symm.trans H; rw [hy357]; with_reducible exact H2_) | (have H2_ := (Option.bind_some _ _).symm.trans H; with_reducible exact H2_) | with_reducible exact H | (rw [hy357]; exact H) | exact H
                    have Ny357 := Aside0.mk hy357; clear hy357; have H' := Aside0.mk H; clear H; try go_wp2
                    replace HO_7 := Aside0.mk (Kd.R_drew HO_7.out); replace HB := Aside0.mk (below_drew1 HB.out); obtain ⟨Ao29, co29, eo29⟩ := Kd.R_slice HO_7.out
                    (first | subst eo29 | (injection eo29 with f1_ f2_ f3_; have f4_ := f1_.symm; have f5_ := f3_.symm; clear f1_ f2_ f3_; subst f4_; subst f5_))
                    have p355 : 0 ≤ (x8_1 : Int) := of_decide_eq_true as_'; have q355 : x8_1 < (x7_1.length : Int) := of_decide_eq_true as_'; obtain ⟨ad355, e355, hx355_0⟩ := Kd.at_int (Kd.R_reads' HO_7.out).2.2 x8_1 p355 q355; cases e355; replace p355 := eq_true p355; replace q355 := eq_true q355; have p356 : 0 ≤ (x8_1 : Int) := of_decide_eq_true as_'; have q356 : x8_1 < (l1.length : Int) := of_decide_eq_true as_'; obtain ⟨ad356, e356, hx356_0⟩ := Kd.at_int HR1.out x8_1 p356 q356; have hw356_0 := hx356_0; cases e356; replace hx356_0 := (HB.out.cell (World.block_lt_of_cell? w _ hx356_0)).trans hx356_0; replace p356 := eq_true p356; replace q356 := eq_true q356; have p27 : 0 ≤ (x8_1 : Int) := of_decide_eq_true as_'; have q27 : (x8_1 : Int) < ((x7_1.length : Int) : Int) := of_decide_eq_true as_'; obtain ⟨go27, co27, eo27, gb27, gl27, cl27, HG27⟩ := Kd.R_form HO_7.out (by omega)
                    (first | cases eo27 | (injection eo27 with ea_ en_ ec_; (first | subst ea_ | (injection ea_ with ea_; subst ea_)); subst ec_; clear en_))
                    have GB27 := Aside0.mk gb27; have GG27 := Aside0.mk HG27; clear gb27 gl27 HG27
                    (first | simp only [add_plain] at hx355_0 | skip)
                    obtain ⟨hx27_0, hf27_0⟩ := Kd.R_celln 0 HO_7.out (x8_1 : Int) p27 q27; replace p27 := eq_true p27; replace q27 := eq_true q27; have HP30 := Kd.R_putn HO_7.out (x8_1 : Int) (wrap64 ((rd x7_1 x8_1) + (rd l1 x8_1))); rw [← Ny357.out] at HP30; have HQ30 := Aside0.mk HP30; clear HP30; refine start_ (n := 13) (S := fun w' => w'.cell? ⟨go27, (x8_1).toNat, none⟩ = some (.int .i64 (rd x7_1 x8_1)) ∧ w'.cell? (ad356.add (x8_1).toNat) = some (.int .i64 (rd l1 x8_1))) (ds := [12]) #[false, false, false, false, false, false, false, false, false, false, false, false, false] (by kernel_rfl) rfl rfl ⟨hx355_0, ((HB.out.cell (World.block_lt_of_cell? w _ hw356_0)).trans hw356_0)⟩ (fun hHeld => ?_); refine with_tabW samphireref06_add.tab8 samphireref06_add.bits8 (fun HT_ HW_ => ?_); generalize wr.drew = w28 at HO_7 HB GG27 HQ30 hf27_0 hx27_0 hx355_0 hx356_0 hHeld ⊢; refine pz_ 0 36 rfl rfl (any_of HT_.out (by kernel_rfl)) ?_; refine pz_ 1 37 rfl rfl (any_of HT_.out (by kernel_rfl)) ?_; refine pz_ 2 38 rfl rfl (any_of HT_.out (by kernel_rfl)) ?_; refine pz_ 3 39 rfl rfl (any_of HT_.out (by kernel_rfl)) ?_; refine pz_ 4 40 rfl rfl (any_of HT_.out (by kernel_rfl)) ?_; refine pz_ 6 42 rfl rfl (any_of HT_.out (by kernel_rfl)) ?_; refine pz_ 7 43 rfl rfl (any_of HT_.out (by kernel_rfl)) ?_; refine pz_ 8 44 rfl rfl (any_of HT_.out (by kernel_rfl)) ?_; refine take_ (i := 5) (N := some 41) (v := ?_) (a' := ?_) #[true, true, true, true, true, true, true, true, true, false, false, false, false] rfl rfl (take_ofW HT_.out HW_.out (by kernel_rfl)) (fun _ _ _ h => h) (Or.inl ⟨by rfl, ?_⟩) hHeld ?_ ?_; rotate_left
                    · rintro w' ⟨s0, s1⟩; go_simp
                      with_reducible rfl
                    rotate_left
                    · simp only [Act.put, List.setIfInBounds_toArray, List.set_cons_zero, List.set_cons_succ, i64_w, i32_w]; rfl
                    refine take_ (i := 9) (N := some 45) (v := ?_) (a' := ?_) #[true, true, true, true, true, true, true, true, true, true, false, false, false] rfl rfl (take_ofW HT_.out HW_.out (by kernel_rfl)) (fun _ _ _ h => h) (Or.inl ⟨by rfl, ?_⟩) hHeld ?_ ?_; rotate_left
                    · rintro w' ⟨s0, s1⟩; go_simp
                      with_reducible rfl
                    rotate_left
                    · simp only [Act.put, List.setIfInBounds_toArray, List.set_cons_zero, List.set_cons_succ, i64_w, i32_w]; rfl
                    refine pz_ 10 46 rfl rfl (any_of HT_.out (by kernel_rfl)) ?_; refine pz_ 11 47 rfl rfl (any_of HT_.out (by kernel_rfl)) ?_; refine last_ (i := 12) (N := none) #[true, true, true, true, true, true, true, true, true, true, true, true, true] rfl rfl (one_of HT_.out (by kernel_rfl)) (by decide) (fun K hK => ?_); refine skip_ (w1 := ?_) (by rfl) rfl ?_ ?_; rotate_left
                    · go_simp
                      rfl
                    refine hK.out _ _ ?_; clear hK K; refine done_ (done_of HT_.out (by kernel_rfl)) ?_; try go_wp2
                    go_roundg k1
                    case measure => have := HK1.out; omega
                    case rel => exact ⟨(y357), (wrap64 (x8_1 + 1)), rz_, H', ⟨by have := HK1.out; omega⟩, ⟨by (with_reducible repeat (first | apply Kd.R_alloc | apply Kd.R_drewN | apply Kd.R_drew)); exact HQ30.out⟩, ⟨by repeat (first | (with_reducible first | exact HB.out | apply below_alloc | apply pw_below_drewN | apply below_drew1 | refine below_set ?_ GB27.out) | exact HB.out)⟩⟩
                  · rw [if_neg c26] at H; exact absurd H (by simp)
                · rw [if_neg c25] at H; exact absurd H (by simp)
              · rw [if_neg c24] at H; have c24b0 : decide (x8_1 < (l1.length : Int)) = false := decide_eq_false c24; clear c24; have H' := Aside0.mk H; clear H; go_wp2; go_roundg k1
                case measure => have := HK1.out; omega
                case rel => exact ⟨(x7_1), (wrap64 (x8_1 + 1)), rz_, H', ⟨by have := HK1.out; omega⟩, ⟨ra_ HO_7.out⟩, ⟨hb_⟩⟩
          · rw [if_neg c8] at H; have c8b0 : decide (x8_1 < a2) = false := decide_eq_false c8; clear c8; replace H := Option.bind_eq_some_iff.mp H; obtain ⟨t346, A310, H⟩ := H; have A31 := Aside0.mk A310; clear A310; obtain rfl := Option.some.inj H; obtain ⟨Ao32, co32, eo32⟩ := Kd.R_slice HO_7.out; subst eo32; go_wp2_with (first | ((with_reducible refine gate_callee (f := 193) rfl ?_); refine gl_ 50 Tryz.func193 #[.slice Ao32 x7_1.length co32, .int .i64 a2] ?_; (with_reducible refine (samphireref06_carried.calls k1 _ _ x7_1 a2 t346 _ ?side1 ?side2 A31.out).mono ?_); (case side1 => exact ca_ (Kd.R_reads' HO_7.out).2.2); (case side2 => exact (Kd.R_reads' HO_7.out).2.1); rintro e w33 ⟨v347, rfl, ho0, hb⟩; refine ⟨_, rfl, ?_⟩; have HO348 := Aside0.mk (Kd.R_lower (Kd.R_new' ho0 (Kd.R_lt (ra_ HO_7.out))) (below_size hb_)); replace HO_7 := Aside0.mk (Kd.R_elder' (ra_ HO_7.out) (Kd.R_base ho0) hb); replace HB := Aside0.mk (below_step hb_ hb); (try clear ho0)))
            go_ret
            exact ⟨_, ew_, by (with_reducible repeat (first | apply Kd.R_alloc | apply Kd.R_drewN | apply Kd.R_drew)); exact Kd.R_mono HO348.out (fun _ hk => trivial), hb_⟩
    · rw [if_neg c5] at H; exact absurd H (by simp)
  · rw [if_neg c4] at H; exact absurd H (by simp)
def samphireref06_zero.l0 : Nat → List Int → Int → Option (Bool)
 | 0, _, _ => none
 | k + 1, x0, x3 => if x3 < (x0.length : Int) then (if 0 ≤ x3 then (if (rd x0 x3) = 0 then (samphireref06_zero.l0 k x0 (wrap64 (x3 + 1))) else (some false)) else (none)) else (some true)
def samphireref06_zero.f (k : Nat) (l0 : List Int) : Option (Bool) := samphireref06_zero.l0 k l0 0
set_option maxHeartbeats 8000000 in
set_option maxRecDepth 100000 in
theorem samphireref06_zero.calls (k : Nat) (A0 : Option Addr) (c0 : Nat) (l0 : List Int) (r : Bool) (w : World) (hr0 : Kd.C (Kd.int .i64) w A0 l0.length l0) (hc0 : l0.length ≤ c0) (h : samphireref06_zero.f k l0 = some r) :
    Calls Tryz.prog 190 #[.slice A0 l0.length c0] w fun e w' => e = .returned (.bool r) ∧ Drawn0 w w' := by
  have HR0 := Aside0.mk hr0; have HC0 := Aside0.mk hc0; clear hr0 hc0; have H : (samphireref06_zero.l0 k l0 0) = some r := h; clear h; have H' := Aside0.mk H; clear H; go_enter Tryz.func190, Tryz.ntmps190
  go_wp2; go_loopg [3] k (fun kq v3 w' => ∃ (x3_1 : Int), v3 = .int .i64 x3_1 ∧ Aside0 (samphireref06_zero.l0 kq l0 x3_1 = some r) ∧ Aside0 (kq ≤ k) ∧ Drawn0 w w')
  case atStart => exact ⟨(0), rz_, H', ⟨Nat.le_refl _⟩, dz_⟩
  case round =>
    clear H'; obtain ⟨x3_1, rfl, HA, HK1, ⟨m1, rfl⟩⟩ := hrel; cases gk with
    | zero => exact absurd HA.out (by simp [samphireref06_zero.l0])
    | succ k1 =>
      have H := HA.out; clear HA; simp only [samphireref06_zero.l0] at H; by_cases c2 : x3_1 < (l0.length : Int)
      · rw [if_pos c2] at H; have c2b0 : decide (x3_1 < (l0.length : Int)) = true := decide_eq_true c2; clear c2; by_cases c3 : 0 ≤ x3_1
        · rw [if_pos c3] at H; have c3b0 : decide (0 ≤ x3_1) = true := decide_eq_true c3; clear c3; by_cases c4 : (rd l0 x3_1) = 0
          · rw [if_pos c4] at H; have c4b0 : ((rd l0 x3_1) == 0) = true := beq_iff_eq.mpr c4; have c4b1 : ((rd l0 x3_1) != 0) = false := bne_eq_false_iff_eq.mpr c4; clear c4; have H' := Aside0.mk H; clear H; have p358 : 0 ≤ (x3_1 : Int) := of_decide_eq_true as_'; have q358 : x3_1 < (l0.length : Int) := of_decide_eq_true as_'; obtain ⟨ad358, e358, hx358_0⟩ := Kd.at_int HR0.out x3_1 p358 q358; cases e358; replace p358 := eq_true p358; replace q358 := eq_true q358; go_wp2; go_roundg k1
            case measure => have := HK1.out; omega
            case rel => exact ⟨(wrap64 (x3_1 + 1)), rz_, H', ⟨by have := HK1.out; omega⟩, dz_⟩
          · rw [if_neg c4] at H; have c4b0 : ((rd l0 x3_1) == 0) = false := beq_eq_false_iff_ne.mpr c4; have c4b1 : ((rd l0 x3_1) != 0) = true := bne_iff_ne.mpr c4; obtain rfl := Option.some.inj H; have p358 : 0 ≤ (x3_1 : Int) := of_decide_eq_true as_'; have q358 : x3_1 < (l0.length : Int) := of_decide_eq_true as_'; obtain ⟨ad358, e358, hx358_0⟩ := Kd.at_int HR0.out x3_1 p358 q358; cases e358; replace p358 := eq_true p358; replace q358 := eq_true q358; go_wp2; go_ret
            exact ⟨rz_, dz_⟩
        · rw [if_neg c3] at H; exact absurd H (by simp)
      · rw [if_neg c2] at H; have c2b0 : decide (x3_1 < (l0.length : Int)) = false := decide_eq_false c2; clear c2; obtain rfl := Option.some.inj H; go_wp2; go_ret
        exact ⟨rz_, dz_⟩
def samphireref06_high.l0 : Nat → List Int → List Int → Int → Option (List Int)
 | 0, _, _, _ => none
 | k + 1, x0, x3, x4 => if x4 < (x0.length : Int) then (if 0 ≤ x4 then (if 0 ≤ (wrap64 (x4 - 16)) then (if (wrap64 (x4 - 16)) < (x3.length : Int) then ((some (x3.set ((wrap64 (x4 - 16)) : Int).toNat ((rd x0 x4) / 4) : List Int)).bind fun y363 => (if (wrap64 (x4 + 1)) < (x0.length : Int) then (if 0 ≤ (wrap64 (x4 + 1)) then (samphireref06_high.l0 k x0 (y363.set ((wrap64 (x4 - 16)) : Int).toNat (Go.bits .or .i64 (rd y363 (wrap64 (x4 - 16))) (Go.bits .and .i64 (wrap64 ((rd x0 (wrap64 (x4 + 1))) * 64)) 255))) (wrap64 (x4 + 1))) else (none)) else (samphireref06_high.l0 k x0 y363 (wrap64 (x4 + 1))))) else (none)) else (none)) else (none)) else (some x3)
def samphireref06_high.f (k : Nat) (l0 : List Int) : Option (List Int) := if 0 ≤ (l0.length : Int) then (if ((l0.length : Int) : Int).toNat ≤ 35184372088832 then (samphireref06_high.l0 k l0 (List.replicate ((l0.length : Int) : Int).toNat 0) 16) else (none)) else (none)
def samphireref06_high.T7 : Bool × List (List Nat × List Nat) := (true, [([], []), ([], []), ([1], [1]), ([], []), ([], []), ([4], [4]), ([3, 5], [3, 5]), ([6], [6]), ([], []), ([], []), ([9], [9]), ([8, 10], [8, 10]), ([11], [11]), ([12], [12]), ([13], [13]), ([7, 14], [7, 14]), ([0, 2, 0, 1, 2, 3, 4, 5, 6, 7, 8, 9, 10, 11, 12, 13, 14, 15], [0, 2]), ([16, 15, 0, 1, 2, 3, 4, 5, 6, 7, 8, 9, 10, 11, 12, 13, 14, 15], [15, 16])])
def samphireref06_high.B7 : List Nat := [0, 0, 2, 0, 0, 16, 56, 120, 0, 0, 512, 1792, 3840, 7936, 16128, 32760, 65535, 131071]
theorem samphireref06_high.tab7 : rtab .any (opsOf Tryz.f191 7) = samphireref06_high.T7 := by kernel_rfl
theorem samphireref06_high.bits7 : waitsOk samphireref06_high.T7.2 samphireref06_high.B7 = true := by kernel_rfl
set_option maxHeartbeats 8000000 in
set_option maxRecDepth 100000 in
theorem samphireref06_high.calls (k : Nat) (A0 : Option Addr) (c0 : Nat) (l0 : List Int) (r : List Int) (w : World) (hr0 : Kd.C (Kd.int .i64) w A0 l0.length l0) (hc0 : l0.length ≤ c0) (h : samphireref06_high.f k l0 = some r) :
    Calls Tryz.prog 191 #[.slice A0 l0.length c0] w fun e w' => ∃ v0_ : Value, e = .returned (v0_) ∧ Kd.R (Kd.int .i64) 3 w' w.heap.size (fun _ => True) v0_ r ∧ Below w.heap.size w w' := by
  have HR0 := Aside0.mk hr0; have HC0 := Aside0.mk hc0; clear hr0 hc0; have HB := Aside0.mk (Below.refl w.heap.size w); have H : (if 0 ≤ (l0.length : Int) then (if ((l0.length : Int) : Int).toNat ≤ 35184372088832 then (samphireref06_high.l0 k l0 (List.replicate ((l0.length : Int) : Int).toNat 0) 16) else (none)) else (none)) = some r := h; clear h; by_cases c2 : 0 ≤ (l0.length : Int)
  · rw [if_pos c2] at H; have c2b0 := eq_true c2; have c2b1 : decide (0 ≤ (l0.length : Int)) = true := decide_eq_true c2; clear c2; by_cases c3 : ((l0.length : Int) : Int).toNat ≤ 35184372088832
    · rw [if_pos c3] at H; have c3b0 := eq_true c3; have c3b1 : decide (((l0.length : Int) : Int).toNat ≤ 35184372088832) = true := decide_eq_true c3; clear c3; obtain ⟨y359, hy359⟩ : ∃ y_ : List Int, y_ = (List.replicate ((l0.length : Int) : Int).toNat 0) := ⟨_, rfl⟩; replace H : (samphireref06_high.l0 k l0 y359 16) = some r := by first | (rw [hy359]; with_reducible exact H) | (have H2_ := (Option.bind_some _ _).symm.trans H; rw [hy359]; with_reducible exact H2_) | (have H2_ := (Option.bind_some _ _).symm.trans H; with_reducible exact H2_) | with_reducible exact H | (rw [hy359]; exact H) | exact H
      have Ny359 := Aside0.mk hy359; clear hy359; have H' := Aside0.mk H; clear H; go_enter Tryz.func191, Tryz.ntmps191
      go_wp2_with (first | ((with_reducible refine gate_dst (N := 7) rfl ?_); refine Kd.R_make (Kd.int .i64) _ 3 rfl (N := 7) rfl 116 _ _ rfl (l0.length : Int) rfl rfl Tryz.underlying116 (.int .i64 0) 8 info3 rfl (by decide) (by omega) 0 (ok := fun _ => True) (okp := fun _ => True) rfl (fun _ hk => hk) trivial (of_decide_eq_true as_') (Nat.le_trans (Nat.mul_le_mul_right _ (of_decide_eq_true as_' : (l0.length : Int).toNat ≤ 35184372088832)) (by omega)) (Below.refl _ _) (Nat.le_refl _) ?_; intro v360 w4 ho5 hb hg_ hnew_; clear hg_ hnew_; (first | rw [← Ny359.out] at ho5 | (simp only [Int.reduceToNat] at ho5; rw [← Ny359.out] at ho5)); have HO361 := Aside0.mk (Kd.R_lower ho5 (below_size hb_)); replace HB := Aside0.mk (below_step hb_ hb); clear hb ho5))
      go_loopg [4] k (fun kq v4 w' => ∃ (x3_1 : List Int) (x4_1 : Int), v4 = .int .i64 x4_1 ∧ Aside0 (samphireref06_high.l0 kq l0 x3_1 x4_1 = some r) ∧ Aside0 (kq ≤ k) ∧ Aside0 (Kd.R (Kd.int .i64) 3 w' w.heap.size (fun _ => True) v360 x3_1) ∧ Aside0 (Below w.heap.size w w'))
      case atStart => exact ⟨(y359), (16), rz_, H', ⟨Nat.le_refl _⟩, ⟨ra_ HO361.out⟩, ⟨hb_⟩⟩
      case round =>
        clear H'; obtain ⟨x3_1, x4_1, rfl, HA, HK1, HO_3, HB⟩ := hrel; cases gk with
        | zero => exact absurd HA.out (by simp [samphireref06_high.l0])
        | succ k1 =>
          have H := HA.out; clear HA; simp only [samphireref06_high.l0] at H; by_cases c6 : x4_1 < (l0.length : Int)
          · rw [if_pos c6] at H; have c6b0 : decide (x4_1 < (l0.length : Int)) = true := decide_eq_true c6; clear c6; by_cases c7 : 0 ≤ x4_1
            · rw [if_pos c7] at H; have c7b0 : decide (0 ≤ x4_1) = true := decide_eq_true c7; clear c7; obtain ⟨ji8, hji8⟩ : ∃ j_ : Int, (wrap64 (x4_1 - 16)) = j_ := ⟨_, rfl⟩; replace H : (if 0 ≤ (ji8) then (if (ji8) < (x3_1.length : Int) then ((some (x3_1.set ((ji8) : Int).toNat ((rd l0 x4_1) / 4) : List Int)).bind fun y363 => (if (wrap64 (x4_1 + 1)) < (l0.length : Int) then (if 0 ≤ (wrap64 (x4_1 + 1)) then (samphireref06_high.l0 k1 l0 (y363.set ((ji8) : Int).toNat (Go.bits .or .i64 (rd y363 (ji8)) (Go.bits .and .i64 (wrap64 ((rd l0 (wrap64 (x4_1 + 1))) * 64)) 255))) (wrap64 (x4_1 + 1))) else (none)) else (samphireref06_high.l0 k1 l0 y363 (wrap64 (x4_1 + 1))))) else (none)) else (none)) = some r := by first | (rw [hji8] at H; exact H) | (simp only [hji8] at H ⊢; exact H)
              have hji8w : (IntKind.i64.wrap (x4_1 - 16)) = ji8 := (i64_w _).trans hji8; by_cases c9 : 0 ≤ (ji8)
              · rw [if_pos c9] at H; have c9b0 : decide (0 ≤ (ji8)) = true := decide_eq_true c9; clear c9; by_cases c10 : (ji8) < (x3_1.length : Int)
                · rw [if_pos c10] at H; have c10b0 : decide ((ji8) < (x3_1.length : Int)) = true := decide_eq_true c10; clear c10; obtain ⟨y363, hy363⟩ : ∃ y_ : List Int, y_ = (x3_1.set ((ji8) : Int).toNat ((rd l0 x4_1) / 4)) := ⟨_, rfl⟩; replace H : (if (wrap64 (x4_1 + 1)) < (l0.length : Int) then (if 0 ≤ (wrap64 (x4_1 + 1)) then (samphireref06_high.l0 k1 l0 (y363.set ((ji8) : Int).toNat (Go.bits .or .i64 (rd y363 (ji8)) (Go.bits .and .i64 (wrap64 ((rd l0 (wrap64 (x4_1 + 1))) * 64)) 255))) (wrap64 (x4_1 + 1))) else (none)) else (samphireref06_high.l0 k1 l0 y363 (wrap64 (x4_1 + 1)))) = some r := by first | (rw [hy363]; with_reducible exact H) | (have H2_ := (Option.bind_some _ _).symm.trans H; rw [hy363]; with_reducible exact H2_) | (have H2_ := (Option.bind_some _ _).symm.trans H; with_reducible exact H2_) | with_reducible exact H | (rw [hy363]; exact H) | exact H
                  have Ny363 := Aside0.mk hy363; clear hy363; by_cases c12 : (wrap64 (x4_1 + 1)) < (l0.length : Int)
                  · rw [if_pos c12] at H; have c12b0 : decide ((wrap64 (x4_1 + 1)) < (l0.length : Int)) = true := decide_eq_true c12; clear c12; obtain ⟨ji13, hji13⟩ : ∃ j_ : Int, (wrap64 (x4_1 + 1)) = j_ := ⟨_, rfl⟩; replace H : (if 0 ≤ (ji13) then (samphireref06_high.l0 k1 l0 (y363.set ((ji8) : Int).toNat (Go.bits .or .i64 (rd y363 (ji8)) (Go.bits .and .i64 (wrap64 ((rd l0 (ji13)) * 64)) 255))) ji13) else (none)) = some r := by first | (rw [hji13] at H; exact H) | (simp only [hji13] at H ⊢; exact H)
                    (try rw [hji13] at c12b0)
                    have hji13w : (IntKind.i64.wrap (x4_1 + 1)) = ji13 := (i64_w _).trans hji13; by_cases c14 : 0 ≤ (ji13)
                    · rw [if_pos c14] at H; have c14b0 : decide (0 ≤ (ji13)) = true := decide_eq_true c14; clear c14; obtain ⟨y366, hy366⟩ : ∃ y_ : List Int, y_ = (y363.set ((ji8) : Int).toNat (Go.bits .or .i64 (rd y363 (ji8)) (Go.bits .and .i64 (wrap64 ((rd l0 (ji13)) * 64)) 255))) := ⟨_, rfl⟩; replace H : (samphireref06_high.l0 k1 l0 y366 ji13) = some r := by first | (rw [hy366]; with_reducible exact H) | (have H2_ := (Option.bind_some _ _).symm.trans H; rw [hy366]; with_reducible exact H2_) | (have H2_ := (Option.bind_some _ _).symm.trans H; with_reducible exact H2_) | with_reducible exact H | (rw [hy366]; exact H) | exact H
                      have Ny366 := Aside0.mk hy366; clear hy366; have H' := Aside0.mk H; clear H; have p362 : 0 ≤ (x4_1 : Int) := of_decide_eq_true as_'; have q362 : x4_1 < (l0.length : Int) := of_decide_eq_true as_'; obtain ⟨ad362, e362, hx362_0⟩ := Kd.at_int HR0.out x4_1 p362 q362; cases e362; replace hx362_0 := (HB.out.cell (World.block_lt_of_cell? w _ hx362_0)).trans hx362_0; replace p362 := eq_true p362; replace q362 := eq_true q362; have p11 : 0 ≤ ((ji8) : Int) := of_decide_eq_true as_'; have q11 : ((ji8) : Int) < ((x3_1.length : Int) : Int) := of_decide_eq_true as_'; obtain ⟨go11, co11, eo11, gb11, gl11, cl11, HG11⟩ := Kd.R_form HO_3.out (by omega)
                      (first | cases eo11 | (injection eo11 with ea_ en_ ec_; (first | subst ea_ | (injection ea_ with ea_; subst ea_)); subst ec_; clear en_))
                      have GB11 := Aside0.mk gb11; have GG11 := Aside0.mk HG11; clear gb11 gl11 HG11; obtain ⟨hx11_0, hf11_0⟩ := Kd.R_celln 0 HO_3.out ((ji8) : Int) p11 q11; replace p11 := eq_true p11; replace q11 := eq_true q11; have HP16 := Kd.R_putg HO_3.out ((ji8) : Int) ((rd l0 x4_1) / 4); try go_wp2_with (first | ((with_reducible refine gate_store (t := 3) (p := 22) rfl ?_); refine store_event (t := 3) (p := 22) (v := ?vo_w17) (w1 := (wr.setCell ⟨go11, ((ji8) : Int).toNat, none⟩ (.int .i64 ((rd l0 x4_1) / 4)))) ?hg ?ho ?hn ?hr ?_; (case ho => rfl); (case hg => rfl); (case hn => rfl); (case hr => first | (go_simp; done) | (go_simp; rfl)); intro w17 hw; have hg : wr.grownBy w17 (some go11) := (by rw [hw]; exact HP16.2); have hp_ : Kd.R (Kd.int .i64) 3 w17 w.heap.size (fun _ => True) (.slice (some ⟨go11, 0, none⟩) x3_1.length co11) y363 := (by rw [hw, Ny363.out]; exact HP16.1); clear HP16; have n0_ := Aside0.mk (hp_); have n1_ := Aside0.mk ((by rw [hw]; exact below_set (HB.out) GB11.out : Below w.heap.size w w17)); clear HO_3; clear HB; have HO_3 := n0_; have HB := n1_; clear n0_ n1_; clear hg hw hp_))
                      replace HO_3 := Aside0.mk (Kd.R_drew HO_3.out); replace HB := Aside0.mk (below_drew1 HB.out); have p364 : 0 ≤ ((ji8) : Int) := of_decide_eq_true as_'; have q364 : (ji8) < (y363.length : Int) := (by have h_ : ((ji8) : Int) < ((x3_1.length : Int) : Int) := of_decide_eq_true as_'; first | (have e_ := (Kd.R_reads' HO_3.out).1; omega) | simpa only [Ny363.out, List.length_set] using h_); have ql364 : (((ji8) : Int) < ((x3_1.length : Int) : Int)) = True := eq_true (of_decide_eq_true as_'); obtain ⟨ad364, e364, hx364_0⟩ := Kd.at_int (Kd.R_reads' HO_3.out).2.2 (ji8) p364 q364; obtain rfl : (⟨go11, 0, none⟩ : Addr) = ad364 := (by injection e364)
                      (first | simp only [add_plain] at hx364_0 | simp only [add_at] at hx364_0 | simp only [Addr.add, Nat.zero_add] at hx364_0 | skip)
                      replace p364 := eq_true p364; replace q364 := eq_true q364; have p365 : 0 ≤ ((ji13) : Int) := of_decide_eq_true as_'; have q365 : (ji13) < (l0.length : Int) := of_decide_eq_true as_'; obtain ⟨ad365, e365, hx365_0⟩ := Kd.at_int HR0.out (ji13) p365 q365; have hw365_0 := hx365_0; obtain rfl : ad362 = ad365 := (by injection e365); replace hx365_0 := (HB.out.cell (World.block_lt_of_cell? w _ hx365_0)).trans hx365_0; replace p365 := eq_true p365; replace q365 := eq_true q365; have p15 : 0 ≤ ((ji8) : Int) := of_decide_eq_true as_'; have q15 : ((ji8) : Int) < ((x3_1.length : Int) : Int) := of_decide_eq_true as_'; obtain ⟨hx15_0, hf15_0⟩ := Kd.R_celln 0 HO_3.out ((ji8) : Int) p15 q15; replace p15 := eq_true p15; replace q15 := eq_true q15; have HP19 := Kd.R_putn HO_3.out ((ji8) : Int) (Go.bits .or .i64 (rd y363 (ji8)) (Go.bits .and .i64 (wrap64 ((rd l0 (ji13)) * 64)) 255)); rw [← Ny366.out] at HP19; have HQ19 := Aside0.mk HP19; clear HP19; refine start_ (n := 18) (S := fun w' => w'.cell? ⟨go11, ((ji8)).toNat, none⟩ = some (.int .i64 (rd y363 (ji8))) ∧ w'.cell? (ad362.add ((ji13)).toNat) = some (.int .i64 (rd l0 (ji13)))) (ds := [17]) #[false, false, false, false, false, false, false, false, false, false, false, false, false, false, false, false, false, false] (by kernel_rfl) rfl rfl ⟨hx364_0, ((HB.out.cell (World.block_lt_of_cell? w _ hw365_0)).trans hw365_0)⟩ (fun hHeld => ?_); refine with_tabW samphireref06_high.tab7 samphireref06_high.bits7 (fun HT_ HW_ => ?_); generalize w17.drew = w18 at HO_3 HB HQ19 hf15_0 hx15_0 hx364_0 hx365_0 hHeld ⊢; refine pz_ 0 28 rfl rfl (any_of HT_.out (by kernel_rfl)) ?_; refine pz_ 1 29 rfl rfl (any_of HT_.out (by kernel_rfl)) ?_; refine pz_ 2 30 rfl rfl (any_of HT_.out (by kernel_rfl)) ?_; refine pz_ 3 31 rfl rfl (any_of HT_.out (by kernel_rfl)) ?_; refine pz_ 4 32 rfl rfl (any_of HT_.out (by kernel_rfl)) ?_; refine pz_ 5 33 rfl rfl (any_of HT_.out (by kernel_rfl)) ?_; refine pz_ 6 34 rfl rfl (any_of HT_.out (by kernel_rfl)) ?_; refine pz_ 8 36 rfl rfl (any_of HT_.out (by kernel_rfl)) ?_; refine pz_ 9 37 rfl rfl (any_of HT_.out (by kernel_rfl)) ?_; refine pz_ 10 38 rfl rfl (any_of HT_.out (by kernel_rfl)) ?_; refine pz_ 11 39 rfl rfl (any_of HT_.out (by kernel_rfl)) ?_; refine take_ (i := 7) (N := some 35) (v := ?_) (a' := ?_) #[true, true, true, true, true, true, true, true, true, true, true, true, false, false, false, false, false, false] rfl rfl (take_ofW HT_.out HW_.out (by kernel_rfl)) (fun _ _ _ h => h) (Or.inl ⟨by rfl, ?_⟩) hHeld ?_ ?_; rotate_left
                      · rintro w' ⟨s0, s1⟩; go_simp
                        with_reducible rfl
                      rotate_left
                      · simp only [Act.put, List.setIfInBounds_toArray, List.set_cons_zero, List.set_cons_succ, i64_w, i32_w]; rfl
                      refine take_ (i := 12) (N := some 40) (v := ?_) (a' := ?_) #[true, true, true, true, true, true, true, true, true, true, true, true, true, false, false, false, false, false] rfl rfl (take_ofW HT_.out HW_.out (by kernel_rfl)) (fun _ _ _ h => h) (Or.inl ⟨by rfl, ?_⟩) hHeld ?_ ?_; rotate_left
                      · rintro w' ⟨s0, s1⟩; go_simp
                        with_reducible rfl
                      rotate_left
                      · simp only [Act.put, List.setIfInBounds_toArray, List.set_cons_zero, List.set_cons_succ, i64_w, i32_w]; rfl
                      refine pz_ 13 41 rfl rfl (any_of HT_.out (by kernel_rfl)) ?_; refine pz_ 14 42 rfl rfl (any_of HT_.out (by kernel_rfl)) ?_; refine pz_ 15 43 rfl rfl (any_of HT_.out (by kernel_rfl)) ?_; refine pz_ 16 44 rfl rfl (any_of HT_.out (by kernel_rfl)) ?_; refine last_ (i := 17) (N := none) #[true, true, true, true, true, true, true, true, true, true, true, true, true, true, true, true, true, true] rfl rfl (one_of HT_.out (by kernel_rfl)) (by decide) (fun K hK => ?_); refine skip_ (w1 := ?_) (by rfl) rfl ?_ ?_; rotate_left
                      · go_simp
                        rfl
                      refine hK.out _ _ ?_; clear hK K; refine done_ (done_of HT_.out (by kernel_rfl)) ?_; try go_wp2
                      go_roundg k1
                      case measure => have := HK1.out; omega
                      case rel => exact ⟨(y366), (ji13), (by first | rfl | (simp; done) | (simp only [← hji13] <;> (first | rfl | simp)) | (simp [*]; done)), H', ⟨by have := HK1.out; omega⟩, ⟨by (with_reducible repeat (first | apply Kd.R_alloc | apply Kd.R_drewN | apply Kd.R_drew)); exact HQ19.out⟩, ⟨by repeat (first | (with_reducible first | exact HB.out | apply below_alloc | apply pw_below_drewN | apply below_drew1 | refine below_set ?_ GB11.out) | exact HB.out)⟩⟩
                    · rw [if_neg c14] at H; exact absurd H (by simp)
                  · rw [if_neg c12] at H; have c12b0 : decide ((wrap64 (x4_1 + 1)) < (l0.length : Int)) = false := decide_eq_false c12; clear c12; have H' := Aside0.mk H; clear H; have p362 : 0 ≤ (x4_1 : Int) := of_decide_eq_true as_'; have q362 : x4_1 < (l0.length : Int) := of_decide_eq_true as_'; obtain ⟨ad362, e362, hx362_0⟩ := Kd.at_int HR0.out x4_1 p362 q362; cases e362; replace hx362_0 := (HB.out.cell (World.block_lt_of_cell? w _ hx362_0)).trans hx362_0; replace p362 := eq_true p362; replace q362 := eq_true q362; have p11 : 0 ≤ ((ji8) : Int) := of_decide_eq_true as_'; have q11 : ((ji8) : Int) < ((x3_1.length : Int) : Int) := of_decide_eq_true as_'; obtain ⟨go11, co11, eo11, gb11, gl11, cl11, HG11⟩ := Kd.R_form HO_3.out (by omega)
                    (first | cases eo11 | (injection eo11 with ea_ en_ ec_; (first | subst ea_ | (injection ea_ with ea_; subst ea_)); subst ec_; clear en_))
                    have GB11 := Aside0.mk gb11; have GG11 := Aside0.mk HG11; clear gb11 gl11 HG11; obtain ⟨hx11_0, hf11_0⟩ := Kd.R_celln 0 HO_3.out ((ji8) : Int) p11 q11; replace p11 := eq_true p11; replace q11 := eq_true q11; have HP20 := Kd.R_putg HO_3.out ((ji8) : Int) ((rd l0 x4_1) / 4); go_wp2_with (first | ((with_reducible refine gate_store (t := 3) (p := 22) rfl ?_); refine store_event (t := 3) (p := 22) (v := ?vo_w21) (w1 := (wr.setCell ⟨go11, ((ji8) : Int).toNat, none⟩ (.int .i64 ((rd l0 x4_1) / 4)))) ?hg ?ho ?hn ?hr ?_; (case ho => rfl); (case hg => rfl); (case hn => rfl); (case hr => first | (go_simp; done) | (go_simp; rfl)); intro w21 hw; have hg : wr.grownBy w21 (some go11) := (by rw [hw]; exact HP20.2); have hp_ : Kd.R (Kd.int .i64) 3 w21 w.heap.size (fun _ => True) (.slice (some ⟨go11, 0, none⟩) x3_1.length co11) y363 := (by rw [hw, Ny363.out]; exact HP20.1); clear HP20; have n0_ := Aside0.mk (hp_); have n1_ := Aside0.mk ((by rw [hw]; exact below_set (HB.out) GB11.out : Below w.heap.size w w21)); clear HO_3; clear HB; have HO_3 := n0_; have HB := n1_; clear n0_ n1_; clear hg hw hp_))
                    go_roundg k1
                    case measure => have := HK1.out; omega
                    case rel => exact ⟨(y363), (wrap64 (x4_1 + 1)), rz_, H', ⟨by have := HK1.out; omega⟩, ⟨ra_ HO_3.out⟩, ⟨hb_⟩⟩
                · rw [if_neg c10] at H; exact absurd H (by simp)
              · rw [if_neg c9] at H; exact absurd H (by simp)
            · rw [if_neg c7] at H; exact absurd H (by simp)
          · rw [if_neg c6] at H; have c6b0 : decide (x4_1 < (l0.length : Int)) = false := decide_eq_false c6; clear c6; obtain rfl := Option.some.inj H; go_wp2; go_ret
            exact ⟨_, ew_, ra_ HO_3.out, hb_⟩
    · rw [if_neg c3] at H; exact absurd H (by simp)
  · rw [if_neg c2] at H; exact absurd H (by simp)
def samphireref06_low.l0 : Nat → List Int → List Int → Int → Option (List Int)
 | 0, _, _, _ => none
 | k + 1, x0, x3, x4 => if x4 < 17 then (if x4 < (x0.length : Int) then (if 0 ≤ x4 then (if x4 < (x3.length : Int) then (samphireref06_low.l0 k x0 (x3.set (x4 : Int).toNat (rd x0 x4)) (wrap64 (x4 + 1))) else (none)) else (none)) else (if 16 < (x3.length : Int) then (some (x3.set (16 : Int).toNat (Go.bits .and .i64 (rd x3 16) 3))) else (none))) else (if 16 < (x3.length : Int) then (some (x3.set (16 : Int).toNat (Go.bits .and .i64 (rd x3 16) 3))) else (none))
def samphireref06_low.f (k : Nat) (l0 : List Int) : Option (List Int) := if 17 ≤ 35184372088832 then (samphireref06_low.l0 k l0 (List.replicate 17 0) 0) else (none)
set_option maxHeartbeats 8000000 in
set_option maxRecDepth 100000 in
theorem samphireref06_low.calls (k : Nat) (A0 : Option Addr) (c0 : Nat) (l0 : List Int) (r : List Int) (w : World) (hr0 : Kd.C (Kd.int .i64) w A0 l0.length l0) (hc0 : l0.length ≤ c0) (h : samphireref06_low.f k l0 = some r) :
    Calls Tryz.prog 192 #[.slice A0 l0.length c0] w fun e w' => ∃ v0_ : Value, e = .returned (v0_) ∧ Kd.R (Kd.int .i64) 3 w' w.heap.size (fun _ => True) v0_ r ∧ Below w.heap.size w w' := by
  have HR0 := Aside0.mk hr0; have HC0 := Aside0.mk hc0; clear hr0 hc0; have HB := Aside0.mk (Below.refl w.heap.size w); have H : (if 17 ≤ 35184372088832 then (samphireref06_low.l0 k l0 (List.replicate 17 0) 0) else (none)) = some r := h; clear h; by_cases c2 : 17 ≤ 35184372088832
  · rw [if_pos c2] at H; have c2b0 := eq_true c2; have c2b1 : decide (17 ≤ 35184372088832) = true := decide_eq_true c2; clear c2; obtain ⟨y367, hy367⟩ : ∃ y_ : List Int, y_ = (List.replicate 17 0) := ⟨_, rfl⟩; replace H : (samphireref06_low.l0 k l0 y367 0) = some r := by first | (rw [hy367]; with_reducible exact H) | (have H2_ := (Option.bind_some _ _).symm.trans H; rw [hy367]; with_reducible exact H2_) | (have H2_ := (Option.bind_some _ _).symm.trans H; with_reducible exact H2_) | with_reducible exact H | (rw [hy367]; exact H) | exact H
    have Ny367 := Aside0.mk hy367; clear hy367; have H' := Aside0.mk H; clear H; go_enter Tryz.func192, Tryz.ntmps192
    go_wp2_with (first | ((with_reducible refine gate_dst (N := 5) rfl ?_); (try (refine gate_guard (by rfl) ?_; dsimp only)); refine Kd.R_make (Kd.int .i64) _ 3 rfl (N := 5) rfl 116 _ _ rfl 17 rfl rfl Tryz.underlying116 (.int .i64 0) 8 info3 rfl (by decide) (by omega) 0 (ok := fun _ => True) (okp := fun _ => True) rfl (fun _ hk => hk) trivial (by omega) (by omega) (Below.refl _ _) (Nat.le_refl _) ?_; intro v368 w3 ho4 hb hg_ hnew_; clear hg_ hnew_; (first | rw [← Ny367.out] at ho4 | (simp only [Int.reduceToNat] at ho4; rw [← Ny367.out] at ho4)); have HO369 := Aside0.mk (Kd.R_lower ho4 (below_size hb_)); replace HB := Aside0.mk (below_step hb_ hb); clear hb ho4))
    go_loopg [4] k (fun kq v4 w' => ∃ (x3_1 : List Int) (x4_1 : Int), v4 = .int .i64 x4_1 ∧ Aside0 (samphireref06_low.l0 kq l0 x3_1 x4_1 = some r) ∧ Aside0 (kq ≤ k) ∧ Aside0 (Kd.R (Kd.int .i64) 3 w' w.heap.size (fun _ => True) v368 x3_1) ∧ Aside0 (Below w.heap.size w w'))
    case atStart => exact ⟨(y367), (0), rz_, H', ⟨Nat.le_refl _⟩, ⟨ra_ HO369.out⟩, ⟨hb_⟩⟩
    case round =>
      clear H'; obtain ⟨x3_1, x4_1, rfl, HA, HK1, HO_3, HB⟩ := hrel; cases gk with
      | zero => exact absurd HA.out (by simp [samphireref06_low.l0])
      | succ k1 =>
        have H := HA.out; clear HA; simp only [samphireref06_low.l0] at H; by_cases c5 : x4_1 < 17
        · rw [if_pos c5] at H; have c5b0 : decide (x4_1 < 17) = true := decide_eq_true c5; clear c5; by_cases c6 : x4_1 < (l0.length : Int)
          · rw [if_pos c6] at H; have c6b0 : decide (x4_1 < (l0.length : Int)) = true := decide_eq_true c6; clear c6; by_cases c7 : 0 ≤ x4_1
            · rw [if_pos c7] at H; have c7b0 : decide (0 ≤ x4_1) = true := decide_eq_true c7; clear c7; by_cases c8 : x4_1 < (x3_1.length : Int)
              · rw [if_pos c8] at H; have c8b0 : decide (x4_1 < (x3_1.length : Int)) = true := decide_eq_true c8; clear c8; obtain ⟨y371, hy371⟩ : ∃ y_ : List Int, y_ = (x3_1.set (x4_1 : Int).toNat (rd l0 x4_1)) := ⟨_, rfl⟩; replace H : (samphireref06_low.l0 k1 l0 y371 (wrap64 (x4_1 + 1))) = some r := by first | (rw [hy371]; with_reducible exact H) | (have H2_ := (Option.bind_some _ _).symm.trans H; rw [hy371]; with_reducible exact H2_) | (have H2_ := (Option.bind_some _ _).symm.trans H; with_reducible exact H2_) | with_reducible exact H | (rw [hy371]; exact H) | exact H
                have Ny371 := Aside0.mk hy371; clear hy371; have H' := Aside0.mk H; clear H; have p370 : 0 ≤ (x4_1 : Int) := of_decide_eq_true as_'; have q370 : x4_1 < (l0.length : Int) := of_decide_eq_true as_'; obtain ⟨ad370, e370, hx370_0⟩ := Kd.at_int HR0.out x4_1 p370 q370; cases e370; replace hx370_0 := (HB.out.cell (World.block_lt_of_cell? w _ hx370_0)).trans hx370_0; replace p370 := eq_true p370; replace q370 := eq_true q370; have p9 : 0 ≤ (x4_1 : Int) := of_decide_eq_true as_'; have q9 : (x4_1 : Int) < ((x3_1.length : Int) : Int) := of_decide_eq_true as_'; obtain ⟨go9, co9, eo9, gb9, gl9, cl9, HG9⟩ := Kd.R_form HO_3.out (by omega)
                (first | cases eo9 | (injection eo9 with ea_ en_ ec_; (first | subst ea_ | (injection ea_ with ea_; subst ea_)); subst ec_; clear en_))
                have GB9 := Aside0.mk gb9; have GG9 := Aside0.mk HG9; clear gb9 gl9 HG9; obtain ⟨hx9_0, hf9_0⟩ := Kd.R_celln 0 HO_3.out (x4_1 : Int) p9 q9; replace p9 := eq_true p9; replace q9 := eq_true q9; have HP10 := Kd.R_putg HO_3.out (x4_1 : Int) (rd l0 x4_1); go_wp2_with (first | ((with_reducible refine gate_store (t := 3) (p := 22) rfl ?_); refine store_event (t := 3) (p := 22) (v := ?vo_w11) (w1 := (wr.setCell ⟨go9, (x4_1 : Int).toNat, none⟩ (.int .i64 (rd l0 x4_1)))) ?hg ?ho ?hn ?hr ?_; (case ho => rfl); (case hg => rfl); (case hn => rfl); (case hr => first | (go_simp; done) | (go_simp; rfl)); intro w11 hw; have hg : wr.grownBy w11 (some go9) := (by rw [hw]; exact HP10.2); have hp_ : Kd.R (Kd.int .i64) 3 w11 w.heap.size (fun _ => True) (.slice (some ⟨go9, 0, none⟩) x3_1.length co9) y371 := (by rw [hw, Ny371.out]; exact HP10.1); clear HP10; have n0_ := Aside0.mk (hp_); have n1_ := Aside0.mk ((by rw [hw]; exact below_set (HB.out) GB9.out : Below w.heap.size w w11)); clear HO_3; clear HB; have HO_3 := n0_; have HB := n1_; clear n0_ n1_; clear hg hw hp_))
                go_roundg k1
                case measure => have := HK1.out; omega
                case rel => exact ⟨(y371), (wrap64 (x4_1 + 1)), rz_, H', ⟨by have := HK1.out; omega⟩, ⟨ra_ HO_3.out⟩, ⟨hb_⟩⟩
              · rw [if_neg c8] at H; exact absurd H (by simp)
            · rw [if_neg c7] at H; exact absurd H (by simp)
          · rw [if_neg c6] at H; have c6b0 : decide (x4_1 < (l0.length : Int)) = false := decide_eq_false c6; clear c6; by_cases c12 : 16 < (x3_1.length : Int)
            · rw [if_pos c12] at H; have c12b0 : decide (16 < (x3_1.length : Int)) = true := decide_eq_true c12; have c12b1 : decide (16 < x3_1.length) = true := decide_eq_true (by omega); clear c12; obtain ⟨y373, hy373⟩ : ∃ y_ : List Int, y_ = (x3_1.set (16 : Int).toNat (Go.bits .and .i64 (rd x3_1 16) 3)) := ⟨_, rfl⟩; replace H : (some y373) = some r := by first | (rw [hy373]; with_reducible exact H) | (have H2_ := (Option.bind_some _ _).symm.trans H; rw [hy373]; with_reducible exact H2_) | (have H2_ := (Option.bind_some _ _).symm.trans H; with_reducible exact H2_) | with_reducible exact H | (rw [hy373]; exact H) | exact H
              have Ny373 := Aside0.mk hy373; clear hy373; obtain rfl := Option.some.inj H; obtain ⟨Ao14, co14, eo14⟩ := Kd.R_slice HO_3.out; subst eo14; have p372 : 0 ≤ (16 : Int) := (by omega); have q372 : 16 < (x3_1.length : Int) := of_decide_eq_true as_'; obtain ⟨ad372, e372, hx372_0⟩ := Kd.at_int (Kd.R_reads' HO_3.out).2.2 16 p372 q372; cases e372
              (try simp only [show (16 : Int).toNat = 16 from rfl, Nat.reduceMul, Nat.reduceEqDiff, Go.Addr.add, ↓reduceIte] at hx372_0)
              have qi372 : (16 < x3_1.length) = True := eq_true (by omega)
              (try rw [show ((16 : Int)).toNat = 16 from rfl] at hx372_0)
              replace p372 := eq_true p372; replace q372 := eq_true q372; have p13 : 0 ≤ (16 : Int) := (by omega); have q13 : (16 : Int) < ((x3_1.length : Int) : Int) := of_decide_eq_true as_'; have qi13 : (16 < x3_1.length) = True := eq_true (by omega); obtain ⟨go13, co13, eo13, gb13, gl13, cl13, HG13⟩ := Kd.R_form HO_3.out (by omega)
              (first | cases eo13 | (injection eo13 with ea_ en_ ec_; (first | subst ea_ | (injection ea_ with ea_; subst ea_)); subst ec_; clear en_))
              have GB13 := Aside0.mk gb13; have GG13 := Aside0.mk HG13; clear gb13 gl13 HG13
              (first | simp only [add_plain] at hx372_0 | skip)
              obtain ⟨hx13_0, hf13_0⟩ := Kd.R_celln 0 HO_3.out (16 : Int) p13 q13
              (try rw [show ((16 : Int)).toNat = 16 from rfl] at hx13_0)
              (try simp only [Nat.reduceMul, Nat.zero_mul, Nat.zero_add, Nat.reduceAdd] at hx13_0)
              (try rw [show ((16 : Int)).toNat = 16 from rfl] at hf13_0)
              (try simp only [Nat.reduceMul, Nat.zero_mul, Nat.zero_add, Nat.reduceAdd] at hf13_0)
              replace p13 := eq_true p13; replace q13 := eq_true q13; have HP15 := Kd.R_putg HO_3.out (16 : Int) (Go.bits .and .i64 (rd x3_1 16) 3); go_wp2_with (first | ((with_reducible refine gate_store (t := 3) (p := 28) rfl ?_); refine store_event (t := 3) (p := 28) (v := ?vo_w16) (w1 := (wr.setCell ⟨go13, (16 : Int).toNat, none⟩ (.int .i64 (Go.bits .and .i64 (rd x3_1 16) 3)))) ?hg ?ho ?hn ?hr ?_; (case ho => rfl); (case hg => rfl); (case hn => rfl); (case hr => first | (go_simp; done) | (go_simp; rfl)); intro w16 hw; have hg : wr.grownBy w16 (some go13) := (by rw [hw]; exact HP15.2); have hp_ : Kd.R (Kd.int .i64) 3 w16 w.heap.size (fun _ => True) (.slice (some ⟨go13, 0, none⟩) x3_1.length co14) y373 := (by rw [hw, Ny373.out]; exact HP15.1); clear HP15; have n0_ := Aside0.mk (hp_); have n1_ := Aside0.mk ((by rw [hw]; exact below_set (HB.out) GB13.out : Below w.heap.size w w16)); clear HO_3; clear HB; have HO_3 := n0_; have HB := n1_; clear n0_ n1_; clear hg hw hp_))
              go_ret
              exact ⟨_, ew_, ra_ HO_3.out, hb_⟩
            · rw [if_neg c12] at H; exact absurd H (by simp)
        · rw [if_neg c5] at H; have c5b0 : decide (x4_1 < 17) = false := decide_eq_false c5; clear c5; by_cases c17 : 16 < (x3_1.length : Int)
          · rw [if_pos c17] at H; have c17b0 : decide (16 < (x3_1.length : Int)) = true := decide_eq_true c17; have c17b1 : decide (16 < x3_1.length) = true := decide_eq_true (by omega); clear c17; obtain ⟨y375, hy375⟩ : ∃ y_ : List Int, y_ = (x3_1.set (16 : Int).toNat (Go.bits .and .i64 (rd x3_1 16) 3)) := ⟨_, rfl⟩; replace H : (some y375) = some r := by first | (rw [hy375]; with_reducible exact H) | (have H2_ := (Option.bind_some _ _).symm.trans H; rw [hy375]; with_reducible exact H2_) | (have H2_ := (Option.bind_some _ _).symm.trans H; with_reducible exact H2_) | with_reducible exact H | (rw [hy375]; exact H) | exact H
            have Ny375 := Aside0.mk hy375; clear hy375; obtain rfl := Option.some.inj H; obtain ⟨Ao19, co19, eo19⟩ := Kd.R_slice HO_3.out; subst eo19; have p374 : 0 ≤ (16 : Int) := (by omega); have q374 : 16 < (x3_1.length : Int) := of_decide_eq_true as_'; obtain ⟨ad374, e374, hx374_0⟩ := Kd.at_int (Kd.R_reads' HO_3.out).2.2 16 p374 q374; cases e374
            (try simp only [show (16 : Int).toNat = 16 from rfl, Nat.reduceMul, Nat.reduceEqDiff, Go.Addr.add, ↓reduceIte] at hx374_0)
            have qi374 : (16 < x3_1.length) = True := eq_true (by omega)
            (try rw [show ((16 : Int)).toNat = 16 from rfl] at hx374_0)
            replace p374 := eq_true p374; replace q374 := eq_true q374; have p18 : 0 ≤ (16 : Int) := (by omega); have q18 : (16 : Int) < ((x3_1.length : Int) : Int) := of_decide_eq_true as_'; have qi18 : (16 < x3_1.length) = True := eq_true (by omega); obtain ⟨go18, co18, eo18, gb18, gl18, cl18, HG18⟩ := Kd.R_form HO_3.out (by omega)
            (first | cases eo18 | (injection eo18 with ea_ en_ ec_; (first | subst ea_ | (injection ea_ with ea_; subst ea_)); subst ec_; clear en_))
            have GB18 := Aside0.mk gb18; have GG18 := Aside0.mk HG18; clear gb18 gl18 HG18
            (first | simp only [add_plain] at hx374_0 | skip)
            obtain ⟨hx18_0, hf18_0⟩ := Kd.R_celln 0 HO_3.out (16 : Int) p18 q18
            (try rw [show ((16 : Int)).toNat = 16 from rfl] at hx18_0)
            (try simp only [Nat.reduceMul, Nat.zero_mul, Nat.zero_add, Nat.reduceAdd] at hx18_0)
            (try rw [show ((16 : Int)).toNat = 16 from rfl] at hf18_0)
            (try simp only [Nat.reduceMul, Nat.zero_mul, Nat.zero_add, Nat.reduceAdd] at hf18_0)
            replace p18 := eq_true p18; replace q18 := eq_true q18; have HP20 := Kd.R_putg HO_3.out (16 : Int) (Go.bits .and .i64 (rd x3_1 16) 3); go_wp2_with (first | ((with_reducible refine gate_store (t := 3) (p := 28) rfl ?_); refine store_event (t := 3) (p := 28) (v := ?vo_w21) (w1 := (wr.setCell ⟨go18, (16 : Int).toNat, none⟩ (.int .i64 (Go.bits .and .i64 (rd x3_1 16) 3)))) ?hg ?ho ?hn ?hr ?_; (case ho => rfl); (case hg => rfl); (case hn => rfl); (case hr => first | (go_simp; done) | (go_simp; rfl)); intro w21 hw; have hg : wr.grownBy w21 (some go18) := (by rw [hw]; exact HP20.2); have hp_ : Kd.R (Kd.int .i64) 3 w21 w.heap.size (fun _ => True) (.slice (some ⟨go18, 0, none⟩) x3_1.length co19) y375 := (by rw [hw, Ny375.out]; exact HP20.1); clear HP20; have n0_ := Aside0.mk (hp_); have n1_ := Aside0.mk ((by rw [hw]; exact below_set (HB.out) GB18.out : Below w.heap.size w w21)); clear HO_3; clear HB; have HO_3 := n0_; have HB := n1_; clear n0_ n1_; clear hg hw hp_))
            go_ret
            exact ⟨_, ew_, ra_ HO_3.out, hb_⟩
          · rw [if_neg c17] at H; exact absurd H (by simp)
  · rw [if_neg c2] at H; exact absurd H (by simp)
end Go.Proofs.YtbkbganflnemeaaGreat.Pr
end

section
namespace Go.Proofs.YtbkbganflnemeaaGreat.Pr
open Go.RowKit Go.Proofs.YtbkbganflnemeaaGreatW.PrintWords Go.Proofs.YtbkbganflnemeaaGreatW.PrintLast Go.Proofs.YtbkbganflnemeaaGreatW.PrintMore
attribute [local go_sem] max2_int min2_int max_two min_two max_three min_three max_four min_four
mutual
def samphireref06_reduced.l0 : Nat → List Int → Int → Option (List Int)
 | 0, _, _ => none
 | k + 1, x0, x3 => if x3 < 40 then ((samphireref06_high.f k x0).bind fun t376 => ((samphireref06_zero.f k t376).bind fun t379 => (samphireref06_reduced.j1 k x0 x3 (!t379)))) else (samphireref06_reduced.j1 k x0 x3 false)
def samphireref06_reduced.j1 : Nat → List Int → Int → Bool → Option (List Int)
 | 0, _, _, _ => none
 | k + 1, x0, x3, x12 => if x12 = true then ((samphireref06_low.f k x0).bind fun t380 => ((samphireref06_high.f k x0).bind fun t386 => ((samphireref06_times.f k (([5] : List Int)) t386).bind fun t389 => ((samphireref06_add.f k t380 t389 40).bind fun t392 => (samphireref06_reduced.l0 k t392 (wrap64 (x3 + 1))))))) else ((samphireref06_add.f k x0 (([5] : List Int)) 40).bind fun t398 => ((samphireref06_high.f k t398).bind fun t401 => ((samphireref06_zero.f k t401).bind fun t404 => (if t404 = true then ((samphireref06_low.f k x0).bind fun t405 => (some t405)) else ((samphireref06_low.f k t398).bind fun t408 => (some t408))))))
end
def samphireref06_reduced.f (k : Nat) (l0 : List Int) : Option (List Int) := samphireref06_reduced.l0 k l0 0
set_option maxHeartbeats 8000000 in
set_option maxRecDepth 100000 in
theorem samphireref06_reduced.calls (k : Nat) (P0_ : Nat → Prop) (A0 : Option Addr) (c0 : Nat) (l0 : List Int) (r : List Int) (w : World) (hs0 : Kd.V (Kd.int .i64) 3 w w.heap.size (fun k_ => P0_ k_) (.slice A0 l0.length c0) l0) (h : samphireref06_reduced.f k l0 = some r) :
    Calls Tryz.prog 164 #[.slice A0 l0.length c0] w fun e w' => ∃ v0_ : Value, e = .returned (v0_) ∧ Kd.R (Kd.int .i64) 3 w' w.heap.size (fun k_ => (w.heap.size ≤ k_)) v0_ r ∧ Below w.heap.size w w' := by
  have HO0 := Aside0.mk (show Kd.V (Kd.int .i64) 3 w w.heap.size (fun k_ => (P0_ k_ ∨ w.heap.size ≤ k_)) (.slice A0 l0.length c0) l0 from Kd.V_mono hs0 (fun k_ hk => .inl hk)); have HB := Aside0.mk (Below.refl w.heap.size w); have H : (samphireref06_reduced.l0 k l0 0) = some r := h; clear h; have H' := Aside0.mk H; clear H; go_enter Tryz.func164, Tryz.ntmps164
  go_wp2; go_loopg [0, 3] k (fun kq v0 v3 w' => ∃ (x0_1 : List Int) (x3_1 : Int), v3 = .int .i64 x3_1 ∧ Aside0 (samphireref06_reduced.l0 kq x0_1 x3_1 = some r) ∧ Aside0 (kq ≤ k) ∧ Aside0 (Kd.V (Kd.int .i64) 3 w' w.heap.size (fun k_ => (P0_ k_ ∨ w.heap.size ≤ k_)) v0 x0_1) ∧ Aside0 (Below w.heap.size w w'))
  case atStart => exact ⟨(l0), (0), rz_, H', ⟨Nat.le_refl _⟩, ⟨va_ HO0.out⟩, ⟨hb_⟩⟩
  case round =>
    clear H'; obtain ⟨x0_1, x3_1, rfl, HA, HK1, HO_0, HB⟩ := hrel; cases gk with
    | zero => exact absurd HA.out (by simp [samphireref06_reduced.l0])
    | succ k1 =>
      have H := HA.out; clear HA; simp only [samphireref06_reduced.l0] at H; have HC2 := Aside0.mk H; clear H; go_upto_region 2 with (fail)
      go_cut [12] (fun v12 wc => ∃ (kq : Nat) (x12_1 : Bool), v12 = .bool x12_1 ∧ Aside0 (samphireref06_reduced.j1 kq x0_1 x3_1 x12_1 = some r) ∧ Aside0 (kq ≤ k1) ∧ Aside0 (Kd.V (Kd.int .i64) 3 wc w.heap.size (fun k_ => (P0_ k_ ∨ w.heap.size ≤ k_)) u0 x0_1) ∧ Aside0 (Below w.heap.size w wc))
      case first =>
        have H := HC2.out; clear HC2; by_cases c3 : x3_1 < 40
        · rw [if_pos c3] at H; have c3b0 : decide (x3_1 < 40) = true := decide_eq_true c3; clear c3
          (first | rw [c3b0] | (simp only [i64_w, i32_w]; rw [c3b0]) | skip)
          replace H := Option.bind_eq_some_iff.mp H; obtain ⟨t376, A40, H⟩ := H; have A4 := Aside0.mk A40; clear A40; replace H := Option.bind_eq_some_iff.mp H; obtain ⟨t379, A50, H⟩ := H; have A5 := Aside0.mk A50; clear A50; have H' := Aside0.mk H; clear H; obtain ⟨Ao6, co6, eo6⟩ := Kd.V_slice HO_0.out; subst eo6; go_wp2_with (first | (go_at_call 191; (with_reducible refine (samphireref06_high.calls k1 _ _ x0_1 t376 _ ?side1 ?side2 A4.out).mono ?_); (case side1 => exact ca_ (Kd.V_reads' HO_0.out).2.2); (case side2 => exact (Kd.V_reads' HO_0.out).2.1); rintro e w7 ⟨v377, rfl, ho0, hb⟩; replace HO_0 := Aside0.mk (Kd.V_elder' (va_ HO_0.out) (Kd.R_base ho0) hb); have HO378 := Aside0.mk (Kd.R_lower (Kd.R_newM (M := fun k_ => (w.heap.size ≤ k_)) ho0 (below_size hb_) (fun k_ h_ => h_)) (below_size hb_)); replace HB := Aside0.mk (below_step hb_ hb); (try clear ho0); obtain ⟨Ao8, co8, eo8⟩ := Kd.R_slice HO378.out; subst eo8) | (go_at_call 190; (with_reducible refine (samphireref06_zero.calls k1 _ _ t376 t379 _ ?side1 ?side2 A5.out).mono ?_); (case side1 => exact ca_ (Kd.R_reads' HO378.out).2.2); (case side2 => exact (Kd.R_reads' HO378.out).2.1); rintro e w' ⟨rfl, ⟨nd, rfl⟩⟩))
          go_meet
          case rel => exact ⟨_, (!t379), rz_, H', ⟨by have := HK1.out; first | omega | exact Nat.le_refl _⟩, ⟨by (with_reducible repeat (first | apply Kd.V_alloc | apply Kd.V_drewN | apply Kd.V_drew)); exact Kd.V_mono HO_0.out (fun _ hk => hk.1)⟩, ⟨hb_⟩⟩
        · rw [if_neg c3] at H; have c3b0 : decide (x3_1 < 40) = false := decide_eq_false c3; clear c3
          (first | rw [c3b0] | (simp only [i64_w, i32_w]; rw [c3b0]) | skip)
          have H' := Aside0.mk H; clear H; go_wp2; go_meet
          case rel => exact ⟨_, (false), rz_, H', ⟨by have := HK1.out; first | omega | exact Nat.le_refl _⟩, ⟨va_ HO_0.out⟩, ⟨hb_⟩⟩
      case rest =>
        clear HC2; obtain ⟨kq, x12_1, rfl, HA, HJ1, HO_0, HB⟩ := hcut; cases kq with
        | zero => exact absurd HA.out (by simp [samphireref06_reduced.j1])
        | succ kj1 =>
          have H := HA.out; clear HA; simp only [samphireref06_reduced.j1] at H; by_cases c9 : x12_1 = true
          · subst c9; have H1 : ((samphireref06_low.f kj1 x0_1).bind fun t380 => ((samphireref06_high.f kj1 x0_1).bind fun t386 => ((samphireref06_times.f kj1 (([5] : List Int)) t386).bind fun t389 => ((samphireref06_add.f kj1 t380 t389 40).bind fun t392 => (samphireref06_reduced.l0 kj1 t392 (wrap64 (x3_1 + 1))))))) = some r := by rw [if_pos rfl] at H; exact H
            clear H; have H := H1; clear H1; replace H := Option.bind_eq_some_iff.mp H; obtain ⟨t380, A100, H⟩ := H; have A10 := Aside0.mk A100; clear A100; obtain ⟨y383, hy383⟩ : ∃ y_ : List Int, y_ = (([5] : List Int)) := ⟨_, rfl⟩; replace H : ((samphireref06_high.f kj1 x0_1).bind fun t386 => ((samphireref06_times.f kj1 y383 t386).bind fun t389 => ((samphireref06_add.f kj1 t380 t389 40).bind fun t392 => (samphireref06_reduced.l0 kj1 t392 (wrap64 (x3_1 + 1)))))) = some r := by first | (rw [hy383]; with_reducible exact H) | (have H2_ := (Option.bind_some _ _).symm.trans H; rw [hy383]; with_reducible exact H2_) | (have H2_ := (Option.bind_some _ _).symm.trans H; with_reducible exact H2_) | with_reducible exact H | (rw [hy383]; exact H) | exact H
            have Ny383 := Aside0.mk hy383; clear hy383; replace H := Option.bind_eq_some_iff.mp H; obtain ⟨t386, A110, H⟩ := H; have A11 := Aside0.mk A110; clear A110; replace H := Option.bind_eq_some_iff.mp H; obtain ⟨t389, A120, H⟩ := H; have A12 := Aside0.mk A120; clear A120; replace H := Option.bind_eq_some_iff.mp H; obtain ⟨t392, A130, H⟩ := H; have A13 := Aside0.mk A130; clear A130; have H' := Aside0.mk H; clear H; obtain ⟨Ao14, co14, eo14⟩ := Kd.V_slice HO_0.out; subst eo14; go_wp2_with (first | ((with_reducible refine gate_callee (f := 192) rfl ?_); refine gl_ 16 Tryz.func192 #[.slice Ao14 x0_1.length co14] ?_; (with_reducible refine (samphireref06_low.calls kj1 _ _ x0_1 t380 _ ?side1 ?side2 A10.out).mono ?_); (case side1 => exact ca_ (Kd.V_reads' HO_0.out).2.2); (case side2 => exact (Kd.V_reads' HO_0.out).2.1); rintro e w15 ⟨v381, rfl, ho0, hb⟩; refine ⟨_, rfl, ?_⟩; replace HO_0 := Aside0.mk (Kd.V_elder' (va_ HO_0.out) (Kd.R_base ho0) hb); have HO382 := Aside0.mk (Kd.R_lower (Kd.R_newM (M := fun k_ => (w.heap.size ≤ k_)) ho0 (below_size hb_) (fun k_ h_ => h_)) (below_size hb_)); replace HB := Aside0.mk (below_step hb_ hb); (try clear ho0)) | ((with_reducible refine gate_dst (N := 17) rfl ?_); refine Kd.R_lit (Kd.int .i64) _ 3 ?hg (N := 17) ?hd (xs := ([5] : List Int)) (inner := [.int .i64 5]) (ok := fun _ => True) (okp := fun _ => True) ?hr ?hp (fun _ hk => hk) trivial (Below.refl _ _) (Nat.le_refl _) (by simp) ?_; (case hd => rfl); (case hg => rfl); (case hr => first | (go_simp; done) | (go_simp; rfl)); (case hp => exact (ro_ (Reps.none _ _))); intro v384 w16 ho17 hb hg_ hnew_; clear hg_ hnew_; (first | rw [← Ny383.out] at ho17 | (simp only [Int.reduceToNat] at ho17; rw [← Ny383.out] at ho17)); replace HO_0 := Aside0.mk (Kd.V_elder' (va_ HO_0.out) (Kd.R_base ho17) hb); have HO385 := Aside0.mk (Kd.R_lower (Kd.R_new' (Kd.R_newM (M := fun k_ => (w.heap.size ≤ k_)) ho17 (below_size hb_) (fun k_ h_ => h_)) (Kd.R_lt (ra_ HO382.out))) (below_size hb_)); replace HO382 := Aside0.mk (Kd.R_elder' (ra_ HO382.out) (Kd.R_base ho17) hb); replace HB := Aside0.mk (below_step hb_ hb); clear hb ho17) | ((with_reducible refine gate_callee (f := 191) rfl ?_); refine gl_ 19 Tryz.func191 #[.slice Ao14 x0_1.length co14] ?_; (with_reducible refine (samphireref06_high.calls kj1 _ _ x0_1 t386 _ ?side1 ?side2 A11.out).mono ?_); (case side1 => exact ca_ (Kd.V_reads' HO_0.out).2.2); (case side2 => exact (Kd.V_reads' HO_0.out).2.1); rintro e w18 ⟨v387, rfl, ho0, hb⟩; refine ⟨_, rfl, ?_⟩; replace HO_0 := Aside0.mk (Kd.V_elder' (va_ HO_0.out) (Kd.R_base ho0) hb); have HO388 := Aside0.mk (Kd.R_lower (Kd.R_new' (Kd.R_new' (Kd.R_newM (M := fun k_ => (w.heap.size ≤ k_)) ho0 (below_size hb_) (fun k_ h_ => h_)) (Kd.R_lt (ra_ HO382.out))) (Kd.R_lt (ra_ HO385.out))) (below_size hb_)); replace HO382 := Aside0.mk (Kd.R_elder' (ra_ HO382.out) (Kd.R_base ho0) hb); replace HO385 := Aside0.mk (Kd.R_elder' (ra_ HO385.out) (Kd.R_base ho0) hb); replace HB := Aside0.mk (below_step hb_ hb); (try clear ho0); obtain ⟨Ao19, co19, eo19⟩ := Kd.R_slice HO385.out; subst eo19; obtain ⟨Ao20, co20, eo20⟩ := Kd.R_slice HO388.out; subst eo20) | ((with_reducible refine gate_callee (f := 165) rfl ?_); refine gl_ 20 Tryz.func165 #[.slice Ao19 y383.length co19, .slice Ao20 t386.length co20] ?_; (with_reducible refine (samphireref06_times.calls kj1 _ _ y383 _ _ t386 t389 _ ?side1 ?side2 ?side3 ?side4 A12.out).mono ?_); (case side1 => exact ca_ (Kd.R_reads' HO385.out).2.2); (case side2 => exact (Kd.R_reads' HO385.out).2.1); (case side3 => exact ca_ (Kd.R_reads' HO388.out).2.2); (case side4 => exact (Kd.R_reads' HO388.out).2.1); rintro e w21 ⟨v390, rfl, ho0, hb⟩; refine ⟨_, rfl, ?_⟩; replace HO_0 := Aside0.mk (Kd.V_elder' (va_ HO_0.out) (Kd.R_base ho0) hb); have HO391 := Aside0.mk (Kd.R_lower (Kd.R_new' (Kd.R_new' (Kd.R_new' (Kd.R_newM (M := fun k_ => (w.heap.size ≤ k_)) ho0 (below_size hb_) (fun k_ h_ => h_)) (Kd.R_lt (ra_ HO382.out))) (Kd.R_lt (ra_ HO385.out))) (Kd.R_lt (ra_ HO388.out))) (below_size hb_)); replace HO382 := Aside0.mk (Kd.R_elder' (ra_ HO382.out) (Kd.R_base ho0) hb); replace HO385 := Aside0.mk (Kd.R_elder' (ra_ HO385.out) (Kd.R_base ho0) hb); replace HO388 := Aside0.mk (Kd.R_elder' (ra_ HO388.out) (Kd.R_base ho0) hb); replace HB := Aside0.mk (below_step hb_ hb); (try clear ho0); obtain ⟨Ao22, co22, eo22⟩ := Kd.R_slice HO382.out; subst eo22; obtain ⟨Ao23, co23, eo23⟩ := Kd.R_slice HO391.out; subst eo23) | ((with_reducible refine gate_callee (f := 166) rfl ?_); refine gl_ 21 Tryz.func166 #[.slice Ao22 t380.length co22, .slice Ao23 t389.length co23, .int .i64 40] ?_; (with_reducible refine (samphireref06_add.calls kj1 _ _ t380 _ _ t389 40 t392 _ ?side1 ?side2 ?side3 ?side4 A13.out).mono ?_); (case side1 => exact ca_ (Kd.R_reads' HO382.out).2.2); (case side2 => exact (Kd.R_reads' HO382.out).2.1); (case side3 => exact ca_ (Kd.R_reads' HO391.out).2.2); (case side4 => exact (Kd.R_reads' HO391.out).2.1); rintro e w24 ⟨v393, rfl, ho0, hb⟩; refine ⟨_, rfl, ?_⟩; replace HO_0 := Aside0.mk (Kd.V_elder' (va_ HO_0.out) (Kd.R_base ho0) hb); have HO394 := Aside0.mk (Kd.R_lower (Kd.R_new' (Kd.R_new' (Kd.R_new' (Kd.R_new' (Kd.R_newM (M := fun k_ => (w.heap.size ≤ k_)) ho0 (below_size hb_) (fun k_ h_ => h_)) (Kd.R_lt (ra_ HO382.out))) (Kd.R_lt (ra_ HO385.out))) (Kd.R_lt (ra_ HO388.out))) (Kd.R_lt (ra_ HO391.out))) (below_size hb_)); replace HO382 := Aside0.mk (Kd.R_elder' (ra_ HO382.out) (Kd.R_base ho0) hb); replace HO385 := Aside0.mk (Kd.R_elder' (ra_ HO385.out) (Kd.R_base ho0) hb); replace HO388 := Aside0.mk (Kd.R_elder' (ra_ HO388.out) (Kd.R_base ho0) hb); replace HO391 := Aside0.mk (Kd.R_elder' (ra_ HO391.out) (Kd.R_base ho0) hb); replace HB := Aside0.mk (below_step hb_ hb); (try clear ho0)))
            go_roundg kj1
            case measure => have := HK1.out; have := HJ1.out; omega
            case rel => exact ⟨(t392), (wrap64 (x3_1 + 1)), rz_, H', ⟨by have := HK1.out; have := HJ1.out; omega⟩, ⟨Kd.V_mono (Kd.R_V (by (with_reducible repeat (first | apply Kd.R_alloc | apply Kd.R_drewN | apply Kd.R_drew)); exact Kd.R_mono HO394.out (fun _ hk => hk.1.1.1.1.1))) (fun k_ hk => by first | exact ⟨(.inr (hk.1)), hk.2⟩ | exact (.inr (hk)))⟩, ⟨hb_⟩⟩
          · replace c9 := Bool.eq_false_iff.mpr c9; subst c9; have H1 : ((samphireref06_add.f kj1 x0_1 (([5] : List Int)) 40).bind fun t398 => ((samphireref06_high.f kj1 t398).bind fun t401 => ((samphireref06_zero.f kj1 t401).bind fun t404 => (if t404 = true then ((samphireref06_low.f kj1 x0_1).bind fun t405 => (some t405)) else ((samphireref06_low.f kj1 t398).bind fun t408 => (some t408)))))) = some r := by rw [if_neg (show ¬ (false = true) by decide)] at H; exact H
            clear H; have H := H1; clear H1; obtain ⟨y395, hy395⟩ : ∃ y_ : List Int, y_ = (([5] : List Int)) := ⟨_, rfl⟩; replace H : ((samphireref06_add.f kj1 x0_1 y395 40).bind fun t398 => ((samphireref06_high.f kj1 t398).bind fun t401 => ((samphireref06_zero.f kj1 t401).bind fun t404 => (if t404 = true then ((samphireref06_low.f kj1 x0_1).bind fun t405 => (some t405)) else ((samphireref06_low.f kj1 t398).bind fun t408 => (some t408)))))) = some r := by first | (rw [hy395]; with_reducible exact H) | (have H2_ := (Option.bind_some _ _).symm.trans H; rw [hy395]; with_reducible exact H2_) | (have H2_ := (Option.bind_some _ _).symm.trans H; with_reducible exact H2_) | with_reducible exact H | (rw [hy395]; exact H) | exact H
            have Ny395 := Aside0.mk hy395; clear hy395; replace H := Option.bind_eq_some_iff.mp H; obtain ⟨t398, A250, H⟩ := H; have A25 := Aside0.mk A250; clear A250; replace H := Option.bind_eq_some_iff.mp H; obtain ⟨t401, A260, H⟩ := H; have A26 := Aside0.mk A260; clear A260; replace H := Option.bind_eq_some_iff.mp H; obtain ⟨t404, A270, H⟩ := H; have A27 := Aside0.mk A270; clear A270; by_cases c28 : t404 = true
            · subst c28; have H1 : ((samphireref06_low.f kj1 x0_1).bind fun t405 => (some t405)) = some r := by rw [if_pos rfl] at H; exact H
              clear H; have H := H1; clear H1; replace H := Option.bind_eq_some_iff.mp H; obtain ⟨t405, A290, H⟩ := H; have A29 := Aside0.mk A290; clear A290; obtain rfl := Option.some.inj H; go_wp2_with (first | ((with_reducible refine gate_dst (N := 23) rfl ?_); refine Kd.R_lit (Kd.int .i64) _ 3 ?hg (N := 23) ?hd (xs := ([5] : List Int)) (inner := [.int .i64 5]) (ok := fun _ => True) (okp := fun _ => True) ?hr ?hp (fun _ hk => hk) trivial (Below.refl _ _) (Nat.le_refl _) (by simp) ?_; (case hd => rfl); (case hg => rfl); (case hr => first | (go_simp; done) | (go_simp; rfl)); (case hp => exact (ro_ (Reps.none _ _))); intro v396 w30 ho31 hb hg_ hnew_; clear hg_ hnew_; (first | rw [← Ny395.out] at ho31 | (simp only [Int.reduceToNat] at ho31; rw [← Ny395.out] at ho31)); replace HO_0 := Aside0.mk (Kd.V_elder' (va_ HO_0.out) (Kd.R_base ho31) hb); have HO397 := Aside0.mk (Kd.R_lower (Kd.R_newM (M := fun k_ => (w.heap.size ≤ k_)) ho31 (below_size hb_) (fun k_ h_ => h_)) (below_size hb_)); replace HB := Aside0.mk (below_step hb_ hb); clear hb ho31; obtain ⟨Ao32, co32, eo32⟩ := Kd.V_slice HO_0.out; subst eo32; obtain ⟨Ao33, co33, eo33⟩ := Kd.R_slice HO397.out; subst eo33) | ((with_reducible refine gate_callee (f := 166) rfl ?_); refine gl_ 24 Tryz.func166 #[.slice Ao32 x0_1.length co32, .slice Ao33 y395.length co33, .int .i64 40] ?_; (with_reducible refine (samphireref06_add.calls kj1 _ _ x0_1 _ _ y395 40 t398 _ ?side1 ?side2 ?side3 ?side4 A25.out).mono ?_); (case side1 => exact ca_ (Kd.V_reads' HO_0.out).2.2); (case side2 => exact (Kd.V_reads' HO_0.out).2.1); (case side3 => exact ca_ (Kd.R_reads' HO397.out).2.2); (case side4 => exact (Kd.R_reads' HO397.out).2.1); rintro e w34 ⟨v399, rfl, ho0, hb⟩; refine ⟨_, rfl, ?_⟩; replace HO_0 := Aside0.mk (Kd.V_elder' (va_ HO_0.out) (Kd.R_base ho0) hb); have HO400 := Aside0.mk (Kd.R_lower (Kd.R_new' (Kd.R_newM (M := fun k_ => (w.heap.size ≤ k_)) ho0 (below_size hb_) (fun k_ h_ => h_)) (Kd.R_lt (ra_ HO397.out))) (below_size hb_)); replace HO397 := Aside0.mk (Kd.R_elder' (ra_ HO397.out) (Kd.R_base ho0) hb); replace HB := Aside0.mk (below_step hb_ hb); (try clear ho0); obtain ⟨Ao35, co35, eo35⟩ := Kd.R_slice HO400.out; subst eo35) | ((with_reducible refine gate_callee (f := 191) rfl ?_); refine gl_ 26 Tryz.func191 #[.slice Ao35 t398.length co35] ?_; (with_reducible refine (samphireref06_high.calls kj1 _ _ t398 t401 _ ?side1 ?side2 A26.out).mono ?_); (case side1 => exact ca_ (Kd.R_reads' HO400.out).2.2); (case side2 => exact (Kd.R_reads' HO400.out).2.1); rintro e w36 ⟨v402, rfl, ho0, hb⟩; refine ⟨_, rfl, ?_⟩; replace HO_0 := Aside0.mk (Kd.V_elder' (va_ HO_0.out) (Kd.R_base ho0) hb); have HO403 := Aside0.mk (Kd.R_lower (Kd.R_new' (Kd.R_new' (Kd.R_newM (M := fun k_ => (w.heap.size ≤ k_)) ho0 (below_size hb_) (fun k_ h_ => h_)) (Kd.R_lt (ra_ HO397.out))) (Kd.R_lt (ra_ HO400.out))) (below_size hb_)); replace HO397 := Aside0.mk (Kd.R_elder' (ra_ HO397.out) (Kd.R_base ho0) hb); replace HO400 := Aside0.mk (Kd.R_elder' (ra_ HO400.out) (Kd.R_base ho0) hb); replace HB := Aside0.mk (below_step hb_ hb); (try clear ho0); obtain ⟨Ao37, co37, eo37⟩ := Kd.R_slice HO403.out; subst eo37) | ((with_reducible refine gate_callee (f := 190) rfl ?_); refine gl_ 27 Tryz.func190 #[.slice Ao37 t401.length co37] ?_; (with_reducible refine (samphireref06_zero.calls kj1 _ _ t401 true _ ?side1 ?side2 A27.out).mono ?_); (case side1 => exact ca_ (Kd.R_reads' HO403.out).2.2); (case side2 => exact (Kd.R_reads' HO403.out).2.1); rintro e w' ⟨rfl, ⟨nd, rfl⟩⟩; refine ⟨_, rfl, ?_⟩) | ((with_reducible refine gate_callee (f := 192) rfl ?_); refine gl_ 32 Tryz.func192 #[.slice Ao32 x0_1.length co32] ?_; (with_reducible refine (samphireref06_low.calls kj1 _ _ x0_1 t405 _ ?side1 ?side2 A29.out).mono ?_); (case side1 => exact ca_ (Kd.V_reads' HO_0.out).2.2); (case side2 => exact (Kd.V_reads' HO_0.out).2.1); rintro e w38 ⟨v406, rfl, ho0, hb⟩; refine ⟨_, rfl, ?_⟩; replace HO_0 := Aside0.mk (Kd.V_elder' (va_ HO_0.out) (Kd.R_base ho0) hb); have HO407 := Aside0.mk (Kd.R_lower (Kd.R_new' (Kd.R_new' (Kd.R_new' (Kd.R_newM (M := fun k_ => (w.heap.size ≤ k_)) ho0 (below_size hb_) (fun k_ h_ => h_)) (Kd.R_lt (ra_ HO397.out))) (Kd.R_lt (ra_ HO400.out))) (Kd.R_lt (ra_ HO403.out))) (below_size hb_)); replace HO397 := Aside0.mk (Kd.R_elder' (ra_ HO397.out) (Kd.R_base ho0) hb); replace HO400 := Aside0.mk (Kd.R_elder' (ra_ HO400.out) (Kd.R_base ho0) hb); replace HO403 := Aside0.mk (Kd.R_elder' (ra_ HO403.out) (Kd.R_base ho0) hb); replace HB := Aside0.mk (below_step hb_ hb); (try clear ho0)))
              go_ret
              exact ⟨_, ew_, by (with_reducible repeat (first | apply Kd.R_alloc | apply Kd.R_drewN | apply Kd.R_drew)); exact Kd.R_mono HO407.out (fun _ hk => hk.1.1.1.1), hb_⟩
            · replace c28 := Bool.eq_false_iff.mpr c28; subst c28; have H1 : ((samphireref06_low.f kj1 t398).bind fun t408 => (some t408)) = some r := by rw [if_neg (show ¬ (false = true) by decide)] at H; exact H
              clear H; have H := H1; clear H1; replace H := Option.bind_eq_some_iff.mp H; obtain ⟨t408, A390, H⟩ := H; have A39 := Aside0.mk A390; clear A390; obtain rfl := Option.some.inj H; go_wp2_with (first | ((with_reducible refine gate_dst (N := 23) rfl ?_); refine Kd.R_lit (Kd.int .i64) _ 3 ?hg (N := 23) ?hd (xs := ([5] : List Int)) (inner := [.int .i64 5]) (ok := fun _ => True) (okp := fun _ => True) ?hr ?hp (fun _ hk => hk) trivial (Below.refl _ _) (Nat.le_refl _) (by simp) ?_; (case hd => rfl); (case hg => rfl); (case hr => first | (go_simp; done) | (go_simp; rfl)); (case hp => exact (ro_ (Reps.none _ _))); intro v396 w40 ho41 hb hg_ hnew_; clear hg_ hnew_; (first | rw [← Ny395.out] at ho41 | (simp only [Int.reduceToNat] at ho41; rw [← Ny395.out] at ho41)); replace HO_0 := Aside0.mk (Kd.V_elder' (va_ HO_0.out) (Kd.R_base ho41) hb); have HO397 := Aside0.mk (Kd.R_lower (Kd.R_newM (M := fun k_ => (w.heap.size ≤ k_)) ho41 (below_size hb_) (fun k_ h_ => h_)) (below_size hb_)); replace HB := Aside0.mk (below_step hb_ hb); clear hb ho41; obtain ⟨Ao42, co42, eo42⟩ := Kd.V_slice HO_0.out; subst eo42; obtain ⟨Ao43, co43, eo43⟩ := Kd.R_slice HO397.out; subst eo43) | ((with_reducible refine gate_callee (f := 166) rfl ?_); refine gl_ 24 Tryz.func166 #[.slice Ao42 x0_1.length co42, .slice Ao43 y395.length co43, .int .i64 40] ?_; (with_reducible refine (samphireref06_add.calls kj1 _ _ x0_1 _ _ y395 40 t398 _ ?side1 ?side2 ?side3 ?side4 A25.out).mono ?_); (case side1 => exact ca_ (Kd.V_reads' HO_0.out).2.2); (case side2 => exact (Kd.V_reads' HO_0.out).2.1); (case side3 => exact ca_ (Kd.R_reads' HO397.out).2.2); (case side4 => exact (Kd.R_reads' HO397.out).2.1); rintro e w44 ⟨v399, rfl, ho0, hb⟩; refine ⟨_, rfl, ?_⟩; replace HO_0 := Aside0.mk (Kd.V_elder' (va_ HO_0.out) (Kd.R_base ho0) hb); have HO400 := Aside0.mk (Kd.R_lower (Kd.R_new' (Kd.R_newM (M := fun k_ => (w.heap.size ≤ k_)) ho0 (below_size hb_) (fun k_ h_ => h_)) (Kd.R_lt (ra_ HO397.out))) (below_size hb_)); replace HO397 := Aside0.mk (Kd.R_elder' (ra_ HO397.out) (Kd.R_base ho0) hb); replace HB := Aside0.mk (below_step hb_ hb); (try clear ho0); obtain ⟨Ao45, co45, eo45⟩ := Kd.R_slice HO400.out; subst eo45) | ((with_reducible refine gate_callee (f := 191) rfl ?_); refine gl_ 26 Tryz.func191 #[.slice Ao45 t398.length co45] ?_; (with_reducible refine (samphireref06_high.calls kj1 _ _ t398 t401 _ ?side1 ?side2 A26.out).mono ?_); (case side1 => exact ca_ (Kd.R_reads' HO400.out).2.2); (case side2 => exact (Kd.R_reads' HO400.out).2.1); rintro e w46 ⟨v402, rfl, ho0, hb⟩; refine ⟨_, rfl, ?_⟩; replace HO_0 := Aside0.mk (Kd.V_elder' (va_ HO_0.out) (Kd.R_base ho0) hb); have HO403 := Aside0.mk (Kd.R_lower (Kd.R_new' (Kd.R_new' (Kd.R_newM (M := fun k_ => (w.heap.size ≤ k_)) ho0 (below_size hb_) (fun k_ h_ => h_)) (Kd.R_lt (ra_ HO397.out))) (Kd.R_lt (ra_ HO400.out))) (below_size hb_)); replace HO397 := Aside0.mk (Kd.R_elder' (ra_ HO397.out) (Kd.R_base ho0) hb); replace HO400 := Aside0.mk (Kd.R_elder' (ra_ HO400.out) (Kd.R_base ho0) hb); replace HB := Aside0.mk (below_step hb_ hb); (try clear ho0); obtain ⟨Ao47, co47, eo47⟩ := Kd.R_slice HO403.out; subst eo47) | ((with_reducible refine gate_callee (f := 190) rfl ?_); refine gl_ 27 Tryz.func190 #[.slice Ao47 t401.length co47] ?_; (with_reducible refine (samphireref06_zero.calls kj1 _ _ t401 false _ ?side1 ?side2 A27.out).mono ?_); (case side1 => exact ca_ (Kd.R_reads' HO403.out).2.2); (case side2 => exact (Kd.R_reads' HO403.out).2.1); rintro e w' ⟨rfl, ⟨nd, rfl⟩⟩; refine ⟨_, rfl, ?_⟩) | ((with_reducible refine gate_callee (f := 192) rfl ?_); refine gl_ 30 Tryz.func192 #[.slice Ao45 t398.length co45] ?_; (with_reducible refine (samphireref06_low.calls kj1 _ _ t398 t408 _ ?side1 ?side2 A39.out).mono ?_); (case side1 => exact ca_ (Kd.R_reads' HO400.out).2.2); (case side2 => exact (Kd.R_reads' HO400.out).2.1); rintro e w48 ⟨v409, rfl, ho0, hb⟩; refine ⟨_, rfl, ?_⟩; replace HO_0 := Aside0.mk (Kd.V_elder' (va_ HO_0.out) (Kd.R_base ho0) hb); have HO410 := Aside0.mk (Kd.R_lower (Kd.R_new' (Kd.R_new' (Kd.R_new' (Kd.R_newM (M := fun k_ => (w.heap.size ≤ k_)) ho0 (below_size hb_) (fun k_ h_ => h_)) (Kd.R_lt (ra_ HO397.out))) (Kd.R_lt (ra_ HO400.out))) (Kd.R_lt (ra_ HO403.out))) (below_size hb_)); replace HO397 := Aside0.mk (Kd.R_elder' (ra_ HO397.out) (Kd.R_base ho0) hb); replace HO400 := Aside0.mk (Kd.R_elder' (ra_ HO400.out) (Kd.R_base ho0) hb); replace HO403 := Aside0.mk (Kd.R_elder' (ra_ HO403.out) (Kd.R_base ho0) hb); replace HB := Aside0.mk (below_step hb_ hb); (try clear ho0)))
              go_ret
              exact ⟨_, ew_, by (with_reducible repeat (first | apply Kd.R_alloc | apply Kd.R_drewN | apply Kd.R_drew)); exact Kd.R_mono HO410.out (fun _ hk => hk.1.1.1.1), hb_⟩
end Go.Proofs.YtbkbganflnemeaaGreat.Pr
end

section
namespace Go.Proofs.YtbkbganflnemeaaGreat.Pr
open Go.RowKit Go.Proofs.YtbkbganflnemeaaGreatW.PrintWords Go.Proofs.YtbkbganflnemeaaGreatW.PrintLast Go.Proofs.YtbkbganflnemeaaGreatW.PrintMore
attribute [local go_sem] max2_int min2_int max_two min_two max_three min_three max_four min_four
mutual
def samphireref06_Mac.j0 : Nat → ByteArray → ByteArray → Bool → Option (ByteArray × Int)
 | 0, _, _, _ => none
 | k + 1, x0, x1, x22 => if x22 = true then (some ((⟨#[]⟩ : ByteArray), 1)) else (if 0 ≤ 16 then (if 16 ≤ (x0.size : Int) then ((samphireref06_Clamp.f (x0.extract 0 16)).bind fun bt411 => ((samphireref06_digits.f k bt411.1).bind fun t413 => (if 17 ≤ 35184372088832 then (samphireref06_Mac.l0 k x0 x1 t413 (List.replicate 17 0) 0) else (none)))) else (none)) else (none))
def samphireref06_Mac.l0 : Nat → ByteArray → ByteArray → List Int → List Int → Int → Option (ByteArray × Int)
 | 0, _, _, _, _, _ => none
 | k + 1, x0, x1, x8, x9, x10 => if x10 < (x1.size : Int) then (if 0 ≤ x10 then (if x10 ≤ (mn (x1.size : Int) (wrap64 (x10 + 16))) then (if (mn (x1.size : Int) (wrap64 (x10 + 16))) ≤ (x1.size : Int) then ((samphireref06_digits.f k (x1.extract (x10 : Int).toNat ((mn (x1.size : Int) (wrap64 (x10 + 16))) : Int).toNat)).bind fun t419 => (if t419.length < 17592186044416 then ((samphireref06_add.f k x9 (t419 ++ [1]) 18).bind fun t425 => ((samphireref06_times.f k t425 x8).bind fun t428 => ((samphireref06_reduced.f k t428).bind fun t431 => (samphireref06_Mac.l0 k x0 x1 x8 t431 (wrap64 (x10 + 16)))))) else (none))) else (none)) else (none)) else (none)) else (if 16 ≤ (x0.size : Int) then ((samphireref06_digits.f k (x0.extract 16 x0.size)).bind fun t434 => ((samphireref06_add.f k x9 t434 18).bind fun t437 => (samphireref06_Mac.l1 k t437 ([] : List Int) 0))) else (none))
def samphireref06_Mac.l1 : Nat → List Int → List Int → Int → Option (ByteArray × Int)
 | 0, _, _, _ => none
 | k + 1, x12, x13, x14 => if x14 < 16 then (if 0 ≤ x14 then (if x14 < (x12.length : Int) then (if x13.length < 140737488355328 then (samphireref06_Mac.l1 k x12 (x13 ++ [(rd x12 x14) % 256]) (wrap64 (x14 + 1))) else (none)) else (none)) else (none)) else (some (strOfNums x13, 0))
end
def samphireref06_Mac.f (k : Nat) (a0 : ByteArray) (a1 : ByteArray) : Option (ByteArray × Int) := if (a0.size : Int) = 32 then (samphireref06_Mac.j0 k a0 a1 (decide ((a1.size : Int) > 65536))) else (samphireref06_Mac.j0 k a0 a1 true)
set_option maxHeartbeats 8000000 in
set_option maxRecDepth 100000 in
theorem samphireref06_Mac.calls (k : Nat) (a0 : ByteArray) (a1 : ByteArray) (r1 : ByteArray) (r2 : Int) (w : World) (h : samphireref06_Mac.f k a0 a1 = some (r1, r2)) :
    Calls Tryz.prog 113 #[.string a0, .string a1] w fun e w' => e = .returned (.tuple #[.string r1, .int .i64 r2]) ∧ Below w.heap.size w w' := by
  have HB := Aside0.mk (Below.refl w.heap.size w); have H : (if (a0.size : Int) = 32 then (samphireref06_Mac.j0 k a0 a1 (decide ((a1.size : Int) > 65536))) else (samphireref06_Mac.j0 k a0 a1 true)) = some (r1, r2) := h; clear h; have HC3 := Aside0.mk H; clear H; go_enter Tryz.func113, Tryz.ntmps113
  go_upto_region 1 with (fail)
  go_cut [22] (fun v22 wc => ∃ (kq : Nat) (x22_2 : Bool), v22 = .bool x22_2 ∧ Aside0 (samphireref06_Mac.j0 kq a0 a1 x22_2 = some (r1, r2)) ∧ Aside0 (kq ≤ k) ∧ Aside0 (Below w.heap.size w wc))
  case first =>
    have H := HC3.out; clear HC3; by_cases c4 : (a0.size : Int) = 32
    · rw [if_pos c4] at H; have c4b0 : ((a0.size : Int) == 32) = true := beq_iff_eq.mpr c4; have c4b1 : ((a0.size : Int) != 32) = false := bne_eq_false_iff_eq.mpr c4; clear c4
      (first | rw [c4b0] | (simp only [i64_w, i32_w]; rw [c4b0]) | skip)
      have H' := Aside0.mk H; clear H; go_wp2; go_meet
      case rel => exact ⟨_, (decide ((a1.size : Int) > 65536)), rz_, H', ⟨by first | omega | exact Nat.le_refl _⟩, ⟨hb_⟩⟩
    · rw [if_neg c4] at H; have c4b0 : ((a0.size : Int) == 32) = false := beq_eq_false_iff_ne.mpr c4; have c4b1 : ((a0.size : Int) != 32) = true := bne_iff_ne.mpr c4
      (first | rw [c4b0] | (simp only [i64_w, i32_w]; rw [c4b0]) | skip)
      have H' := Aside0.mk H; clear H; go_wp2; go_meet
      case rel => exact ⟨_, (true), rz_, H', ⟨by first | omega | exact Nat.le_refl _⟩, ⟨hb_⟩⟩
  case rest =>
    clear HC3; obtain ⟨kq, x22_2, rfl, HA, HJ2, HB⟩ := hcut; cases kq with
    | zero => exact absurd HA.out (by simp [samphireref06_Mac.j0])
    | succ kj2 =>
      have H := HA.out; clear HA; simp only [samphireref06_Mac.j0] at H; by_cases c5 : x22_2 = true
      · subst c5; have H1 : (some ((⟨#[]⟩ : ByteArray), 1)) = some (r1, r2) := by rw [if_pos rfl] at H; exact H
        clear H; have H := H1; clear H1; simp only [Option.some.injEq, Prod.mk.injEq] at H; obtain ⟨rfl, rfl⟩ := H; go_wp2; go_ret2
        exact ⟨ew_, hb_⟩
      · replace c5 := Bool.eq_false_iff.mpr c5; subst c5; have H1 : (if 0 ≤ 16 then (if 16 ≤ (a0.size : Int) then ((samphireref06_Clamp.f (a0.extract 0 16)).bind fun bt411 => ((samphireref06_digits.f kj2 bt411.1).bind fun t413 => (if 17 ≤ 35184372088832 then (samphireref06_Mac.l0 kj2 a0 a1 t413 (List.replicate 17 0) 0) else (none)))) else (none)) else (none)) = some (r1, r2) := by rw [if_neg (show ¬ (false = true) by decide)] at H; exact H
        clear H; have H := H1; clear H1; by_cases c6 : 0 ≤ 16
        · rw [if_pos c6] at H; have c6b0 := eq_true c6; have c6b1 : decide (0 ≤ 16) = true := decide_eq_true c6; clear c6; by_cases c7 : 16 ≤ (a0.size : Int)
          · rw [if_pos c7] at H; have c7b0 := eq_true c7; have c7b1 : decide (16 ≤ (a0.size : Int)) = true := decide_eq_true c7; clear c7; replace H := Option.bind_eq_some_iff.mp H; obtain ⟨⟨t411, t412⟩, A80, H⟩ := H; try dsimp only at H
            have A8 := Aside0.mk A80; clear A80; replace H := Option.bind_eq_some_iff.mp H; obtain ⟨t413, A90, H⟩ := H; have A9 := Aside0.mk A90; clear A90; by_cases c10 : 17 ≤ 35184372088832
            · rw [if_pos c10] at H; have c10b0 := eq_true c10; have c10b1 : decide (17 ≤ 35184372088832) = true := decide_eq_true c10; clear c10; obtain ⟨y416, hy416⟩ : ∃ y_ : List Int, y_ = (List.replicate 17 0) := ⟨_, rfl⟩; replace H : (samphireref06_Mac.l0 kj2 a0 a1 t413 y416 0) = some (r1, r2) := by first | (rw [hy416]; with_reducible exact H) | (have H2_ := (Option.bind_some _ _).symm.trans H; rw [hy416]; with_reducible exact H2_) | (have H2_ := (Option.bind_some _ _).symm.trans H; with_reducible exact H2_) | with_reducible exact H | (rw [hy416]; exact H) | exact H
              have Ny416 := Aside0.mk hy416; clear hy416; have H' := Aside0.mk H; clear H; go_wp2_with (first | ((with_reducible refine gate_callee (f := 162) rfl ?_); refine gl_ 26 Tryz.func162 #[.string (a0.extract 0 16)] ?_; (with_reducible refine (samphireref06_Clamp.calls (a0.extract 0 16) t411 t412 _ A8.out).mono ?_); rintro e w11 ⟨rfl, hb⟩; refine ⟨_, rfl, ?_⟩; replace HB := Aside0.mk (below_step hb_ hb)) | ((with_reducible refine gate_callee (f := 163) rfl ?_); refine gl_ 30 Tryz.func163 #[.string t411] ?_; (with_reducible refine (samphireref06_digits.calls kj2 t411 t413 _ A9.out).mono ?_); rintro e w12 ⟨v414, rfl, ho0, hb⟩; refine ⟨_, rfl, ?_⟩; have HO415 := Aside0.mk (Kd.R_lower ho0 (below_size hb_)); replace HB := Aside0.mk (below_step hb_ hb); (try clear ho0)) | ((with_reducible refine gate_dst (N := 31) rfl ?_); (try (refine gate_guard (by rfl) ?_; dsimp only)); refine Kd.R_make (Kd.int .i64) _ 3 rfl (N := 31) rfl 116 _ _ rfl 17 rfl rfl Tryz.underlying116 (.int .i64 0) 8 info3 rfl (by decide) (by omega) 0 (ok := fun _ => True) (okp := fun _ => True) rfl (fun _ hk => hk) trivial (by omega) (by omega) (Below.refl _ _) (Nat.le_refl _) ?_; intro v417 w13 ho14 hb hg_ hnew_; clear hg_ hnew_; (first | rw [← Ny416.out] at ho14 | (simp only [Int.reduceToNat] at ho14; rw [← Ny416.out] at ho14)); have HO418 := Aside0.mk (Kd.R_lower (Kd.R_new' ho14 (Kd.R_lt (ra_ HO415.out))) (below_size hb_)); replace HO415 := Aside0.mk (Kd.R_elder' (ra_ HO415.out) (Kd.R_base ho14) hb); replace HB := Aside0.mk (below_step hb_ hb); clear hb ho14))
              go_loopg [9, 10] kj2 (fun kq v9 v10 w' => ∃ (x9_2 : List Int) (x10_2 : Int), v10 = .int .i64 x10_2 ∧ Aside0 (samphireref06_Mac.l0 kq a0 a1 t413 x9_2 x10_2 = some (r1, r2)) ∧ Aside0 (kq ≤ kj2) ∧ Aside0 (Kd.R (Kd.int .i64) 3 w' w.heap.size (fun k_ => some k_ ≠ (v9 : Value).ownBlock) v414 t413) ∧ Aside0 (Kd.R (Kd.int .i64) 3 w' w.heap.size (fun k_ => some k_ ≠ (v414 : Value).ownBlock) v9 x9_2) ∧ Aside0 (Below w.heap.size w w'))
              case atStart => exact ⟨(y416), (0), rz_, H', ⟨Nat.le_refl _⟩, ⟨by (with_reducible repeat (first | apply Kd.R_alloc | apply Kd.R_drewN | apply Kd.R_drew)); exact Kd.R_mono HO415.out (fun _ hk => hk.2)⟩, ⟨by (with_reducible repeat (first | apply Kd.R_alloc | apply Kd.R_drewN | apply Kd.R_drew)); exact Kd.R_mono HO418.out (fun _ hk => hk.2)⟩, ⟨hb_⟩⟩
              case round =>
                clear H'; obtain ⟨x9_2, x10_2, rfl, HA, HK2, HO_8, HO_9, HB⟩ := hrel; cases gk with
                | zero => exact absurd HA.out (by simp [samphireref06_Mac.l0])
                | succ k2 =>
                  have H := HA.out; clear HA; simp only [samphireref06_Mac.l0] at H; by_cases c15 : x10_2 < (a1.size : Int)
                  · rw [if_pos c15] at H; have c15b0 : decide (x10_2 < (a1.size : Int)) = true := decide_eq_true c15; clear c15; obtain ⟨ji16, hji16⟩ : ∃ j_ : Int, (mn (a1.size : Int) (wrap64 (x10_2 + 16))) = j_ := ⟨_, rfl⟩; replace H : (if 0 ≤ x10_2 then (if x10_2 ≤ (ji16) then (if (ji16) ≤ (a1.size : Int) then ((samphireref06_digits.f k2 (a1.extract (x10_2 : Int).toNat ((ji16) : Int).toNat)).bind fun t419 => (if t419.length < 17592186044416 then ((samphireref06_add.f k2 x9_2 (t419 ++ [1]) 18).bind fun t425 => ((samphireref06_times.f k2 t425 t413).bind fun t428 => ((samphireref06_reduced.f k2 t428).bind fun t431 => (samphireref06_Mac.l0 k2 a0 a1 t413 t431 (wrap64 (x10_2 + 16)))))) else (none))) else (none)) else (none)) else (none)) = some (r1, r2) := by first | (rw [hji16] at H; exact H) | (simp only [hji16] at H ⊢; exact H)
                    have hji16_ : (if (wrap64 (x10_2 + 16)) < (a1.size : Int) then (wrap64 (x10_2 + 16)) else (a1.size : Int)) = ji16 := hji16; by_cases c17 : 0 ≤ x10_2
                    · rw [if_pos c17] at H; have c17b0 := eq_true c17; have c17b1 : decide (0 ≤ x10_2) = true := decide_eq_true c17; clear c17; by_cases c18 : x10_2 ≤ (ji16)
                      · rw [if_pos c18] at H; have c18b0 := eq_true c18; have c18b1 : decide (x10_2 ≤ (ji16)) = true := decide_eq_true c18; clear c18; by_cases c19 : (ji16) ≤ (a1.size : Int)
                        · rw [if_pos c19] at H; have c19b0 := eq_true c19; have c19b1 : decide ((ji16) ≤ (a1.size : Int)) = true := decide_eq_true c19; clear c19; replace H := Option.bind_eq_some_iff.mp H; obtain ⟨t419, A200, H⟩ := H; have A20 := Aside0.mk A200; clear A200; by_cases c21 : t419.length < 17592186044416
                          · rw [if_pos c21] at H; have LMc21 := Aside0.mk c21; clear c21; obtain ⟨y422, hy422⟩ : ∃ y_ : List Int, y_ = (t419 ++ [1]) := ⟨_, rfl⟩; replace H : ((samphireref06_add.f k2 x9_2 y422 18).bind fun t425 => ((samphireref06_times.f k2 t425 t413).bind fun t428 => ((samphireref06_reduced.f k2 t428).bind fun t431 => (samphireref06_Mac.l0 k2 a0 a1 t413 t431 (wrap64 (x10_2 + 16)))))) = some (r1, r2) := by first | (rw [hy422]; with_reducible exact H) | (have H2_ := (Option.bind_some _ _).symm.trans H; rw [hy422]; with_reducible exact H2_) | (have H2_ := (Option.bind_some _ _).symm.trans H; with_reducible exact H2_) | with_reducible exact H | (rw [hy422]; exact H) | exact H
                            have Ny422 := Aside0.mk hy422; clear hy422; replace H := Option.bind_eq_some_iff.mp H; obtain ⟨t425, A220, H⟩ := H; have A22 := Aside0.mk A220; clear A220; replace H := Option.bind_eq_some_iff.mp H; obtain ⟨t428, A230, H⟩ := H; have A23 := Aside0.mk A230; clear A230; replace H := Option.bind_eq_some_iff.mp H; obtain ⟨t431, A240, H⟩ := H; have A24 := Aside0.mk A240; clear A240; have H' := Aside0.mk H; clear H; go_wp2_with (first | ((with_reducible refine gate_callee (f := 163) rfl ?_); refine goesL_ (some 46) rfl rfl Tryz.func163 (by kernel_rfl) rfl #[.string (a1.extract (x10_2 : Int).toNat ((ji16) : Int).toNat)] rfl (by (try simp only [List.map_toArray, List.map_cons, List.map_nil]); first | done | (simp only [hji16]; rfl) | rfl | (simp only [List.length_drop, List.length_take]; rfl)) ?_; (with_reducible refine (samphireref06_digits.calls k2 (a1.extract (x10_2 : Int).toNat ((ji16) : Int).toNat) t419 _ A20.out).mono ?_); rintro e w25 ⟨v420, rfl, ho0, hb⟩; refine ⟨_, rfl, ?_⟩; have HO421 := Aside0.mk (Kd.R_lower (Kd.R_new' (Kd.R_new' ho0 (Kd.R_lt (ra_ HO_8.out))) (Kd.R_lt (ra_ HO_9.out))) (below_size hb_)); replace HO_8 := Aside0.mk (Kd.R_elder' (ra_ HO_8.out) (Kd.R_base ho0) hb); replace HO_9 := Aside0.mk (Kd.R_elder' (ra_ HO_9.out) (Kd.R_base ho0) hb); replace HB := Aside0.mk (below_step hb_ hb); (try clear ho0)) | ((with_reducible refine gate_builtin (b := .append) (xs := #[.tmp 46, .tmp 47]) rfl ?_); (try (refine gate_guard (by rfl) ?_; dsimp only)); at_builtin; refine Kd.R_append (Kd.int .i64) (w0 := w) w.heap.size rfl (.tmp 46) (.tmp 47) 116 3 (.int .i64 0) 8 rfl Tryz.underlying116 info3 rfl (by decide) (by omega) v420 t419 1 [.int .i64 1] (fun k_ => some k_ ≠ (v414 : Value).ownBlock ∧ some k_ ≠ (u9 : Value).ownBlock) (fun _ => False) rfl rfl ?aP (fun _ hk => hk.elim) ?aF ?aO ?aB ?aS ?aL ?_; (case aP => exact rfl); (case aB => exact hb_); (case aF => exact (fun k_ hk => ⟨Kd.fresh' (Kd.R_lt (ra_ HO_8.out)) k_ hk, Kd.fresh' (Kd.R_lt (ra_ HO_9.out)) k_ hk⟩)); (case aO => exact (by (with_reducible repeat (first | apply Kd.R_alloc | apply Kd.R_drewN | apply Kd.R_drew)); exact Kd.R_mono HO421.out (fun _ hk => by first | exact ⟨hk.1.2, hk.2⟩ | exact gk_))); (case aS => exact (below_size hb_)); (case aL => have := LMc21.out; omega); intro v423 w26 ho hb hg hat; rw [← Ny422.out] at ho; replace HO_8 := Aside0.mk (Kd.R_after (ok := (fun k_ => some k_ ≠ (u9 : Value).ownBlock)) (ra_ HO_8.out) hg hat); replace HO_9 := Aside0.mk (Kd.R_after (ok := (fun k_ => some k_ ≠ (v414 : Value).ownBlock)) (ra_ HO_9.out) hg hat); replace HB := Aside0.mk (hb); have HO424 := Aside0.mk (ho); clear HO421; clear ho hb hg hat; obtain ⟨Ao27, co27, eo27⟩ := Kd.R_slice HO_9.out; subst eo27; obtain ⟨Ao28, co28, eo28⟩ := Kd.R_slice HO424.out; subst eo28) | ((with_reducible refine gate_callee (f := 166) rfl ?_); refine gl_ 51 Tryz.func166 #[.slice Ao27 x9_2.length co27, .slice Ao28 y422.length co28, .int .i64 18] ?_; (with_reducible refine (samphireref06_add.calls k2 _ _ x9_2 _ _ y422 18 t425 _ ?side1 ?side2 ?side3 ?side4 A22.out).mono ?_); (case side1 => exact ca_ (Kd.R_reads' HO_9.out).2.2); (case side2 => exact (Kd.R_reads' HO_9.out).2.1); (case side3 => exact ca_ (Kd.R_reads' HO424.out).2.2); (case side4 => exact (Kd.R_reads' HO424.out).2.1); rintro e w29 ⟨v426, rfl, ho0, hb⟩; refine ⟨_, rfl, ?_⟩; have HO427 := Aside0.mk (Kd.R_lower (Kd.R_new' (Kd.R_new' (Kd.R_new' ho0 (Kd.R_lt (ra_ HO_8.out))) (Kd.R_lt (ra_ HO_9.out))) (Kd.R_lt (ra_ HO424.out))) (below_size hb_)); replace HO_8 := Aside0.mk (Kd.R_elder' (ra_ HO_8.out) (Kd.R_base ho0) hb); replace HO_9 := Aside0.mk (Kd.R_elder' (ra_ HO_9.out) (Kd.R_base ho0) hb); replace HO424 := Aside0.mk (Kd.R_elder' (ra_ HO424.out) (Kd.R_base ho0) hb); replace HB := Aside0.mk (below_step hb_ hb); (try clear ho0); obtain ⟨Ao30, co30, eo30⟩ := Kd.R_slice HO427.out; subst eo30; obtain ⟨Ao31, co31, eo31⟩ := Kd.R_slice HO_8.out; subst eo31) | ((with_reducible refine gate_callee (f := 165) rfl ?_); refine gl_ 53 Tryz.func165 #[.slice Ao30 t425.length co30, .slice Ao31 t413.length co31] ?_; (with_reducible refine (samphireref06_times.calls k2 _ _ t425 _ _ t413 t428 _ ?side1 ?side2 ?side3 ?side4 A23.out).mono ?_); (case side1 => exact ca_ (Kd.R_reads' HO427.out).2.2); (case side2 => exact (Kd.R_reads' HO427.out).2.1); (case side3 => exact ca_ (Kd.R_reads' HO_8.out).2.2); (case side4 => exact (Kd.R_reads' HO_8.out).2.1); rintro e w32 ⟨v429, rfl, ho0, hb⟩; refine ⟨_, rfl, ?_⟩; have HO430 := Aside0.mk (Kd.R_lower (Kd.R_new' (Kd.R_new' (Kd.R_new' (Kd.R_new' ho0 (Kd.R_lt (ra_ HO_8.out))) (Kd.R_lt (ra_ HO_9.out))) (Kd.R_lt (ra_ HO424.out))) (Kd.R_lt (ra_ HO427.out))) (below_size hb_)); replace HO_8 := Aside0.mk (Kd.R_elder' (ra_ HO_8.out) (Kd.R_base ho0) hb); replace HO_9 := Aside0.mk (Kd.R_elder' (ra_ HO_9.out) (Kd.R_base ho0) hb); replace HO424 := Aside0.mk (Kd.R_elder' (ra_ HO424.out) (Kd.R_base ho0) hb); replace HO427 := Aside0.mk (Kd.R_elder' (ra_ HO427.out) (Kd.R_base ho0) hb); replace HB := Aside0.mk (below_step hb_ hb); (try clear ho0); obtain ⟨Ao33, co33, eo33⟩ := Kd.R_slice HO430.out; subst eo33) | ((with_reducible refine gate_callee (f := 164) rfl ?_); refine gl_ 54 Tryz.func164 #[.slice Ao33 t428.length co33] ?_; (with_reducible refine (samphireref06_reduced.calls k2 (fun k_ => some k_ = (.slice Ao33 t428.length co33 : Value).ownBlock) _ _ t428 t431 _ ?side1 A24.out).mono ?_); (case side1 => exact Kd.R_V (Kd.R_tight rfl (HO430.out))); rintro e w34 ⟨v432, rfl, ho0, hb⟩; refine ⟨_, rfl, ?_⟩; have HO433 := Aside0.mk (Kd.R_lower (Kd.R_new' (Kd.R_new' (Kd.R_new' (Kd.R_new' (Kd.R_new' (Kd.R_mono (ok' := fun k_ => True) ho0 (fun _ hk_ => trivial)) (Kd.R_lt (ra_ HO_8.out))) (Kd.R_lt (ra_ HO_9.out))) (Kd.R_lt (ra_ HO424.out))) (Kd.R_lt (ra_ HO427.out))) (Kd.R_lt (ra_ HO430.out))) (below_size hb_)); replace HO_8 := Aside0.mk (Kd.R_elder' (ra_ HO_8.out) (Kd.R_base ho0) hb); replace HO_9 := Aside0.mk (Kd.R_elder' (ra_ HO_9.out) (Kd.R_base ho0) hb); replace HO424 := Aside0.mk (Kd.R_elder' (ra_ HO424.out) (Kd.R_base ho0) hb); replace HO427 := Aside0.mk (Kd.R_elder' (ra_ HO427.out) (Kd.R_base ho0) hb); replace HO430 := Aside0.mk (Kd.R_elder' (ra_ HO430.out) (Kd.R_base ho0) hb); replace HB := Aside0.mk (below_step hb_ hb); (try clear ho0)))
                            go_roundg k2
                            case measure => have := HJ2.out; have := HK2.out; omega
                            case rel => exact ⟨(t431), (wrap64 (x10_2 + 16)), rz_, H', ⟨by have := HJ2.out; have := HK2.out; omega⟩, ⟨by (with_reducible repeat (first | apply Kd.R_alloc | apply Kd.R_drewN | apply Kd.R_drew)); exact Kd.R_mono HO_8.out (fun _ hk => hk.2)⟩, ⟨by (with_reducible repeat (first | apply Kd.R_alloc | apply Kd.R_drewN | apply Kd.R_drew)); exact Kd.R_mono HO433.out (fun _ hk => hk.1.1.1.1.2)⟩, ⟨hb_⟩⟩
                          · rw [if_neg c21] at H; exact absurd H (by simp)
                        · rw [if_neg c19] at H; exact absurd H (by simp)
                      · rw [if_neg c18] at H; exact absurd H (by simp)
                    · rw [if_neg c17] at H; exact absurd H (by simp)
                  · rw [if_neg c15] at H; have c15b0 : decide (x10_2 < (a1.size : Int)) = false := decide_eq_false c15; clear c15; by_cases c35 : 16 ≤ (a0.size : Int)
                    · rw [if_pos c35] at H; have c35b0 := eq_true c35; have c35b1 : decide (16 ≤ (a0.size : Int)) = true := decide_eq_true c35; clear c35; replace H := Option.bind_eq_some_iff.mp H; obtain ⟨t434, A360, H⟩ := H; have A36 := Aside0.mk A360; clear A360; replace H := Option.bind_eq_some_iff.mp H; obtain ⟨t437, A370, H⟩ := H; have A37 := Aside0.mk A370; clear A370; have H' := Aside0.mk H; clear H; go_wp2_with (first | ((with_reducible refine gate_callee (f := 163) rfl ?_); refine gl_ 58 Tryz.func163 #[.string (a0.extract 16 a0.size)] ?_; (with_reducible refine (samphireref06_digits.calls k2 (a0.extract 16 a0.size) t434 _ A36.out).mono ?_); rintro e w38 ⟨v435, rfl, ho0, hb⟩; refine ⟨_, rfl, ?_⟩; have HO436 := Aside0.mk (Kd.R_lower (Kd.R_new' (Kd.R_new' ho0 (Kd.R_lt (ra_ HO_8.out))) (Kd.R_lt (ra_ HO_9.out))) (below_size hb_)); replace HO_8 := Aside0.mk (Kd.R_elder' (ra_ HO_8.out) (Kd.R_base ho0) hb); replace HO_9 := Aside0.mk (Kd.R_elder' (ra_ HO_9.out) (Kd.R_base ho0) hb); replace HB := Aside0.mk (below_step hb_ hb); (try clear ho0); obtain ⟨Ao39, co39, eo39⟩ := Kd.R_slice HO_9.out; subst eo39; obtain ⟨Ao40, co40, eo40⟩ := Kd.R_slice HO436.out; subst eo40) | ((with_reducible refine gate_callee (f := 166) rfl ?_); refine gl_ 59 Tryz.func166 #[.slice Ao39 x9_2.length co39, .slice Ao40 t434.length co40, .int .i64 18] ?_; (with_reducible refine (samphireref06_add.calls k2 _ _ x9_2 _ _ t434 18 t437 _ ?side1 ?side2 ?side3 ?side4 A37.out).mono ?_); (case side1 => exact ca_ (Kd.R_reads' HO_9.out).2.2); (case side2 => exact (Kd.R_reads' HO_9.out).2.1); (case side3 => exact ca_ (Kd.R_reads' HO436.out).2.2); (case side4 => exact (Kd.R_reads' HO436.out).2.1); rintro e w41 ⟨v438, rfl, ho0, hb⟩; refine ⟨_, rfl, ?_⟩; have HO439 := Aside0.mk (Kd.R_lower (Kd.R_new' (Kd.R_new' (Kd.R_new' ho0 (Kd.R_lt (ra_ HO_8.out))) (Kd.R_lt (ra_ HO_9.out))) (Kd.R_lt (ra_ HO436.out))) (below_size hb_)); replace HO_8 := Aside0.mk (Kd.R_elder' (ra_ HO_8.out) (Kd.R_base ho0) hb); replace HO_9 := Aside0.mk (Kd.R_elder' (ra_ HO_9.out) (Kd.R_base ho0) hb); replace HO436 := Aside0.mk (Kd.R_elder' (ra_ HO436.out) (Kd.R_base ho0) hb); replace HB := Aside0.mk (below_step hb_ hb); (try clear ho0)))
                      go_loopg [13, 14] k2 (fun kq v13 v14 w' => ∃ (x13_3 : List Int) (x14_3 : Int), v14 = .int .i64 x14_3 ∧ Aside0 (samphireref06_Mac.l1 kq t437 x13_3 x14_3 = some (r1, r2)) ∧ Aside0 (kq ≤ k2) ∧ Aside0 (Kd.R (Kd.int .i64) 3 w' w.heap.size (fun _ => True) v438 t437) ∧ Aside0 (Kd.R (Kd.int .u8) 5 w' w.heap.size (fun _ => True) v13 x13_3) ∧ Aside0 (Below w.heap.size w w'))
                      case atStart => exact ⟨(([] : List Int)), (0), rz_, H', ⟨Nat.le_refl _⟩, ⟨by (with_reducible repeat (first | apply Kd.R_alloc | apply Kd.R_drewN | apply Kd.R_drew)); exact Kd.R_mono HO439.out (fun _ hk => trivial)⟩, ⟨by first | exact Kd.R_nil _ _ _ _ _ | exact Kd.N_nil _ _ _ _ _ | exact Kd.V_nil _ _ _ _ _ | exact Kd.Q_nil _ _ _ _ _ | exact Kd.S_nil _ _ _ _ _⟩, ⟨hb_⟩⟩
                      case round =>
                        clear H'; obtain ⟨x13_3, x14_3, rfl, HA, HK3, HO_12, HO_13, HB⟩ := hrel; cases gk with
                        | zero => exact absurd HA.out (by simp [samphireref06_Mac.l1])
                        | succ k3 =>
                          have H := HA.out; clear HA; simp only [samphireref06_Mac.l1] at H; by_cases c42 : x14_3 < 16
                          · rw [if_pos c42] at H; have c42b0 : decide (x14_3 < 16) = true := decide_eq_true c42; clear c42; by_cases c43 : 0 ≤ x14_3
                            · rw [if_pos c43] at H; have c43b0 : decide (0 ≤ x14_3) = true := decide_eq_true c43; clear c43; by_cases c44 : x14_3 < (t437.length : Int)
                              · rw [if_pos c44] at H; have c44b0 : decide (x14_3 < (t437.length : Int)) = true := decide_eq_true c44; clear c44; by_cases c45 : x13_3.length < 140737488355328
                                · rw [if_pos c45] at H; have LMc45 := Aside0.mk c45; clear c45; obtain ⟨y441, hy441⟩ : ∃ y_ : List Int, y_ = (x13_3 ++ [(rd t437 x14_3) % 256]) := ⟨_, rfl⟩; replace H : (samphireref06_Mac.l1 k3 t437 y441 (wrap64 (x14_3 + 1))) = some (r1, r2) := by first | (rw [hy441]; with_reducible exact H) | (have H2_ := (Option.bind_some _ _).symm.trans H; rw [hy441]; with_reducible exact H2_) | (have H2_ := (Option.bind_some _ _).symm.trans H; with_reducible exact H2_) | with_reducible exact H | (rw [hy441]; exact H) | exact H
                                  have Ny441 := Aside0.mk hy441; clear hy441; have H' := Aside0.mk H; clear H; obtain ⟨Ao46, co46, eo46⟩ := Kd.R_slice HO_12.out; subst eo46; have p440 : 0 ≤ (x14_3 : Int) := of_decide_eq_true as_'; have q440 : x14_3 < (t437.length : Int) := of_decide_eq_true as_'; obtain ⟨ad440, e440, hx440_0⟩ := Kd.at_int (Kd.R_reads' HO_12.out).2.2 x14_3 p440 q440; cases e440; replace p440 := eq_true p440; replace q440 := eq_true q440; go_wp2_with (first | ((with_reducible refine gate_builtin (b := .append) (xs := #[.tmp 64, .tmp 70]) rfl ?_); (try (refine gate_guard (by rfl) ?_; dsimp only)); at_builtin; refine Kd.R_append (Kd.int .u8) (w0 := w) w.heap.size rfl (.tmp 64) (.tmp 70) 68 5 (.int .u8 0) 1 rfl Tryz.underlying68 info5 rfl (by decide) (by omega) u13 x13_3 ((rd t437 x14_3) % 256) [.int .u8 ((rd t437 x14_3) % 256)] (fun _ => True) (fun _ => False) rfl rfl ?aP (fun _ hk => hk.elim) ?aF ?aO ?aB ?aS ?aL ?_; (case aP => exact rfl); (case aB => exact hb_); (case aF => exact (fun _ _ => trivial)); (case aO => exact (ra_ HO_13.out)); (case aS => exact (below_size hb_)); (case aL => have := LMc45.out; omega); intro v442 w47 ho hb hg hat; rw [← Ny441.out] at ho; replace HO_12 := Aside0.mk (Kd.R_over' (ra_ HO_12.out) (Kd.R_typed (ra_ HO_13.out)) (by decide) hg); replace HB := Aside0.mk (hb); have HO443 := Aside0.mk (ho); clear HO_13; clear ho hb hg hat))
                                  go_roundg k3
                                  case measure => have := HJ2.out; have := HK2.out; have := HK3.out; omega
                                  case rel => exact ⟨(y441), (wrap64 (x14_3 + 1)), rz_, H', ⟨by have := HJ2.out; have := HK2.out; have := HK3.out; omega⟩, ⟨ra_ HO_12.out⟩, ⟨ra_ HO443.out⟩, ⟨hb_⟩⟩
                                · rw [if_neg c45] at H; exact absurd H (by simp)
                              · rw [if_neg c44] at H; exact absurd H (by simp)
                            · rw [if_neg c43] at H; exact absurd H (by simp)
                          · rw [if_neg c42] at H; have c42b0 : decide (x14_3 < 16) = false := decide_eq_false c42; clear c42; simp only [Option.some.injEq, Prod.mk.injEq] at H; obtain ⟨rfl, rfl⟩ := H; have hcv48 := own_string (P := Tryz.prog) Tryz.underlying68 Tryz.underlying5 Tryz.underlying9 (Kd.own_of_R HO_13.out); go_wp2; go_ret2
                            exact ⟨ew_, hb_⟩
                    · rw [if_neg c35] at H; exact absurd H (by simp)
            · rw [if_neg c10] at H; exact absurd H (by simp)
          · rw [if_neg c7] at H; exact absurd H (by simp)
        · rw [if_neg c6] at H; exact absurd H (by simp)
end Go.Proofs.YtbkbganflnemeaaGreat.Pr
end

section
namespace Go.Proofs.YtbkbganflnemeaaGreat.Pr
open Go.RowKit Go.Proofs.YtbkbganflnemeaaGreatW.PrintWords Go.Proofs.YtbkbganflnemeaaGreatW.PrintLast
set_option maxHeartbeats 1000000
def fil (p : Nat → Nat) (i n : Nat) : List Nat := mapAt (upto (fun j _ => p j) i) (List.replicate n 0)
theorem fil_length (p : Nat → Nat) (i n : Nat) : (fil p i n).length = n := by rw [fil, mapAt_length, List.length_replicate]
theorem fil_zero (p : Nat → Nat) (n : Nat) : fil p 0 n = List.replicate n 0 := upto_zero _ _
theorem fil_set (p : Nat → Nat) (i n v : Nat) (hv : p i = v) : (fil p i n).set i v = fil p (i + 1) n := upto_set _ _ _ _ hv
theorem zeros_get (n i : Nat) : (List.replicate n 0).getD i 0 = 0 := by
 rw [List.getD_eq_getElem?_getD, List.getElem?_replicate]; split <;> rfl
theorem fil_get (p : Nat → Nat) (i n : Nat) : (fil p i n).getD i 0 = 0 := by
 by_cases h : i < n
 ·rw [List.getD_eq_getElem?_getD, fil, upto_get _ _ _ (by rw [List.length_replicate]; exact h), zeros_get]; rfl
 ·rw [List.getD_eq_getElem?_getD, List.getElem?_eq_none (by rw [fil_length]; omega)]; rfl
theorem fil_skip (p : Nat → Nat) (i k n : Nat) (hk : i ≤ k) (h : ∀ j, i ≤ j → j < k → p j = 0) : fil p i n = fil p k n :=
 upto_skip _ _ _ _ hk (fun j h1 h2 => by rw [zeros_get]; exact h j h1 h2)
theorem fil_all (p : Nat → Nat) (n : Nat) : fil p n n = (List.range n).map p := by
 rw [fil, upto_all _ _ _ (by rw [List.length_replicate]; exact Nat.le_refl _), mapAt, List.length_replicate]
theorem dv_map_succ (p : Nat → Nat) (n : Nat) : dv ((List.range (n + 1)).map p) = dv ((List.range n).map p) + 256 ^ n * p n := by
 rw [List.range_succ, List.map_append, dv_append, List.length_map, List.length_range]
 simp [dv]
theorem dv_map_add (a b : Nat → Nat) (n : Nat) : dv ((List.range n).map fun i => a i + b i) = dv ((List.range n).map a) + dv ((List.range n).map b) := by
 induction n with
 | zero => rfl
 | succ n ih => rw [dv_map_succ, dv_map_succ, dv_map_succ, ih]; grind
theorem dv_map_get (l : List Nat) (n : Nat) : dv ((List.range n).map fun i => l.getD i 0) = dv (l.take n) := by
 induction n with
 | zero => rfl
 | succ n ih => rw [dv_map_succ, ih, dv_take_succ]
theorem dv_take_mod (l : List Nat) (n : Nat) : dv (l.take n) % 256 ^ n = dv l % 256 ^ n := by
 by_cases h : n ≤ l.length
 ·have := dv_append (l.take n) (l.drop n)
  rw [List.take_append_drop, List.length_take, Nat.min_eq_left h] at this
  rw [this, Nat.add_mul_mod_self_left]
 ·rw [List.take_of_length_le (by omega)]
theorem dig_mod (V n : Nat) : dig (V % 256 ^ n) n = dig V n := by
 unfold dig
 apply List.map_congr_left
 intro k hk
 rw [List.mem_range] at hk
 obtain ⟨d, rfl⟩ : ∃ d, n = k + 1 + d := ⟨n - (k + 1), by omega⟩
 rw [Nat.pow_add, Nat.mod_mul, Nat.pow_succ]
 have h1 : V % (256 ^ k * 256) / 256 ^ k = V / 256 ^ k % 256 := by rw [Nat.mod_mul, Nat.add_mul_div_left _ _ (Nat.pow_pos (by decide)), Nat.div_eq_of_lt (Nat.mod_lt _ (Nat.pow_pos (by decide))), Nat.zero_add]
 rw [Nat.mul_assoc, Nat.add_mul_div_left _ _ (Nat.pow_pos (by decide)), h1, Nat.add_mul_mod_self_left, Nat.mod_mod]
theorem dig_congr {V W n : Nat} (h : V % 256 ^ n = W % 256 ^ n) : dig V n = dig W n := by rw [← dig_mod V, h, dig_mod]
def cyD (l : List Nat) (i : Nat) : Nat := dv (l.take i) / 256 ^ i
theorem cyD_succ (l : List Nat) (i : Nat) : cyD l (i + 1) = (cyD l i + l.getD i 0) / 256 := by
 unfold cyD
 rw [dv_take_succ, Nat.pow_succ, ← Nat.div_div_eq_div_mul, Nat.add_mul_div_left _ _ (Nat.pow_pos (by decide))]
theorem cyD_lt (l : List Nat) (B : Nat) (h : ∀ i, l.getD i 0 ≤ B) : ∀ i, cyD l i ≤ B
  | 0 => by simp [cyD, dv]
  | i + 1 => by
    have := cyD_lt l B h i
    have := h i
    rw [cyD_succ]; omega
theorem ints_zeros (n : Nat) : (List.replicate n 0 : List Int) = ints (List.replicate n 0) := by simp [ints]
theorem carried_l0 (l : List Nat) (n : Nat) (hl : ∀ i, l.getD i 0 ≤ 1000000000000) (hn : n ≤ 1000000) (hs : l.length ≤ 1000000) : ∀ d k i, i + d = n → d < k →
    samphireref06_carried.l0 k (ints l) (n : Int) (ints (fil (fun j => dv l / 256 ^ j % 256) i n)) (cyD l i : Int) (i : Int) = some (ints (dig (dv l) n)) := by
  intro d
  induction d with
  | zero =>
    intro k i hi hk
    obtain ⟨k, rfl⟩ : ∃ m, k = m + 1 := ⟨k - 1, by omega⟩
    obtain rfl : i = n := by omega
    simp only [samphireref06_carried.l0]
    rw [if_neg (by omega), fil_all]; rfl
  | succ d ih =>
    intro k i hi hk
    obtain ⟨k, rfl⟩ : ∃ m, k = m + 1 := ⟨k - 1, by omega⟩
    simp only [samphireref06_carried.l0, ints_length, fil_length]
    have h := ih k (i + 1) (by omega) (by omega)
    have hc := cyD_lt l 1000000000000 hl i
    have hx := hl i
    rw [← fil_set _ i n _ rfl, take_digit, cyD_succ, ← ints_set] at h
    have hi1 : wrap64 ((i : Int) + 1) = ((i + 1 : Nat) : Int) := by rw [wr _ (by omega) (by omega)]; omega
    have hif : ∀ (x : Nat), x ≤ 2000000000000 → bits .and .i64 (x : Int) 255 = ((x % 256 : Nat) : Int) := fun x hx => and255 x (by omega)
    unfold cyD at *
    rw [if_pos (by omega), rd_ints]
    generalize dv (l.take i) / 256 ^ i = c at *
    by_cases hil : i < l.length
    · rw [if_pos (by omega), if_pos (by omega), if_pos (by omega), wr ((c : Int) + _) (by omega) (by omega), hi1, Int.toNat_natCast]
      rw [← Int.natCast_add, hif _ (by omega)]
      exact h
    · have hz : l.getD i 0 = 0 := by rw [List.getD_eq_getElem?_getD, List.getElem?_eq_none (by omega)]; rfl
      rw [if_neg (by omega), if_pos (by omega), if_pos (by omega), hi1, Int.toNat_natCast, hif _ (by omega)]
      rw [hz, Nat.add_zero] at h
      exact h
theorem carried_f (l : List Nat) (n : Nat) (hl : ∀ i, l.getD i 0 ≤ 1000000000000) (hn : n ≤ 1000000) (hs : l.length ≤ 1000000) (k : Nat) (hk : n < k) : samphireref06_carried.f k (ints l) (n : Int) = some (ints (dig (dv l) n)) := by
 unfold samphireref06_carried.f
 rw [if_pos (by omega), if_pos (by omega), Int.toNat_natCast, ints_zeros, ← fil_zero (fun j => dv l / 256 ^ j % 256)]
 have e : cyD l 0 = 0 := by simp [cyD, dv]
 have h := carried_l0 l n hl hn hs n k 0 (by omega) hk
 rw [e] at h
 exact h
theorem digits_l0 (s : ByteArray) (hs : s.size ≤ 1000000) : ∀ d k i, i + d = s.size → d < k →
    samphireref06_digits.l0 k s (ints ((bys s).take i)) (i : Int) = some (ints (bys s)) := by
  intro d
  induction d with
  | zero =>
    intro k i hi hk
    obtain ⟨k, rfl⟩ : ∃ m, k = m + 1 := ⟨k - 1, by omega⟩
    simp only [samphireref06_digits.l0]
    rw [if_neg (by omega), List.take_of_length_le (by rw [bys_length]; omega)]
  | succ d ih =>
    intro k i hi hk
    obtain ⟨k, rfl⟩ : ∃ m, k = m + 1 := ⟨k - 1, by omega⟩
    simp only [samphireref06_digits.l0]
    have h := ih k (i + 1) (by omega) (by omega)
    have hb := bys_lt s i
    rw [if_pos (by omega), if_pos (by omega), if_pos (by rw [ints_length, List.length_take]; omega), bt_nat s i (by omega), wr (((bys s).getD i 0 : Nat) : Int) (by omega) (by omega), wr ((i : Int) + 1) (by omega) (by omega)]
    have e : ints ((bys s).take i) ++ [(((bys s).getD i 0 : Nat) : Int)] = ints ((bys s).take (i + 1)) := by
      rw [List.take_succ_eq_append_getElem (by rw [bys_length]; omega), ints_append, List.getD_eq_getElem?_getD, List.getElem?_eq_getElem (by rw [bys_length]; omega)]; rfl
    rw [e]
    exact h
theorem digits_f (s : ByteArray) (hs : s.size ≤ 1000000) (k : Nat) (hk : s.size < k) : samphireref06_digits.f k s = some (ints (bys s)) :=
 digits_l0 s hs s.size k 0 (by omega) hk
theorem zero_l0 (l : List Nat) (hs : l.length ≤ 1000000) : ∀ d k i, i + d = l.length → d < k →
    samphireref06_zero.l0 k (ints l) (i : Int) = some (decide (dv (l.drop i) = 0)) := by
  intro d
  induction d with
  | zero =>
    intro k i hi hk
    obtain ⟨k, rfl⟩ : ∃ m, k = m + 1 := ⟨k - 1, by omega⟩
    simp only [samphireref06_zero.l0, ints_length]
    rw [if_neg (by omega), List.drop_eq_nil_of_le (by omega)]; rfl
  | succ d ih =>
    intro k i hi hk
    obtain ⟨k, rfl⟩ : ∃ m, k = m + 1 := ⟨k - 1, by omega⟩
    simp only [samphireref06_zero.l0, ints_length]
    have h := ih k (i + 1) (by omega) (by omega)
    rw [if_pos (by omega), if_pos (by omega), rd_ints, wr ((i : Int) + 1) (by omega) (by omega)]
    have e : dv (l.drop i) = l.getD i 0 + 256 * dv (l.drop (i + 1)) := by
      rw [List.drop_eq_getElem_cons (by omega), dv, List.getD_eq_getElem?_getD, List.getElem?_eq_getElem (by omega)]; rfl
    rw [e]
    by_cases hz : l.getD i 0 = 0
    · rw [if_pos (by omega), hz]
      refine h.trans ?_
      congr 1
      rw [decide_eq_decide]; omega
    · rw [if_neg (by omega), decide_eq_false (by omega)]
theorem zero_f (l : List Nat) (hs : l.length ≤ 1000000) (k : Nat) (hk : l.length < k) : samphireref06_zero.f k (ints l) = some (decide (dv l = 0)) :=
 zero_l0 l hs l.length k 0 (by omega) hk
theorem add_l0 (a b : List Nat) (n : Nat) (ha : ∀ i, a.getD i 0 ≤ 1000000) (hb : ∀ i, b.getD i 0 ≤ 1000000) (hn : n ≤ 1000000) (ha' : a.length ≤ 1000000) (hb' : b.length ≤ 1000000) : ∀ d k i, i + d = n → d + n + 1 < k →
    samphireref06_add.l0 k (ints a) (ints b) (n : Int) (ints (fil (fun j => a.getD j 0 + b.getD j 0) i n)) (i : Int) = some (ints (dig (dv a + dv b) n)) := by
  intro d
  induction d with
  | zero =>
    intro k i hi hk
    obtain ⟨k, rfl⟩ : ∃ m, k = m + 1 := ⟨k - 1, by omega⟩
    obtain rfl : i = n := by omega
    simp only [samphireref06_add.l0]
    rw [if_neg (by omega), carried_f _ _ ?_ hn (by rw [fil_length]; omega) k (by omega), Option.bind_some, fil_all]
    · congr 2
      apply dig_congr
      rw [dv_map_add, dv_map_get, dv_map_get, Nat.add_mod, dv_take_mod, dv_take_mod, ← Nat.add_mod]
    · intro j
      rw [fil_all, List.getD_eq_getElem?_getD, List.getElem?_map]
      have := ha j
      have := hb j
      by_cases hj : j < i
      · rw [List.getElem?_range hj]; simp only [Option.map_some, Option.getD_some]; omega
      · rw [List.getElem?_eq_none (by rw [List.length_range]; omega)]; simp
  | succ d ih =>
    intro k i hi hk
    obtain ⟨k, rfl⟩ : ∃ m, k = m + 1 := ⟨k - 1, by omega⟩
    simp only [samphireref06_add.l0, ints_length, fil_length]
    have h := ih k (i + 1) (by omega) (by omega)
    have g := fil_get (fun j => a.getD j 0 + b.getD j 0) i n
    have gs := fil_skip (fun j => a.getD j 0 + b.getD j 0) i (i + 1) n (by omega)
    have hA := ha i
    have hB := hb i
    rw [if_pos (by omega), rd_ints, rd_ints, rd_ints, g, wr ((i : Int) + 1) (by omega) (by omega), Int.toNat_natCast]
    rw [show ((i : Int) + 1) = ((i + 1 : Nat) : Int) from by omega]
    by_cases h1 : i < a.length
    · rw [if_pos (by omega), if_pos (by omega), if_pos (by omega), wr _ (by omega) (by omega), Option.bind_some]
      rw [show (((0 : Nat) : Int) + (a.getD i 0 : Nat)) = ((a.getD i 0 : Nat) : Int) from by omega, ints_set]
      by_cases h2 : i < b.length
      · rw [if_pos (by omega), rd_ints, List.getD_eq_getElem?_getD (l := List.set _ _ _), List.getElem?_set_self (by rw [fil_length]; omega), Option.getD_some, wr _ (by omega) (by omega), ← Int.natCast_add, ints_set, List.set_set, fil_set _ _ _ _ rfl]
        exact h
      · have hz : b.getD i 0 = 0 := by rw [List.getD_eq_getElem?_getD, List.getElem?_eq_none (by omega)]; rfl
        rw [if_neg (by omega), fil_set _ _ _ _ (by show a.getD i 0 + b.getD i 0 = _; rw [hz, Nat.add_zero])]
        exact h
    · have hz : a.getD i 0 = 0 := by rw [List.getD_eq_getElem?_getD, List.getElem?_eq_none (by omega)]; rfl
      rw [if_neg (by omega)]
      by_cases h2 : i < b.length
      · rw [if_pos (by omega), if_pos (by omega), if_pos (by omega), wr _ (by omega) (by omega)]
        rw [show (((0 : Nat) : Int) + (b.getD i 0 : Nat)) = ((b.getD i 0 : Nat) : Int) from by omega, ints_set, fil_set _ _ _ _ (by show a.getD i 0 + b.getD i 0 = _; rw [hz, Nat.zero_add])]
        exact h
      · have hz' : b.getD i 0 = 0 := by rw [List.getD_eq_getElem?_getD, List.getElem?_eq_none (by omega)]; rfl
        rw [if_neg (by omega), gs (by intro j j1 j2; have e : j = i := (by omega); subst e; show a.getD j 0 + b.getD j 0 = 0; rw [hz, hz'])]
        exact h
theorem add_f (a b : List Nat) (n : Nat) (ha : ∀ i, a.getD i 0 ≤ 1000000) (hb : ∀ i, b.getD i 0 ≤ 1000000) (hn : n ≤ 1000000) (ha' : a.length ≤ 1000000) (hb' : b.length ≤ 1000000) (k : Nat) (hk : 2 * n + 1 < k) :
  samphireref06_add.f k (ints a) (ints b) (n : Int) = some (ints (dig (dv a + dv b) n)) := by
 unfold samphireref06_add.f
 rw [if_pos (by omega), if_pos (by omega), Int.toNat_natCast, ints_zeros, ← fil_zero (fun j => a.getD j 0 + b.getD j 0)]
 exact add_l0 a b n ha hb hn ha' hb' n k 0 (by omega) (by omega)
theorem or64m : ∀ x : Nat, x < 64 → ∀ m : Nat, m < 4 → bits .or .i64 (x : Int) ((64 * m : Nat) : Int) = ((x + 64 * m : Nat) : Int) := by decide +kernel
def hiD (l : List Nat) (j : Nat) : Nat := l.getD (16 + j) 0 / 4 + 64 * (l.getD (17 + j) 0 % 4)
theorem hi_digit (l : List Nat) (h : ∀ i, l.getD i 0 < 256) (j : Nat) : dv l / 1361129467683753853853498429727072845824 / 256 ^ j % 256 = hiD l j := by
 have h1 := dv_digit l h (16 + j)
 have h2 := dv_digit l h (17 + j)
 have e1 : dv l / 1361129467683753853853498429727072845824 / 256 ^ j = dv l / 256 ^ (16 + j) / 4 := by
  rw [Nat.div_div_eq_div_mul, Nat.div_div_eq_div_mul, Nat.pow_add]; congr 1
  generalize 256 ^ j = x
  omega
 have e2 : dv l / 256 ^ (17 + j) = dv l / 256 ^ (16 + j) / 256 := by
  rw [show 17 + j = (16 + j) + 1 from by omega, Nat.pow_succ, Nat.div_div_eq_div_mul]
 rw [e2] at h2
 rw [e1]
 unfold hiD
 rw [← h1, ← h2]
 generalize dv l / 256 ^ (16 + j) = T
 omega
theorem getD_end {l : List Nat} {i : Nat} (h : l.length ≤ i) : l.getD i 0 = 0 := by rw [List.getD_eq_getElem?_getD, List.getElem?_eq_none h]; rfl
theorem getD_set_self {l : List Nat} {i v : Nat} (h : i < l.length) : (l.set i v).getD i 0 = v := by
 rw [List.getD_eq_getElem?_getD, List.getElem?_set_self h]; rfl
theorem high_l0 (l : List Nat) (hl : ∀ i, l.getD i 0 < 256) (h16 : 16 ≤ l.length) (hs : l.length ≤ 1000000) : ∀ d k i, (16 + i) + d = l.length → d < k →
    samphireref06_high.l0 k (ints l) (ints (fil (hiD l) i l.length)) ((16 + i : Nat) : Int) = some (ints (dig (dv l / 1361129467683753853853498429727072845824) l.length)) := by
  intro d
  induction d with
  | zero =>
    intro k i hi hk
    obtain ⟨k, rfl⟩ : ∃ m, k = m + 1 := ⟨k - 1, by omega⟩
    simp only [samphireref06_high.l0, ints_length]
    rw [if_neg (by omega), fil_skip (hiD l) i l.length l.length (by omega) (fun j j1 j2 => by
      unfold hiD; rw [getD_end (by omega), getD_end (by omega)]), fil_all]
    congr 2
    unfold dig
    apply List.map_congr_left
    intro j _
    exact (hi_digit l hl j).symm
  | succ d ih =>
    intro k i hi hk
    obtain ⟨k, rfl⟩ : ∃ m, k = m + 1 := ⟨k - 1, by omega⟩
    simp only [samphireref06_high.l0, ints_length, fil_length]
    have h := ih k (i + 1) (by omega) (by omega)
    rw [← fil_set (hiD l) i _ _ rfl] at h
    unfold hiD at h
    rw [show 16 + (i + 1) = 17 + i from by omega] at h
    have hA := hl (16 + i)
    have hB := hl (17 + i)
    have g := fil_get (hiD l) i l.length
    rw [if_pos (by omega), if_pos (by omega), wr (((16 + i : Nat) : Int) - 16) (by omega) (by omega), wr (((16 + i : Nat) : Int) + 1) (by omega) (by omega)]
    rw [show (((16 + i : Nat) : Int) - 16) = (i : Int) from by omega, show (((16 + i : Nat) : Int) + 1) = ((17 + i : Nat) : Int) from by omega, rd_ints, Int.toNat_natCast]
    rw [if_pos (by omega), if_pos (by omega), Option.bind_some, show (((l.getD (16 + i) 0 : Nat) : Int) / 4) = ((l.getD (16 + i) 0 / 4 : Nat) : Int) from by omega, ints_set]
    by_cases h1 : 17 + i < l.length
    · rw [if_pos (by omega), if_pos (by omega), rd_ints, rd_ints, getD_set_self (by rw [fil_length]; omega), wr _ (by omega) (by omega), show (((l.getD (17 + i) 0 : Nat) : Int) * 64) = ((l.getD (17 + i) 0 * 64 : Nat) : Int) from by omega, and255 _ (by omega)]
      rw [show l.getD (17 + i) 0 * 64 % 256 = 64 * (l.getD (17 + i) 0 % 4) from by omega, or64m _ (by omega) _ (by omega), ints_set, List.set_set]
      exact h
    · have hz := getD_end (l := l) (i := 17 + i) (by omega)
      rw [if_neg (by omega)]
      rw [hz] at h
      exact h
theorem high_f (l : List Nat) (hl : ∀ i, l.getD i 0 < 256) (h16 : 16 ≤ l.length) (hs : l.length ≤ 1000000) (k : Nat) (hk : l.length < k) :
  samphireref06_high.f k (ints l) = some (ints (dig (dv l / 1361129467683753853853498429727072845824) l.length)) := by
 unfold samphireref06_high.f
 rw [ints_length, if_pos (by omega), if_pos (by omega), Int.toNat_natCast, ints_zeros, ← fil_zero (hiD l)]
 exact high_l0 l hl h16 hs (l.length - 16) k 0 (by omega) (by omega)
theorem low_l0 (l : List Nat) (h17 : 17 ≤ l.length) (hl : ∀ i, l.getD i 0 < 256) : ∀ d k i, i + d = 17 → d < k →
    samphireref06_low.l0 k (ints l) (ints (fil (fun j => l.getD j 0) i 17)) (i : Int) = some (ints (dig (dv l % 1361129467683753853853498429727072845824) 17)) := by
  intro d
  induction d with
  | zero =>
    intro k i hi hk
    obtain ⟨k, rfl⟩ : ∃ m, k = m + 1 := ⟨k - 1, by omega⟩
    obtain rfl : i = 17 := by omega
    simp only [samphireref06_low.l0, ints_length, fil_length]
    rw [if_neg (by omega), if_pos (by omega)]
    have e : rd (ints (fil (fun j => l.getD j 0) 17 17)) 16 = ((l.getD 16 0 : Nat) : Int) := by
      rw [show (16 : Int) = ((16 : Nat) : Int) from rfl, rd_ints, fil_all, List.getD_eq_getElem?_getD]; rfl
    have e3 : bits .and .i64 ((l.getD 16 0 : Nat) : Int) 3 = ((l.getD 16 0 % 4 : Nat) : Int) := by
      have hx : ∀ x : Nat, x < 256 → bits .and .i64 (x : Int) 3 = ((x % 4 : Nat) : Int) := by decide +kernel
      exact hx _ (hl 16)
    rw [e, e3, show ((16 : Int).toNat) = 16 from rfl, ints_set]
    congr 2
    have hm : dv l % 1361129467683753853853498429727072845824 = dv (((List.range 16).map fun i => l.getD i 0) ++ [l.getD 16 0 % 4]) := by
      have h1 : dv l % 256 ^ 17 = dv ((List.range 17).map fun i => l.getD i 0) % 256 ^ 17 := by rw [dv_map_get, dv_take_mod]
      rw [dv_map_succ] at h1
      rw [dv_append, List.length_map, List.length_range]
      have h2 : dv ((List.range 16).map fun i => l.getD i 0) < 256 ^ 16 := by
        have := dv_lt ((List.range 16).map fun i => l.getD i 0) (by
          intro j
          rw [List.getD_eq_getElem?_getD, List.getElem?_map]
          have := hl j
          by_cases hj : j < 16
          · rw [List.getElem?_range hj]; simp only [Option.map_some, Option.getD_some]; omega
          · rw [List.getElem?_eq_none (by rw [List.length_range]; omega)]; simp)
        rw [List.length_map, List.length_range] at this
        exact this
      have h3 := hl 16
      generalize dv ((List.range 16).map fun i => l.getD i 0) = A at *
      generalize dv l = V at *
      have e1 : dv [l.getD 16 0 % 4] = l.getD 16 0 % 4 := by simp [dv]
      rw [e1]
      generalize l.getD 16 0 = x at *
      omega
    rw [hm, dig_dv' _ 17 _ rfl]
    · rw [fil_all]; rfl
    · intro j
      match j with
      | 0 | 1 | 2 | 3 | 4 | 5 | 6 | 7 | 8 | 9 | 10 | 11 | 12 | 13 | 14 | 15 => exact hl _
      | 16 => have := hl 16; show l.getD 16 0 % 4 < 256; omega
      | n + 17 => show 0 < 256; omega
  | succ d ih =>
    intro k i hi hk
    obtain ⟨k, rfl⟩ : ∃ m, k = m + 1 := ⟨k - 1, by omega⟩
    simp only [samphireref06_low.l0, ints_length, fil_length]
    have h := ih k (i + 1) (by omega) (by omega)
    rw [← fil_set _ i _ _ rfl] at h
    rw [if_pos (by omega), if_pos (by omega), if_pos (by omega), if_pos (by omega), rd_ints, Int.toNat_natCast, ints_set, wr _ (by omega) (by omega)]
    exact h
theorem low_f (l : List Nat) (h17 : 17 ≤ l.length) (hl : ∀ i, l.getD i 0 < 256) (k : Nat) (hk : 17 < k) :
  samphireref06_low.f k (ints l) = some (ints (dig (dv l % 1361129467683753853853498429727072845824) 17)) := by
 unfold samphireref06_low.f
 rw [if_pos (by omega), show (List.replicate 17 0 : List Int) = ints (fil (fun j => l.getD j 0) 0 17) from by rw [fil_zero]; rfl]
 exact low_l0 l h17 hl 17 k 0 (by omega) (by omega)
theorem dv_set (l : List Nat) (i x : Nat) (h : i < l.length) : dv (l.set i (l.getD i 0 + x)) = dv l + 256 ^ i * x := by
  induction l generalizing i with
  | nil => simp at h
  | cons y l ih =>
    cases i with
    | zero => simp [dv]; omega
    | succ i =>
      have := ih i (by simpa using h)
      simp only [List.set_cons_succ, List.getD_cons_succ, dv, this, Nat.pow_succ]
      grind
theorem getD_set (l : List Nat) (i v m : Nat) : (l.set i v).getD m 0 ≤ max (l.getD m 0) v := by
 rw [List.getD_eq_getElem?_getD, List.getD_eq_getElem?_getD, List.getElem?_set]
 split
 ·split
  ·simp only [Option.getD_some]; exact Nat.le_max_right _ _
  ·simp
 ·exact Nat.le_max_left _ _
theorem times_l1 (a b : List Nat) (ha : ∀ i, a.getD i 0 < 256) (hb : ∀ i, b.getD i 0 < 256) (hal : a.length ≤ 50) (hbl : b.length ≤ 50) (i : Nat) (hi : i < a.length) (V E : Nat) (hE : E ≤ 1000000000) : ∀ d k j out, j + d = b.length → d < k → out.length = a.length + b.length + 1 → (∀ m, out.getD m 0 ≤ E + 65025 * j) → dv out = V + 256 ^ i * a.getD i 0 * dv (b.take j) →
    ∃ out', out'.length = a.length + b.length + 1 ∧ (∀ m, out'.getD m 0 ≤ E + 65025 * b.length) ∧ dv out' = V + 256 ^ i * a.getD i 0 * dv b ∧
      samphireref06_times.l1 k (ints a) (ints b) (ints out) (i : Int) (j : Int) = samphireref06_times.l0 (k - (d + 1)) (ints a) (ints b) (ints out') ((i + 1 : Nat) : Int) := by
  intro d
  induction d with
  | zero =>
    intro k j out hj hk ho hm hv
    obtain ⟨k, rfl⟩ : ∃ m, k = m + 1 := ⟨k - 1, by omega⟩
    obtain rfl : j = b.length := by omega
    refine ⟨out, ho, hm, ?_, ?_⟩
    · rw [hv, List.take_of_length_le (Nat.le_refl _)]
    · simp only [samphireref06_times.l1, ints_length]
      rw [if_neg (by omega), wr ((i : Int) + 1) (by omega) (by omega)]
      rfl
  | succ d ih =>
    intro k j out hj hk ho hm hv
    obtain ⟨k, rfl⟩ : ∃ m, k = m + 1 := ⟨k - 1, by omega⟩
    have hA := ha i
    have hB := hb j
    have hp : a.getD i 0 * b.getD j 0 ≤ 65025 := by
      have := Nat.mul_le_mul (show a.getD i 0 ≤ 255 by omega) (show b.getD j 0 ≤ 255 by omega)
      omega
    have hO := hm (i + j)
    obtain ⟨out', h1, h2, h3, h4⟩ := ih k (j + 1) (out.set (i + j) (out.getD (i + j) 0 + a.getD i 0 * b.getD j 0)) (by omega) (by omega) (by rw [List.length_set]; exact ho) (by
      intro m
      have := getD_set out (i + j) (out.getD (i + j) 0 + a.getD i 0 * b.getD j 0) m
      have := hm m
      omega) (by
      rw [dv_set _ _ _ (by omega), hv, dv_take_succ, Nat.pow_add]
      grind)
    refine ⟨out', h1, h2, h3, ?_⟩
    rw [show k + 1 - (d + 1 + 1) = k - (d + 1) from by omega, ← h4]
    simp only [samphireref06_times.l1, ints_length]
    rw [if_pos (by omega), wr ((i : Int) + (j : Int)) (by omega) (by omega), show ((i : Int) + (j : Int)) = ((i + j : Nat) : Int) from by omega, rd_ints, rd_ints, rd_ints, Int.toNat_natCast, wr ((j : Int) + 1) (by omega) (by omega)]
    rw [← Int.natCast_mul, wr ((a.getD i 0 * b.getD j 0 : Nat) : Int) (by omega) (by omega), ← Int.natCast_add, wr ((out.getD (i + j) 0 + a.getD i 0 * b.getD j 0 : Nat) : Int) (by omega) (by omega), ints_set]
    rw [if_pos (by omega), if_pos (by rw [ho]; omega), if_pos (by omega), if_pos (by omega), if_pos (by omega)]
    rfl
theorem times_l0 (a b : List Nat) (ha : ∀ i, a.getD i 0 < 256) (hb : ∀ i, b.getD i 0 < 256) (hal : a.length ≤ 50) (hbl : b.length ≤ 50) : ∀ d k i out, i + d = a.length → 60 * d + 200 ≤ k → out.length = a.length + b.length + 1 → (∀ m, out.getD m 0 ≤ 4000000 * i) → dv out = dv (a.take i) * dv b →
    samphireref06_times.l0 k (ints a) (ints b) (ints out) (i : Int) = some (ints (dig (dv a * dv b) (a.length + b.length + 1))) := by
  intro d
  induction d with
  | zero =>
    intro k i out hi hk ho hm hv
    obtain ⟨k, rfl⟩ : ∃ m, k = m + 1 := ⟨k - 1, by omega⟩
    obtain rfl : i = a.length := by omega
    simp only [samphireref06_times.l0, ints_length]
    rw [if_neg (by omega), carried_f out out.length (fun m => by have := hm m; omega) (by omega) (by omega) k (by omega), hv, List.take_of_length_le (Nat.le_refl _), ho]
    rfl
  | succ d ih =>
    intro k i out hi hk ho hm hv
    obtain ⟨k, rfl⟩ : ∃ m, k = m + 1 := ⟨k - 1, by omega⟩
    obtain ⟨out', h1, h2, h3, h4⟩ := times_l1 a b ha hb hal hbl i (by omega) (dv (a.take i) * dv b) (4000000 * i) (by omega) b.length k 0 out (by omega) (by omega) ho (fun m => by have := hm m; omega) (by rw [hv, List.take_zero]; simp [dv])
    simp only [samphireref06_times.l0, ints_length]
    rw [if_pos (by omega)]
    refine h4.trans ?_
    refine ih _ (i + 1) out' (by omega) (by omega) h1 (fun m => by have := h2 m; omega) ?_
    rw [h3, dv_take_succ, Nat.add_mul]
theorem times_f (a b : List Nat) (ha : ∀ i, a.getD i 0 < 256) (hb : ∀ i, b.getD i 0 < 256) (hal : a.length ≤ 50) (hbl : b.length ≤ 50) (k : Nat) (hk : 60 * a.length + 200 ≤ k) :
  samphireref06_times.f k (ints a) (ints b) = some (ints (dig (dv a * dv b) (a.length + b.length + 1))) := by
 unfold samphireref06_times.f
 rw [ints_length, ints_length, ← Int.natCast_add, wr ((a.length + b.length : Nat) : Int) (by omega) (by omega), wr (((a.length + b.length : Nat) : Int) + 1) (by omega) (by omega)]
 rw [show (((a.length + b.length : Nat) : Int) + 1) = ((a.length + b.length + 1 : Nat) : Int) from by omega, Int.toNat_natCast, if_pos (by omega), if_pos (by omega), ints_zeros]
 refine times_l0 a b ha hb hal hbl a.length k 0 _ (by omega) (by omega) (by rw [List.length_replicate]) (fun m => by rw [zeros_get]; omega) ?_
 have : ∀ n, dv (List.replicate n 0) = 0 := by
  intro n
  induction n with
  | zero => rfl
  | succ n ih => rw [List.replicate_succ, dv, ih]
 rw [this, List.take_zero]; simp [dv]
theorem red_end (l : List Nat) (hl : ∀ i, l.getD i 0 < 256) (h17 : 17 ≤ l.length) (h40 : l.length ≤ 40) (hv : dv l < 1361129467683753853853498429727072845824) (c k : Nat) (hc : c ≤ 40) (hk : 500 ≤ k) :
  samphireref06_reduced.l0 k (ints l) (c : Int) = some (ints (dig (dv l % 1361129467683753853853498429727072845819) 17)) := by
 obtain ⟨k, rfl⟩ : ∃ m, k = m + 1 + 1 := ⟨k - 2, by omega⟩
 have hj : samphireref06_reduced.j1 (k + 1) (ints l) (c : Int) false = some (ints (dig (dv l % 1361129467683753853853498429727072845819) 17)) := by
  simp only [samphireref06_reduced.j1]
  have e5 : ([5] : List Int) = ints [5] := rfl
  have d5 : dv [5] = 5 := rfl
  rw [if_neg (by decide), e5, show (40 : Int) = ((40 : Nat) : Int) from rfl, add_f l [5] 40 (fun i => by have := hl i; omega) (fun i => by match i with | 0 => decide | i + 1 => simp) (by omega) (by omega) (by decide) k (by omega), Option.bind_some, d5]
  rw [high_f _ (dig_lt _ _) (by rw [dig_length]; omega) (by rw [dig_length]; omega) k (by rw [dig_length]; omega), Option.bind_some]
  rw [zero_f _ (by rw [dig_length, dig_length]; omega) k (by rw [dig_length, dig_length]; omega), Option.bind_some]
  rw [dv_dig, dv_dig, dig_length, Nat.mod_eq_of_lt (show dv l + 5 < 256 ^ 40 by omega), Nat.mod_eq_of_lt (show (dv l + 5) / 1361129467683753853853498429727072845824 < 256 ^ 40 by omega)]
  by_cases hz : (dv l + 5) / 1361129467683753853853498429727072845824 = 0
  ·rw [if_pos (decide_eq_true hz), low_f l h17 hl k (by omega), Option.bind_some]
   congr 3
   omega
  ·rw [if_neg (by rw [decide_eq_false hz]; decide), low_f _ (by rw [dig_length]; omega) (dig_lt _ _) k (by omega), Option.bind_some, dv_dig, Nat.mod_eq_of_lt (show dv l + 5 < 256 ^ 40 by omega)]
   congr 3
   omega
 simp only [samphireref06_reduced.l0]
 by_cases h : c < 40
 ·rw [if_pos (by omega), high_f l hl (by omega) (by omega) (k + 1) (by omega), Option.bind_some, zero_f _ (by rw [dig_length]; omega) (k + 1) (by rw [dig_length]; omega), Option.bind_some, dv_dig]
  rw [decide_eq_true (by rw [Nat.div_eq_of_lt hv]; exact Nat.zero_mod _)]
  exact hj
 ·rw [if_neg (by omega)]
  exact hj
theorem red_step (l : List Nat) (hl : ∀ i, l.getD i 0 < 256) (h17 : 17 ≤ l.length) (h40 : l.length ≤ 40) (hv : 1361129467683753853853498429727072845824 ≤ dv l) (c k : Nat) (hc : c < 40) (hk : 500 ≤ k) :
  samphireref06_reduced.l0 (k + 2) (ints l) (c : Int) = samphireref06_reduced.l0 k (ints (dig (dv l % 1361129467683753853853498429727072845824 + 5 * (dv l / 1361129467683753853853498429727072845824)) 40)) ((c + 1 : Nat) : Int) := by
 have hV := dv_lt l hl
 have hp : 256 ^ l.length ≤ 256 ^ 40 := Nat.pow_le_pow_right (by decide) h40
 have e5 : ([5] : List Int) = ints [5] := rfl
 have d5 : dv [5] = 5 := rfl
 have hh : dv (dig (dv l / 1361129467683753853853498429727072845824) l.length) = dv l / 1361129467683753853853498429727072845824 := by
  rw [dv_dig, Nat.mod_eq_of_lt (Nat.lt_of_le_of_lt (Nat.div_le_self _ _) hV)]
 have hz : ¬ dv (dig (dv l / 1361129467683753853853498429727072845824) l.length) = 0 := by rw [hh]; omega
 simp only [samphireref06_reduced.l0]
 rw [if_pos (by omega), high_f l hl (by omega) (by omega) (k + 1) (by omega), Option.bind_some, zero_f _ (by rw [dig_length]; omega) (k + 1) (by rw [dig_length]; omega), Option.bind_some, decide_eq_false hz]
 simp only [samphireref06_reduced.j1]
 rw [if_pos (by decide), low_f l h17 hl k (by omega), Option.bind_some, high_f l hl (by omega) (by omega) k (by omega), Option.bind_some, e5]
 rw [times_f [5] _ (fun i => by match i with | 0 => decide | i + 1 => simp) (dig_lt _ _) (by decide) (by rw [dig_length]; omega) k (by show 60 * 1 + 200 ≤ k; omega), Option.bind_some]
 rw [show (40 : Int) = ((40 : Nat) : Int) from rfl, add_f _ _ 40 (fun i => by have := dig_lt (dv l % 1361129467683753853853498429727072845824) 17 i; omega) (fun i => by have := dig_lt (dv [5] * dv (dig (dv l / 1361129467683753853853498429727072845824) l.length)) ([5].length + (dig (dv l / 1361129467683753853853498429727072845824) l.length).length + 1) i; omega) (by omega) (by rw [dig_length]; omega) (by rw [dig_length, dig_length]; show 1 + l.length + 1 ≤ _; omega) k (by omega), Option.bind_some]
 rw [hh, d5, dv_dig, dv_dig, dig_length, wr ((c : Int) + 1) (by omega) (by omega)]
 have m1 : dv l % 1361129467683753853853498429727072845824 % 256 ^ 17 = dv l % 1361129467683753853853498429727072845824 := Nat.mod_eq_of_lt (by have := Nat.mod_lt (dv l) (show 1361129467683753853853498429727072845824 > 0 by decide); omega)
 have m2 : 5 * (dv l / 1361129467683753853853498429727072845824) % 256 ^ ([5].length + l.length + 1) = 5 * (dv l / 1361129467683753853853498429727072845824) := by
  apply Nat.mod_eq_of_lt
  have e : 256 ^ ([5].length + l.length + 1) = 256 ^ l.length * 65536 := by rw [show [5].length + l.length + 1 = l.length + 2 from by simp; omega, Nat.pow_add]
  rw [e]
  generalize 256 ^ l.length = q at *
  omega
 rw [m1, m2]
 rfl
def RedTo (B m : Nat) : Prop := ∀ (l : List Nat), (∀ i, l.getD i 0 < 256) → 17 ≤ l.length → l.length ≤ 40 → dv l < B → ∀ (c k : Nat), c + m ≤ 40 → 500 + 2 * m ≤ k →
  samphireref06_reduced.l0 k (ints l) (c : Int) = some (ints (dig (dv l % 1361129467683753853853498429727072845819) 17))
theorem red_more (B B' m : Nat) (h : RedTo B m) (hB : ∀ V, V < B' → V % 1361129467683753853853498429727072845824 + 5 * (V / 1361129467683753853853498429727072845824) < B) (hs : B < 256 ^ 40) : RedTo B' (m + 1) := by
 intro l hl h17 h40 hv c k hc hk
 by_cases hV : dv l < 1361129467683753853853498429727072845824
 ·exact red_end l hl h17 h40 hV c k (by omega) (by omega)
 ·obtain ⟨k, rfl⟩ : ∃ n, k = n + 2 := ⟨k - 2, by omega⟩
  rw [red_step l hl h17 h40 (by omega) c k (by omega) (by omega)]
  have hW := hB _ hv
  have e1 : (dv l % 1361129467683753853853498429727072845824 + 5 * (dv l / 1361129467683753853853498429727072845824)) % 1361129467683753853853498429727072845819 = dv l % 1361129467683753853853498429727072845819 := by
   have : dv l = (dv l % 1361129467683753853853498429727072845824 + 5 * (dv l / 1361129467683753853853498429727072845824)) + 1361129467683753853853498429727072845819 * (dv l / 1361129467683753853853498429727072845824) := by omega
   conv => rhs; rw [this]
   rw [Nat.add_mul_mod_self_left]
  rw [← e1]
  generalize dv l % 1361129467683753853853498429727072845824 + 5 * (dv l / 1361129467683753853853498429727072845824) = W at *
  have e2 : dv (dig W 40) = W := by rw [dv_dig, Nat.mod_eq_of_lt (by omega)]
  have := h (dig W 40) (dig_lt _ _) (by rw [dig_length]; omega) (by rw [dig_length]; omega) (by omega) (c + 1) k (by omega) (by omega)
  rw [e2] at this
  exact this
theorem reduced_f (l : List Nat) (hl : ∀ i, l.getD i 0 < 256) (h17 : 17 ≤ l.length) (h40 : l.length ≤ 40) (hv : dv l < 256 ^ 35) (k : Nat) (hk : 510 ≤ k) :
  samphireref06_reduced.f k (ints l) = some (ints (dig (dv l % 1361129467683753853853498429727072845819) 17)) := by
 have r0 : RedTo 1361129467683753853853498429727072845824 0 := fun l hl h17 h40 hv c k hc hk => red_end l hl h17 h40 hv c k (by omega) (by omega)
 have r1 : RedTo 2041694201525630780780247644590609268736 1 := red_more _ _ 0 r0 (by intro V h; omega) (by decide)
 have r2 : RedTo (256 ^ 20) 2 := red_more _ _ 1 r1 (by intro V h; omega) (by decide)
 have r3 : RedTo (256 ^ 35) 3 := red_more _ _ 2 r2 (by intro V h; omega) (by decide)
 exact r3 l hl h17 h40 hv 0 k (by omega) (by omega)
end Go.Proofs.YtbkbganflnemeaaGreat.Pr
end

/- Joined texts (pack.py): what the statement's proof needs, part 4. No condition. -/
import Derived.Below
import Derived.Deep.Draws
import Derived.Deep.AppendLies
import Derived.Maps.AppendAt
import Derived.OwnWalk
import Derived.Laws.BytesArg
import Derived.Laws.MakeOwn
import Derived.Laws.OwnMore
import Derived.Deep.OwnRows
import Derived.Tactics
import Derived.Lib.ConvBytes
import Derived.Laws.Slices
import Derived.WalkKit
import Derived.KernelRfl
import Derived.RowKit3
import Derived.Deep.LoopGhost
import Derived.Deep.QuietTactic
import Derived.BigQuiet
import Derived.WideLaws
import Derived.Deep.DeepCutAuto
import Derived.Deep.CutBlock
import Derived.Deep.RegionHeld3
import Derived.Laws.Rows
import Derived.Lib.AppendStr
import Derived.ArgAppend
import Derived.Laws.IdiomCopy
import Derived.RowKit
import Derived.OrdersHeld
import Derived.Laws.BitsLemmas
import Derived.Laws.StructEq
import Derived.Test.YtbkbganflnemeaaRows
import Derived.ProofKit
import Derived.OpenShut
import Derived.ShutString
import Derived.ChangeOld
import Derived.Shelf.Strings.Builder1
import Derived.Shelf.Strings.Builder2
import Derived.Shelf.Strings.OnBuilder
import Derived.Shelf.Strings.BuilderF
import Derived.Shelf.Strings.Prefix
import Derived.Shelf.Bits.Mul64
import Derived.Shelf.Strings.Repeat
import Derived.Test.YtbkbganflnemeaaProg
import Derived.Deep.RegionLaw
import Derived.StillTailTactics
import Derived.Deep.Light
import Derived.Deep.RegionHeldLaw
import Derived.Deep.DrawnRows
import Derived.IntWalk
import Derived.Deep.WholeRow
import Derived.Laws.CopyOwn
import Derived.ChangeKeysEq
import Derived.SizedLaws
import Derived.Test.YtbkbganflnemeaaZN1
import Derived.Test.YtbkbganflnemeaaZN2
import Derived.Test.YtbkbganflnemeaaZN3
set_option linter.unusedVariables false
set_option linter.unusedSimpArgs false
section
namespace Go.Proofs.Ytbkbganflnemeaa.Pr
open Go.RowKit Go.Proofs.YtbkbganflnemeaaW.PrintWords Go.Proofs.YtbkbganflnemeaaW.PrintLast Go.Proofs.YtbkbganflnemeaaW.PrintMore
attribute [local go_sem] max2_int min2_int max_two min_two max_three min_three max_four min_four
def samphireref15_Nonce.j0 : Nat → Int → Int → Bool → Option (ByteArray × Int)
 | 0, _, _, _ => none
 | k + 1, x0, x1, x15 => if x15 = true then (some ((⟨#[]⟩ : ByteArray), 1)) else (if x1 > 1099511627775 then (some ((⟨#[]⟩ : ByteArray), 150)) else ((some (([(x0) % 256] : List Int) : List Int)).bind fun y128 => (if 5 ≤ 281474976710656 then ((some (List.replicate 5 0 : List Int)).bind fun y131 => (if (strOfNums y128).size + (strOfNums y131).size ≤ 9223372036854775807 then ((samphireref15_number.f k x1).bind fun t134 => (if ((strOfNums y128) ++ (strOfNums y131)).size + t134.size ≤ 9223372036854775807 then (some (((strOfNums y128) ++ (strOfNums y131)) ++ t134, 0)) else (none))) else (none))) else (none))))
def samphireref15_Nonce.f (k : Nat) (a0 : Int) (a1 : Int) : Option (ByteArray × Int) := if a0 < 0 then (samphireref15_Nonce.j0 k a0 a1 true) else (if a0 > 6 then (samphireref15_Nonce.j0 k a0 a1 true) else (samphireref15_Nonce.j0 k a0 a1 (decide (a1 < 0))))
def samphireref15_Nonce.T5 : Bool × List (List Nat × List Nat) := (true, [([], []), ([0], [0]), ([1], [1]), ([2], [2]), ([], []), ([4], [4]), ([3, 5], [3, 5]), ([], []), ([7], [7]), ([6, 8], [6, 8]), ([9, 8, 0, 1, 2, 3, 4, 5, 6, 7, 8, 9], [9]), ([10, 0, 1, 2, 3, 4, 5, 6, 7, 8, 9, 10], [])])
def samphireref15_Nonce.B5 : List Nat := [0, 1, 3, 7, 0, 16, 63, 0, 128, 511, 1023, 2047]
theorem samphireref15_Nonce.tab5 : rtab .any (opsOf Try.f15 5) = samphireref15_Nonce.T5 := by kernel_rfl
theorem samphireref15_Nonce.bits5 : waitsOk samphireref15_Nonce.T5.2 samphireref15_Nonce.B5 = true := by kernel_rfl
set_option maxHeartbeats 8000000 in
set_option maxRecDepth 100000 in
theorem samphireref15_Nonce.calls (k : Nat) (a0 : Int) (a1 : Int) (r1 : ByteArray) (r2 : Int) (w : World) (h : samphireref15_Nonce.f k a0 a1 = some (r1, r2)) :
    Calls Try.prog 15 #[.int .i64 a0, .int .i64 a1] w fun e w' => e = .returned (.tuple #[.string r1, .int .i64 r2]) ∧ Below w.heap.size w w' := by
  have HB := Aside0.mk (Below.refl w.heap.size w); have H : (if a0 < 0 then (samphireref15_Nonce.j0 k a0 a1 true) else (if a0 > 6 then (samphireref15_Nonce.j0 k a0 a1 true) else (samphireref15_Nonce.j0 k a0 a1 (decide (a1 < 0))))) = some (r1, r2) := h; clear h; have HC3 := Aside0.mk H; clear H; go_enter Try.func15, Try.ntmps15
  go_upto_region 1 with (fail)
  go_cut [15] (fun v15 wc => ∃ (kq : Nat) (x15_2 : Bool), v15 = .bool x15_2 ∧ Aside0 (samphireref15_Nonce.j0 kq a0 a1 x15_2 = some (r1, r2)) ∧ Aside0 (kq ≤ k) ∧ Aside0 (Below w.heap.size w wc))
  case first =>
    have H := HC3.out; clear HC3; by_cases c4 : a0 < 0
    · rw [if_pos c4] at H; have c4b0 : decide (a0 < 0) = true := decide_eq_true c4; clear c4
      (first | rw [c4b0] | (simp only [i64_w, i32_w]; rw [c4b0]) | skip)
      have H' := Aside0.mk H; clear H; go_wp2; go_meet
      case rel => exact ⟨_, (true), rz_, H', ⟨by first | omega | exact Nat.le_refl _⟩, ⟨hb_⟩⟩
    · rw [if_neg c4] at H; have c4b0 : decide (a0 < 0) = false := decide_eq_false c4; clear c4
      (first | rw [c4b0] | (simp only [i64_w, i32_w]; rw [c4b0]) | skip)
      by_cases c5 : a0 > 6
      · rw [if_pos c5] at H; have c5b0 : decide (6 < a0) = true := decide_eq_true c5; clear c5; have H' := Aside0.mk H; clear H; go_wp2; go_meet
        case rel => exact ⟨_, (true), rz_, H', ⟨by first | omega | exact Nat.le_refl _⟩, ⟨hb_⟩⟩
      · rw [if_neg c5] at H; have c5b0 : decide (6 < a0) = false := decide_eq_false c5; clear c5; have H' := Aside0.mk H; clear H; go_wp2; go_meet
        case rel => exact ⟨_, (decide (a1 < 0)), rz_, H', ⟨by first | omega | exact Nat.le_refl _⟩, ⟨hb_⟩⟩
  case rest =>
    clear HC3; obtain ⟨kq, x15_2, rfl, HA, HJ2, HB⟩ := hcut; cases kq with
    | zero => exact absurd HA.out (by simp [samphireref15_Nonce.j0])
    | succ kj2 =>
      have H := HA.out; clear HA; simp only [samphireref15_Nonce.j0] at H; by_cases c6 : x15_2 = true
      · subst c6; have H1 : (some ((⟨#[]⟩ : ByteArray), 1)) = some (r1, r2) := by rw [if_pos rfl] at H; exact H
        clear H; have H := H1; clear H1; simp only [Option.some.injEq, Prod.mk.injEq] at H; obtain ⟨rfl, rfl⟩ := H; go_wp2; go_ret2
        exact ⟨ew_, hb_⟩
      · replace c6 := Bool.eq_false_iff.mpr c6; subst c6; have H1 : (if a1 > 1099511627775 then (some ((⟨#[]⟩ : ByteArray), 150)) else ((some (([(a0) % 256] : List Int) : List Int)).bind fun y128 => (if 5 ≤ 281474976710656 then ((some (List.replicate 5 0 : List Int)).bind fun y131 => (if (strOfNums y128).size + (strOfNums y131).size ≤ 9223372036854775807 then ((samphireref15_number.f kj2 a1).bind fun t134 => (if ((strOfNums y128) ++ (strOfNums y131)).size + t134.size ≤ 9223372036854775807 then (some (((strOfNums y128) ++ (strOfNums y131)) ++ t134, 0)) else (none))) else (none))) else (none)))) = some (r1, r2) := by rw [if_neg (show ¬ (false = true) by decide)] at H; exact H
        clear H; have H := H1; clear H1; by_cases c7 : a1 > 1099511627775
        · rw [if_pos c7] at H; have c7b0 : decide (1099511627775 < a1) = true := decide_eq_true c7; clear c7; simp only [Option.some.injEq, Prod.mk.injEq] at H; obtain ⟨rfl, rfl⟩ := H; go_wp2; go_ret2
          exact ⟨ew_, hb_⟩
        · rw [if_neg c7] at H; have c7b0 : decide (1099511627775 < a1) = false := decide_eq_false c7; clear c7; obtain ⟨y128, hy128⟩ : ∃ y_ : List Int, y_ = (([(a0) % 256] : List Int)) := ⟨_, rfl⟩; replace H : (if 5 ≤ 281474976710656 then ((some (List.replicate 5 0 : List Int)).bind fun y131 => (if (strOfNums y128).size + (strOfNums y131).size ≤ 9223372036854775807 then ((samphireref15_number.f kj2 a1).bind fun t134 => (if ((strOfNums y128) ++ (strOfNums y131)).size + t134.size ≤ 9223372036854775807 then (some (((strOfNums y128) ++ (strOfNums y131)) ++ t134, 0)) else (none))) else (none))) else (none)) = some (r1, r2) := by first | (rw [hy128]; with_reducible exact H) | (have H2_ := (Option.bind_some _ _).symm.trans H; rw [hy128]; with_reducible exact H2_) | (have H2_ := (Option.bind_some _ _).symm.trans H; with_reducible exact H2_) | with_reducible exact H | (rw [hy128]; exact H) | exact H
          have Ny128 := Aside0.mk hy128; clear hy128; by_cases c8 : 5 ≤ 281474976710656
          · rw [if_pos c8] at H; have c8b0 := eq_true c8; have c8b1 : decide (5 ≤ 281474976710656) = true := decide_eq_true c8; clear c8; obtain ⟨y131, hy131⟩ : ∃ y_ : List Int, y_ = (List.replicate 5 0) := ⟨_, rfl⟩; replace H : (if (strOfNums y128).size + (strOfNums y131).size ≤ 9223372036854775807 then ((samphireref15_number.f kj2 a1).bind fun t134 => (if ((strOfNums y128) ++ (strOfNums y131)).size + t134.size ≤ 9223372036854775807 then (some (((strOfNums y128) ++ (strOfNums y131)) ++ t134, 0)) else (none))) else (none)) = some (r1, r2) := by first | (rw [hy131]; with_reducible exact H) | (have H2_ := (Option.bind_some _ _).symm.trans H; rw [hy131]; with_reducible exact H2_) | (have H2_ := (Option.bind_some _ _).symm.trans H; with_reducible exact H2_) | with_reducible exact H | (rw [hy131]; exact H) | exact H
            have Ny131 := Aside0.mk hy131; clear hy131; by_cases c9 : (strOfNums y128).size + (strOfNums y131).size ≤ 9223372036854775807
            · rw [if_pos c9] at H; have c9b0 := eq_true c9; have c9b1 : decide ((strOfNums y128).size + (strOfNums y131).size ≤ 9223372036854775807) = true := decide_eq_true c9; try have c9b2 : (9223372036854775807 < (strOfNums y128).size + (strOfNums y131).size) = False := eq_false (Nat.not_lt.2 c9)
              replace H := Option.bind_eq_some_iff.mp H; obtain ⟨t134, A100, H⟩ := H; have A10 := Aside0.mk A100; clear A100; by_cases c11 : ((strOfNums y128) ++ (strOfNums y131)).size + t134.size ≤ 9223372036854775807
              · rw [if_pos c11] at H; have c11b0 := eq_true c11; have c11b1 : decide (((strOfNums y128) ++ (strOfNums y131)).size + t134.size ≤ 9223372036854775807) = true := decide_eq_true c11; try have c11b2 : (9223372036854775807 < ((strOfNums y128) ++ (strOfNums y131)).size + t134.size) = False := eq_false (Nat.not_lt.2 c11)
                try (have c11b3 := c11b2; simp only [ByteArray.size_append] at c11b3)
                simp only [Option.some.injEq, Prod.mk.injEq] at H; obtain ⟨rfl, rfl⟩ := H; try go_wp2
                replace HB := Aside0.mk (below_drew1 HB.out); refine start_ (n := 12) (S := fun w' => True) (ds := []) #[false, false, false, false, false, false, false, false, false, false, false, false] (by kernel_rfl) rfl rfl trivial (fun hHeld => ?_); refine with_tabW samphireref15_Nonce.tab5 samphireref15_Nonce.bits5 (fun HT_ HW_ => ?_); generalize wc.drew = w12 at HB hHeld ⊢; refine pz_ 0 18 rfl rfl (any_of HT_.out (by kernel_rfl)) ?_; refine pz_ 1 19 rfl rfl (any_of HT_.out (by kernel_rfl)) ?_; refine pz_ 7 25 rfl rfl (any_of HT_.out (by kernel_rfl)) ?_; refine join_ (σ := Value × Value) 3 #[true, true, true, true, true, true, true, true, true, false, false, false] (fun s_ => [(20, s_.1), (21, .string (strOfNums y128)), (22, s_.2), (23, .string (strOfNums y131)), (26, .string t134), (24, .string ((strOfNums y128) ++ (strOfNums y131)))]) (fun s_ w' => (Kd.R (Kd.int .u8) 5 w' w.heap.size (fun k_ => some k_ ≠ (s_.2 : Value).ownBlock) s_.1 y128) ∧ (Kd.R (Kd.int .u8) 5 w' w.heap.size (fun k_ => some k_ ≠ (s_.1 : Value).ownBlock) s_.2 y131) ∧ (Below w.heap.size w w')) ?_ ?_; rotate_left
                · intro hJ2_3_4_5_8; refine join_ (σ := Value × Value) 4 #[true, true, true, true, true, true, true, true, false, false, false, false] (fun s_ => [(20, s_.1), (21, .string (strOfNums y128)), (22, s_.2), (23, .string (strOfNums y131)), (24, .string ((strOfNums y128) ++ (strOfNums y131)))]) (fun s_ w' => (Kd.R (Kd.int .u8) 5 w' w.heap.size (fun k_ => some k_ ≠ (s_.2 : Value).ownBlock) s_.1 y128) ∧ (Kd.R (Kd.int .u8) 5 w' w.heap.size (fun k_ => some k_ ≠ (s_.1 : Value).ownBlock) s_.2 y131) ∧ (Below w.heap.size w w')) ?_ ?_; rotate_left
                  · intro hJ2_3_4_5; refine join_ (σ := Value × Value) 5 #[true, true, true, true, true, false, false, true, true, false, false, false] (fun s_ => [(20, s_.1), (21, .string (strOfNums y128)), (22, s_.2), (26, .string t134)]) (fun s_ w' => (Kd.R (Kd.int .u8) 5 w' w.heap.size (fun k_ => some k_ ≠ (s_.2 : Value).ownBlock) s_.1 y128) ∧ (Kd.R (Kd.int .u8) 5 w' w.heap.size (fun k_ => some k_ ≠ (s_.1 : Value).ownBlock) s_.2 y131) ∧ (Below w.heap.size w w')) ?_ ?_; rotate_left
                    · intro hJ2_3_4_8; refine join_ (σ := Value × Value) 5 #[true, true, true, false, true, true, false, true, true, false, false, false] (fun s_ => [(20, s_.1), (22, s_.2), (23, .string (strOfNums y131)), (26, .string t134)]) (fun s_ w' => (Kd.R (Kd.int .u8) 5 w' w.heap.size (fun k_ => some k_ ≠ (s_.2 : Value).ownBlock) s_.1 y128) ∧ (Kd.R (Kd.int .u8) 5 w' w.heap.size (fun k_ => some k_ ≠ (s_.1 : Value).ownBlock) s_.2 y131) ∧ (Below w.heap.size w w')) ?_ ?_; rotate_left
                      · intro hJ2_4_5_8; refine join_ (σ := Value × Value) 6 #[true, true, true, true, true, false, false, true, false, false, false, false] (fun s_ => [(20, s_.1), (21, .string (strOfNums y128)), (22, s_.2)]) (fun s_ w' => (Kd.R (Kd.int .u8) 5 w' w.heap.size (fun k_ => some k_ ≠ (s_.2 : Value).ownBlock) s_.1 y128) ∧ (Kd.R (Kd.int .u8) 5 w' w.heap.size (fun k_ => some k_ ≠ (s_.1 : Value).ownBlock) s_.2 y131) ∧ (Below w.heap.size w w')) ?_ ?_; rotate_left
                        · intro hJ2_3_4; refine join_ (σ := Value) 6 #[true, true, true, true, false, false, false, true, true, false, false, false] (fun s_ => [(20, s_), (21, .string (strOfNums y128)), (26, .string t134)]) (fun s_ w' => (Kd.R (Kd.int .u8) 5 w' w.heap.size (fun _ => True) s_ y128) ∧ (Below w.heap.size w w')) ?_ ?_; rotate_left
                          · intro hJ2_3_8; refine join_ (σ := Value × Value) 6 #[true, true, true, false, true, true, false, true, false, false, false, false] (fun s_ => [(20, s_.1), (22, s_.2), (23, .string (strOfNums y131))]) (fun s_ w' => (Kd.R (Kd.int .u8) 5 w' w.heap.size (fun k_ => some k_ ≠ (s_.2 : Value).ownBlock) s_.1 y128) ∧ (Kd.R (Kd.int .u8) 5 w' w.heap.size (fun k_ => some k_ ≠ (s_.1 : Value).ownBlock) s_.2 y131) ∧ (Below w.heap.size w w')) ?_ ?_; rotate_left
                            · intro hJ2_4_5; refine join_ (σ := Value × Value) 6 #[true, true, true, false, true, false, false, true, true, false, false, false] (fun s_ => [(20, s_.1), (22, s_.2), (26, .string t134)]) (fun s_ w' => (Kd.R (Kd.int .u8) 5 w' w.heap.size (fun k_ => some k_ ≠ (s_.2 : Value).ownBlock) s_.1 y128) ∧ (Kd.R (Kd.int .u8) 5 w' w.heap.size (fun k_ => some k_ ≠ (s_.1 : Value).ownBlock) s_.2 y131) ∧ (Below w.heap.size w w')) ?_ ?_; rotate_left
                              · intro hJ2_4_8; refine join_ (σ := Value) 6 #[true, true, false, false, true, true, false, true, true, false, false, false] (fun s_ => [(22, s_), (23, .string (strOfNums y131)), (26, .string t134)]) (fun s_ w' => (Kd.R (Kd.int .u8) 5 w' w.heap.size (fun _ => True) s_ y131) ∧ (Below w.heap.size w w')) ?_ ?_; rotate_left
                                · intro hJ4_5_8; refine join_ (σ := Value) 7 #[true, true, true, true, false, false, false, true, false, false, false, false] (fun s_ => [(20, s_), (21, .string (strOfNums y128))]) (fun s_ w' => (Kd.R (Kd.int .u8) 5 w' w.heap.size (fun _ => True) s_ y128) ∧ (Below w.heap.size w w')) ?_ ?_; rotate_left
                                  · intro hJ2_3; refine join_ (σ := Value × Value) 7 #[true, true, true, false, true, false, false, true, false, false, false, false] (fun s_ => [(20, s_.1), (22, s_.2)]) (fun s_ w' => (Kd.R (Kd.int .u8) 5 w' w.heap.size (fun k_ => some k_ ≠ (s_.2 : Value).ownBlock) s_.1 y128) ∧ (Kd.R (Kd.int .u8) 5 w' w.heap.size (fun k_ => some k_ ≠ (s_.1 : Value).ownBlock) s_.2 y131) ∧ (Below w.heap.size w w')) ?_ ?_; rotate_left
                                    · intro hJ2_4; refine join_ (σ := Value) 7 #[true, true, true, false, false, false, false, true, true, false, false, false] (fun s_ => [(20, s_), (26, .string t134)]) (fun s_ w' => (Kd.R (Kd.int .u8) 5 w' w.heap.size (fun _ => True) s_ y128) ∧ (Below w.heap.size w w')) ?_ ?_; rotate_left
                                      · intro hJ2_8; refine join_ (σ := Value) 7 #[true, true, false, false, true, true, false, true, false, false, false, false] (fun s_ => [(22, s_), (23, .string (strOfNums y131))]) (fun s_ w' => (Kd.R (Kd.int .u8) 5 w' w.heap.size (fun _ => True) s_ y131) ∧ (Below w.heap.size w w')) ?_ ?_; rotate_left
                                        · intro hJ4_5; refine join_ (σ := Value) 7 #[true, true, false, false, true, false, false, true, true, false, false, false] (fun s_ => [(22, s_), (26, .string t134)]) (fun s_ w' => (Kd.R (Kd.int .u8) 5 w' w.heap.size (fun _ => True) s_ y131) ∧ (Below w.heap.size w w')) ?_ ?_; rotate_left
                                          · intro hJ4_8; refine join_ (σ := Value) 8 #[true, true, true, false, false, false, false, true, false, false, false, false] (fun s_ => [(20, s_)]) (fun s_ w' => (Kd.R (Kd.int .u8) 5 w' w.heap.size (fun _ => True) s_ y128) ∧ (Below w.heap.size w w')) ?_ ?_; rotate_left
                                            · intro hJ2; refine join_ (σ := Value) 8 #[true, true, false, false, true, false, false, true, false, false, false, false] (fun s_ => [(22, s_)]) (fun s_ w' => (Kd.R (Kd.int .u8) 5 w' w.heap.size (fun _ => True) s_ y131) ∧ (Below w.heap.size w w')) ?_ ?_; rotate_left
                                              · intro hJ4; refine join_ (σ := Unit) 8 #[true, true, false, false, false, false, false, true, true, false, false, false] (fun s_ => [(26, .string t134)]) (fun s_ w' => (Below w.heap.size w w')) ?_ ?_; rotate_left
                                                · intro hJ8; refine three_ (i := 2) (j := 4) (k := 8) (Ni := some 20) (Nj := some 22) (Nk := some 26) #[true, true, true, false, false, false, false, true, false, false, false, false] #[true, true, false, false, true, false, false, true, false, false, false, false] #[true, true, false, false, false, false, false, true, true, false, false, false] rfl rfl rfl rfl rfl rfl (three_of HT_.out (by kernel_rfl)) (by decide) (by decide) (by decide) (fun K hK => ?_) (fun K hK => ?_) (fun K hK => ?_)
                                                  · skip; refine Kd.R_lit_step (Kd.int .u8) _ 5 ?hg (N := 20) ?hd (xs := ([(a0) % 256] : List Int)) (inner := [.int .u8 ((a0) % 256)]) (ok := fun _ => True) (okp := fun _ => True) ?hr ?hp (fun _ hk => hk) trivial (Below.refl _ _) (Nat.le_refl _) (by simp) ?_; (case hd => rfl); (case hg => rfl); (case hr => first | (go_simp; done) | (go_simp; rfl)); (case hp => exact (Reps.one (show Kd.M (Kd.int .u8) _ _ _ ((a0) % 256) [.int .u8 ((a0) % 256)] from rfl) (Reps.none _ _))); intro v129 w13 ho14 hb hg_ hnew_; clear hg_ hnew_
                                                    (first | rw [← Ny128.out] at ho14 | (simp only [Int.reduceToNat] at ho14; rw [← Ny128.out] at ho14))
                                                    have HO130 := Aside0.mk (Kd.R_lower ho14 (below_size hb_)); replace HB := Aside0.mk (below_step hb_ hb); clear hb ho14; refine hK.out _ _ trivial (fun hHeld => ?_); clear hK K; refine norm_ sa_ ?_; exact norm_ pu_ (hJ2 (v129) _ ⟨(ra_ HO130.out), hb_⟩)
                                                  · skip; refine Kd.R_make_step (Kd.int .u8) _ 5 (by rfl) (N := 22) rfl 68 _ _ rfl 5 rfl rfl Try.underlying68 (.int .u8 0) 1 info5 rfl (by decide) (by omega) 0 (ok := fun _ => True) (okp := fun _ => True) rfl (fun _ hk => hk) trivial (by omega) (by omega) (Below.refl _ _) (Nat.le_refl _) ?_; intro v132 w13 ho14 hb hg_ hnew_; clear hg_ hnew_
                                                    (first | rw [← Ny131.out] at ho14 | (simp only [Int.reduceToNat] at ho14; rw [← Ny131.out] at ho14))
                                                    have HO133 := Aside0.mk (Kd.R_lower ho14 (below_size hb_)); replace HB := Aside0.mk (below_step hb_ hb); clear hb ho14; refine hK.out _ _ trivial (fun hHeld => ?_); clear hK K; refine norm_ sa_ ?_; exact norm_ pu_ (hJ4 (v132) _ ⟨(ra_ HO133.out), hb_⟩)
                                                  · skip; refine goes_ Try.func53 (by kernel_rfl) rfl #[.int .i64 a1] (by rfl) rfl rfl la_ ?_; with_reducible refine (samphireref15_number.calls kj2 a1 t134 _ A10.out).mono ?_
                                                    rintro e w13 ⟨rfl, hb⟩; refine ⟨_, rfl, ?_⟩; replace HB := Aside0.mk (below_step hb_ hb); refine hK.out _ _ trivial (fun hHeld => ?_); clear hK K; refine norm_ sa_ ?_; exact norm_ pu_ (hJ8 () _ hb_)
                                                · skip; rintro _ w14 h0_; have n0_ : Aside0 (Below w.heap.size w w14) := ⟨h0_⟩; clear HB h0_; have HB := n0_; clear n0_; have hHeld := trivial; refine norm_ sb_ ?_; refine two_ (i := 2) (j := 4) (Ni := some 20) (Nj := some 22) #[true, true, true, false, false, false, false, true, true, false, false, false] #[true, true, false, false, true, false, false, true, true, false, false, false] rfl rfl rfl rfl (two_of HT_.out (by kernel_rfl)) (by decide) (by decide) (fun K hK => ?_) (fun K hK => ?_)
                                                  · skip; refine Kd.R_lit_step (Kd.int .u8) _ 5 ?hg (N := 20) ?hd (xs := ([(a0) % 256] : List Int)) (inner := [.int .u8 ((a0) % 256)]) (ok := fun _ => True) (okp := fun _ => True) ?hr ?hp (fun _ hk => hk) trivial (Below.refl _ _) (Nat.le_refl _) (by simp) ?_; (case hd => rfl); (case hg => rfl); (case hr => first | (go_simp; done) | (go_simp; rfl)); (case hp => exact (Reps.one (show Kd.M (Kd.int .u8) _ _ _ ((a0) % 256) [.int .u8 ((a0) % 256)] from rfl) (Reps.none _ _))); intro v129 w15 ho16 hb hg_ hnew_; clear hg_ hnew_
                                                    (first | rw [← Ny128.out] at ho16 | (simp only [Int.reduceToNat] at ho16; rw [← Ny128.out] at ho16))
                                                    have HO130 := Aside0.mk (Kd.R_lower ho16 (below_size hb_)); replace HB := Aside0.mk (below_step hb_ hb); clear hb ho16; refine hK.out _ _ trivial (fun hHeld => ?_); clear hK K; refine norm_ sa_ ?_; exact norm_ pu_ (hJ2_8 (v129) _ ⟨(ra_ HO130.out), hb_⟩)
                                                  · skip; refine Kd.R_make_step (Kd.int .u8) _ 5 (by rfl) (N := 22) rfl 68 _ _ rfl 5 rfl rfl Try.underlying68 (.int .u8 0) 1 info5 rfl (by decide) (by omega) 0 (ok := fun _ => True) (okp := fun _ => True) rfl (fun _ hk => hk) trivial (by omega) (by omega) (Below.refl _ _) (Nat.le_refl _) ?_; intro v132 w15 ho16 hb hg_ hnew_; clear hg_ hnew_
                                                    (first | rw [← Ny131.out] at ho16 | (simp only [Int.reduceToNat] at ho16; rw [← Ny131.out] at ho16))
                                                    have HO133 := Aside0.mk (Kd.R_lower ho16 (below_size hb_)); replace HB := Aside0.mk (below_step hb_ hb); clear hb ho16; refine hK.out _ _ trivial (fun hHeld => ?_); clear hK K; refine norm_ sa_ ?_; exact norm_ pu_ (hJ4_8 (v132) _ ⟨(ra_ HO133.out), hb_⟩)
                                              · skip; rintro v132 w15 ⟨h0_, h1_⟩; have n0_ : Aside0 (Kd.R (Kd.int .u8) 5 w15 w.heap.size (fun _ => True) v132 y131) := ⟨h0_⟩; have n1_ : Aside0 (Below w.heap.size w w15) := ⟨h1_⟩; clear HB h0_ h1_; have HO133 := n0_; have HB := n1_; clear n0_ n1_; have hHeld := trivial; refine norm_ sb_ ?_; refine three_ (i := 2) (j := 5) (k := 8) (Ni := some 20) (Nj := some 23) (Nk := some 26) #[true, true, true, false, true, false, false, true, false, false, false, false] #[true, true, false, false, true, true, false, true, false, false, false, false] #[true, true, false, false, true, false, false, true, true, false, false, false] rfl rfl rfl rfl rfl rfl (three_of HT_.out (by kernel_rfl)) (by decide) (by decide) (by decide) (fun K hK => ?_) (fun K hK => ?_) (fun K hK => ?_)
                                                · skip; refine Kd.R_lit_step (Kd.int .u8) _ 5 ?hg (N := 20) ?hd (xs := ([(a0) % 256] : List Int)) (inner := [.int .u8 ((a0) % 256)]) (ok := fun _ => True) (okp := fun _ => True) ?hr ?hp (fun _ hk => hk) trivial (Below.refl _ _) (Nat.le_refl _) (by simp) ?_; (case hd => rfl); (case hg => rfl); (case hr => first | (go_simp; done) | (go_simp; rfl)); (case hp => exact (Reps.one (show Kd.M (Kd.int .u8) _ _ _ ((a0) % 256) [.int .u8 ((a0) % 256)] from rfl) (Reps.none _ _))); intro v129 w16 ho17 hb hg_ hnew_; clear hg_ hnew_
                                                  (first | rw [← Ny128.out] at ho17 | (simp only [Int.reduceToNat] at ho17; rw [← Ny128.out] at ho17))
                                                  have HO130 := Aside0.mk (Kd.R_lower (Kd.R_new' ho17 (Kd.R_lt (ra_ HO133.out))) (below_size hb_)); replace HO133 := Aside0.mk (Kd.R_elder' (ra_ HO133.out) (Kd.R_base ho17) hb); replace HB := Aside0.mk (below_step hb_ hb); clear hb ho17; refine hK.out _ _ trivial (fun hHeld => ?_); clear hK K; refine norm_ sa_ ?_; exact norm_ pu_ (hJ2_4 (v129, v132) _ ⟨(by (with_reducible repeat (first | apply Kd.R_alloc | apply Kd.R_drewN | apply Kd.R_drew)); exact Kd.R_mono HO130.out (fun _ hk => hk.2)), (by (with_reducible repeat (first | apply Kd.R_alloc | apply Kd.R_drewN | apply Kd.R_drew)); exact Kd.R_mono HO133.out (fun _ hk => hk.2)), hb_⟩)
                                                · skip; have hcv16 := own_string (P := Try.prog) Try.underlying68 Try.underlying5 Try.underlying9 (Kd.own_of_R HO133.out); refine value_ (w1 := ?_) (v := ?_) (by rfl) rfl ?_ ?_; rotate_left 2
                                                  · go_simp
                                                    constructor
                                                    · rfl
                                                    · rfl
                                                  clear hcv16; refine hK.out _ _ trivial (fun hHeld => ?_); clear hK K; refine norm_ sa_ ?_; exact norm_ pu_ (hJ4_5 (v132) _ ⟨(ra_ HO133.out), hb_⟩)
                                                · skip; refine goes_ Try.func53 (by kernel_rfl) rfl #[.int .i64 a1] (by rfl) rfl rfl la_ ?_; with_reducible refine (samphireref15_number.calls kj2 a1 t134 _ A10.out).mono ?_
                                                  rintro e w16 ⟨rfl, hb⟩; refine ⟨_, rfl, ?_⟩; replace HO133 := Aside0.mk (Kd.R_below (ra_ HO133.out) hb); replace HB := Aside0.mk (below_step hb_ hb); refine hK.out _ _ trivial (fun hHeld => ?_); clear hK K; refine norm_ sa_ ?_; exact norm_ pu_ (hJ4_8 (v132) _ ⟨(ra_ HO133.out), hb_⟩)
                                            · skip; rintro v129 w15 ⟨h0_, h1_⟩; have n0_ : Aside0 (Kd.R (Kd.int .u8) 5 w15 w.heap.size (fun _ => True) v129 y128) := ⟨h0_⟩; have n1_ : Aside0 (Below w.heap.size w w15) := ⟨h1_⟩; clear HB h0_ h1_; have HO130 := n0_; have HB := n1_; clear n0_ n1_; have hHeld := trivial; refine norm_ sb_ ?_; refine three_ (i := 3) (j := 4) (k := 8) (Ni := some 21) (Nj := some 22) (Nk := some 26) #[true, true, true, true, false, false, false, true, false, false, false, false] #[true, true, true, false, true, false, false, true, false, false, false, false] #[true, true, true, false, false, false, false, true, true, false, false, false] rfl rfl rfl rfl rfl rfl (three_of HT_.out (by kernel_rfl)) (by decide) (by decide) (by decide) (fun K hK => ?_) (fun K hK => ?_) (fun K hK => ?_)
                                              · skip; have hcv16 := own_string (P := Try.prog) Try.underlying68 Try.underlying5 Try.underlying9 (Kd.own_of_R HO130.out); refine value_ (w1 := ?_) (v := ?_) (by rfl) rfl ?_ ?_; rotate_left 2
                                                · go_simp
                                                  constructor
                                                  · rfl
                                                  · rfl
                                                clear hcv16; refine hK.out _ _ trivial (fun hHeld => ?_); clear hK K; refine norm_ sa_ ?_; exact norm_ pu_ (hJ2_3 (v129) _ ⟨(ra_ HO130.out), hb_⟩)
                                              · skip; refine Kd.R_make_step (Kd.int .u8) _ 5 (by rfl) (N := 22) rfl 68 _ _ rfl 5 rfl rfl Try.underlying68 (.int .u8 0) 1 info5 rfl (by decide) (by omega) 0 (ok := fun _ => True) (okp := fun _ => True) rfl (fun _ hk => hk) trivial (by omega) (by omega) (Below.refl _ _) (Nat.le_refl _) ?_; intro v132 w16 ho17 hb hg_ hnew_; clear hg_ hnew_
                                                (first | rw [← Ny131.out] at ho17 | (simp only [Int.reduceToNat] at ho17; rw [← Ny131.out] at ho17))
                                                have HO133 := Aside0.mk (Kd.R_lower (Kd.R_new' ho17 (Kd.R_lt (ra_ HO130.out))) (below_size hb_)); replace HO130 := Aside0.mk (Kd.R_elder' (ra_ HO130.out) (Kd.R_base ho17) hb); replace HB := Aside0.mk (below_step hb_ hb); clear hb ho17; refine hK.out _ _ trivial (fun hHeld => ?_); clear hK K; refine norm_ sa_ ?_; exact norm_ pu_ (hJ2_4 (v129, v132) _ ⟨(by (with_reducible repeat (first | apply Kd.R_alloc | apply Kd.R_drewN | apply Kd.R_drew)); exact Kd.R_mono HO130.out (fun _ hk => hk.2)), (by (with_reducible repeat (first | apply Kd.R_alloc | apply Kd.R_drewN | apply Kd.R_drew)); exact Kd.R_mono HO133.out (fun _ hk => hk.2)), hb_⟩)
                                              · skip; refine goes_ Try.func53 (by kernel_rfl) rfl #[.int .i64 a1] (by rfl) rfl rfl la_ ?_; with_reducible refine (samphireref15_number.calls kj2 a1 t134 _ A10.out).mono ?_
                                                rintro e w16 ⟨rfl, hb⟩; refine ⟨_, rfl, ?_⟩; replace HO130 := Aside0.mk (Kd.R_below (ra_ HO130.out) hb); replace HB := Aside0.mk (below_step hb_ hb); refine hK.out _ _ trivial (fun hHeld => ?_); clear hK K; refine norm_ sa_ ?_; exact norm_ pu_ (hJ2_8 (v129) _ ⟨(ra_ HO130.out), hb_⟩)
                                          · skip; rintro v132 w16 ⟨h0_, h1_⟩; have n0_ : Aside0 (Kd.R (Kd.int .u8) 5 w16 w.heap.size (fun _ => True) v132 y131) := ⟨h0_⟩; have n1_ : Aside0 (Below w.heap.size w w16) := ⟨h1_⟩; clear HB h0_ h1_; have HO133 := n0_; have HB := n1_; clear n0_ n1_; have hHeld := trivial; refine norm_ sb_ ?_; refine two_ (i := 2) (j := 5) (Ni := some 20) (Nj := some 23) #[true, true, true, false, true, false, false, true, true, false, false, false] #[true, true, false, false, true, true, false, true, true, false, false, false] rfl rfl rfl rfl (two_of HT_.out (by kernel_rfl)) (by decide) (by decide) (fun K hK => ?_) (fun K hK => ?_)
                                            · skip; refine Kd.R_lit_step (Kd.int .u8) _ 5 ?hg (N := 20) ?hd (xs := ([(a0) % 256] : List Int)) (inner := [.int .u8 ((a0) % 256)]) (ok := fun _ => True) (okp := fun _ => True) ?hr ?hp (fun _ hk => hk) trivial (Below.refl _ _) (Nat.le_refl _) (by simp) ?_; (case hd => rfl); (case hg => rfl); (case hr => first | (go_simp; done) | (go_simp; rfl)); (case hp => exact (Reps.one (show Kd.M (Kd.int .u8) _ _ _ ((a0) % 256) [.int .u8 ((a0) % 256)] from rfl) (Reps.none _ _))); intro v129 w17 ho18 hb hg_ hnew_; clear hg_ hnew_
                                              (first | rw [← Ny128.out] at ho18 | (simp only [Int.reduceToNat] at ho18; rw [← Ny128.out] at ho18))
                                              have HO130 := Aside0.mk (Kd.R_lower (Kd.R_new' ho18 (Kd.R_lt (ra_ HO133.out))) (below_size hb_)); replace HO133 := Aside0.mk (Kd.R_elder' (ra_ HO133.out) (Kd.R_base ho18) hb); replace HB := Aside0.mk (below_step hb_ hb); clear hb ho18; refine hK.out _ _ trivial (fun hHeld => ?_); clear hK K; refine norm_ sa_ ?_; exact norm_ pu_ (hJ2_4_8 (v129, v132) _ ⟨(by (with_reducible repeat (first | apply Kd.R_alloc | apply Kd.R_drewN | apply Kd.R_drew)); exact Kd.R_mono HO130.out (fun _ hk => hk.2)), (by (with_reducible repeat (first | apply Kd.R_alloc | apply Kd.R_drewN | apply Kd.R_drew)); exact Kd.R_mono HO133.out (fun _ hk => hk.2)), hb_⟩)
                                            · skip; have hcv17 := own_string (P := Try.prog) Try.underlying68 Try.underlying5 Try.underlying9 (Kd.own_of_R HO133.out); refine value_ (w1 := ?_) (v := ?_) (by rfl) rfl ?_ ?_; rotate_left 2
                                              · go_simp
                                                constructor
                                                · rfl
                                                · rfl
                                              clear hcv17; refine hK.out _ _ trivial (fun hHeld => ?_); clear hK K; refine norm_ sa_ ?_; exact norm_ pu_ (hJ4_5_8 (v132) _ ⟨(ra_ HO133.out), hb_⟩)
                                        · skip; rintro v132 w16 ⟨h0_, h1_⟩; have n0_ : Aside0 (Kd.R (Kd.int .u8) 5 w16 w.heap.size (fun _ => True) v132 y131) := ⟨h0_⟩; have n1_ : Aside0 (Below w.heap.size w w16) := ⟨h1_⟩; clear HB h0_ h1_; have HO133 := n0_; have HB := n1_; clear n0_ n1_; have hHeld := trivial; refine norm_ sb_ ?_; refine two_ (i := 2) (j := 8) (Ni := some 20) (Nj := some 26) #[true, true, true, false, true, true, false, true, false, false, false, false] #[true, true, false, false, true, true, false, true, true, false, false, false] rfl rfl rfl rfl (two_of HT_.out (by kernel_rfl)) (by decide) (by decide) (fun K hK => ?_) (fun K hK => ?_)
                                          · skip; refine Kd.R_lit_step (Kd.int .u8) _ 5 ?hg (N := 20) ?hd (xs := ([(a0) % 256] : List Int)) (inner := [.int .u8 ((a0) % 256)]) (ok := fun _ => True) (okp := fun _ => True) ?hr ?hp (fun _ hk => hk) trivial (Below.refl _ _) (Nat.le_refl _) (by simp) ?_; (case hd => rfl); (case hg => rfl); (case hr => first | (go_simp; done) | (go_simp; rfl)); (case hp => exact (Reps.one (show Kd.M (Kd.int .u8) _ _ _ ((a0) % 256) [.int .u8 ((a0) % 256)] from rfl) (Reps.none _ _))); intro v129 w17 ho18 hb hg_ hnew_; clear hg_ hnew_
                                            (first | rw [← Ny128.out] at ho18 | (simp only [Int.reduceToNat] at ho18; rw [← Ny128.out] at ho18))
                                            have HO130 := Aside0.mk (Kd.R_lower (Kd.R_new' ho18 (Kd.R_lt (ra_ HO133.out))) (below_size hb_)); replace HO133 := Aside0.mk (Kd.R_elder' (ra_ HO133.out) (Kd.R_base ho18) hb); replace HB := Aside0.mk (below_step hb_ hb); clear hb ho18; refine hK.out _ _ trivial (fun hHeld => ?_); clear hK K; refine norm_ sa_ ?_; exact norm_ pu_ (hJ2_4_5 (v129, v132) _ ⟨(by (with_reducible repeat (first | apply Kd.R_alloc | apply Kd.R_drewN | apply Kd.R_drew)); exact Kd.R_mono HO130.out (fun _ hk => hk.2)), (by (with_reducible repeat (first | apply Kd.R_alloc | apply Kd.R_drewN | apply Kd.R_drew)); exact Kd.R_mono HO133.out (fun _ hk => hk.2)), hb_⟩)
                                          · skip; refine goes_ Try.func53 (by kernel_rfl) rfl #[.int .i64 a1] (by rfl) rfl rfl la_ ?_; with_reducible refine (samphireref15_number.calls kj2 a1 t134 _ A10.out).mono ?_
                                            rintro e w17 ⟨rfl, hb⟩; refine ⟨_, rfl, ?_⟩; replace HO133 := Aside0.mk (Kd.R_below (ra_ HO133.out) hb); replace HB := Aside0.mk (below_step hb_ hb); refine hK.out _ _ trivial (fun hHeld => ?_); clear hK K; refine norm_ sa_ ?_; exact norm_ pu_ (hJ4_5_8 (v132) _ ⟨(ra_ HO133.out), hb_⟩)
                                      · skip; rintro v129 w16 ⟨h0_, h1_⟩; have n0_ : Aside0 (Kd.R (Kd.int .u8) 5 w16 w.heap.size (fun _ => True) v129 y128) := ⟨h0_⟩; have n1_ : Aside0 (Below w.heap.size w w16) := ⟨h1_⟩; clear HB h0_ h1_; have HO130 := n0_; have HB := n1_; clear n0_ n1_; have hHeld := trivial; refine norm_ sb_ ?_; refine two_ (i := 3) (j := 4) (Ni := some 21) (Nj := some 22) #[true, true, true, true, false, false, false, true, true, false, false, false] #[true, true, true, false, true, false, false, true, true, false, false, false] rfl rfl rfl rfl (two_of HT_.out (by kernel_rfl)) (by decide) (by decide) (fun K hK => ?_) (fun K hK => ?_)
                                        · skip; have hcv17 := own_string (P := Try.prog) Try.underlying68 Try.underlying5 Try.underlying9 (Kd.own_of_R HO130.out); refine value_ (w1 := ?_) (v := ?_) (by rfl) rfl ?_ ?_; rotate_left 2
                                          · go_simp
                                            constructor
                                            · rfl
                                            · rfl
                                          clear hcv17; refine hK.out _ _ trivial (fun hHeld => ?_); clear hK K; refine norm_ sa_ ?_; exact norm_ pu_ (hJ2_3_8 (v129) _ ⟨(ra_ HO130.out), hb_⟩)
                                        · skip; refine Kd.R_make_step (Kd.int .u8) _ 5 (by rfl) (N := 22) rfl 68 _ _ rfl 5 rfl rfl Try.underlying68 (.int .u8 0) 1 info5 rfl (by decide) (by omega) 0 (ok := fun _ => True) (okp := fun _ => True) rfl (fun _ hk => hk) trivial (by omega) (by omega) (Below.refl _ _) (Nat.le_refl _) ?_; intro v132 w17 ho18 hb hg_ hnew_; clear hg_ hnew_
                                          (first | rw [← Ny131.out] at ho18 | (simp only [Int.reduceToNat] at ho18; rw [← Ny131.out] at ho18))
                                          have HO133 := Aside0.mk (Kd.R_lower (Kd.R_new' ho18 (Kd.R_lt (ra_ HO130.out))) (below_size hb_)); replace HO130 := Aside0.mk (Kd.R_elder' (ra_ HO130.out) (Kd.R_base ho18) hb); replace HB := Aside0.mk (below_step hb_ hb); clear hb ho18; refine hK.out _ _ trivial (fun hHeld => ?_); clear hK K; refine norm_ sa_ ?_; exact norm_ pu_ (hJ2_4_8 (v129, v132) _ ⟨(by (with_reducible repeat (first | apply Kd.R_alloc | apply Kd.R_drewN | apply Kd.R_drew)); exact Kd.R_mono HO130.out (fun _ hk => hk.2)), (by (with_reducible repeat (first | apply Kd.R_alloc | apply Kd.R_drewN | apply Kd.R_drew)); exact Kd.R_mono HO133.out (fun _ hk => hk.2)), hb_⟩)
                                    · skip; rintro ⟨v129, v132⟩ w17 ⟨h0_, h1_, h2_⟩; have n0_ : Aside0 (Kd.R (Kd.int .u8) 5 w17 w.heap.size (fun k_ => some k_ ≠ (v132 : Value).ownBlock) v129 y128) := ⟨h0_⟩; have n1_ : Aside0 (Kd.R (Kd.int .u8) 5 w17 w.heap.size (fun k_ => some k_ ≠ (v129 : Value).ownBlock) v132 y131) := ⟨h1_⟩; have n2_ : Aside0 (Below w.heap.size w w17) := ⟨h2_⟩; clear HB h0_ h1_ h2_; have HO130 := n0_; have HO133 := n1_; have HB := n2_; clear n0_ n1_ n2_; have hHeld := trivial; refine norm_ sb_ ?_; refine three_ (i := 3) (j := 5) (k := 8) (Ni := some 21) (Nj := some 23) (Nk := some 26) #[true, true, true, true, true, false, false, true, false, false, false, false] #[true, true, true, false, true, true, false, true, false, false, false, false] #[true, true, true, false, true, false, false, true, true, false, false, false] rfl rfl rfl rfl rfl rfl (three_of HT_.out (by kernel_rfl)) (by decide) (by decide) (by decide) (fun K hK => ?_) (fun K hK => ?_) (fun K hK => ?_)
                                      · skip; have hcv18 := own_string (P := Try.prog) Try.underlying68 Try.underlying5 Try.underlying9 (Kd.own_of_R HO130.out); refine value_ (w1 := ?_) (v := ?_) (by rfl) rfl ?_ ?_; rotate_left 2
                                        · go_simp
                                          constructor
                                          · rfl
                                          · rfl
                                        clear hcv18; refine hK.out _ _ trivial (fun hHeld => ?_); clear hK K; refine norm_ sa_ ?_; exact norm_ pu_ (hJ2_3_4 (v129, v132) _ ⟨(ra_ HO130.out), (ra_ HO133.out), hb_⟩)
                                      · skip; have hcv18 := own_string (P := Try.prog) Try.underlying68 Try.underlying5 Try.underlying9 (Kd.own_of_R HO133.out); refine value_ (w1 := ?_) (v := ?_) (by rfl) rfl ?_ ?_; rotate_left 2
                                        · go_simp
                                          constructor
                                          · rfl
                                          · rfl
                                        clear hcv18; refine hK.out _ _ trivial (fun hHeld => ?_); clear hK K; refine norm_ sa_ ?_; exact norm_ pu_ (hJ2_4_5 (v129, v132) _ ⟨(ra_ HO130.out), (ra_ HO133.out), hb_⟩)
                                      · skip; refine goes_ Try.func53 (by kernel_rfl) rfl #[.int .i64 a1] (by rfl) rfl rfl la_ ?_; with_reducible refine (samphireref15_number.calls kj2 a1 t134 _ A10.out).mono ?_
                                        rintro e w18 ⟨rfl, hb⟩; refine ⟨_, rfl, ?_⟩; replace HO130 := Aside0.mk (Kd.R_below (ra_ HO130.out) hb); replace HO133 := Aside0.mk (Kd.R_below (ra_ HO133.out) hb); replace HB := Aside0.mk (below_step hb_ hb); refine hK.out _ _ trivial (fun hHeld => ?_); clear hK K; refine norm_ sa_ ?_; exact norm_ pu_ (hJ2_4_8 (v129, v132) _ ⟨(ra_ HO130.out), (ra_ HO133.out), hb_⟩)
                                  · skip; rintro v129 w16 ⟨h0_, h1_⟩; have n0_ : Aside0 (Kd.R (Kd.int .u8) 5 w16 w.heap.size (fun _ => True) v129 y128) := ⟨h0_⟩; have n1_ : Aside0 (Below w.heap.size w w16) := ⟨h1_⟩; clear HB h0_ h1_; have HO130 := n0_; have HB := n1_; clear n0_ n1_; have hHeld := trivial; refine norm_ sb_ ?_; refine two_ (i := 4) (j := 8) (Ni := some 22) (Nj := some 26) #[true, true, true, true, true, false, false, true, false, false, false, false] #[true, true, true, true, false, false, false, true, true, false, false, false] rfl rfl rfl rfl (two_of HT_.out (by kernel_rfl)) (by decide) (by decide) (fun K hK => ?_) (fun K hK => ?_)
                                    · skip; refine Kd.R_make_step (Kd.int .u8) _ 5 (by rfl) (N := 22) rfl 68 _ _ rfl 5 rfl rfl Try.underlying68 (.int .u8 0) 1 info5 rfl (by decide) (by omega) 0 (ok := fun _ => True) (okp := fun _ => True) rfl (fun _ hk => hk) trivial (by omega) (by omega) (Below.refl _ _) (Nat.le_refl _) ?_; intro v132 w17 ho18 hb hg_ hnew_; clear hg_ hnew_
                                      (first | rw [← Ny131.out] at ho18 | (simp only [Int.reduceToNat] at ho18; rw [← Ny131.out] at ho18))
                                      have HO133 := Aside0.mk (Kd.R_lower (Kd.R_new' ho18 (Kd.R_lt (ra_ HO130.out))) (below_size hb_)); replace HO130 := Aside0.mk (Kd.R_elder' (ra_ HO130.out) (Kd.R_base ho18) hb); replace HB := Aside0.mk (below_step hb_ hb); clear hb ho18; refine hK.out _ _ trivial (fun hHeld => ?_); clear hK K; refine norm_ sa_ ?_; exact norm_ pu_ (hJ2_3_4 (v129, v132) _ ⟨(by (with_reducible repeat (first | apply Kd.R_alloc | apply Kd.R_drewN | apply Kd.R_drew)); exact Kd.R_mono HO130.out (fun _ hk => hk.2)), (by (with_reducible repeat (first | apply Kd.R_alloc | apply Kd.R_drewN | apply Kd.R_drew)); exact Kd.R_mono HO133.out (fun _ hk => hk.2)), hb_⟩)
                                    · skip; refine goes_ Try.func53 (by kernel_rfl) rfl #[.int .i64 a1] (by rfl) rfl rfl la_ ?_; with_reducible refine (samphireref15_number.calls kj2 a1 t134 _ A10.out).mono ?_
                                      rintro e w17 ⟨rfl, hb⟩; refine ⟨_, rfl, ?_⟩; replace HO130 := Aside0.mk (Kd.R_below (ra_ HO130.out) hb); replace HB := Aside0.mk (below_step hb_ hb); refine hK.out _ _ trivial (fun hHeld => ?_); clear hK K; refine norm_ sa_ ?_; exact norm_ pu_ (hJ2_3_8 (v129) _ ⟨(ra_ HO130.out), hb_⟩)
                                · skip; rintro v132 w17 ⟨h0_, h1_⟩; have n0_ : Aside0 (Kd.R (Kd.int .u8) 5 w17 w.heap.size (fun _ => True) v132 y131) := ⟨h0_⟩; have n1_ : Aside0 (Below w.heap.size w w17) := ⟨h1_⟩; clear HB h0_ h1_; have HO133 := n0_; have HB := n1_; clear n0_ n1_; have hHeld := trivial; refine norm_ sb_ ?_; refine one_ (i := 2) (N := some 20) #[true, true, true, false, true, true, false, true, true, false, false, false] rfl rfl (one_of HT_.out (by kernel_rfl)) (by decide) (fun K hK => ?_); refine Kd.R_lit_step (Kd.int .u8) _ 5 ?hg (N := 20) ?hd (xs := ([(a0) % 256] : List Int)) (inner := [.int .u8 ((a0) % 256)]) (ok := fun _ => True) (okp := fun _ => True) ?hr ?hp (fun _ hk => hk) trivial (Below.refl _ _) (Nat.le_refl _) (by simp) ?_; (case hd => rfl); (case hg => rfl); (case hr => first | (go_simp; done) | (go_simp; rfl)); (case hp => exact (Reps.one (show Kd.M (Kd.int .u8) _ _ _ ((a0) % 256) [.int .u8 ((a0) % 256)] from rfl) (Reps.none _ _))); intro v129 w18 ho19 hb hg_ hnew_; clear hg_ hnew_
                                  (first | rw [← Ny128.out] at ho19 | (simp only [Int.reduceToNat] at ho19; rw [← Ny128.out] at ho19))
                                  have HO130 := Aside0.mk (Kd.R_lower (Kd.R_new' ho19 (Kd.R_lt (ra_ HO133.out))) (below_size hb_)); replace HO133 := Aside0.mk (Kd.R_elder' (ra_ HO133.out) (Kd.R_base ho19) hb); replace HB := Aside0.mk (below_step hb_ hb); clear hb ho19; refine hK.out _ _ trivial (fun hHeld => ?_); clear hK K; refine norm_ sa_ ?_; exact norm_ pu_ (hJ2_4_5_8 (v129, v132) _ ⟨(by (with_reducible repeat (first | apply Kd.R_alloc | apply Kd.R_drewN | apply Kd.R_drew)); exact Kd.R_mono HO130.out (fun _ hk => hk.2)), (by (with_reducible repeat (first | apply Kd.R_alloc | apply Kd.R_drewN | apply Kd.R_drew)); exact Kd.R_mono HO133.out (fun _ hk => hk.2)), hb_⟩)
                              · skip; rintro ⟨v129, v132⟩ w18 ⟨h0_, h1_, h2_⟩; have n0_ : Aside0 (Kd.R (Kd.int .u8) 5 w18 w.heap.size (fun k_ => some k_ ≠ (v132 : Value).ownBlock) v129 y128) := ⟨h0_⟩; have n1_ : Aside0 (Kd.R (Kd.int .u8) 5 w18 w.heap.size (fun k_ => some k_ ≠ (v129 : Value).ownBlock) v132 y131) := ⟨h1_⟩; have n2_ : Aside0 (Below w.heap.size w w18) := ⟨h2_⟩; clear HB h0_ h1_ h2_; have HO130 := n0_; have HO133 := n1_; have HB := n2_; clear n0_ n1_ n2_; have hHeld := trivial; refine norm_ sb_ ?_; refine two_ (i := 3) (j := 5) (Ni := some 21) (Nj := some 23) #[true, true, true, true, true, false, false, true, true, false, false, false] #[true, true, true, false, true, true, false, true, true, false, false, false] rfl rfl rfl rfl (two_of HT_.out (by kernel_rfl)) (by decide) (by decide) (fun K hK => ?_) (fun K hK => ?_)
                                · skip; have hcv19 := own_string (P := Try.prog) Try.underlying68 Try.underlying5 Try.underlying9 (Kd.own_of_R HO130.out); refine value_ (w1 := ?_) (v := ?_) (by rfl) rfl ?_ ?_; rotate_left 2
                                  · go_simp
                                    constructor
                                    · rfl
                                    · rfl
                                  clear hcv19; refine hK.out _ _ trivial (fun hHeld => ?_); clear hK K; refine norm_ sa_ ?_; exact norm_ pu_ (hJ2_3_4_8 (v129, v132) _ ⟨(ra_ HO130.out), (ra_ HO133.out), hb_⟩)
                                · skip; have hcv19 := own_string (P := Try.prog) Try.underlying68 Try.underlying5 Try.underlying9 (Kd.own_of_R HO133.out); refine value_ (w1 := ?_) (v := ?_) (by rfl) rfl ?_ ?_; rotate_left 2
                                  · go_simp
                                    constructor
                                    · rfl
                                    · rfl
                                  clear hcv19; refine hK.out _ _ trivial (fun hHeld => ?_); clear hK K; refine norm_ sa_ ?_; exact norm_ pu_ (hJ2_4_5_8 (v129, v132) _ ⟨(ra_ HO130.out), (ra_ HO133.out), hb_⟩)
                            · skip; rintro ⟨v129, v132⟩ w18 ⟨h0_, h1_, h2_⟩; have n0_ : Aside0 (Kd.R (Kd.int .u8) 5 w18 w.heap.size (fun k_ => some k_ ≠ (v132 : Value).ownBlock) v129 y128) := ⟨h0_⟩; have n1_ : Aside0 (Kd.R (Kd.int .u8) 5 w18 w.heap.size (fun k_ => some k_ ≠ (v129 : Value).ownBlock) v132 y131) := ⟨h1_⟩; have n2_ : Aside0 (Below w.heap.size w w18) := ⟨h2_⟩; clear HB h0_ h1_ h2_; have HO130 := n0_; have HO133 := n1_; have HB := n2_; clear n0_ n1_ n2_; have hHeld := trivial; refine norm_ sb_ ?_; refine two_ (i := 3) (j := 8) (Ni := some 21) (Nj := some 26) #[true, true, true, true, true, true, false, true, false, false, false, false] #[true, true, true, false, true, true, false, true, true, false, false, false] rfl rfl rfl rfl (two_of HT_.out (by kernel_rfl)) (by decide) (by decide) (fun K hK => ?_) (fun K hK => ?_)
                              · skip; have hcv19 := own_string (P := Try.prog) Try.underlying68 Try.underlying5 Try.underlying9 (Kd.own_of_R HO130.out); refine value_ (w1 := ?_) (v := ?_) (by rfl) rfl ?_ ?_; rotate_left 2
                                · go_simp
                                  constructor
                                  · rfl
                                  · rfl
                                clear hcv19; refine hK.out _ _ trivial (fun hHeld => ?_); clear hK K; refine norm_ sa_ ?_; refine pz_ 6 24 rfl rfl (any_of HT_.out (by kernel_rfl)) ?_; exact norm_ pu_ (hJ2_3_4_5 (v129, v132) _ ⟨(ra_ HO130.out), (ra_ HO133.out), hb_⟩)
                              · skip; refine goes_ Try.func53 (by kernel_rfl) rfl #[.int .i64 a1] (by rfl) rfl rfl la_ ?_; with_reducible refine (samphireref15_number.calls kj2 a1 t134 _ A10.out).mono ?_
                                rintro e w19 ⟨rfl, hb⟩; refine ⟨_, rfl, ?_⟩; replace HO130 := Aside0.mk (Kd.R_below (ra_ HO130.out) hb); replace HO133 := Aside0.mk (Kd.R_below (ra_ HO133.out) hb); replace HB := Aside0.mk (below_step hb_ hb); refine hK.out _ _ trivial (fun hHeld => ?_); clear hK K; refine norm_ sa_ ?_; exact norm_ pu_ (hJ2_4_5_8 (v129, v132) _ ⟨(ra_ HO130.out), (ra_ HO133.out), hb_⟩)
                          · skip; rintro v129 w17 ⟨h0_, h1_⟩; have n0_ : Aside0 (Kd.R (Kd.int .u8) 5 w17 w.heap.size (fun _ => True) v129 y128) := ⟨h0_⟩; have n1_ : Aside0 (Below w.heap.size w w17) := ⟨h1_⟩; clear HB h0_ h1_; have HO130 := n0_; have HB := n1_; clear n0_ n1_; have hHeld := trivial; refine norm_ sb_ ?_; refine one_ (i := 4) (N := some 22) #[true, true, true, true, true, false, false, true, true, false, false, false] rfl rfl (one_of HT_.out (by kernel_rfl)) (by decide) (fun K hK => ?_); refine Kd.R_make_step (Kd.int .u8) _ 5 (by rfl) (N := 22) rfl 68 _ _ rfl 5 rfl rfl Try.underlying68 (.int .u8 0) 1 info5 rfl (by decide) (by omega) 0 (ok := fun _ => True) (okp := fun _ => True) rfl (fun _ hk => hk) trivial (by omega) (by omega) (Below.refl _ _) (Nat.le_refl _) ?_; intro v132 w18 ho19 hb hg_ hnew_; clear hg_ hnew_
                            (first | rw [← Ny131.out] at ho19 | (simp only [Int.reduceToNat] at ho19; rw [← Ny131.out] at ho19))
                            have HO133 := Aside0.mk (Kd.R_lower (Kd.R_new' ho19 (Kd.R_lt (ra_ HO130.out))) (below_size hb_)); replace HO130 := Aside0.mk (Kd.R_elder' (ra_ HO130.out) (Kd.R_base ho19) hb); replace HB := Aside0.mk (below_step hb_ hb); clear hb ho19; refine hK.out _ _ trivial (fun hHeld => ?_); clear hK K; refine norm_ sa_ ?_; exact norm_ pu_ (hJ2_3_4_8 (v129, v132) _ ⟨(by (with_reducible repeat (first | apply Kd.R_alloc | apply Kd.R_drewN | apply Kd.R_drew)); exact Kd.R_mono HO130.out (fun _ hk => hk.2)), (by (with_reducible repeat (first | apply Kd.R_alloc | apply Kd.R_drewN | apply Kd.R_drew)); exact Kd.R_mono HO133.out (fun _ hk => hk.2)), hb_⟩)
                        · skip; rintro ⟨v129, v132⟩ w18 ⟨h0_, h1_, h2_⟩; have n0_ : Aside0 (Kd.R (Kd.int .u8) 5 w18 w.heap.size (fun k_ => some k_ ≠ (v132 : Value).ownBlock) v129 y128) := ⟨h0_⟩; have n1_ : Aside0 (Kd.R (Kd.int .u8) 5 w18 w.heap.size (fun k_ => some k_ ≠ (v129 : Value).ownBlock) v132 y131) := ⟨h1_⟩; have n2_ : Aside0 (Below w.heap.size w w18) := ⟨h2_⟩; clear HB h0_ h1_ h2_; have HO130 := n0_; have HO133 := n1_; have HB := n2_; clear n0_ n1_ n2_; have hHeld := trivial; refine norm_ sb_ ?_; refine two_ (i := 5) (j := 8) (Ni := some 23) (Nj := some 26) #[true, true, true, true, true, true, false, true, false, false, false, false] #[true, true, true, true, true, false, false, true, true, false, false, false] rfl rfl rfl rfl (two_of HT_.out (by kernel_rfl)) (by decide) (by decide) (fun K hK => ?_) (fun K hK => ?_)
                          · skip; have hcv19 := own_string (P := Try.prog) Try.underlying68 Try.underlying5 Try.underlying9 (Kd.own_of_R HO133.out); refine value_ (w1 := ?_) (v := ?_) (by rfl) rfl ?_ ?_; rotate_left 2
                            · go_simp
                              constructor
                              · rfl
                              · rfl
                            clear hcv19; refine hK.out _ _ trivial (fun hHeld => ?_); clear hK K; refine norm_ sa_ ?_; refine pz_ 6 24 rfl rfl (any_of HT_.out (by kernel_rfl)) ?_; exact norm_ pu_ (hJ2_3_4_5 (v129, v132) _ ⟨(ra_ HO130.out), (ra_ HO133.out), hb_⟩)
                          · skip; refine goes_ Try.func53 (by kernel_rfl) rfl #[.int .i64 a1] (by rfl) rfl rfl la_ ?_; with_reducible refine (samphireref15_number.calls kj2 a1 t134 _ A10.out).mono ?_
                            rintro e w19 ⟨rfl, hb⟩; refine ⟨_, rfl, ?_⟩; replace HO130 := Aside0.mk (Kd.R_below (ra_ HO130.out) hb); replace HO133 := Aside0.mk (Kd.R_below (ra_ HO133.out) hb); replace HB := Aside0.mk (below_step hb_ hb); refine hK.out _ _ trivial (fun hHeld => ?_); clear hK K; refine norm_ sa_ ?_; exact norm_ pu_ (hJ2_3_4_8 (v129, v132) _ ⟨(ra_ HO130.out), (ra_ HO133.out), hb_⟩)
                      · skip; rintro ⟨v129, v132⟩ w19 ⟨h0_, h1_, h2_⟩; have n0_ : Aside0 (Kd.R (Kd.int .u8) 5 w19 w.heap.size (fun k_ => some k_ ≠ (v132 : Value).ownBlock) v129 y128) := ⟨h0_⟩; have n1_ : Aside0 (Kd.R (Kd.int .u8) 5 w19 w.heap.size (fun k_ => some k_ ≠ (v129 : Value).ownBlock) v132 y131) := ⟨h1_⟩; have n2_ : Aside0 (Below w.heap.size w w19) := ⟨h2_⟩; clear HB h0_ h1_ h2_; have HO130 := n0_; have HO133 := n1_; have HB := n2_; clear n0_ n1_ n2_; have hHeld := trivial; refine norm_ sb_ ?_; refine one_ (i := 3) (N := some 21) #[true, true, true, true, true, true, false, true, true, false, false, false] rfl rfl (one_of HT_.out (by kernel_rfl)) (by decide) (fun K hK => ?_); have hcv20 := own_string (P := Try.prog) Try.underlying68 Try.underlying5 Try.underlying9 (Kd.own_of_R HO130.out); refine value_ (w1 := ?_) (v := ?_) (by rfl) rfl ?_ ?_; rotate_left 2
                        · go_simp
                          constructor
                          · rfl
                          · rfl
                        clear hcv20; refine hK.out _ _ trivial (fun hHeld => ?_); clear hK K; refine norm_ sa_ ?_; refine pz_ 6 24 rfl rfl (any_of HT_.out (by kernel_rfl)) ?_; exact norm_ pu_ (hJ2_3_4_5_8 (v129, v132) _ ⟨(ra_ HO130.out), (ra_ HO133.out), hb_⟩)
                    · skip; rintro ⟨v129, v132⟩ w19 ⟨h0_, h1_, h2_⟩; have n0_ : Aside0 (Kd.R (Kd.int .u8) 5 w19 w.heap.size (fun k_ => some k_ ≠ (v132 : Value).ownBlock) v129 y128) := ⟨h0_⟩; have n1_ : Aside0 (Kd.R (Kd.int .u8) 5 w19 w.heap.size (fun k_ => some k_ ≠ (v129 : Value).ownBlock) v132 y131) := ⟨h1_⟩; have n2_ : Aside0 (Below w.heap.size w w19) := ⟨h2_⟩; clear HB h0_ h1_ h2_; have HO130 := n0_; have HO133 := n1_; have HB := n2_; clear n0_ n1_ n2_; have hHeld := trivial; refine norm_ sb_ ?_; refine one_ (i := 5) (N := some 23) #[true, true, true, true, true, true, false, true, true, false, false, false] rfl rfl (one_of HT_.out (by kernel_rfl)) (by decide) (fun K hK => ?_); have hcv20 := own_string (P := Try.prog) Try.underlying68 Try.underlying5 Try.underlying9 (Kd.own_of_R HO133.out); refine value_ (w1 := ?_) (v := ?_) (by rfl) rfl ?_ ?_; rotate_left 2
                      · go_simp
                        constructor
                        · rfl
                        · rfl
                      clear hcv20; refine hK.out _ _ trivial (fun hHeld => ?_); clear hK K; refine norm_ sa_ ?_; refine pz_ 6 24 rfl rfl (any_of HT_.out (by kernel_rfl)) ?_; exact norm_ pu_ (hJ2_3_4_5_8 (v129, v132) _ ⟨(ra_ HO130.out), (ra_ HO133.out), hb_⟩)
                  · skip; rintro ⟨v129, v132⟩ w19 ⟨h0_, h1_, h2_⟩; have n0_ : Aside0 (Kd.R (Kd.int .u8) 5 w19 w.heap.size (fun k_ => some k_ ≠ (v132 : Value).ownBlock) v129 y128) := ⟨h0_⟩; have n1_ : Aside0 (Kd.R (Kd.int .u8) 5 w19 w.heap.size (fun k_ => some k_ ≠ (v129 : Value).ownBlock) v132 y131) := ⟨h1_⟩; have n2_ : Aside0 (Below w.heap.size w w19) := ⟨h2_⟩; clear HB h0_ h1_ h2_; have HO130 := n0_; have HO133 := n1_; have HB := n2_; clear n0_ n1_ n2_; have hHeld := trivial; refine norm_ sb_ ?_; refine one_ (i := 8) (N := some 26) #[true, true, true, true, true, true, true, true, true, false, false, false] rfl rfl (one_of HT_.out (by kernel_rfl)) (by decide) (fun K hK => ?_); refine goes_ Try.func53 (by kernel_rfl) rfl #[.int .i64 a1] (by rfl) rfl rfl la_ ?_; with_reducible refine (samphireref15_number.calls kj2 a1 t134 _ A10.out).mono ?_
                    rintro e w20 ⟨rfl, hb⟩; refine ⟨_, rfl, ?_⟩; replace HO130 := Aside0.mk (Kd.R_below (ra_ HO130.out) hb); replace HO133 := Aside0.mk (Kd.R_below (ra_ HO133.out) hb); replace HB := Aside0.mk (below_step hb_ hb); refine hK.out _ _ trivial (fun hHeld => ?_); clear hK K; refine norm_ sa_ ?_; exact norm_ pu_ (hJ2_3_4_5_8 (v129, v132) _ ⟨(ra_ HO130.out), (ra_ HO133.out), hb_⟩)
                rintro ⟨v129, v132⟩ w20 ⟨h0_, h1_, h2_⟩; have n0_ : Aside0 (Kd.R (Kd.int .u8) 5 w20 w.heap.size (fun k_ => some k_ ≠ (v132 : Value).ownBlock) v129 y128) := ⟨h0_⟩; have n1_ : Aside0 (Kd.R (Kd.int .u8) 5 w20 w.heap.size (fun k_ => some k_ ≠ (v129 : Value).ownBlock) v132 y131) := ⟨h1_⟩; have n2_ : Aside0 (Below w.heap.size w w20) := ⟨h2_⟩; clear HB h0_ h1_ h2_; have HO130 := n0_; have HO133 := n1_; have HB := n2_; clear n0_ n1_ n2_; have hHeld := trivial; refine norm_ sb_ ?_; refine pz_ 9 27 rfl rfl (any_of HT_.out (by kernel_rfl)) ?_; refine pz_ 10 4 rfl rfl (any_of HT_.out (by kernel_rfl)) ?_; refine pz_ 11 5 rfl rfl (any_of HT_.out (by kernel_rfl)) ?_; refine done_ (done_of HT_.out (by kernel_rfl)) ?_; try go_wp2
                go_ret2
                exact ⟨ew_, hb_⟩
              · rw [if_neg c11] at H; exact absurd H (by simp)
            · rw [if_neg c9] at H; exact absurd H (by simp)
          · rw [if_neg c8] at H; exact absurd H (by simp)
end Go.Proofs.Ytbkbganflnemeaa.Pr
end

section
namespace Go.Proofs.Ytbkbganflnemeaa.Pr
open Go.RowKit Go.Deep Go.Proofs.YtbkbganflnemeaaW.PrintWords Go.Proofs.YtbkbganflnemeaaW.PrintLast Go.Proofs.YtbkbganflnemeaaW.PrintMore
set_option maxHeartbeats 2000000
theorem rnonce_f (k : Nat) (who n : Int) : samphireref15_Nonce.f (k + 11) who n = some (nonceF who n) := by
 have hno : ∀ m, samphireref15_Nonce.j0 (m + 1) who n true = some (⟨#[]⟩, 1) := fun m => by rw [samphireref15_Nonce.j0, if_pos rfl]
 unfold samphireref15_Nonce.f nonceF
 by_cases h0 : who < 0
 ·rw [if_pos h0, hno, if_pos (.inl h0)]
 ·rw [if_neg h0]
  by_cases h6 : who > 6
  ·rw [if_pos h6, hno, if_pos (.inr (.inl h6))]
  ·rw [if_neg h6]
   by_cases hn : n < 0
   ·rw [decide_eq_true hn, hno, if_pos (.inr (.inr hn))]
   ·rw [decide_eq_false hn, if_neg (by omega), samphireref15_Nonce.j0, if_neg (by decide)]
    by_cases hs : n > 1099511627775
    ·rw [if_pos hs, if_pos (by omega)]
    ·have e1 : numT n = txt (byN n 6) := if_pos (by unfold timeB; exact decide_eq_true (by omega))
     rw [if_neg hs, if_neg (by omega), Option.bind_some, if_pos (by decide), Option.bind_some, one_str, noughts_str 5, if_pos (by rw [txt_size, txt_size]; simp), rnum_f k, Option.bind_some, e1, ← txt_append,
      if_pos (by rw [txt_size, txt_size, byN_length _ _ (by decide)]; simp), ← txt_append]
     rfl
theorem byN_6 (n : Int) : byN n 6 = [(n / 1099511627776 % 256).toNat, (n / 4294967296 % 256).toNat, (n / 16777216 % 256).toNat, (n / 65536 % 256).toNat, (n / 256 % 256).toNat, (n % 256).toNat] := by
 simp [byN, roomL, List.range, List.range.loop]
theorem nonce_inj (x y z t : Int) (h0 : (nonceF x y).2 = 0) (h1 : (nonceF z t).2 = 0) : ((nonceF x y).1 = (nonceF z t).1) ↔ (x = z ∧ y = t) := by
 unfold nonceF at h0 h1 ⊢
 split at h0
 ·cases h0
 ·rename_i a1
  split at h0
  ·cases h0
  ·rename_i a2
   split at h1
   ·cases h1
   ·rename_i b1
    split at h1
    ·cases h1
    ·rename_i b2
     rw [if_neg a1, if_neg a2, if_neg b1, if_neg b2]
     constructor
     ·intro h
      have hb : nonceL x y = nonceL z t := by
       have := congrArg bys h
       rwa [bys_txt (nonceL_lt _ _), bys_txt (nonceL_lt _ _)] at this
      unfold nonceL at hb
      rw [byN_6, byN_6] at hb
      simp only [List.cons.injEq, and_true, true_and] at hb
      obtain ⟨c0, c1, c2, c3, c4, c5, c6⟩ := hb
      unfold oneN at c0
      omega
     ·rintro ⟨rfl, rfl⟩
      rfl
theorem nonce_size (x y : Int) (h0 : (nonceF x y).2 = 0) : (nonceF x y).1.size = 12 := by
 unfold nonceF at h0 ⊢
 split at h0
 ·cases h0
 ·rename_i a1
  split at h0
  ·cases h0
  ·rename_i a2
   rw [if_neg a1, if_neg a2, txt_size, nonceL_length]
end Go.Proofs.Ytbkbganflnemeaa.Pr
end

section
namespace Go.Proofs.Ytbkbganflnemeaa.Pr
open Go.RowKit Go.Deep Go.Proofs.YtbkbganflnemeaaW.PrintWords Go.Proofs.YtbkbganflnemeaaW.PrintLast Go.Proofs.YtbkbganflnemeaaW.PrintMore
set_option maxHeartbeats 2000000
theorem eq_two (d : Nat) (x y z t : Int) (w : World) : (Op.equalIn (d + 2) 22 (.agg #[.int .i64 x, .int .i64 y]) (.agg #[.int .i64 z, .int .i64 t])).run Try.prog w = .ok (x == z && y == t) w := by
 have h : (Try.prog.info? 3).isSome = true := by kernel_rfl
 obtain ⟨i, hi⟩ := Option.isSome_iff_exists.mp h
 have hc : Try.prog.cellsOf 3 = 1 := by kernel_rfl
 rw [run_equalIn_array (w := w) (d + 1) _ _ Try.underlying22 hi, hc]
 simp only [show List.range 2 = [0, 1] from rfl, Op.eqItems]
 go_simp
 by_cases h1 : x = z
 ·by_cases h2 : y = t
  ·rw [if_pos h1, if_pos h2, beq_iff_eq.mpr h1, beq_iff_eq.mpr h2]; rfl
  ·rw [if_pos h1, if_neg h2, beq_iff_eq.mpr h1, beq_eq_false_iff_ne.mpr h2]; rfl
 ·rw [if_neg h1, beq_eq_false_iff_ne.mpr h1]; rfl
attribute [local go_sem high] eq_two
def TwoAt (g : Nat) (x y z t : Int) (W : World) : Prop := W.heap[g]? = some (.cells #[.int .i64 x, .int .i64 y] 22 (0, 0)) ∧ W.heap[g + 1]? = some (.cells #[.int .i64 z, .int .i64 t] 22 (0, 0))
theorem TwoAt.below {g : Nat} {x y z t : Int} {W W' : World} (h : TwoAt g x y z t W) (hb : Below W.heap.size W W') : TwoAt g x y z t W' :=
 ⟨(hb.block g (blk_lt h.1)).trans h.1, (hb.block (g + 1) (blk_lt h.2)).trans h.2⟩
theorem TwoAt.cells {g : Nat} {x y z t : Int} {W : World} (h : TwoAt g x y z t W) : W.cell? ⟨g, 0, none⟩ = some (.int .i64 x) ∧ W.cell? ⟨g, 1, none⟩ = some (.int .i64 y) ∧ W.cell? ⟨g + 1, 0, none⟩ = some (.int .i64 z) ∧ W.cell? ⟨g + 1, 1, none⟩ = some (.int .i64 t) := by
 refine ⟨?_, ?_, ?_, ?_⟩
 ·rw [cell_of_row _ _ _ _ _ _ h.1]; rfl
 ·rw [cell_of_row _ _ _ _ _ _ h.1]; rfl
 ·rw [cell_of_row _ _ _ _ _ _ h.2]; rfl
 ·rw [cell_of_row _ _ _ _ _ _ h.2]; rfl
set_option maxRecDepth 100000 in
theorem nonces_calls (x y z t : Int) (w : World) :
  Calls Try.prog 3 #[.agg #[.int .i64 x, .int .i64 y], .agg #[.int .i64 z, .int .i64 t]] w fun e w' => e = .returned (.bool true) ∧ Below w.heap.size w w' := by
 have H1 := Aside0.mk (fun W => keys_Nonce.calls 1 x y (nonceF x y).1 (nonceF x y).2 W (nonce_f 0 x y))
 have H2 := Aside0.mk (fun W => samphireref15_Nonce.calls 11 x y (nonceF x y).1 (nonceF x y).2 W (rnonce_f 0 x y))
 have H3 := Aside0.mk (fun W => keys_Nonce.calls 1 z t (nonceF z t).1 (nonceF z t).2 W (nonce_f 0 z t))
 have H4 := Aside0.mk (fun W => samphirelaw15_awake.calls 2 true W (keys_awake_f 0))
 have HI := Aside0.mk (nonce_inj x y z t)
 have HS := Aside0.mk (nonce_size x y)
 generalize (nonceF x y).1 = S at *
 generalize (nonceF x y).2 = e1 at *
 generalize (nonceF z t).1 = T at *
 generalize (nonceF z t).2 = e2 at *
 go_enter Try.func3, Try.ntmps3
 go_wp2_with (fail)
 have B0 : Aside0 (TwoAt w.heap.size x y z t ((w.alloc (Obj.cells #[Value.int IntKind.i64 x, Value.int IntKind.i64 y] 22)).alloc (Obj.cells #[Value.int IntKind.i64 z, Value.int IntKind.i64 t] 22))) := ⟨blk_alloc (blk_new _ _) _, by have := blk_new (w.alloc (Obj.cells #[Value.int IntKind.i64 x, Value.int IntKind.i64 y] 22)) (Obj.cells #[Value.int IntKind.i64 z, Value.int IntKind.i64 t] 22); simpa using this⟩
 have HB0 : Aside0 (Below w.heap.size w ((w.alloc (Obj.cells #[Value.int IntKind.i64 x, Value.int IntKind.i64 y] 22)).alloc (Obj.cells #[Value.int IntKind.i64 z, Value.int IntKind.i64 t] 22))) := ⟨below_alloc (below_alloc (Below.refl _ _) _) _⟩
 generalize ((w.alloc (Obj.cells #[Value.int IntKind.i64 x, Value.int IntKind.i64 y] 22)).alloc (Obj.cells #[Value.int IntKind.i64 z, Value.int IntKind.i64 t] 22)) = W0 at *
 refine (H1.out _).mono ?_
 rintro e w1 ⟨rfl, hb⟩
 have B1 := Aside0.mk (B0.out.below hb)
 have HB1 := Aside0.mk (below_then HB0.out HB0.out.size hb)
 clear hb B0 HB0
 obtain ⟨c1, c2, c3, c4⟩ := B1.out.cells
 go_wp2_with (fail)
 refine (H2.out _).mono ?_
 rintro e w2 ⟨rfl, hb⟩
 have B2 := Aside0.mk (B1.out.below hb)
 have HB2 := Aside0.mk (below_then HB1.out HB1.out.size hb)
 clear hb B1 HB1 c1 c2 c3 c4
 obtain ⟨c1, c2, c3, c4⟩ := B2.out.cells
 go_wp2_with (fail)
 refine (H3.out _).mono ?_
 rintro e w3 ⟨rfl, hb⟩
 have B3 := Aside0.mk (B2.out.below hb)
 have HB3 := Aside0.mk (below_then HB2.out HB2.out.size hb)
 clear hb B2 HB2 c1 c2 c3 c4
 obtain ⟨c1, c2, c3, c4⟩ := B3.out.cells
 by_cases h1 : e1 = 0
 ·by_cases h2 : e2 = 0
  ·subst h1 h2
   have hs := HS.out rfl
   have hi := HI.out rfl rfl
   have d1 : ((S.size : Int) == 12) = true := by rw [beq_iff_eq]; omega
   have hd := eq_true (show (S.toList == T.toList) = (x == z && y == t) by
    have hST : S.toList = T.toList ↔ S = T := ⟨fun h => by
     rw [ByteArray.toList_eq, ByteArray.toList_eq] at h
     exact ByteArray.ext (Array.ext' h), fun h => by rw [h]⟩
    rw [Bool.eq_iff_iff, beq_iff_eq, hST, hi, Bool.and_eq_true, beq_iff_eq, beq_iff_eq])
   clear HS HI hs hi
   go_wp2_with (fail)
   refine (H4.out _).mono ?_
   rintro e w4 ⟨rfl, hb⟩
   have HB4 := Aside0.mk (below_then HB3.out HB3.out.size hb)
   go_wp2_with (fail)
   go_ret
   exact ⟨congrArg (fun b => Ending.returned (Value.bool b)) (beq_iff_eq.mpr (of_eq_true hd)), HB4.out⟩
  ·have d1 : (e1 != 0) = false := by rw [h1]; rfl
   have d2 : (e2 != 0) = true := by rw [bne_iff_ne]; exact h2
   clear h1 h2 HS HI
   go_wp2_with (fail)
   refine (H4.out _).mono ?_
   rintro e w4 ⟨rfl, hb⟩
   have HB4 := Aside0.mk (below_then HB3.out HB3.out.size hb)
   go_wp2_with (fail)
   go_ret
   exact ⟨rfl, HB4.out⟩
 ·have d1 : (e1 != 0) = true := by rw [bne_iff_ne]; exact h1
  clear h1 HS HI
  go_wp2_with (fail)
  refine (H4.out _).mono ?_
  rintro e w4 ⟨rfl, hb⟩
  have HB4 := Aside0.mk (below_then HB3.out HB3.out.size hb)
  go_wp2_with (fail)
  go_ret
  exact ⟨rfl, HB4.out⟩
end Go.Proofs.Ytbkbganflnemeaa.Pr
end

/- Joined texts (pack.py): what the statement's proof needs, part 3. No condition. -/
import Derived.Below
import Derived.Deep.Draws
import Derived.Deep.AppendLies
import Derived.Maps.AppendAt
import Derived.OwnWalk
import Derived.Laws.BytesArg
import Derived.Laws.MakeOwn
import Derived.Laws.OwnMore
import Derived.Deep.OwnRows
import Derived.Tactics
import Derived.Lib.ConvBytes
import Derived.Laws.Slices
import Derived.WalkKit
import Derived.KernelRfl
import Derived.RowKit3
import Derived.Deep.LoopGhost
import Derived.Deep.QuietTactic
import Derived.BigQuiet
import Derived.WideLaws
import Derived.Deep.DeepCutAuto
import Derived.Deep.CutBlock
import Derived.Deep.RegionHeld3
import Derived.Laws.Rows
import Derived.Lib.AppendStr
import Derived.ArgAppend
import Derived.Laws.IdiomCopy
import Derived.RowKit
import Derived.OrdersHeld
import Derived.Laws.BitsLemmas
import Derived.Laws.StructEq
import Derived.Shelf.Strings.Builder1
import Derived.Shelf.Strings.Builder2
import Derived.Shelf.Strings.OnBuilder
import Derived.Shelf.Strings.BuilderF
import Derived.Shelf.Strings.Prefix
import Derived.Shelf.Bits.Mul64
import Derived.Shelf.Strings.Repeat
import Derived.Test.YtbkbganflnemeaaProg
import Derived.Deep.RegionLaw
import Derived.StillTailTactics
import Derived.Deep.Light
import Derived.Deep.RegionHeldLaw
import Derived.Deep.DrawnRows
import Derived.IntWalk
import Derived.Deep.WholeRow
import Derived.Laws.CopyOwn
import Derived.Maps.OwnSet
import Derived.Lib.BufferWrite
import Derived.Test.YtbkbganflnemeaaRows
import Derived.ProofKit
import Derived.OpenShut
import Derived.ShutString
import Derived.ChangeOld
import Derived.SizedLaws
import Derived.Test.YtbkbganflnemeaaKD1
import Derived.Test.YtbkbganflnemeaaKD2
section
namespace Go.Proofs.Ytbkbganflnemeaa.Pr
open Go.RowKit Go.Proofs.YtbkbganflnemeaaW.PrintWords Go.Proofs.YtbkbganflnemeaaW.PrintLast Go.Proofs.YtbkbganflnemeaaW.PrintMore
attribute [local go_sem] max2_int min2_int max_two min_two max_three min_three max_four min_four   -- for this text's walks alone
set_option linter.unusedVariables false
set_option linter.unusedSimpArgs false
mutual
def samphireref02_Block.j0 : Nat → ByteArray → ByteArray → Bool → Option (ByteArray × Int)
  | 0, _, _, _ => none
  | k + 1, x0, x1, x30 => if x30 = true then (some ((⟨#[]⟩ : ByteArray), 1)) else ((samphireref02_schedule.f k x1).bind fun t180 => ((samphireref02_constants.f).bind fun t183 => ((samphireref01_Big.f k x0).bind fun bt186 => ((samphireref01_Big.f k x0).bind fun bt190 => (samphireref02_Block.l0 k t180 t183 bt186.1 bt190.1 0)))))
def samphireref02_Block.l0 : Nat → List Int → List Int → List Int → List Int → Int → Option (ByteArray × Int)
  | 0, _, _, _, _, _ => none
  | k + 1, x6, x7, x8, x10, x12 => if x12 < 64 then (if 0 < (x10.length : Int) then (if 1 < (x10.length : Int) then (if 2 < (x10.length : Int) then (if 4 < (x10.length : Int) then (if 5 < (x10.length : Int) then (if 6 < (x10.length : Int) then (if 7 < (x10.length : Int) then ((samphireref02_right.f (rd x10 4) 6).bind fun t201 => ((samphireref02_right.f (rd x10 4) 11).bind fun t202 => ((samphireref02_right.f (rd x10 4) 25).bind fun t203 => ((samphireref01_Word.f (Go.bits .xor .i64 (-1) (rd x10 4))).bind fun t204 => (if 0 ≤ x12 then (if x12 < (x7.length : Int) then (if x12 < (x6.length : Int) then ((samphireref01_Word.f (wrap64 ((wrap64 ((wrap64 ((wrap64 ((rd x10 7) + (Go.bits .xor .i64 (Go.bits .xor .i64 t201 t202) t203))) + (Go.bits .xor .i64 (Go.bits .and .i64 (rd x10 4) (rd x10 5)) (Go.bits .and .i64 t204 (rd x10 6))))) + (rd x7 x12))) + (rd x6 x12)))).bind fun t207 => ((samphireref02_right.f (rd x10 0) 2).bind fun t208 => ((samphireref02_right.f (rd x10 0) 13).bind fun t209 => ((samphireref02_right.f (rd x10 0) 22).bind fun t210 => ((samphireref01_Word.f (wrap64 ((Go.bits .xor .i64 (Go.bits .xor .i64 t208 t209) t210) + (Go.bits .xor .i64 (Go.bits .xor .i64 (Go.bits .and .i64 (rd x10 0) (rd x10 1)) (Go.bits .and .i64 (rd x10 0) (rd x10 2))) (Go.bits .and .i64 (rd x10 1) (rd x10 2)))))).bind fun t211 => ((samphireref01_Word.f (wrap64 (t207 + t211))).bind fun t212 => (if 3 < (x10.length : Int) then ((samphireref01_Word.f (wrap64 ((rd x10 3) + t207))).bind fun t214 => (samphireref02_Block.l0 k x6 x7 x8 (([t212, rd x10 0, rd x10 1, rd x10 2, t214, rd x10 4, rd x10 5, rd x10 6] : List Int)) (wrap64 (x12 + 1)))) else (none)))))))) else (none)) else (none)) else (none)))))) else (none)) else (none)) else (none)) else (none)) else (none)) else (none)) else (none)) else (samphireref02_Block.l1 k x8 x10 ([] : List Int) 0)
def samphireref02_Block.l1 : Nat → List Int → List Int → List Int → Int → Option (ByteArray × Int)
  | 0, _, _, _, _ => none
  | k + 1, x8, x10, x21, x22 => if x22 < 8 then (if 0 ≤ x22 then (if x22 < (x8.length : Int) then (if x22 < (x10.length : Int) then ((samphireref01_Word.f (wrap64 ((rd x8 x22) + (rd x10 x22)))).bind fun t220 => (if x21.length < 17592186044416 then (samphireref02_Block.l1 k x8 x10 (x21 ++ [t220]) (wrap64 (x22 + 1))) else (none))) else (none)) else (none)) else (none)) else ((samphireref01_PutBig.f k x21).bind fun t224 => (some (t224, 0)))
end
def samphireref02_Block.f (k : Nat) (a0 : ByteArray) (a1 : ByteArray) : Option (ByteArray × Int) := if (a0.size : Int) = 32 then (samphireref02_Block.j0 k a0 a1 ((a1.size : Int) != 64)) else (samphireref02_Block.j0 k a0 a1 true)
def samphireref02_Block.T10 : Bool × List (List Nat × List Nat) := (true, [([], []), ([0], [0]), ([1], [1]), ([], []), ([3], [3]), ([4], [4]), ([], []), ([6], [6]), ([7], [7]), ([2, 0, 1, 2], [2]), ([5, 9, 0, 1, 2, 3, 4, 5, 9], [5]), ([8, 10, 0, 1, 2, 3, 4, 5, 6, 7, 8, 9, 10], [8])])
def samphireref02_Block.B10 : List Nat := [0, 1, 3, 0, 8, 24, 0, 64, 192, 7, 575, 2047]
theorem samphireref02_Block.tab10 : rtab .any (opsOf Try.f148 10) = samphireref02_Block.T10 := by kernel_rfl
theorem samphireref02_Block.bits10 : waitsOk samphireref02_Block.T10.2 samphireref02_Block.B10 = true := by kernel_rfl
def samphireref02_Block.T11 : Bool × List (List Nat × List Nat) := (true, [([], []), ([0], [0]), ([1], [1]), ([], []), ([3], [3]), ([4], [4]), ([], []), ([6], [6]), ([7], [7]), ([2, 0, 1, 2], [2]), ([5, 9, 0, 1, 2, 3, 4, 5, 9], [5]), ([8, 10, 0, 1, 2, 3, 4, 5, 6, 7, 8, 9, 10], [8])])
def samphireref02_Block.B11 : List Nat := [0, 1, 3, 0, 8, 24, 0, 64, 192, 7, 575, 2047]
theorem samphireref02_Block.tab11 : rtab .any (opsOf Try.f148 11) = samphireref02_Block.T11 := by kernel_rfl
theorem samphireref02_Block.bits11 : waitsOk samphireref02_Block.T11.2 samphireref02_Block.B11 = true := by kernel_rfl
def samphireref02_Block.T12 : Bool × List (List Nat × List Nat) := (true, [([], []), ([0], [0]), ([1], [1]), ([], []), ([3], [3]), ([], []), ([5, 4], [5]), ([4, 6], [4, 6]), ([], []), ([8, 6], [8]), ([7, 9], [7, 9]), ([2, 10], [2, 10]), ([], []), ([], []), ([12, 13], [12, 13]), ([], []), ([15], [15]), ([16, 9], [16]), ([], []), ([17, 18], [17, 18]), ([14, 19], [14, 19]), ([11, 20], [11, 20]), ([], []), ([], []), ([22, 23], [22, 23]), ([24], [24]), ([21, 25], [21, 25]), ([], []), ([], []), ([27, 28], [27, 28]), ([29], [29]), ([26, 30], [26, 30]), ([31, 17], [31]), ([32, 32, 0, 1, 2, 3, 4, 5, 6, 7, 8, 9, 10, 11, 12, 13, 14, 15, 16, 17, 18, 19, 20, 21, 22, 23, 24, 25, 26, 27, 28, 29, 30, 31, 32], [32])])
def samphireref02_Block.B12 : List Nat := [0, 1, 3, 0, 8, 0, 56, 120, 0, 376, 1016, 2047, 0, 0, 12288, 0, 32768, 99192, 0, 492408, 1045368, 2097151, 0, 0, 12582912, 29360128, 67108863, 0, 0, 402653184, 939524096, 2147483647, 4294967295, 8589934591]
theorem samphireref02_Block.tab12 : rtab .any (opsOf Try.f148 12) = samphireref02_Block.T12 := by kernel_rfl
theorem samphireref02_Block.bits12 : waitsOk samphireref02_Block.T12.2 samphireref02_Block.B12 = true := by kernel_rfl
def samphireref02_Block.T14 : Bool × List (List Nat × List Nat) := (true, [([], []), ([], []), ([0, 1], [0, 1]), ([2], [2]), ([], []), ([], []), ([], []), ([], []), ([7], [7]), ([8], [8]), ([], []), ([9, 10], [9, 10]), ([11, 3], [11]), ([], []), ([], []), ([], []), ([3, 4, 5, 6, 12, 13, 14, 15], [3, 4, 5, 6, 12, 13, 14, 15]), ([16, 12, 0, 1, 2, 3, 4, 5, 6, 7, 8, 9, 10, 11, 12, 13, 14, 15, 16], [7, 16])])
def samphireref02_Block.B14 : List Nat := [0, 0, 3, 7, 0, 0, 0, 0, 128, 384, 0, 1920, 3983, 0, 0, 0, 65535, 131071]
theorem samphireref02_Block.tab14 : rtab .any (opsOf Try.f148 14) = samphireref02_Block.T14 := by kernel_rfl
theorem samphireref02_Block.bits14 : waitsOk samphireref02_Block.T14.2 samphireref02_Block.B14 = true := by kernel_rfl
def samphireref02_Block.T19 : Bool × List (List Nat × List Nat) := (true, [([], []), ([], []), ([], []), ([1, 2], [1, 2]), ([3], [3]), ([], []), ([], []), ([5, 6], [5, 6]), ([7], [7]), ([4, 8], [4, 8]), ([9], [9]), ([10], [10]), ([0, 11, 10], [0, 11]), ([12, 12, 0, 1, 2, 3, 4, 5, 6, 7, 8, 9, 10, 11, 12], [0, 12])])
def samphireref02_Block.B19 : List Nat := [0, 0, 0, 6, 14, 0, 0, 96, 224, 510, 1022, 2046, 4095, 8191]
theorem samphireref02_Block.tab19 : rtab .any (opsOf Try.f148 19) = samphireref02_Block.T19 := by kernel_rfl
theorem samphireref02_Block.bits19 : waitsOk samphireref02_Block.T19.2 samphireref02_Block.B19 = true := by kernel_rfl
set_option maxHeartbeats 8000000 in
set_option maxRecDepth 100000 in
theorem samphireref02_Block.calls (k : Nat) (a0 : ByteArray) (a1 : ByteArray) (r1 : ByteArray) (r2 : Int) (w : World) (h : samphireref02_Block.f k a0 a1 = some (r1, r2)) :
    Calls Try.prog 148 #[.string a0, .string a1] w fun e w' => e = .returned (.tuple #[.string r1, .int .i64 r2]) ∧ Below w.heap.size w w' := by
  have HB := Aside0.mk (Below.refl w.heap.size w)
  have H : (if (a0.size : Int) = 32 then (samphireref02_Block.j0 k a0 a1 ((a1.size : Int) != 64)) else (samphireref02_Block.j0 k a0 a1 true)) = some (r1, r2) := h
  clear h
  have HC3 := Aside0.mk H
  clear H
  go_enter Try.func148, Try.ntmps148
  go_upto_region 1 with (fail)
  go_cut [30] (fun v30 wc => ∃ (kq : Nat) (x30_2 : Bool), v30 = .bool x30_2 ∧ Aside0 (samphireref02_Block.j0 kq a0 a1 x30_2 = some (r1, r2)) ∧ Aside0 (kq ≤ k) ∧ Aside0 (Below w.heap.size w wc))
  case first =>
    have H := HC3.out
    clear HC3
    by_cases c4 : (a0.size : Int) = 32
    · rw [if_pos c4] at H
      have c4b0 : ((a0.size : Int) == 32) = true := beq_iff_eq.mpr c4
      have c4b1 : ((a0.size : Int) != 32) = false := bne_eq_false_iff_eq.mpr c4
      clear c4
      (first | rw [c4b0] | (simp only [i64_w, i32_w]; rw [c4b0]) | skip)
      have H' := Aside0.mk H
      clear H
      go_wp2
      go_meet
      case rel => exact ⟨_, (((a1.size : Int) != 64)), (by first | rfl | (simp; done) | (simp [*]; done)), H', ⟨by first | omega | exact Nat.le_refl _⟩, ⟨by repeat (first | (with_reducible first | exact HB.out | apply below_alloc | apply pw_below_drewN | apply below_drew1) | exact HB.out)⟩⟩
    · rw [if_neg c4] at H
      have c4b0 : ((a0.size : Int) == 32) = false := beq_eq_false_iff_ne.mpr c4
      have c4b1 : ((a0.size : Int) != 32) = true := bne_iff_ne.mpr c4
      (first | rw [c4b0] | (simp only [i64_w, i32_w]; rw [c4b0]) | skip)
      have H' := Aside0.mk H
      clear H
      go_wp2
      go_meet
      case rel => exact ⟨_, (true), (by first | rfl | (simp; done) | (simp [*]; done)), H', ⟨by first | omega | exact Nat.le_refl _⟩, ⟨by repeat (first | (with_reducible first | exact HB.out | apply below_alloc | apply pw_below_drewN | apply below_drew1) | exact HB.out)⟩⟩
  case rest =>
    clear HC3
    try clear c1
    try clear p2
    try clear c4
    try clear c4b0
    try clear c4b1
    obtain ⟨kq, x30_2, rfl, HA, HJ2, HB⟩ := hcut
    cases kq with
    | zero => exact absurd HA.out (by simp [samphireref02_Block.j0])
    | succ kj2 =>
      have H := HA.out
      clear HA
      simp only [samphireref02_Block.j0] at H
      by_cases c5 : x30_2 = true
      · subst c5
        have H1 : (some ((⟨#[]⟩ : ByteArray), 1)) = some (r1, r2) := by rw [if_pos rfl] at H; exact H
        clear H
        have H := H1
        clear H1
        simp only [Option.some.injEq, Prod.mk.injEq] at H
        obtain ⟨rfl, rfl⟩ := H
        go_wp2
        go_ret2
        exact ⟨by first | rfl | (simp [errW_none, errW_some] <;> rfl) | (simp [*, errW_none, errW_some] <;> rfl), by repeat (first | (with_reducible first | exact HB.out | apply below_alloc | apply pw_below_drewN | apply below_drew1) | exact HB.out)⟩
      · replace c5 := Bool.eq_false_iff.mpr c5
        subst c5
        have H1 : ((samphireref02_schedule.f kj2 a1).bind fun t180 => ((samphireref02_constants.f).bind fun t183 => ((samphireref01_Big.f kj2 a0).bind fun bt186 => ((samphireref01_Big.f kj2 a0).bind fun bt190 => (samphireref02_Block.l0 kj2 t180 t183 bt186.1 bt190.1 0))))) = some (r1, r2) := by rw [if_neg (show ¬ (false = true) by decide)] at H; exact H
        clear H
        have H := H1
        clear H1
        replace H := Option.bind_eq_some_iff.mp H
        obtain ⟨t180, A60, H⟩ := H
        replace H : ((samphireref02_constants.f).bind fun t183 => ((samphireref01_Big.f kj2 a0).bind fun bt186 => ((samphireref01_Big.f kj2 a0).bind fun bt190 => (samphireref02_Block.l0 kj2 t180 t183 bt186.1 bt190.1 0)))) = some (r1, r2) := H
        have A6 := Aside0.mk A60
        clear A60
        replace H := Option.bind_eq_some_iff.mp H
        obtain ⟨t183, A70, H⟩ := H
        replace H : ((samphireref01_Big.f kj2 a0).bind fun bt186 => ((samphireref01_Big.f kj2 a0).bind fun bt190 => (samphireref02_Block.l0 kj2 t180 t183 bt186.1 bt190.1 0))) = some (r1, r2) := H
        have A7 := Aside0.mk A70
        clear A70
        replace H := Option.bind_eq_some_iff.mp H
        obtain ⟨⟨t186, t187⟩, A80, H⟩ := H
        replace H : ((samphireref01_Big.f kj2 a0).bind fun bt190 => (samphireref02_Block.l0 kj2 t180 t183 t186 bt190.1 0)) = some (r1, r2) := H
        have A8 := Aside0.mk A80
        clear A80
        replace H := Option.bind_eq_some_iff.mp H
        obtain ⟨⟨t190, t191⟩, A90, H⟩ := H
        replace H : (samphireref02_Block.l0 kj2 t180 t183 t186 t190 0) = some (r1, r2) := H
        have A9 := Aside0.mk A90
        clear A90
        have H' := Aside0.mk H
        clear H
        go_wp2_with (first | ((with_reducible refine gate_callee (f := 163) rfl ?_); refine goesL_ (some 32) rfl rfl Try.func163 (by kernel_rfl) rfl #[.string a1] rfl (by (try simp only [List.map_toArray, List.map_cons, List.map_nil]); first | done | rfl | (simp only [List.length_drop, List.length_take]; rfl)) ?_; (with_reducible refine (samphireref02_schedule.calls kj2 a1 t180 _ A6.out).mono ?_); rintro e w10 ⟨v181, rfl, ho0, hb⟩; refine ⟨_, rfl, ?_⟩; have n0_ := Aside0.mk (Kd.R_lower ho0 (below_size (by repeat (first | (with_reducible first | exact HB.out | apply below_alloc | apply pw_below_drewN | apply below_drew1) | exact HB.out)))); have n1_ := Aside0.mk (below_step (by repeat (first | (with_reducible first | exact HB.out | apply below_alloc | apply pw_below_drewN | apply below_drew1) | exact HB.out)) hb); clear HB; have HO182 := n0_; have HB := n1_; clear n0_ n1_; (try clear hb); (try clear hb2); (try clear hk); (try clear hi); (try clear ho0)) | ((with_reducible refine gate_callee (f := 164) rfl ?_); refine goesL_ (some 33) rfl rfl Try.func164 (by kernel_rfl) rfl #[] rfl (by (try simp only [List.map_toArray, List.map_cons, List.map_nil]); first | done | rfl | (simp only [List.length_drop, List.length_take]; rfl)) ?_; (with_reducible refine (samphireref02_constants.calls  t183 _ A7.out).mono ?_); rintro e w11 ⟨v184, rfl, ho0, hb⟩; refine ⟨_, rfl, ?_⟩; have n0_ := Aside0.mk (Kd.R_elder' (by (with_reducible repeat (first | apply Kd.R_alloc | apply Kd.R_drewN | apply Kd.R_drew)); exact HO182.out) (Kd.R_base ho0) hb); have n1_ := Aside0.mk (Kd.R_lower (Kd.R_new' ho0 (Kd.R_lt (by (with_reducible repeat (first | apply Kd.R_alloc | apply Kd.R_drewN | apply Kd.R_drew)); exact HO182.out))) (below_size (by repeat (first | (with_reducible first | exact HB.out | apply below_alloc | apply pw_below_drewN | apply below_drew1) | exact HB.out)))); have n2_ := Aside0.mk (below_step (by repeat (first | (with_reducible first | exact HB.out | apply below_alloc | apply pw_below_drewN | apply below_drew1) | exact HB.out)) hb); clear HO182; clear HB; have HO182 := n0_; have HO185 := n1_; have HB := n2_; clear n0_ n1_ n2_; (try clear hb); (try clear hb2); (try clear hk); (try clear hi); (try clear ho0)) | ((with_reducible refine gate_callee (f := 165) rfl ?_); refine goesL_ (some 36) rfl rfl Try.func165 (by kernel_rfl) rfl #[.string a0] rfl (by (try simp only [List.map_toArray, List.map_cons, List.map_nil]); first | done | rfl | (simp only [List.length_drop, List.length_take]; rfl)) ?_; (with_reducible refine (samphireref01_Big.calls kj2 a0 t186 t187 _ A8.out).mono ?_); rintro e w12 ⟨v188, rfl, ho0, hb⟩; refine ⟨_, rfl, ?_⟩; have n0_ := Aside0.mk (Kd.R_elder' (by (with_reducible repeat (first | apply Kd.R_alloc | apply Kd.R_drewN | apply Kd.R_drew)); exact HO182.out) (Kd.R_base ho0) hb); have n1_ := Aside0.mk (Kd.R_elder' (by (with_reducible repeat (first | apply Kd.R_alloc | apply Kd.R_drewN | apply Kd.R_drew)); exact HO185.out) (Kd.R_base ho0) hb); have n2_ := Aside0.mk (Kd.R_lower (Kd.R_new' (Kd.R_new' ho0 (Kd.R_lt (by (with_reducible repeat (first | apply Kd.R_alloc | apply Kd.R_drewN | apply Kd.R_drew)); exact HO182.out))) (Kd.R_lt (by (with_reducible repeat (first | apply Kd.R_alloc | apply Kd.R_drewN | apply Kd.R_drew)); exact HO185.out))) (below_size (by repeat (first | (with_reducible first | exact HB.out | apply below_alloc | apply pw_below_drewN | apply below_drew1) | exact HB.out)))); have n3_ := Aside0.mk (below_step (by repeat (first | (with_reducible first | exact HB.out | apply below_alloc | apply pw_below_drewN | apply below_drew1) | exact HB.out)) hb); clear HO182; clear HO185; clear HB; have HO182 := n0_; have HO185 := n1_; have HO189 := n2_; have HB := n3_; clear n0_ n1_ n2_ n3_; (try clear hb); (try clear hb2); (try clear hk); (try clear hi); (try clear ho0)) | ((with_reducible refine gate_callee (f := 165) rfl ?_); refine goesL_ (some 41) rfl rfl Try.func165 (by kernel_rfl) rfl #[.string a0] rfl (by (try simp only [List.map_toArray, List.map_cons, List.map_nil]); first | done | rfl | (simp only [List.length_drop, List.length_take]; rfl)) ?_; (with_reducible refine (samphireref01_Big.calls kj2 a0 t190 t191 _ A9.out).mono ?_); rintro e w13 ⟨v192, rfl, ho0, hb⟩; refine ⟨_, rfl, ?_⟩; have n0_ := Aside0.mk (Kd.R_elder' (by (with_reducible repeat (first | apply Kd.R_alloc | apply Kd.R_drewN | apply Kd.R_drew)); exact HO182.out) (Kd.R_base ho0) hb); have n1_ := Aside0.mk (Kd.R_elder' (by (with_reducible repeat (first | apply Kd.R_alloc | apply Kd.R_drewN | apply Kd.R_drew)); exact HO185.out) (Kd.R_base ho0) hb); have n2_ := Aside0.mk (Kd.R_elder' (by (with_reducible repeat (first | apply Kd.R_alloc | apply Kd.R_drewN | apply Kd.R_drew)); exact HO189.out) (Kd.R_base ho0) hb); have n3_ := Aside0.mk (Kd.R_lower (Kd.R_new' (Kd.R_new' (Kd.R_new' ho0 (Kd.R_lt (by (with_reducible repeat (first | apply Kd.R_alloc | apply Kd.R_drewN | apply Kd.R_drew)); exact HO182.out))) (Kd.R_lt (by (with_reducible repeat (first | apply Kd.R_alloc | apply Kd.R_drewN | apply Kd.R_drew)); exact HO185.out))) (Kd.R_lt (by (with_reducible repeat (first | apply Kd.R_alloc | apply Kd.R_drewN | apply Kd.R_drew)); exact HO189.out))) (below_size (by repeat (first | (with_reducible first | exact HB.out | apply below_alloc | apply pw_below_drewN | apply below_drew1) | exact HB.out)))); have n4_ := Aside0.mk (below_step (by repeat (first | (with_reducible first | exact HB.out | apply below_alloc | apply pw_below_drewN | apply below_drew1) | exact HB.out)) hb); clear HO182; clear HO185; clear HO189; clear HB; have HO182 := n0_; have HO185 := n1_; have HO189 := n2_; have HO193 := n3_; have HB := n4_; clear n0_ n1_ n2_ n3_ n4_; (try clear hb); (try clear hb2); (try clear hk); (try clear hi); (try clear ho0)))
        go_loopg [10, 12] kj2 (fun kq v10 v12 w' => ∃ (x10_2 : List Int) (x12_2 : Int), v12 = .int .i64 x12_2 ∧ Aside0 (samphireref02_Block.l0 kq t180 t183 t186 x10_2 x12_2 = some (r1, r2)) ∧ Aside0 (kq ≤ kj2) ∧ Aside0 (Kd.R (Kd.int .i64) 3 w' w.heap.size (fun k_ => some k_ ≠ (v184 : Value).ownBlock ∧ some k_ ≠ (v188 : Value).ownBlock ∧ some k_ ≠ (v10 : Value).ownBlock) v181 t180) ∧ Aside0 (Kd.R (Kd.int .i64) 3 w' w.heap.size (fun k_ => some k_ ≠ (v181 : Value).ownBlock ∧ some k_ ≠ (v188 : Value).ownBlock ∧ some k_ ≠ (v10 : Value).ownBlock) v184 t183) ∧ Aside0 (Kd.R (Kd.int .i64) 3 w' w.heap.size (fun k_ => some k_ ≠ (v181 : Value).ownBlock ∧ some k_ ≠ (v184 : Value).ownBlock ∧ some k_ ≠ (v10 : Value).ownBlock) v188 t186) ∧ Aside0 (Kd.R (Kd.int .i64) 3 w' w.heap.size (fun k_ => some k_ ≠ (v181 : Value).ownBlock ∧ some k_ ≠ (v184 : Value).ownBlock ∧ some k_ ≠ (v188 : Value).ownBlock) v10 x10_2) ∧ Aside0 (Below w.heap.size w w'))
        case atStart => exact ⟨(t190), (0), (by first | rfl | (simp; done) | (simp [*]; done)), H', ⟨Nat.le_refl _⟩, ⟨by (with_reducible repeat (first | apply Kd.R_alloc | apply Kd.R_drewN | apply Kd.R_drew)); exact Kd.R_mono HO182.out (fun _ hk => by first | exact ⟨hk.1.1.2, ⟨hk.1.2, hk.2⟩⟩ | ((repeat' apply And.intro) <;> (with_reducible first | exact hk | exact hk.1 | exact hk.2 | exact hk.1.1 | exact hk.1.2 | exact hk.2.1 | exact hk.2.2 | exact hk.1.1.1 | exact hk.1.1.2 | exact hk.1.2.1 | exact hk.1.2.2 | exact hk.2.1.1 | exact hk.2.1.2 | exact hk.2.2.1 | exact hk.2.2.2 | exact hk.1.1.1.1 | exact hk.1.1.1.2 | exact hk.1.1.2.1 | exact hk.1.1.2.2 | exact hk.1.2.1.1 | exact hk.1.2.1.2 | exact hk.1.2.2.1 | exact hk.1.2.2.2 | exact hk.2.1.1.1 | exact hk.2.1.1.2 | exact hk.2.1.2.1 | exact hk.2.1.2.2 | exact hk.2.2.1.1 | exact hk.2.2.1.2 | exact hk.2.2.2.1 | exact hk.2.2.2.2)))⟩, ⟨by (with_reducible repeat (first | apply Kd.R_alloc | apply Kd.R_drewN | apply Kd.R_drew)); exact Kd.R_mono HO185.out (fun _ hk => by first | exact ⟨hk.1.1.2, ⟨hk.1.2, hk.2⟩⟩ | ((repeat' apply And.intro) <;> (with_reducible first | exact hk | exact hk.1 | exact hk.2 | exact hk.1.1 | exact hk.1.2 | exact hk.2.1 | exact hk.2.2 | exact hk.1.1.1 | exact hk.1.1.2 | exact hk.1.2.1 | exact hk.1.2.2 | exact hk.2.1.1 | exact hk.2.1.2 | exact hk.2.2.1 | exact hk.2.2.2 | exact hk.1.1.1.1 | exact hk.1.1.1.2 | exact hk.1.1.2.1 | exact hk.1.1.2.2 | exact hk.1.2.1.1 | exact hk.1.2.1.2 | exact hk.1.2.2.1 | exact hk.1.2.2.2 | exact hk.2.1.1.1 | exact hk.2.1.1.2 | exact hk.2.1.2.1 | exact hk.2.1.2.2 | exact hk.2.2.1.1 | exact hk.2.2.1.2 | exact hk.2.2.2.1 | exact hk.2.2.2.2)))⟩, ⟨by (with_reducible repeat (first | apply Kd.R_alloc | apply Kd.R_drewN | apply Kd.R_drew)); exact Kd.R_mono HO189.out (fun _ hk => by first | exact ⟨hk.1.1.2, ⟨hk.1.2, hk.2⟩⟩ | ((repeat' apply And.intro) <;> (with_reducible first | exact hk | exact hk.1 | exact hk.2 | exact hk.1.1 | exact hk.1.2 | exact hk.2.1 | exact hk.2.2 | exact hk.1.1.1 | exact hk.1.1.2 | exact hk.1.2.1 | exact hk.1.2.2 | exact hk.2.1.1 | exact hk.2.1.2 | exact hk.2.2.1 | exact hk.2.2.2 | exact hk.1.1.1.1 | exact hk.1.1.1.2 | exact hk.1.1.2.1 | exact hk.1.1.2.2 | exact hk.1.2.1.1 | exact hk.1.2.1.2 | exact hk.1.2.2.1 | exact hk.1.2.2.2 | exact hk.2.1.1.1 | exact hk.2.1.1.2 | exact hk.2.1.2.1 | exact hk.2.1.2.2 | exact hk.2.2.1.1 | exact hk.2.2.1.2 | exact hk.2.2.2.1 | exact hk.2.2.2.2)))⟩, ⟨by (with_reducible repeat (first | apply Kd.R_alloc | apply Kd.R_drewN | apply Kd.R_drew)); exact Kd.R_mono HO193.out (fun _ hk => by first | exact ⟨hk.1.1.2, ⟨hk.1.2, hk.2⟩⟩ | ((repeat' apply And.intro) <;> (with_reducible first | exact hk | exact hk.1 | exact hk.2 | exact hk.1.1 | exact hk.1.2 | exact hk.2.1 | exact hk.2.2 | exact hk.1.1.1 | exact hk.1.1.2 | exact hk.1.2.1 | exact hk.1.2.2 | exact hk.2.1.1 | exact hk.2.1.2 | exact hk.2.2.1 | exact hk.2.2.2 | exact hk.1.1.1.1 | exact hk.1.1.1.2 | exact hk.1.1.2.1 | exact hk.1.1.2.2 | exact hk.1.2.1.1 | exact hk.1.2.1.2 | exact hk.1.2.2.1 | exact hk.1.2.2.2 | exact hk.2.1.1.1 | exact hk.2.1.1.2 | exact hk.2.1.2.1 | exact hk.2.1.2.2 | exact hk.2.2.1.1 | exact hk.2.2.1.2 | exact hk.2.2.2.1 | exact hk.2.2.2.2)))⟩, ⟨by repeat (first | (with_reducible first | exact HB.out | apply below_alloc | apply pw_below_drewN | apply below_drew1) | exact HB.out)⟩⟩
        case round =>
          clear H'
          try clear c1
          try clear p2
          try clear c4
          try clear c4b0
          try clear c4b1
          try clear c5
          try clear p2
          obtain ⟨x10_2, x12_2, rfl, HA, HK2, HO_6, HO_7, HO_8, HO_10, HB⟩ := hrel
          cases gk with
          | zero => exact absurd HA.out (by simp [samphireref02_Block.l0])
          | succ k2 =>
            have H := HA.out
            clear HA
            simp only [samphireref02_Block.l0] at H
            by_cases c14 : x12_2 < 64
            · rw [if_pos c14] at H
              have c14b0 : decide (x12_2 < 64) = true := decide_eq_true c14
              clear c14
              by_cases c15 : 0 < (x10_2.length : Int)
              · rw [if_pos c15] at H
                have c15b0 : decide (0 < (x10_2.length : Int)) = true := decide_eq_true c15
                have c15b1 : decide (0 < x10_2.length) = true := decide_eq_true (by omega)
                clear c15
                by_cases c16 : 1 < (x10_2.length : Int)
                · rw [if_pos c16] at H
                  have c16b0 : decide (1 < (x10_2.length : Int)) = true := decide_eq_true c16
                  have c16b1 : decide (1 < x10_2.length) = true := decide_eq_true (by omega)
                  clear c16
                  by_cases c17 : 2 < (x10_2.length : Int)
                  · rw [if_pos c17] at H
                    have c17b0 : decide (2 < (x10_2.length : Int)) = true := decide_eq_true c17
                    have c17b1 : decide (2 < x10_2.length) = true := decide_eq_true (by omega)
                    clear c17
                    by_cases c18 : 4 < (x10_2.length : Int)
                    · rw [if_pos c18] at H
                      have c18b0 : decide (4 < (x10_2.length : Int)) = true := decide_eq_true c18
                      have c18b1 : decide (4 < x10_2.length) = true := decide_eq_true (by omega)
                      clear c18
                      by_cases c19 : 5 < (x10_2.length : Int)
                      · rw [if_pos c19] at H
                        have c19b0 : decide (5 < (x10_2.length : Int)) = true := decide_eq_true c19
                        have c19b1 : decide (5 < x10_2.length) = true := decide_eq_true (by omega)
                        clear c19
                        by_cases c20 : 6 < (x10_2.length : Int)
                        · rw [if_pos c20] at H
                          have c20b0 : decide (6 < (x10_2.length : Int)) = true := decide_eq_true c20
                          have c20b1 : decide (6 < x10_2.length) = true := decide_eq_true (by omega)
                          clear c20
                          by_cases c21 : 7 < (x10_2.length : Int)
                          · rw [if_pos c21] at H
                            have c21b0 : decide (7 < (x10_2.length : Int)) = true := decide_eq_true c21
                            have c21b1 : decide (7 < x10_2.length) = true := decide_eq_true (by omega)
                            clear c21
                            replace H := Option.bind_eq_some_iff.mp H
                            obtain ⟨t201, A220, H⟩ := H
                            replace H : ((samphireref02_right.f (rd x10_2 4) 11).bind fun t202 => ((samphireref02_right.f (rd x10_2 4) 25).bind fun t203 => ((samphireref01_Word.f (Go.bits .xor .i64 (-1) (rd x10_2 4))).bind fun t204 => (if 0 ≤ x12_2 then (if x12_2 < (t183.length : Int) then (if x12_2 < (t180.length : Int) then ((samphireref01_Word.f (wrap64 ((wrap64 ((wrap64 ((wrap64 ((rd x10_2 7) + (Go.bits .xor .i64 (Go.bits .xor .i64 t201 t202) t203))) + (Go.bits .xor .i64 (Go.bits .and .i64 (rd x10_2 4) (rd x10_2 5)) (Go.bits .and .i64 t204 (rd x10_2 6))))) + (rd t183 x12_2))) + (rd t180 x12_2)))).bind fun t207 => ((samphireref02_right.f (rd x10_2 0) 2).bind fun t208 => ((samphireref02_right.f (rd x10_2 0) 13).bind fun t209 => ((samphireref02_right.f (rd x10_2 0) 22).bind fun t210 => ((samphireref01_Word.f (wrap64 ((Go.bits .xor .i64 (Go.bits .xor .i64 t208 t209) t210) + (Go.bits .xor .i64 (Go.bits .xor .i64 (Go.bits .and .i64 (rd x10_2 0) (rd x10_2 1)) (Go.bits .and .i64 (rd x10_2 0) (rd x10_2 2))) (Go.bits .and .i64 (rd x10_2 1) (rd x10_2 2)))))).bind fun t211 => ((samphireref01_Word.f (wrap64 (t207 + t211))).bind fun t212 => (if 3 < (x10_2.length : Int) then ((samphireref01_Word.f (wrap64 ((rd x10_2 3) + t207))).bind fun t214 => (samphireref02_Block.l0 k2 t180 t183 t186 (([t212, rd x10_2 0, rd x10_2 1, rd x10_2 2, t214, rd x10_2 4, rd x10_2 5, rd x10_2 6] : List Int)) (wrap64 (x12_2 + 1)))) else (none)))))))) else (none)) else (none)) else (none))))) = some (r1, r2) := H
                            have A22 := Aside0.mk A220
                            clear A220
                            replace H := Option.bind_eq_some_iff.mp H
                            obtain ⟨t202, A230, H⟩ := H
                            replace H : ((samphireref02_right.f (rd x10_2 4) 25).bind fun t203 => ((samphireref01_Word.f (Go.bits .xor .i64 (-1) (rd x10_2 4))).bind fun t204 => (if 0 ≤ x12_2 then (if x12_2 < (t183.length : Int) then (if x12_2 < (t180.length : Int) then ((samphireref01_Word.f (wrap64 ((wrap64 ((wrap64 ((wrap64 ((rd x10_2 7) + (Go.bits .xor .i64 (Go.bits .xor .i64 t201 t202) t203))) + (Go.bits .xor .i64 (Go.bits .and .i64 (rd x10_2 4) (rd x10_2 5)) (Go.bits .and .i64 t204 (rd x10_2 6))))) + (rd t183 x12_2))) + (rd t180 x12_2)))).bind fun t207 => ((samphireref02_right.f (rd x10_2 0) 2).bind fun t208 => ((samphireref02_right.f (rd x10_2 0) 13).bind fun t209 => ((samphireref02_right.f (rd x10_2 0) 22).bind fun t210 => ((samphireref01_Word.f (wrap64 ((Go.bits .xor .i64 (Go.bits .xor .i64 t208 t209) t210) + (Go.bits .xor .i64 (Go.bits .xor .i64 (Go.bits .and .i64 (rd x10_2 0) (rd x10_2 1)) (Go.bits .and .i64 (rd x10_2 0) (rd x10_2 2))) (Go.bits .and .i64 (rd x10_2 1) (rd x10_2 2)))))).bind fun t211 => ((samphireref01_Word.f (wrap64 (t207 + t211))).bind fun t212 => (if 3 < (x10_2.length : Int) then ((samphireref01_Word.f (wrap64 ((rd x10_2 3) + t207))).bind fun t214 => (samphireref02_Block.l0 k2 t180 t183 t186 (([t212, rd x10_2 0, rd x10_2 1, rd x10_2 2, t214, rd x10_2 4, rd x10_2 5, rd x10_2 6] : List Int)) (wrap64 (x12_2 + 1)))) else (none)))))))) else (none)) else (none)) else (none)))) = some (r1, r2) := H
                            have A23 := Aside0.mk A230
                            clear A230
                            replace H := Option.bind_eq_some_iff.mp H
                            obtain ⟨t203, A240, H⟩ := H
                            replace H : ((samphireref01_Word.f (Go.bits .xor .i64 (-1) (rd x10_2 4))).bind fun t204 => (if 0 ≤ x12_2 then (if x12_2 < (t183.length : Int) then (if x12_2 < (t180.length : Int) then ((samphireref01_Word.f (wrap64 ((wrap64 ((wrap64 ((wrap64 ((rd x10_2 7) + (Go.bits .xor .i64 (Go.bits .xor .i64 t201 t202) t203))) + (Go.bits .xor .i64 (Go.bits .and .i64 (rd x10_2 4) (rd x10_2 5)) (Go.bits .and .i64 t204 (rd x10_2 6))))) + (rd t183 x12_2))) + (rd t180 x12_2)))).bind fun t207 => ((samphireref02_right.f (rd x10_2 0) 2).bind fun t208 => ((samphireref02_right.f (rd x10_2 0) 13).bind fun t209 => ((samphireref02_right.f (rd x10_2 0) 22).bind fun t210 => ((samphireref01_Word.f (wrap64 ((Go.bits .xor .i64 (Go.bits .xor .i64 t208 t209) t210) + (Go.bits .xor .i64 (Go.bits .xor .i64 (Go.bits .and .i64 (rd x10_2 0) (rd x10_2 1)) (Go.bits .and .i64 (rd x10_2 0) (rd x10_2 2))) (Go.bits .and .i64 (rd x10_2 1) (rd x10_2 2)))))).bind fun t211 => ((samphireref01_Word.f (wrap64 (t207 + t211))).bind fun t212 => (if 3 < (x10_2.length : Int) then ((samphireref01_Word.f (wrap64 ((rd x10_2 3) + t207))).bind fun t214 => (samphireref02_Block.l0 k2 t180 t183 t186 (([t212, rd x10_2 0, rd x10_2 1, rd x10_2 2, t214, rd x10_2 4, rd x10_2 5, rd x10_2 6] : List Int)) (wrap64 (x12_2 + 1)))) else (none)))))))) else (none)) else (none)) else (none))) = some (r1, r2) := H
                            have A24 := Aside0.mk A240
                            clear A240
                            replace H := Option.bind_eq_some_iff.mp H
                            obtain ⟨t204, A250, H⟩ := H
                            replace H : (if 0 ≤ x12_2 then (if x12_2 < (t183.length : Int) then (if x12_2 < (t180.length : Int) then ((samphireref01_Word.f (wrap64 ((wrap64 ((wrap64 ((wrap64 ((rd x10_2 7) + (Go.bits .xor .i64 (Go.bits .xor .i64 t201 t202) t203))) + (Go.bits .xor .i64 (Go.bits .and .i64 (rd x10_2 4) (rd x10_2 5)) (Go.bits .and .i64 t204 (rd x10_2 6))))) + (rd t183 x12_2))) + (rd t180 x12_2)))).bind fun t207 => ((samphireref02_right.f (rd x10_2 0) 2).bind fun t208 => ((samphireref02_right.f (rd x10_2 0) 13).bind fun t209 => ((samphireref02_right.f (rd x10_2 0) 22).bind fun t210 => ((samphireref01_Word.f (wrap64 ((Go.bits .xor .i64 (Go.bits .xor .i64 t208 t209) t210) + (Go.bits .xor .i64 (Go.bits .xor .i64 (Go.bits .and .i64 (rd x10_2 0) (rd x10_2 1)) (Go.bits .and .i64 (rd x10_2 0) (rd x10_2 2))) (Go.bits .and .i64 (rd x10_2 1) (rd x10_2 2)))))).bind fun t211 => ((samphireref01_Word.f (wrap64 (t207 + t211))).bind fun t212 => (if 3 < (x10_2.length : Int) then ((samphireref01_Word.f (wrap64 ((rd x10_2 3) + t207))).bind fun t214 => (samphireref02_Block.l0 k2 t180 t183 t186 (([t212, rd x10_2 0, rd x10_2 1, rd x10_2 2, t214, rd x10_2 4, rd x10_2 5, rd x10_2 6] : List Int)) (wrap64 (x12_2 + 1)))) else (none)))))))) else (none)) else (none)) else (none)) = some (r1, r2) := H
                            have A25 := Aside0.mk A250
                            clear A250
                            by_cases c26 : 0 ≤ x12_2
                            · rw [if_pos c26] at H
                              have c26b0 : decide (0 ≤ x12_2) = true := decide_eq_true c26
                              clear c26
                              by_cases c27 : x12_2 < (t183.length : Int)
                              · rw [if_pos c27] at H
                                have c27b0 : decide (x12_2 < (t183.length : Int)) = true := decide_eq_true c27
                                clear c27
                                by_cases c28 : x12_2 < (t180.length : Int)
                                · rw [if_pos c28] at H
                                  have c28b0 : decide (x12_2 < (t180.length : Int)) = true := decide_eq_true c28
                                  clear c28
                                  replace H := Option.bind_eq_some_iff.mp H
                                  obtain ⟨t207, A290, H⟩ := H
                                  replace H : ((samphireref02_right.f (rd x10_2 0) 2).bind fun t208 => ((samphireref02_right.f (rd x10_2 0) 13).bind fun t209 => ((samphireref02_right.f (rd x10_2 0) 22).bind fun t210 => ((samphireref01_Word.f (wrap64 ((Go.bits .xor .i64 (Go.bits .xor .i64 t208 t209) t210) + (Go.bits .xor .i64 (Go.bits .xor .i64 (Go.bits .and .i64 (rd x10_2 0) (rd x10_2 1)) (Go.bits .and .i64 (rd x10_2 0) (rd x10_2 2))) (Go.bits .and .i64 (rd x10_2 1) (rd x10_2 2)))))).bind fun t211 => ((samphireref01_Word.f (wrap64 (t207 + t211))).bind fun t212 => (if 3 < (x10_2.length : Int) then ((samphireref01_Word.f (wrap64 ((rd x10_2 3) + t207))).bind fun t214 => (samphireref02_Block.l0 k2 t180 t183 t186 (([t212, rd x10_2 0, rd x10_2 1, rd x10_2 2, t214, rd x10_2 4, rd x10_2 5, rd x10_2 6] : List Int)) (wrap64 (x12_2 + 1)))) else (none))))))) = some (r1, r2) := H
                                  have A29 := Aside0.mk A290
                                  clear A290
                                  replace H := Option.bind_eq_some_iff.mp H
                                  obtain ⟨t208, A300, H⟩ := H
                                  replace H : ((samphireref02_right.f (rd x10_2 0) 13).bind fun t209 => ((samphireref02_right.f (rd x10_2 0) 22).bind fun t210 => ((samphireref01_Word.f (wrap64 ((Go.bits .xor .i64 (Go.bits .xor .i64 t208 t209) t210) + (Go.bits .xor .i64 (Go.bits .xor .i64 (Go.bits .and .i64 (rd x10_2 0) (rd x10_2 1)) (Go.bits .and .i64 (rd x10_2 0) (rd x10_2 2))) (Go.bits .and .i64 (rd x10_2 1) (rd x10_2 2)))))).bind fun t211 => ((samphireref01_Word.f (wrap64 (t207 + t211))).bind fun t212 => (if 3 < (x10_2.length : Int) then ((samphireref01_Word.f (wrap64 ((rd x10_2 3) + t207))).bind fun t214 => (samphireref02_Block.l0 k2 t180 t183 t186 (([t212, rd x10_2 0, rd x10_2 1, rd x10_2 2, t214, rd x10_2 4, rd x10_2 5, rd x10_2 6] : List Int)) (wrap64 (x12_2 + 1)))) else (none)))))) = some (r1, r2) := H
                                  have A30 := Aside0.mk A300
                                  clear A300
                                  replace H := Option.bind_eq_some_iff.mp H
                                  obtain ⟨t209, A310, H⟩ := H
                                  replace H : ((samphireref02_right.f (rd x10_2 0) 22).bind fun t210 => ((samphireref01_Word.f (wrap64 ((Go.bits .xor .i64 (Go.bits .xor .i64 t208 t209) t210) + (Go.bits .xor .i64 (Go.bits .xor .i64 (Go.bits .and .i64 (rd x10_2 0) (rd x10_2 1)) (Go.bits .and .i64 (rd x10_2 0) (rd x10_2 2))) (Go.bits .and .i64 (rd x10_2 1) (rd x10_2 2)))))).bind fun t211 => ((samphireref01_Word.f (wrap64 (t207 + t211))).bind fun t212 => (if 3 < (x10_2.length : Int) then ((samphireref01_Word.f (wrap64 ((rd x10_2 3) + t207))).bind fun t214 => (samphireref02_Block.l0 k2 t180 t183 t186 (([t212, rd x10_2 0, rd x10_2 1, rd x10_2 2, t214, rd x10_2 4, rd x10_2 5, rd x10_2 6] : List Int)) (wrap64 (x12_2 + 1)))) else (none))))) = some (r1, r2) := H
                                  have A31 := Aside0.mk A310
                                  clear A310
                                  replace H := Option.bind_eq_some_iff.mp H
                                  obtain ⟨t210, A320, H⟩ := H
                                  replace H : ((samphireref01_Word.f (wrap64 ((Go.bits .xor .i64 (Go.bits .xor .i64 t208 t209) t210) + (Go.bits .xor .i64 (Go.bits .xor .i64 (Go.bits .and .i64 (rd x10_2 0) (rd x10_2 1)) (Go.bits .and .i64 (rd x10_2 0) (rd x10_2 2))) (Go.bits .and .i64 (rd x10_2 1) (rd x10_2 2)))))).bind fun t211 => ((samphireref01_Word.f (wrap64 (t207 + t211))).bind fun t212 => (if 3 < (x10_2.length : Int) then ((samphireref01_Word.f (wrap64 ((rd x10_2 3) + t207))).bind fun t214 => (samphireref02_Block.l0 k2 t180 t183 t186 (([t212, rd x10_2 0, rd x10_2 1, rd x10_2 2, t214, rd x10_2 4, rd x10_2 5, rd x10_2 6] : List Int)) (wrap64 (x12_2 + 1)))) else (none)))) = some (r1, r2) := H
                                  have A32 := Aside0.mk A320
                                  clear A320
                                  replace H := Option.bind_eq_some_iff.mp H
                                  obtain ⟨t211, A330, H⟩ := H
                                  replace H : ((samphireref01_Word.f (wrap64 (t207 + t211))).bind fun t212 => (if 3 < (x10_2.length : Int) then ((samphireref01_Word.f (wrap64 ((rd x10_2 3) + t207))).bind fun t214 => (samphireref02_Block.l0 k2 t180 t183 t186 (([t212, rd x10_2 0, rd x10_2 1, rd x10_2 2, t214, rd x10_2 4, rd x10_2 5, rd x10_2 6] : List Int)) (wrap64 (x12_2 + 1)))) else (none))) = some (r1, r2) := H
                                  have A33 := Aside0.mk A330
                                  clear A330
                                  replace H := Option.bind_eq_some_iff.mp H
                                  obtain ⟨t212, A340, H⟩ := H
                                  replace H : (if 3 < (x10_2.length : Int) then ((samphireref01_Word.f (wrap64 ((rd x10_2 3) + t207))).bind fun t214 => (samphireref02_Block.l0 k2 t180 t183 t186 (([t212, rd x10_2 0, rd x10_2 1, rd x10_2 2, t214, rd x10_2 4, rd x10_2 5, rd x10_2 6] : List Int)) (wrap64 (x12_2 + 1)))) else (none)) = some (r1, r2) := H
                                  have A34 := Aside0.mk A340
                                  clear A340
                                  by_cases c35 : 3 < (x10_2.length : Int)
                                  · rw [if_pos c35] at H
                                    have c35b0 : decide (3 < (x10_2.length : Int)) = true := decide_eq_true c35
                                    have c35b1 : decide (3 < x10_2.length) = true := decide_eq_true (by omega)
                                    clear c35
                                    replace H := Option.bind_eq_some_iff.mp H
                                    obtain ⟨t214, A360, H⟩ := H
                                    replace H : (samphireref02_Block.l0 k2 t180 t183 t186 (([t212, rd x10_2 0, rd x10_2 1, rd x10_2 2, t214, rd x10_2 4, rd x10_2 5, rd x10_2 6] : List Int)) (wrap64 (x12_2 + 1))) = some (r1, r2) := H
                                    have A36 := Aside0.mk A360
                                    clear A360
                                    obtain ⟨y215, hy215⟩ : ∃ y_ : List Int, y_ = (([t212, rd x10_2 0, rd x10_2 1, rd x10_2 2, t214, rd x10_2 4, rd x10_2 5, rd x10_2 6] : List Int)) := ⟨_, rfl⟩
                                    replace H : (samphireref02_Block.l0 k2 t180 t183 t186 y215 (wrap64 (x12_2 + 1))) = some (r1, r2) := by first | (rw [hy215]; with_reducible exact H) | (have H2_ := (Option.bind_some _ _).symm.trans H; rw [hy215]; with_reducible exact H2_) | (have H2_ := (Option.bind_some _ _).symm.trans H; with_reducible exact H2_) | with_reducible exact H | (rw [hy215]; exact H) | exact H
                                    have Ny215 := Aside0.mk hy215
                                    clear hy215
                                    have H' := Aside0.mk H
                                    clear H
                                    try go_wp2
                                    have n0_ := Aside0.mk (Kd.R_drew HO_6.out)
                                    have n1_ := Aside0.mk (Kd.R_drew HO_7.out)
                                    have n2_ := Aside0.mk (Kd.R_drew HO_8.out)
                                    have n3_ := Aside0.mk (Kd.R_drew HO_10.out)
                                    have n4_ := Aside0.mk (below_drew1 HB.out)
                                    clear HO_6
                                    clear HO_7
                                    clear HO_8
                                    clear HO_10
                                    clear HB
                                    have HO_6 := n0_
                                    have HO_7 := n1_
                                    have HO_8 := n2_
                                    have HO_10 := n3_
                                    have HB := n4_
                                    clear n0_ n1_ n2_ n3_ n4_
                                    obtain ⟨Ao38, co38, eo38⟩ := Kd.R_slice HO_10.out
                                    (first | subst eo38 | (injection eo38 with f1_ f2_ f3_; have f4_ := f1_.symm; have f5_ := f3_.symm; clear f1_ f2_ f3_; subst f4_; subst f5_))
                                    have p194 : 0 ≤ (0 : Int) := (by omega)
                                    have q194 : 0 < (x10_2.length : Int) := of_decide_eq_true (by first | (with_reducible assumption) | assumption)
                                    obtain ⟨ad194, e194, hx194_0⟩ := Kd.at_int (Kd.R_reads' HO_10.out).2.2 0 p194 q194
                                    cases e194
                                    have qi194 : (0 < x10_2.length) = True := eq_true (by omega)
                                    (try rw [show ((0 : Int)).toNat = 0 from rfl] at hx194_0)
                                    (try rw [Addr.add_zero'] at hx194_0)
                                    replace p194 := eq_true p194
                                    replace q194 := eq_true q194
                                    have p195 : 0 ≤ (1 : Int) := (by omega)
                                    have q195 : 1 < (x10_2.length : Int) := of_decide_eq_true (by first | (with_reducible assumption) | assumption)
                                    obtain ⟨ad195, e195, hx195_0⟩ := Kd.at_int (Kd.R_reads' HO_10.out).2.2 1 p195 q195
                                    obtain rfl : ad194 = ad195 := (by injection e195)
                                    (try simp only [show (1 : Int).toNat = 1 from rfl, Nat.reduceMul, Nat.reduceEqDiff, Go.Addr.add, ↓reduceIte] at hx195_0)
                                    have qi195 : (1 < x10_2.length) = True := eq_true (by omega)
                                    (try rw [show ((1 : Int)).toNat = 1 from rfl] at hx195_0)
                                    replace p195 := eq_true p195
                                    replace q195 := eq_true q195
                                    have p196 : 0 ≤ (2 : Int) := (by omega)
                                    have q196 : 2 < (x10_2.length : Int) := of_decide_eq_true (by first | (with_reducible assumption) | assumption)
                                    obtain ⟨ad196, e196, hx196_0⟩ := Kd.at_int (Kd.R_reads' HO_10.out).2.2 2 p196 q196
                                    obtain rfl : ad194 = ad196 := (by injection e196)
                                    (try simp only [show (2 : Int).toNat = 2 from rfl, Nat.reduceMul, Nat.reduceEqDiff, Go.Addr.add, ↓reduceIte] at hx196_0)
                                    have qi196 : (2 < x10_2.length) = True := eq_true (by omega)
                                    (try rw [show ((2 : Int)).toNat = 2 from rfl] at hx196_0)
                                    replace p196 := eq_true p196
                                    replace q196 := eq_true q196
                                    refine start_ (n := 12) (S := fun w' => w'.cell? ad194 = some (.int .i64 (rd x10_2 0)) ∧ w'.cell? ⟨ad194.block, ad194.off + 1, none⟩ = some (.int .i64 (rd x10_2 1)) ∧ w'.cell? ⟨ad194.block, ad194.off + 2, none⟩ = some (.int .i64 (rd x10_2 2))) (ds := []) #[false, false, false, false, false, false, false, false, false, false, false, false] (by kernel_rfl) rfl rfl ⟨hx194_0, hx195_0, hx196_0⟩ (fun hHeld => ?_); refine with_tabW samphireref02_Block.tab10 samphireref02_Block.bits10 (fun HT_ HW_ => ?_)
                                    generalize wr.drew = w37 at HO_6 HO_7 HO_8 HO_10 HB hx194_0 hx195_0 hx196_0 hHeld ⊢
                                    refine pure_ (i := 0) (N := some 48) (v := ?_) (a' := ?_) #[true, false, false, false, false, false, false, false, false, false, false, false] rfl rfl (any_of HT_.out (by kernel_rfl)) (fun _ _ _ h => h) (Or.inl ⟨by rfl, ?_⟩) ?_ ?_
                                    rotate_left
                                    · intro w'
                                      go_simp
                                      with_reducible rfl
                                    rotate_left
                                    · simp only [Act.put, List.setIfInBounds_toArray, List.set_cons_zero, List.set_cons_succ, i64_w, i32_w]
                                      rfl
                                    refine pure_ (i := 1) (N := some 49) (v := ?_) (a' := ?_) #[true, true, false, false, false, false, false, false, false, false, false, false] rfl rfl (any_of HT_.out (by kernel_rfl)) (fun _ _ _ h => h) (Or.inl ⟨by rfl, ?_⟩) ?_ ?_
                                    rotate_left
                                    · intro w'
                                      go_simp
                                      with_reducible rfl
                                    rotate_left
                                    · simp only [Act.put, List.setIfInBounds_toArray, List.set_cons_zero, List.set_cons_succ, i64_w, i32_w]
                                      rfl
                                    refine pure_ (i := 3) (N := some 51) (v := ?_) (a' := ?_) #[true, true, false, true, false, false, false, false, false, false, false, false] rfl rfl (any_of HT_.out (by kernel_rfl)) (fun _ _ _ h => h) (Or.inl ⟨by rfl, ?_⟩) ?_ ?_
                                    rotate_left
                                    · intro w'
                                      go_simp
                                      with_reducible rfl
                                    rotate_left
                                    · simp only [Act.put, List.setIfInBounds_toArray, List.set_cons_zero, List.set_cons_succ, i64_w, i32_w]
                                      rfl
                                    refine pure_ (i := 4) (N := some 52) (v := ?_) (a' := ?_) #[true, true, false, true, true, false, false, false, false, false, false, false] rfl rfl (any_of HT_.out (by kernel_rfl)) (fun _ _ _ h => h) (Or.inl ⟨by rfl, ?_⟩) ?_ ?_
                                    rotate_left
                                    · intro w'
                                      go_simp
                                      with_reducible rfl
                                    rotate_left
                                    · simp only [Act.put, List.setIfInBounds_toArray, List.set_cons_zero, List.set_cons_succ, i64_w, i32_w]
                                      rfl
                                    refine pure_ (i := 6) (N := some 54) (v := ?_) (a' := ?_) #[true, true, false, true, true, false, true, false, false, false, false, false] rfl rfl (any_of HT_.out (by kernel_rfl)) (fun _ _ _ h => h) (Or.inl ⟨by rfl, ?_⟩) ?_ ?_
                                    rotate_left
                                    · intro w'
                                      go_simp
                                      with_reducible rfl
                                    rotate_left
                                    · simp only [Act.put, List.setIfInBounds_toArray, List.set_cons_zero, List.set_cons_succ, i64_w, i32_w]
                                      rfl
                                    refine pure_ (i := 7) (N := some 55) (v := ?_) (a' := ?_) #[true, true, false, true, true, false, true, true, false, false, false, false] rfl rfl (any_of HT_.out (by kernel_rfl)) (fun _ _ _ h => h) (Or.inl ⟨by rfl, ?_⟩) ?_ ?_
                                    rotate_left
                                    · intro w'
                                      go_simp
                                      with_reducible rfl
                                    rotate_left
                                    · simp only [Act.put, List.setIfInBounds_toArray, List.set_cons_zero, List.set_cons_succ, i64_w, i32_w]
                                      rfl
                                    refine take_ (i := 2) (N := some 50) (v := ?_) (a' := ?_) #[true, true, true, true, true, false, true, true, false, false, false, false] rfl rfl (take_ofW HT_.out HW_.out (by kernel_rfl)) (fun _ _ _ h => h) (Or.inl ⟨by rfl, ?_⟩) hHeld ?_ ?_
                                    rotate_left
                                    · rintro w' ⟨s0, s1, s2⟩
                                      go_simp
                                      with_reducible rfl
                                    rotate_left
                                    · simp only [Act.put, List.setIfInBounds_toArray, List.set_cons_zero, List.set_cons_succ, i64_w, i32_w]
                                      rfl
                                    refine pure_ (i := 9) (N := some 13) (v := ?_) (a' := ?_) #[true, true, true, true, true, false, true, true, false, true, false, false] rfl rfl (any_of HT_.out (by kernel_rfl)) (fun _ _ _ h => h) (Or.inl ⟨by rfl, ?_⟩) ?_ ?_
                                    rotate_left
                                    · intro w'
                                      go_simp
                                      with_reducible rfl
                                    rotate_left
                                    · simp only [Act.put, List.setIfInBounds_toArray, List.set_cons_zero, List.set_cons_succ, i64_w, i32_w]
                                      rfl
                                    refine take_ (i := 5) (N := some 53) (v := ?_) (a' := ?_) #[true, true, true, true, true, true, true, true, false, true, false, false] rfl rfl (take_ofW HT_.out HW_.out (by kernel_rfl)) (fun _ _ _ h => h) (Or.inl ⟨by rfl, ?_⟩) hHeld ?_ ?_
                                    rotate_left
                                    · rintro w' ⟨s0, s1, s2⟩
                                      go_simp
                                      with_reducible rfl
                                    rotate_left
                                    · simp only [Act.put, List.setIfInBounds_toArray, List.set_cons_zero, List.set_cons_succ, i64_w, i32_w]
                                      rfl
                                    refine pure_ (i := 10) (N := some 14) (v := ?_) (a' := ?_) #[true, true, true, true, true, true, true, true, false, true, true, false] rfl rfl (any_of HT_.out (by kernel_rfl)) (fun _ _ _ h => h) (Or.inl ⟨by rfl, ?_⟩) ?_ ?_
                                    rotate_left
                                    · intro w'
                                      go_simp
                                      with_reducible rfl
                                    rotate_left
                                    · simp only [Act.put, List.setIfInBounds_toArray, List.set_cons_zero, List.set_cons_succ, i64_w, i32_w]
                                      rfl
                                    refine take_ (i := 8) (N := some 56) (v := ?_) (a' := ?_) #[true, true, true, true, true, true, true, true, true, true, true, false] rfl rfl (take_ofW HT_.out HW_.out (by kernel_rfl)) (fun _ _ _ h => h) (Or.inl ⟨by rfl, ?_⟩) hHeld ?_ ?_
                                    rotate_left
                                    · rintro w' ⟨s0, s1, s2⟩
                                      go_simp
                                      with_reducible rfl
                                    rotate_left
                                    · simp only [Act.put, List.setIfInBounds_toArray, List.set_cons_zero, List.set_cons_succ, i64_w, i32_w]
                                      rfl
                                    refine pure_ (i := 11) (N := some 15) (v := ?_) (a' := ?_) #[true, true, true, true, true, true, true, true, true, true, true, true] rfl rfl (any_of HT_.out (by kernel_rfl)) (fun _ _ _ h => h) (Or.inl ⟨by rfl, ?_⟩) ?_ ?_
                                    rotate_left
                                    · intro w'
                                      go_simp
                                      with_reducible rfl
                                    rotate_left
                                    · simp only [Act.put, List.setIfInBounds_toArray, List.set_cons_zero, List.set_cons_succ, i64_w, i32_w]
                                      rfl
                                    refine done_ (done_of HT_.out (by kernel_rfl)) ?_
                                    try go_wp2
                                    have n0_ := Aside0.mk (Kd.R_drew HO_6.out)
                                    have n1_ := Aside0.mk (Kd.R_drew HO_7.out)
                                    have n2_ := Aside0.mk (Kd.R_drew HO_8.out)
                                    have n3_ := Aside0.mk (Kd.R_drew HO_10.out)
                                    have n4_ := Aside0.mk (below_drew1 HB.out)
                                    clear HO_6
                                    clear HO_7
                                    clear HO_8
                                    clear HO_10
                                    clear HB
                                    have HO_6 := n0_
                                    have HO_7 := n1_
                                    have HO_8 := n2_
                                    have HO_10 := n3_
                                    have HB := n4_
                                    clear n0_ n1_ n2_ n3_ n4_
                                    have p197 : 0 ≤ (4 : Int) := (by omega)
                                    have q197 : 4 < (x10_2.length : Int) := of_decide_eq_true (by first | (with_reducible assumption) | assumption)
                                    obtain ⟨ad197, e197, hx197_0⟩ := Kd.at_int (Kd.R_reads' HO_10.out).2.2 4 p197 q197
                                    obtain rfl : ad194 = ad197 := (by injection e197)
                                    (try simp only [show (4 : Int).toNat = 4 from rfl, Nat.reduceMul, Nat.reduceEqDiff, Go.Addr.add, ↓reduceIte] at hx197_0)
                                    have qi197 : (4 < x10_2.length) = True := eq_true (by omega)
                                    (try rw [show ((4 : Int)).toNat = 4 from rfl] at hx197_0)
                                    replace p197 := eq_true p197
                                    replace q197 := eq_true q197
                                    have p198 : 0 ≤ (5 : Int) := (by omega)
                                    have q198 : 5 < (x10_2.length : Int) := of_decide_eq_true (by first | (with_reducible assumption) | assumption)
                                    obtain ⟨ad198, e198, hx198_0⟩ := Kd.at_int (Kd.R_reads' HO_10.out).2.2 5 p198 q198
                                    obtain rfl : ad194 = ad198 := (by injection e198)
                                    (try simp only [show (5 : Int).toNat = 5 from rfl, Nat.reduceMul, Nat.reduceEqDiff, Go.Addr.add, ↓reduceIte] at hx198_0)
                                    have qi198 : (5 < x10_2.length) = True := eq_true (by omega)
                                    (try rw [show ((5 : Int)).toNat = 5 from rfl] at hx198_0)
                                    replace p198 := eq_true p198
                                    replace q198 := eq_true q198
                                    have p199 : 0 ≤ (6 : Int) := (by omega)
                                    have q199 : 6 < (x10_2.length : Int) := of_decide_eq_true (by first | (with_reducible assumption) | assumption)
                                    obtain ⟨ad199, e199, hx199_0⟩ := Kd.at_int (Kd.R_reads' HO_10.out).2.2 6 p199 q199
                                    obtain rfl : ad194 = ad199 := (by injection e199)
                                    (try simp only [show (6 : Int).toNat = 6 from rfl, Nat.reduceMul, Nat.reduceEqDiff, Go.Addr.add, ↓reduceIte] at hx199_0)
                                    have qi199 : (6 < x10_2.length) = True := eq_true (by omega)
                                    (try rw [show ((6 : Int)).toNat = 6 from rfl] at hx199_0)
                                    replace p199 := eq_true p199
                                    replace q199 := eq_true q199
                                    refine start_ (n := 12) (S := fun w' => w'.cell? ⟨ad194.block, ad194.off + 4, none⟩ = some (.int .i64 (rd x10_2 4)) ∧ w'.cell? ⟨ad194.block, ad194.off + 5, none⟩ = some (.int .i64 (rd x10_2 5)) ∧ w'.cell? ⟨ad194.block, ad194.off + 6, none⟩ = some (.int .i64 (rd x10_2 6))) (ds := []) #[false, false, false, false, false, false, false, false, false, false, false, false] (by kernel_rfl) rfl rfl ⟨hx197_0, hx198_0, hx199_0⟩ (fun hHeld => ?_); refine with_tabW samphireref02_Block.tab11 samphireref02_Block.bits11 (fun HT_ HW_ => ?_)
                                    generalize w37.drew = w39 at HO_6 HO_7 HO_8 HO_10 HB hx197_0 hx198_0 hx199_0 hHeld ⊢
                                    refine pure_ (i := 0) (N := some 57) (v := ?_) (a' := ?_) #[true, false, false, false, false, false, false, false, false, false, false, false] rfl rfl (any_of HT_.out (by kernel_rfl)) (fun _ _ _ h => h) (Or.inl ⟨by rfl, ?_⟩) ?_ ?_
                                    rotate_left
                                    · intro w'
                                      go_simp
                                      with_reducible rfl
                                    rotate_left
                                    · simp only [Act.put, List.setIfInBounds_toArray, List.set_cons_zero, List.set_cons_succ, i64_w, i32_w]
                                      rfl
                                    refine pure_ (i := 1) (N := some 58) (v := ?_) (a' := ?_) #[true, true, false, false, false, false, false, false, false, false, false, false] rfl rfl (any_of HT_.out (by kernel_rfl)) (fun _ _ _ h => h) (Or.inl ⟨by rfl, ?_⟩) ?_ ?_
                                    rotate_left
                                    · intro w'
                                      go_simp
                                      with_reducible rfl
                                    rotate_left
                                    · simp only [Act.put, List.setIfInBounds_toArray, List.set_cons_zero, List.set_cons_succ, i64_w, i32_w]
                                      rfl
                                    refine pure_ (i := 3) (N := some 60) (v := ?_) (a' := ?_) #[true, true, false, true, false, false, false, false, false, false, false, false] rfl rfl (any_of HT_.out (by kernel_rfl)) (fun _ _ _ h => h) (Or.inl ⟨by rfl, ?_⟩) ?_ ?_
                                    rotate_left
                                    · intro w'
                                      go_simp
                                      with_reducible rfl
                                    rotate_left
                                    · simp only [Act.put, List.setIfInBounds_toArray, List.set_cons_zero, List.set_cons_succ, i64_w, i32_w]
                                      rfl
                                    refine pure_ (i := 4) (N := some 61) (v := ?_) (a' := ?_) #[true, true, false, true, true, false, false, false, false, false, false, false] rfl rfl (any_of HT_.out (by kernel_rfl)) (fun _ _ _ h => h) (Or.inl ⟨by rfl, ?_⟩) ?_ ?_
                                    rotate_left
                                    · intro w'
                                      go_simp
                                      with_reducible rfl
                                    rotate_left
                                    · simp only [Act.put, List.setIfInBounds_toArray, List.set_cons_zero, List.set_cons_succ, i64_w, i32_w]
                                      rfl
                                    refine pure_ (i := 6) (N := some 63) (v := ?_) (a' := ?_) #[true, true, false, true, true, false, true, false, false, false, false, false] rfl rfl (any_of HT_.out (by kernel_rfl)) (fun _ _ _ h => h) (Or.inl ⟨by rfl, ?_⟩) ?_ ?_
                                    rotate_left
                                    · intro w'
                                      go_simp
                                      with_reducible rfl
                                    rotate_left
                                    · simp only [Act.put, List.setIfInBounds_toArray, List.set_cons_zero, List.set_cons_succ, i64_w, i32_w]
                                      rfl
                                    refine pure_ (i := 7) (N := some 64) (v := ?_) (a' := ?_) #[true, true, false, true, true, false, true, true, false, false, false, false] rfl rfl (any_of HT_.out (by kernel_rfl)) (fun _ _ _ h => h) (Or.inl ⟨by rfl, ?_⟩) ?_ ?_
                                    rotate_left
                                    · intro w'
                                      go_simp
                                      with_reducible rfl
                                    rotate_left
                                    · simp only [Act.put, List.setIfInBounds_toArray, List.set_cons_zero, List.set_cons_succ, i64_w, i32_w]
                                      rfl
                                    refine take_ (i := 2) (N := some 59) (v := ?_) (a' := ?_) #[true, true, true, true, true, false, true, true, false, false, false, false] rfl rfl (take_ofW HT_.out HW_.out (by kernel_rfl)) (fun _ _ _ h => h) (Or.inl ⟨by rfl, ?_⟩) hHeld ?_ ?_
                                    rotate_left
                                    · rintro w' ⟨s0, s1, s2⟩
                                      go_simp
                                      with_reducible rfl
                                    rotate_left
                                    · simp only [Act.put, List.setIfInBounds_toArray, List.set_cons_zero, List.set_cons_succ, i64_w, i32_w]
                                      rfl
                                    refine pure_ (i := 9) (N := some 16) (v := ?_) (a' := ?_) #[true, true, true, true, true, false, true, true, false, true, false, false] rfl rfl (any_of HT_.out (by kernel_rfl)) (fun _ _ _ h => h) (Or.inl ⟨by rfl, ?_⟩) ?_ ?_
                                    rotate_left
                                    · intro w'
                                      go_simp
                                      with_reducible rfl
                                    rotate_left
                                    · simp only [Act.put, List.setIfInBounds_toArray, List.set_cons_zero, List.set_cons_succ, i64_w, i32_w]
                                      rfl
                                    refine take_ (i := 5) (N := some 62) (v := ?_) (a' := ?_) #[true, true, true, true, true, true, true, true, false, true, false, false] rfl rfl (take_ofW HT_.out HW_.out (by kernel_rfl)) (fun _ _ _ h => h) (Or.inl ⟨by rfl, ?_⟩) hHeld ?_ ?_
                                    rotate_left
                                    · rintro w' ⟨s0, s1, s2⟩
                                      go_simp
                                      with_reducible rfl
                                    rotate_left
                                    · simp only [Act.put, List.setIfInBounds_toArray, List.set_cons_zero, List.set_cons_succ, i64_w, i32_w]
                                      rfl
                                    refine pure_ (i := 10) (N := some 17) (v := ?_) (a' := ?_) #[true, true, true, true, true, true, true, true, false, true, true, false] rfl rfl (any_of HT_.out (by kernel_rfl)) (fun _ _ _ h => h) (Or.inl ⟨by rfl, ?_⟩) ?_ ?_
                                    rotate_left
                                    · intro w'
                                      go_simp
                                      with_reducible rfl
                                    rotate_left
                                    · simp only [Act.put, List.setIfInBounds_toArray, List.set_cons_zero, List.set_cons_succ, i64_w, i32_w]
                                      rfl
                                    refine take_ (i := 8) (N := some 65) (v := ?_) (a' := ?_) #[true, true, true, true, true, true, true, true, true, true, true, false] rfl rfl (take_ofW HT_.out HW_.out (by kernel_rfl)) (fun _ _ _ h => h) (Or.inl ⟨by rfl, ?_⟩) hHeld ?_ ?_
                                    rotate_left
                                    · rintro w' ⟨s0, s1, s2⟩
                                      go_simp
                                      with_reducible rfl
                                    rotate_left
                                    · simp only [Act.put, List.setIfInBounds_toArray, List.set_cons_zero, List.set_cons_succ, i64_w, i32_w]
                                      rfl
                                    refine pure_ (i := 11) (N := some 18) (v := ?_) (a' := ?_) #[true, true, true, true, true, true, true, true, true, true, true, true] rfl rfl (any_of HT_.out (by kernel_rfl)) (fun _ _ _ h => h) (Or.inl ⟨by rfl, ?_⟩) ?_ ?_
                                    rotate_left
                                    · intro w'
                                      go_simp
                                      with_reducible rfl
                                    rotate_left
                                    · simp only [Act.put, List.setIfInBounds_toArray, List.set_cons_zero, List.set_cons_succ, i64_w, i32_w]
                                      rfl
                                    refine done_ (done_of HT_.out (by kernel_rfl)) ?_
                                    try go_wp2
                                    have n0_ := Aside0.mk (Kd.R_drew HO_6.out)
                                    have n1_ := Aside0.mk (Kd.R_drew HO_7.out)
                                    have n2_ := Aside0.mk (Kd.R_drew HO_8.out)
                                    have n3_ := Aside0.mk (Kd.R_drew HO_10.out)
                                    have n4_ := Aside0.mk (below_drew1 HB.out)
                                    clear HO_6
                                    clear HO_7
                                    clear HO_8
                                    clear HO_10
                                    clear HB
                                    have HO_6 := n0_
                                    have HO_7 := n1_
                                    have HO_8 := n2_
                                    have HO_10 := n3_
                                    have HB := n4_
                                    clear n0_ n1_ n2_ n3_ n4_
                                    have p200 : 0 ≤ (7 : Int) := (by omega)
                                    have q200 : 7 < (x10_2.length : Int) := of_decide_eq_true (by first | (with_reducible assumption) | assumption)
                                    obtain ⟨ad200, e200, hx200_0⟩ := Kd.at_int (Kd.R_reads' HO_10.out).2.2 7 p200 q200
                                    obtain rfl : ad194 = ad200 := (by injection e200)
                                    (try simp only [show (7 : Int).toNat = 7 from rfl, Nat.reduceMul, Nat.reduceEqDiff, Go.Addr.add, ↓reduceIte] at hx200_0)
                                    have qi200 : (7 < x10_2.length) = True := eq_true (by omega)
                                    (try rw [show ((7 : Int)).toNat = 7 from rfl] at hx200_0)
                                    replace p200 := eq_true p200
                                    replace q200 := eq_true q200
                                    obtain ⟨Ao41, co41, eo41⟩ := Kd.R_slice HO_7.out
                                    (first | subst eo41 | (injection eo41 with f1_ f2_ f3_; have f4_ := f1_.symm; have f5_ := f3_.symm; clear f1_ f2_ f3_; subst f4_; subst f5_))
                                    have p205 : 0 ≤ (x12_2 : Int) := of_decide_eq_true (by first | (with_reducible assumption) | assumption)
                                    have q205 : x12_2 < (t183.length : Int) := of_decide_eq_true (by first | (with_reducible assumption) | assumption)
                                    obtain ⟨ad205, e205, hx205_0⟩ := Kd.at_int (Kd.R_reads' HO_7.out).2.2 x12_2 p205 q205
                                    cases e205
                                    replace p205 := eq_true p205
                                    replace q205 := eq_true q205
                                    obtain ⟨Ao42, co42, eo42⟩ := Kd.R_slice HO_6.out
                                    (first | subst eo42 | (injection eo42 with f1_ f2_ f3_; have f4_ := f1_.symm; have f5_ := f3_.symm; clear f1_ f2_ f3_; subst f4_; subst f5_))
                                    have p206 : 0 ≤ (x12_2 : Int) := of_decide_eq_true (by first | (with_reducible assumption) | assumption)
                                    have q206 : x12_2 < (t180.length : Int) := of_decide_eq_true (by first | (with_reducible assumption) | assumption)
                                    obtain ⟨ad206, e206, hx206_0⟩ := Kd.at_int (Kd.R_reads' HO_6.out).2.2 x12_2 p206 q206
                                    cases e206
                                    replace p206 := eq_true p206
                                    replace q206 := eq_true q206
                                    refine start_ (n := 34) (S := fun w' => w'.cell? ⟨ad194.block, ad194.off + 7, none⟩ = some (.int .i64 (rd x10_2 7)) ∧ w'.cell? (ad205.add (x12_2).toNat) = some (.int .i64 (rd t183 x12_2)) ∧ w'.cell? (ad206.add (x12_2).toNat) = some (.int .i64 (rd t180 x12_2))) (ds := []) #[false, false, false, false, false, false, false, false, false, false, false, false, false, false, false, false, false, false, false, false, false, false, false, false, false, false, false, false, false, false, false, false, false, false] (by kernel_rfl) rfl rfl ⟨hx200_0, hx205_0, hx206_0⟩ (fun hHeld => ?_); refine with_tabW samphireref02_Block.tab12 samphireref02_Block.bits12 (fun HT_ HW_ => ?_)
                                    generalize w39.drew = w40 at HO_6 HO_7 HO_8 HO_10 HB hx200_0 hx205_0 hx206_0 hHeld ⊢
                                    refine pure_ (i := 0) (N := some 66) (v := ?_) (a' := ?_) #[true, false, false, false, false, false, false, false, false, false, false, false, false, false, false, false, false, false, false, false, false, false, false, false, false, false, false, false, false, false, false, false, false, false] rfl rfl (any_of HT_.out (by kernel_rfl)) (fun _ _ _ h => h) (Or.inl ⟨by rfl, ?_⟩) ?_ ?_
                                    rotate_left
                                    · intro w'
                                      go_simp
                                      with_reducible rfl
                                    rotate_left
                                    · simp only [Act.put, List.setIfInBounds_toArray, List.set_cons_zero, List.set_cons_succ, i64_w, i32_w]
                                      rfl
                                    refine pure_ (i := 1) (N := some 67) (v := ?_) (a' := ?_) #[true, true, false, false, false, false, false, false, false, false, false, false, false, false, false, false, false, false, false, false, false, false, false, false, false, false, false, false, false, false, false, false, false, false] rfl rfl (any_of HT_.out (by kernel_rfl)) (fun _ _ _ h => h) (Or.inl ⟨by rfl, ?_⟩) ?_ ?_
                                    rotate_left
                                    · intro w'
                                      go_simp
                                      with_reducible rfl
                                    rotate_left
                                    · simp only [Act.put, List.setIfInBounds_toArray, List.set_cons_zero, List.set_cons_succ, i64_w, i32_w]
                                      rfl
                                    refine pure_ (i := 3) (N := some 69) (v := ?_) (a' := ?_) #[true, true, false, true, false, false, false, false, false, false, false, false, false, false, false, false, false, false, false, false, false, false, false, false, false, false, false, false, false, false, false, false, false, false] rfl rfl (any_of HT_.out (by kernel_rfl)) (fun _ _ _ h => h) (Or.inl ⟨by rfl, ?_⟩) ?_ ?_
                                    rotate_left
                                    · intro w'
                                      go_simp
                                      with_reducible rfl
                                    rotate_left
                                    · simp only [Act.put, List.setIfInBounds_toArray, List.set_cons_zero, List.set_cons_succ, i64_w, i32_w]
                                      rfl
                                    refine pure_ (i := 5) (N := some 71) (v := ?_) (a' := ?_) #[true, true, false, true, false, true, false, false, false, false, false, false, false, false, false, false, false, false, false, false, false, false, false, false, false, false, false, false, false, false, false, false, false, false] rfl rfl (any_of HT_.out (by kernel_rfl)) (fun _ _ _ h => h) (Or.inl ⟨by rfl, ?_⟩) ?_ ?_
                                    rotate_left
                                    · intro w'
                                      go_simp
                                      with_reducible rfl
                                    rotate_left
                                    · simp only [Act.put, List.setIfInBounds_toArray, List.set_cons_zero, List.set_cons_succ, i64_w, i32_w]
                                      rfl
                                    refine pure_ (i := 8) (N := some 74) (v := ?_) (a' := ?_) #[true, true, false, true, false, true, false, false, true, false, false, false, false, false, false, false, false, false, false, false, false, false, false, false, false, false, false, false, false, false, false, false, false, false] rfl rfl (any_of HT_.out (by kernel_rfl)) (fun _ _ _ h => h) (Or.inl ⟨by rfl, ?_⟩) ?_ ?_
                                    rotate_left
                                    · intro w'
                                      go_simp
                                      with_reducible rfl
                                    rotate_left
                                    · simp only [Act.put, List.setIfInBounds_toArray, List.set_cons_zero, List.set_cons_succ, i64_w, i32_w]
                                      rfl
                                    refine pure_ (i := 12) (N := some 78) (v := ?_) (a' := ?_) #[true, true, false, true, false, true, false, false, true, false, false, false, true, false, false, false, false, false, false, false, false, false, false, false, false, false, false, false, false, false, false, false, false, false] rfl rfl (any_of HT_.out (by kernel_rfl)) (fun _ _ _ h => h) (Or.inl ⟨by rfl, ?_⟩) ?_ ?_
                                    rotate_left
                                    · intro w'
                                      go_simp
                                      with_reducible rfl
                                    rotate_left
                                    · simp only [Act.put, List.setIfInBounds_toArray, List.set_cons_zero, List.set_cons_succ, i64_w, i32_w]
                                      rfl
                                    refine pure_ (i := 13) (N := some 79) (v := ?_) (a' := ?_) #[true, true, false, true, false, true, false, false, true, false, false, false, true, true, false, false, false, false, false, false, false, false, false, false, false, false, false, false, false, false, false, false, false, false] rfl rfl (any_of HT_.out (by kernel_rfl)) (fun _ _ _ h => h) (Or.inl ⟨by rfl, ?_⟩) ?_ ?_
                                    rotate_left
                                    · intro w'
                                      go_simp
                                      with_reducible rfl
                                    rotate_left
                                    · simp only [Act.put, List.setIfInBounds_toArray, List.set_cons_zero, List.set_cons_succ, i64_w, i32_w]
                                      rfl
                                    refine pure_ (i := 14) (N := some 80) (v := ?_) (a' := ?_) #[true, true, false, true, false, true, false, false, true, false, false, false, true, true, true, false, false, false, false, false, false, false, false, false, false, false, false, false, false, false, false, false, false, false] rfl rfl (any_of HT_.out (by kernel_rfl)) (fun _ _ _ h => h) (Or.inl ⟨by rfl, ?_⟩) ?_ ?_
                                    rotate_left
                                    · intro w'
                                      go_simp
                                      with_reducible rfl
                                    rotate_left
                                    · simp only [Act.put, List.setIfInBounds_toArray, List.set_cons_zero, List.set_cons_succ, i64_w, i32_w]
                                      rfl
                                    refine pure_ (i := 15) (N := some 81) (v := ?_) (a' := ?_) #[true, true, false, true, false, true, false, false, true, false, false, false, true, true, true, true, false, false, false, false, false, false, false, false, false, false, false, false, false, false, false, false, false, false] rfl rfl (any_of HT_.out (by kernel_rfl)) (fun _ _ _ h => h) (Or.inl ⟨by rfl, ?_⟩) ?_ ?_
                                    rotate_left
                                    · intro w'
                                      go_simp
                                      with_reducible rfl
                                    rotate_left
                                    · simp only [Act.put, List.setIfInBounds_toArray, List.set_cons_zero, List.set_cons_succ, i64_w, i32_w]
                                      rfl
                                    refine pure_ (i := 16) (N := some 82) (v := ?_) (a' := ?_) #[true, true, false, true, false, true, false, false, true, false, false, false, true, true, true, true, true, false, false, false, false, false, false, false, false, false, false, false, false, false, false, false, false, false] rfl rfl (any_of HT_.out (by kernel_rfl)) (fun _ _ _ h => h) (Or.inl ⟨by rfl, ?_⟩) ?_ ?_
                                    rotate_left
                                    · intro w'
                                      go_simp
                                      with_reducible rfl
                                    rotate_left
                                    · simp only [Act.put, List.setIfInBounds_toArray, List.set_cons_zero, List.set_cons_succ, i64_w, i32_w]
                                      rfl
                                    refine pure_ (i := 18) (N := some 84) (v := ?_) (a' := ?_) #[true, true, false, true, false, true, false, false, true, false, false, false, true, true, true, true, true, false, true, false, false, false, false, false, false, false, false, false, false, false, false, false, false, false] rfl rfl (any_of HT_.out (by kernel_rfl)) (fun _ _ _ h => h) (Or.inl ⟨by rfl, ?_⟩) ?_ ?_
                                    rotate_left
                                    · intro w'
                                      go_simp
                                      with_reducible rfl
                                    rotate_left
                                    · simp only [Act.put, List.setIfInBounds_toArray, List.set_cons_zero, List.set_cons_succ, i64_w, i32_w]
                                      rfl
                                    refine pure_ (i := 22) (N := some 88) (v := ?_) (a' := ?_) #[true, true, false, true, false, true, false, false, true, false, false, false, true, true, true, true, true, false, true, false, false, false, true, false, false, false, false, false, false, false, false, false, false, false] rfl rfl (any_of HT_.out (by kernel_rfl)) (fun _ _ _ h => h) (Or.inl ⟨by rfl, ?_⟩) ?_ ?_
                                    rotate_left
                                    · intro w'
                                      go_simp
                                      with_reducible rfl
                                    rotate_left
                                    · simp only [Act.put, List.setIfInBounds_toArray, List.set_cons_zero, List.set_cons_succ, i64_w, i32_w]
                                      rfl
                                    refine pure_ (i := 23) (N := some 89) (v := ?_) (a' := ?_) #[true, true, false, true, false, true, false, false, true, false, false, false, true, true, true, true, true, false, true, false, false, false, true, true, false, false, false, false, false, false, false, false, false, false] rfl rfl (any_of HT_.out (by kernel_rfl)) (fun _ _ _ h => h) (Or.inl ⟨by rfl, ?_⟩) ?_ ?_
                                    rotate_left
                                    · intro w'
                                      go_simp
                                      with_reducible rfl
                                    rotate_left
                                    · simp only [Act.put, List.setIfInBounds_toArray, List.set_cons_zero, List.set_cons_succ, i64_w, i32_w]
                                      rfl
                                    refine pure_ (i := 24) (N := some 90) (v := ?_) (a' := ?_) #[true, true, false, true, false, true, false, false, true, false, false, false, true, true, true, true, true, false, true, false, false, false, true, true, true, false, false, false, false, false, false, false, false, false] rfl rfl (any_of HT_.out (by kernel_rfl)) (fun _ _ _ h => h) (Or.inl ⟨by rfl, ?_⟩) ?_ ?_
                                    rotate_left
                                    · intro w'
                                      go_simp
                                      with_reducible rfl
                                    rotate_left
                                    · simp only [Act.put, List.setIfInBounds_toArray, List.set_cons_zero, List.set_cons_succ, i64_w, i32_w]
                                      rfl
                                    refine pure_ (i := 27) (N := some 93) (v := ?_) (a' := ?_) #[true, true, false, true, false, true, false, false, true, false, false, false, true, true, true, true, true, false, true, false, false, false, true, true, true, false, false, true, false, false, false, false, false, false] rfl rfl (any_of HT_.out (by kernel_rfl)) (fun _ _ _ h => h) (Or.inl ⟨by rfl, ?_⟩) ?_ ?_
                                    rotate_left
                                    · intro w'
                                      go_simp
                                      with_reducible rfl
                                    rotate_left
                                    · simp only [Act.put, List.setIfInBounds_toArray, List.set_cons_zero, List.set_cons_succ, i64_w, i32_w]
                                      rfl
                                    refine pure_ (i := 28) (N := some 94) (v := ?_) (a' := ?_) #[true, true, false, true, false, true, false, false, true, false, false, false, true, true, true, true, true, false, true, false, false, false, true, true, true, false, false, true, true, false, false, false, false, false] rfl rfl (any_of HT_.out (by kernel_rfl)) (fun _ _ _ h => h) (Or.inl ⟨by rfl, ?_⟩) ?_ ?_
                                    rotate_left
                                    · intro w'
                                      go_simp
                                      with_reducible rfl
                                    rotate_left
                                    · simp only [Act.put, List.setIfInBounds_toArray, List.set_cons_zero, List.set_cons_succ, i64_w, i32_w]
                                      rfl
                                    refine pure_ (i := 29) (N := some 95) (v := ?_) (a' := ?_) #[true, true, false, true, false, true, false, false, true, false, false, false, true, true, true, true, true, false, true, false, false, false, true, true, true, false, false, true, true, true, false, false, false, false] rfl rfl (any_of HT_.out (by kernel_rfl)) (fun _ _ _ h => h) (Or.inl ⟨by rfl, ?_⟩) ?_ ?_
                                    rotate_left
                                    · intro w'
                                      go_simp
                                      with_reducible rfl
                                    rotate_left
                                    · simp only [Act.put, List.setIfInBounds_toArray, List.set_cons_zero, List.set_cons_succ, i64_w, i32_w]
                                      rfl
                                    refine take_ (i := 2) (N := some 68) (v := ?_) (a' := ?_) #[true, true, true, true, false, true, false, false, true, false, false, false, true, true, true, true, true, false, true, false, false, false, true, true, true, false, false, true, true, true, false, false, false, false] rfl rfl (take_ofW HT_.out HW_.out (by kernel_rfl)) (fun _ _ _ h => h) (Or.inl ⟨by rfl, ?_⟩) hHeld ?_ ?_
                                    rotate_left
                                    · rintro w' ⟨s0, s1, s2⟩
                                      go_simp
                                      with_reducible rfl
                                    rotate_left
                                    · simp only [Act.put, List.setIfInBounds_toArray, List.set_cons_zero, List.set_cons_succ, i64_w, i32_w]
                                      rfl
                                    refine take_ (i := 25) (N := some 91) (v := ?_) (a' := ?_) #[true, true, true, true, false, true, false, false, true, false, false, false, true, true, true, true, true, false, true, false, false, false, true, true, true, true, false, true, true, true, false, false, false, false] rfl rfl (take_ofW HT_.out HW_.out (by kernel_rfl)) (fun _ _ _ h => h) (Or.inl ⟨by rfl, ?_⟩) hHeld ?_ ?_
                                    rotate_left
                                    · rintro w' ⟨s0, s1, s2⟩
                                      go_simp
                                      with_reducible rfl
                                    rotate_left
                                    · simp only [Act.put, List.setIfInBounds_toArray, List.set_cons_zero, List.set_cons_succ, i64_w, i32_w]
                                      rfl
                                    refine take_ (i := 30) (N := some 96) (v := ?_) (a' := ?_) #[true, true, true, true, false, true, false, false, true, false, false, false, true, true, true, true, true, false, true, false, false, false, true, true, true, true, false, true, true, true, true, false, false, false] rfl rfl (take_ofW HT_.out HW_.out (by kernel_rfl)) (fun _ _ _ h => h) (Or.inl ⟨by rfl, ?_⟩) hHeld ?_ ?_
                                    rotate_left
                                    · rintro w' ⟨s0, s1, s2⟩
                                      go_simp
                                      with_reducible rfl
                                    rotate_left
                                    · simp only [Act.put, List.setIfInBounds_toArray, List.set_cons_zero, List.set_cons_succ, i64_w, i32_w]
                                      rfl
                                    refine one_ (i := 4) (N := some 70) #[true, true, true, true, true, true, false, false, true, false, false, false, true, true, true, true, true, false, true, false, false, false, true, true, true, true, false, true, true, true, true, false, false, false] rfl rfl (one_of HT_.out (by kernel_rfl)) (by decide) (fun K hK => ?_)
                                    refine goes_ Try.func167 (by kernel_rfl) rfl #[.int .i64 (rd x10_2 4), .int .i64 6] (by rfl) rfl rfl (by (try simp only [List.map_toArray, List.map_cons, List.map_nil]); first | done | rfl | (simp only [List.length_drop, List.length_take]; rfl)) ?_
                                    with_reducible refine (samphireref02_right.calls (rd x10_2 4) 6 t201 _ A22.out).mono ?_
                                    rintro e w' ⟨rfl, ⟨nd, rfl⟩⟩
                                    refine ⟨_, rfl, ?_⟩
                                    refine hK.out _ _ ⟨hHeld.1, hHeld.2.1, hHeld.2.2⟩ (fun hHeld => ?_)
                                    clear hK K
                                    refine norm_ (a' := ?_) ?_ ?_
                                    rotate_left
                                    · show Act.put _ (some 70) _ = _
                                      simp only [Act.put, List.setIfInBounds_toArray, List.set_cons_zero, List.set_cons_succ, i64_w, i32_w]
                                      rfl
                                    refine one_ (i := 6) (N := some 72) #[true, true, true, true, true, true, true, false, true, false, false, false, true, true, true, true, true, false, true, false, false, false, true, true, true, true, false, true, true, true, true, false, false, false] rfl rfl (one_of HT_.out (by kernel_rfl)) (by decide) (fun K hK => ?_)
                                    refine goes_ Try.func167 (by kernel_rfl) rfl #[.int .i64 (rd x10_2 4), .int .i64 11] (by rfl) rfl rfl (by (try simp only [List.map_toArray, List.map_cons, List.map_nil]); first | done | rfl | (simp only [List.length_drop, List.length_take]; rfl)) ?_
                                    with_reducible refine (samphireref02_right.calls (rd x10_2 4) 11 t202 _ A23.out).mono ?_
                                    rintro e w' ⟨rfl, ⟨nd, rfl⟩⟩
                                    refine ⟨_, rfl, ?_⟩
                                    refine hK.out _ _ ⟨hHeld.1, hHeld.2.1, hHeld.2.2⟩ (fun hHeld => ?_)
                                    clear hK K
                                    refine norm_ (a' := ?_) ?_ ?_
                                    rotate_left
                                    · show Act.put _ (some 72) _ = _
                                      simp only [Act.put, List.setIfInBounds_toArray, List.set_cons_zero, List.set_cons_succ, i64_w, i32_w]
                                      rfl
                                    refine pure_ (i := 7) (N := some 73) (v := ?_) (a' := ?_) #[true, true, true, true, true, true, true, true, true, false, false, false, true, true, true, true, true, false, true, false, false, false, true, true, true, true, false, true, true, true, true, false, false, false] rfl rfl (any_of HT_.out (by kernel_rfl)) (fun _ _ _ h => h) (Or.inl ⟨by rfl, ?_⟩) ?_ ?_
                                    rotate_left
                                    · intro w'
                                      go_simp
                                      with_reducible rfl
                                    rotate_left
                                    · simp only [Act.put, List.setIfInBounds_toArray, List.set_cons_zero, List.set_cons_succ, i64_w, i32_w]
                                      rfl
                                    refine one_ (i := 9) (N := some 75) #[true, true, true, true, true, true, true, true, true, true, false, false, true, true, true, true, true, false, true, false, false, false, true, true, true, true, false, true, true, true, true, false, false, false] rfl rfl (one_of HT_.out (by kernel_rfl)) (by decide) (fun K hK => ?_)
                                    refine goes_ Try.func167 (by kernel_rfl) rfl #[.int .i64 (rd x10_2 4), .int .i64 25] (by rfl) rfl rfl (by (try simp only [List.map_toArray, List.map_cons, List.map_nil]); first | done | rfl | (simp only [List.length_drop, List.length_take]; rfl)) ?_
                                    with_reducible refine (samphireref02_right.calls (rd x10_2 4) 25 t203 _ A24.out).mono ?_
                                    rintro e w' ⟨rfl, ⟨nd, rfl⟩⟩
                                    refine ⟨_, rfl, ?_⟩
                                    refine hK.out _ _ ⟨hHeld.1, hHeld.2.1, hHeld.2.2⟩ (fun hHeld => ?_)
                                    clear hK K
                                    refine norm_ (a' := ?_) ?_ ?_
                                    rotate_left
                                    · show Act.put _ (some 75) _ = _
                                      simp only [Act.put, List.setIfInBounds_toArray, List.set_cons_zero, List.set_cons_succ, i64_w, i32_w]
                                      rfl
                                    refine pure_ (i := 10) (N := some 76) (v := ?_) (a' := ?_) #[true, true, true, true, true, true, true, true, true, true, true, false, true, true, true, true, true, false, true, false, false, false, true, true, true, true, false, true, true, true, true, false, false, false] rfl rfl (any_of HT_.out (by kernel_rfl)) (fun _ _ _ h => h) (Or.inl ⟨by rfl, ?_⟩) ?_ ?_
                                    rotate_left
                                    · intro w'
                                      go_simp
                                      with_reducible rfl
                                    rotate_left
                                    · simp only [Act.put, List.setIfInBounds_toArray, List.set_cons_zero, List.set_cons_succ, i64_w, i32_w]
                                      rfl
                                    refine pure_ (i := 11) (N := some 77) (v := ?_) (a' := ?_) #[true, true, true, true, true, true, true, true, true, true, true, true, true, true, true, true, true, false, true, false, false, false, true, true, true, true, false, true, true, true, true, false, false, false] rfl rfl (any_of HT_.out (by kernel_rfl)) (fun _ _ _ h => h) (Or.inl ⟨by rfl, ?_⟩) ?_ ?_
                                    rotate_left
                                    · intro w'
                                      go_simp
                                      with_reducible rfl
                                    rotate_left
                                    · simp only [Act.put, List.setIfInBounds_toArray, List.set_cons_zero, List.set_cons_succ, i64_w, i32_w]
                                      rfl
                                    refine one_ (i := 17) (N := some 83) #[true, true, true, true, true, true, true, true, true, true, true, true, true, true, true, true, true, true, true, false, false, false, true, true, true, true, false, true, true, true, true, false, false, false] rfl rfl (one_of HT_.out (by kernel_rfl)) (by decide) (fun K hK => ?_)
                                    refine goes_ Try.func166 (by kernel_rfl) rfl #[.int .i64 (Go.bits .xor .i64 (-1) (rd x10_2 4))] (by rfl) rfl rfl (by (try simp only [List.map_toArray, List.map_cons, List.map_nil]); first | done | rfl | (simp only [List.length_drop, List.length_take]; rfl)) ?_
                                    with_reducible refine (samphireref01_Word.calls (Go.bits .xor .i64 (-1) (rd x10_2 4)) t204 _ A25.out).mono ?_
                                    rintro e w' ⟨rfl, ⟨nd, rfl⟩⟩
                                    refine ⟨_, rfl, ?_⟩
                                    refine hK.out _ _ ⟨hHeld.1, hHeld.2.1, hHeld.2.2⟩ (fun hHeld => ?_)
                                    clear hK K
                                    refine norm_ (a' := ?_) ?_ ?_
                                    rotate_left
                                    · show Act.put _ (some 83) _ = _
                                      simp only [Act.put, List.setIfInBounds_toArray, List.set_cons_zero, List.set_cons_succ, i64_w, i32_w]
                                      rfl
                                    refine pure_ (i := 19) (N := some 85) (v := ?_) (a' := ?_) #[true, true, true, true, true, true, true, true, true, true, true, true, true, true, true, true, true, true, true, true, false, false, true, true, true, true, false, true, true, true, true, false, false, false] rfl rfl (any_of HT_.out (by kernel_rfl)) (fun _ _ _ h => h) (Or.inl ⟨by rfl, ?_⟩) ?_ ?_
                                    rotate_left
                                    · intro w'
                                      go_simp
                                      with_reducible rfl
                                    rotate_left
                                    · simp only [Act.put, List.setIfInBounds_toArray, List.set_cons_zero, List.set_cons_succ, i64_w, i32_w]
                                      rfl
                                    refine pure_ (i := 20) (N := some 86) (v := ?_) (a' := ?_) #[true, true, true, true, true, true, true, true, true, true, true, true, true, true, true, true, true, true, true, true, true, false, true, true, true, true, false, true, true, true, true, false, false, false] rfl rfl (any_of HT_.out (by kernel_rfl)) (fun _ _ _ h => h) (Or.inl ⟨by rfl, ?_⟩) ?_ ?_
                                    rotate_left
                                    · intro w'
                                      go_simp
                                      with_reducible rfl
                                    rotate_left
                                    · simp only [Act.put, List.setIfInBounds_toArray, List.set_cons_zero, List.set_cons_succ, i64_w, i32_w]
                                      rfl
                                    refine pure_ (i := 21) (N := some 87) (v := ?_) (a' := ?_) #[true, true, true, true, true, true, true, true, true, true, true, true, true, true, true, true, true, true, true, true, true, true, true, true, true, true, false, true, true, true, true, false, false, false] rfl rfl (any_of HT_.out (by kernel_rfl)) (fun _ _ _ h => h) (Or.inl ⟨by rfl, ?_⟩) ?_ ?_
                                    rotate_left
                                    · intro w'
                                      go_simp
                                      with_reducible rfl
                                    rotate_left
                                    · simp only [Act.put, List.setIfInBounds_toArray, List.set_cons_zero, List.set_cons_succ, i64_w, i32_w]
                                      rfl
                                    refine pure_ (i := 26) (N := some 92) (v := ?_) (a' := ?_) #[true, true, true, true, true, true, true, true, true, true, true, true, true, true, true, true, true, true, true, true, true, true, true, true, true, true, true, true, true, true, true, false, false, false] rfl rfl (any_of HT_.out (by kernel_rfl)) (fun _ _ _ h => h) (Or.inl ⟨by rfl, ?_⟩) ?_ ?_
                                    rotate_left
                                    · intro w'
                                      go_simp
                                      with_reducible rfl
                                    rotate_left
                                    · simp only [Act.put, List.setIfInBounds_toArray, List.set_cons_zero, List.set_cons_succ, i64_w, i32_w]
                                      rfl
                                    refine pure_ (i := 31) (N := some 97) (v := ?_) (a' := ?_) #[true, true, true, true, true, true, true, true, true, true, true, true, true, true, true, true, true, true, true, true, true, true, true, true, true, true, true, true, true, true, true, true, false, false] rfl rfl (any_of HT_.out (by kernel_rfl)) (fun _ _ _ h => h) (Or.inl ⟨by rfl, ?_⟩) ?_ ?_
                                    rotate_left
                                    · intro w'
                                      go_simp
                                      with_reducible rfl
                                    rotate_left
                                    · simp only [Act.put, List.setIfInBounds_toArray, List.set_cons_zero, List.set_cons_succ, i64_w, i32_w]
                                      rfl
                                    refine one_ (i := 32) (N := some 98) #[true, true, true, true, true, true, true, true, true, true, true, true, true, true, true, true, true, true, true, true, true, true, true, true, true, true, true, true, true, true, true, true, true, false] rfl rfl (one_of HT_.out (by kernel_rfl)) (by decide) (fun K hK => ?_)
                                    refine goes_ Try.func166 (by kernel_rfl) rfl #[.int .i64 (wrap64 ((wrap64 ((wrap64 ((wrap64 ((rd x10_2 7) + (Go.bits .xor .i64 (Go.bits .xor .i64 t201 t202) t203))) + (Go.bits .xor .i64 (Go.bits .and .i64 (rd x10_2 4) (rd x10_2 5)) (Go.bits .and .i64 t204 (rd x10_2 6))))) + (rd t183 x12_2))) + (rd t180 x12_2)))] (by rfl) rfl rfl (by (try simp only [List.map_toArray, List.map_cons, List.map_nil]); first | done | rfl | (simp only [List.length_drop, List.length_take]; rfl)) ?_
                                    with_reducible refine (samphireref01_Word.calls (wrap64 ((wrap64 ((wrap64 ((wrap64 ((rd x10_2 7) + (Go.bits .xor .i64 (Go.bits .xor .i64 t201 t202) t203))) + (Go.bits .xor .i64 (Go.bits .and .i64 (rd x10_2 4) (rd x10_2 5)) (Go.bits .and .i64 t204 (rd x10_2 6))))) + (rd t183 x12_2))) + (rd t180 x12_2))) t207 _ A29.out).mono ?_
                                    rintro e w' ⟨rfl, ⟨nd, rfl⟩⟩
                                    refine ⟨_, rfl, ?_⟩
                                    refine hK.out _ _ ⟨hHeld.1, hHeld.2.1, hHeld.2.2⟩ (fun hHeld => ?_)
                                    clear hK K
                                    refine norm_ (a' := ?_) ?_ ?_
                                    rotate_left
                                    · show Act.put _ (some 98) _ = _
                                      simp only [Act.put, List.setIfInBounds_toArray, List.set_cons_zero, List.set_cons_succ, i64_w, i32_w]
                                      rfl
                                    refine pure_ (i := 33) (N := some 19) (v := ?_) (a' := ?_) #[true, true, true, true, true, true, true, true, true, true, true, true, true, true, true, true, true, true, true, true, true, true, true, true, true, true, true, true, true, true, true, true, true, true] rfl rfl (any_of HT_.out (by kernel_rfl)) (fun _ _ _ h => h) (Or.inl ⟨by rfl, ?_⟩) ?_ ?_
                                    rotate_left
                                    · intro w'
                                      go_simp
                                      with_reducible rfl
                                    rotate_left
                                    · simp only [Act.put, List.setIfInBounds_toArray, List.set_cons_zero, List.set_cons_succ, i64_w, i32_w]
                                      rfl
                                    refine done_ (done_of HT_.out (by kernel_rfl)) ?_
                                    try go_wp2_with (first | ((with_reducible refine gate_callee (f := 167) rfl ?_); refine goesL_ (some 100) rfl rfl Try.func167 (by kernel_rfl) rfl #[.int .i64 (rd x10_2 0), .int .i64 2] rfl (by (try simp only [List.map_toArray, List.map_cons, List.map_nil]); first | done | rfl | (simp only [List.length_drop, List.length_take]; rfl)) ?_; (with_reducible refine (samphireref02_right.calls (rd x10_2 0) 2 t208 _ A30.out).mono ?_); rintro e w' ⟨rfl, ⟨nd, rfl⟩⟩; refine ⟨_, rfl, ?_⟩) | ((with_reducible refine gate_callee (f := 167) rfl ?_); refine goesL_ (some 102) rfl rfl Try.func167 (by kernel_rfl) rfl #[.int .i64 (rd x10_2 0), .int .i64 13] rfl (by (try simp only [List.map_toArray, List.map_cons, List.map_nil]); first | done | rfl | (simp only [List.length_drop, List.length_take]; rfl)) ?_; (with_reducible refine (samphireref02_right.calls (rd x10_2 0) 13 t209 _ A31.out).mono ?_); rintro e w' ⟨rfl, ⟨nd, rfl⟩⟩; refine ⟨_, rfl, ?_⟩) | ((with_reducible refine gate_callee (f := 167) rfl ?_); refine goesL_ (some 105) rfl rfl Try.func167 (by kernel_rfl) rfl #[.int .i64 (rd x10_2 0), .int .i64 22] rfl (by (try simp only [List.map_toArray, List.map_cons, List.map_nil]); first | done | rfl | (simp only [List.length_drop, List.length_take]; rfl)) ?_; (with_reducible refine (samphireref02_right.calls (rd x10_2 0) 22 t210 _ A32.out).mono ?_); rintro e w' ⟨rfl, ⟨nd, rfl⟩⟩; refine ⟨_, rfl, ?_⟩) | ((with_reducible refine gate_callee (f := 166) rfl ?_); refine goesL_ (some 119) rfl rfl Try.func166 (by kernel_rfl) rfl #[.int .i64 (wrap64 ((Go.bits .xor .i64 (Go.bits .xor .i64 t208 t209) t210) + (Go.bits .xor .i64 (Go.bits .xor .i64 (Go.bits .and .i64 (rd x10_2 0) (rd x10_2 1)) (Go.bits .and .i64 (rd x10_2 0) (rd x10_2 2))) (Go.bits .and .i64 (rd x10_2 1) (rd x10_2 2)))))] rfl (by (try simp only [List.map_toArray, List.map_cons, List.map_nil]); first | done | rfl | (simp only [List.length_drop, List.length_take]; rfl)) ?_; (with_reducible refine (samphireref01_Word.calls (wrap64 ((Go.bits .xor .i64 (Go.bits .xor .i64 t208 t209) t210) + (Go.bits .xor .i64 (Go.bits .xor .i64 (Go.bits .and .i64 (rd x10_2 0) (rd x10_2 1)) (Go.bits .and .i64 (rd x10_2 0) (rd x10_2 2))) (Go.bits .and .i64 (rd x10_2 1) (rd x10_2 2))))) t211 _ A33.out).mono ?_); rintro e w' ⟨rfl, ⟨nd, rfl⟩⟩; refine ⟨_, rfl, ?_⟩))
                                    (try (rw [drewN_self w40]; generalize hq_ : World.drewN w40 _ = w40; have n0_ : Aside0 (Kd.R (Kd.int .i64) 3 w40 w.heap.size (fun k_ => some k_ ≠ (.slice (some ad206) t180.length co42 : Value).ownBlock ∧ some k_ ≠ (.slice (some ad205) t183.length co41 : Value).ownBlock ∧ some k_ ≠ (v188 : Value).ownBlock) (.slice (some ad194) x10_2.length co38) x10_2) := ⟨by rw [← hq_]; exact (by (with_reducible repeat (first | apply Kd.R_alloc | apply Kd.R_drewN | apply Kd.R_drew)); exact HO_10.out)⟩; have n1_ : Aside0 (Kd.R (Kd.int .i64) 3 w40 w.heap.size (fun k_ => some k_ ≠ (.slice (some ad194) x10_2.length co38 : Value).ownBlock ∧ some k_ ≠ (.slice (some ad205) t183.length co41 : Value).ownBlock ∧ some k_ ≠ (v188 : Value).ownBlock) (.slice (some ad206) t180.length co42) t180) := ⟨by rw [← hq_]; exact (by (with_reducible repeat (first | apply Kd.R_alloc | apply Kd.R_drewN | apply Kd.R_drew)); exact Kd.R_mono HO_6.out (fun _ hk => by first | exact ⟨hk.2.2, ⟨hk.1, hk.2.1⟩⟩ | ((repeat' apply And.intro) <;> (with_reducible first | exact hk | exact hk.1 | exact hk.2 | exact hk.1.1 | exact hk.1.2 | exact hk.2.1 | exact hk.2.2 | exact hk.1.1.1 | exact hk.1.1.2 | exact hk.1.2.1 | exact hk.1.2.2 | exact hk.2.1.1 | exact hk.2.1.2 | exact hk.2.2.1 | exact hk.2.2.2 | exact hk.1.1.1.1 | exact hk.1.1.1.2 | exact hk.1.1.2.1 | exact hk.1.1.2.2 | exact hk.1.2.1.1 | exact hk.1.2.1.2 | exact hk.1.2.2.1 | exact hk.1.2.2.2 | exact hk.2.1.1.1 | exact hk.2.1.1.2 | exact hk.2.1.2.1 | exact hk.2.1.2.2 | exact hk.2.2.1.1 | exact hk.2.2.1.2 | exact hk.2.2.2.1 | exact hk.2.2.2.2))))⟩; have n2_ : Aside0 (Kd.R (Kd.int .i64) 3 w40 w.heap.size (fun k_ => some k_ ≠ (.slice (some ad194) x10_2.length co38 : Value).ownBlock ∧ some k_ ≠ (.slice (some ad206) t180.length co42 : Value).ownBlock ∧ some k_ ≠ (v188 : Value).ownBlock) (.slice (some ad205) t183.length co41) t183) := ⟨by rw [← hq_]; exact (by (with_reducible repeat (first | apply Kd.R_alloc | apply Kd.R_drewN | apply Kd.R_drew)); exact Kd.R_mono HO_7.out (fun _ hk => by first | exact ⟨hk.2.2, ⟨hk.1, hk.2.1⟩⟩ | ((repeat' apply And.intro) <;> (with_reducible first | exact hk | exact hk.1 | exact hk.2 | exact hk.1.1 | exact hk.1.2 | exact hk.2.1 | exact hk.2.2 | exact hk.1.1.1 | exact hk.1.1.2 | exact hk.1.2.1 | exact hk.1.2.2 | exact hk.2.1.1 | exact hk.2.1.2 | exact hk.2.2.1 | exact hk.2.2.2 | exact hk.1.1.1.1 | exact hk.1.1.1.2 | exact hk.1.1.2.1 | exact hk.1.1.2.2 | exact hk.1.2.1.1 | exact hk.1.2.1.2 | exact hk.1.2.2.1 | exact hk.1.2.2.2 | exact hk.2.1.1.1 | exact hk.2.1.1.2 | exact hk.2.1.2.1 | exact hk.2.1.2.2 | exact hk.2.2.1.1 | exact hk.2.2.1.2 | exact hk.2.2.2.1 | exact hk.2.2.2.2))))⟩; have n3_ : Aside0 (Kd.R (Kd.int .i64) 3 w40 w.heap.size (fun k_ => some k_ ≠ (.slice (some ad194) x10_2.length co38 : Value).ownBlock ∧ some k_ ≠ (.slice (some ad206) t180.length co42 : Value).ownBlock ∧ some k_ ≠ (.slice (some ad205) t183.length co41 : Value).ownBlock) v188 t186) := ⟨by rw [← hq_]; exact (by (with_reducible repeat (first | apply Kd.R_alloc | apply Kd.R_drewN | apply Kd.R_drew)); exact Kd.R_mono HO_8.out (fun _ hk => by first | exact ⟨hk.2.2, ⟨hk.1, hk.2.1⟩⟩ | ((repeat' apply And.intro) <;> (with_reducible first | exact hk | exact hk.1 | exact hk.2 | exact hk.1.1 | exact hk.1.2 | exact hk.2.1 | exact hk.2.2 | exact hk.1.1.1 | exact hk.1.1.2 | exact hk.1.2.1 | exact hk.1.2.2 | exact hk.2.1.1 | exact hk.2.1.2 | exact hk.2.2.1 | exact hk.2.2.2 | exact hk.1.1.1.1 | exact hk.1.1.1.2 | exact hk.1.1.2.1 | exact hk.1.1.2.2 | exact hk.1.2.1.1 | exact hk.1.2.1.2 | exact hk.1.2.2.1 | exact hk.1.2.2.2 | exact hk.2.1.1.1 | exact hk.2.1.1.2 | exact hk.2.1.2.1 | exact hk.2.1.2.2 | exact hk.2.2.1.1 | exact hk.2.2.1.2 | exact hk.2.2.2.1 | exact hk.2.2.2.2))))⟩; have n4_ : Aside0 (Below w.heap.size w w40) := ⟨by rw [← hq_]; exact (by repeat (first | (with_reducible first | exact HB.out | apply below_alloc | apply pw_below_drewN | apply below_drew1) | exact HB.out))⟩; clear HO_10 HO_6 HO_7 HO_8 HB hq_; have HO_10 := n0_; have HO_6 := n1_; have HO_7 := n2_; have HO_8 := n3_; have HB := n4_; clear n0_ n1_ n2_ n3_ n4_))
                                    have n0_ := Aside0.mk (Kd.R_drew HO_6.out)
                                    have n1_ := Aside0.mk (Kd.R_drew HO_7.out)
                                    have n2_ := Aside0.mk (Kd.R_drew HO_8.out)
                                    have n3_ := Aside0.mk (Kd.R_drew HO_10.out)
                                    have n4_ := Aside0.mk (below_drew1 HB.out)
                                    clear HO_6
                                    clear HO_7
                                    clear HO_8
                                    clear HO_10
                                    clear HB
                                    have HO_6 := n0_
                                    have HO_7 := n1_
                                    have HO_8 := n2_
                                    have HO_10 := n3_
                                    have HB := n4_
                                    clear n0_ n1_ n2_ n3_ n4_
                                    have p213 : 0 ≤ (3 : Int) := (by omega)
                                    have q213 : 3 < (x10_2.length : Int) := of_decide_eq_true (by first | (with_reducible assumption) | assumption)
                                    obtain ⟨ad213, e213, hx213_0⟩ := Kd.at_int (Kd.R_reads' HO_10.out).2.2 3 p213 q213
                                    obtain rfl : ad194 = ad213 := (by injection e213)
                                    (try simp only [show (3 : Int).toNat = 3 from rfl, Nat.reduceMul, Nat.reduceEqDiff, Go.Addr.add, ↓reduceIte] at hx213_0)
                                    have qi213 : (3 < x10_2.length) = True := eq_true (by omega)
                                    (try rw [show ((3 : Int)).toNat = 3 from rfl] at hx213_0)
                                    replace p213 := eq_true p213
                                    replace q213 := eq_true q213
                                    refine start_ (n := 18) (S := fun w' => w'.cell? ⟨ad194.block, ad194.off + 3, none⟩ = some (.int .i64 (rd x10_2 3))) (ds := []) #[false, false, false, false, false, false, false, false, false, false, false, false, false, false, false, false, false, false] (by kernel_rfl) rfl rfl (hx213_0) (fun hHeld => ?_); refine with_tabW samphireref02_Block.tab14 samphireref02_Block.bits14 (fun HT_ HW_ => ?_)
                                    generalize w40.drew = w43 at HO_6 HO_7 HO_8 HO_10 HB hx213_0 hHeld ⊢
                                    refine pure_ (i := 0) (N := some 120) (v := ?_) (a' := ?_) #[true, false, false, false, false, false, false, false, false, false, false, false, false, false, false, false, false, false] rfl rfl (any_of HT_.out (by kernel_rfl)) (fun _ _ _ h => h) (Or.inl ⟨by rfl, ?_⟩) ?_ ?_
                                    rotate_left
                                    · intro w'
                                      go_simp
                                      with_reducible rfl
                                    rotate_left
                                    · simp only [Act.put, List.setIfInBounds_toArray, List.set_cons_zero, List.set_cons_succ, i64_w, i32_w]
                                      rfl
                                    refine pure_ (i := 1) (N := some 121) (v := ?_) (a' := ?_) #[true, true, false, false, false, false, false, false, false, false, false, false, false, false, false, false, false, false] rfl rfl (any_of HT_.out (by kernel_rfl)) (fun _ _ _ h => h) (Or.inl ⟨by rfl, ?_⟩) ?_ ?_
                                    rotate_left
                                    · intro w'
                                      go_simp
                                      with_reducible rfl
                                    rotate_left
                                    · simp only [Act.put, List.setIfInBounds_toArray, List.set_cons_zero, List.set_cons_succ, i64_w, i32_w]
                                      rfl
                                    refine pure_ (i := 2) (N := some 122) (v := ?_) (a' := ?_) #[true, true, true, false, false, false, false, false, false, false, false, false, false, false, false, false, false, false] rfl rfl (any_of HT_.out (by kernel_rfl)) (fun _ _ _ h => h) (Or.inl ⟨by rfl, ?_⟩) ?_ ?_
                                    rotate_left
                                    · intro w'
                                      go_simp
                                      with_reducible rfl
                                    rotate_left
                                    · simp only [Act.put, List.setIfInBounds_toArray, List.set_cons_zero, List.set_cons_succ, i64_w, i32_w]
                                      rfl
                                    refine pure_ (i := 4) (N := some 124) (v := ?_) (a' := ?_) #[true, true, true, false, true, false, false, false, false, false, false, false, false, false, false, false, false, false] rfl rfl (any_of HT_.out (by kernel_rfl)) (fun _ _ _ h => h) (Or.inl ⟨by rfl, ?_⟩) ?_ ?_
                                    rotate_left
                                    · intro w'
                                      go_simp
                                      with_reducible rfl
                                    rotate_left
                                    · simp only [Act.put, List.setIfInBounds_toArray, List.set_cons_zero, List.set_cons_succ, i64_w, i32_w]
                                      rfl
                                    refine pure_ (i := 5) (N := some 125) (v := ?_) (a' := ?_) #[true, true, true, false, true, true, false, false, false, false, false, false, false, false, false, false, false, false] rfl rfl (any_of HT_.out (by kernel_rfl)) (fun _ _ _ h => h) (Or.inl ⟨by rfl, ?_⟩) ?_ ?_
                                    rotate_left
                                    · intro w'
                                      go_simp
                                      with_reducible rfl
                                    rotate_left
                                    · simp only [Act.put, List.setIfInBounds_toArray, List.set_cons_zero, List.set_cons_succ, i64_w, i32_w]
                                      rfl
                                    refine pure_ (i := 6) (N := some 126) (v := ?_) (a' := ?_) #[true, true, true, false, true, true, true, false, false, false, false, false, false, false, false, false, false, false] rfl rfl (any_of HT_.out (by kernel_rfl)) (fun _ _ _ h => h) (Or.inl ⟨by rfl, ?_⟩) ?_ ?_
                                    rotate_left
                                    · intro w'
                                      go_simp
                                      with_reducible rfl
                                    rotate_left
                                    · simp only [Act.put, List.setIfInBounds_toArray, List.set_cons_zero, List.set_cons_succ, i64_w, i32_w]
                                      rfl
                                    refine pure_ (i := 7) (N := some 127) (v := ?_) (a' := ?_) #[true, true, true, false, true, true, true, true, false, false, false, false, false, false, false, false, false, false] rfl rfl (any_of HT_.out (by kernel_rfl)) (fun _ _ _ h => h) (Or.inl ⟨by rfl, ?_⟩) ?_ ?_
                                    rotate_left
                                    · intro w'
                                      go_simp
                                      with_reducible rfl
                                    rotate_left
                                    · simp only [Act.put, List.setIfInBounds_toArray, List.set_cons_zero, List.set_cons_succ, i64_w, i32_w]
                                      rfl
                                    refine pure_ (i := 8) (N := some 128) (v := ?_) (a' := ?_) #[true, true, true, false, true, true, true, true, true, false, false, false, false, false, false, false, false, false] rfl rfl (any_of HT_.out (by kernel_rfl)) (fun _ _ _ h => h) (Or.inl ⟨by rfl, ?_⟩) ?_ ?_
                                    rotate_left
                                    · intro w'
                                      go_simp
                                      with_reducible rfl
                                    rotate_left
                                    · simp only [Act.put, List.setIfInBounds_toArray, List.set_cons_zero, List.set_cons_succ, i64_w, i32_w]
                                      rfl
                                    refine pure_ (i := 10) (N := some 130) (v := ?_) (a' := ?_) #[true, true, true, false, true, true, true, true, true, false, true, false, false, false, false, false, false, false] rfl rfl (any_of HT_.out (by kernel_rfl)) (fun _ _ _ h => h) (Or.inl ⟨by rfl, ?_⟩) ?_ ?_
                                    rotate_left
                                    · intro w'
                                      go_simp
                                      with_reducible rfl
                                    rotate_left
                                    · simp only [Act.put, List.setIfInBounds_toArray, List.set_cons_zero, List.set_cons_succ, i64_w, i32_w]
                                      rfl
                                    refine pure_ (i := 13) (N := some 133) (v := ?_) (a' := ?_) #[true, true, true, false, true, true, true, true, true, false, true, false, false, true, false, false, false, false] rfl rfl (any_of HT_.out (by kernel_rfl)) (fun _ _ _ h => h) (Or.inl ⟨by rfl, ?_⟩) ?_ ?_
                                    rotate_left
                                    · intro w'
                                      go_simp
                                      with_reducible rfl
                                    rotate_left
                                    · simp only [Act.put, List.setIfInBounds_toArray, List.set_cons_zero, List.set_cons_succ, i64_w, i32_w]
                                      rfl
                                    refine pure_ (i := 14) (N := some 134) (v := ?_) (a' := ?_) #[true, true, true, false, true, true, true, true, true, false, true, false, false, true, true, false, false, false] rfl rfl (any_of HT_.out (by kernel_rfl)) (fun _ _ _ h => h) (Or.inl ⟨by rfl, ?_⟩) ?_ ?_
                                    rotate_left
                                    · intro w'
                                      go_simp
                                      with_reducible rfl
                                    rotate_left
                                    · simp only [Act.put, List.setIfInBounds_toArray, List.set_cons_zero, List.set_cons_succ, i64_w, i32_w]
                                      rfl
                                    refine pure_ (i := 15) (N := some 135) (v := ?_) (a' := ?_) #[true, true, true, false, true, true, true, true, true, false, true, false, false, true, true, true, false, false] rfl rfl (any_of HT_.out (by kernel_rfl)) (fun _ _ _ h => h) (Or.inl ⟨by rfl, ?_⟩) ?_ ?_
                                    rotate_left
                                    · intro w'
                                      go_simp
                                      with_reducible rfl
                                    rotate_left
                                    · simp only [Act.put, List.setIfInBounds_toArray, List.set_cons_zero, List.set_cons_succ, i64_w, i32_w]
                                      rfl
                                    refine take_ (i := 9) (N := some 129) (v := ?_) (a' := ?_) #[true, true, true, false, true, true, true, true, true, true, true, false, false, true, true, true, false, false] rfl rfl (take_ofW HT_.out HW_.out (by kernel_rfl)) (fun _ _ _ h => h) (Or.inl ⟨by rfl, ?_⟩) hHeld ?_ ?_
                                    rotate_left
                                    · intro w' s0
                                      go_simp
                                      with_reducible rfl
                                    rotate_left
                                    · simp only [Act.put, List.setIfInBounds_toArray, List.set_cons_zero, List.set_cons_succ, i64_w, i32_w]
                                      rfl
                                    refine pure_ (i := 11) (N := some 131) (v := ?_) (a' := ?_) #[true, true, true, false, true, true, true, true, true, true, true, true, false, true, true, true, false, false] rfl rfl (any_of HT_.out (by kernel_rfl)) (fun _ _ _ h => h) (Or.inl ⟨by rfl, ?_⟩) ?_ ?_
                                    rotate_left
                                    · intro w'
                                      go_simp
                                      with_reducible rfl
                                    rotate_left
                                    · simp only [Act.put, List.setIfInBounds_toArray, List.set_cons_zero, List.set_cons_succ, i64_w, i32_w]
                                      rfl
                                    refine one_ (i := 3) (N := some 123) #[true, true, true, true, true, true, true, true, true, true, true, true, false, true, true, true, false, false] rfl rfl (one_of HT_.out (by kernel_rfl)) (by decide) (fun K hK => ?_)
                                    refine goes_ Try.func166 (by kernel_rfl) rfl #[.int .i64 (wrap64 (t207 + t211))] (by rfl) rfl rfl (by (try simp only [List.map_toArray, List.map_cons, List.map_nil]); first | done | rfl | (simp only [List.length_drop, List.length_take]; rfl)) ?_
                                    with_reducible refine (samphireref01_Word.calls (wrap64 (t207 + t211)) t212 _ A34.out).mono ?_
                                    rintro e w' ⟨rfl, ⟨nd, rfl⟩⟩
                                    refine ⟨_, rfl, ?_⟩
                                    refine hK.out _ _ (hHeld) (fun hHeld => ?_)
                                    clear hK K
                                    refine norm_ (a' := ?_) ?_ ?_
                                    rotate_left
                                    · show Act.put _ (some 123) _ = _
                                      simp only [Act.put, List.setIfInBounds_toArray, List.set_cons_zero, List.set_cons_succ, i64_w, i32_w]
                                      rfl
                                    refine one_ (i := 12) (N := some 132) #[true, true, true, true, true, true, true, true, true, true, true, true, true, true, true, true, false, false] rfl rfl (one_of HT_.out (by kernel_rfl)) (by decide) (fun K hK => ?_)
                                    refine goes_ Try.func166 (by kernel_rfl) rfl #[.int .i64 (wrap64 ((rd x10_2 3) + t207))] (by rfl) rfl rfl (by (try simp only [List.map_toArray, List.map_cons, List.map_nil]); first | done | rfl | (simp only [List.length_drop, List.length_take]; rfl)) ?_
                                    with_reducible refine (samphireref01_Word.calls (wrap64 ((rd x10_2 3) + t207)) t214 _ A36.out).mono ?_
                                    rintro e w' ⟨rfl, ⟨nd, rfl⟩⟩
                                    refine ⟨_, rfl, ?_⟩
                                    refine hK.out _ _ (hHeld) (fun hHeld => ?_)
                                    clear hK K
                                    refine norm_ (a' := ?_) ?_ ?_
                                    rotate_left
                                    · show Act.put _ (some 132) _ = _
                                      simp only [Act.put, List.setIfInBounds_toArray, List.set_cons_zero, List.set_cons_succ, i64_w, i32_w]
                                      rfl
                                    refine one_ (i := 16) (N := some 136) #[true, true, true, true, true, true, true, true, true, true, true, true, true, true, true, true, true, false] rfl rfl (one_of HT_.out (by kernel_rfl)) (by decide) (fun K hK => ?_)
                                    refine Kd.R_lit_step (Kd.int .i64) _ 3 ?hg (N := 136) ?hd (xs := ([t212, rd x10_2 0, rd x10_2 1, rd x10_2 2, t214, rd x10_2 4, rd x10_2 5, rd x10_2 6] : List Int)) (inner := [.int .i64 t212, .int .i64 (rd x10_2 0), .int .i64 (rd x10_2 1), .int .i64 (rd x10_2 2), .int .i64 t214, .int .i64 (rd x10_2 4), .int .i64 (rd x10_2 5), .int .i64 (rd x10_2 6)]) (ok := fun _ => True) (okp := fun _ => True) ?hr ?hp (fun _ hk => hk) trivial (Below.refl _ _) (Nat.le_refl _) (by simp) ?_; (case hd => rfl); (case hg => rfl); (case hr => first | (go_simp; done) | (go_simp; rfl)); (case hp => exact (Reps.one (show Kd.M (Kd.int .i64) _ _ _ t212 [.int .i64 t212] from rfl) (Reps.one (show Kd.M (Kd.int .i64) _ _ _ (rd x10_2 0) [.int .i64 (rd x10_2 0)] from rfl) (Reps.one (show Kd.M (Kd.int .i64) _ _ _ (rd x10_2 1) [.int .i64 (rd x10_2 1)] from rfl) (Reps.one (show Kd.M (Kd.int .i64) _ _ _ (rd x10_2 2) [.int .i64 (rd x10_2 2)] from rfl) (Reps.one (show Kd.M (Kd.int .i64) _ _ _ t214 [.int .i64 t214] from rfl) (Reps.one (show Kd.M (Kd.int .i64) _ _ _ (rd x10_2 4) [.int .i64 (rd x10_2 4)] from rfl) (Reps.one (show Kd.M (Kd.int .i64) _ _ _ (rd x10_2 5) [.int .i64 (rd x10_2 5)] from rfl) (Reps.one (show Kd.M (Kd.int .i64) _ _ _ (rd x10_2 6) [.int .i64 (rd x10_2 6)] from rfl) (Reps.none _ _))))))))))
                                    intro v216 w44 ho45 hb hg_ hnew_
                                    have HS0_ := (hb.cell (World.block_lt_of_cell? _ _ (hHeld))).trans (hHeld)
                                    clear hg_ hnew_
                                    (first | rw [← Ny215.out] at ho45 | (simp only [Int.reduceToNat] at ho45; rw [← Ny215.out] at ho45))
                                    have n0_ := Aside0.mk (Kd.R_elder' (by (with_reducible repeat (first | apply Kd.R_alloc | apply Kd.R_drewN | apply Kd.R_drew)); exact HO_6.out) (Kd.R_base ho45) hb)
                                    have n1_ := Aside0.mk (Kd.R_elder' (by (with_reducible repeat (first | apply Kd.R_alloc | apply Kd.R_drewN | apply Kd.R_drew)); exact HO_7.out) (Kd.R_base ho45) hb)
                                    have n2_ := Aside0.mk (Kd.R_elder' (by (with_reducible repeat (first | apply Kd.R_alloc | apply Kd.R_drewN | apply Kd.R_drew)); exact HO_8.out) (Kd.R_base ho45) hb)
                                    have n3_ := Aside0.mk (Kd.R_elder' (by (with_reducible repeat (first | apply Kd.R_alloc | apply Kd.R_drewN | apply Kd.R_drew)); exact HO_10.out) (Kd.R_base ho45) hb)
                                    have n4_ := Aside0.mk (Kd.R_lower (Kd.R_new' (Kd.R_new' (Kd.R_new' (Kd.R_new' ho45 (Kd.R_lt (by (with_reducible repeat (first | apply Kd.R_alloc | apply Kd.R_drewN | apply Kd.R_drew)); exact HO_6.out))) (Kd.R_lt (by (with_reducible repeat (first | apply Kd.R_alloc | apply Kd.R_drewN | apply Kd.R_drew)); exact HO_7.out))) (Kd.R_lt (by (with_reducible repeat (first | apply Kd.R_alloc | apply Kd.R_drewN | apply Kd.R_drew)); exact HO_8.out))) (Kd.R_lt (by (with_reducible repeat (first | apply Kd.R_alloc | apply Kd.R_drewN | apply Kd.R_drew)); exact HO_10.out))) (below_size (by repeat (first | (with_reducible first | exact HB.out | apply below_alloc | apply pw_below_drewN | apply below_drew1) | exact HB.out))))
                                    have n5_ := Aside0.mk (below_step (by repeat (first | (with_reducible first | exact HB.out | apply below_alloc | apply pw_below_drewN | apply below_drew1) | exact HB.out)) hb)
                                    clear HO_6
                                    clear HO_7
                                    clear HO_8
                                    clear HO_10
                                    clear HB
                                    have HO_6 := n0_
                                    have HO_7 := n1_
                                    have HO_8 := n2_
                                    have HO_10 := n3_
                                    have HO217 := n4_
                                    have HB := n5_
                                    clear n0_ n1_ n2_ n3_ n4_ n5_
                                    clear hb ho45
                                    refine hK.out _ _ (HS0_) (fun hHeld => ?_)
                                    clear hK K
                                    refine norm_ (a' := ?_) ?_ ?_
                                    rotate_left
                                    · show Act.put _ (some 136) _ = _
                                      simp only [Act.put, List.setIfInBounds_toArray, List.set_cons_zero, List.set_cons_succ, i64_w, i32_w]
                                      rfl
                                    refine pure_ (i := 17) (N := some 10) (v := ?_) (a' := ?_) #[true, true, true, true, true, true, true, true, true, true, true, true, true, true, true, true, true, true] rfl rfl (any_of HT_.out (by kernel_rfl)) (fun _ _ _ h => h) (Or.inl ⟨by rfl, ?_⟩) ?_ ?_
                                    rotate_left
                                    · intro w'
                                      go_simp
                                      with_reducible rfl
                                    rotate_left
                                    · simp only [Act.put, List.setIfInBounds_toArray, List.set_cons_zero, List.set_cons_succ, i64_w, i32_w]
                                      rfl
                                    refine done_ (done_of HT_.out (by kernel_rfl)) ?_
                                    try go_wp2
                                    go_roundg k2
                                    case measure => have := HJ2.out; have := HK2.out; omega
                                    case rel => exact ⟨(y215), (wrap64 (x12_2 + 1)), (by first | rfl | (simp; done) | (simp [*]; done)), H', ⟨by have := HJ2.out; have := HK2.out; omega⟩, ⟨by (with_reducible repeat (first | apply Kd.R_alloc | apply Kd.R_drewN | apply Kd.R_drew)); exact Kd.R_mono HO_6.out (fun _ hk => by first | exact ⟨hk.1.1, ⟨hk.1.2.1, hk.2⟩⟩ | ((repeat' apply And.intro) <;> (with_reducible first | exact hk | exact hk.1 | exact hk.2 | exact hk.1.1 | exact hk.1.2 | exact hk.2.1 | exact hk.2.2 | exact hk.1.1.1 | exact hk.1.1.2 | exact hk.1.2.1 | exact hk.1.2.2 | exact hk.2.1.1 | exact hk.2.1.2 | exact hk.2.2.1 | exact hk.2.2.2 | exact hk.1.1.1.1 | exact hk.1.1.1.2 | exact hk.1.1.2.1 | exact hk.1.1.2.2 | exact hk.1.2.1.1 | exact hk.1.2.1.2 | exact hk.1.2.2.1 | exact hk.1.2.2.2 | exact hk.2.1.1.1 | exact hk.2.1.1.2 | exact hk.2.1.2.1 | exact hk.2.1.2.2 | exact hk.2.2.1.1 | exact hk.2.2.1.2 | exact hk.2.2.2.1 | exact hk.2.2.2.2)))⟩, ⟨by (with_reducible repeat (first | apply Kd.R_alloc | apply Kd.R_drewN | apply Kd.R_drew)); exact Kd.R_mono HO_7.out (fun _ hk => by first | exact ⟨hk.1.1, ⟨hk.1.2.1, hk.2⟩⟩ | ((repeat' apply And.intro) <;> (with_reducible first | exact hk | exact hk.1 | exact hk.2 | exact hk.1.1 | exact hk.1.2 | exact hk.2.1 | exact hk.2.2 | exact hk.1.1.1 | exact hk.1.1.2 | exact hk.1.2.1 | exact hk.1.2.2 | exact hk.2.1.1 | exact hk.2.1.2 | exact hk.2.2.1 | exact hk.2.2.2 | exact hk.1.1.1.1 | exact hk.1.1.1.2 | exact hk.1.1.2.1 | exact hk.1.1.2.2 | exact hk.1.2.1.1 | exact hk.1.2.1.2 | exact hk.1.2.2.1 | exact hk.1.2.2.2 | exact hk.2.1.1.1 | exact hk.2.1.1.2 | exact hk.2.1.2.1 | exact hk.2.1.2.2 | exact hk.2.2.1.1 | exact hk.2.2.1.2 | exact hk.2.2.2.1 | exact hk.2.2.2.2)))⟩, ⟨by (with_reducible repeat (first | apply Kd.R_alloc | apply Kd.R_drewN | apply Kd.R_drew)); exact Kd.R_mono HO_8.out (fun _ hk => by first | exact ⟨hk.1.1, ⟨hk.1.2.1, hk.2⟩⟩ | ((repeat' apply And.intro) <;> (with_reducible first | exact hk | exact hk.1 | exact hk.2 | exact hk.1.1 | exact hk.1.2 | exact hk.2.1 | exact hk.2.2 | exact hk.1.1.1 | exact hk.1.1.2 | exact hk.1.2.1 | exact hk.1.2.2 | exact hk.2.1.1 | exact hk.2.1.2 | exact hk.2.2.1 | exact hk.2.2.2 | exact hk.1.1.1.1 | exact hk.1.1.1.2 | exact hk.1.1.2.1 | exact hk.1.1.2.2 | exact hk.1.2.1.1 | exact hk.1.2.1.2 | exact hk.1.2.2.1 | exact hk.1.2.2.2 | exact hk.2.1.1.1 | exact hk.2.1.1.2 | exact hk.2.1.2.1 | exact hk.2.1.2.2 | exact hk.2.2.1.1 | exact hk.2.2.1.2 | exact hk.2.2.2.1 | exact hk.2.2.2.2)))⟩, ⟨by (with_reducible repeat (first | apply Kd.R_alloc | apply Kd.R_drewN | apply Kd.R_drew)); exact Kd.R_mono HO217.out (fun _ hk => by first | exact ⟨hk.1.1.1.2, ⟨hk.1.1.2, hk.1.2⟩⟩ | ((repeat' apply And.intro) <;> (with_reducible first | exact hk | exact hk.1 | exact hk.2 | exact hk.1.1 | exact hk.1.2 | exact hk.2.1 | exact hk.2.2 | exact hk.1.1.1 | exact hk.1.1.2 | exact hk.1.2.1 | exact hk.1.2.2 | exact hk.2.1.1 | exact hk.2.1.2 | exact hk.2.2.1 | exact hk.2.2.2 | exact hk.1.1.1.1 | exact hk.1.1.1.2 | exact hk.1.1.2.1 | exact hk.1.1.2.2 | exact hk.1.2.1.1 | exact hk.1.2.1.2 | exact hk.1.2.2.1 | exact hk.1.2.2.2 | exact hk.2.1.1.1 | exact hk.2.1.1.2 | exact hk.2.1.2.1 | exact hk.2.1.2.2 | exact hk.2.2.1.1 | exact hk.2.2.1.2 | exact hk.2.2.2.1 | exact hk.2.2.2.2)))⟩, ⟨by repeat (first | (with_reducible first | exact HB.out | apply below_alloc | apply pw_below_drewN | apply below_drew1) | exact HB.out)⟩⟩
                                  · rw [if_neg c35] at H
                                    exact absurd H (by simp)
                                · rw [if_neg c28] at H
                                  exact absurd H (by simp)
                              · rw [if_neg c27] at H
                                exact absurd H (by simp)
                            · rw [if_neg c26] at H
                              exact absurd H (by simp)
                          · rw [if_neg c21] at H
                            exact absurd H (by simp)
                        · rw [if_neg c20] at H
                          exact absurd H (by simp)
                      · rw [if_neg c19] at H
                        exact absurd H (by simp)
                    · rw [if_neg c18] at H
                      exact absurd H (by simp)
                  · rw [if_neg c17] at H
                    exact absurd H (by simp)
                · rw [if_neg c16] at H
                  exact absurd H (by simp)
              · rw [if_neg c15] at H
                exact absurd H (by simp)
            · rw [if_neg c14] at H
              have c14b0 : decide (x12_2 < 64) = false := decide_eq_false c14
              clear c14
              have H' := Aside0.mk H
              clear H
              go_wp2
              go_loopg [21, 22] k2 (fun kq v21 v22 w' => ∃ (x21_3 : List Int) (x22_3 : Int), v22 = .int .i64 x22_3 ∧ Aside0 (samphireref02_Block.l1 kq t186 x10_2 x21_3 x22_3 = some (r1, r2)) ∧ Aside0 (kq ≤ k2) ∧ Aside0 (Kd.R (Kd.int .i64) 3 w' w.heap.size (fun k_ => some k_ ≠ (u10 : Value).ownBlock ∧ some k_ ≠ (v21 : Value).ownBlock) v188 t186) ∧ Aside0 (Kd.R (Kd.int .i64) 3 w' w.heap.size (fun k_ => some k_ ≠ (v188 : Value).ownBlock ∧ some k_ ≠ (v21 : Value).ownBlock) u10 x10_2) ∧ Aside0 (Kd.R (Kd.int .i64) 3 w' w.heap.size (fun k_ => some k_ ≠ (v188 : Value).ownBlock ∧ some k_ ≠ (u10 : Value).ownBlock) v21 x21_3) ∧ Aside0 (Below w.heap.size w w'))
              case atStart => exact ⟨(([] : List Int)), (0), (by first | rfl | (simp; done) | (simp [*]; done)), H', ⟨Nat.le_refl _⟩, ⟨by (with_reducible repeat (first | apply Kd.R_alloc | apply Kd.R_drewN | apply Kd.R_drew)); exact Kd.R_mono HO_8.out (fun _ hk => ⟨hk.2.2, (by simp [Value.ownBlock])⟩)⟩, ⟨by (with_reducible repeat (first | apply Kd.R_alloc | apply Kd.R_drewN | apply Kd.R_drew)); exact Kd.R_mono HO_10.out (fun _ hk => ⟨hk.2.2, (by simp [Value.ownBlock])⟩)⟩, ⟨by first | exact Kd.R_nil _ _ _ _ _ | exact Kd.N_nil _ _ _ _ _ | exact Kd.V_nil _ _ _ _ _ | exact Kd.Q_nil _ _ _ _ _ | exact Kd.S_nil _ _ _ _ _⟩, ⟨by repeat (first | (with_reducible first | exact HB.out | apply below_alloc | apply pw_below_drewN | apply below_drew1) | exact HB.out)⟩⟩
              case round =>
                clear H'
                try clear c1
                try clear c2
                try clear p2
                try clear q2
                try clear hx2
                try clear qi2
                try clear c3
                try clear p6
                try clear c14
                try clear c14b0
                try clear c15
                try clear c16
                try clear c17
                try clear c18
                try clear c19
                try clear c20
                try clear p20
                try clear q20
                try clear hx20
                try clear qi20
                try clear c21
                try clear p21
                try clear q21
                try clear hx21
                try clear qi21
                try clear c26
                try clear c27
                try clear c28
                try clear c35
                try clear hx200_0
                try clear hx205_0
                try clear hx206_0
                try clear hx213_0
                try clear p200
                try clear p205
                try clear p206
                try clear p213
                try clear q200
                try clear q205
                try clear q206
                try clear q213
                obtain ⟨x21_3, x22_3, rfl, HA, HK3, HO_8, HO_10, HO_21, HB⟩ := hrel
                cases gk with
                | zero => exact absurd HA.out (by simp [samphireref02_Block.l1])
                | succ k3 =>
                  have H := HA.out
                  clear HA
                  simp only [samphireref02_Block.l1] at H
                  by_cases c46 : x22_3 < 8
                  · rw [if_pos c46] at H
                    have c46b0 : decide (x22_3 < 8) = true := decide_eq_true c46
                    clear c46
                    by_cases c47 : 0 ≤ x22_3
                    · rw [if_pos c47] at H
                      have c47b0 : decide (0 ≤ x22_3) = true := decide_eq_true c47
                      clear c47
                      by_cases c48 : x22_3 < (t186.length : Int)
                      · rw [if_pos c48] at H
                        have c48b0 : decide (x22_3 < (t186.length : Int)) = true := decide_eq_true c48
                        clear c48
                        by_cases c49 : x22_3 < (x10_2.length : Int)
                        · rw [if_pos c49] at H
                          have c49b0 : decide (x22_3 < (x10_2.length : Int)) = true := decide_eq_true c49
                          clear c49
                          replace H := Option.bind_eq_some_iff.mp H
                          obtain ⟨t220, A500, H⟩ := H
                          replace H : (if x21_3.length < 17592186044416 then (samphireref02_Block.l1 k3 t186 x10_2 (x21_3 ++ [t220]) (wrap64 (x22_3 + 1))) else (none)) = some (r1, r2) := H
                          have A50 := Aside0.mk A500
                          clear A500
                          by_cases c51 : x21_3.length < 17592186044416
                          · rw [if_pos c51] at H
                            have LMc51 := Aside0.mk c51
                            clear c51
                            obtain ⟨y221, hy221⟩ : ∃ y_ : List Int, y_ = (x21_3 ++ [t220]) := ⟨_, rfl⟩
                            replace H : (samphireref02_Block.l1 k3 t186 x10_2 y221 (wrap64 (x22_3 + 1))) = some (r1, r2) := by first | (rw [hy221]; with_reducible exact H) | (have H2_ := (Option.bind_some _ _).symm.trans H; rw [hy221]; with_reducible exact H2_) | (have H2_ := (Option.bind_some _ _).symm.trans H; with_reducible exact H2_) | with_reducible exact H | (rw [hy221]; exact H) | exact H
                            have Ny221 := Aside0.mk hy221
                            clear hy221
                            have H' := Aside0.mk H
                            clear H
                            try go_wp2
                            have n0_ := Aside0.mk (Kd.R_drew HO_8.out)
                            have n1_ := Aside0.mk (Kd.R_drew HO_10.out)
                            have n2_ := Aside0.mk (Kd.R_drew HO_21.out)
                            have n3_ := Aside0.mk (below_drew1 HB.out)
                            clear HO_8
                            clear HO_10
                            clear HO_21
                            clear HB
                            have HO_8 := n0_
                            have HO_10 := n1_
                            have HO_21 := n2_
                            have HB := n3_
                            clear n0_ n1_ n2_ n3_
                            obtain ⟨Ao53, co53, eo53⟩ := Kd.R_slice HO_8.out
                            (first | subst eo53 | (injection eo53 with f1_ f2_ f3_; have f4_ := f1_.symm; have f5_ := f3_.symm; clear f1_ f2_ f3_; subst f4_; subst f5_))
                            have p218 : 0 ≤ (x22_3 : Int) := of_decide_eq_true (by first | (with_reducible assumption) | assumption)
                            have q218 : x22_3 < (t186.length : Int) := of_decide_eq_true (by first | (with_reducible assumption) | assumption)
                            obtain ⟨ad218, e218, hx218_0⟩ := Kd.at_int (Kd.R_reads' HO_8.out).2.2 x22_3 p218 q218
                            cases e218
                            replace p218 := eq_true p218
                            replace q218 := eq_true q218
                            obtain ⟨Ao54, co54, eo54⟩ := Kd.R_slice HO_10.out
                            (first | subst eo54 | (injection eo54 with f1_ f2_ f3_; have f4_ := f1_.symm; have f5_ := f3_.symm; clear f1_ f2_ f3_; subst f4_; subst f5_))
                            have p219 : 0 ≤ (x22_3 : Int) := of_decide_eq_true (by first | (with_reducible assumption) | assumption)
                            have q219 : x22_3 < (x10_2.length : Int) := of_decide_eq_true (by first | (with_reducible assumption) | assumption)
                            obtain ⟨ad219, e219, hx219_0⟩ := Kd.at_int (Kd.R_reads' HO_10.out).2.2 x22_3 p219 q219
                            cases e219
                            replace p219 := eq_true p219
                            replace q219 := eq_true q219
                            refine start_ (n := 14) (S := fun w' => w'.cell? (ad218.add (x22_3).toNat) = some (.int .i64 (rd t186 x22_3)) ∧ w'.cell? (ad219.add (x22_3).toNat) = some (.int .i64 (rd x10_2 x22_3))) (ds := [11, 12]) #[false, false, false, false, false, false, false, false, false, false, false, false, false, false] (by kernel_rfl) rfl rfl ⟨hx218_0, hx219_0⟩ (fun hHeld => ?_); refine with_tabW samphireref02_Block.tab19 samphireref02_Block.bits19 (fun HT_ HW_ => ?_)
                            generalize wr.drew = w52 at HO_8 HO_10 HO_21 HB hx218_0 hx219_0 hHeld ⊢
                            refine pure_ (i := 0) (N := some 141) (v := ?_) (a' := ?_) #[true, false, false, false, false, false, false, false, false, false, false, false, false, false] rfl rfl (any_of HT_.out (by kernel_rfl)) (fun _ _ _ h => h) (Or.inl ⟨by rfl, ?_⟩) ?_ ?_
                            rotate_left
                            · intro w'
                              go_simp
                              with_reducible rfl
                            rotate_left
                            · simp only [Act.put, List.setIfInBounds_toArray, List.set_cons_zero, List.set_cons_succ, i64_w, i32_w]
                              rfl
                            refine pure_ (i := 1) (N := some 142) (v := ?_) (a' := ?_) #[true, true, false, false, false, false, false, false, false, false, false, false, false, false] rfl rfl (any_of HT_.out (by kernel_rfl)) (fun _ _ _ h => h) (Or.inl ⟨by rfl, ?_⟩) ?_ ?_
                            rotate_left
                            · intro w'
                              go_simp
                              with_reducible rfl
                            rotate_left
                            · simp only [Act.put, List.setIfInBounds_toArray, List.set_cons_zero, List.set_cons_succ, i64_w, i32_w]
                              rfl
                            refine pure_ (i := 2) (N := some 143) (v := ?_) (a' := ?_) #[true, true, true, false, false, false, false, false, false, false, false, false, false, false] rfl rfl (any_of HT_.out (by kernel_rfl)) (fun _ _ _ h => h) (Or.inl ⟨by rfl, ?_⟩) ?_ ?_
                            rotate_left
                            · intro w'
                              go_simp
                              with_reducible rfl
                            rotate_left
                            · simp only [Act.put, List.setIfInBounds_toArray, List.set_cons_zero, List.set_cons_succ, i64_w, i32_w]
                              rfl
                            refine pure_ (i := 3) (N := some 144) (v := ?_) (a' := ?_) #[true, true, true, true, false, false, false, false, false, false, false, false, false, false] rfl rfl (any_of HT_.out (by kernel_rfl)) (fun _ _ _ h => h) (Or.inl ⟨by rfl, ?_⟩) ?_ ?_
                            rotate_left
                            · intro w'
                              go_simp
                              with_reducible rfl
                            rotate_left
                            · simp only [Act.put, List.setIfInBounds_toArray, List.set_cons_zero, List.set_cons_succ, i64_w, i32_w]
                              rfl
                            refine pure_ (i := 5) (N := some 146) (v := ?_) (a' := ?_) #[true, true, true, true, false, true, false, false, false, false, false, false, false, false] rfl rfl (any_of HT_.out (by kernel_rfl)) (fun _ _ _ h => h) (Or.inl ⟨by rfl, ?_⟩) ?_ ?_
                            rotate_left
                            · intro w'
                              go_simp
                              with_reducible rfl
                            rotate_left
                            · simp only [Act.put, List.setIfInBounds_toArray, List.set_cons_zero, List.set_cons_succ, i64_w, i32_w]
                              rfl
                            refine pure_ (i := 6) (N := some 147) (v := ?_) (a' := ?_) #[true, true, true, true, false, true, true, false, false, false, false, false, false, false] rfl rfl (any_of HT_.out (by kernel_rfl)) (fun _ _ _ h => h) (Or.inl ⟨by rfl, ?_⟩) ?_ ?_
                            rotate_left
                            · intro w'
                              go_simp
                              with_reducible rfl
                            rotate_left
                            · simp only [Act.put, List.setIfInBounds_toArray, List.set_cons_zero, List.set_cons_succ, i64_w, i32_w]
                              rfl
                            refine pure_ (i := 7) (N := some 148) (v := ?_) (a' := ?_) #[true, true, true, true, false, true, true, true, false, false, false, false, false, false] rfl rfl (any_of HT_.out (by kernel_rfl)) (fun _ _ _ h => h) (Or.inl ⟨by rfl, ?_⟩) ?_ ?_
                            rotate_left
                            · intro w'
                              go_simp
                              with_reducible rfl
                            rotate_left
                            · simp only [Act.put, List.setIfInBounds_toArray, List.set_cons_zero, List.set_cons_succ, i64_w, i32_w]
                              rfl
                            refine take_ (i := 4) (N := some 145) (v := ?_) (a' := ?_) #[true, true, true, true, true, true, true, true, false, false, false, false, false, false] rfl rfl (take_ofW HT_.out HW_.out (by kernel_rfl)) (fun _ _ _ h => h) (Or.inl ⟨by rfl, ?_⟩) hHeld ?_ ?_
                            rotate_left
                            · rintro w' ⟨s0, s1⟩
                              go_simp
                              with_reducible rfl
                            rotate_left
                            · simp only [Act.put, List.setIfInBounds_toArray, List.set_cons_zero, List.set_cons_succ, i64_w, i32_w]
                              rfl
                            refine take_ (i := 8) (N := some 149) (v := ?_) (a' := ?_) #[true, true, true, true, true, true, true, true, true, false, false, false, false, false] rfl rfl (take_ofW HT_.out HW_.out (by kernel_rfl)) (fun _ _ _ h => h) (Or.inl ⟨by rfl, ?_⟩) hHeld ?_ ?_
                            rotate_left
                            · rintro w' ⟨s0, s1⟩
                              go_simp
                              with_reducible rfl
                            rotate_left
                            · simp only [Act.put, List.setIfInBounds_toArray, List.set_cons_zero, List.set_cons_succ, i64_w, i32_w]
                              rfl
                            refine pure_ (i := 9) (N := some 150) (v := ?_) (a' := ?_) #[true, true, true, true, true, true, true, true, true, true, false, false, false, false] rfl rfl (any_of HT_.out (by kernel_rfl)) (fun _ _ _ h => h) (Or.inl ⟨by rfl, ?_⟩) ?_ ?_
                            rotate_left
                            · intro w'
                              go_simp
                              with_reducible rfl
                            rotate_left
                            · simp only [Act.put, List.setIfInBounds_toArray, List.set_cons_zero, List.set_cons_succ, i64_w, i32_w]
                              rfl
                            refine one_ (i := 10) (N := some 151) #[true, true, true, true, true, true, true, true, true, true, true, false, false, false] rfl rfl (one_of HT_.out (by kernel_rfl)) (by decide) (fun K hK => ?_)
                            refine goes_ Try.func166 (by kernel_rfl) rfl #[.int .i64 (wrap64 ((rd t186 x22_3) + (rd x10_2 x22_3)))] (by rfl) rfl rfl (by (try simp only [List.map_toArray, List.map_cons, List.map_nil]); first | done | rfl | (simp only [List.length_drop, List.length_take]; rfl)) ?_
                            with_reducible refine (samphireref01_Word.calls (wrap64 ((rd t186 x22_3) + (rd x10_2 x22_3))) t220 _ A50.out).mono ?_
                            rintro e w' ⟨rfl, ⟨nd, rfl⟩⟩
                            refine ⟨_, rfl, ?_⟩
                            refine hK.out _ _ ⟨hHeld.1, hHeld.2⟩ (fun hHeld => ?_)
                            clear hK K
                            refine norm_ (a' := ?_) ?_ ?_
                            rotate_left
                            · show Act.put _ (some 151) _ = _
                              simp only [Act.put, List.setIfInBounds_toArray, List.set_cons_zero, List.set_cons_succ, i64_w, i32_w]
                              rfl
                            refine last_ (i := 11) (N := some 152) #[true, true, true, true, true, true, true, true, true, true, true, true, false, false] rfl rfl (one_of HT_.out (by kernel_rfl)) (by decide) (fun K hK => ?_)
                            refine value_ (w1 := ?_) (v := ?_) (by rfl) rfl ?_ ?_
                            rotate_left 2
                            · go_simp
                              constructor
                              · rfl
                              · rfl
                            refine hK.out _ _ ?_
                            clear hK K
                            refine norm_ (a' := ?_) ?_ ?_
                            rotate_left
                            · show Act.put _ (some 152) _ = _
                              simp only [Act.put, List.setIfInBounds_toArray, List.set_cons_zero, List.set_cons_succ, i64_w, i32_w]
                              rfl
                            refine last_ (i := 12) (N := some 153) #[true, true, true, true, true, true, true, true, true, true, true, true, true, false] rfl rfl (one_of HT_.out (by kernel_rfl)) (by decide) (fun K hK => ?_)
                            refine Kd.R_append_step (Kd.int .i64) (w0 := w) w.heap.size (by rfl) (.tmp 141) (.tmp 152) 78 3 (.int .i64 0) 8 rfl Try.underlying78 info3 rfl (by decide) (by omega) u21 x21_3 t220 [.int .i64 t220] (fun k_ => some k_ ≠ (.slice (some ad218) t186.length co53 : Value).ownBlock ∧ some k_ ≠ (.slice (some ad219) x10_2.length co54 : Value).ownBlock) (fun _ => False) rfl rfl ?aP (fun _ hk => hk.elim) ?aF ?aO ?aB ?aS ?aL ?_
                            (case aP => exact rfl)
                            (case aB => exact (by repeat (first | (with_reducible first | exact HB.out | apply below_alloc | apply pw_below_drewN | apply below_drew1) | exact HB.out)))
                            (case aF => exact (fun k_ hk => ⟨Kd.fresh' (Kd.R_lt (by (with_reducible repeat (first | apply Kd.R_alloc | apply Kd.R_drewN | apply Kd.R_drew)); exact HO_8.out)) k_ hk, Kd.fresh' (Kd.R_lt (by (with_reducible repeat (first | apply Kd.R_alloc | apply Kd.R_drewN | apply Kd.R_drew)); exact HO_10.out)) k_ hk⟩))
                            (case aO => exact (by (with_reducible repeat (first | apply Kd.R_alloc | apply Kd.R_drewN | apply Kd.R_drew)); exact HO_21.out))
                            (case aS => exact (below_size (by repeat (first | (with_reducible first | exact HB.out | apply below_alloc | apply pw_below_drewN | apply below_drew1) | exact HB.out))))
                            (case aL => have := LMc51.out; omega)
                            intro v222 w55 ho hb hg hat
                            rw [← Ny221.out] at ho
                            have n0_ := Aside0.mk (Kd.R_after (ok := (fun k_ => some k_ ≠ (.slice (some ad219) x10_2.length co54 : Value).ownBlock)) (by (with_reducible repeat (first | apply Kd.R_alloc | apply Kd.R_drewN | apply Kd.R_drew)); exact HO_8.out) hg hat)
                            have n1_ := Aside0.mk (Kd.R_after (ok := (fun k_ => some k_ ≠ (.slice (some ad218) t186.length co53 : Value).ownBlock)) (by (with_reducible repeat (first | apply Kd.R_alloc | apply Kd.R_drewN | apply Kd.R_drew)); exact HO_10.out) hg hat)
                            have n2_ := Aside0.mk (hb)
                            have n3_ := Aside0.mk (ho)
                            clear HO_8
                            clear HO_10
                            clear HB
                            clear HO_21
                            have HO_8 := n0_
                            have HO_10 := n1_
                            have HB := n2_
                            have HO223 := n3_
                            clear n0_ n1_ n2_ n3_
                            clear ho hb hg hat
                            refine hK.out _ _ ?_
                            clear hK K
                            refine norm_ (a' := ?_) ?_ ?_
                            rotate_left
                            · show Act.put _ (some 153) _ = _
                              simp only [Act.put, List.setIfInBounds_toArray, List.set_cons_zero, List.set_cons_succ, i64_w, i32_w]
                              rfl
                            refine pure_ (i := 13) (N := some 21) (v := ?_) (a' := ?_) #[true, true, true, true, true, true, true, true, true, true, true, true, true, true] rfl rfl (any_of HT_.out (by kernel_rfl)) (fun _ _ _ h => h) (Or.inl ⟨by rfl, ?_⟩) ?_ ?_
                            rotate_left
                            · intro w'
                              go_simp
                              with_reducible rfl
                            rotate_left
                            · simp only [Act.put, List.setIfInBounds_toArray, List.set_cons_zero, List.set_cons_succ, i64_w, i32_w]
                              rfl
                            refine done_ (done_of HT_.out (by kernel_rfl)) ?_
                            try go_wp2
                            go_roundg k3
                            case measure => have := HJ2.out; have := HK2.out; have := HK3.out; omega
                            case rel => exact ⟨(y221), (wrap64 (x22_3 + 1)), (by first | rfl | (simp; done) | (simp [*]; done)), H', ⟨by have := HJ2.out; have := HK2.out; have := HK3.out; omega⟩, ⟨by (with_reducible repeat (first | apply Kd.R_alloc | apply Kd.R_drewN | apply Kd.R_drew)); exact HO_8.out⟩, ⟨by (with_reducible repeat (first | apply Kd.R_alloc | apply Kd.R_drewN | apply Kd.R_drew)); exact HO_10.out⟩, ⟨by (with_reducible repeat (first | apply Kd.R_alloc | apply Kd.R_drewN | apply Kd.R_drew)); exact HO223.out⟩, ⟨by repeat (first | (with_reducible first | exact HB.out | apply below_alloc | apply pw_below_drewN | apply below_drew1) | exact HB.out)⟩⟩
                          · rw [if_neg c51] at H
                            exact absurd H (by simp)
                        · rw [if_neg c49] at H
                          exact absurd H (by simp)
                      · rw [if_neg c48] at H
                        exact absurd H (by simp)
                    · rw [if_neg c47] at H
                      exact absurd H (by simp)
                  · rw [if_neg c46] at H
                    have c46b0 : decide (x22_3 < 8) = false := decide_eq_false c46
                    clear c46
                    replace H := Option.bind_eq_some_iff.mp H
                    obtain ⟨t224, A560, H⟩ := H
                    replace H : (some (t224, 0)) = some (r1, r2) := H
                    have A56 := Aside0.mk A560
                    clear A560
                    simp only [Option.some.injEq, Prod.mk.injEq] at H
                    obtain ⟨rfl, rfl⟩ := H
                    obtain ⟨Ao57, co57, eo57⟩ := Kd.R_slice HO_21.out
                    subst eo57
                    go_wp2_with (first | ((with_reducible refine gate_callee (f := 162) rfl ?_); refine goesL_ (some 155) rfl rfl Try.func162 (by kernel_rfl) rfl #[.slice Ao57 x21_3.length co57] rfl (by (try simp only [List.map_toArray, List.map_cons, List.map_nil]); first | done | rfl | (simp only [List.length_drop, List.length_take]; rfl)) ?_; (with_reducible refine (samphireref01_PutBig.calls k3 _ _ x21_3 t224 _ ?side1 ?side2 A56.out).mono ?_); (case side1 => repeat (first | exact (Kd.R_reads' HO_21.out).2.2 | (with_reducible refine Kd.C_alloc ?_ _) | (with_reducible refine Kd.C_drewN ?_ _) | (with_reducible refine Kd.C_drew ?_))); (case side2 => exact (Kd.R_reads' HO_21.out).2.1); rintro e w58 ⟨rfl, hb⟩; refine ⟨_, rfl, ?_⟩; have n0_ := Aside0.mk (Kd.R_below (by (with_reducible repeat (first | apply Kd.R_alloc | apply Kd.R_drewN | apply Kd.R_drew)); exact HO_8.out) hb); have n1_ := Aside0.mk (Kd.R_below (by (with_reducible repeat (first | apply Kd.R_alloc | apply Kd.R_drewN | apply Kd.R_drew)); exact HO_10.out) hb); have n2_ := Aside0.mk (Kd.R_below (by (with_reducible repeat (first | apply Kd.R_alloc | apply Kd.R_drewN | apply Kd.R_drew)); exact HO_21.out) hb); have n3_ := Aside0.mk (below_step (by repeat (first | (with_reducible first | exact HB.out | apply below_alloc | apply pw_below_drewN | apply below_drew1) | exact HB.out)) hb); clear HO_8; clear HO_10; clear HO_21; clear HB; have HO_8 := n0_; have HO_10 := n1_; have HO_21 := n2_; have HB := n3_; clear n0_ n1_ n2_ n3_; (try clear hb); (try clear hb2); (try clear hk); (try clear hi)))
                    go_ret2
                    exact ⟨by first | rfl | (simp [errW_none, errW_some] <;> rfl) | (simp [*, errW_none, errW_some] <;> rfl), by repeat (first | (with_reducible first | exact HB.out | apply below_alloc | apply pw_below_drewN | apply below_drew1) | exact HB.out)⟩
end Go.Proofs.Ytbkbganflnemeaa.Pr
end

section
namespace Go.Proofs.Ytbkbganflnemeaa.Pr
open Go.RowKit Go.Proofs.YtbkbganflnemeaaW.PrintWords Go.Proofs.YtbkbganflnemeaaW.PrintLast Go.Proofs.YtbkbganflnemeaaW.PrintMore
attribute [local go_sem] max2_int min2_int max_two min_two max_three min_three max_four min_four   -- for this text's walks alone
set_option linter.unusedVariables false
set_option linter.unusedSimpArgs false
def samphireref02_Begin.f (k : Nat)  : Option (ByteArray) := (samphireref01_PutBig.f k (([1779033703, 3144134277, 1013904242, 2773480762, 1359893119, 2600822924, 528734635, 1541459225] : List Int))).bind fun t157 => (some t157)
set_option maxHeartbeats 8000000 in
set_option maxRecDepth 100000 in
theorem samphireref02_Begin.calls (k : Nat)  (r : ByteArray) (w : World) (h : samphireref02_Begin.f k  = some r) :
    Calls Try.prog 147 #[] w fun e w' => e = .returned (.string r) ∧ Below w.heap.size w w' := by
  have HB := Aside0.mk (Below.refl w.heap.size w)
  have H : ((samphireref01_PutBig.f k (([1779033703, 3144134277, 1013904242, 2773480762, 1359893119, 2600822924, 528734635, 1541459225] : List Int))).bind fun t157 => (some t157)) = some r := h
  clear h
  obtain ⟨y154, hy154⟩ : ∃ y_ : List Int, y_ = (([1779033703, 3144134277, 1013904242, 2773480762, 1359893119, 2600822924, 528734635, 1541459225] : List Int)) := ⟨_, rfl⟩
  replace H : ((samphireref01_PutBig.f k y154).bind fun t157 => (some t157)) = some r := by first | (rw [hy154]; with_reducible exact H) | (have H2_ := (Option.bind_some _ _).symm.trans H; rw [hy154]; with_reducible exact H2_) | (have H2_ := (Option.bind_some _ _).symm.trans H; with_reducible exact H2_) | with_reducible exact H | (rw [hy154]; exact H) | exact H
  have Ny154 := Aside0.mk hy154
  clear hy154
  replace H := Option.bind_eq_some_iff.mp H
  obtain ⟨t157, A10, H⟩ := H
  replace H : (some t157) = some r := H
  have A1 := Aside0.mk A10
  clear A10
  obtain rfl := Option.some.inj H
  go_enter Try.func147, Try.ntmps147
  go_wp2_with (first | ((with_reducible refine gate_dst (N := 1) rfl ?_); refine Kd.R_lit (Kd.int .i64) _ 3 ?hg (N := 1) ?hd (xs := ([1779033703, 3144134277, 1013904242, 2773480762, 1359893119, 2600822924, 528734635, 1541459225] : List Int)) (inner := [.int .i64 1779033703, .int .i64 3144134277, .int .i64 1013904242, .int .i64 2773480762, .int .i64 1359893119, .int .i64 2600822924, .int .i64 528734635, .int .i64 1541459225]) (ok := fun _ => True) (okp := fun _ => True) ?hr ?hp (fun _ hk => hk) trivial (Below.refl _ _) (Nat.le_refl _) (by simp) ?_; (case hd => rfl); (case hg => rfl); (case hr => first | (go_simp; done) | (go_simp; rfl)); (case hp => exact (Reps.one (show Kd.M (Kd.int .i64) _ _ _ 1779033703 [.int .i64 1779033703] from rfl) (Reps.one (show Kd.M (Kd.int .i64) _ _ _ 3144134277 [.int .i64 3144134277] from rfl) (Reps.one (show Kd.M (Kd.int .i64) _ _ _ 1013904242 [.int .i64 1013904242] from rfl) (Reps.one (show Kd.M (Kd.int .i64) _ _ _ 2773480762 [.int .i64 2773480762] from rfl) (Reps.one (show Kd.M (Kd.int .i64) _ _ _ 1359893119 [.int .i64 1359893119] from rfl) (Reps.one (show Kd.M (Kd.int .i64) _ _ _ 2600822924 [.int .i64 2600822924] from rfl) (Reps.one (show Kd.M (Kd.int .i64) _ _ _ 528734635 [.int .i64 528734635] from rfl) (Reps.one (show Kd.M (Kd.int .i64) _ _ _ 1541459225 [.int .i64 1541459225] from rfl) (Reps.none _ _)))))))))); intro v155 w2 ho3 hb hg_ hnew_; clear hg_ hnew_; (first | rw [← Ny154.out] at ho3 | (simp only [Int.reduceToNat] at ho3; rw [← Ny154.out] at ho3)); have n0_ := Aside0.mk (Kd.R_lower ho3 (below_size (by repeat (first | (with_reducible first | exact HB.out | apply below_alloc | apply pw_below_drewN | apply below_drew1) | exact HB.out)))); have n1_ := Aside0.mk (below_step (by repeat (first | (with_reducible first | exact HB.out | apply below_alloc | apply pw_below_drewN | apply below_drew1) | exact HB.out)) hb); clear HB; have HO156 := n0_; have HB := n1_; clear n0_ n1_; clear hb ho3; obtain ⟨Ao4, co4, eo4⟩ := Kd.R_slice HO156.out; subst eo4) | ((with_reducible refine gate_callee (f := 162) rfl ?_); refine goesL_ (some 2) rfl rfl Try.func162 (by kernel_rfl) rfl #[.slice Ao4 y154.length co4] rfl (by (try simp only [List.map_toArray, List.map_cons, List.map_nil]); first | done | rfl | (simp only [List.length_drop, List.length_take]; rfl)) ?_; (with_reducible refine (samphireref01_PutBig.calls k _ _ y154 t157 _ ?side1 ?side2 A1.out).mono ?_); (case side1 => repeat (first | exact (Kd.R_reads' HO156.out).2.2 | (with_reducible refine Kd.C_alloc ?_ _) | (with_reducible refine Kd.C_drewN ?_ _) | (with_reducible refine Kd.C_drew ?_))); (case side2 => exact (Kd.R_reads' HO156.out).2.1); rintro e w5 ⟨rfl, hb⟩; refine ⟨_, rfl, ?_⟩; have n0_ := Aside0.mk (Kd.R_below (by (with_reducible repeat (first | apply Kd.R_alloc | apply Kd.R_drewN | apply Kd.R_drew)); exact HO156.out) hb); have n1_ := Aside0.mk (below_step (by repeat (first | (with_reducible first | exact HB.out | apply below_alloc | apply pw_below_drewN | apply below_drew1) | exact HB.out)) hb); clear HO156; clear HB; have HO156 := n0_; have HB := n1_; clear n0_ n1_; (try clear hb); (try clear hb2); (try clear hk); (try clear hi)))
  go_ret
  exact ⟨by first | rfl | (simp [errW_none, errW_some] <;> rfl) | (simp [*, errW_none, errW_some] <;> rfl), by repeat (first | (with_reducible first | exact HB.out | apply below_alloc | apply pw_below_drewN | apply below_drew1) | exact HB.out)⟩
end Go.Proofs.Ytbkbganflnemeaa.Pr
end

section
namespace Go.Proofs.Ytbkbganflnemeaa.Pr
open Go.RowKit Go.Proofs.YtbkbganflnemeaaW.PrintWords
set_option maxHeartbeats 1000000
set_option linter.unusedVariables false
set_option linter.unusedSimpArgs false
theorem wr (x : Int) (h0 : 0 ≤ x) (h1 : x < 4611686018427387904) : wrap64 x = x := by unfold wrap64; omega
theorem word_f (a : Nat) (h : a < 4611686018427387904) : samphireref01_Word.f (a : Int) = some ((a % 4294967296 : Nat) : Int) := by
  unfold samphireref01_Word.f
  rw [mask62 a h]
def ints (l : List Nat) : List Int := l.map fun (n : Nat) => (n : Int)
theorem ints_length (l : List Nat) : (ints l).length = l.length := by simp [ints]
theorem ints_append (a b : List Nat) : ints (a ++ b) = ints a ++ ints b := by simp [ints]
theorem rd_ints (l : List Nat) (i : Nat) : rd (ints l) (i : Int) = (l.getD i 0 : Nat) := by
  unfold rd ints
  rw [Int.toNat_natCast, List.getD_eq_getElem?_getD, List.getD_eq_getElem?_getD, List.getElem?_map]
  cases l[i]? <;> simp
theorem str_ints (l : List Nat) : strOfNums (ints l) = txt l := str_nats l
theorem and255 (n : Nat) (h : n < 4611686018427387904) : bits .and .i64 (n : Int) 255 = ((n % 256 : Nat) : Int) := by
  have := and62 n 255 h (by decide)
  rw [show ((255 : Nat) : Int) = 255 from rfl] at this
  rw [this, show (255 : Nat) = 2 ^ 8 - 1 from rfl, Nat.and_two_pow_sub_one_eq_mod]
theorem putBig_l0 (l : List Nat) (hl : ∀ i, l.getD i 0 < 4294967296) (hs : l.length ≤ 1000000) : ∀ (d k i : Nat) (acc : List Nat), i + d = l.length → d < k → acc.length + 4 * d ≤ 100000000 →
    samphireref01_PutBig.l0 k (ints l) (ints acc) (i : Int) = some (txt (acc ++ (l.drop i).flatMap by4)) := by
  intro d
  induction d with
  | zero =>
    intro k i acc hi hk ha
    obtain ⟨k, rfl⟩ : ∃ m, k = m + 1 := ⟨k - 1, by omega⟩
    simp only [samphireref01_PutBig.l0, ints_length]
    rw [if_neg (by omega), str_ints, List.drop_eq_nil_of_le (by omega)]
    simp
  | succ d ih =>
    intro k i acc hi hk ha
    obtain ⟨k, rfl⟩ : ∃ m, k = m + 1 := ⟨k - 1, by omega⟩
    simp only [samphireref01_PutBig.l0, ints_length]
    rw [if_pos (by omega), if_pos (by omega), rd_ints]
    have hx := hl i
    generalize hxe : l.getD i 0 = x at hx
    rw [word_f x (by omega)]
    have hm : x % 4294967296 = x := Nat.mod_eq_of_lt hx
    rw [hm]
    simp only [Option.bind_some, List.length_append, ints_length, List.length_cons, List.length_nil]
    rw [if_pos (by omega), if_pos (by omega), if_pos (by omega), if_pos (by omega)]
    have e1 : ((x : Int) / 65536) = ((x / 65536 : Nat) : Int) := by simp
    have e2 : ((x : Int) / 256) = ((x / 256 : Nat) : Int) := by simp
    rw [e1, e2, and255 _ (by omega), and255 _ (by omega), and255 _ (by omega), wr _ (by omega) (by omega)]
    have e3 : ((((ints acc ++ [(x : Int) / 16777216 % 256]) ++ [((x / 65536 % 256 : Nat) : Int) % 256]) ++ [((x / 256 % 256 : Nat) : Int) % 256]) ++ [((x % 256 : Nat) : Int) % 256]) = ints (acc ++ by4 x) := by
      rw [ints_append]
      simp only [List.append_assoc, List.cons_append, List.nil_append, ints, by4, List.map_cons, List.map_nil]
      rw [show ((x : Int) / 16777216 % 256) = ((x / 16777216 % 256 : Nat) : Int) by omega, show (((x / 65536 % 256 : Nat) : Int) % 256) = ((x / 65536 % 256 : Nat) : Int) by omega, show (((x / 256 % 256 : Nat) : Int) % 256) = ((x / 256 % 256 : Nat) : Int) by omega, show (((x % 256 : Nat) : Int) % 256) = ((x % 256 : Nat) : Int) by omega]
    rw [e3]
    have := ih k (i + 1) (acc ++ by4 x) (by omega) (by omega) (by rw [List.length_append, by4_length]; omega)
    rw [show ((i : Int) + 1) = ((i + 1 : Nat) : Int) by omega, this]
    have hd : l.drop i = x :: l.drop (i + 1) := by
      rw [List.drop_eq_getElem_cons (by omega), ← hxe]
      simp [show i < l.length by omega]
    rw [hd, List.flatMap_cons, List.append_assoc]
theorem putBig_ev (l : List Nat) (hl : ∀ i, l.getD i 0 < 4294967296) (hs : l.length ≤ 1000000) : Ev (fun k => samphireref01_PutBig.f k (ints l)) (txt (l.flatMap by4)) :=
  ⟨l.length + 1, fun k hk => by
    have := putBig_l0 l hl hs l.length k 0 [] (by omega) (by omega) (by simp; omega)
    simpa [samphireref01_PutBig.f, ints] using this⟩
theorem or_be62 (x y z v : Nat) (hx : x < 256) (hy : y < 256) (hz : z < 256) (hv : v < 256) : bits .or .i64 (bits .or .i64 (bits .or .i64 (wrap64 (wrap64 (x : Int) * 16777216)) (wrap64 (wrap64 (y : Int) * 65536))) (wrap64 (wrap64 (z : Int) * 256))) (wrap64 (v : Int)) = ((x * 16777216 + y * 65536 + z * 256 + v : Nat) : Int) := by
  rw [wr (x : Int) (by omega) (by omega), wr (y : Int) (by omega) (by omega), wr (z : Int) (by omega) (by omega), wr (v : Int) (by omega) (by omega), wr _ (by omega) (by omega), wr _ (by omega) (by omega), wr _ (by omega) (by omega)]
  rw [show ((x : Int) * 16777216) = ((x * 16777216 : Nat) : Int) by omega, show ((y : Int) * 65536) = ((y * 65536 : Nat) : Int) by omega, show ((z : Int) * 256) = ((z * 256 : Nat) : Int) by omega]
  have h1 : x * 16777216 ||| y * 65536 = x * 16777216 + y * 65536 := by
    have := Nat.two_pow_add_eq_or_of_lt (i := 24) (b := y * 65536) (by omega) x
    rw [Nat.mul_comm x]; exact this.symm
  have h2 : (x * 16777216 + y * 65536) ||| z * 256 = x * 16777216 + y * 65536 + z * 256 := by
    have := Nat.two_pow_add_eq_or_of_lt (i := 16) (b := z * 256) (by omega) (x * 256 + y)
    rw [show x * 16777216 + y * 65536 = 2 ^ 16 * (x * 256 + y) by omega]; exact this.symm
  have h3 : (x * 16777216 + y * 65536 + z * 256) ||| v = x * 16777216 + y * 65536 + z * 256 + v := by
    have := Nat.two_pow_add_eq_or_of_lt (i := 8) (b := v) (by omega) (x * 65536 + y * 256 + z)
    rw [show x * 16777216 + y * 65536 + z * 256 = 2 ^ 8 * (x * 65536 + y * 256 + z) by omega]; exact this.symm
  rw [or62 _ _ (by omega) (by omega), h1, or62 _ _ (by omega) (by omega), h2, or62 _ _ (by omega) (by omega), h3]
def wordsL (l : List Nat) (n : Nat) : List Nat := (List.range n).map fun j => be4 l (4 * j)
theorem wordsL_succ (l : List Nat) (n : Nat) : wordsL l (n + 1) = wordsL l n ++ [be4 l (4 * n)] := by simp [wordsL, List.range_succ]
theorem wordsL_length (l : List Nat) (n : Nat) : (wordsL l n).length = n := by simp [wordsL]
theorem big_l0 (s : ByteArray) (m : Nat) (hm : s.size = 4 * m) (hs : m ≤ 1000000) : ∀ (d k j : Nat), j + d = m → d < k →
    samphireref01_Big.l0 k s (ints (wordsL (bys s) j)) ((4 * j : Nat) : Int) = some (ints (wordsL (bys s) m), 0) := by
  intro d
  induction d with
  | zero =>
    intro k j hj hk
    obtain ⟨k, rfl⟩ : ∃ m, k = m + 1 := ⟨k - 1, by omega⟩
    simp only [samphireref01_Big.l0]
    rw [if_neg (by omega)]
    obtain rfl : j = m := by omega
    rfl
  | succ d ih =>
    intro k j hj hk
    obtain ⟨k, rfl⟩ : ∃ m, k = m + 1 := ⟨k - 1, by omega⟩
    simp only [samphireref01_Big.l0]
    rw [wr (((4 * j : Nat) : Int) + 1) (by omega) (by omega), wr (((4 * j : Nat) : Int) + 2) (by omega) (by omega), wr (((4 * j : Nat) : Int) + 3) (by omega) (by omega), wr (((4 * j : Nat) : Int) + 4) (by omega) (by omega)]
    rw [if_pos (by omega), if_pos (by omega), if_pos (by omega), if_pos (by omega), if_pos (by omega), if_pos (by omega), if_pos (by omega), if_pos (by omega), if_pos (by rw [ints_length, wordsL_length]; omega)]
    rw [show (((4 * j : Nat) : Int) + 1) = ((4 * j + 1 : Nat) : Int) by omega, show (((4 * j : Nat) : Int) + 2) = ((4 * j + 2 : Nat) : Int) by omega, show (((4 * j : Nat) : Int) + 3) = ((4 * j + 3 : Nat) : Int) by omega, show (((4 * j : Nat) : Int) + 4) = ((4 * (j + 1) : Nat) : Int) by omega]
    rw [bt_nat s _ (by omega), bt_nat s _ (by omega), bt_nat s _ (by omega), bt_nat s _ (by omega), or_be62 _ _ _ _ (bys_lt s _) (bys_lt s _) (bys_lt s _) (bys_lt s _)]
    have := ih k (j + 1) (by omega) (by omega)
    rw [wordsL_succ, ints_append] at this
    exact this
theorem big_ev (s : ByteArray) (m : Nat) (hm : s.size = 4 * m) (hs : m ≤ 1000000) : Ev (fun k => samphireref01_Big.f k s) (ints (wordsL (bys s) m), 0) :=
  ⟨m + 1, fun k hk => by
    show samphireref01_Big.f k s = _
    unfold samphireref01_Big.f
    rw [if_pos (by omega)]
    exact big_l0 s m hm hs m k 0 (by omega) (by omega)⟩
end Go.Proofs.Ytbkbganflnemeaa.Pr
end

section
namespace Go.Proofs.Ytbkbganflnemeaa.Pr
open Go.RowKit Go.Proofs.YtbkbganflnemeaaW.PrintWords
set_option maxHeartbeats 1000000
set_option linter.unusedVariables false
set_option linter.unusedSimpArgs false
theorem begin_ev : Ev (fun k => samphireref02_Begin.f k) (txt St0.bytes) := by
  have h := putBig_ev shaH (by intro i; rcases i with _ | _ | _ | _ | _ | _ | _ | _ | i <;> simp [shaH]) (by decide)
  obtain ⟨K, hK⟩ := h
  refine ⟨K, fun k hk => ?_⟩
  have : samphireref01_PutBig.f k (ints shaH) = some (txt (shaH.flatMap by4)) := hK k hk
  show samphireref02_Begin.f k = _
  unfold samphireref02_Begin.f
  rw [show ([1779033703, 3144134277, 1013904242, 2773480762, 1359893119, 2600822924, 528734635, 1541459225] : List Int) = ints shaH from rfl, this]
  rfl
theorem sched_words (b : List Nat) : ∀ n, n ≤ 16 → sched b n = wordsL b n
  | 0, _ => rfl
  | n + 1, h => by
    rw [sched, sched_words b n (by omega), wordsL_succ, wordAt, if_pos (by omega)]
theorem sg0_62 (x : Nat) (hx : x < 4294967296) : bits .xor .i64 (bits .xor .i64 ((rotr x 7 : Nat) : Int) ((rotr x 18 : Nat) : Int)) ((x : Int) / 8) = ((sg0 x : Nat) : Int) := by
  have h1 := rotr_lt x 7 hx
  have h2 := rotr_lt x 18 hx
  have h3 := xor_lt32 h1 h2
  rw [show ((x : Int) / 8) = ((x / 8 : Nat) : Int) by simp, xor62 _ _ (by omega) (by omega), xor62 _ _ (by omega) (by omega)]
  unfold sg0
  rw [Nat.shiftRight_eq_div_pow]
theorem sg1_62 (x : Nat) (hx : x < 4294967296) : bits .xor .i64 (bits .xor .i64 ((rotr x 17 : Nat) : Int) ((rotr x 19 : Nat) : Int)) ((x : Int) / 1024) = ((sg1 x : Nat) : Int) := by
  have h1 := rotr_lt x 17 hx
  have h2 := rotr_lt x 19 hx
  have h3 := xor_lt32 h1 h2
  rw [show ((x : Int) / 1024) = ((x / 1024 : Nat) : Int) by simp, xor62 _ _ (by omega) (by omega), xor62 _ _ (by omega) (by omega)]
  unfold sg1
  rw [Nat.shiftRight_eq_div_pow]
theorem sg0_lt (x : Nat) (hx : x < 4294967296) : sg0 x < 4294967296 := xor_lt32 (xor_lt32 (rotr_lt x 7 hx) (rotr_lt x 18 hx)) (by rw [Nat.shiftRight_eq_div_pow]; omega)
theorem sg1_lt (x : Nat) (hx : x < 4294967296) : sg1 x < 4294967296 := xor_lt32 (xor_lt32 (rotr_lt x 17 hx) (rotr_lt x 19 hx)) (by rw [Nat.shiftRight_eq_div_pow]; omega)
theorem bs0_lt (x : Nat) (hx : x < 4294967296) : bs0 x < 4294967296 := xor_lt32 (xor_lt32 (rotr_lt x 2 hx) (rotr_lt x 13 hx)) (rotr_lt x 22 hx)
theorem bs1_lt (x : Nat) (hx : x < 4294967296) : bs1 x < 4294967296 := xor_lt32 (xor_lt32 (rotr_lt x 6 hx) (rotr_lt x 11 hx)) (rotr_lt x 25 hx)
theorem sched_l0 (s : ByteArray) : ∀ (d k j : Nat), 16 ≤ j → j + d = 64 → d < k →
    samphireref02_schedule.l0 k (ints (sched (bys s) j)) (j : Int) = some (ints (sched (bys s) 64)) := by
  intro d
  induction d with
  | zero =>
    intro k j h16 hj hk
    obtain ⟨k, rfl⟩ : ∃ m, k = m + 1 := ⟨k - 1, by omega⟩
    simp only [samphireref02_schedule.l0]
    rw [if_neg (by omega)]
    obtain rfl : j = 64 := by omega
    rfl
  | succ d ih =>
    intro k j h16 hj hk
    obtain ⟨k, rfl⟩ : ∃ m, k = m + 1 := ⟨k - 1, by omega⟩
    simp only [samphireref02_schedule.l0, ints_length, sched_length]
    rw [wr ((j : Int) - 15) (by omega) (by omega), wr ((j : Int) - 2) (by omega) (by omega), wr ((j : Int) - 16) (by omega) (by omega), wr ((j : Int) - 7) (by omega) (by omega), wr ((j : Int) + 1) (by omega) (by omega)]
    rw [if_pos (by omega), if_pos (by omega), if_pos (by omega), if_pos (by omega), if_pos (by omega)]
    rw [show ((j : Int) - 15) = ((j - 15 : Nat) : Int) by omega, show ((j : Int) - 2) = ((j - 2 : Nat) : Int) by omega, show ((j : Int) - 16) = ((j - 16 : Nat) : Int) by omega, show ((j : Int) - 7) = ((j - 7 : Nat) : Int) by omega, show ((j : Int) + 1) = ((j + 1 : Nat) : Int) by omega]
    rw [rd_ints, rd_ints, rd_ints, rd_ints]
    have hb := sched_lt (bys s) (bys_lt s) j
    have b15 := hb (j - 15)
    have b2 := hb (j - 2)
    have b16 := hb (j - 16)
    have b7 := hb (j - 7)
    have hn : sched (bys s) (j + 1) = sched (bys s) j ++ [wordAt (bys s) (sched (bys s) j) j] := rfl
    have hv : wordAt (bys s) (sched (bys s) j) j = ((sched (bys s) j).getD (j - 16) 0 + sg0 ((sched (bys s) j).getD (j - 15) 0) + (sched (bys s) j).getD (j - 7) 0 + sg1 ((sched (bys s) j).getD (j - 2) 0)) % 4294967296 := by
      rw [wordAt, if_neg (by omega)]
    generalize (sched (bys s) j).getD (j - 15) 0 = x15 at *
    generalize (sched (bys s) j).getD (j - 2) 0 = x2 at *
    generalize (sched (bys s) j).getD (j - 16) 0 = x16 at *
    generalize (sched (bys s) j).getD (j - 7) 0 = x7 at *
    have r7 := samphireref02_right.at_ x15 7 b15 rfl
    have r18 := samphireref02_right.at_ x15 18 b15 rfl
    have r17 := samphireref02_right.at_ x2 17 b2 rfl
    have r19 := samphireref02_right.at_ x2 19 b2 rfl
    rw [show (((7 : Nat)) : Int) = 7 from rfl] at r7
    rw [show (((18 : Nat)) : Int) = 18 from rfl] at r18
    rw [show (((17 : Nat)) : Int) = 17 from rfl] at r17
    rw [show (((19 : Nat)) : Int) = 19 from rfl] at r19
    rw [r7, r18, r17, r19]
    simp only [Option.bind_some]
    rw [if_pos (by omega), if_pos (by omega), if_pos (by omega), if_pos (by omega), sg0_62 _ b15, sg1_62 _ b2]
    have q0 := sg0_lt x15 b15
    have q1 := sg1_lt x2 b2
    rw [wr ((x16 : Int) + (sg0 x15 : Int)) (by omega) (by omega), wr ((x16 : Int) + (sg0 x15 : Int) + (x7 : Int)) (by omega) (by omega), wr ((x16 : Int) + (sg0 x15 : Int) + (x7 : Int) + (sg1 x2 : Int)) (by omega) (by omega)]
    rw [show ((x16 : Int) + (sg0 x15 : Int) + (x7 : Int) + (sg1 x2 : Int)) = ((x16 + sg0 x15 + x7 + sg1 x2 : Nat) : Int) by omega, word_f _ (by omega)]
    simp only [Option.bind_some]
    rw [if_pos (by omega), ← hv]
    have := ih k (j + 1) (by omega) (by omega) (by omega)
    rw [hn, ints_append] at this
    exact this
theorem sched_ev (s : ByteArray) (hs : s.size = 64) : Ev (fun k => samphireref02_schedule.f k s) (ints (sched (bys s) 64)) := by
  obtain ⟨K, hK⟩ := big_ev s 16 (by omega) (by omega)
  refine ⟨max K 100, fun k hk => ?_⟩
  show samphireref02_schedule.f k s = _
  unfold samphireref02_schedule.f
  rw [show samphireref01_Big.f k s = some (ints (wordsL (bys s) 16), 0) from hK k (by omega)]
  simp only [Option.bind_some]
  rw [← sched_words _ 16 (by omega)]
  exact sched_l0 s 48 k 16 (by omega) (by omega) (by omega)
theorem chs62 (e f g : Nat) (he : e < 4294967296) (hf : f < 4294967296) (hg : g < 4294967296) :
    bits .xor .i64 (bits .and .i64 (e : Int) (f : Int)) (bits .and .i64 ((4294967295 - e : Nat) : Int) (g : Int)) = ((chs e f g : Nat) : Int) := by
  have h1 : e &&& f < 4294967296 := and_lt32 hf
  have h2 : (4294967295 - e) &&& g < 4294967296 := and_lt32 hg
  rw [and62 _ _ (by omega) (by omega), and62 _ _ (by omega) (by omega), xor62 _ _ (by omega) (by omega)]
  rfl
theorem maj62 (a b c : Nat) (ha : a < 4294967296) (hb : b < 4294967296) (hc : c < 4294967296) :
    bits .xor .i64 (bits .xor .i64 (bits .and .i64 (a : Int) (b : Int)) (bits .and .i64 (a : Int) (c : Int))) (bits .and .i64 (b : Int) (c : Int)) = ((maj a b c : Nat) : Int) := by
  have h1 : a &&& b < 4294967296 := and_lt32 hb
  have h2 : a &&& c < 4294967296 := and_lt32 hc
  have h3 : b &&& c < 4294967296 := and_lt32 hc
  have h4 := xor_lt32 h1 h2
  rw [and62 _ _ (by omega) (by omega), and62 _ _ (by omega) (by omega), and62 _ _ (by omega) (by omega), xor62 _ _ (by omega) (by omega), xor62 _ _ (by omega) (by omega)]
  rfl
theorem bs1_62 (e : Nat) (he : e < 4294967296) : bits .xor .i64 (bits .xor .i64 ((rotr e 6 : Nat) : Int) ((rotr e 11 : Nat) : Int)) ((rotr e 25 : Nat) : Int) = ((bs1 e : Nat) : Int) := by
  have h1 := rotr_lt e 6 he
  have h2 := rotr_lt e 11 he
  have h3 := rotr_lt e 25 he
  have h4 := xor_lt32 h1 h2
  rw [xor62 _ _ (by omega) (by omega), xor62 _ _ (by omega) (by omega)]
  rfl
theorem bs0_62 (e : Nat) (he : e < 4294967296) : bits .xor .i64 (bits .xor .i64 ((rotr e 2 : Nat) : Int) ((rotr e 13 : Nat) : Int)) ((rotr e 22 : Nat) : Int) = ((bs0 e : Nat) : Int) := by
  have h1 := rotr_lt e 2 he
  have h2 := rotr_lt e 13 he
  have h3 := rotr_lt e 22 he
  have h4 := xor_lt32 h1 h2
  rw [xor62 _ _ (by omega) (by omega), xor62 _ _ (by omega) (by omega)]
  rfl
theorem not_word (e : Nat) (he : e < 4294967296) : samphireref01_Word.f (bits .xor .i64 (-1) (e : Int)) = some ((4294967295 - e : Nat) : Int) := by
  unfold samphireref01_Word.f
  have h1 : bits .and .i64 (bits .xor .i64 (-1) (e : Int)) 4294967295 = ((4294967295 - e : Nat) : Int) := by
    have hx : bits .xor .i64 (-1) (e : Int) = -1 - (e : Int) := by
      have h64 : (4294967296 : Nat) < 2 ^ 64 := by decide
      have he64 : e % 2 ^ 64 = e := Nat.mod_eq_of_lt (by omega)
      have e1 : bits .xor .i64 (-1) (e : Int) = IntKind.i64.wrap (((2 ^ 64 - 1) ^^^ e : Nat) : Int) := by
        simp only [bits, BitVec.toNat_xor, BitVec.ofInt_natCast, BitVec.toNat_ofNat]
        rw [show (IntKind.i64.bits) = 64 from rfl, he64]
        rfl
      have e2 : (2 ^ 64 - 1) ^^^ e = 2 ^ 64 - 1 - e := by
        apply Nat.eq_of_testBit_eq
        intro i
        have h := Nat.testBit_two_pow_sub_succ (x := e) (n := 64) (by omega) i
        rw [show (2 ^ 64 - 1 - e : Nat) = 2 ^ 64 - (e + 1) by omega, h, Nat.testBit_xor, Nat.testBit_two_pow_sub_one]
        by_cases hi : i < 64
        · simp [hi]
        · have : e.testBit i = false := Nat.testBit_lt_two_pow (Nat.lt_of_lt_of_le (show e < 2 ^ 64 by omega) (Nat.pow_le_pow_right (by decide) (by omega)))
          simp [hi, this]
      rw [e1, e2, IntKind.wrap_i64]
      omega
    rw [hx]
    have e3 : bits .and .i64 (-1 - (e : Int)) 4294967295 = IntKind.i64.wrap (((2 ^ 64 - 1 - e) &&& 4294967295 : Nat) : Int) := by
      simp only [bits, BitVec.toNat_and]
      rw [show (IntKind.i64.bits) = 64 from rfl]
      have e4 : (BitVec.ofInt 64 (-1 - (e : Int))).toNat = 2 ^ 64 - 1 - e := by
        rw [BitVec.toNat_ofInt]
        omega
      rw [e4]
      rfl
    rw [e3, show (4294967295 : Nat) = 2 ^ 32 - 1 from rfl, Nat.and_two_pow_sub_one_eq_mod, IntKind.wrap_i64]
    omega
  rw [h1]
theorem block_round (k : Nat) (w kk v : List Int) (s : St) (hs : s.ok) (i xw xk : Nat) (hi : i < 64) (hw : w.length = 64) (hkk : kk.length = 64) (hxw : rd w (i : Int) = (xw : Int)) (hxk : rd kk (i : Int) = (xk : Int)) (bw : xw < 4294967296) (bk : xk < 4294967296) :
    samphireref02_Block.l0 (k + 1) w kk v (ints s.list) (i : Int) = samphireref02_Block.l0 k w kk v (ints (rnd s xk xw).list) ((i + 1 : Nat) : Int) := by
  obtain ⟨a, b, c, d, e, f, g, h⟩ := s
  obtain ⟨h1, h2, h3, h4, h5, h6, h7, h8⟩ := hs
  simp only at h1 h2 h3 h4 h5 h6 h7 h8
  have hl : (ints (St.mk a b c d e f g h).list).length = 8 := rfl
  simp only [samphireref02_Block.l0, hl, hw, hkk]
  rw [show rd (ints (St.mk a b c d e f g h).list) 0 = (a : Int) from rfl, show rd (ints (St.mk a b c d e f g h).list) 1 = (b : Int) from rfl, show rd (ints (St.mk a b c d e f g h).list) 2 = (c : Int) from rfl, show rd (ints (St.mk a b c d e f g h).list) 3 = (d : Int) from rfl, show rd (ints (St.mk a b c d e f g h).list) 4 = (e : Int) from rfl, show rd (ints (St.mk a b c d e f g h).list) 5 = (f : Int) from rfl, show rd (ints (St.mk a b c d e f g h).list) 6 = (g : Int) from rfl, show rd (ints (St.mk a b c d e f g h).list) 7 = (h : Int) from rfl, hxw, hxk]
  rw [if_pos (by omega), if_pos (by decide), if_pos (by decide), if_pos (by decide), if_pos (by decide), if_pos (by decide), if_pos (by decide), if_pos (by decide)]
  have r6 := samphireref02_right.at_ e 6 h5 rfl
  have r11 := samphireref02_right.at_ e 11 h5 rfl
  have r25 := samphireref02_right.at_ e 25 h5 rfl
  have r2 := samphireref02_right.at_ a 2 h1 rfl
  have r13 := samphireref02_right.at_ a 13 h1 rfl
  have r22 := samphireref02_right.at_ a 22 h1 rfl
  rw [show (((6 : Nat)) : Int) = 6 from rfl] at r6
  rw [show (((11 : Nat)) : Int) = 11 from rfl] at r11
  rw [show (((25 : Nat)) : Int) = 25 from rfl] at r25
  rw [show (((2 : Nat)) : Int) = 2 from rfl] at r2
  rw [show (((13 : Nat)) : Int) = 13 from rfl] at r13
  rw [show (((22 : Nat)) : Int) = 22 from rfl] at r22
  have q1 := bs1_lt e h5
  have q2 := bs0_lt a h1
  have q3 : chs e f g < 4294967296 := xor_lt32 (and_lt32 h6) (and_lt32 h7)
  have q4 : maj a b c < 4294967296 := xor_lt32 (xor_lt32 (and_lt32 h2) (and_lt32 h3)) (and_lt32 h3)
  have p1 : (h + bs1 e + chs e f g + xk + xw) % 4294967296 = t1 ⟨a, b, c, d, e, f, g, h⟩ xk xw := by simp only [t1]
  have p2 : (bs0 a + maj a b c) % 4294967296 = t2 ⟨a, b, c, d, e, f, g, h⟩ := by simp only [t2]
  have p3 : t1 ⟨a, b, c, d, e, f, g, h⟩ xk xw < 4294967296 := Nat.mod_lt _ (by decide)
  have p4 : t2 ⟨a, b, c, d, e, f, g, h⟩ < 4294967296 := Nat.mod_lt _ (by decide)
  have p5 : rnd ⟨a, b, c, d, e, f, g, h⟩ xk xw = ⟨(t1 ⟨a, b, c, d, e, f, g, h⟩ xk xw + t2 ⟨a, b, c, d, e, f, g, h⟩) % 4294967296, a, b, c, (d + t1 ⟨a, b, c, d, e, f, g, h⟩ xk xw) % 4294967296, e, f, g⟩ := by simp only [rnd]
  have W1 : samphireref01_Word.f (wrap64 (wrap64 (wrap64 (wrap64 ((h : Int) + (bs1 e : Int)) + (chs e f g : Int)) + (xk : Int)) + (xw : Int))) = some ((t1 ⟨a, b, c, d, e, f, g, h⟩ xk xw : Nat) : Int) := by
    rw [wr ((h : Int) + (bs1 e : Int)) (by omega) (by omega), wr ((h : Int) + (bs1 e : Int) + (chs e f g : Int)) (by omega) (by omega), wr ((h : Int) + (bs1 e : Int) + (chs e f g : Int) + (xk : Int)) (by omega) (by omega), wr ((h : Int) + (bs1 e : Int) + (chs e f g : Int) + (xk : Int) + (xw : Int)) (by omega) (by omega),
      show ((h : Int) + (bs1 e : Int) + (chs e f g : Int) + (xk : Int) + (xw : Int)) = ((h + bs1 e + chs e f g + xk + xw : Nat) : Int) by omega, word_f _ (by omega), p1]
  have W2 : samphireref01_Word.f (wrap64 ((bs0 a : Int) + (maj a b c : Int))) = some ((t2 ⟨a, b, c, d, e, f, g, h⟩ : Nat) : Int) := by
    rw [wr ((bs0 a : Int) + (maj a b c : Int)) (by omega) (by omega), show ((bs0 a : Int) + (maj a b c : Int)) = ((bs0 a + maj a b c : Nat) : Int) by omega, word_f _ (by omega), p2]
  rw [p5]
  clear p1 p2 p5
  generalize t1 ⟨a, b, c, d, e, f, g, h⟩ xk xw = T1 at *
  generalize t2 ⟨a, b, c, d, e, f, g, h⟩ = T2 at *
  have W3 : samphireref01_Word.f (wrap64 ((T1 : Int) + (T2 : Int))) = some (((T1 + T2) % 4294967296 : Nat) : Int) := by
    rw [wr ((T1 : Int) + (T2 : Int)) (by omega) (by omega), show ((T1 : Int) + (T2 : Int)) = ((T1 + T2 : Nat) : Int) by omega, word_f _ (by omega)]
  have W4 : samphireref01_Word.f (wrap64 ((d : Int) + (T1 : Int))) = some (((d + T1) % 4294967296 : Nat) : Int) := by
    rw [wr ((d : Int) + (T1 : Int)) (by omega) (by omega), show ((d : Int) + (T1 : Int)) = ((d + T1 : Nat) : Int) by omega, word_f _ (by omega)]
  rw [r6, Option.bind_some, r11, Option.bind_some, r25, Option.bind_some, not_word e h5, Option.bind_some, if_pos (by omega), if_pos (by omega), if_pos (by omega), bs1_62 e h5, chs62 e f g h5 h6 h7, W1, Option.bind_some]
  rw [r2, Option.bind_some, r13, Option.bind_some, r22, Option.bind_some, bs0_62 a h1, maj62 a b c h1 h2 h3, W2, Option.bind_some, W3, Option.bind_some, if_pos (by decide), W4, Option.bind_some, wr ((i : Int) + 1) (by omega) (by omega), show ((i : Int) + 1) = ((i + 1 : Nat) : Int) by omega]
  simp only [ints, St.list, List.map_cons, List.map_nil]
theorem shaK_lt (i : Nat) : shaK.getD i 0 < 4294967296 := by
  rcases Nat.lt_or_ge i 64 with h | h
  · have : ∀ i, i < 64 → shaK.getD i 0 < 4294967296 := by decide +kernel
    exact this i h
  · rw [List.getD_eq_getElem?_getD, List.getElem?_eq_none (by rw [shaK_length]; exact h)]
    decide
theorem St.list_get (s : St) (hs : s.ok) (i : Nat) : s.list.getD i 0 < 4294967296 := by
  obtain ⟨h1, h2, h3, h4, h5, h6, h7, h8⟩ := hs
  rcases i with _ | _ | _ | _ | _ | _ | _ | _ | i <;> simp [St.list] <;> assumption
theorem block_l1 (v x : St) (hv : v.ok) (hx : x.ok) : ∀ (d k j : Nat), j + d = 8 → d < k →
    ∀ K, (∀ n, K ≤ n → samphireref01_PutBig.f n (ints (v.add x).list) = some (txt (v.add x).bytes)) → K + d < k →
    samphireref02_Block.l1 k (ints v.list) (ints x.list) (ints ((v.add x).list.take j)) (j : Int) = some (txt (v.add x).bytes, 0) := by
  intro d
  induction d with
  | zero =>
    intro k j hj hk K hK hKk
    obtain ⟨k, rfl⟩ : ∃ m, k = m + 1 := ⟨k - 1, by omega⟩
    simp only [samphireref02_Block.l1]
    rw [if_neg (by omega)]
    obtain rfl : j = 8 := by omega
    rw [show (v.add x).list.take 8 = (v.add x).list from rfl, hK k (by omega)]
    rfl
  | succ d ih =>
    intro k j hj hk K hK hKk
    obtain ⟨k, rfl⟩ : ∃ m, k = m + 1 := ⟨k - 1, by omega⟩
    have l1 : (ints v.list).length = 8 := rfl
    have l2 : (ints x.list).length = 8 := rfl
    have l3 : (ints ((v.add x).list.take j)).length = j := by
      rw [ints_length, List.length_take, show (v.add x).list.length = 8 from rfl]
      omega
    simp only [samphireref02_Block.l1, l1, l2, l3]
    rw [if_pos (by omega), if_pos (by omega), if_pos (by omega), if_pos (by omega), rd_ints, rd_ints]
    have b1 := v.list_get hv j
    have b2 := x.list_get hx j
    have hn : (v.add x).list.take (j + 1) = (v.add x).list.take j ++ [(v.list.getD j 0 + x.list.getD j 0) % 4294967296] := by
      obtain ⟨va, vb, vc, vd, ve, vf, vg, vh⟩ := v
      obtain ⟨xa, xb, xc, xd, xe, xf, xg, xh⟩ := x
      rcases j with _ | _ | _ | _ | _ | _ | _ | _ | j <;> first | rfl | omega
    rw [wr ((v.list.getD j 0 : Nat) + (x.list.getD j 0 : Nat) : Int) (by omega) (by omega), show ((v.list.getD j 0 : Nat) + (x.list.getD j 0 : Nat) : Int) = ((v.list.getD j 0 + x.list.getD j 0 : Nat) : Int) by omega, word_f _ (by omega), Option.bind_some, if_pos (by omega), wr ((j : Int) + 1) (by omega) (by omega), show ((j : Int) + 1) = ((j + 1 : Nat) : Int) by omega]
    have := ih k (j + 1) (by omega) (by omega) K hK (by omega)
    rw [hn, ints_append] at this
    exact this
theorem block_l0 (s : St) (hs : s.ok) (b : ByteArray) (K : Nat) (hK : ∀ n, K ≤ n → samphireref01_PutBig.f n (ints (stp s (bys b)).list) = some (txt (stp s (bys b)).bytes)) : ∀ (d k j : Nat), j + d = 64 → K + d + 20 < k →
    samphireref02_Block.l0 k (ints (sched (bys b) 64)) (ints shaK) (ints s.list) (ints (rds (sched (bys b) 64) s j).list) (j : Int) = some (txt (stp s (bys b)).bytes, 0) := by
  intro d
  induction d with
  | zero =>
    intro k j hj hk
    obtain ⟨k, rfl⟩ : ∃ m, k = m + 1 := ⟨k - 1, by omega⟩
    simp only [samphireref02_Block.l0]
    rw [if_neg (by omega)]
    obtain rfl : j = 64 := by omega
    have := block_l1 s (rds (sched (bys b) 64) s 64) hs (rds_ok hs _) 8 k 0 (by omega) (by omega) K hK (by omega)
    exact this
  | succ d ih =>
    intro k j hj hk
    obtain ⟨k, rfl⟩ : ∃ m, k = m + 1 := ⟨k - 1, by omega⟩
    rw [block_round k _ _ _ _ (rds_ok hs _) j _ _ (by omega) (by rw [ints_length, sched_length]) (by rw [ints_length, shaK_length]) (rd_ints _ j) (rd_ints _ j) (sched_lt (bys b) (bys_lt b) 64 j) (shaK_lt j)]
    exact ih k (j + 1) (by omega) (by omega)
theorem block_ev (a0 a1 : ByteArray) : Ev (fun k => samphireref02_Block.f k a0 a1) (if a0.size = 32 ∧ a1.size = 64 then (txt (stp (stOf (bys a0)) (bys a1)).bytes, 0) else (⟨#[]⟩, 1)) := by
  by_cases hc : a0.size = 32 ∧ a1.size = 64
  · rw [if_pos hc]
    obtain ⟨h0, h1⟩ := hc
    obtain ⟨K1, hK1⟩ := putBig_ev (stp (stOf (bys a0)) (bys a1)).list (St.list_get _ (St.add_ok _ _)) (by simp [St.list])
    obtain ⟨K2, hK2⟩ := sched_ev a1 h1
    obtain ⟨K3, hK3⟩ := big_ev a0 8 (by omega) (by omega)
    refine ⟨K1 + K2 + K3 + 1000, fun k hk => ?_⟩
    show samphireref02_Block.f k a0 a1 = _
    obtain ⟨k, rfl⟩ : ∃ m, k = m + 1 := ⟨k - 1, by omega⟩
    unfold samphireref02_Block.f
    have e1 : ((a1.size : Int) != 64) = false := by rw [bne_eq_false_iff_eq]; omega
    rw [if_pos (by omega), e1]
    simp only [samphireref02_Block.j0]
    rw [if_neg (by decide)]
    rw [show samphireref02_schedule.f k a1 = _ from hK2 k (by omega), show samphireref01_Big.f k a0 = _ from hK3 k (by omega)]
    simp only [Option.bind_some, samphireref02_constants.f]
    have := block_l0 (stOf (bys a0)) (stOf_ok a0) a1 K1 (fun n hn => hK1 n hn) 64 k 0 (by omega) (by omega)
    exact this
  · rw [if_neg hc]
    refine ⟨1, fun k hk => ?_⟩
    show samphireref02_Block.f k a0 a1 = _
    obtain ⟨k, rfl⟩ : ∃ m, k = m + 1 := ⟨k - 1, by omega⟩
    unfold samphireref02_Block.f
    by_cases h0 : a0.size = 32
    · have e1 : ((a1.size : Int) != 64) = true := by
        rw [bne_iff_ne]
        omega
      rw [if_pos (by omega), e1]
      simp only [samphireref02_Block.j0]
      rw [if_pos trivial]
    · rw [if_neg (by omega)]
      simp only [samphireref02_Block.j0]
      rw [if_pos trivial]
end Go.Proofs.Ytbkbganflnemeaa.Pr
end

section
namespace Go.Proofs.Ytbkbganflnemeaa.Pr
open Go.RowKit Go.Proofs.YtbkbganflnemeaaW.PrintWords Go.Proofs.YtbkbganflnemeaaW.PrintLast Go.Proofs.YtbkbganflnemeaaW.PrintMore
set_option maxHeartbeats 1000000
set_option linter.unusedVariables false
set_option linter.unusedSimpArgs false
def strings_Repeat.f (a0 : ByteArray) (a1 : Int) : Option ByteArray :=
  if 0 ≤ a1 ∧ a1 ≤ 1000000000 ∧ a0.size ≤ 100000 then some ⟨(Lib.repeatL a0.data.toList a1.toNat).toArray⟩ else none
theorem strings_Repeat.calls (a0 : ByteArray) (a1 : Int) (r : ByteArray) (w : World) (h : strings_Repeat.f a0 a1 = some r) :
    Calls Try.prog 51 #[.string a0, .int .i64 a1] w fun e w' => e = .returned (.string r) ∧ Below w.heap.size w w' := by
  unfold strings_Repeat.f at h
  by_cases hc : 0 ≤ a1 ∧ a1 ≤ 1000000000 ∧ a0.size ≤ 100000
  · rw [if_pos hc] at h
    obtain rfl := Option.some.inj h
    obtain ⟨h0, h1, h2⟩ := hc
    obtain ⟨n, rfl⟩ := Int.eq_ofNat_of_zero_le h0
    have hn : n ≤ 1000000000 := by omega
    have hm : a0.size * n ≤ 100000 * 1000000000 := Nat.mul_le_mul h2 hn
    exact Try.strings_Repeat a0 n w (by omega) (by omega)
  · rw [if_neg hc] at h
    cases h
theorem copyCheck_exact (B b : Nat) (bs : List Value) (w : World) (h : Lib.IsBuilder 115 5 B b bs w) :
    Calls Try.prog 118 #[.pointer (some ⟨b, 0, none⟩)] w fun e w' => e = .returned (.tuple #[]) ∧ (w' = w ∨ w' = w.setCell ⟨b, 0, none⟩ (.pointer (some ⟨b, 0, none⟩))) ∧ Lib.BuilderAt 115 5 B b (.pointer (some ⟨b, 0, none⟩)) bs w' := by
  rcases h with h | h
  · refine (Any.Builder_copyCheck_fresh Try.lays240 Try.Builder_X72_240 b w h.cell0 h.shape h.frozen0).mono ?_
    rintro e w' ⟨rfl, rfl⟩
    exact ⟨rfl, .inr rfl, h.used _⟩
  · refine (Any.Builder_copyCheck_used Try.lays240 Try.Builder_X72_240 b w h.cell0).mono ?_
    rintro e w' ⟨rfl, rfl⟩
    exact ⟨rfl, .inl rfl, h⟩
set_option maxRecDepth 100000 in
theorem builder_write (B b : Nat) (bs : List Value) (g m c : Nat) (news : List Value) (w : World) (h : Lib.IsBuilder 115 5 B b bs w)
    (hl : news.length = m) (hnews : ∀ j u, news[j]? = some u → w.cell? ⟨g, j, none⟩ = some u) (hgb : g ≠ b) (h1 : ∀ u ∈ news, u.oneCell' = true) (hlen : bs.length + m ≤ 140737488355328) (hBw : B ≤ w.heap.size) :
    Calls Try.prog 150 #[.pointer (some ⟨b, 0, none⟩), .slice (some ⟨g, 0, none⟩) m c] w fun e w' => e = .returned (.tuple #[.int .i64 m, .nilIface]) ∧ (Lib.BuilderAt 115 5 B b (.pointer (some ⟨b, 0, none⟩)) (bs ++ news) w' ∧ Below B w w') := by
  obtain ⟨i0, hi, hz0, hz1, hz2⟩ := info_parts Try.Builder_Extra_105.infoByte
  go_enter Try.func150, Try.ntmps150
  go_wp2_with (go_at_call 118; refine (copyCheck_exact B b bs _ h).mono ?_)
  rintro e w1 ⟨rfl, hw1, h1'⟩
  have hb1 : Below B w w1 := by
    rcases hw1 with rfl | rfl
    · exact Below.refl _ _
    · exact (Below.refl B w).setCell (p := ⟨b, 0, none⟩) h1'.1 _
  have hnews1 : ∀ j u, news[j]? = some u → w1.cell? ((⟨g, 0, none⟩ : Addr).add j) = some u := by
    intro j u hj
    rw [add_plain]
    rcases hw1 with rfl | rfl
    · exact hnews j u hj
    · rw [World.cell?_setCell_other _ _ _ _ (by intro e; injection e with e _ _; exact hgb e.symm)]
      exact hnews j u hj
  clear hw1 hnews
  obtain ⟨hB, v, hbk, hown, hne⟩ := h1'
  have c0 : w1.cell? ⟨b, 0, none⟩ = some (.pointer (some ⟨b, 0, none⟩)) := by rw [Lib.cell_of_heap hbk]; rfl
  have c1 : w1.cell? ⟨b, 1, none⟩ = some v := by rw [Lib.cell_of_heap hbk]; rfl
  go_wp2_with (at_builtin; refine wpList_append_own _ rfl _ _ 68 rfl B 5 i0 (.int .u8 0) 1 1 Try.underlying68 hi hz0 hz1 hz2 rfl (by decide) _ _ _ rfl hown ⟨g, 0, none⟩ m c news rfl (by omega) hnews1 h1 ?c3 ?c4 ?c5 ?_)
  case c3 => unfold maxLen; omega
  case c4 => omega
  case c5 => have := hb1.size; omega
  intro v' w2 hown' hgrow _
  have hlt : b < w1.heap.size := blk_lt hbk
  have hb2 : w2.heap[b]? = some (.cells #[.pointer (some ⟨b, 0, none⟩), v] 115 (0, 0)) := by
    rw [hgrow.block b hlt (fun e => hne e.symm)]
    exact hbk
  have d0 : w2.cell? ⟨b, 0, none⟩ = some (.pointer (some ⟨b, 0, none⟩)) := by rw [Lib.cell_of_heap hb2]; rfl
  have d1 : w2.cell? ⟨b, 1, none⟩ = some v := by rw [Lib.cell_of_heap hb2]; rfl
  have f1 : w2.frozen? ⟨b, 1, none⟩ = false := Lib.frozen_of_heap hb2 1
  obtain ⟨ao, n', cap, rfl⟩ : ∃ ao n' cap, v' = .slice ao n' cap := by
    rcases hown'.2 with ⟨hv, _⟩ | ⟨g, cap, cur, hv, _⟩
    · exact ⟨_, _, _, hv⟩
    · exact ⟨_, _, _, hv⟩
  go_wp2
  go_ret2
  refine ⟨rfl, ?_, ?_⟩
  · exact Lib.BuilderAt.put (T := 115) (e := 5) hB hb2 (bs' := bs ++ news) (by simpa [hl] using hown') (by decide)
  · exact (hb1.grown hgrow (by have := hb1.size; omega) (fun k hk => (hown.lt k hk).1)).setCell (p := ⟨b, 1, none⟩) hB _
def by4i (x : Int) : List Int := [x / 16777216 % 256, x / 65536 % 256, x / 256 % 256, x % 256]
theorem by4i_length (x : Int) : (by4i x).length = 4 := rfl
theorem flat4i_length (l : List Int) : (l.flatMap by4i).length = 4 * l.length := by
  induction l with
  | nil => rfl
  | cons x l ih => rw [List.flatMap_cons, List.length_append, by4i_length, ih, List.length_cons]; omega
theorem cells_of_nums (xs : List Int) (hx : ∀ x ∈ xs, 0 ≤ x ∧ x < 256) : Lib.byteCells (xs.map fun n => UInt8.ofNat n.toNat) = nums .u8 xs := by
  unfold Lib.byteCells nums
  rw [List.map_map]
  refine List.map_congr_left fun n hn => ?_
  obtain ⟨h0, h1⟩ := hx n hn
  simp
  omega
theorem by4i_range (l : List Int) : ∀ x ∈ l.flatMap by4i, 0 ≤ x ∧ x < 256 := by
  intro x hx
  rw [List.mem_flatMap] at hx
  obtain ⟨y, _, hy⟩ := hx
  simp only [by4i, List.mem_cons, List.not_mem_nil, or_false] at hy
  rcases hy with rfl | rfl | rfl | rfl <;> omega
set_option maxRecDepth 100000 in
theorem word_put.plain (A0 : Option Addr) (c0 : Nat) (l0 : List Int) (w : World) (hr0 : Kd.C (Kd.int .i64) w A0 l0.length l0) (hc0 : l0.length ≤ c0) (hlen : l0.length ≤ 1000000) :
    Calls Try.prog 127 #[.slice A0 l0.length c0, .bool false] w fun e w' => e = .returned (.string (strOfNums (l0.flatMap by4i))) ∧ Below w.heap.size w w' := by
  have hr := Aside0.mk (Kd.reads_of_C (enc := Value.int .i64) (d := (0 : Int)) (h1 := fun _ => rfl) hr0)
  clear hr0
  go_enter Try.func127, Try.ntmps127
  go_wp2
  go_loopw [11] (fun i wr => ∃ k : Nat, k ≤ l0.length ∧ i = .int .i64 k ∧ Aside0 (Lib.IsBuilder 115 5 w.heap.size w.heap.size (nums .u8 ((l0.take k).flatMap by4i)) wr) ∧ Aside0 (Below w.heap.size w wr)) (fun i _ => l0.length - (intOf i).toNat)
  case atStart => exact ⟨0, by omega, rfl, ⟨Lib.fresh_isBuilder _ _ w⟩, ⟨below_alloc (Below.refl _ _) _⟩⟩
  case round =>
    obtain ⟨k, hk, rfl, HI, HB⟩ := hrel
    by_cases hlt : k < l0.length
    · obtain ⟨ad, hA, hcell⟩ := (hr.out.below HB.out).at_ (k : Int) (by omega) (by omega)
      subst hA
      rw [Int.toNat_natCast] at hcell
      generalize hx : rdOf (0 : Int) l0 (k : Int) = x at hcell
      have HX := Aside0.mk hx
      clear hx
      have hlt1 : w.heap.size < wr.heap.size := by
        rcases HI.out with h | h
        · exact h.lt
        · exact h.lt
      have hne : wr.heap.size ≠ w.heap.size := by omega
      have hbw : w.heap.size ≤ wr.heap.size := by omega
      have hlen4 : (nums .u8 ((l0.take k).flatMap by4i)).length ≤ 4000000 := by
        rw [nums_length, flat4i_length, List.length_take]
        omega
      have HI2 : Aside0 (Lib.IsBuilder 115 5 w.heap.size w.heap.size (nums .u8 ((l0.take k).flatMap by4i)) (wr.alloc (.cells #[.int .u8 (x / 16777216 % 256), .int .u8 (x / 65536 % 256), .int .u8 (x / 256 % 256), .int .u8 (x % 256)] 5))) := by
        refine ⟨?_⟩
        rcases HI.out with ⟨h1, v, h2, h3, h4⟩ | ⟨h1, v, h2, h3, h4⟩
        · exact .inl ⟨h1, v, blk_alloc h2 _, h3.alloc _, h4⟩
        · exact .inr ⟨h1, v, blk_alloc h2 _, h3.alloc _, h4⟩
      have HE := Aside0.mk hne
      have HL := Aside0.mk hlen4
      clear hne hlen4
      go_wp2_with (go_at_call 150; refine (builder_write w.heap.size w.heap.size (nums .u8 ((l0.take k).flatMap by4i)) wr.heap.size 4 4 (nums .u8 (by4i x)) _ HI2.out rfl (fun j u hj => ?_) HE.out (fun u hu => ?_) (by have := HL.out; omega) (by simp; omega)).mono ?_)
      · rw [cell_of_row _ _ _ _ _ _ (heap_alloc_new wr _)]
        simpa [nums, by4i] using hj
      · simp only [nums, by4i, List.map_cons, List.map_nil, List.mem_cons, List.not_mem_nil, or_false] at hu
        rcases hu with rfl | rfl | rfl | rfl <;> rfl
      · rintro e w2 ⟨rfl, hb2, hbel⟩
        have HB2 := Aside0.mk (show Lib.IsBuilder 115 5 w.heap.size w.heap.size (nums .u8 ((l0.take (k + 1)).flatMap by4i)) w2 from .inr (by
          have e1 : l0.take (k + 1) = l0.take k ++ [x] := by
            rw [List.take_succ_eq_append_getElem hlt, ← HX.out]
            simp [rdOf, hlt]
          rw [e1, List.flatMap_append, nums_append]
          simpa using hb2))
        have HL2 := Aside0.mk (show Below w.heap.size w w2 from (below_alloc HB.out _).trans hbel)
        clear hb2 hbel
        go_wp2
        refine ⟨⟨k + 1, by omega, by go_num, HB2, HL2⟩, by simp [intOf]; omega⟩
    · obtain rfl : k = l0.length := by omega
      have HI2 := HI.out
      rw [List.take_length, ← cells_of_nums _ (by4i_range l0)] at HI2
      have HI3 := Aside0.mk HI2
      clear HI2 hlt hk
      go_wp2_with (go_at_call 86; refine (Try.Builder_String_any w.heap.size w.heap.size _ _ HI3.out HB.out.size).mono ?_; rintro e w2 ⟨rfl, hb2⟩)
      go_ret
      exact ⟨rfl, HB.out.trans hb2⟩
end Go.Proofs.Ytbkbganflnemeaa.Pr
end

section
namespace Go.Proofs.Ytbkbganflnemeaa.Pr
open Go.RowKit Go.Deep Go.Proofs.YtbkbganflnemeaaW.PrintWords Go.Proofs.YtbkbganflnemeaaW.PrintLast Go.Proofs.YtbkbganflnemeaaW.PrintMore
set_option maxHeartbeats 1000000
set_option linter.unusedVariables false
set_option linter.unusedSimpArgs false
theorem txt_repeat (n : Nat) : (⟨(Lib.repeatL (⟨#[0]⟩ : ByteArray).data.toList n).toArray⟩ : ByteArray) = txt (List.replicate n 0) := by
  have h := Lib.repeatL_replicate 0 1 n
  rw [show ((⟨#[0]⟩ : ByteArray).data.toList) = List.replicate 1 0 from rfl, h, Nat.mul_one]
  simp [txt]
def BAt (g : Nat) (l : List Nat) (rest : Array Value) (w : World) : Prop := w.heap[g]? = some (.cells (u8s l ++ rest) 5 ((u8s l ++ rest).size, (u8s l ++ rest).size + 1))
theorem u8s_bys (s : ByteArray) : (s.data.map fun b => Value.int .u8 b.toNat) = u8s (bys s) := by
  unfold u8s bys
  apply Array.ext'
  simp
theorem bytes_row (w : World) (s : ByteArray) : ∃ rest, BAt w.heap.size (bys s) rest (Lib.bytesWorld w 5 s) := by
  refine ⟨Array.replicate (grownCap w s.size 0 5 - s.size) (.int .u8 0), ?_⟩
  unfold BAt
  rw [← u8s_bys]
  exact Lib.bytesWorld_at_new w 5 s
theorem BAt.lt {g : Nat} {l : List Nat} {rest : Array Value} {w : World} {k x : Nat} (hx : l[k]? = some x) : k < (u8s l ++ rest).size := by
  have hk : k < l.length := (List.getElem?_eq_some_iff.1 hx).1
  rw [Array.size_append, u8s_size]
  omega
theorem BAt.cell {g : Nat} {l : List Nat} {rest : Array Value} {w : World} (h : BAt g l rest w) {k x : Nat} (hx : l[k]? = some x) : w.cell? ⟨g, k, none⟩ = some (.int .u8 (x : Int)) := by
  have hk : k < l.length := (List.getElem?_eq_some_iff.1 hx).1
  rw [cell_of_row w g k _ _ _ h, Array.getElem?_append_left (by rw [u8s_size]; exact hk)]
  simp [u8s, hx]
theorem BAt.frozen {g : Nat} {l : List Nat} {rest : Array Value} {w : World} (h : BAt g l rest w) {k x : Nat} (hx : l[k]? = some x) : w.frozen? ⟨g, k, none⟩ = false := by
  have hk : k < (u8s l ++ rest).size := BAt.lt (g := g) (w := w) hx
  have h' : w.heap[g]? = _ := h
  generalize (u8s l ++ rest) = cs at h' hk
  simp [World.frozen?, h']
  omega
theorem BAt.store {g : Nat} {l : List Nat} {rest : Array Value} {w : World} (h : BAt g l rest w) (k x : Nat) (hk : k < l.length) : BAt g (l.set k x) rest (w.setCell ⟨g, k, none⟩ (.int .u8 (x : Int))) := by
  unfold BAt at h ⊢
  rw [setCell_eq_setRow w g k _ _ _ _ h, setRow_heap w g _ _ _ _ h]
  have hk2 : k < l.length + rest.size := by omega
  have e : u8s (l.set k x) ++ rest = (u8s l ++ rest).setIfInBounds k (.int .u8 (x : Int)) := by
    rw [← u8s_set]
    apply Array.ext'
    simp [Array.setIfInBounds, u8s, hk, List.set_append_left, hk2]
  have e2 : (u8s (l.set k x)).size = (u8s l).size := by simp [u8s]
  rw [← e, Array.size_append, Array.size_append, e2]
theorem conv_bat (W : World) (g : Nat) (l : List Nat) (rest : Array Value) (h : BAt g l rest W) (n : Nat) (hn : l.length = n) (c : Nat) :
    (convert 68 9 (.slice (some ⟨g, 0, none⟩) n c)).run Try.prog W = .ok (.string (txt l)) W := by
  rw [← str_nats]
  refine run_convert_bytes_arg W 68 5 Try.underlying68 Try.underlying5 g 0 n c _ (by simpa using hn) (fun i hi => ?_) 9 Try.underlying9
  rw [Nat.zero_add, BAt.cell h (List.getElem?_eq_getElem (by omega))]
  simp [show i < l.length by omega]
end Go.Proofs.Ytbkbganflnemeaa.Pr
end

section
namespace Go.Proofs.Ytbkbganflnemeaa.Pr
open Go.RowKit Go.Proofs.YtbkbganflnemeaaW.PrintWords Go.Proofs.YtbkbganflnemeaaW.PrintLast Go.Proofs.YtbkbganflnemeaaW.PrintMore
set_option maxHeartbeats 1000000
set_option linter.unusedVariables false
set_option linter.unusedSimpArgs false
theorem by4i_nat (n : Nat) : by4i (n : Int) = ints (by4 n) := by
  simp only [by4i, ints, by4, List.map_cons, List.map_nil]
  congr 1
theorem flat4i_ints (l : List Nat) : (ints l).flatMap by4i = ints (l.flatMap by4) := by
  induction l with
  | nil => rfl
  | cons x l ih =>
    have : ints (x :: l) = (x : Int) :: ints l := rfl
    rw [this, List.flatMap_cons, List.flatMap_cons, ints_append, ih, by4i_nat]
theorem word_PutBig_ints (l : List Int) (A0 : Option Addr) (c0 : Nat) (w : World) (hr0 : Kd.C (Kd.int .i64) w A0 l.length l) (hc0 : l.length ≤ c0) (hl : l.length ≤ 1000000) :
    Calls Try.prog 96 #[.slice A0 l.length c0] w fun e w' => e = .returned (.string (strOfNums (l.flatMap by4i))) ∧ Below w.heap.size w w' := by
  have HR := Aside0.mk hr0
  clear hr0
  go_enter Try.func96, Try.ntmps96
  go_wp2_with (go_at_call 127; refine (word_put.plain A0 c0 l _ HR.out hc0 hl).mono ?_; rintro e w' ⟨rfl, hb⟩)
  go_ret
  exact ⟨rfl, hb⟩
theorem lit_reads (W : World) (xs : List Int) (e : TypeId) (hm : xs.length ≤ 1000000) : Kd.C (Kd.int .i64) (W.alloc (.cells (nums .i64 xs).toArray e)) (some ⟨W.heap.size, 0, none⟩) xs.length xs :=
  Kd.C_of_reads (d := (0 : Int)) (h1 := fun _ => rfl) (own_reads' (own_lit W 0 e .i64 xs (Nat.zero_le _) (by omega)))
set_option maxRecDepth 100000 in
theorem sha_Pad.yes (n : Nat) (w : World) (h1 : (n : Int) ≤ 1125899906842624) :
    Calls Try.prog 153 #[.int .i64 n] w fun e w' => e = .returned (.tuple #[.string (txt (padL n)), .int .i64 0]) ∧ Below w.heap.size w w' := by
  have d0 : decide ((n : Int) < 0) = false := by simp
  have d1 : decide (1125899906842624 < (n : Int)) = false := by simpa using h1
  have e2 := Aside0.mk (show [(n : Int) / 536870912, (n : Int) * 8] = ints [n / 536870912, 8 * n] by simp [ints]; omega)
  have hm : (119 - n % 64) % 64 ≤ 64 := by omega
  go_enter Try.func153, Try.ntmps153
  go_wp2_with (fail)
  rw [show (((119 : Int) - (n : Int)) % 64) = (((119 - n % 64) % 64 : Nat) : Int) by omega]
  refine (Try.strings_Repeat (⟨#[0]⟩ : ByteArray) ((119 - n % 64) % 64) _ (by omega) (by show 1 * _ ≤ _; omega)).mono ?_
  rw [txt_repeat]
  rintro e w1 ⟨rfl, hb1⟩
  generalize hT : txt (List.replicate ((119 - n % 64) % 64) 0) = T
  have hTs : T.size ≤ 64 := by rw [← hT, txt_size, List.length_replicate]; exact hm
  have HT := Aside0.mk hT
  clear hT
  have k1 : 1 + T.size ≤ 9223372036854775807 := by omega
  have k2 : decide (1 + T.size ≤ 9223372036854775807) = true := decide_eq_true k1
  have C := word_PutBig_ints [(n : Int) / 536870912, (n : Int) * 8] (some ⟨w1.heap.size, 0, none⟩) 2 _ (lit_reads w1 [(n : Int) / 536870912, (n : Int) * 8] 3 (by simp)) (by simp) (by simp)
  have e3 : strOfNums (([(n : Int) / 536870912, (n : Int) * 8] : List Int).flatMap by4i) = txt (([n / 536870912, 8 * n] : List Nat).flatMap by4) := by rw [e2.out, flat4i_ints, str_ints]
  rw [e3] at C
  clear e3
  generalize hU : txt (([n / 536870912, 8 * n] : List Nat).flatMap by4) = U at C
  have hUs : U.size ≤ 8 := by rw [← hU, txt_size]; simp [by4]
  have HU := Aside0.mk hU
  have HC := Aside0.mk C
  clear hU hm C
  have hs3 : ((⟨#[128]⟩ : ByteArray) ++ T).size = 1 + T.size := by rw [ByteArray.size_append]; rfl
  have k3 : ((⟨#[128]⟩ : ByteArray) ++ T).size + U.size ≤ 9223372036854775807 := by rw [hs3]; omega
  have k5 : 1 + T.size + U.size ≤ 9223372036854775807 := by omega
  clear hs3
  have k4 : decide (((⟨#[128]⟩ : ByteArray) ++ T).size + U.size ≤ 9223372036854775807) = true := decide_eq_true k3
  go_wp2_with (go_at_call 96; refine HC.out.mono ?_; rintro e w2 ⟨rfl, hb2⟩)
  go_ret2
  refine ⟨congrArg (fun z => Ending.returned (Value.tuple #[.string z, .int .i64 0])) ?_, ?_⟩
  · show ((⟨#[128]⟩ : ByteArray) ++ T) ++ U = txt (padL n)
    rw [← HT.out, ← HU.out]
    have e5 : padL n = ([128] ++ List.replicate ((119 - n % 64) % 64) 0) ++ ([n / 536870912, 8 * n] : List Nat).flatMap by4 := by
      simp [padL]
    rw [e5, txt_append, txt_append]
    rfl
  · exact below_then (below_alloc hb1 _) (below_alloc hb1 _).size hb2
theorem by4_mod (x : Nat) : by4 (x % 4294967296) = by4 x := by
  simp only [by4]
  congr 1
  · omega
  · congr 1
    · omega
    · congr 1
      · omega
      · congr 1
        omega
theorem putBig_two (n : Nat) (h1 : n ≤ 1125899906842624) (W : World) :
    Calls Try.prog 162 #[.slice (some ⟨W.heap.size, 0, none⟩) 2 2] (W.alloc (.cells #[.int .i64 (8 * (n : Int) / 4294967296), .int .i64 (bits .and .i64 (8 * (n : Int)) 4294967295)] 3)) fun e w' => e = .returned (.string (txt (([n / 536870912, 8 * n] : List Nat).flatMap by4))) ∧ Below (W.alloc (.cells #[.int .i64 (8 * (n : Int) / 4294967296), .int .i64 (bits .and .i64 (8 * (n : Int)) 4294967295)] 3)).heap.size (W.alloc (.cells #[.int .i64 (8 * (n : Int) / 4294967296), .int .i64 (bits .and .i64 (8 * (n : Int)) 4294967295)] 3)) w' := by
  obtain ⟨K, hK⟩ := putBig_ev [8 * n / 4294967296, 8 * n % 4294967296] (by intro i; rcases i with _ | _ | i <;> simp <;> omega) (by simp)
  have e1 : bits .and .i64 (8 * (n : Int)) 4294967295 = ((8 * n % 4294967296 : Nat) : Int) := by
    have := mask62 (8 * n) (by omega)
    rw [← this]
    congr 1
  have e2 : [8 * (n : Int) / 4294967296, bits .and .i64 (8 * (n : Int)) 4294967295] = ints [8 * n / 4294967296, 8 * n % 4294967296] := by
    rw [e1]
    simp [ints]
  have e3 : txt (([8 * n / 4294967296, 8 * n % 4294967296] : List Nat).flatMap by4) = txt (([n / 536870912, 8 * n] : List Nat).flatMap by4) := by
    simp only [List.flatMap_cons, List.flatMap_nil, by4_mod]
    rw [show 8 * n / 4294967296 = n / 536870912 by omega]
  have h := samphireref01_PutBig.calls K (some ⟨W.heap.size, 0, none⟩) 2 (ints [8 * n / 4294967296, 8 * n % 4294967296]) _ _ (lit_reads W (ints [8 * n / 4294967296, 8 * n % 4294967296]) 3 (by simp [ints])) (by simp [ints]) (hK K (Nat.le_refl _))
  rw [e3, ← e2] at h
  exact h
def zs (n : Nat) : Nat := (119 - n % 64) % 64
set_option maxRecDepth 100000 in
theorem samphireref02_Pad.yes (n : Nat) (w : World) (h1 : (n : Int) ≤ 1125899906842624) :
    Calls Try.prog 146 #[.int .i64 n] w fun e w' => e = .returned (.tuple #[.string (txt (padL n)), .int .i64 0]) ∧ Below w.heap.size w w' := by
  have d0 : decide ((n : Int) < 0) = false := by simp
  have d1 : decide (1125899906842624 < (n : Int)) = false := by simpa using h1
  have hi8 : (Try.prog.info? 5).map (fun i => (i.zero, i.size, i.bytes)) = some (some (.int .u8 0), 1, 1) := by kernel_rfl
  go_enter Try.func146, Try.ntmps146
  go_wp2
  go_loopg [4] (zs n) (fun gk v wr => ∃ j : Nat, Aside0 (j + gk = zs n) ∧ Aside0 (wr.ownsRow w.heap.size 5 1 v (j + 1) (nums .u8 (ints (128 :: List.replicate j 0)))) ∧ Aside0 (Below w.heap.size w wr))
  case atStart => exact ⟨0, ⟨by omega⟩, ⟨own_lit w _ 5 .u8 [128] (Nat.le_refl _) (by decide)⟩, ⟨below_alloc (Below.refl _ _) _⟩⟩
  case round =>
    obtain ⟨j, HJ, HO, HB⟩ := hrel
    obtain ⟨A, c, hv⟩ := own_slice HO.out
    subst hv
    cases gk with
    | zero =>
      have hj := HJ.out
      have q1 : (((n : Int) + ((j : Int) + 1) + 8) % 64 != 0) = false := by
        rw [bne_eq_false_iff_eq]
        unfold zs at hj
        omega
      have q2 : (((n : Int) + ((j : Int) + 1) + 8) % 64 == 0) = true := by
        rw [beq_iff_eq]
        unfold zs at hj
        omega
      have hj2 : j ≤ 64 := by unfold zs at hj; omega
      have hn0 : n ≤ 1125899906842624 := by omega
      have HC := Aside0.mk (putBig_two n hn0)
      generalize hU : txt (([n / 536870912, 8 * n] : List Nat).flatMap by4) = U at HC
      have hUs : U.size ≤ 8 := by rw [← hU, txt_size]; simp [by4]
      have HU := Aside0.mk hU
      have HCV := Aside0.mk (fun (W' : World) (h : W'.ownsRow w.heap.size 5 1 (.slice A (j + 1) c) (j + 1) (nums .u8 (ints (128 :: List.replicate j 0)))) => own_string (P := Try.prog) Try.underlying68 Try.underlying5 Try.underlying9 h)
      rw [str_ints] at HCV
      generalize hT : txt (128 :: List.replicate j 0) = T at HCV
      have hTs : T.size ≤ 65 := by rw [← hT, txt_size]; simp; exact hj2
      have HT := Aside0.mk hT
      have k1 : T.size + U.size ≤ 9223372036854775807 := by omega
      have k2 : decide (T.size + U.size ≤ 9223372036854775807) = true := decide_eq_true k1
      have k3 : (9223372036854775807 < T.size + U.size) = False := eq_false (Nat.not_lt.2 k1)
      have hjz : j = zs n := by omega
      have HZ := Aside0.mk hjz
      clear hj hjz hT hU hn0
      go_wp2
      have HO2 : Aside0 (wr.drew.ownsRow w.heap.size 5 1 (.slice A (j + 1) c) (j + 1) (nums .u8 (ints (128 :: List.replicate j 0)))) := ⟨HO.out⟩
      have HB2 : Aside0 (Below w.heap.size w wr.drew) := ⟨pw_below_drewN HB.out 1⟩
      refine start_ (n := 11) (S := fun w' => (convert 68 9 (.slice A (j + 1) c)).run Try.prog w' = .ok (.string T) w') (ds := []) #[false, false, false, false, false, false, false, false, false, false, false] (by kernel_rfl) rfl rfl (HCV.out _ HO2.out) (fun hHeld => ?_)
      generalize wr.drew = W at HO2 HB2 hHeld ⊢
      refine pure_ (i := 0) (N := some 25) (v := ?_) (a' := ?_) #[true, false, false, false, false, false, false, false, false, false, false] rfl rfl (by kernel_rfl) (fun _ _ _ h => h) (Or.inl ⟨by rfl, ?_⟩) ?_ ?_
      rotate_left
      · intro w'
        go_simp
        with_reducible rfl
      rotate_left
      · simp only [Act.put, List.setIfInBounds_toArray, List.set_cons_zero, List.set_cons_succ, i64_w, i32_w]
        rfl
      refine pure_ (i := 2) (N := some 27) (v := ?_) (a' := ?_) #[true, false, true, false, false, false, false, false, false, false, false] rfl rfl (by kernel_rfl) (fun _ _ _ h => h) (Or.inl ⟨by rfl, ?_⟩) ?_ ?_
      rotate_left
      · intro w'
        go_simp
        with_reducible rfl
      rotate_left
      · simp only [Act.put, List.setIfInBounds_toArray, List.set_cons_zero, List.set_cons_succ, i64_w, i32_w]
        rfl
      refine pure_ (i := 3) (N := some 28) (v := ?_) (a' := ?_) #[true, false, true, true, false, false, false, false, false, false, false] rfl rfl (by kernel_rfl) (fun _ _ _ h => h) (Or.inl ⟨by rfl, ?_⟩) ?_ ?_
      rotate_left
      · intro w'
        go_simp
        with_reducible rfl
      rotate_left
      · simp only [Act.put, List.setIfInBounds_toArray, List.set_cons_zero, List.set_cons_succ, i64_w, i32_w]
        rfl
      refine pure_ (i := 4) (N := some 29) (v := ?_) (a' := ?_) #[true, false, true, true, true, false, false, false, false, false, false] rfl rfl (by kernel_rfl) (fun _ _ _ h => h) (Or.inl ⟨by rfl, ?_⟩) ?_ ?_
      rotate_left
      · intro w'
        go_simp
        with_reducible rfl
      rotate_left
      · simp only [Act.put, List.setIfInBounds_toArray, List.set_cons_zero, List.set_cons_succ, i64_w, i32_w]
        rfl
      refine pure_ (i := 5) (N := some 30) (v := ?_) (a' := ?_) #[true, false, true, true, true, true, false, false, false, false, false] rfl rfl (by kernel_rfl) (fun _ _ _ h => h) (Or.inl ⟨by rfl, ?_⟩) ?_ ?_
      rotate_left
      · intro w'
        go_simp
        with_reducible rfl
      rotate_left
      · simp only [Act.put, List.setIfInBounds_toArray, List.set_cons_zero, List.set_cons_succ, i64_w, i32_w]
        rfl
      refine take_ (i := 1) (N := some 26) (v := ?_) (a' := ?_) #[true, true, true, true, true, true, false, false, false, false, false] rfl rfl (by kernel_rfl) (fun _ _ _ h => h) (Or.inl ⟨by rfl, ?_⟩) hHeld ?_ ?_
      rotate_left
      · intro w' s0
        go_simp
        with_reducible rfl
      rotate_left
      · simp only [Act.put, List.setIfInBounds_toArray, List.set_cons_zero, List.set_cons_succ, i64_w, i32_w]
        rfl
      refine one_ (i := 6) (N := some 31) #[true, true, true, true, true, true, true, false, false, false, false] rfl rfl (by kernel_rfl) (by decide) (fun K hK => ?_)
      refine value_ (w1 := ?_) (v := ?_) (by rfl) rfl ?_ ?_
      rotate_left 2
      · go_simp
        constructor
        · rfl
        · rfl
      refine hK.out _ _ (HCV.out _ (own_alloc HO2.out _)) (fun hHeld => ?_)
      clear hK K
      refine norm_ (a' := ?_) ?_ ?_
      rotate_left
      · show Act.put _ (some 31) _ = _
        simp only [Act.put, List.setIfInBounds_toArray, List.set_cons_zero, List.set_cons_succ, i64_w, i32_w]
        rfl
      refine one_ (i := 7) (N := some 32) #[true, true, true, true, true, true, true, true, false, false, false] rfl rfl (by kernel_rfl) (by decide) (fun K hK => ?_)
      refine goes_ Try.func162 (by kernel_rfl) rfl #[.slice (some ⟨W.heap.size, 0, none⟩) 2 2] (by rfl) rfl rfl (by simp only [List.map_toArray, List.map_cons, List.map_nil]; rfl) ?_
      with_reducible refine (HC.out W).mono ?_
      rintro e w16 ⟨rfl, hb⟩
      refine ⟨_, rfl, ?_⟩
      have HO3 := Aside0.mk (pw_own_below (own_alloc HO2.out _) hb)
      refine hK.out _ _ (HCV.out _ HO3.out) (fun hHeld => ?_)
      clear hK K
      refine norm_ (a' := ?_) ?_ ?_
      rotate_left
      · show Act.put _ (some 32) _ = _
        simp only [Act.put, List.setIfInBounds_toArray, List.set_cons_zero, List.set_cons_succ, i64_w, i32_w]
        rfl
      refine pure_ (i := 8) (N := some 33) (v := ?_) (a' := ?_) #[true, true, true, true, true, true, true, true, true, false, false] rfl rfl (by kernel_rfl) (fun _ _ _ h => h) (Or.inl ⟨by rfl, ?_⟩) ?_ ?_
      rotate_left
      · intro w'
        go_simp
        with_reducible rfl
      rotate_left
      · simp only [Act.put, List.setIfInBounds_toArray, List.set_cons_zero, List.set_cons_succ, i64_w, i32_w]
        rfl
      refine pure_ (i := 9) (N := some 2) (v := ?_) (a' := ?_) #[true, true, true, true, true, true, true, true, true, true, false] rfl rfl (by kernel_rfl) (fun _ _ _ h => h) (Or.inl ⟨by rfl, ?_⟩) ?_ ?_
      rotate_left
      · intro w'
        go_simp
        with_reducible rfl
      rotate_left
      · simp only [Act.put, List.setIfInBounds_toArray, List.set_cons_zero, List.set_cons_succ, i64_w, i32_w]
        rfl
      refine pure_ (i := 10) (N := some 3) (v := ?_) (a' := ?_) #[true, true, true, true, true, true, true, true, true, true, true] rfl rfl (by kernel_rfl) (fun _ _ _ h => h) (Or.inl ⟨by rfl, ?_⟩) ?_ ?_
      rotate_left
      · intro w'
        go_simp
        with_reducible rfl
      rotate_left
      · simp only [Act.put, List.setIfInBounds_toArray, List.set_cons_zero, List.set_cons_succ, i64_w, i32_w]
        rfl
      refine done_ (by kernel_rfl) ?_

      go_wp2
      go_ret2
      refine ⟨congrArg (fun z => Ending.returned (Value.tuple #[.string z, .int .i64 0])) ?_, ?_⟩
      · show T ++ U = txt (padL n)
        rw [← HT.out, ← HU.out, HZ.out, ← txt_append]
        congr 1
        simp [padL, zs]
      · exact below_then (below_alloc HB2.out _) (below_alloc HB2.out _).size hb
    | succ g =>
      have hz : zs n < 64 := Nat.mod_lt _ (by decide)
      have hj := HJ.out
      have q1 : (((n : Int) + ((j : Int) + 1) + 8) % 64 != 0) = true := by
        rw [bne_iff_ne]
        unfold zs at hj hz
        omega
      have q2 : (((n : Int) + ((j : Int) + 1) + 8) % 64 == 0) = false := by
        rw [beq_eq_false_iff_ne]
        unfold zs at hj hz
        omega
      have hj2 : j ≤ 64 := by omega
      clear hj hz
      have hl8 : (ints (128 :: List.replicate j 0)).length = j + 1 := by simp [ints]
      have HL8 := Aside0.mk hl8
      clear hl8
      go_wp2_with (at_builtin; refine print_append_num (w0 := w) w.heap.size rfl (.tmp 20) (.tmp 21) 68 5 .u8 1 rfl Try.underlying68 hi8 (by decide) (.slice A (j + 1) c) (ints (128 :: List.replicate j 0)) 0 rfl rfl ?aO ?aB ?aS ?aL ?_; (case aO => rw [HL8.out]; exact HO.out); (case aB => exact HB.out); (case aS => exact HB.out.size); (case aL => rw [HL8.out]; omega); intro v1 w1 ho hb hg hat; clear hg hat; have HO1 := Aside0.mk ho; have HB1 := Aside0.mk hb; clear ho hb)
      go_roundg g
      case measure => omega
      case rel =>
        refine ⟨j + 1, ⟨by have := HJ.out; omega⟩, ⟨?_⟩, ⟨HB1.out⟩⟩
        have e : ints (128 :: List.replicate j 0) ++ [0] = ints (128 :: List.replicate (j + 1) 0) := by
          rw [List.replicate_succ']
          simp [ints]
        have := HO1.out
        rw [e] at this
        simpa [ints] using this
end Go.Proofs.Ytbkbganflnemeaa.Pr
namespace Go.Proofs.Ytbkbganflnemeaa.Pr
open Go.RowKit Go.Deep Go.Proofs.YtbkbganflnemeaaW.PrintWords Go.Proofs.YtbkbganflnemeaaW.PrintLast Go.Proofs.YtbkbganflnemeaaW.PrintMore
set_option maxHeartbeats 2000000
set_option linter.unusedVariables false
set_option linter.unusedSimpArgs false
theorem St.bytes_length (s : St) : s.bytes.length = 32 := rfl
theorem St.bytes_lt (s : St) : ∀ n ∈ s.bytes, n < 256 := by
  intro n hn
  simp only [St.bytes, St.list, by4, List.flatMap_cons, List.flatMap_nil, List.cons_append, List.nil_append, List.mem_cons, List.not_mem_nil, or_false] at hn
  omega
theorem be4_by4 (x : Nat) (h : x < 4294967296) : x / 16777216 % 256 * 16777216 + x / 65536 % 256 * 65536 + x / 256 % 256 * 256 + x % 256 = x := by omega
theorem stOf_bytes (s : St) (h : s.ok) : stOf s.bytes = s := by
  obtain ⟨a, b, c, d, e, f, g, hh⟩ := s
  obtain ⟨h1, h2, h3, h4, h5, h6, h7, h8⟩ := h
  simp only at h1 h2 h3 h4 h5 h6 h7 h8
  simp only [stOf, be4, St.bytes, St.list, by4, List.flatMap_cons, List.flatMap_nil, List.cons_append, List.nil_append]
  simp [be4_by4 a h1, be4_by4 b h2, be4_by4 c h3, be4_by4 d h4, be4_by4 e h5, be4_by4 f h6, be4_by4 g h7, be4_by4 hh h8]
theorem bys_bytes (s : St) : bys (txt s.bytes) = s.bytes := bys_txt s.bytes_lt
theorem blks_succ (n : Nat) : ∀ (s : St) (l : List Nat), blks (n + 1) s l = stp (blks n s l) ((l.drop (64 * n)).take 64) := by
  induction n with
  | zero => intro s l; simp [blks]
  | succ n ih =>
    intro s l
    rw [blks, ih, blks, List.drop_drop]
    congr 2
    congr 1
    omega
theorem stp_ok (s : St) (l : List Nat) : (stp s l).ok := St.add_ok _ _
theorem blks_ok (n : Nat) : ∀ (s : St) (l : List Nat), s.ok → (blks n s l).ok := by
  induction n with
  | zero => intro s l h; exact h
  | succ n ih => intro s l h; exact ih _ _ (stp_ok _ _)
theorem padL_lt (n : Nat) : ∀ x ∈ padL n, x < 256 := by
  intro x hx
  simp only [padL, by4, List.mem_cons, List.mem_append, List.mem_replicate, List.not_mem_nil, or_false] at hx
  omega
theorem padL_len (n : Nat) : (padL n).length = 9 + (119 - n % 64) % 64 := by
  simp [padL, by4]
  omega
def allL (a : ByteArray) : List Nat := bys a ++ padL a.size
theorem allL_len (a : ByteArray) : ∃ m, (allL a).length = 64 * m ∧ a.size < 64 * m := by
  refine ⟨(a.size + 9 + (119 - a.size % 64) % 64) / 64, ?_, ?_⟩
  · rw [allL, List.length_append, bys_length, padL_len]
    omega
  · omega
def sumF (a0 : ByteArray) : Option ByteArray := if a0.size ≤ 1000000000000 then some (txt (blks ((allL a0).length / 64) St0 (allL a0)).bytes) else none
def sha_Sum.f (a0 : ByteArray) : Option ByteArray := sumF a0
def samphireref02_Sum.f (a0 : ByteArray) : Option ByteArray := sumF a0
theorem refBegin (w : World) : Calls Try.prog 147 #[] w fun e w' => e = .returned (.string (txt St0.bytes)) ∧ Below w.heap.size w w' := by
  obtain ⟨K, hK⟩ := begin_ev
  exact samphireref02_Begin.calls K _ w (hK K (Nat.le_refl _))
theorem refBlock (s b : ByteArray) (w : World) (hs : s.size = 32) (hb : b.size = 64) :
    Calls Try.prog 148 #[.string s, .string b] w fun e w' => e = .returned (.tuple #[.string (txt (stp (stOf (bys s)) (bys b)).bytes), .int .i64 0]) ∧ Below w.heap.size w w' := by
  obtain ⟨K, hK⟩ := block_ev s b
  rw [if_pos ⟨hs, hb⟩] at hK
  exact samphireref02_Block.calls K s b _ _ w (hK K (Nat.le_refl _))
set_option maxRecDepth 100000 in
theorem refSum (a0 : ByteArray) (w : World) (hn : a0.size ≤ 1000000000000) :
    Calls Try.prog 125 #[.string a0] w fun e w' => e = .returned (.string (txt (blks ((allL a0).length / 64) St0 (allL a0)).bytes)) ∧ Below w.heap.size w w' := by
  have hn1 : (a0.size : Int) ≤ 1125899906842624 := by omega
  obtain ⟨m, hm, hm2⟩ := allL_len a0
  have e0 : (allL a0).length / 64 = m := by omega
  rw [e0]
  clear e0
  go_enter Try.func125, Try.ntmps125
  go_wp2_with (fail)
  refine (samphireref02_Pad.yes a0.size _ hn1).mono ?_
  rintro e w1 ⟨rfl, hb1⟩
  generalize hT : txt (padL a0.size) = T
  have hTs : T.size ≤ 100 := by rw [← hT, txt_size, padL_len]; omega
  have k1 : a0.size + T.size ≤ 9223372036854775807 := by omega
  have k3 : (9223372036854775807 < a0.size + T.size) = False := eq_false (Nat.not_lt.2 k1)
  have hS : bys (a0 ++ T) = allL a0 := by rw [bys_append, ← hT, bys_txt (padL_lt _)]; rfl
  have hSs : (a0 ++ T).size = 64 * m := by rw [← bys_length, hS, hm]
  have HSs := Aside0.mk hSs
  have hs1 : (a0 ++ T).size ≤ 1000000000200 := by rw [ByteArray.size_append]; omega
  clear hSs
  clear hT hn1
  have HS := Aside0.mk hS
  have HM := Aside0.mk hm
  clear hS hm
  go_wp2_with (go_at_call 147; refine (refBegin _).mono ?_; generalize a0 ++ T = S at HS HSs hs1 ⊢; rintro e w2 ⟨rfl, hb2⟩)
  have hB0 := below_then hb1 hb1.size hb2
  have HB0 := Aside0.mk hB0
  clear hB0 hb1 hb2 k1 k3
  go_wp2
  go_loopw [5, 6] (fun st i wr => ∃ (q : Nat) (τ : ByteArray), i = .int .i64 q ∧ st = .string τ ∧ q ≤ S.size ∧ τ.size = 32 ∧ Aside0 (∃ j, q = 64 * j ∧ j ≤ m ∧ τ = txt (blks j St0 (allL a0)).bytes) ∧ Aside0 (Below w.heap.size w wr)) (fun _ i _ => S.size + 64 - (intOf i).toNat)
  case atStart => exact ⟨0, txt St0.bytes, rfl, rfl, by omega, rfl, ⟨0, rfl, by omega, rfl⟩, HB0⟩
  case round =>
    obtain ⟨q, τ, rfl, rfl, hq, hτ, HJ, HB⟩ := hrel
    by_cases hlt : q + 64 ≤ S.size
    · have hx : (S.extract q (q + 64)).size = 64 := by simp; omega
      have HX := Aside0.mk hx
      have HT := Aside0.mk hτ
      clear hx hτ
      have i1 := eq_true (show (q : Int) + 64 ≤ (S.size : Int) by omega)
      have i2 := eq_true (show (q : Int) ≤ (q : Int) + 64 by omega)
      have i3 := eq_true (show 0 ≤ (q : Int) by omega)
      have i4 : ((q : Int) + 64).toNat = q + 64 := by omega
      go_wp2_with (go_at_call 148; refine (refBlock τ (S.extract q (q + 64)) _ HT.out HX.out).mono ?_; rintro e w3 ⟨rfl, hb3⟩)
      go_roundw
      case measure => simp [intOf]; omega
      case rel =>
        obtain ⟨j, hj1, hj2, hj3⟩ := HJ.out
        have hj4 : j + 1 ≤ m := by have := HSs.out; omega
        refine ⟨q + 64, _, by go_num, rfl, hlt, by rw [txt_size, St.bytes_length], ⟨j + 1, by omega, hj4, ?_⟩, ⟨below_then HB.out HB.out.size hb3⟩⟩
        rw [blks_succ, hj3, bys_bytes, stOf_bytes _ (blks_ok _ _ _ St0_ok), bys_extract, HS.out, hj1]
        rw [Nat.add_sub_cancel_left]
    · clear hτ
      have i1 := eq_false (show ¬ (q : Int) + 64 ≤ (S.size : Int) by omega)
      go_wp2
      go_ret
      obtain ⟨j, hj1, hj2, hj3⟩ := HJ.out
      have hj4 : j = m := by have := HSs.out; omega
      rw [← hj4, ← hj3]
      exact ⟨rfl, HB.out⟩
theorem samphireref02_Sum.calls (a0 : ByteArray) (r : ByteArray) (w : World) (h : samphireref02_Sum.f a0 = some r) :
    Calls Try.prog 125 #[.string a0] w fun e w' => e = .returned (.string r) ∧ Below w.heap.size w w' := by
  unfold samphireref02_Sum.f sumF at h
  by_cases hc : a0.size ≤ 1000000000000
  · rw [if_pos hc] at h
    obtain rfl := Option.some.inj h
    exact refSum a0 w hc
  · rw [if_neg hc] at h
    cases h
def strLen : Value → Nat | .string s => s.size | _ => 0
def StAt (g : Nat) (s : St) (w : World) : Prop := w.heap[g]? = some (.cells #[.int .u32 (s.a : Int), .int .u32 (s.b : Int), .int .u32 (s.c : Int), .int .u32 (s.d : Int), .int .u32 (s.e : Int), .int .u32 (s.f : Int), .int .u32 (s.g : Int), .int .u32 (s.h : Int)] 188 (0, 0))
def KAt (g : Nat) (w : World) : Prop := w.heap[g]? = some (.cells (u32s shaK) 185 (0, 0))
theorem StAt.store {g : Nat} {s : St} {w : World} (h : StAt g s w) (t : St) : StAt g t (w.setRow g #[.int .u32 (t.a : Int), .int .u32 (t.b : Int), .int .u32 (t.c : Int), .int .u32 (t.d : Int), .int .u32 (t.e : Int), .int .u32 (t.f : Int), .int .u32 (t.g : Int), .int .u32 (t.h : Int)]) :=
  setRow_heap _ _ _ _ _ _ h
theorem below_setRow8 {B g : Nat} {w0 w : World} (hb : Below B w0 w) (hg : B ≤ g) (cs : Array Value) : Below B w0 (w.setRow g cs) :=
  ⟨hb.os, hb.tape, hb.output, by simpa [World.setRow] using hb.size, fun k hk => by rw [setRow_other _ _ _ _ (by omega)]; exact hb.block k hk⟩
theorem KAt.store {g g' : Nat} {w : World} (h : KAt g w) (hg : g ≠ g') (cs : Array Value) : KAt g (w.setRow g' cs) := by
  unfold KAt
  rw [setRow_other _ _ _ _ hg]
  exact h
set_option maxRecDepth 100000 in
theorem shaSum (a0 : ByteArray) (w : World) (hn : a0.size ≤ 1000000000000) :
    Calls Try.prog 138 #[.string a0] w fun e w' => e = .returned (.string (txt (blks ((allL a0).length / 64) St0 (allL a0)).bytes)) ∧ Below w.heap.size w w' := by
  have hinf : (Try.prog.info? 185).map (·.size) = some 64 := by kernel_rfl
  have hinf8 : (Try.prog.info? 188).map (·.size) = some 8 := by kernel_rfl
  have hn1 : (a0.size : Int) ≤ 1125899906842624 := by omega
  obtain ⟨m, hm, hm2⟩ := allL_len a0
  have e0 : (allL a0).length / 64 = m := by omega
  rw [e0]
  clear e0
  have HI := Aside0.mk hinf
  have HI8 := Aside0.mk hinf8
  clear hinf hinf8
  go_enter Try.func138, Try.ntmps138
  go_wp2_with (fail)
  refine (sha_Pad.yes a0.size _ hn1).mono ?_
  rintro e w1 ⟨rfl, hb1⟩
  generalize hT : txt (padL a0.size) = T
  have hTs : T.size ≤ 100 := by rw [← hT, txt_size, padL_len]; omega
  have hTb : bys T = padL a0.size := by rw [← hT, bys_txt (padL_lt _)]
  have HTB := Aside0.mk hTb
  have HM := Aside0.mk hm
  clear hT hm hTb hn1
  go_wp2_with (first | (go_at_call 154; refine (constants.calls _).mono ?_; rintro e w2 ⟨rfl, hb2⟩; have HB2 := Aside0.mk (below_then hb1 hb1.size hb2); clear hb1 hb2) | (refine wpList_store_row rfl 185 (.tmp 5) (.tmp 16) rfl _ (u32s shaK) rfl rfl 185 _ (heap_alloc_last _ _) HI.out (by rfl) (u32s_one _) ?_; rw [World.setRow_alloc_new]) | (go_at_call 155; refine (sha_start.calls _).mono ?_; rintro e w3 ⟨rfl, hb3⟩))
  have HK : KAt w2.heap.size (w3.alloc (.cells #[.int .u32 (St0.a : Int), .int .u32 (St0.b : Int), .int .u32 (St0.c : Int), .int .u32 (St0.d : Int), .int .u32 (St0.e : Int), .int .u32 (St0.f : Int), .int .u32 (St0.g : Int), .int .u32 (St0.h : Int)] 188)) := blk_alloc (blk_below (heap_alloc_last _ _) hb3) _
  have HS0 : StAt w3.heap.size St0 (w3.alloc (.cells #[.int .u32 (St0.a : Int), .int .u32 (St0.b : Int), .int .u32 (St0.c : Int), .int .u32 (St0.d : Int), .int .u32 (St0.e : Int), .int .u32 (St0.f : Int), .int .u32 (St0.g : Int), .int .u32 (St0.h : Int)] 188)) := heap_alloc_last _ _
  have q1 : Below w.heap.size w (w2.alloc (.cells (u32s shaK) 185)) := below_alloc HB2.out _
  have HB4 : Below w.heap.size w (w3.alloc (.cells #[.int .u32 (St0.a : Int), .int .u32 (St0.b : Int), .int .u32 (St0.c : Int), .int .u32 (St0.d : Int), .int .u32 (St0.e : Int), .int .u32 (St0.f : Int), .int .u32 (St0.g : Int), .int .u32 (St0.h : Int)] 188)) := below_alloc (below_then q1 q1.size hb3) _
  have hk1 : w2.heap.size ≠ w3.heap.size := by have := hb3.size; simp at this; omega
  have hk2 : w.heap.size ≤ w3.heap.size := by have := hb3.size; have := q1.size; omega
  have AK := Aside0.mk HK
  have AS := Aside0.mk HS0
  have AB := Aside0.mk HB4
  have A1 := Aside0.mk hk1
  have A2 := Aside0.mk hk2
  clear HK HS0 HB4 q1 hb3 hk1 hk2 HB2
  generalize w3.alloc (.cells #[.int .u32 (St0.a : Int), .int .u32 (St0.b : Int), .int .u32 (St0.c : Int), .int .u32 (St0.d : Int), .int .u32 (St0.e : Int), .int .u32 (St0.f : Int), .int .u32 (St0.g : Int), .int .u32 (St0.h : Int)] 188) = w4 at AK AS AB ⊢
  generalize w2.heap.size = gc at AK A1 ⊢
  generalize w3.heap.size = gh at AS A1 A2 ⊢
  obtain ⟨M, hM⟩ : ∃ M : Nat, (a0.size : Int) / 64 * 64 = (M : Int) := ⟨a0.size / 64 * 64, by omega⟩
  rw [hM]
  have hM2 : M ≤ a0.size := by omega
  have hM3 : a0.size < M + 64 := by omega
  have hM4 : ∃ j, M = 64 * j := ⟨a0.size / 64, by omega⟩
  have HM4 := Aside0.mk hM4
  clear hM hM4
  go_loopw [8] (fun i wr => ∃ (q j : Nat), i = .int .i64 q ∧ q ≤ M ∧ Aside0 (q = 64 * j) ∧ Aside0 (KAt gc wr) ∧ Aside0 (StAt gh (blks j St0 (allL a0)) wr) ∧ Aside0 (Below w.heap.size w wr)) (fun i _ => M - (intOf i).toNat)
  case atStart => exact ⟨0, 0, rfl, by omega, ⟨rfl⟩, AK, AS, AB⟩
  case round =>
    clear AK AS AB
    obtain ⟨q, j, rfl, hq, HJ, HK, HS, HB⟩ := hrel
    by_cases hlt : q < M
    · have hle : q + 64 ≤ a0.size := by
        obtain ⟨j', hj'⟩ := HM4.out
        have := HJ.out
        omega
      have hx : (a0.extract q (q + 64)).size = 64 := by simp; omega
      have HX := Aside0.mk hx
      clear hx
      generalize hst : blks j St0 (allL a0) = st at HS
      have hok : st.ok := by rw [← hst]; exact blks_ok _ _ _ St0_ok
      have HST := Aside0.mk hst
      have HOK := Aside0.mk hok
      clear hst hok
      obtain ⟨a, b, c, d, e, f, g, h⟩ := st
      have i1 := eq_true (show (q : Int) + 64 ≤ (a0.size : Int) by omega)
      have i2 := eq_true (show (q : Int) ≤ (q : Int) + 64 by omega)
      have i3 := eq_true (show 0 ≤ (q : Int) by omega)
      have i4 : ((q : Int) + 64).toNat = q + 64 := by omega
      have i5 : IntKind.i64.wrap ((q : Int) + 64) = (q : Int) + 64 := IntWalk.i64_in _ (by omega)
      go_wp2_with (fail)
      refine wp_still_tail 6 (by kernel_rfl) (by kernel_rfl) ?_
      intro W hW
      have hcv := cell_row8 (w := W) (g := gh) (t := 188) (by rw [hW]; exact HS.out)
      have HK2 : Aside0 (KAt gc W) := ⟨by rw [hW]; exact HK.out⟩
      have HS2 : Aside0 (StAt gh ⟨a, b, c, d, e, f, g, h⟩ W) := ⟨by rw [hW]; exact HS.out⟩
      have HB2 : Aside0 (Below w.heap.size w W) := ⟨by rw [hW]; exact pw_below_drewN HB.out 1⟩
      clear hW HS HK HB
      simp only [List.take_succ_cons, List.take_zero, List.drop_succ_cons, List.drop_zero]
      repeat still_step
      refine wpStill_nil ?_
      clear hcv
      go_wp2_with (first | (go_at_call 156; refine (sums_step.calls a b c d e f g h gc (a0.extract q (q + 64)) W HOK.out HX.out HK2.out).mono ?_; rintro e5 w5 ⟨⟨s', hs', rfl⟩, hb5⟩; generalize hV : #[Value.int .u32 (s'.a : Int), Value.int .u32 (s'.b : Int), Value.int .u32 (s'.c : Int), Value.int .u32 (s'.d : Int), Value.int .u32 (s'.e : Int), Value.int .u32 (s'.f : Int), Value.int .u32 (s'.g : Int), Value.int .u32 (s'.h : Int)] = V; have HV := Aside0.mk hV; clear hV; have HS5 := Aside0.mk hs'; have HB5 := Aside0.mk hb5; clear hs' hb5) | (refine wpList_store_row rfl 188 (.tmp 6) (.tmp 33) rfl gh V rfl rfl 188 _ (blk_below HS2.out HB5.out) (by rw [← HV.out]; exact HI8.out) (by rw [← HV.out]; rfl) (by rw [← HV.out]; exact u32s_one [s'.a, s'.b, s'.c, s'.d, s'.e, s'.f, s'.g, s'.h]) ?_))
      rw [← HV.out]
      have HK6 : Aside0 (KAt gc (w5.setRow gh #[.int .u32 (s'.a : Int), .int .u32 (s'.b : Int), .int .u32 (s'.c : Int), .int .u32 (s'.d : Int), .int .u32 (s'.e : Int), .int .u32 (s'.f : Int), .int .u32 (s'.g : Int), .int .u32 (s'.h : Int)])) := ⟨KAt.store (blk_below HK2.out HB5.out) A1.out _⟩
      have HS6 : Aside0 (StAt gh s' (w5.setRow gh #[.int .u32 (s'.a : Int), .int .u32 (s'.b : Int), .int .u32 (s'.c : Int), .int .u32 (s'.d : Int), .int .u32 (s'.e : Int), .int .u32 (s'.f : Int), .int .u32 (s'.g : Int), .int .u32 (s'.h : Int)])) := ⟨StAt.store (blk_below HS2.out HB5.out) s'⟩
      have HB6 : Aside0 (Below w.heap.size w (w5.setRow gh #[.int .u32 (s'.a : Int), .int .u32 (s'.b : Int), .int .u32 (s'.c : Int), .int .u32 (s'.d : Int), .int .u32 (s'.e : Int), .int .u32 (s'.f : Int), .int .u32 (s'.g : Int), .int .u32 (s'.h : Int)])) := ⟨below_setRow8 (below_then HB2.out HB2.out.size HB5.out) A2.out _⟩
      generalize w5.setRow gh #[.int .u32 (s'.a : Int), .int .u32 (s'.b : Int), .int .u32 (s'.c : Int), .int .u32 (s'.d : Int), .int .u32 (s'.e : Int), .int .u32 (s'.f : Int), .int .u32 (s'.g : Int), .int .u32 (s'.h : Int)] = w6 at HK6 HS6 HB6 ⊢
      go_wp2
      refine ⟨⟨q + 64, j + 1, by go_num, by obtain ⟨j', hj'⟩ := HM4.out; have := HJ.out; omega, ⟨by have := HJ.out; omega⟩, HK6, ⟨?_⟩, HB6⟩, by simp [intOf]; omega⟩
      have e : blks (j + 1) St0 (allL a0) = s' := by
        rw [blks_succ, HST.out, HS5.out, bys_extract, allL, ← HJ.out, List.drop_append_of_le_length (by rw [bys_length]; omega), List.take_append_of_le_length (by rw [List.length_drop, bys_length]; omega), Nat.add_sub_cancel_left]
      rw [e]
      exact HS6.out
    · have hqM : q = M := by omega
      subst hqM
      clear hlt hq
      have i1 := eq_true (show (q : Int) ≤ (a0.size : Int) by omega)
      have i3 := eq_true (show 0 ≤ (q : Int) by omega)
      have hsz : (a0.extract q a0.size).size ≤ 64 := by simp; omega
      have k1 : (a0.extract q a0.size).size + T.size ≤ 9223372036854775807 := by omega
      have k3 : (9223372036854775807 < (a0.extract q a0.size).size + T.size) = False := eq_false (Nat.not_lt.2 k1)
      go_wp2_with (fail)
      have HT : Aside0 (bys (a0.extract q a0.size ++ T) = (allL a0).drop (64 * j)) := ⟨by rw [bys_append, HTB.out, bys_extract, allL, ← HJ.out, List.drop_append_of_le_length (by rw [bys_length]; omega), List.take_of_length_le (by rw [List.length_drop, bys_length]; omega)]⟩
      have ht : (a0.extract q a0.size ++ T).size ≤ 200 := by rw [ByteArray.size_append]; omega
      have hjm : 64 * j ≤ 64 * m := by have := HJ.out; omega
      generalize a0.extract q a0.size ++ T = U at HT ht ⊢
      clear k1 k3 hsz i1 i3
      go_loopw [9] (fun t wr => ∃ (j : Nat) (τ : ByteArray), t = .string τ ∧ τ.size ≤ 200 ∧ Aside0 (bys τ = (allL a0).drop (64 * j)) ∧ Aside0 (64 * j ≤ 64 * m) ∧ Aside0 (KAt gc wr) ∧ Aside0 (StAt gh (blks j St0 (allL a0)) wr) ∧ Aside0 (Below w.heap.size w wr)) (fun t _ => strLen t)
      case atStart => exact ⟨j, U, rfl, ht, HT, ⟨hjm⟩, HK, HS, HB⟩
      case round =>
        clear HJ HK HS HB HT
        obtain ⟨j, τ, rfl, hτ, HT, HJ, HK, HS, HB⟩ := hrel
        have hlen : τ.size = 64 * m - 64 * j := by rw [← bys_length, HT.out, List.length_drop, HM.out]
        by_cases hz : τ.size = 0
        · have hτ0 : τ = ⟨#[]⟩ := by
            obtain ⟨⟨l⟩⟩ := τ
            congr
            cases l with
            | nil => rfl
            | cons x l => simp [ByteArray.size] at hz
          subst hτ0
          have hjm : j = m := by have := HJ.out; rw [hz] at hlen; omega
          clear hτ hlen hz HT
          rw [hjm] at HS
          generalize hst : blks m St0 (allL a0) = st at HS
          have HST := Aside0.mk hst
          clear hst
          obtain ⟨a, b, c, d, e, f, g, h⟩ := st
          have hcv := cell_row8 (w := wr) (g := gh) (t := 188) HS.out
          go_wp2_with (go_at_call 157; refine (sums_text.calls _ _ _ _ _ _ _ _ _).mono ?_; rintro e w7 ⟨rfl, hb7⟩)
          go_ret
          rw [HST.out]
          exact ⟨rfl, below_then HB.out HB.out.size hb7⟩
        · have hge : 64 ≤ τ.size := by have := HJ.out; omega
          have hx : (τ.extract 0 64).size = 64 := by simp; omega
          have HX := Aside0.mk hx
          have HL := Aside0.mk hlen
          clear hx hlen
          generalize hst : blks j St0 (allL a0) = st at HS
          have hok : st.ok := by rw [← hst]; exact blks_ok _ _ _ St0_ok
          have HST := Aside0.mk hst
          have HOK := Aside0.mk hok
          clear hst hok
          obtain ⟨a, b, c, d, e, f, g, h⟩ := st
          have i1 := eq_true (show (64 : Int) ≤ (τ.size : Int) by omega)
          have i2 : τ.toList.isEmpty = false := by
            rw [ByteArray.toList_eq]
            obtain ⟨⟨l⟩⟩ := τ
            cases l with
            | nil => exact absurd rfl hz
            | cons x l => rfl
          go_wp2_with (fail)
          refine wp_still_tail 3 (by kernel_rfl) (by kernel_rfl) ?_
          intro W hW
          have hcv := cell_row8 (w := W) (g := gh) (t := 188) (by rw [hW]; exact HS.out)
          have HK2 : Aside0 (KAt gc W) := ⟨by rw [hW]; exact HK.out⟩
          have HS2 : Aside0 (StAt gh ⟨a, b, c, d, e, f, g, h⟩ W) := ⟨by rw [hW]; exact HS.out⟩
          have HB2 : Aside0 (Below w.heap.size w W) := ⟨by rw [hW]; exact pw_below_drewN HB.out 1⟩
          clear hW HS HK HB
          simp only [List.take_succ_cons, List.take_zero, List.drop_succ_cons, List.drop_zero]
          repeat still_step
          refine wpStill_nil ?_
          clear hcv
          go_wp2_with (first | (go_at_call 156; refine (sums_step.calls a b c d e f g h gc (τ.extract 0 64) W HOK.out HX.out HK2.out).mono ?_; rintro e5 w5 ⟨⟨s', hs', rfl⟩, hb5⟩; generalize hV : #[Value.int .u32 (s'.a : Int), Value.int .u32 (s'.b : Int), Value.int .u32 (s'.c : Int), Value.int .u32 (s'.d : Int), Value.int .u32 (s'.e : Int), Value.int .u32 (s'.f : Int), Value.int .u32 (s'.g : Int), Value.int .u32 (s'.h : Int)] = V; have HV := Aside0.mk hV; clear hV; have HS5 := Aside0.mk hs'; have HB5 := Aside0.mk hb5; clear hs' hb5) | (refine wpList_store_row rfl 188 (.tmp 6) (.tmp 46) rfl gh V rfl rfl 188 _ (blk_below HS2.out HB5.out) (by rw [← HV.out]; exact HI8.out) (by rw [← HV.out]; rfl) (by rw [← HV.out]; exact u32s_one [s'.a, s'.b, s'.c, s'.d, s'.e, s'.f, s'.g, s'.h]) ?_))
          rw [← HV.out]
          have HK6 : Aside0 (KAt gc (w5.setRow gh #[.int .u32 (s'.a : Int), .int .u32 (s'.b : Int), .int .u32 (s'.c : Int), .int .u32 (s'.d : Int), .int .u32 (s'.e : Int), .int .u32 (s'.f : Int), .int .u32 (s'.g : Int), .int .u32 (s'.h : Int)])) := ⟨KAt.store (blk_below HK2.out HB5.out) A1.out _⟩
          have HS6 : Aside0 (StAt gh s' (w5.setRow gh #[.int .u32 (s'.a : Int), .int .u32 (s'.b : Int), .int .u32 (s'.c : Int), .int .u32 (s'.d : Int), .int .u32 (s'.e : Int), .int .u32 (s'.f : Int), .int .u32 (s'.g : Int), .int .u32 (s'.h : Int)])) := ⟨StAt.store (blk_below HS2.out HB5.out) s'⟩
          have HB6 : Aside0 (Below w.heap.size w (w5.setRow gh #[.int .u32 (s'.a : Int), .int .u32 (s'.b : Int), .int .u32 (s'.c : Int), .int .u32 (s'.d : Int), .int .u32 (s'.e : Int), .int .u32 (s'.f : Int), .int .u32 (s'.g : Int), .int .u32 (s'.h : Int)])) := ⟨below_setRow8 (below_then HB2.out HB2.out.size HB5.out) A2.out _⟩
          generalize w5.setRow gh #[.int .u32 (s'.a : Int), .int .u32 (s'.b : Int), .int .u32 (s'.c : Int), .int .u32 (s'.d : Int), .int .u32 (s'.e : Int), .int .u32 (s'.f : Int), .int .u32 (s'.g : Int), .int .u32 (s'.h : Int)] = w6 at HK6 HS6 HB6 ⊢
          go_wp2
          refine ⟨⟨j + 1, τ.extract 64 τ.size, rfl, by simp; omega, ⟨?_⟩, ⟨by have := HJ.out; have := HL.out; omega⟩, HK6, ⟨?_⟩, HB6⟩, by simp [strLen]; omega⟩
          · rw [bys_extract, HT.out, List.take_of_length_le (by have := HL.out; simp [HM.out]; omega), List.drop_drop]
            rfl
          · have e : blks (j + 1) St0 (allL a0) = s' := by
              rw [blks_succ, HST.out, HS5.out, bys_extract, HT.out]
              rfl
            rw [e]
            exact HS6.out
theorem sha_Sum.calls (a0 : ByteArray) (r : ByteArray) (w : World) (h : sha_Sum.f a0 = some r) :
    Calls Try.prog 138 #[.string a0] w fun e w' => e = .returned (.string r) ∧ Below w.heap.size w w' := by
  unfold sha_Sum.f sumF at h
  by_cases hc : a0.size ≤ 1000000000000
  · rw [if_pos hc] at h
    obtain rfl := Option.some.inj h
    exact shaSum a0 w hc
  · rw [if_neg hc] at h
    cases h
end Go.Proofs.Ytbkbganflnemeaa.Pr
namespace Go.Proofs.Ytbkbganflnemeaa.Pr
open Go.RowKit Go.Proofs.YtbkbganflnemeaaW.PrintWords Go.Proofs.YtbkbganflnemeaaW.PrintLast
theorem sumL_length (l : List Nat) : (sumL l).length = 32 := rfl
theorem allL_bys (a : ByteArray) : allL a = bys a ++ padL (bys a).length := by rw [allL, bys_length]
def sumT (a : ByteArray) : ByteArray := txt (sumL (bys a))
theorem sumT_size (a : ByteArray) : (sumT a).size = 32 := by rw [sumT, txt_size, sumL_length]
theorem sumF_eq (a : ByteArray) (h : a.size ≤ 1000000000000) : sumF a = some (sumT a) := by
  unfold sumF
  rw [if_pos h, allL_bys]
  rfl
theorem sha_Sum_f (a : ByteArray) (h : a.size ≤ 1000000000000) : sha_Sum.f a = some (sumT a) := sumF_eq a h
theorem ref_Sum_f (a : ByteArray) (h : a.size ≤ 1000000000000) : samphireref02_Sum.f a = some (sumT a) := sumF_eq a h
end Go.Proofs.Ytbkbganflnemeaa.Pr
end

section
namespace Go.Proofs.Ytbkbganflnemeaa.Pr
open Go.RowKit Go.Deep Go.Proofs.YtbkbganflnemeaaW.PrintWords Go.Proofs.YtbkbganflnemeaaW.PrintLast Go.Proofs.YtbkbganflnemeaaW.PrintMore
set_option maxHeartbeats 2000000
set_option linter.unusedVariables false
set_option linter.unusedSimpArgs false
def chaOK (a0 a1 : ByteArray) (a2 : Int) : Prop := a0.size = 32 ∧ a1.size = 12 ∧ 0 ≤ a2 ∧ a2 < 4294967296
instance (a0 a1 : ByteArray) (a2 : Int) : Decidable (chaOK a0 a1 a2) := by unfold chaOK; infer_instance
def strOK (a0 a1 : ByteArray) (a2 : Int) (a3 : ByteArray) : Prop := chaOK a0 a1 a2 ∧ a3.size ≤ 65536 ∧ ((a3.size + 63) / 64 : Nat) ≤ 4294967296 - a2
instance (a0 a1 : ByteArray) (a2 : Int) (a3 : ByteArray) : Decidable (strOK a0 a1 a2 a3) := by unfold strOK; infer_instance
end Go.Proofs.Ytbkbganflnemeaa.Pr
end

section
namespace Go.Proofs.Ytbkbganflnemeaa.Pr
open Go.RowKit Go.Deep Go.Proofs.YtbkbganflnemeaaW.PrintWords Go.Proofs.YtbkbganflnemeaaW.PrintLast Go.Proofs.YtbkbganflnemeaaW.PrintMore
set_option maxHeartbeats 2000000
set_option linter.unusedVariables false
set_option linter.unusedSimpArgs false
def upto (f : Nat → Nat → Nat) (k : Nat) : Nat → Nat → Nat := fun i x => if i < k then f i x else x
end Go.Proofs.Ytbkbganflnemeaa.Pr
end

section
namespace Go.Proofs.Ytbkbganflnemeaa.Pr
open Go.RowKit Go.Proofs.YtbkbganflnemeaaW.PrintWords Go.Proofs.YtbkbganflnemeaaW.PrintLast
set_option maxHeartbeats 1000000
set_option linter.unusedVariables false
set_option linter.unusedSimpArgs false
def aeadOK (a0 a1 : ByteArray) (x y : Nat) : Prop := a0.size = 32 ∧ a1.size = 12 ∧ x ≤ 32768 ∧ y ≤ 32768 - x
instance (a0 a1 : ByteArray) (x y : Nat) : Decidable (aeadOK a0 a1 x y) := by unfold aeadOK; infer_instance
end Go.Proofs.Ytbkbganflnemeaa.Pr
end

section
namespace Go.Proofs.Ytbkbganflnemeaa.Pr
open Go.RowKit Go.Deep Go.Maps Go.Proofs.YtbkbganflnemeaaW.PrintWords Go.Proofs.YtbkbganflnemeaaW.PrintLast Go.Proofs.YtbkbganflnemeaaW.PrintMore
set_option maxHeartbeats 2000000
set_option linter.unusedVariables false
set_option linter.unusedSimpArgs false
theorem grown_of_below {w w' : World} (h : Below w.heap.size w w') (r : Option Nat) : w.grownBy w' r := ⟨h.os, h.tape, h.output, h.size, fun k hk _ => h.block k hk⟩
end Go.Proofs.Ytbkbganflnemeaa.Pr
end

section
namespace Go.Proofs.Ytbkbganflnemeaa.Pr
open Go.RowKit Go.Deep Go.Maps Go.Proofs.YtbkbganflnemeaaW.PrintWords Go.Proofs.YtbkbganflnemeaaW.PrintLast Go.Proofs.YtbkbganflnemeaaW.PrintMore
set_option maxHeartbeats 2000000
set_option linter.unusedVariables false
set_option linter.unusedSimpArgs false
def FrV (tb mb : Nat) (w w' : World) : Prop := w'.os = w.os ∧ w'.tape = w.tape ∧ w'.output = w.output ∧ w.heap.size ≤ w'.heap.size ∧ ∀ k, k < w.heap.size → k ≠ tb → k ≠ mb → w'.heap[k]? = w.heap[k]?
theorem FrV.refl (tb mb : Nat) (w : World) : FrV tb mb w w := ⟨rfl, rfl, rfl, Nat.le_refl _, fun _ _ _ _ => rfl⟩
theorem FrV.trans {tb mb : Nat} {a b c : World} (h : FrV tb mb a b) (k : FrV tb mb b c) : FrV tb mb a c :=
  ⟨k.1.trans h.1, k.2.1.trans h.2.1, k.2.2.1.trans h.2.2.1, Nat.le_trans h.2.2.2.1 k.2.2.2.1, fun i hi h1 h2 => (k.2.2.2.2 i (Nat.lt_of_lt_of_le hi h.2.2.2.1) h1 h2).trans (h.2.2.2.2 i hi h1 h2)⟩
theorem FrV.tb {tb mb : Nat} {a b : World} (h : a.grownBy b (some tb)) : FrV tb mb a b := ⟨h.os, h.tape, h.output, h.size, fun k hk h1 _ => h.block k hk (by simpa using h1)⟩
theorem FrV.of_below {tb mb : Nat} {a b : World} (h : Below a.heap.size a b) : FrV tb mb a b := FrV.tb (grown_of_below h _)
end Go.Proofs.Ytbkbganflnemeaa.Pr
end

section
namespace Go.Proofs.Ytbkbganflnemeaa.Pr
open Go.RowKit Go.Deep Go.Maps Go.Proofs.YtbkbganflnemeaaW.PrintWords Go.Proofs.YtbkbganflnemeaaW.PrintLast Go.Proofs.YtbkbganflnemeaaW.PrintMore
set_option maxHeartbeats 2000000
set_option linter.unusedVariables false
set_option linter.unusedSimpArgs false
def rowL (L : List ByteArray) : List Value := L.flatMap Lib.strCells
structure DevAt (d g : Nat) (L : List ByteArray) (fuse : Int) (off : Bool) (wr : Int) (w : World) : Prop where
  box : w.heap[d]? = some (.cells #[.slice (some ⟨g, 0, none⟩) L.length L.length, .int .i64 fuse, .bool off, .int .i64 wr] 59 (0, 0))
  row : w.heap[g]? = some (.cells (rowL L).toArray 106 (0, 0))
  siz : ∀ x ∈ L, x.size = 64
theorem DevAt.ne {d g : Nat} {L : List ByteArray} {f wr : Int} {o : Bool} {w : World} (h : DevAt d g L f o wr w) : d ≠ g := fun e => by
  have h1 := h.box
  rw [e, h.row] at h1
  injection h1 with h1
  injection h1 with _ h2 _
  exact absurd h2 (by decide)
theorem DevAt.below {d g : Nat} {L : List ByteArray} {f wr : Int} {o : Bool} {w w' : World} (h : DevAt d g L f o wr w) (hb : Below w.heap.size w w') : DevAt d g L f o wr w' :=
  ⟨(hb.block d (blk_lt h.box)).trans h.box, (hb.block g (blk_lt h.row)).trans h.row, h.siz⟩
theorem DevAt.cells {d g : Nat} {L : List ByteArray} {f wr : Int} {o : Bool} {w : World} (h : DevAt d g L f o wr w) :
    w.cell? ⟨d, 0, none⟩ = some (.slice (some ⟨g, 0, none⟩) L.length L.length) ∧ w.cell? ⟨d, 1, none⟩ = some (.int .i64 f) ∧ w.cell? ⟨d, 2, none⟩ = some (.bool o) ∧ w.cell? ⟨d, 3, none⟩ = some (.int .i64 wr) := by
  refine ⟨?_, ?_, ?_, ?_⟩ <;> rw [cell_of_row _ _ _ _ _ _ h.box] <;> rfl
theorem rowL_length (L : List ByteArray) (h : ∀ x ∈ L, x.size = 64) : (rowL L).length = 64 * L.length := by
  induction L with
  | nil => rfl
  | cons a L ih =>
    rw [rowL, List.flatMap_cons, List.length_append, Lib.strCells_length, h a (List.mem_cons_self), ← rowL, ih (fun x hx => h x (List.mem_cons_of_mem _ hx)), List.length_cons]
    omega
theorem rowL_get (L : List ByteArray) (h : ∀ x ∈ L, x.size = 64) (k : Nat) (s : ByteArray) (hk : L[k]? = some s) (i : Nat) (hi : i < 64) : (rowL L)[k * 64 + i]? = (Lib.strCells s)[i]? := by
  induction L generalizing k with
  | nil => simp at hk
  | cons a L ih =>
    have ha := h a (List.mem_cons_self)
    rw [rowL, List.flatMap_cons, ← rowL]
    cases k with
    | zero =>
      simp only [List.getElem?_cons_zero, Option.some.injEq] at hk
      subst hk
      rw [Nat.zero_mul, Nat.zero_add, List.getElem?_append_left (by rw [Lib.strCells_length]; omega)]
    | succ k =>
      rw [List.getElem?_cons_succ] at hk
      rw [List.getElem?_append_right (by rw [Lib.strCells_length]; omega), Lib.strCells_length, ha, ← ih (fun x hx => h x (List.mem_cons_of_mem _ hx)) k hk]
      congr 1
      omega
theorem rowL_set (L : List ByteArray) (h : ∀ x ∈ L, x.size = 64) (k : Nat) (hk : k < L.length) (s : ByteArray) (hs : s.size = 64) : splice (rowL L) (k * 64) (Lib.strCells s) = rowL (L.set k s) := by
  induction L generalizing k with
  | nil => simp at hk
  | cons a L ih =>
    have ha := h a (List.mem_cons_self)
    have hal : (Lib.strCells a).length = 64 := by rw [Lib.strCells_length, ha]
    have hsl : (Lib.strCells s).length = 64 := by rw [Lib.strCells_length, hs]
    cases k with
    | zero =>
      simp only [List.set_cons_zero, rowL, List.flatMap_cons, splice, Nat.zero_mul, List.take_zero, List.nil_append, Nat.zero_add]
      rw [List.drop_append_of_le_length (by omega), List.drop_eq_nil_of_le (by omega), List.nil_append]
    | succ k =>
      have := ih (fun x hx => h x (List.mem_cons_of_mem _ hx)) k (by simpa using hk)
      simp only [List.set_cons_succ, rowL, List.flatMap_cons, splice] at this ⊢
      rw [← this, List.take_append, List.drop_append, hal, hsl, List.take_of_length_le (by omega), List.drop_eq_nil_of_le (by omega), List.nil_append, List.append_assoc]
      rw [show (k + 1) * 64 - 64 = k * 64 by omega, show (k + 1) * 64 + 64 - 64 = k * 64 + 64 by omega]
theorem strOf_cells (s : ByteArray) : strOfNums (s.data.toList.map fun b => (b.toNat : Int)) = s := by
  have h : (strOfNums (s.data.toList.map fun b => (b.toNat : Int))).data.toList = s.data.toList := by
    rw [strOfNums_data, List.map_map]
    conv => rhs; rw [← List.map_id s.data.toList]
    exact List.map_congr_left fun b _ => by simp
  generalize strOfNums (s.data.toList.map fun b => (b.toNat : Int)) = t at *
  obtain ⟨⟨x⟩⟩ := t
  obtain ⟨⟨y⟩⟩ := s
  have h2 : x = y := h
  rw [h2]
theorem conv_blk {d g : Nat} {L : List ByteArray} {f wr : Int} {o : Bool} {w : World} (h : DevAt d g L f o wr w) (k : Nat) (s : ByteArray) (hk : L[k]? = some s) (c : Nat) :
    (convert 68 9 (.slice (some ⟨g, k * 64, none⟩) 64 c)).run Try.prog w = .ok (.string s) w := by
  have hs := h.siz s (List.mem_of_getElem? hk)
  have := run_convert_bytes_arg w 68 5 Try.underlying68 Try.underlying5 g (k * 64) 64 c (s.data.toList.map fun b => (b.toNat : Int)) (by simpa using hs) (fun i hi => by
    rw [cell_of_row _ _ _ _ _ _ h.row, List.getElem?_toArray, rowL_get L h.siz k s hk i hi]
    have h2 : i < s.data.toList.length := by simpa using (show i < s.size by omega)
    simp [Lib.strCells, List.getD_eq_getElem?_getD, List.getElem?_eq_getElem h2]) 9 Try.underlying9
  rw [this, strOf_cells]
theorem Size_dev (d g : Nat) (L : List ByteArray) (f wr : Int) (o : Bool) (w : World) (h : DevAt d g L f o wr w) : Calls Try.prog 69 #[.pointer (some ⟨d, 0, none⟩)] w fun e w' => e = .returned (.int .i64 (L.length : Int)) ∧ w' = w := by
  obtain ⟨c0, c1, c2, c3⟩ := h.cells
  clear h
  go_enter Try.func69, Try.ntmps69
  go_wp2_with (fail)
  go_ret
  exact ⟨rfl, rfl⟩
theorem has_dev (d g : Nat) (L : List ByteArray) (f wr : Int) (o : Bool) (k : Int) (w : World) (h : DevAt d g L f o wr w) : Calls Try.prog 76 #[.pointer (some ⟨d, 0, none⟩), .int .i64 k] w fun e w' => e = .returned (.bool (decide (0 ≤ k) && decide (k < L.length))) ∧ w' = w := by
  have HD := Aside0.mk h
  clear h
  by_cases h0 : 0 ≤ k
  · have d0 : decide (0 ≤ k) = true := decide_eq_true h0
    clear h0
    go_enter Try.func76, Try.ntmps76
    go_wp2_with (fail)
    refine (Size_dev d g L f wr o _ HD.out).mono ?_
    rintro e w' ⟨rfl, rfl⟩
    go_wp2_with (fail)
    go_ret
    exact ⟨by rw [d0]; rfl, rfl⟩
  · have d0 : decide (0 ≤ k) = false := decide_eq_false h0
    clear h0
    go_enter Try.func76, Try.ntmps76
    go_wp2_with (fail)
    go_ret
    exact ⟨by rw [d0]; rfl, rfl⟩
theorem Read_dev (d g : Nat) (L : List ByteArray) (f wr : Int) (k : Nat) (s : ByteArray) (w : World) (h : DevAt d g L f false wr w) (hk : L[k]? = some s) : Calls Try.prog 44 #[.pointer (some ⟨d, 0, none⟩), .int .i64 (k : Int)] w fun e w' => e = .returned (.tuple #[.string s, .int .i64 0]) ∧ w' = w := by
  obtain ⟨c0, c1, c2, c3⟩ := h.cells
  have HD := Aside0.mk h
  have hl : k < L.length := (List.getElem?_eq_some_iff.1 hk).1
  have hh := has_dev d g L f wr false k w h
  rw [decide_eq_true (by omega : (0 : Int) ≤ k), decide_eq_true (by omega : (k : Int) < L.length)] at hh
  have HH := Aside0.mk hh
  have hcv := conv_blk h k s hk 64
  have e1 := eq_true hl
  clear h hk hh hl
  go_enter Try.func44, Try.ntmps44
  go_wp2_with (fail)
  refine HH.out.mono ?_
  rintro e w' ⟨rfl, rfl⟩
  go_wp2_with (fail)
  go_ret2
  exact ⟨rfl, rfl⟩
theorem Off_dev (d g : Nat) (L : List ByteArray) (f wr : Int) (o : Bool) (w : World) (h : DevAt d g L f o wr w) : Calls Try.prog 70 #[.pointer (some ⟨d, 0, none⟩)] w fun e w' => e = .returned (.bool o) ∧ w' = w := by
  obtain ⟨c0, c1, c2, c3⟩ := h.cells
  clear h
  go_enter Try.func70, Try.ntmps70
  go_wp2_with (fail)
  go_ret
  exact ⟨rfl, rfl⟩
theorem FrV.set (d g : Nat) (w : World) (j : Nat) (v : Value) : FrV d g w (w.setCell ⟨d, j, none⟩ v) := ⟨rfl, rfl, rfl, by simp [World.setCell], fun k _ h1 _ => Below.heap_setCell w ⟨d, j, none⟩ v k h1⟩
theorem FrV.row (d g : Nat) (w : World) (cs : Array Value) : FrV d g w (w.setRow g cs) := ⟨rfl, rfl, rfl, by simp [World.setRow], fun k _ _ h2 => setRow_other w g k cs h2⟩
theorem DevAt.set1 {d g : Nat} {L : List ByteArray} {f wr : Int} {o : Bool} {w : World} (h : DevAt d g L f o wr w) (x : Int) : DevAt d g L x o wr (w.setCell ⟨d, 1, none⟩ (.int .i64 x)) :=
  ⟨blk_put h.box 1 _ rfl, (Below.heap_setCell w ⟨d, 1, none⟩ _ g h.ne.symm).trans h.row, h.siz⟩
theorem DevAt.set2 {d g : Nat} {L : List ByteArray} {f wr : Int} {o : Bool} {w : World} (h : DevAt d g L f o wr w) (x : Bool) : DevAt d g L f x wr (w.setCell ⟨d, 2, none⟩ (.bool x)) :=
  ⟨blk_put h.box 2 _ rfl, (Below.heap_setCell w ⟨d, 2, none⟩ _ g h.ne.symm).trans h.row, h.siz⟩
theorem DevAt.set3 {d g : Nat} {L : List ByteArray} {f wr : Int} {o : Bool} {w : World} (h : DevAt d g L f o wr w) (x : Int) : DevAt d g L f o x (w.setCell ⟨d, 3, none⟩ (.int .i64 x)) :=
  ⟨blk_put h.box 3 _ rfl, (Below.heap_setCell w ⟨d, 3, none⟩ _ g h.ne.symm).trans h.row, h.siz⟩
theorem DevAt.copy {d g : Nat} {L : List ByteArray} {f wr : Int} {o : Bool} {w : World} (h : DevAt d g L f o wr w) (k : Nat) (s : ByteArray) (hs : s.size = 64) : DevAt d g (L.set k s) f o wr (w.setRow g (rowL (L.set k s)).toArray) :=
  ⟨by rw [List.length_set]; exact (setRow_other w g d _ h.ne).trans h.box, setRow_heap w g _ _ _ _ h.row, fun x hx => by
    rcases List.mem_or_eq_of_mem_set hx with q | q
    · exact h.siz x q
    · rw [q, hs]⟩
theorem copy_blk {d g : Nat} {L : List ByteArray} {f wr : Int} {o : Bool} {w : World} (h : DevAt d g L f o wr w) (k : Nat) (hk : k < L.length) (s : ByteArray) (hs : s.size = 64) (ty : TypeId) (c : Nat) :
    (Builtin.copy_ #[68, 9] ty #[.slice (some ⟨g, k * 64, none⟩) 64 c, .string s]).run Try.prog w = .ok (.int .i64 64) (w.setRow g (rowL (L.set k s)).toArray) := by
  have hl := rowL_length L h.siz
  have := Lib.run_copy_row_string (P := Try.prog) w 68 9 ty 5 g (k * 64) 64 c s (rowL L).toArray 106 Try.underlying68 (by kernel_rfl) h.row (by omega) (by rw [List.size_toArray, hl]; omega)
  rw [this, ← rowL_set L h.siz k hk s hs]
  unfold splice
  rw [Lib.strCells_length, hs]
  simp only [List.append_assoc]
  rfl
set_option maxRecDepth 100000 in
theorem Write_on (d g : Nat) (L : List ByteArray) (f wr : Int) (k : Nat) (s : ByteArray) (w : World) (h : DevAt d g L f false wr w) (hk : k < L.length) (hs : s.size = 64) (hf : f ≠ 0) : Calls Try.prog 42 #[.pointer (some ⟨d, 0, none⟩), .int .i64 (k : Int), .string s] w fun e w' => e = .returned (.int .i64 0) ∧ (∃ wr', DevAt d g (L.set k s) (if 0 < f then wrap64 (f - 1) else f) false wr' w') ∧ FrV d g w w' := by
  have D1 := h.set2 false
  have D2 := D1.copy k s hs
  have D3 := D2.set3 (wrap64 (wr + 1))
  have F3 : Aside0 (FrV d g w _) := ⟨(FrV.set d g w 2 (.bool false)).trans ((FrV.row d g _ (rowL (L.set k s)).toArray).trans (FrV.set d g _ 3 (.int .i64 (wrap64 (wr + 1)))))⟩
  have hcp := copy_blk D1 k hk s hs 3 64
  obtain ⟨c0, c1, c2, c3⟩ := h.cells
  obtain ⟨p0, p1, p2, p3⟩ := D1.cells
  obtain ⟨q0, q1, q2, q3⟩ := D2.cells
  obtain ⟨r0, r1, r2, r3⟩ := D3.cells
  have f2 := blk_thaw h.box 2
  have f3 := blk_thaw D2.box 3
  have f1 := blk_thaw D3.box 1
  have hh := has_dev d g L f wr false k w h
  rw [decide_eq_true (by omega : (0 : Int) ≤ k), decide_eq_true (by omega : (k : Int) < L.length)] at hh
  have HH := Aside0.mk hh
  have e1 := eq_true hk
  have e2 : ((s.size : Int) != 64) = false := by rw [bne_eq_false_iff_eq]; omega
  have e3 : (f == 0) = false := by rw [beq_eq_false_iff_ne]; exact hf
  have HD3 := Aside0.mk D3
  clear h hk hs hh D1 D2 D3 hf p1 p3 q0 q1 q2 r0 r2 r3
  by_cases h0 : 0 < f
  · have d0 : decide (0 < f) = true := decide_eq_true h0
    rw [if_pos h0]
    clear h0
    go_enter Try.func42, Try.ntmps42
    go_wp2_with (fail)
    refine HH.out.mono ?_
    rintro e w' ⟨rfl, rfl⟩
    go_wp2_with (fail)
    go_ret
    exact ⟨rfl, ⟨_, HD3.out.set1 _⟩, F3.out.trans (FrV.set d g _ 1 _)⟩
  · have d0 : decide (0 < f) = false := decide_eq_false h0
    rw [if_neg h0]
    clear h0
    go_enter Try.func42, Try.ntmps42
    go_wp2_with (fail)
    refine HH.out.mono ?_
    rintro e w' ⟨rfl, rfl⟩
    go_wp2_with (fail)
    go_ret
    exact ⟨rfl, ⟨_, HD3.out⟩, F3.out⟩
set_option maxRecDepth 100000 in
theorem Write_cut (d g : Nat) (L : List ByteArray) (f wr : Int) (o : Bool) (k : Nat) (s : ByteArray) (w : World) (h : DevAt d g L f o wr w) (hk : k < L.length) (hs : s.size = 64) (hf : o = true ∨ f = 0) : Calls Try.prog 42 #[.pointer (some ⟨d, 0, none⟩), .int .i64 (k : Int), .string s] w fun e w' => e = .returned (.int .i64 170) ∧ DevAt d g L (-1) true wr w' ∧ FrV d g w w' := by
  have D1 := h.set2 true
  have D2 := D1.set1 (-1)
  have F3 : Aside0 (FrV d g w _) := ⟨(FrV.set d g w 2 (.bool true)).trans (FrV.set d g _ 1 (.int .i64 (-1)))⟩
  obtain ⟨c0, c1, c2, c3⟩ := h.cells
  obtain ⟨p0, p1, p2, p3⟩ := D1.cells
  have f2 := blk_thaw h.box 2
  have f1 := blk_thaw D1.box 1
  have hh := has_dev d g L f wr o k w h
  rw [decide_eq_true (by omega : (0 : Int) ≤ k), decide_eq_true (by omega : (k : Int) < L.length)] at hh
  have HH := Aside0.mk hh
  have e2 : ((s.size : Int) != 64) = false := by rw [bne_eq_false_iff_eq]; omega
  have HD2 := Aside0.mk D2
  clear h hk hs hh D1 D2 c0 p0 p1 p3 c3
  cases o with
  | true =>
    clear hf
    go_enter Try.func42, Try.ntmps42
    go_wp2_with (fail)
    refine HH.out.mono ?_
    rintro e w' ⟨rfl, rfl⟩
    go_wp2_with (fail)
    go_ret
    exact ⟨rfl, HD2.out, F3.out⟩
  | false =>
    have e3 : (f == 0) = true := by rw [beq_iff_eq]; simpa using hf
    clear hf
    go_enter Try.func42, Try.ntmps42
    go_wp2_with (fail)
    refine HH.out.mono ?_
    rintro e w' ⟨rfl, rfl⟩
    go_wp2_with (fail)
    go_ret
    exact ⟨rfl, HD2.out, F3.out⟩
theorem On_dev (d g : Nat) (L : List ByteArray) (f wr : Int) (o : Bool) (w : World) (h : DevAt d g L f o wr w) (hL : 0 < L.length) : Calls Try.prog 46 #[.pointer (some ⟨d, 0, none⟩)] w fun e w' => e = .returned (.int .i64 0) ∧ DevAt d g L (-1) false wr w' ∧ FrV d g w w' := by
  have D1 := h.set2 false
  have D2 := D1.set1 (-1)
  have F3 : Aside0 (FrV d g w _) := ⟨(FrV.set d g w 2 (.bool false)).trans (FrV.set d g _ 1 (.int .i64 (-1)))⟩
  obtain ⟨c0, c1, c2, c3⟩ := h.cells
  obtain ⟨p0, p1, p2, p3⟩ := D1.cells
  have f2 := blk_thaw h.box 2
  have f1 := blk_thaw D1.box 1
  have HH := Aside0.mk (Size_dev d g L f wr o w h)
  have e2 : ((L.length : Int) == 0) = false := by rw [beq_eq_false_iff_ne]; omega
  have HD2 := Aside0.mk D2
  clear h hL D1 D2 c0 c1 c3 p0 p2 p3
  go_enter Try.func46, Try.ntmps46
  go_wp2_with (fail)
  refine HH.out.mono ?_
  rintro e w' ⟨rfl, rfl⟩
  go_wp2_with (fail)
  go_ret
  exact ⟨rfl, HD2.out, F3.out⟩
def zblk : ByteArray := ⟨Array.replicate 64 0⟩
theorem zblk_size : zblk.size = 64 := by simp [zblk, ByteArray.size]
theorem zblk_cells : Lib.strCells zblk = List.replicate 64 (.int .u8 0) := by simp [Lib.strCells, zblk]
theorem rowL_zero : ∀ n : Nat, rowL (List.replicate n zblk) = List.replicate (n * 64) (.int .u8 0)
  | 0 => by simp [rowL]
  | n + 1 => by rw [List.replicate_succ, rowL, List.flatMap_cons, ← rowL, rowL_zero n, zblk_cells, List.replicate_append_replicate]; congr 1; omega
theorem info64 : (Try.prog.info? 106).map (fun i => (i.zero, i.size, i.bytes)) = some (some (.agg (Array.replicate 64 (.int .u8 0))), 64, 64) := by kernel_rfl
set_option maxRecDepth 100000 in
theorem make_blks (n : Nat) (hn : n ≤ 4096) (w : World) : (Instr.makeSlice 57 (.int .i64 (n : Int)) (.int .i64 (n : Int))).run Try.prog w = .ok (.slice (some ⟨w.heap.size, 0, none⟩) n n) (w.alloc (.cells (rowL (List.replicate n zblk)).toArray 106)) := by
  obtain ⟨i, hi, hzz⟩ := Option.map_eq_some_iff.1 info64
  simp only [Prod.mk.injEq] at hzz
  obtain ⟨hz, hs, hb⟩ := hzz
  have := run_make (P := Try.prog) w 57 106 i _ Try.underlying57 hi hz .i64 .i64 n n (by omega) (Int.le_refl _) (by rw [hb]; omega) (by omega)
  rw [this, hs, Int.toNat_natCast]
  congr 3
  rw [rowL_zero]
  show madeCells (Array.replicate 64 (Value.int .u8 0)) (n * 64) = _
  apply Array.ext'
  unfold madeCells
  rw [Array.toList_map, Array.toList_range]
  apply List.ext_getElem
  · simp
  · intro j h1 h2
    simp only [List.getElem_map, List.getElem_range, Array.size_replicate]
    rw [getElem!_pos _ _ (by rw [Array.size_replicate]; omega)]
    simp
theorem stoNew_at {W : World} {k : Nat} (h : W.heap.size = k) (o : Obj) : (W.alloc o).heap[k]? = some o := by subst h; exact heap_alloc_new W o
set_option maxRecDepth 100000 in
theorem New_dev (n : Nat) (h1 : 1 ≤ n) (hn : n ≤ 4096) (w : World) : Calls Try.prog 32 #[.int .i64 (n : Int)] w fun e w' => e = .returned (.tuple #[.pointer (some ⟨w.heap.size + 1, 0, none⟩), .int .i64 0]) ∧ DevAt (w.heap.size + 1) w.heap.size (List.replicate n zblk) (-1) false 0 w' ∧ Below w.heap.size w w' := by
  have hmk := make_blks n hn w
  have d1 : decide ((n : Int) < 1) = false := decide_eq_false (by omega)
  have d2 : decide (4096 < (n : Int)) = false := decide_eq_false (by omega)
  clear h1 hn
  generalize hR : rowL (List.replicate n zblk) = R at hmk
  have HR := Aside0.mk hR
  clear hR
  go_enter Try.func32, Try.ntmps32
  go_wp2_with (fail)
  go_ret2
  refine ⟨rfl, ⟨?_, ?_, fun x hx => ?_⟩, below_alloc (below_alloc (Below.refl _ _) _) _⟩
  · rw [List.length_replicate]
    exact stoNew_at (by simp) _
  · rw [HR.out]
    exact blk_alloc (blk_new w _) _
  · rw [(List.mem_replicate.1 hx).2]
    exact zblk_size
end Go.Proofs.Ytbkbganflnemeaa.Pr
end

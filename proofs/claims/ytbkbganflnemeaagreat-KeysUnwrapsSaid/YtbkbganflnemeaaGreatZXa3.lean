/- Joined texts (pack.py): what the statement's proof needs, part a3. No condition. -/
import Derived.Below
import Derived.Deep.Draws
import Derived.Deep.AppendLies
import Derived.Maps.AppendAt
import Derived.OwnWalk
import Derived.Laws.BytesArg
import Derived.Laws.MakeOwn
import Derived.Laws.OwnMore
import Derived.Deep.OwnRows
import Derived.Tactics
import Derived.Lib.ConvBytes
import Derived.Laws.Slices
import Derived.WalkKit
import Derived.KernelRfl
import Derived.RowKit3
import Derived.Deep.LoopGhost
import Derived.Deep.QuietTactic
import Derived.BigQuiet
import Derived.WideLaws
import Derived.Deep.DeepCutAuto
import Derived.Deep.CutBlock
import Derived.Deep.RegionHeld3
import Derived.Laws.Rows
import Derived.Lib.AppendStr
import Derived.ArgAppend
import Derived.Laws.IdiomCopy
import Derived.RowKit
import Derived.OrdersHeld
import Derived.Laws.BitsLemmas
import Derived.Laws.StructEq
import Derived.Test.YtbkbganflnemeaaGreatRows
import Derived.ProofKit
import Derived.OpenShut
import Derived.ShutString
import Derived.ChangeOld
import Derived.Shelf.Strings.Builder1
import Derived.Shelf.Strings.Builder2
import Derived.Shelf.Strings.OnBuilder
import Derived.Shelf.Strings.BuilderF
import Derived.Shelf.Strings.Prefix
import Derived.Shelf.Bits.Mul64
import Derived.Shelf.Strings.Repeat
import Derived.Test.YtbkbganflnemeaaGreatProg
import Derived.Deep.RegionLaw
import Derived.StillTailTactics
import Derived.Deep.Light
import Derived.Deep.RegionHeldLaw
import Derived.Deep.DrawnRows
import Derived.IntWalk
import Derived.Deep.WholeRow
import Derived.Laws.CopyOwn
import Derived.SizedLaws
import Derived.Test.YtbkbganflnemeaaGreatZXa1
import Derived.Test.YtbkbganflnemeaaGreatZXa2
set_option linter.unusedVariables false
set_option linter.unusedSimpArgs false
section
namespace Go.Proofs.YtbkbganflnemeaaGreat.Pr
open Go.RowKit Go.Proofs.YtbkbganflnemeaaGreatW.PrintWords Go.Proofs.YtbkbganflnemeaaGreatW.PrintLast Go.Proofs.YtbkbganflnemeaaGreatW.PrintMore
attribute [local go_sem] max2_int min2_int max_two min_two max_three min_three max_four min_four
mutual
def samphireref03_turned.j0 : Nat → ByteArray → Int → Option (ByteArray)
 | 0, _, _ => none
 | k + 1, x0, x1 => samphireref03_turned.l0 k x0 x1 ([] : List Int) 0
def samphireref03_turned.l0 : Nat → ByteArray → Int → List Int → Int → Option (ByteArray)
 | 0, _, _, _, _ => none
 | k + 1, x0, x1, x5, x6 => if x6 < 64 then (if x6 < (x0.size : Int) then (if 0 ≤ x6 then (if x5.length < 140737488355328 then (samphireref03_turned.l0 k x0 x1 (x5 ++ [Go.bits .xor .u8 (bt x0 x6) x1]) (wrap64 (x6 + 1))) else (none)) else (none)) else (if x5.length < 140737488355328 then (samphireref03_turned.l0 k x0 x1 (x5 ++ [Go.bits .xor .u8 0 x1]) (wrap64 (x6 + 1))) else (none))) else (some (strOfNums x5))
end
def samphireref03_turned.f (k : Nat) (a0 : ByteArray) (a1 : Int) : Option (ByteArray) := if (a0.size : Int) > 64 then ((samphireref02_Sum.f a0).bind fun t258 => (samphireref03_turned.j0 k t258 a1)) else (samphireref03_turned.j0 k a0 a1)
theorem samphireref03_turned.mono_l : ∀ k, (∀ y0 y1, LeO (samphireref03_turned.j0 k y0 y1) (samphireref03_turned.j0 (k + 1) y0 y1)) ∧ (∀ y0 y1 y2 y3, LeO (samphireref03_turned.l0 k y0 y1 y2 y3) (samphireref03_turned.l0 (k + 1) y0 y1 y2 y3))
  | 0 => ⟨fun _ _ r h => by simp [samphireref03_turned.j0] at h, fun _ _ _ _ r h => by simp [samphireref03_turned.l0] at h⟩
  | k + 1 => by
    obtain ⟨ih0, ih1⟩ := samphireref03_turned.mono_l k; refine ⟨?_, ?_⟩
    · intro y0 y1; unfold samphireref03_turned.j0
      repeat' first
      | (with_reducible exact ih0 _ _)
      | (with_reducible exact ih1 _ _ _ _)
      | (with_reducible exact LeO.refl _)
      | (with_reducible exact LeO.none _)
      | (with_reducible refine LeO.ite ?_ ?_)
      | (with_reducible refine LeO.bind ?_ (fun _ => ?_))
      | exact ih0 _ _
      | exact ih1 _ _ _ _
      | exact LeO.none _
      | refine LeO.ite ?_ ?_
      | refine LeO.bind ?_ (fun _ => ?_)
    · intro y0 y1 y2 y3; unfold samphireref03_turned.l0
      repeat' first
      | (with_reducible exact ih0 _ _)
      | (with_reducible exact ih1 _ _ _ _)
      | (with_reducible exact LeO.refl _)
      | (with_reducible exact LeO.none _)
      | (with_reducible refine LeO.ite ?_ ?_)
      | (with_reducible refine LeO.bind ?_ (fun _ => ?_))
      | exact ih0 _ _
      | exact ih1 _ _ _ _
      | exact LeO.none _
      | refine LeO.ite ?_ ?_
      | refine LeO.bind ?_ (fun _ => ?_)
theorem samphireref03_turned.mono : ∀ a0 a1 k, LeO (samphireref03_turned.f k a0 a1) (samphireref03_turned.f (k + 1) a0 a1) := by
 intro a0 a1 k; obtain ⟨ih0, ih1⟩ := samphireref03_turned.mono_l k; unfold samphireref03_turned.f
 repeat' first
   | (with_reducible exact ih0 _ _)
   | (with_reducible exact ih1 _ _ _ _)
   | (with_reducible exact LeO.refl _)
   | (with_reducible exact LeO.none _)
   | (with_reducible refine LeO.ite ?_ ?_)
   | (with_reducible refine LeO.bind ?_ (fun _ => ?_))
   | exact ih0 _ _
   | exact ih1 _ _ _ _
   | exact LeO.none _
   | refine LeO.ite ?_ ?_
   | refine LeO.bind ?_ (fun _ => ?_)
set_option maxHeartbeats 8000000 in
set_option maxRecDepth 100000 in
theorem samphireref03_turned.calls (k : Nat) (a0 : ByteArray) (a1 : Int) (r : ByteArray) (w : World) (h : samphireref03_turned.f k a0 a1 = some r) :
    Calls Tryz.prog 108 #[.string a0, .int .u8 a1] w fun e w' => e = .returned (.string r) ∧ Below w.heap.size w w' := by
  have HB := Aside0.mk (Below.refl w.heap.size w); have H : (if (a0.size : Int) > 64 then ((samphireref02_Sum.f a0).bind fun t258 => (samphireref03_turned.j0 k t258 a1)) else (samphireref03_turned.j0 k a0 a1)) = some r := h; clear h; have HC3 := Aside0.mk H; clear H; go_enter Tryz.func108, Tryz.ntmps108
  go_upto_if 10 with (fail)
  go_cut [0] (fun v0 wc => ∃ (kq : Nat) (x0_2 : ByteArray), v0 = .string x0_2 ∧ Aside0 (samphireref03_turned.j0 kq x0_2 a1 = some r) ∧ Aside0 (kq ≤ k) ∧ Aside0 (Below w.heap.size w wc))
  case first =>
    have H := HC3.out; clear HC3; by_cases c4 : (a0.size : Int) > 64
    · rw [if_pos c4] at H; have c4b0 : decide (64 < (a0.size : Int)) = true := decide_eq_true c4; have c4b1 : decide (64 < a0.size) = true := decide_eq_true (by omega); clear c4
      (first | rw [c4b0] | (simp only [i64_w, i32_w]; rw [c4b0]) | skip)
      replace H := Option.bind_eq_some_iff.mp H; obtain ⟨t258, A50, H⟩ := H; have A5 := Aside0.mk A50; clear A50; have H' := Aside0.mk H; clear H; go_wp2_with (first | ((with_reducible refine gate_callee (f := 107) rfl ?_); refine gl_ 12 Tryz.func107 #[.string a0] ?_; (with_reducible refine (samphireref02_Sum.calls a0 t258 _ A5.out).mono ?_); rintro e w6 ⟨rfl, hb⟩; refine ⟨_, rfl, ?_⟩; replace HB := Aside0.mk (below_step hb_ hb)))
      go_meet
      case rel => exact ⟨_, (t258), rz_, H', ⟨by first | omega | exact Nat.le_refl _⟩, ⟨hb_⟩⟩
    · rw [if_neg c4] at H; have c4b0 : decide (64 < (a0.size : Int)) = false := decide_eq_false c4; have c4b1 : decide (64 < a0.size) = false := decide_eq_false (by omega); clear c4
      (first | rw [c4b0] | (simp only [i64_w, i32_w]; rw [c4b0]) | skip)
      have H' := Aside0.mk H; clear H; go_wp2; go_meet
      case rel => exact ⟨_, (a0), rz_, H', ⟨by first | omega | exact Nat.le_refl _⟩, ⟨hb_⟩⟩
  case rest =>
    clear HC3; obtain ⟨kq, x0_2, rfl, HA, HJ2, HB⟩ := hcut; cases kq with
    | zero => exact absurd HA.out (by simp [samphireref03_turned.j0])
    | succ kj2 =>
      have H := HA.out; clear HA; simp only [samphireref03_turned.j0] at H; have H' := Aside0.mk H; clear H; go_wp2; go_loopg [5, 6] kj2 (fun kq v5 v6 w' => ∃ (x5_2 : List Int) (x6_2 : Int), v6 = .int .i64 x6_2 ∧ Aside0 (samphireref03_turned.l0 kq x0_2 a1 x5_2 x6_2 = some r) ∧ Aside0 (kq ≤ kj2) ∧ Aside0 (Kd.R (Kd.int .u8) 5 w' w.heap.size (fun _ => True) v5 x5_2) ∧ Aside0 (Below w.heap.size w w'))
      case atStart => exact ⟨(([] : List Int)), (0), rz_, H', ⟨Nat.le_refl _⟩, ⟨by first | exact Kd.R_nil _ _ _ _ _ | exact Kd.N_nil _ _ _ _ _ | exact Kd.V_nil _ _ _ _ _ | exact Kd.Q_nil _ _ _ _ _ | exact Kd.S_nil _ _ _ _ _⟩, ⟨hb_⟩⟩
      case round =>
        clear H'; obtain ⟨x5_2, x6_2, rfl, HA, HK2, HO_5, HB⟩ := hrel; cases gk with
        | zero => exact absurd HA.out (by simp [samphireref03_turned.l0])
        | succ k2 =>
          have H := HA.out; clear HA; simp only [samphireref03_turned.l0] at H; by_cases c7 : x6_2 < 64
          · rw [if_pos c7] at H; have c7b0 : decide (x6_2 < 64) = true := decide_eq_true c7; clear c7; by_cases c8 : x6_2 < (x0_2.size : Int)
            · rw [if_pos c8] at H; have c8b0 : decide (x6_2 < (x0_2.size : Int)) = true := decide_eq_true c8; clear c8; by_cases c9 : 0 ≤ x6_2
              · rw [if_pos c9] at H; have c9b0 : decide (0 ≤ x6_2) = true := decide_eq_true c9; clear c9; by_cases c11 : x5_2.length < 140737488355328
                · rw [if_pos c11] at H; have LMc11 := Aside0.mk c11; clear c11; obtain ⟨y259, hy259⟩ : ∃ y_ : List Int, y_ = (x5_2 ++ [Go.bits .xor .u8 (bt x0_2 x6_2) a1]) := ⟨_, rfl⟩; replace H : (samphireref03_turned.l0 k2 x0_2 a1 y259 (wrap64 (x6_2 + 1))) = some r := by first | (rw [hy259]; with_reducible exact H) | (have H2_ := (Option.bind_some _ _).symm.trans H; rw [hy259]; with_reducible exact H2_) | (have H2_ := (Option.bind_some _ _).symm.trans H; with_reducible exact H2_) | with_reducible exact H | (rw [hy259]; exact H) | exact H
                  have Ny259 := Aside0.mk hy259; clear hy259; have H' := Aside0.mk H; clear H; have p10 : 0 ≤ (x6_2 : Int) := of_decide_eq_true as_'; have q10 : x6_2 < (x0_2.size : Int) := of_decide_eq_true as_'; have hx10 := bt_at x0_2 x6_2; replace p10 := eq_true p10; replace q10 := eq_true q10; go_wp2_with (first | ((with_reducible refine gate_builtin (b := .append) (xs := #[.tmp 24, .tmp 28]) rfl ?_); at_builtin; refine Kd.R_append (Kd.int .u8) (w0 := w) w.heap.size rfl (.tmp 24) (.tmp 28) 68 5 (.int .u8 0) 1 rfl Tryz.underlying68 info5 rfl (by decide) (by omega) u5 x5_2 (Go.bits .xor .u8 (bt x0_2 x6_2) a1) [.int .u8 (Go.bits .xor .u8 (bt x0_2 x6_2) a1)] (fun _ => True) (fun _ => False) rfl rfl ?aP (fun _ hk => hk.elim) ?aF ?aO ?aB ?aS ?aL ?_; (case aP => exact rfl); (case aB => exact hb_); (case aF => exact (fun _ _ => trivial)); (case aO => exact (ra_ HO_5.out)); (case aS => exact (below_size hb_)); (case aL => have := LMc11.out; omega); intro v260 w12 ho hb hg hat; rw [← Ny259.out] at ho; replace HB := Aside0.mk (hb); have HO261 := Aside0.mk (ho); clear HO_5; clear ho hb hg hat))
                  go_roundg k2
                  case measure => have := HJ2.out; have := HK2.out; omega
                  case rel => exact ⟨(y259), (wrap64 (x6_2 + 1)), rz_, H', ⟨by have := HJ2.out; have := HK2.out; omega⟩, ⟨ra_ HO261.out⟩, ⟨hb_⟩⟩
                · rw [if_neg c11] at H; exact absurd H (by simp)
              · rw [if_neg c9] at H; exact absurd H (by simp)
            · rw [if_neg c8] at H; have c8b0 : decide (x6_2 < (x0_2.size : Int)) = false := decide_eq_false c8; clear c8; by_cases c13 : x5_2.length < 140737488355328
              · rw [if_pos c13] at H; have LMc13 := Aside0.mk c13; clear c13; obtain ⟨y262, hy262⟩ : ∃ y_ : List Int, y_ = (x5_2 ++ [Go.bits .xor .u8 0 a1]) := ⟨_, rfl⟩; replace H : (samphireref03_turned.l0 k2 x0_2 a1 y262 (wrap64 (x6_2 + 1))) = some r := by first | (rw [hy262]; with_reducible exact H) | (have H2_ := (Option.bind_some _ _).symm.trans H; rw [hy262]; with_reducible exact H2_) | (have H2_ := (Option.bind_some _ _).symm.trans H; with_reducible exact H2_) | with_reducible exact H | (rw [hy262]; exact H) | exact H
                have Ny262 := Aside0.mk hy262; clear hy262; have H' := Aside0.mk H; clear H; go_wp2_with (first | ((with_reducible refine gate_builtin (b := .append) (xs := #[.tmp 24, .tmp 28]) rfl ?_); at_builtin; refine Kd.R_append (Kd.int .u8) (w0 := w) w.heap.size rfl (.tmp 24) (.tmp 28) 68 5 (.int .u8 0) 1 rfl Tryz.underlying68 info5 rfl (by decide) (by omega) u5 x5_2 (Go.bits .xor .u8 0 a1) [.int .u8 (Go.bits .xor .u8 0 a1)] (fun _ => True) (fun _ => False) rfl rfl ?aP (fun _ hk => hk.elim) ?aF ?aO ?aB ?aS ?aL ?_; (case aP => exact rfl); (case aB => exact hb_); (case aF => exact (fun _ _ => trivial)); (case aO => exact (ra_ HO_5.out)); (case aS => exact (below_size hb_)); (case aL => have := LMc13.out; omega); intro v263 w14 ho hb hg hat; rw [← Ny262.out] at ho; replace HB := Aside0.mk (hb); have HO264 := Aside0.mk (ho); clear HO_5; clear ho hb hg hat))
                go_roundg k2
                case measure => have := HJ2.out; have := HK2.out; omega
                case rel => exact ⟨(y262), (wrap64 (x6_2 + 1)), rz_, H', ⟨by have := HJ2.out; have := HK2.out; omega⟩, ⟨ra_ HO264.out⟩, ⟨hb_⟩⟩
              · rw [if_neg c13] at H; exact absurd H (by simp)
          · rw [if_neg c7] at H; have c7b0 : decide (x6_2 < 64) = false := decide_eq_false c7; clear c7; obtain rfl := Option.some.inj H; have hcv15 := own_string (P := Tryz.prog) Tryz.underlying68 Tryz.underlying5 Tryz.underlying9 (Kd.own_of_R HO_5.out); go_wp2; go_ret
            exact ⟨ew_, hb_⟩
end Go.Proofs.YtbkbganflnemeaaGreat.Pr
end

section
namespace Go.Proofs.YtbkbganflnemeaaGreat.Pr
open Go.RowKit Go.Proofs.YtbkbganflnemeaaGreatW.PrintWords Go.Proofs.YtbkbganflnemeaaGreatW.PrintLast Go.Proofs.YtbkbganflnemeaaGreatW.PrintMore
attribute [local go_sem] max2_int min2_int max_two min_two max_three min_three max_four min_four
def samphireref03_Mac.f (k : Nat) (a0 : ByteArray) (a1 : ByteArray) : Option (ByteArray) := (samphireref03_turned.f k a0 92).bind fun t265 => ((samphireref03_turned.f k a0 54).bind fun t266 => (if t266.size + a1.size ≤ 9223372036854775807 then ((samphireref02_Sum.f (t266 ++ a1)).bind fun t267 => (if t265.size + t267.size ≤ 9223372036854775807 then ((samphireref02_Sum.f (t265 ++ t267)).bind fun t268 => (some t268)) else (none))) else (none)))
theorem samphireref03_Mac.mono : ∀ a0 a1 k, LeO (samphireref03_Mac.f k a0 a1) (samphireref03_Mac.f (k + 1) a0 a1) := by
 intro a0 a1 k; unfold samphireref03_Mac.f
 repeat' first
   | (with_reducible exact samphireref03_turned.mono _ _ _)
   | (with_reducible exact LeO.refl _)
   | (with_reducible exact LeO.none _)
   | (with_reducible refine LeO.ite ?_ ?_)
   | (with_reducible refine LeO.bind ?_ (fun _ => ?_))
   | exact samphireref03_turned.mono _ _ _
   | exact LeO.none _
   | refine LeO.ite ?_ ?_
   | refine LeO.bind ?_ (fun _ => ?_)
set_option maxHeartbeats 8000000 in
set_option maxRecDepth 100000 in
theorem samphireref03_Mac.calls (k : Nat) (a0 : ByteArray) (a1 : ByteArray) (r : ByteArray) (w : World) (h : samphireref03_Mac.f k a0 a1 = some r) :
  Calls Tryz.prog 68 #[.string a0, .string a1] w fun e w' => e = .returned (.string r) ∧ Below w.heap.size w w' := by
 have HB := Aside0.mk (Below.refl w.heap.size w); have H : ((samphireref03_turned.f k a0 92).bind fun t265 => ((samphireref03_turned.f k a0 54).bind fun t266 => (if t266.size + a1.size ≤ 9223372036854775807 then ((samphireref02_Sum.f (t266 ++ a1)).bind fun t267 => (if t265.size + t267.size ≤ 9223372036854775807 then ((samphireref02_Sum.f (t265 ++ t267)).bind fun t268 => (some t268)) else (none))) else (none)))) = some r := h; clear h; replace H := Option.bind_eq_some_iff.mp H; obtain ⟨t265, A30, H⟩ := H; have A3 := Aside0.mk A30; clear A30; replace H := Option.bind_eq_some_iff.mp H; obtain ⟨t266, A40, H⟩ := H; have A4 := Aside0.mk A40; clear A40; by_cases c5 : t266.size + a1.size ≤ 9223372036854775807
 ·rw [if_pos c5] at H; have c5b0 := eq_true c5; have c5b1 : decide (t266.size + a1.size ≤ 9223372036854775807) = true := decide_eq_true c5; try have c5b2 : (9223372036854775807 < t266.size + a1.size) = False := eq_false (Nat.not_lt.2 c5)
  replace H := Option.bind_eq_some_iff.mp H; obtain ⟨t267, A60, H⟩ := H; have A6 := Aside0.mk A60; clear A60; by_cases c7 : t265.size + t267.size ≤ 9223372036854775807
  ·rw [if_pos c7] at H; have c7b0 := eq_true c7; have c7b1 : decide (t265.size + t267.size ≤ 9223372036854775807) = true := decide_eq_true c7; try have c7b2 : (9223372036854775807 < t265.size + t267.size) = False := eq_false (Nat.not_lt.2 c7)
   replace H := Option.bind_eq_some_iff.mp H; obtain ⟨t268, A80, H⟩ := H; have A8 := Aside0.mk A80; clear A80; obtain rfl := Option.some.inj H; go_enter Tryz.func68, Tryz.ntmps68
   go_wp2_with (first | ((with_reducible refine gate_callee (f := 108) rfl ?_); refine gl_ 6 Tryz.func108 #[.string a0, .int .u8 92] ?_; (with_reducible refine (samphireref03_turned.calls k a0 92 t265 _ A3.out).mono ?_); rintro e w9 ⟨rfl, hb⟩; refine ⟨_, rfl, ?_⟩; replace HB := Aside0.mk (below_step hb_ hb)) | ((with_reducible refine gate_callee (f := 108) rfl ?_); refine gl_ 8 Tryz.func108 #[.string a0, .int .u8 54] ?_; (with_reducible refine (samphireref03_turned.calls k a0 54 t266 _ A4.out).mono ?_); rintro e w10 ⟨rfl, hb⟩; refine ⟨_, rfl, ?_⟩; replace HB := Aside0.mk (below_step hb_ hb)) | ((with_reducible refine gate_callee (f := 107) rfl ?_); refine gl_ 11 Tryz.func107 #[.string (t266 ++ a1)] ?_; (with_reducible refine (samphireref02_Sum.calls (t266 ++ a1) t267 _ A6.out).mono ?_); rintro e w11 ⟨rfl, hb⟩; refine ⟨_, rfl, ?_⟩; replace HB := Aside0.mk (below_step hb_ hb)) | ((with_reducible refine gate_callee (f := 107) rfl ?_); refine gl_ 13 Tryz.func107 #[.string (t265 ++ t267)] ?_; (with_reducible refine (samphireref02_Sum.calls (t265 ++ t267) t268 _ A8.out).mono ?_); rintro e w12 ⟨rfl, hb⟩; refine ⟨_, rfl, ?_⟩; replace HB := Aside0.mk (below_step hb_ hb)))
   go_ret
   exact ⟨ew_, hb_⟩
  ·rw [if_neg c7] at H; exact absurd H (by simp)
 ·rw [if_neg c5] at H; exact absurd H (by simp)
def word_Same.l0 : Nat → ByteArray → ByteArray → Int → Int → Int → Option (Bool)
 | 0, _, _, _, _, _ => none
 | k + 1, x0, x1, x5, x13, x14 => if x14 < x13 then (if 0 ≤ x14 then (if x14 < (x0.size : Int) then (if x14 < (x1.size : Int) then (word_Same.l0 k x0 x1 (Go.bits .or .u8 x5 (Go.bits .xor .u8 (bt x0 x14) (bt x1 x14))) x13 (wrap64 (x14 + 1))) else (none)) else (none)) else (none)) else (some (x5 == 0))
def word_Same.f (k : Nat) (a0 : ByteArray) (a1 : ByteArray) : Option (Bool) := if (a0.size : Int) = (a1.size : Int) then (word_Same.l0 k a0 a1 0 (a0.size : Int) 0) else (some false)
theorem word_Same.mono_l : ∀ k, (∀ y0 y1 y2 y3 y4, LeO (word_Same.l0 k y0 y1 y2 y3 y4) (word_Same.l0 (k + 1) y0 y1 y2 y3 y4))
  | 0 => fun _ _ _ _ _ r h => by simp [word_Same.l0] at h
  | k + 1 => by
    have ih0 := word_Same.mono_l k
    · intro y0 y1 y2 y3 y4; unfold word_Same.l0
      repeat' first
      | (with_reducible exact ih0 _ _ _ _ _)
      | (with_reducible exact LeO.refl _)
      | (with_reducible exact LeO.none _)
      | (with_reducible refine LeO.ite ?_ ?_)
      | (with_reducible refine LeO.bind ?_ (fun _ => ?_))
      | exact ih0 _ _ _ _ _
      | exact LeO.none _
      | refine LeO.ite ?_ ?_
      | refine LeO.bind ?_ (fun _ => ?_)
set_option maxHeartbeats 8000000 in
set_option maxRecDepth 100000 in
theorem word_Same.calls (k : Nat) (a0 : ByteArray) (a1 : ByteArray) (r : Bool) (w : World) (h : word_Same.f k a0 a1 = some r) :
    Calls Tryz.prog 73 #[.string a0, .string a1] w fun e w' => e = .returned (.bool r) ∧ Drawn0 w w' := by
  have H : (if (a0.size : Int) = (a1.size : Int) then (word_Same.l0 k a0 a1 0 (a0.size : Int) 0) else (some false)) = some r := h; clear h; by_cases c3 : (a0.size : Int) = (a1.size : Int)
  · rw [if_pos c3] at H; have c3b0 : ((a0.size : Int) == (a1.size : Int)) = true := beq_iff_eq.mpr c3; have c3b1 : ((a0.size : Int) != (a1.size : Int)) = false := bne_eq_false_iff_eq.mpr c3; have c3b2 : (a0.size == a1.size) = true := by first | simpa using c3 | (simp at c3 ⊢; omega)
    clear c3; have H' := Aside0.mk H; clear H; go_enter Tryz.func73, Tryz.ntmps73
    go_wp2; repeat (go_quiet (fail); try go_wp2)
    go_loopg [5, 14] k (fun kq v5 v14 w' => ∃ (x5_1 : Int) (x14_1 : Int), v5 = .int .u8 x5_1 ∧ v14 = .int .i64 x14_1 ∧ Aside0 (word_Same.l0 kq a0 a1 x5_1 (a0.size : Int) x14_1 = some r) ∧ Aside0 (kq ≤ k) ∧ Drawn0 w w')
    case atStart => exact ⟨(0), (0), rz_, rz_, H', ⟨Nat.le_refl _⟩, dz_⟩
    case round =>
      clear H'; obtain ⟨x5_1, x14_1, rfl, rfl, HA, HK1, ⟨m1, rfl⟩⟩ := hrel; cases gk with
      | zero => exact absurd HA.out (by simp [word_Same.l0])
      | succ k1 =>
        have H := HA.out; clear HA; simp only [word_Same.l0] at H; by_cases c4 : x14_1 < (a0.size : Int)
        · rw [if_pos c4] at H; have c4b0 : decide (x14_1 < (a0.size : Int)) = true := decide_eq_true c4; clear c4; by_cases c5 : 0 ≤ x14_1
          · rw [if_pos c5] at H; have c5b0 : decide (0 ≤ x14_1) = true := decide_eq_true c5; clear c5; by_cases c6 : x14_1 < (a0.size : Int)
            · rw [if_pos c6] at H; have c6b0 : decide (x14_1 < (a0.size : Int)) = true := decide_eq_true c6; clear c6; by_cases c8 : x14_1 < (a1.size : Int)
              · rw [if_pos c8] at H; have c8b0 : decide (x14_1 < (a1.size : Int)) = true := decide_eq_true c8; clear c8; have H' := Aside0.mk H; clear H; have p7 : 0 ≤ (x14_1 : Int) := of_decide_eq_true as_'; have q7 : x14_1 < (a0.size : Int) := of_decide_eq_true as_'; have hx7 := bt_at a0 x14_1; replace p7 := eq_true p7; replace q7 := eq_true q7; have p9 : 0 ≤ (x14_1 : Int) := of_decide_eq_true as_'; have q9 : x14_1 < (a1.size : Int) := of_decide_eq_true as_'; have hx9 := bt_at a1 x14_1; replace p9 := eq_true p9; replace q9 := eq_true q9; go_wp2; repeat (go_quiet (fail); try go_wp2)
                go_roundg k1
                case measure => have := HK1.out; omega
                case rel => exact ⟨(Go.bits .or .u8 x5_1 (Go.bits .xor .u8 (bt a0 x14_1) (bt a1 x14_1))), (wrap64 (x14_1 + 1)), rz_, rz_, H', ⟨by have := HK1.out; omega⟩, dz_⟩
              · rw [if_neg c8] at H; exact absurd H (by simp)
            · rw [if_neg c6] at H; exact absurd H (by simp)
          · rw [if_neg c5] at H; exact absurd H (by simp)
        · rw [if_neg c4] at H; have c4b0 : decide (x14_1 < (a0.size : Int)) = false := decide_eq_false c4; clear c4; obtain rfl := Option.some.inj H; go_wp2; repeat (go_quiet (fail); try go_wp2)
          go_ret
          exact ⟨rz_, dz_⟩
  · rw [if_neg c3] at H; have c3b0 : ((a0.size : Int) == (a1.size : Int)) = false := beq_eq_false_iff_ne.mpr c3; have c3b1 : ((a0.size : Int) != (a1.size : Int)) = true := bne_iff_ne.mpr c3; have c3b2 : (a0.size == a1.size) = false := by first | simpa using c3 | (simp at c3 ⊢; omega)
    obtain rfl := Option.some.inj H; go_enter Tryz.func73, Tryz.ntmps73
    go_wp2; repeat (go_quiet (fail); try go_wp2)
    go_ret
    exact ⟨rz_, dz_⟩
end Go.Proofs.YtbkbganflnemeaaGreat.Pr
end

section
namespace Go.Proofs.YtbkbganflnemeaaGreat.Pr
open Go.RowKit Go.Deep Go.Proofs.YtbkbganflnemeaaGreatW.PrintWords Go.Proofs.YtbkbganflnemeaaGreatW.PrintLast Go.Proofs.YtbkbganflnemeaaGreatW.PrintMore
set_option maxHeartbeats 1000000
theorem same_loop (x y : ByteArray) (n : Nat) (hx : x.size = n) (hy : y.size = n) (hn : n ≤ 1000000000000) : ∀ (d i acc : Nat), i + d = n → acc < 256 → (acc = 0 ↔ (bys x).take i = (bys y).take i) →
    word_Same.l0 (d + 1) x y (acc : Int) (n : Int) (i : Int) = some (decide (bys x = bys y))
  | 0, i, acc, h, ha, hr => by
    rw [word_Same.l0, if_neg (by omega)]
    rw [List.take_of_length_le (by rw [bys_length]; omega), List.take_of_length_le (by rw [bys_length]; omega)] at hr
    congr 1
    by_cases hc : acc = 0
    · rw [decide_eq_true (hr.1 hc), hc]
      rfl
    · rw [decide_eq_false (fun h => hc (hr.2 h)), beq_eq_false_iff_ne]
      omega
  | d + 1, i, acc, h, ha, hr => by
    have hw : wrap64 ((i : Int) + 1) = ((i + 1 : Nat) : Int) := by rw [wrapN _ (by omega) (by omega)]; omega
    have hxi : i < (bys x).length := by rw [bys_length]; omega
    have hyi : i < (bys y).length := by rw [bys_length]; omega
    have hxor : (bys x).getD i 0 ^^^ (bys y).getD i 0 < 256 := Nat.xor_lt_two_pow (n := 8) (bys_lt x i) (bys_lt y i)
    rw [word_Same.l0, if_pos (by omega), if_pos (by omega), if_pos (by omega), if_pos (by omega), bt_nat _ _ (by omega), bt_nat _ _ (by omega), u8_xor_nat _ _ (bys_lt _ _) (bys_lt _ _), u8_or_nat _ _ ha hxor, hw]
    refine same_loop x y n hx hy hn d (i + 1) _ (by omega) (Nat.or_lt_two_pow (n := 8) ha hxor) ?_
    rw [or_zero, xor_zero, hr, List.take_succ_eq_append_getElem hxi, List.take_succ_eq_append_getElem hyi]
    have e1 : (bys x).getD i 0 = (bys x)[i] := by simp [hxi]
    have e2 : (bys y).getD i 0 = (bys y)[i] := by simp [hyi]
    rw [e1, e2]
    constructor
    · rintro ⟨h1, h2⟩
      rw [h1, h2]
    · intro h
      have := List.append_inj' h rfl
      exact ⟨this.1, by simpa using this.2⟩
theorem word_Same_f (x y : ByteArray) (hx : x.size ≤ 1000000000000) (k : Nat) (hk : x.size + 1 ≤ k) : word_Same.f k x y = some (decide (bys x = bys y)) := by
 unfold word_Same.f
 by_cases hc : x.size = y.size
 ·rw [if_pos (by omega)]
  have h0 := same_loop x y x.size rfl hc.symm hx x.size 0 0 (by omega) (by decide) (by simp)
  have h1 : ∀ j, x.size + 1 ≤ j → word_Same.l0 j x y 0 (x.size : Int) 0 = some (decide (bys x = bys y)) := by
   intro j hj
   induction hj with
   | refl => exact h0
   | step _ ih => exact word_Same.mono_l _ _ _ _ _ _ _ ih
  exact h1 k hk
 ·rw [if_neg (by omega), decide_eq_false]
  intro h
  apply hc
  rw [← bys_length, ← bys_length, h]
end Go.Proofs.YtbkbganflnemeaaGreat.Pr
end

section
namespace Go.Proofs.YtbkbganflnemeaaGreat.Pr
open Go.RowKit Go.Proofs.YtbkbganflnemeaaGreatW.PrintWords Go.Proofs.YtbkbganflnemeaaGreatW.PrintLast
def macL (k s : List Nat) : List Nat := sumL ((key64 k).map (· ^^^ 92) ++ sumL ((key64 k).map (· ^^^ 54) ++ s))
def macT (k s : ByteArray) : ByteArray := txt (macL (bys k) (bys s))
theorem macT_size (k s : ByteArray) : (macT k s).size = 32 := by rw [macT, txt_size, macL, sumL_length]
theorem key64_lt (l : List Nat) (hl : ∀ x ∈ l, x < 256) : ∀ x ∈ key64 l, x < 256 := by
 intro x hx
 unfold key64 at hx
 rw [List.mem_append] at hx
 rcases hx with hx | hx
 ·split at hx
  ·exact sumL_lt _ x hx
  ·exact hl x hx
 ·rw [List.mem_replicate] at hx
  omega
theorem turn_lt (l : List Nat) (hl : ∀ x ∈ l, x < 256) (b : Nat) (hb : b < 256) : ∀ x ∈ (key64 l).map (· ^^^ b), x < 256 := by
 intro x hx
 rw [List.mem_map] at hx
 obtain ⟨y, hy, rfl⟩ := hx
 exact Nat.xor_lt_two_pow (n := 8) (key64_lt l hl y hy) hb
theorem hmac_turned_f (a : ByteArray) (h : a.size ≤ 1000000000000) (b : Nat) (hb : b < 256) : hmac_turned.f a (b : Int) = some (txt ((key64 (bys a)).map (· ^^^ b))) := by
 unfold hmac_turned.f
 rw [if_pos ⟨h, by omega, by omega⟩, Int.toNat_natCast]
theorem two_sums (k s T1 T2 : ByteArray) (h1 : T1 = txt ((key64 (bys k)).map (· ^^^ 92))) (h2 : T2 = txt ((key64 (bys k)).map (· ^^^ 54))) : sumT (T1 ++ sumT (T2 ++ s)) = macT k s := by
 subst h1
 subst h2
 unfold sumT macT macL
 rw [bys_append, bys_append, bys_txt (turn_lt _ (bys_lt' k) 92 (by decide)), bys_txt (turn_lt _ (bys_lt' k) 54 (by decide)), bys_txt (sumL_lt _)]
theorem turn_size (l : List Nat) (b : Nat) : (txt ((key64 l).map (· ^^^ b))).size = 64 := by rw [txt_size, List.length_map, key64_length]
theorem hmac_Mac_f (k s : ByteArray) (hk : k.size ≤ 100000000000) (hs : s.size ≤ 100000000000) : hmac_Mac.f k s = some (macT k s) := by
 unfold hmac_Mac.f
 rw [show (92 : Int) = ((92 : Nat) : Int) from rfl, show (54 : Int) = ((54 : Nat) : Int) from rfl, hmac_turned_f k (by omega) 92 (by decide), hmac_turned_f k (by omega) 54 (by decide), Option.bind_some, Option.bind_some]
 rw [if_pos (by rw [turn_size]; omega), sha_Sum_f _ (by rw [ByteArray.size_append, turn_size]; omega), Option.bind_some, if_pos (by rw [turn_size, sumT_size]; omega), sha_Sum_f _ (by rw [ByteArray.size_append, turn_size, sumT_size]; omega), Option.bind_some]
 rw [two_sums k s _ _ rfl rfl]
theorem key_at (x0 : ByteArray) (i : Nat) (hi : i < 64) (b : Nat) (hb : b < 256) (hx : x0.size ≤ 64) :
  (bys x0 ++ List.replicate (64 - x0.size) 0).getD i 0 = (if i < x0.size then (bys x0).getD i 0 else 0) := by
 split
 ·rename_i h
  rw [List.getD_eq_getElem?_getD, List.getElem?_append_left (by rw [bys_length]; exact h), ← List.getD_eq_getElem?_getD]
 ·rename_i h
  rw [List.getD_eq_getElem?_getD, List.getElem?_append_right (by rw [bys_length]; omega), List.getElem?_replicate]
  split <;> rfl
theorem take_one (L : List Nat) (i : Nat) (hi : i < L.length) (b : Nat) : (((L.map (· ^^^ b)).take (i + 1)).map fun (n : Nat) => (n : Int)) = (((L.map (· ^^^ b)).take i).map fun (n : Nat) => (n : Int)) ++ [((L.getD i 0 ^^^ b : Nat) : Int)] := by
 rw [List.take_succ_eq_append_getElem (by rw [List.length_map]; exact hi), List.map_append]
 simp [hi]
theorem ref_turned_loop (x0 : ByteArray) (hx : x0.size ≤ 64) (b : Nat) (hb : b < 256) (L : List Nat) (hL : bys x0 ++ List.replicate (64 - x0.size) 0 = L) (hl : L.length = 64) : ∀ (d i : Nat), i + d = 64 →
    samphireref03_turned.l0 (d + 1) x0 (b : Int) (((L.map (· ^^^ b)).take i).map fun (n : Nat) => (n : Int)) (i : Int) = some (txt (L.map (· ^^^ b)))
  | 0, i, h => by
    rw [samphireref03_turned.l0, if_neg (by omega), str_nats, List.take_of_length_le (by rw [List.length_map]; omega)]
  | d + 1, i, h => by
    have hlen : ((((L.map (· ^^^ b)).take i).map fun (n : Nat) => (n : Int))).length < 140737488355328 := by
      rw [List.length_map, List.length_take, List.length_map]
      omega
    have hw : wrap64 ((i : Int) + 1) = ((i + 1 : Nat) : Int) := by rw [wrapN _ (by omega) (by omega)]; omega
    have hk := key_at x0 i (by omega) b hb hx
    rw [hL] at hk
    have ih := ref_turned_loop x0 hx b hb L hL hl d (i + 1) (by omega)
    rw [take_one L i (by omega) b, hk] at ih
    rw [samphireref03_turned.l0, if_pos (by omega)]
    by_cases hc : i < x0.size
    · rw [if_pos (by omega), if_pos (by omega), if_pos hlen, bt_nat _ _ hc, u8_xor_nat _ _ (bys_lt _ _) hb, hw]
      rw [if_pos hc] at ih
      exact ih
    · rw [if_neg (by omega), if_pos hlen, hw, show (0 : Int) = ((0 : Nat) : Int) from rfl, u8_xor_nat _ _ (by decide) hb]
      rw [if_neg hc] at ih
      exact ih
theorem ref_turned_j (x0 : ByteArray) (hx : x0.size ≤ 64) (b : Nat) (hb : b < 256) : samphireref03_turned.j0 66 x0 (b : Int) = some (txt ((bys x0 ++ List.replicate (64 - x0.size) 0).map (· ^^^ b))) := by
 rw [samphireref03_turned.j0]
 have := ref_turned_loop x0 hx b hb _ rfl (by rw [List.length_append, bys_length, List.length_replicate]; omega) 64 0 rfl
 simpa using this
theorem ref_turned_66 (a : ByteArray) (h : a.size ≤ 1000000000000) (b : Nat) (hb : b < 256) : samphireref03_turned.f 66 a (b : Int) = some (txt ((key64 (bys a)).map (· ^^^ b))) := by
 unfold samphireref03_turned.f key64
 by_cases hc : 64 < a.size
 ·rw [if_pos (by omega), ref_Sum_f _ h, Option.bind_some, ref_turned_j _ (by rw [sumT_size]; omega) b hb, if_pos (by rw [bys_length]; omega), bys_sumT, sumT_size, sumL_length]
 ·rw [if_neg (by omega), ref_turned_j _ (by omega) b hb, if_neg (by rw [bys_length]; omega), bys_length]
theorem ref_turned_f (a : ByteArray) (h : a.size ≤ 1000000000000) (b : Nat) (hb : b < 256) (k : Nat) (hk : 66 ≤ k) : samphireref03_turned.f k a (b : Int) = some (txt ((key64 (bys a)).map (· ^^^ b))) := by
 induction hk with
 | refl => exact ref_turned_66 a h b hb
 | step _ ih => exact samphireref03_turned.mono _ _ _ _ ih
theorem ref_Mac_f (k s : ByteArray) (hk : k.size ≤ 100000000000) (hs : s.size ≤ 100000000000) (n : Nat) (hn : 66 ≤ n) : samphireref03_Mac.f n k s = some (macT k s) := by
 unfold samphireref03_Mac.f
 rw [show (92 : Int) = ((92 : Nat) : Int) from rfl, show (54 : Int) = ((54 : Nat) : Int) from rfl, ref_turned_f k (by omega) 92 (by decide) n hn, ref_turned_f k (by omega) 54 (by decide) n hn, Option.bind_some, Option.bind_some]
 rw [if_pos (by rw [turn_size]; omega), ref_Sum_f _ (by rw [ByteArray.size_append, turn_size]; omega), Option.bind_some, if_pos (by rw [turn_size, sumT_size]; omega), ref_Sum_f _ (by rw [ByteArray.size_append, turn_size, sumT_size]; omega), Option.bind_some]
 rw [two_sums k s _ _ rfl rfl]
end Go.Proofs.YtbkbganflnemeaaGreat.Pr
end

section
namespace Go.Proofs.YtbkbganflnemeaaGreat.Pr
open Go.RowKit Go.Deep Go.Proofs.YtbkbganflnemeaaGreatW.PrintWords Go.Proofs.YtbkbganflnemeaaGreatW.PrintLast Go.Proofs.YtbkbganflnemeaaGreatW.PrintMore
set_option maxHeartbeats 2000000
def partL (key purpose : List Nat) : Nat → List Nat
 | 0 => []
 | j + 1 => macL key (partL key purpose j ++ purpose ++ [(j + 1) % 256])
def expL (key purpose : List Nat) : Nat → List Nat
 | 0 => []
 | j + 1 => expL key purpose j ++ partL key purpose (j + 1)
def hkdf_Expand.f (a0 a1 : ByteArray) (a2 : Int) : Option (ByteArray × Int) :=
 if a2 < 0 ∨ 8160 < a2 then some (⟨#[]⟩, 1) else if a0.size ≤ 1000000000 ∧ a1.size ≤ 1000000000 then some (txt ((expL (bys a0) (bys a1) ((a2.toNat + 31) / 32)).take a2.toNat), 0) else none
theorem partL_length (k p : List Nat) (j : Nat) : (partL k p (j + 1)).length = 32 := sumL_length _
theorem partL_lt (k p : List Nat) : ∀ j, ∀ x ∈ partL k p j, x < 256
 | 0 => by intro x hx; simp [partL] at hx
 | j + 1 => sumL_lt _
theorem expL_length (k p : List Nat) : ∀ j, (expL k p j).length = 32 * j
 | 0 => rfl
 | j + 1 => by rw [expL, List.length_append, expL_length k p j, partL_length]; omega
theorem expL_cells (k p : List Nat) (j : Nat) : (Lib.byteCells (txt (expL k p j)).data.toList).length = 32 * j := by
 rw [← expL_length k p j]
 simp [Lib.byteCells, txt]
set_option maxRecDepth 100000 in
theorem expand (a0 a1 : ByteArray) (n : Nat) (hn : n ≤ 8160) (h0 : a0.size ≤ 1000000000) (h1 : a1.size ≤ 1000000000) (w : World) :
  Calls Tryz.prog 64 #[.string a0, .string a1, .int .i64 n] w fun e w' => e = .returned (.tuple #[.string (txt ((expL (bys a0) (bys a1) ((n + 31) / 32)).take n)), .int .i64 0]) ∧ Below w.heap.size w w' := by
 have c1 : decide ((n : Int) < 0) = false := decide_eq_false (by omega)
 have c2 : decide (8160 < (n : Int)) = false := decide_eq_false (by omega)
 go_enter Tryz.func64, Tryz.ntmps64
 go_wp2_with (fail)
 rw [show ((n : Int) + 32 - 1) / 32 = (((n + 31) / 32 : Nat) : Int) by omega]
 generalize hN : (n + 31) / 32 = N
 have hN1 : N ≤ 255 := by omega
 have hN2 : n ≤ 32 * N := by omega
 have HN := Aside0.mk hN
 clear hN
 have hm32 := Aside0.mk (macT_size)
 go_loopw [9, 21] (fun t i wr => ∃ (k : Nat) (τ : ByteArray), k ≤ N ∧ i = .int .i64 k ∧ t = .string τ ∧ τ.size ≤ 32 ∧ Aside0 (τ = txt (partL (bys a0) (bys a1) k)) ∧ Aside0 (Lib.IsBuilder 113 5 w.heap.size w.heap.size (Lib.byteCells (txt (expL (bys a0) (bys a1) k)).data.toList) wr) ∧ Aside0 (Below w.heap.size w wr)) (fun _ i _ => N - (intOf i).toNat)
 case atStart => exact ⟨0, ⟨#[]⟩, by omega, rfl, rfl, by decide, ⟨rfl⟩, ⟨Lib.fresh_isBuilder _ _ w⟩, ⟨below_alloc (Below.refl _ _) _⟩⟩
 case round =>
  obtain ⟨k, τ, hk, rfl, rfl, hτ, HT, HI, HB⟩ := hrel
  by_cases hlt : k < N
  ·have k1 : τ.size + a1.size ≤ 9223372036854775807 := by omega
   have k3 : (9223372036854775807 < τ.size + a1.size) = False := eq_false (Nat.not_lt.2 k1)
   have hcv : (convert 68 9 (.slice (some ⟨wr.heap.size, 0, none⟩) 1 1)).run Tryz.prog (wr.alloc (.cells #[.int .u8 ((k : Int) + 1)] 5)) = .ok (.string (txt [k + 1])) (wr.alloc (.cells #[.int .u8 ((k : Int) + 1)] 5)) := by
    have := conv_u8s (wr.alloc (.cells (u8s [k + 1]) 5)) 68 9 5 5 wr.heap.size [k + 1] 1 Tryz.underlying68 Tryz.underlying5 Tryz.underlying9 (heap_alloc_last _ _) rfl 1
    simpa [u8s] using this
   generalize hV : txt [k + 1] = V at hcv
   have hVs : V.size ≤ 1 := by rw [← hV, txt_size]; exact Nat.le_refl _
   have HV := Aside0.mk hV
   have k5 : (τ ++ a1).size + V.size ≤ 9223372036854775807 := by rw [ByteArray.size_append]; omega
   have k6 : τ.size + a1.size + V.size ≤ 9223372036854775807 := by omega
   clear hV k3
   have hI1 : Aside0 (Lib.IsBuilder 113 5 w.heap.size w.heap.size (Lib.byteCells (txt (expL (bys a0) (bys a1) k)).data.toList) (wr.alloc (.cells #[.int .u8 ((k : Int) + 1)] 5))) := ⟨isBuilder_below HI.out (below_alloc (Below.refl _ _) _)⟩
   have hB1 : Aside0 (Below w.heap.size w (wr.alloc (.cells #[.int .u8 ((k : Int) + 1)] 5))) := ⟨below_alloc HB.out _⟩
   go_wp2_with (go_at_call 100; refine (hmac_Mac.calls a0 (τ ++ a1 ++ V) _ _ (hmac_Mac_f a0 (τ ++ a1 ++ V) (by omega) (by rw [ByteArray.size_append, ByteArray.size_append]; omega))).mono ?_; rintro e w3 ⟨rfl, hb3⟩; generalize hM : macT a0 (τ ++ a1 ++ V) = τ'; have hI3 : Aside0 (Lib.IsBuilder 113 5 w.heap.size w.heap.size (Lib.byteCells (txt (expL (bys a0) (bys a1) k)).data.toList) w3) := ⟨isBuilder_below hI1.out hb3⟩; have hB3 : Aside0 (Below w.heap.size w w3) := ⟨below_then hB1.out hB1.out.size hb3⟩; clear hb3; have HMM := Aside0.mk hM; clear hM)
   have hτ' : τ'.size = 32 := by rw [← HMM.out, macT_size]
   have hτ2 : τ'.size ≤ 32 := by omega
   have hbl := expL_cells (bys a0) (bys a1) k
   have HBL := Aside0.mk hbl
   have HTS := Aside0.mk hτ'
   clear hbl hτ'
   go_wp2_with (go_at_call 77; refine (Tryz.Builder_WriteString w.heap.size w.heap.size _ τ' _ hI3.out (by rw [HBL.out]; omega) hB3.out.size).mono ?_; rintro e w4 ⟨rfl, hI4, hb4⟩; have HI4 := Aside0.mk hI4; have HB4 := Aside0.mk hb4; clear hI4 hb4)
   go_wp2
   have hp : txt (partL (bys a0) (bys a1) (k + 1)) = τ' := by
    rw [← HMM.out, macT, bys_append, bys_append, ← HV.out, HT.out, bys_txt (partL_lt _ _ _), bys_txt (by intro x hx; rw [List.mem_singleton] at hx; omega), partL, Nat.mod_eq_of_lt (by omega)]
   refine ⟨⟨k + 1, τ', by omega, by go_num, rfl, hτ2, ⟨hp.symm⟩, ⟨?_⟩, ⟨hB3.out.trans HB4.out⟩⟩, by simp [intOf]; omega⟩
   have e : Lib.byteCells (txt (expL (bys a0) (bys a1) (k + 1))).data.toList = Lib.byteCells (txt (expL (bys a0) (bys a1) k)).data.toList ++ Lib.strCells τ' := by
    rw [← hp, expL]
    simp [txt, Lib.byteCells, Lib.strCells]
   rw [e]
   exact .inr HI4.out
  ·obtain rfl : k = N := by omega
   clear hlt hk hτ
   have hbl := expL_length (bys a0) (bys a1) k
   have HX : Aside0 ((⟨(txt (expL (bys a0) (bys a1) k)).data.toList.toArray⟩ : ByteArray) = txt (expL (bys a0) (bys a1) k)) := ⟨by simp⟩
   have hYs : (txt (expL (bys a0) (bys a1) k)).size = 32 * k := by rw [txt_size, hbl]
   have i1 := eq_true (show (n : Int) ≤ ((txt (expL (bys a0) (bys a1) k)).size : Int) by omega)
   have i2 := eq_true (show 0 ≤ (n : Int) by omega)
   clear hYs hbl
   have HF : Aside0 ((txt (expL (bys a0) (bys a1) k)).extract 0 n = txt ((expL (bys a0) (bys a1) k).take n)) := ⟨by rw [txt_extract]; rfl⟩
   go_wp2_with (go_at_call 78; refine (Tryz.Builder_String_any w.heap.size w.heap.size _ _ HI.out HB.out.size).mono ?_; rw [HX.out]; rintro e w2 ⟨rfl, hb2⟩)
   go_ret2
   rw [HN.out, ← HF.out]
   exact ⟨rfl, HB.out.trans hb2⟩
set_option maxRecDepth 100000 in
theorem expand_no (a0 a1 : ByteArray) (a2 : Int) (h : a2 < 0 ∨ 8160 < a2) (w : World) :
  Calls Tryz.prog 64 #[.string a0, .string a1, .int .i64 a2] w fun e w' => e = .returned (.tuple #[.string ⟨#[]⟩, .int .i64 1]) ∧ Below w.heap.size w w' := by
 by_cases h0 : a2 < 0
 ·have c1 : decide (a2 < 0) = true := decide_eq_true h0
  clear h
  go_enter Tryz.func64, Tryz.ntmps64
  go_wp2
  go_ret2
  exact ⟨rfl, Below.refl _ _⟩
 ·have c1 : decide (a2 < 0) = false := decide_eq_false h0
  have c2 : decide (8160 < a2) = true := decide_eq_true (by omega)
  clear h
  go_enter Tryz.func64, Tryz.ntmps64
  go_wp2
  go_ret2
  exact ⟨rfl, Below.refl _ _⟩
theorem hkdf_Expand.calls (a0 a1 : ByteArray) (a2 : Int) (r1 : ByteArray) (r2 : Int) (w : World) (h : hkdf_Expand.f a0 a1 a2 = some (r1, r2)) :
  Calls Tryz.prog 64 #[.string a0, .string a1, .int .i64 a2] w fun e w' => e = .returned (.tuple #[.string r1, .int .i64 r2]) ∧ Below w.heap.size w w' := by
 unfold hkdf_Expand.f at h
 by_cases hc : a2 < 0 ∨ 8160 < a2
 ·rw [if_pos hc] at h
  simp only [Option.some.injEq, Prod.mk.injEq] at h
  obtain ⟨rfl, rfl⟩ := h
  exact expand_no a0 a1 a2 hc w
 ·rw [if_neg hc] at h
  by_cases hs : a0.size ≤ 1000000000 ∧ a1.size ≤ 1000000000
  ·rw [if_pos hs] at h
   simp only [Option.some.injEq, Prod.mk.injEq] at h
   obtain ⟨rfl, rfl⟩ := h
   obtain ⟨n, rfl⟩ := Int.eq_ofNat_of_zero_le (show 0 ≤ a2 by omega)
   rw [Int.toNat_natCast]
   exact expand a0 a1 n (by omega) hs.1 hs.2 w
  ·rw [if_neg hs] at h
   cases h
end Go.Proofs.YtbkbganflnemeaaGreat.Pr
end

section
namespace Go.Proofs.YtbkbganflnemeaaGreat.Pr
open Go.RowKit Go.Proofs.YtbkbganflnemeaaGreatW.PrintWords Go.Proofs.YtbkbganflnemeaaGreatW.PrintLast Go.Proofs.YtbkbganflnemeaaGreatW.PrintMore
attribute [local go_sem] max2_int min2_int max_two min_two max_three min_three max_four min_four
mutual
def samphireref04_Expand.j0 : Nat → ByteArray → ByteArray → Int → Bool → Option (ByteArray × Int)
 | 0, _, _, _, _ => none
 | k + 1, x0, x1, x2, x16 => if x16 = true then (some ((⟨#[]⟩ : ByteArray), 1)) else (samphireref04_Expand.l0 k x0 x1 x2 (⟨#[]⟩ : ByteArray) (⟨#[]⟩ : ByteArray) 1)
def samphireref04_Expand.l0 : Nat → ByteArray → ByteArray → Int → ByteArray → ByteArray → Int → Option (ByteArray × Int)
 | 0, _, _, _, _, _, _ => none
 | k + 1, x0, x1, x2, x8, x9, x10 => if (x8.size : Int) < x2 then (if x9.size + x1.size ≤ 9223372036854775807 then ((some (([(x10) % 256] : List Int) : List Int)).bind fun y269 => (if (x9 ++ x1).size + (strOfNums y269).size ≤ 9223372036854775807 then ((samphireref03_Mac.f k x0 ((x9 ++ x1) ++ (strOfNums y269))).bind fun t272 => (if x8.size + t272.size ≤ 9223372036854775807 then (samphireref04_Expand.l0 k x0 x1 x2 (x8 ++ t272) t272 (wrap64 (x10 + 1))) else (none))) else (none))) else (none)) else (if 0 ≤ x2 then (if x2 ≤ (x8.size : Int) then (some (x8.extract 0 (x2 : Int).toNat, 0)) else (none)) else (none))
end
def samphireref04_Expand.f (k : Nat) (a0 : ByteArray) (a1 : ByteArray) (a2 : Int) : Option (ByteArray × Int) := if a2 < 0 then (samphireref04_Expand.j0 k a0 a1 a2 true) else (samphireref04_Expand.j0 k a0 a1 a2 (decide (a2 > 8160)))
theorem samphireref04_Expand.mono_l : ∀ k, (∀ y0 y1 y2 y3, LeO (samphireref04_Expand.j0 k y0 y1 y2 y3) (samphireref04_Expand.j0 (k + 1) y0 y1 y2 y3)) ∧ (∀ y0 y1 y2 y3 y4 y5, LeO (samphireref04_Expand.l0 k y0 y1 y2 y3 y4 y5) (samphireref04_Expand.l0 (k + 1) y0 y1 y2 y3 y4 y5))
  | 0 => ⟨fun _ _ _ _ r h => by simp [samphireref04_Expand.j0] at h, fun _ _ _ _ _ _ r h => by simp [samphireref04_Expand.l0] at h⟩
  | k + 1 => by
    obtain ⟨ih0, ih1⟩ := samphireref04_Expand.mono_l k; refine ⟨?_, ?_⟩
    · intro y0 y1 y2 y3; unfold samphireref04_Expand.j0
      repeat' first
      | (with_reducible exact ih0 _ _ _ _)
      | (with_reducible exact ih1 _ _ _ _ _ _)
      | (with_reducible exact samphireref03_Mac.mono _ _ _)
      | (with_reducible exact LeO.refl _)
      | (with_reducible exact LeO.none _)
      | (with_reducible refine LeO.ite ?_ ?_)
      | (with_reducible refine LeO.bind ?_ (fun _ => ?_))
      | exact ih0 _ _ _ _
      | exact ih1 _ _ _ _ _ _
      | exact samphireref03_Mac.mono _ _ _
      | exact LeO.none _
      | refine LeO.ite ?_ ?_
      | refine LeO.bind ?_ (fun _ => ?_)
    · intro y0 y1 y2 y3 y4 y5; unfold samphireref04_Expand.l0
      repeat' first
      | (with_reducible exact ih0 _ _ _ _)
      | (with_reducible exact ih1 _ _ _ _ _ _)
      | (with_reducible exact samphireref03_Mac.mono _ _ _)
      | (with_reducible exact LeO.refl _)
      | (with_reducible exact LeO.none _)
      | (with_reducible refine LeO.ite ?_ ?_)
      | (with_reducible refine LeO.bind ?_ (fun _ => ?_))
      | exact ih0 _ _ _ _
      | exact ih1 _ _ _ _ _ _
      | exact samphireref03_Mac.mono _ _ _
      | exact LeO.none _
      | refine LeO.ite ?_ ?_
      | refine LeO.bind ?_ (fun _ => ?_)
theorem samphireref04_Expand.mono : ∀ a0 a1 a2 k, LeO (samphireref04_Expand.f k a0 a1 a2) (samphireref04_Expand.f (k + 1) a0 a1 a2) := by
 intro a0 a1 a2 k; obtain ⟨ih0, ih1⟩ := samphireref04_Expand.mono_l k; unfold samphireref04_Expand.f
 repeat' first
   | (with_reducible exact ih0 _ _ _ _)
   | (with_reducible exact ih1 _ _ _ _ _ _)
   | (with_reducible exact samphireref03_Mac.mono _ _ _)
   | (with_reducible exact LeO.refl _)
   | (with_reducible exact LeO.none _)
   | (with_reducible refine LeO.ite ?_ ?_)
   | (with_reducible refine LeO.bind ?_ (fun _ => ?_))
   | exact ih0 _ _ _ _
   | exact ih1 _ _ _ _ _ _
   | exact samphireref03_Mac.mono _ _ _
   | exact LeO.none _
   | refine LeO.ite ?_ ?_
   | refine LeO.bind ?_ (fun _ => ?_)
set_option maxHeartbeats 8000000 in
set_option maxRecDepth 100000 in
theorem samphireref04_Expand.calls (k : Nat) (a0 : ByteArray) (a1 : ByteArray) (a2 : Int) (r1 : ByteArray) (r2 : Int) (w : World) (h : samphireref04_Expand.f k a0 a1 a2 = some (r1, r2)) :
    Calls Tryz.prog 35 #[.string a0, .string a1, .int .i64 a2] w fun e w' => e = .returned (.tuple #[.string r1, .int .i64 r2]) ∧ Below w.heap.size w w' := by
  have HB := Aside0.mk (Below.refl w.heap.size w); have H : (if a2 < 0 then (samphireref04_Expand.j0 k a0 a1 a2 true) else (samphireref04_Expand.j0 k a0 a1 a2 (decide (a2 > 8160)))) = some (r1, r2) := h; clear h; have HC4 := Aside0.mk H; clear H; go_enter Tryz.func35, Tryz.ntmps35
  go_upto_region 1 with (fail)
  go_cut [16] (fun v16 wc => ∃ (kq : Nat) (x16_3 : Bool), v16 = .bool x16_3 ∧ Aside0 (samphireref04_Expand.j0 kq a0 a1 a2 x16_3 = some (r1, r2)) ∧ Aside0 (kq ≤ k) ∧ Aside0 (Below w.heap.size w wc))
  case first =>
    have H := HC4.out; clear HC4; by_cases c5 : a2 < 0
    · rw [if_pos c5] at H; have c5b0 : decide (a2 < 0) = true := decide_eq_true c5; clear c5
      (first | rw [c5b0] | (simp only [i64_w, i32_w]; rw [c5b0]) | skip)
      have H' := Aside0.mk H; clear H; go_wp2; go_meet
      case rel => exact ⟨_, (true), rz_, H', ⟨by first | omega | exact Nat.le_refl _⟩, ⟨hb_⟩⟩
    · rw [if_neg c5] at H; have c5b0 : decide (a2 < 0) = false := decide_eq_false c5; clear c5
      (first | rw [c5b0] | (simp only [i64_w, i32_w]; rw [c5b0]) | skip)
      have H' := Aside0.mk H; clear H; go_wp2; go_meet
      case rel => exact ⟨_, (decide (a2 > 8160)), rz_, H', ⟨by first | omega | exact Nat.le_refl _⟩, ⟨hb_⟩⟩
  case rest =>
    clear HC4; obtain ⟨kq, x16_3, rfl, HA, HJ3, HB⟩ := hcut; cases kq with
    | zero => exact absurd HA.out (by simp [samphireref04_Expand.j0])
    | succ kj3 =>
      have H := HA.out; clear HA; simp only [samphireref04_Expand.j0] at H; by_cases c6 : x16_3 = true
      · subst c6; have H1 : (some ((⟨#[]⟩ : ByteArray), 1)) = some (r1, r2) := by rw [if_pos rfl] at H; exact H
        clear H; have H := H1; clear H1; simp only [Option.some.injEq, Prod.mk.injEq] at H; obtain ⟨rfl, rfl⟩ := H; go_wp2; go_ret2
        exact ⟨ew_, hb_⟩
      · replace c6 := Bool.eq_false_iff.mpr c6; subst c6; have H1 : (samphireref04_Expand.l0 kj3 a0 a1 a2 (⟨#[]⟩ : ByteArray) (⟨#[]⟩ : ByteArray) 1) = some (r1, r2) := by rw [if_neg (show ¬ (false = true) by decide)] at H; exact H
        clear H; have H := H1; clear H1; have H' := Aside0.mk H; clear H; go_wp2; go_loopg [8, 9, 10] kj3 (fun kq v8 v9 v10 w' => ∃ (x8_2 : ByteArray) (x9_2 : ByteArray) (x10_2 : Int), v8 = .string x8_2 ∧ v9 = .string x9_2 ∧ v10 = .int .i64 x10_2 ∧ Aside0 (samphireref04_Expand.l0 kq a0 a1 a2 x8_2 x9_2 x10_2 = some (r1, r2)) ∧ Aside0 (kq ≤ kj3) ∧ Aside0 (Below w.heap.size w w'))
        case atStart => exact ⟨((⟨#[]⟩ : ByteArray)), ((⟨#[]⟩ : ByteArray)), (1), rz_, rz_, rz_, H', ⟨Nat.le_refl _⟩, ⟨hb_⟩⟩
        case round =>
          clear H'; obtain ⟨x8_2, x9_2, x10_2, rfl, rfl, rfl, HA, HK2, HB⟩ := hrel; cases gk with
          | zero => exact absurd HA.out (by simp [samphireref04_Expand.l0])
          | succ k2 =>
            have H := HA.out; clear HA; simp only [samphireref04_Expand.l0] at H; by_cases c7 : (x8_2.size : Int) < a2
            · rw [if_pos c7] at H; have c7b0 : decide ((x8_2.size : Int) < a2) = true := decide_eq_true c7; clear c7; by_cases c8 : x9_2.size + a1.size ≤ 9223372036854775807
              · rw [if_pos c8] at H; have c8b0 := eq_true c8; have c8b1 : decide (x9_2.size + a1.size ≤ 9223372036854775807) = true := decide_eq_true c8; try have c8b2 : (9223372036854775807 < x9_2.size + a1.size) = False := eq_false (Nat.not_lt.2 c8)
                obtain ⟨y269, hy269⟩ : ∃ y_ : List Int, y_ = (([(x10_2) % 256] : List Int)) := ⟨_, rfl⟩; replace H : (if (x9_2 ++ a1).size + (strOfNums y269).size ≤ 9223372036854775807 then ((samphireref03_Mac.f k2 a0 ((x9_2 ++ a1) ++ (strOfNums y269))).bind fun t272 => (if x8_2.size + t272.size ≤ 9223372036854775807 then (samphireref04_Expand.l0 k2 a0 a1 a2 (x8_2 ++ t272) t272 (wrap64 (x10_2 + 1))) else (none))) else (none)) = some (r1, r2) := by first | (rw [hy269]; with_reducible exact H) | (have H2_ := (Option.bind_some _ _).symm.trans H; rw [hy269]; with_reducible exact H2_) | (have H2_ := (Option.bind_some _ _).symm.trans H; with_reducible exact H2_) | with_reducible exact H | (rw [hy269]; exact H) | exact H
                have Ny269 := Aside0.mk hy269; clear hy269; by_cases c9 : (x9_2 ++ a1).size + (strOfNums y269).size ≤ 9223372036854775807
                · rw [if_pos c9] at H; have c9b0 := eq_true c9; have c9b1 : decide ((x9_2 ++ a1).size + (strOfNums y269).size ≤ 9223372036854775807) = true := decide_eq_true c9; try have c9b2 : (9223372036854775807 < (x9_2 ++ a1).size + (strOfNums y269).size) = False := eq_false (Nat.not_lt.2 c9)
                  try (have c9b3 := c9b2; simp only [ByteArray.size_append] at c9b3)
                  replace H := Option.bind_eq_some_iff.mp H; obtain ⟨t272, A100, H⟩ := H; have A10 := Aside0.mk A100; clear A100; by_cases c11 : x8_2.size + t272.size ≤ 9223372036854775807
                  · rw [if_pos c11] at H; have c11b0 := eq_true c11; have c11b1 : decide (x8_2.size + t272.size ≤ 9223372036854775807) = true := decide_eq_true c11; try have c11b2 : (9223372036854775807 < x8_2.size + t272.size) = False := eq_false (Nat.not_lt.2 c11)
                    have H' := Aside0.mk H; clear H; go_wp2_with (first | ((with_reducible refine gate_dst (N := 29) rfl ?_); refine Kd.R_lit (Kd.int .u8) _ 5 ?hg (N := 29) ?hd (xs := ([(x10_2) % 256] : List Int)) (inner := [.int .u8 ((x10_2) % 256)]) (ok := fun _ => True) (okp := fun _ => True) ?hr ?hp (fun _ hk => hk) trivial (Below.refl _ _) (Nat.le_refl _) (by simp) ?_; (case hd => rfl); (case hg => rfl); (case hr => first | (go_simp; done) | (go_simp; rfl)); (case hp => exact (Reps.one (show Kd.M (Kd.int .u8) _ _ _ ((x10_2) % 256) [.int .u8 ((x10_2) % 256)] from rfl) (Reps.none _ _))); intro v270 w12 ho13 hb hg_ hnew_; clear hg_ hnew_; (first | rw [← Ny269.out] at ho13 | (simp only [Int.reduceToNat] at ho13; rw [← Ny269.out] at ho13)); have HO271 := Aside0.mk (Kd.R_lower ho13 (below_size hb_)); replace HB := Aside0.mk (below_step hb_ hb); clear hb ho13; have hcv14 := own_string (P := Tryz.prog) Tryz.underlying68 Tryz.underlying5 Tryz.underlying9 (Kd.own_of_R HO271.out)) | ((with_reducible refine gate_callee (f := 68) rfl ?_); refine gl_ 32 Tryz.func68 #[.string a0, .string ((x9_2 ++ a1) ++ (strOfNums y269))] ?_; (with_reducible refine (samphireref03_Mac.calls k2 a0 ((x9_2 ++ a1) ++ (strOfNums y269)) t272 _ A10.out).mono ?_); rintro e w15 ⟨rfl, hb⟩; refine ⟨_, rfl, ?_⟩; replace HO271 := Aside0.mk (Kd.R_below (ra_ HO271.out) hb); replace HB := Aside0.mk (below_step hb_ hb)))
                    go_roundg k2
                    case measure => have := HJ3.out; have := HK2.out; omega
                    case rel => exact ⟨(x8_2 ++ t272), (t272), (wrap64 (x10_2 + 1)), rz_, rz_, rz_, H', ⟨by have := HJ3.out; have := HK2.out; omega⟩, ⟨hb_⟩⟩
                  · rw [if_neg c11] at H; exact absurd H (by simp)
                · rw [if_neg c9] at H; exact absurd H (by simp)
              · rw [if_neg c8] at H; exact absurd H (by simp)
            · rw [if_neg c7] at H; have c7b0 : decide ((x8_2.size : Int) < a2) = false := decide_eq_false c7; clear c7; by_cases c16 : 0 ≤ a2
              · rw [if_pos c16] at H; have c16b0 := eq_true c16; have c16b1 : decide (0 ≤ a2) = true := decide_eq_true c16; clear c16; by_cases c17 : a2 ≤ (x8_2.size : Int)
                · rw [if_pos c17] at H; have c17b0 := eq_true c17; have c17b1 : decide (a2 ≤ (x8_2.size : Int)) = true := decide_eq_true c17; clear c17; simp only [Option.some.injEq, Prod.mk.injEq] at H; obtain ⟨rfl, rfl⟩ := H; go_wp2; go_ret2
                  exact ⟨ew_, hb_⟩
                · rw [if_neg c17] at H; exact absurd H (by simp)
              · rw [if_neg c16] at H; exact absurd H (by simp)
end Go.Proofs.YtbkbganflnemeaaGreat.Pr
end

section
namespace Go.Proofs.YtbkbganflnemeaaGreat.Pr
open Go.RowKit Go.Proofs.YtbkbganflnemeaaGreatW.PrintWords Go.Proofs.YtbkbganflnemeaaGreatW.PrintLast
theorem noughts_str (n : Nat) : strOfNums (List.replicate n 0) = txt (List.replicate n 0) := by
 rw [← str_nats, List.map_replicate]
 rfl
theorem bys_noughts (n : Nat) : bys (txt (List.replicate n 0)) = List.replicate n 0 := bys_txt (by intro x hx; rw [List.mem_replicate] at hx; omega)
theorem txt_app (a b : List Nat) : txt a ++ txt b = txt (a ++ b) := by
 apply ByteArray.ext
 rw [ByteArray.data_append]
 unfold txt
 simp
theorem partL_le (k p : List Nat) : ∀ j, (partL k p j).length ≤ 32
 | 0 => by simp [partL]
 | j + 1 => by rw [partL_length]; exact Nat.le_refl _
theorem part_mac (x0 x1 : ByteArray) (j : Nat) : macT x0 (txt (partL (bys x0) (bys x1) j) ++ x1 ++ txt [(j + 1) % 256]) = txt (partL (bys x0) (bys x1) (j + 1)) := by
 unfold macT
 rw [bys_append, bys_append, bys_txt (partL_lt _ _ _), bys_txt (by intro x hx; rw [List.mem_singleton] at hx; omega)]
 rfl
theorem one_num (j : Nat) : strOfNums [((j : Int) + 1) % 256] = txt [(j + 1) % 256] := by
 rw [← str_nats]
 congr 1
theorem ref_expand_loop (x0 x1 : ByteArray) (h0 : x0.size ≤ 1000000000) (h1 : x1.size ≤ 1000000000) (n N : Nat) (hN : N = (n + 31) / 32) (hN2 : N ≤ 255) : ∀ (d j : Nat), j + d = N →
    samphireref04_Expand.l0 (d + 67) x0 x1 (n : Int) (txt (expL (bys x0) (bys x1) j)) (txt (partL (bys x0) (bys x1) j)) ((j : Int) + 1) = some (txt ((expL (bys x0) (bys x1) N).take n), 0)
  | 0, j, h => by
    have e : j = N := by omega
    subst e
    rw [show 0 + 67 = 66 + 1 from rfl, samphireref04_Expand.l0, txt_size, expL_length, if_neg (by omega), if_pos (by omega), if_pos (by omega), txt_extract, Int.toNat_natCast]
    rfl
  | d + 1, j, h => by
    have hpl := partL_le (bys x0) (bys x1) j
    have hw : wrap64 ((j : Int) + 1 + 1) = ((j + 1 : Nat) : Int) + 1 := by rw [wrapN _ (by omega) (by omega)]; omega
    rw [show d + 1 + 67 = (d + 67) + 1 by omega, samphireref04_Expand.l0, txt_size, expL_length, if_pos (by omega), txt_size, if_pos (by omega), Option.bind_some, one_num, if_pos (by rw [ByteArray.size_append, txt_size, txt_size, List.length_singleton]; omega)]
    rw [ref_Mac_f _ _ (by omega) (by rw [ByteArray.size_append, ByteArray.size_append, txt_size, txt_size, List.length_singleton]; omega) (d + 67) (by omega), Option.bind_some, part_mac, if_pos (by rw [txt_size, partL_length]; omega), txt_app, hw]
    exact ref_expand_loop x0 x1 h0 h1 n N hN hN2 d (j + 1) (by omega)
theorem ref_Expand_f (x0 x1 : ByteArray) (h0 : x0.size ≤ 1000000000) (h1 : x1.size ≤ 1000000000) (n : Nat) (hn : n ≤ 8160) : samphireref04_Expand.f ((n + 31) / 32 + 68) x0 x1 (n : Int) = some (txt ((expL (bys x0) (bys x1) ((n + 31) / 32)).take n), 0) := by
 unfold samphireref04_Expand.f
 rw [if_neg (by omega), decide_eq_false (by omega), show (n + 31) / 32 + 68 = ((n + 31) / 32 + 67) + 1 by omega, samphireref04_Expand.j0, if_neg (by decide)]
 exact ref_expand_loop x0 x1 h0 h1 n _ rfl (by omega) _ 0 (by omega)
theorem hkdf_Expand_f (x0 x1 : ByteArray) (h0 : x0.size ≤ 1000000000) (h1 : x1.size ≤ 1000000000) (n : Nat) (hn : n ≤ 8160) : hkdf_Expand.f x0 x1 (n : Int) = some (txt ((expL (bys x0) (bys x1) ((n + 31) / 32)).take n), 0) := by
 unfold hkdf_Expand.f
 rw [if_neg (by omega), if_pos ⟨h0, h1⟩, Int.toNat_natCast]
end Go.Proofs.YtbkbganflnemeaaGreat.Pr
end

section
namespace Go.Proofs.YtbkbganflnemeaaGreat.Pr
open Go.RowKit Go.Deep Go.Proofs.YtbkbganflnemeaaGreatW.PrintWords Go.Proofs.YtbkbganflnemeaaGreatW.PrintLast Go.Proofs.YtbkbganflnemeaaGreatW.PrintMore
set_option maxHeartbeats 2000000
def fillZ (n : Nat) : Nat := (16 - n % 16) % 16
def fill16 (l : List Nat) : List Nat := l ++ List.replicate (fillZ l.length) 0
def fillT (T : List ByteArray) (k : Nat) : List Nat := (T.take k).flatMap fun t => fill16 (bys t)
theorem fillT_next (T : List ByteArray) (k : Nat) (hk : k < T.length) : fillT T (k + 1) = fillT T k ++ fill16 (bys (T.getD k ⟨#[]⟩)) := by
 unfold fillT
 rw [List.take_succ_eq_append_getElem hk, List.flatMap_append]
 simp [List.getD_eq_getElem?_getD, hk]
theorem fill16_length (l : List Nat) : (fill16 l).length ≤ l.length + 16 := by
 unfold fill16 fillZ
 rw [List.length_append, List.length_replicate]
 omega
theorem fillT_length (T : List ByteArray) (hT : ∀ t ∈ T, t.size ≤ 1000000) : ∀ k, k ≤ T.length → (fillT T k).length ≤ k * 1000016
  | 0, _ => by simp [fillT]
  | k + 1, hk => by
    have := fillT_length T hT k (by omega)
    have h2 := fill16_length (bys (T.getD k ⟨#[]⟩))
    have h3 : (T.getD k ⟨#[]⟩).size ≤ 1000000 := by
      rw [List.getD_eq_getElem?_getD, List.getElem?_eq_getElem (by omega)]
      exact hT _ (List.getElem_mem _)
    rw [fillT_next T k (by omega), List.length_append]
    rw [bys_length] at h2
    omega
theorem byteCells_txt (l m : List Nat) : Lib.byteCells (txt (l ++ m)).data.toList = Lib.byteCells (txt l).data.toList ++ Lib.strCells (txt m) := by
 simp [txt, Lib.byteCells, Lib.strCells]
theorem byteCells_len (l : List Nat) : (Lib.byteCells (txt l).data.toList).length = l.length := by
 simp [txt, Lib.byteCells]
set_option maxRecDepth 100000 in
theorem filled_calls (g c : Nat) (T : List ByteArray) (w : World) (hg : w.heap[g]? = some (.cells (T.map Value.string).toArray 9 (0, 0))) (hT : ∀ t ∈ T, t.size ≤ 1000000) (hl : T.length ≤ 10) (hc : T.length ≤ c) :
  Calls Tryz.prog 105 #[.slice (some ⟨g, 0, none⟩) T.length c] w fun e w' => e = .returned (.string (txt (fillT T T.length))) ∧ Below w.heap.size w w' := by
 have HG := Aside0.mk hg
 have HT := Aside0.mk hT
 clear hg hT
 go_enter Tryz.func105, Tryz.ntmps105
 go_wp2_with (fail)
 go_loopw [8] (fun i wr => ∃ k : Nat, k ≤ T.length ∧ i = .int .i64 k ∧ Aside0 (Lib.IsBuilder 113 5 w.heap.size w.heap.size (Lib.byteCells (txt (fillT T k)).data.toList) wr) ∧ Aside0 (Below w.heap.size w wr)) (fun i _ => T.length - (intOf i).toNat)
 case atStart => exact ⟨0, by omega, rfl, ⟨Lib.fresh_isBuilder _ _ w⟩, ⟨below_alloc (Below.refl _ _) _⟩⟩
 case round =>
  obtain ⟨k, hk, rfl, HI, HB⟩ := hrel
  by_cases hlt : k < T.length
  ·have hc0 : wr.cell? ⟨g, k, none⟩ = some (.string (T.getD k ⟨#[]⟩)) := by
    rw [blk_cell (blk_below HG.out HB.out) k]
    simp [hlt, List.getD_eq_getElem?_getD]
   have hts : (T.getD k ⟨#[]⟩).size ≤ 1000000 := by
    rw [List.getD_eq_getElem?_getD, List.getElem?_eq_getElem hlt]
    exact HT.out _ (List.getElem_mem _)
   have hfl := fillT_length T HT.out k (by omega)
   have HN := Aside0.mk (fillT_next T k hlt)
   generalize T.getD k ⟨#[]⟩ = t at hc0 hts HN
   generalize fillT T k = F at HI HN hfl
   have hFl : F.length ≤ 10000160 := by omega
   have HBL := Aside0.mk (byteCells_len F)
   clear hfl
   go_wp2_with (go_at_call 77; refine (Tryz.Builder_WriteString w.heap.size w.heap.size _ t _ HI.out (by rw [HBL.out]; omega) HB.out.size).mono ?_)
   rintro e w4 ⟨rfl, hI4, hb4⟩
   have HI4 := Aside0.mk hI4
   have HB4 := Aside0.mk (HB.out.trans hb4)
   clear hI4 hb4
   go_wp2_with (fail)
   have e16 : -((t.size : Int) % 16) % 16 = ((fillZ t.size : Nat) : Int) := by unfold fillZ; omega
   rw [e16]
   have hz : fillZ t.size ≤ 16 := by unfold fillZ; omega
   refine (Tryz.strings_Repeat (⟨#[0]⟩ : ByteArray) (fillZ t.size) _ (by omega) (by show 1 * _ ≤ _; omega)).mono ?_
   rw [txt_repeat]
   rintro e w5 ⟨rfl, hb5⟩
   generalize hV : txt (List.replicate (fillZ t.size) 0) = V
   have hVs : V.size ≤ 16 := by rw [← hV, txt_size, List.length_replicate]; exact hz
   have HV := Aside0.mk hV
   have HI5 : Aside0 (Lib.IsBuilder 113 5 w.heap.size w.heap.size (Lib.byteCells (txt F).data.toList ++ Lib.strCells t) w5) := ⟨isBuilder_below (.inr HI4.out) hb5⟩
   have HB5 := Aside0.mk (below_then HB4.out HB4.out.size hb5)
   have HSL : Aside0 ((Lib.byteCells (txt F).data.toList ++ Lib.strCells t).length = F.length + t.size) := ⟨by rw [List.length_append, HBL.out, Lib.strCells_length]⟩
   clear hV hb5 e16
   go_wp2_with (go_at_call 77; refine (Tryz.Builder_WriteString w.heap.size w.heap.size _ V _ HI5.out (by rw [HSL.out]; omega) HB5.out.size).mono ?_)
   rintro e w6 ⟨rfl, hI6, hb6⟩
   have HI6 := Aside0.mk hI6
   have HB6 := Aside0.mk (HB5.out.trans hb6)
   clear hI6 hb6
   go_wp2
   refine ⟨⟨k + 1, by omega, by go_num, ⟨?_⟩, HB6⟩, by simp [intOf]; omega⟩
   have e : Lib.byteCells (txt (fillT T (k + 1))).data.toList = Lib.byteCells (txt F).data.toList ++ Lib.strCells t ++ Lib.strCells V := by
    rw [HN.out, byteCells_txt, fill16, txt_append, txt_bys, ← HV.out, bys_length, List.append_assoc]
    congr 1
    simp [Lib.strCells, ByteArray.data_append]
   rw [e]
   exact .inr HI6.out
  ·obtain rfl : k = T.length := by omega
   clear hlt hk
   have HX : Aside0 ((⟨(txt (fillT T T.length)).data.toList.toArray⟩ : ByteArray) = txt (fillT T T.length)) := ⟨by simp⟩
   go_wp2_with (go_at_call 78; refine (Tryz.Builder_String_any w.heap.size w.heap.size _ _ HI.out HB.out.size).mono ?_; rw [HX.out]; rintro e w2 ⟨rfl, hb2⟩)
   go_ret
   exact ⟨rfl, HB.out.trans hb2⟩
end Go.Proofs.YtbkbganflnemeaaGreat.Pr
end

section
namespace Go.Proofs.YtbkbganflnemeaaGreat.Pr
open Go.RowKit Go.Proofs.YtbkbganflnemeaaGreatW.PrintWords Go.Proofs.YtbkbganflnemeaaGreatW.PrintLast Go.Proofs.YtbkbganflnemeaaGreatW.PrintMore
attribute [local go_sem] max2_int min2_int max_two min_two max_three min_three max_four min_four
def bits_RotateLeft32.f (a0 : Int) (a1 : Int) : Option (Int) := if 0 ≤ (Go.bits .and .u64 (IntKind.u64.wrap (a1)) 31) then (if 0 ≤ (IntKind.u64.wrap (32 - (Go.bits .and .u64 (IntKind.u64.wrap (a1)) 31))) then (some (Go.bits .or .u32 (shl .u32 a0 (Go.bits .and .u64 (IntKind.u64.wrap (a1)) 31)) (shr .u32 a0 (IntKind.u64.wrap (32 - (Go.bits .and .u64 (IntKind.u64.wrap (a1)) 31)))))) else (none)) else (none)
set_option maxHeartbeats 8000000 in
set_option maxRecDepth 100000 in
theorem bits_RotateLeft32.calls (a0 : Int) (a1 : Int) (r : Int) (w : World) (h : bits_RotateLeft32.f a0 a1 = some r) :
  Calls Tryz.prog 183 #[.int .u32 a0, .int .i64 a1] w fun e w' => e = .returned (.int .u32 r) ∧ Drawn0 w w' := by
 have H : (if 0 ≤ (Go.bits .and .u64 (IntKind.u64.wrap (a1)) 31) then (if 0 ≤ (IntKind.u64.wrap (32 - (Go.bits .and .u64 (IntKind.u64.wrap (a1)) 31))) then (some (Go.bits .or .u32 (shl .u32 a0 (Go.bits .and .u64 (IntKind.u64.wrap (a1)) 31)) (shr .u32 a0 (IntKind.u64.wrap (32 - (Go.bits .and .u64 (IntKind.u64.wrap (a1)) 31)))))) else (none)) else (none)) = some r := h; clear h; obtain ⟨ji3, hji3⟩ : ∃ j_ : Int, (Go.bits .and .u64 (IntKind.u64.wrap (a1)) 31) = j_ := ⟨_, rfl⟩; replace H : (if 0 ≤ (ji3) then (if 0 ≤ (IntKind.u64.wrap (32 - (ji3))) then (some (Go.bits .or .u32 (shl .u32 a0 (ji3)) (shr .u32 a0 (IntKind.u64.wrap (32 - (ji3)))))) else (none)) else (none)) = some r := by first | (rw [hji3] at H; exact H) | (simp only [hji3] at H ⊢; exact H)
 by_cases c4 : 0 ≤ (ji3)
 ·rw [if_pos c4] at H; have c4b0 := eq_true c4; have c4b1 : decide (0 ≤ (ji3)) = true := decide_eq_true c4; clear c4; obtain ⟨ji5, hji5⟩ : ∃ j_ : Int, (shl .u32 a0 (ji3)) = j_ := ⟨_, rfl⟩; replace H : (if 0 ≤ (IntKind.u64.wrap (32 - (ji3))) then (some (Go.bits .or .u32 (ji5) (shr .u32 a0 (IntKind.u64.wrap (32 - (ji3)))))) else (none)) = some r := by first | (rw [hji5] at H; exact H) | (simp only [hji5] at H ⊢; exact H)
  have hji5_ : (IntKind.u32.wrap (a0 * 2 ^ min (ji3).toNat 32)) = ji5 := hji5; have hji5z : (ji3) ≤ 32 → (IntKind.u32.wrap (a0 * 2 ^ (ji3).toNat)) = ji5 := shl_small hji5; obtain ⟨ji6, hji6⟩ : ∃ j_ : Int, (IntKind.u64.wrap (32 - (ji3))) = j_ := ⟨_, rfl⟩; replace H : (if 0 ≤ (ji6) then (some (Go.bits .or .u32 (ji5) (shr .u32 a0 (ji6)))) else (none)) = some r := by first | (rw [hji6] at H; exact H) | (simp only [hji6] at H ⊢; exact H)
  by_cases c7 : 0 ≤ (ji6)
  ·rw [if_pos c7] at H; have c7b0 := eq_true c7; have c7b1 : decide (0 ≤ (ji6)) = true := decide_eq_true c7; clear c7; obtain ⟨ji8, hji8⟩ : ∃ j_ : Int, (shr .u32 a0 (ji6)) = j_ := ⟨_, rfl⟩; replace H : (some (Go.bits .or .u32 (ji5) (ji8))) = some r := by first | (rw [hji8] at H; exact H) | (simp only [hji8] at H ⊢; exact H)
   have hji8_ : (a0 / 2 ^ min (ji6).toNat 32) = ji8 := hji8; have hji8z : (ji6) ≤ 32 → (a0 / 2 ^ (ji6).toNat) = ji8 := shr_small hji8; obtain rfl := Option.some.inj H; go_enter Tryz.func183, Tryz.ntmps183
   go_wp2; go_ret
   exact ⟨by first | rfl | (simp; done) | (simp only [← hji3, ← hji5, ← hji6, ← hji8] <;> (first | rfl | simp)) | (simp [*]; done), dz_⟩
  ·rw [if_neg c7] at H; exact absurd H (by simp)
 ·rw [if_neg c4] at H; exact absurd H (by simp)
end Go.Proofs.YtbkbganflnemeaaGreat.Pr
end

section
namespace Go.Proofs.YtbkbganflnemeaaGreat.Pr
open Go.RowKit Go.Proofs.YtbkbganflnemeaaGreatW.PrintWords
set_option maxHeartbeats 1000000
def qa1 (a b : Nat) : Nat := (a + b) % 4294967296
def qd1 (a b d : Nat) : Nat := rotr (d ^^^ qa1 a b) 16
def qc1 (a b c d : Nat) : Nat := (c + qd1 a b d) % 4294967296
def qb1 (a b c d : Nat) : Nat := rotr (b ^^^ qc1 a b c d) 20
def qa2 (a b c d : Nat) : Nat := (qa1 a b + qb1 a b c d) % 4294967296
def qd2 (a b c d : Nat) : Nat := rotr (qd1 a b d ^^^ qa2 a b c d) 24
def qc2 (a b c d : Nat) : Nat := (qc1 a b c d + qd2 a b c d) % 4294967296
def qb2 (a b c d : Nat) : Nat := rotr (qb1 a b c d ^^^ qc2 a b c d) 25
theorem xlt32 {a b : Nat} (ha : a < 4294967296) (hb : b < 4294967296) : a ^^^ b < 4294967296 := Nat.xor_lt_two_pow (n := 32) ha hb
theorem left_16 (x : Nat) (hx : x < 4294967296) : bits_RotateLeft32.f x 16 = some ((rotr x 16 : Nat) : Int) := by
 unfold bits_RotateLeft32.f
 rw [show Go.bits .and .u64 (IntKind.u64.wrap 16) 31 = 16 by decide +kernel, if_pos (by decide), show IntKind.u64.wrap (32 - 16) = 16 by decide +kernel, if_pos (by decide)]
 rw [show shl .u32 (x : Int) 16 = (x : Int) * ((65536 : Nat) : Int) % 4294967296 by unfold shl; rw [IntKind.wrap_u32]; rfl, show shr .u32 (x : Int) 16 = (x : Int) / ((65536 : Nat) : Int) from rfl, rot_or x 16 65536 65536 hx rfl rfl]
theorem left_12 (x : Nat) (hx : x < 4294967296) : bits_RotateLeft32.f x 12 = some ((rotr x 20 : Nat) : Int) := by
 unfold bits_RotateLeft32.f
 rw [show Go.bits .and .u64 (IntKind.u64.wrap 12) 31 = 12 by decide +kernel, if_pos (by decide), show IntKind.u64.wrap (32 - 12) = 20 by decide +kernel, if_pos (by decide)]
 rw [show shl .u32 (x : Int) 12 = (x : Int) * ((4096 : Nat) : Int) % 4294967296 by unfold shl; rw [IntKind.wrap_u32]; rfl, show shr .u32 (x : Int) 20 = (x : Int) / ((1048576 : Nat) : Int) from rfl, rot_or x 20 4096 1048576 hx rfl rfl]
theorem left_8 (x : Nat) (hx : x < 4294967296) : bits_RotateLeft32.f x 8 = some ((rotr x 24 : Nat) : Int) := by
 unfold bits_RotateLeft32.f
 rw [show Go.bits .and .u64 (IntKind.u64.wrap 8) 31 = 8 by decide +kernel, if_pos (by decide), show IntKind.u64.wrap (32 - 8) = 24 by decide +kernel, if_pos (by decide)]
 rw [show shl .u32 (x : Int) 8 = (x : Int) * ((256 : Nat) : Int) % 4294967296 by unfold shl; rw [IntKind.wrap_u32]; rfl, show shr .u32 (x : Int) 24 = (x : Int) / ((16777216 : Nat) : Int) from rfl, rot_or x 24 256 16777216 hx rfl rfl]
theorem left_7 (x : Nat) (hx : x < 4294967296) : bits_RotateLeft32.f x 7 = some ((rotr x 25 : Nat) : Int) := by
 unfold bits_RotateLeft32.f
 rw [show Go.bits .and .u64 (IntKind.u64.wrap 7) 31 = 7 by decide +kernel, if_pos (by decide), show IntKind.u64.wrap (32 - 7) = 25 by decide +kernel, if_pos (by decide)]
 rw [show shl .u32 (x : Int) 7 = (x : Int) * ((128 : Nat) : Int) % 4294967296 by unfold shl; rw [IntKind.wrap_u32]; rfl, show shr .u32 (x : Int) 25 = (x : Int) / ((33554432 : Nat) : Int) from rfl, rot_or x 25 128 33554432 hx rfl rfl]
theorem qbounds (a b c d : Nat) (ha : a < 4294967296) (hb : b < 4294967296) (hc : c < 4294967296) (hd : d < 4294967296) :
  qa1 a b < 4294967296 ∧ qd1 a b d < 4294967296 ∧ qc1 a b c d < 4294967296 ∧ qb1 a b c d < 4294967296 ∧ qa2 a b c d < 4294967296 ∧ qd2 a b c d < 4294967296 ∧ qc2 a b c d < 4294967296 ∧ qb2 a b c d < 4294967296 := by
 have hm : ∀ n : Nat, n % 4294967296 < 4294967296 := fun n => Nat.mod_lt _ (by decide)
 have hr : ∀ x n, x < 4294967296 → rotr x n < 4294967296 := fun x n h => rotr_lt x n h
 have k1 : qa1 a b < 4294967296 := hm _
 have k2 : qd1 a b d < 4294967296 := hr _ _ (xlt32 hd k1)
 have k3 : qc1 a b c d < 4294967296 := hm _
 have k4 : qb1 a b c d < 4294967296 := hr _ _ (xlt32 hb k3)
 have k5 : qa2 a b c d < 4294967296 := hm _
 have k6 : qd2 a b c d < 4294967296 := hr _ _ (xlt32 k2 k5)
 have k7 : qc2 a b c d < 4294967296 := hm _
 exact ⟨k1, k2, k3, k4, k5, k6, k7, hr _ _ (xlt32 k4 k7)⟩
set_option maxRecDepth 100000 in
theorem quarter_calls (a b c d : Nat) (w : World) (ha : a < 4294967296) (hb : b < 4294967296) (hc : c < 4294967296) (hd : d < 4294967296) :
  Calls Tryz.prog 148 #[.int .u32 a, .int .u32 b, .int .u32 c, .int .u32 d] w fun e w' => e = .returned (.tuple #[.int .u32 (qa2 a b c d : Nat), .int .u32 (qb2 a b c d : Nat), .int .u32 (qc2 a b c d : Nat), .int .u32 (qd2 a b c d : Nat)]) ∧ ∃ n, w' = w.drewN n := by
 obtain ⟨k1, k2, k3, k4, k5, k6, k7, k8⟩ := qbounds a b c d ha hb hc hd
 have e1 : ((a : Int) + b) % 4294967296 = ((qa1 a b : Nat) : Int) := by simp [qa1]
 have e2 : ((c : Int) + ((qd1 a b d : Nat) : Int)) % 4294967296 = ((qc1 a b c d : Nat) : Int) := by simp [qc1]
 have e3 : ((a : Int) + b + ((qb1 a b c d : Nat) : Int)) % 4294967296 = ((qa2 a b c d : Nat) : Int) := by simp [qa2, qa1]
 have e4 : ((c : Int) + ((qd1 a b d : Nat) : Int) + ((qd2 a b c d : Nat) : Int)) % 4294967296 = ((qc2 a b c d : Nat) : Int) := by simp [qc2, qc1]
 have c1 := Aside0.mk (show bits_RotateLeft32.f (Go.bits .xor .u32 d (((a : Int) + b) % 4294967296)) 16 = some ((qd1 a b d : Nat) : Int) by
  rw [e1, xor32 d _ hd k1]; exact left_16 _ (xlt32 hd k1))
 have c2 := Aside0.mk (show bits_RotateLeft32.f (Go.bits .xor .u32 b (((c : Int) + ((qd1 a b d : Nat) : Int)) % 4294967296)) 12 = some ((qb1 a b c d : Nat) : Int) by
  rw [e2, xor32 b _ hb k3]; exact left_12 _ (xlt32 hb k3))
 have c3 := Aside0.mk (show bits_RotateLeft32.f (Go.bits .xor .u32 ((qd1 a b d : Nat) : Int) (((a : Int) + b + ((qb1 a b c d : Nat) : Int)) % 4294967296)) 8 = some ((qd2 a b c d : Nat) : Int) by
  rw [e3, xor32 _ _ k2 k5]; exact left_8 _ (xlt32 k2 k5))
 have c4 := Aside0.mk (show bits_RotateLeft32.f (Go.bits .xor .u32 ((qb1 a b c d : Nat) : Int) (((c : Int) + ((qd1 a b d : Nat) : Int) + ((qd2 a b c d : Nat) : Int)) % 4294967296)) 7 = some ((qb2 a b c d : Nat) : Int) by
  rw [e4, xor32 _ _ k4 k7]; exact left_7 _ (xlt32 k4 k7))
 have E1 := Aside0.mk e1
 have E2 := Aside0.mk e2
 have E3 := Aside0.mk e3
 have E4 := Aside0.mk e4
 clear e1 e2 e3 e4 k1 k2 k3 k4 k5 k6 k7 k8 ha hb hc hd
 generalize qd1 a b d = d1 at *
 generalize qb1 a b c d = b1 at *
 generalize qd2 a b c d = d2 at *
 generalize qb2 a b c d = b2 at *
 go_enter Tryz.func148, Tryz.ntmps148
 go_wp2_with (fail)
 refine (bits_RotateLeft32.calls _ 16 _ _ c1.out).mono ?_
 rintro e w1 ⟨rfl, ⟨n1, rfl⟩⟩
 go_wp2_with (fail)
 refine (bits_RotateLeft32.calls _ 12 _ _ c2.out).mono ?_
 rintro e w1 ⟨rfl, ⟨n2, rfl⟩⟩
 go_wp2_with (fail)
 refine (bits_RotateLeft32.calls _ 8 _ _ c3.out).mono ?_
 rintro e w1 ⟨rfl, ⟨n3, rfl⟩⟩
 go_wp2_with (fail)
 refine (bits_RotateLeft32.calls _ 7 _ _ c4.out).mono ?_
 rintro e w1 ⟨rfl, ⟨n4, rfl⟩⟩
 go_wp2_with (fail)
 refine bodyPost_ret (results_list (rs := [.tmp 8, .tmp 9, .tmp 10, .tmp 11]) rfl (by simp) (.tmp (.tmp (.tmp (.tmp .nil))))) rfl ?_
 refine ⟨?_, n1 + n2 + n3 + n4, ?_⟩
 ·rw [← E4.out, ← E3.out]
  rfl
 ·simp only [World.drewN_drewN]
set_option maxRecDepth 100000 in
theorem rot_16 (x : Nat) (w : World) (hx : x < 4294967296) : Calls Tryz.prog 196 #[.int .i64 x, .int .i64 16] w fun e w' => e = .returned (.int .i64 (rotr x 16 : Nat)) ∧ ∃ n, w' = w.drewN n := by
 have h1 : bits .and .i64 16 31 = 16 := by kernel_rfl
 have h3 : bits .or .i64 ((x : Int) * 65536) ((x : Int) / 65536) = ((x * 65536 ||| x / 65536 : Nat) : Int) := by
  have := or62 (x * 65536) (x / 65536) (by omega) (by omega)
  rw [← this]; simp
 have hlt : x * 65536 ||| x / 65536 < 4611686018427387904 := by
  have h4 : x * 65536 < 2 ^ 62 := by omega
  have h5 : x / 65536 < 2 ^ 62 := by omega
  exact Nat.or_lt_two_pow h4 h5
 have hm : x % 4294967296 = x := Nat.mod_eq_of_lt hx
 have hm2 : (x : Int) % 4294967296 = x := by omega
 have HLT := Aside0.mk hlt
 clear hlt
 go_enter Tryz.func196, Tryz.ntmps196
 go_wp2
 go_quiet ((first | (go_at_call 120; exact Calls.quiet_of_same (word_any x _ (by omega))) | (go_at_call 120; exact Calls.quiet_of_same (word_any (x * 65536 ||| x / 65536) _ HLT.out))))
 go_wp2
 go_ret
 exact ⟨by first | exact congrArg (fun z => Ending.returned (Value.int .i64 z)) (congrArg (Nat.cast (R := Int)) (rot_or62 x 16 65536 65536 hx (by decide) (by decide) (by decide))) | (rw [← rot_or62 x 16 65536 65536 hx (by decide) (by decide) (by decide)]; simp), by first | exact ⟨_, rfl⟩ | exact ⟨_, World.drewN_drewN _ _ _⟩⟩
set_option maxRecDepth 100000 in
theorem rot_12 (x : Nat) (w : World) (hx : x < 4294967296) : Calls Tryz.prog 196 #[.int .i64 x, .int .i64 12] w fun e w' => e = .returned (.int .i64 (rotr x 20 : Nat)) ∧ ∃ n, w' = w.drewN n := by
 have h1 : bits .and .i64 12 31 = 12 := by kernel_rfl
 have h3 : bits .or .i64 ((x : Int) * 4096) ((x : Int) / 1048576) = ((x * 4096 ||| x / 1048576 : Nat) : Int) := by
  have := or62 (x * 4096) (x / 1048576) (by omega) (by omega)
  rw [← this]; simp
 have hlt : x * 4096 ||| x / 1048576 < 4611686018427387904 := by
  have h4 : x * 4096 < 2 ^ 62 := by omega
  have h5 : x / 1048576 < 2 ^ 62 := by omega
  exact Nat.or_lt_two_pow h4 h5
 have hm : x % 4294967296 = x := Nat.mod_eq_of_lt hx
 have hm2 : (x : Int) % 4294967296 = x := by omega
 have HLT := Aside0.mk hlt
 clear hlt
 go_enter Tryz.func196, Tryz.ntmps196
 go_wp2
 go_quiet ((first | (go_at_call 120; exact Calls.quiet_of_same (word_any x _ (by omega))) | (go_at_call 120; exact Calls.quiet_of_same (word_any (x * 4096 ||| x / 1048576) _ HLT.out))))
 go_wp2
 go_ret
 exact ⟨by first | exact congrArg (fun z => Ending.returned (Value.int .i64 z)) (congrArg (Nat.cast (R := Int)) (rot_or62 x 20 4096 1048576 hx (by decide) (by decide) (by decide))) | (rw [← rot_or62 x 20 4096 1048576 hx (by decide) (by decide) (by decide)]; simp), by first | exact ⟨_, rfl⟩ | exact ⟨_, World.drewN_drewN _ _ _⟩⟩
set_option maxRecDepth 100000 in
theorem rot_8 (x : Nat) (w : World) (hx : x < 4294967296) : Calls Tryz.prog 196 #[.int .i64 x, .int .i64 8] w fun e w' => e = .returned (.int .i64 (rotr x 24 : Nat)) ∧ ∃ n, w' = w.drewN n := by
 have h1 : bits .and .i64 8 31 = 8 := by kernel_rfl
 have h3 : bits .or .i64 ((x : Int) * 256) ((x : Int) / 16777216) = ((x * 256 ||| x / 16777216 : Nat) : Int) := by
  have := or62 (x * 256) (x / 16777216) (by omega) (by omega)
  rw [← this]; simp
 have hlt : x * 256 ||| x / 16777216 < 4611686018427387904 := by
  have h4 : x * 256 < 2 ^ 62 := by omega
  have h5 : x / 16777216 < 2 ^ 62 := by omega
  exact Nat.or_lt_two_pow h4 h5
 have hm : x % 4294967296 = x := Nat.mod_eq_of_lt hx
 have hm2 : (x : Int) % 4294967296 = x := by omega
 have HLT := Aside0.mk hlt
 clear hlt
 go_enter Tryz.func196, Tryz.ntmps196
 go_wp2
 go_quiet ((first | (go_at_call 120; exact Calls.quiet_of_same (word_any x _ (by omega))) | (go_at_call 120; exact Calls.quiet_of_same (word_any (x * 256 ||| x / 16777216) _ HLT.out))))
 go_wp2
 go_ret
 exact ⟨by first | exact congrArg (fun z => Ending.returned (Value.int .i64 z)) (congrArg (Nat.cast (R := Int)) (rot_or62 x 24 256 16777216 hx (by decide) (by decide) (by decide))) | (rw [← rot_or62 x 24 256 16777216 hx (by decide) (by decide) (by decide)]; simp), by first | exact ⟨_, rfl⟩ | exact ⟨_, World.drewN_drewN _ _ _⟩⟩
set_option maxRecDepth 100000 in
theorem rot_7 (x : Nat) (w : World) (hx : x < 4294967296) : Calls Tryz.prog 196 #[.int .i64 x, .int .i64 7] w fun e w' => e = .returned (.int .i64 (rotr x 25 : Nat)) ∧ ∃ n, w' = w.drewN n := by
 have h1 : bits .and .i64 7 31 = 7 := by kernel_rfl
 have h3 : bits .or .i64 ((x : Int) * 128) ((x : Int) / 33554432) = ((x * 128 ||| x / 33554432 : Nat) : Int) := by
  have := or62 (x * 128) (x / 33554432) (by omega) (by omega)
  rw [← this]; simp
 have hlt : x * 128 ||| x / 33554432 < 4611686018427387904 := by
  have h4 : x * 128 < 2 ^ 62 := by omega
  have h5 : x / 33554432 < 2 ^ 62 := by omega
  exact Nat.or_lt_two_pow h4 h5
 have hm : x % 4294967296 = x := Nat.mod_eq_of_lt hx
 have hm2 : (x : Int) % 4294967296 = x := by omega
 have HLT := Aside0.mk hlt
 clear hlt
 go_enter Tryz.func196, Tryz.ntmps196
 go_wp2
 go_quiet ((first | (go_at_call 120; exact Calls.quiet_of_same (word_any x _ (by omega))) | (go_at_call 120; exact Calls.quiet_of_same (word_any (x * 128 ||| x / 33554432) _ HLT.out))))
 go_wp2
 go_ret
 exact ⟨by first | exact congrArg (fun z => Ending.returned (Value.int .i64 z)) (congrArg (Nat.cast (R := Int)) (rot_or62 x 25 128 33554432 hx (by decide) (by decide) (by decide))) | (rw [← rot_or62 x 25 128 33554432 hx (by decide) (by decide) (by decide)]; simp), by first | exact ⟨_, rfl⟩ | exact ⟨_, World.drewN_drewN _ _ _⟩⟩
end Go.Proofs.YtbkbganflnemeaaGreat.Pr
end

section
namespace Go.Proofs.YtbkbganflnemeaaGreat.Pr
open Go.RowKit Go.Proofs.YtbkbganflnemeaaGreatW.PrintWords Go.Proofs.YtbkbganflnemeaaGreatW.PrintLast Go.Proofs.YtbkbganflnemeaaGreatW.PrintMore
attribute [local go_sem] max2_int min2_int max_two min_two max_three min_three max_four min_four
def chacha_small.f (a0 : ByteArray) : Option (Int) := if 3 < (a0.size : Int) then (if 2 < (a0.size : Int) then (if 1 < (a0.size : Int) then (if 0 < (a0.size : Int) then (some (Go.bits .or .u32 (Go.bits .or .u32 (Go.bits .or .u32 ((((bt a0 3) % 4294967296) * 16777216) % 4294967296) ((((bt a0 2) % 4294967296) * 65536) % 4294967296)) ((((bt a0 1) % 4294967296) * 256) % 4294967296)) ((bt a0 0) % 4294967296))) else (none)) else (none)) else (none)) else (none)
set_option maxHeartbeats 8000000 in
set_option maxRecDepth 100000 in
theorem chacha_small.calls (a0 : ByteArray) (r : Int) (w : World) (h : chacha_small.f a0 = some r) :
  Calls Tryz.prog 147 #[.string a0] w fun e w' => e = .returned (.int .u32 r) ∧ Drawn0 w w' := by
 have H : (if 3 < (a0.size : Int) then (if 2 < (a0.size : Int) then (if 1 < (a0.size : Int) then (if 0 < (a0.size : Int) then (some (Go.bits .or .u32 (Go.bits .or .u32 (Go.bits .or .u32 ((((bt a0 3) % 4294967296) * 16777216) % 4294967296) ((((bt a0 2) % 4294967296) * 65536) % 4294967296)) ((((bt a0 1) % 4294967296) * 256) % 4294967296)) ((bt a0 0) % 4294967296))) else (none)) else (none)) else (none)) else (none)) = some r := h; clear h; by_cases c2 : 3 < (a0.size : Int)
 ·rw [if_pos c2] at H; have c2b0 : decide (3 < (a0.size : Int)) = true := decide_eq_true c2; have c2b1 : decide (3 < a0.size) = true := decide_eq_true (by omega); clear c2; by_cases c4 : 2 < (a0.size : Int)
  ·rw [if_pos c4] at H; have c4b0 : decide (2 < (a0.size : Int)) = true := decide_eq_true c4; have c4b1 : decide (2 < a0.size) = true := decide_eq_true (by omega); clear c4; by_cases c6 : 1 < (a0.size : Int)
   ·rw [if_pos c6] at H; have c6b0 : decide (1 < (a0.size : Int)) = true := decide_eq_true c6; have c6b1 : decide (1 < a0.size) = true := decide_eq_true (by omega); clear c6; by_cases c8 : 0 < (a0.size : Int)
    ·rw [if_pos c8] at H; have c8b0 : decide (0 < (a0.size : Int)) = true := decide_eq_true c8; have c8b1 : decide (0 < a0.size) = true := decide_eq_true (by omega); clear c8; obtain rfl := Option.some.inj H; have p3 : 0 ≤ (3 : Int) := (by omega); have q3 : 3 < a0.size := (by have : (3 : Int) < (a0.size : Int) := of_decide_eq_true as_'; omega); have hx3 : ∀ h : 3 < a0.size, ((a0[3]'h).toNat : Int) = bt a0 3 := bt_at a0 3; clear p3; have qi3 : (3 < (a0.size : Int)) = True := eq_true (of_decide_eq_true as_'); replace q3 := eq_true q3; have p5 : 0 ≤ (2 : Int) := (by omega); have q5 : 2 < a0.size := (by have : (2 : Int) < (a0.size : Int) := of_decide_eq_true as_'; omega); have hx5 : ∀ h : 2 < a0.size, ((a0[2]'h).toNat : Int) = bt a0 2 := bt_at a0 2; clear p5; have qi5 : (2 < (a0.size : Int)) = True := eq_true (of_decide_eq_true as_'); replace q5 := eq_true q5; have p7 : 0 ≤ (1 : Int) := (by omega); have q7 : 1 < a0.size := (by have : (1 : Int) < (a0.size : Int) := of_decide_eq_true as_'; omega); have hx7 : ∀ h : 1 < a0.size, ((a0[1]'h).toNat : Int) = bt a0 1 := bt_at a0 1; clear p7; have qi7 : (1 < (a0.size : Int)) = True := eq_true (of_decide_eq_true as_'); replace q7 := eq_true q7; have p9 : 0 ≤ (0 : Int) := (by omega); have q9 : 0 < a0.size := (by have : (0 : Int) < (a0.size : Int) := of_decide_eq_true as_'; omega); have hx9 : ∀ h : 0 < a0.size, ((a0[0]'h).toNat : Int) = bt a0 0 := bt_at a0 0; clear p9; have qi9 : (0 < (a0.size : Int)) = True := eq_true (of_decide_eq_true as_'); replace q9 := eq_true q9; go_enter Tryz.func147, Tryz.ntmps147
     go_wp2; repeat (go_quiet (fail); try go_wp2)
     go_ret
     exact ⟨rz_, dz_⟩
    ·rw [if_neg c8] at H; exact absurd H (by simp)
   ·rw [if_neg c6] at H; exact absurd H (by simp)
  ·rw [if_neg c4] at H; exact absurd H (by simp)
 ·rw [if_neg c2] at H; exact absurd H (by simp)
end Go.Proofs.YtbkbganflnemeaaGreat.Pr
end

section
namespace Go.Proofs.YtbkbganflnemeaaGreat.Pr
open Go.RowKit Go.Proofs.YtbkbganflnemeaaGreatW.PrintWords
set_option maxHeartbeats 1000000
def qr (l : List Nat) (i j k m : Nat) : List Nat :=
 (((l.set i (qa2 (l.getD i 0) (l.getD j 0) (l.getD k 0) (l.getD m 0))).set j (qb2 (l.getD i 0) (l.getD j 0) (l.getD k 0) (l.getD m 0))).set k (qc2 (l.getD i 0) (l.getD j 0) (l.getD k 0) (l.getD m 0))).set m (qd2 (l.getD i 0) (l.getD j 0) (l.getD k 0) (l.getD m 0))
def Small (l : List Nat) : Prop := ∀ i, l.getD i 0 < 4294967296
theorem qr_length (l : List Nat) (i j k m : Nat) : (qr l i j k m).length = l.length := by simp [qr]
theorem Small.set {l : List Nat} (h : Small l) (i : Nat) {v : Nat} (hv : v < 4294967296) : Small (l.set i v) := by
 intro j
 rw [List.getD_eq_getElem?_getD, List.getElem?_set]
 split
 ·split
  ·simpa using hv
  ·simp
 ·rw [← List.getD_eq_getElem?_getD]; exact h j
theorem qr_small {l : List Nat} (h : Small l) (i j k m : Nat) : Small (qr l i j k m) := by
 obtain ⟨k1, k2, k3, k4, k5, k6, k7, k8⟩ := qbounds _ _ _ _ (h i) (h j) (h k) (h m)
 exact (((h.set i k5).set j k8).set k k7).set m k6
def col (l : List Nat) : Nat → List Nat
 | 0 => l
 | k + 1 => qr (col l k) k (k + 4) (k + 8) (k + 12)
def dia (l : List Nat) : Nat → List Nat
 | 0 => l
 | k + 1 => qr (dia l k) k (4 + (k + 1) % 4) (8 + (k + 2) % 4) (12 + (k + 3) % 4)
def dbl (l : List Nat) : Nat → List Nat
 | 0 => l
 | n + 1 => dia (col (dbl l n) 4) 4
theorem col_length (l : List Nat) : ∀ k, (col l k).length = l.length
 | 0 => rfl
 | k + 1 => by rw [col, qr_length, col_length l k]
theorem dia_length (l : List Nat) : ∀ k, (dia l k).length = l.length
 | 0 => rfl
 | k + 1 => by rw [dia, qr_length, dia_length l k]
theorem dbl_length (l : List Nat) : ∀ k, (dbl l k).length = l.length
 | 0 => rfl
 | k + 1 => by rw [dbl, dia_length, col_length, dbl_length l k]
theorem col_small {l : List Nat} (h : Small l) : ∀ k, Small (col l k)
 | 0 => h
 | k + 1 => qr_small (col_small h k) _ _ _ _
theorem dia_small {l : List Nat} (h : Small l) : ∀ k, Small (dia l k)
 | 0 => h
 | k + 1 => qr_small (dia_small h k) _ _ _ _
theorem dbl_small {l : List Nat} (h : Small l) : ∀ k, Small (dbl l k)
 | 0 => h
 | k + 1 => dia_small (col_small (dbl_small h k) 4) 4
theorem dbl_step (l : List Nat) (n : Nat) : dbl l (n + 1) =
  qr (qr (qr (qr (qr (qr (qr (qr (dbl l n) 0 4 8 12) 1 5 9 13) 2 6 10 14) 3 7 11 15) 0 5 10 15) 1 6 11 12) 2 7 8 13) 3 4 9 14 := rfl
def le4 (x : Nat) : List Nat := [x % 256, x / 256 % 256, x / 65536 % 256, x / 16777216 % 256]
def lw4 (l : List Nat) (i : Nat) : Nat := l.getD i 0 + l.getD (i + 1) 0 * 256 + l.getD (i + 2) 0 * 65536 + l.getD (i + 3) 0 * 16777216
def chaW (key nonce : List Nat) (n : Nat) : List Nat :=
 [1634760805, 857760878, 2036477234, 1797285236, lw4 key 0, lw4 key 4, lw4 key 8, lw4 key 12, lw4 key 16, lw4 key 20, lw4 key 24, lw4 key 28, n % 4294967296, lw4 nonce 0, lw4 nonce 4, lw4 nonce 8]
theorem chaW_length (key nonce : List Nat) (n : Nat) : (chaW key nonce n).length = 16 := rfl
theorem chaW_key (key nonce : List Nat) (n k : Nat) (hk : k < 8) : (chaW key nonce n).getD (4 + k) 0 = lw4 key (4 * k) := by
 have : k = 0 ∨ k = 1 ∨ k = 2 ∨ k = 3 ∨ k = 4 ∨ k = 5 ∨ k = 6 ∨ k = 7 := by omega
 unfold chaW
 rcases this with h | h | h | h | h | h | h | h <;> (rw [h]; simp only [Nat.reduceAdd, Nat.reduceMul, List.getD_cons_succ, List.getD_cons_zero])
theorem chaW_count (key nonce : List Nat) (n : Nat) : (chaW key nonce n).getD 12 0 = n % 4294967296 := by
 unfold chaW
 simp only [List.getD_cons_succ, List.getD_cons_zero]
theorem chaW_nonce (key nonce : List Nat) (n k : Nat) (hk : k < 3) : (chaW key nonce n).getD (13 + k) 0 = lw4 nonce (4 * k) := by
 have : k = 0 ∨ k = 1 ∨ k = 2 := by omega
 unfold chaW
 rcases this with h | h | h <;> (rw [h]; simp only [Nat.reduceAdd, Nat.reduceMul, List.getD_cons_succ, List.getD_cons_zero])
def headL : List Nat := [101, 120, 112, 97, 110, 100, 32, 51, 50, 45, 98, 121, 116, 101, 32, 107]
theorem headL_lw : lw4 headL 0 = 1634760805 ∧ lw4 headL 4 = 857760878 ∧ lw4 headL 8 = 2036477234 ∧ lw4 headL 12 = 1797285236 := by decide +kernel
theorem chaW_head (key nonce : List Nat) (n k : Nat) (hk : k < 4) : (chaW key nonce n).getD k 0 = lw4 headL (4 * k) := by
 have : k = 0 ∨ k = 1 ∨ k = 2 ∨ k = 3 := by omega
 obtain ⟨h0, h1, h2, h3⟩ := headL_lw
 unfold chaW
 rcases this with h | h | h | h <;> (rw [h]; simp only [Nat.reduceMul, List.getD_cons_succ, List.getD_cons_zero]; first | exact h0.symm | exact h1.symm | exact h2.symm | exact h3.symm)
theorem lw4_lt (l : List Nat) (hb : ∀ i, l.getD i 0 < 256) (i : Nat) : lw4 l i < 4294967296 := by
 unfold lw4
 have := hb i
 have := hb (i + 1)
 have := hb (i + 2)
 have := hb (i + 3)
 omega
theorem chaW_small (a b : ByteArray) (n : Nat) : Small (chaW (bys a) (bys b) n) := by
 have hk := fun i => lw4_lt (bys a) (bys_lt a) i
 have hn := fun i => lw4_lt (bys b) (bys_lt b) i
 intro i
 unfold chaW
 rcases i with _ | _ | _ | _ | _ | _ | _ | _ | _ | _ | _ | _ | _ | _ | _ | _ | i <;> simp only [List.getD_cons_succ, List.getD_cons_zero, List.getD_nil] <;> first | exact hk _ | exact hn _ | exact Nat.mod_lt _ (by decide) | decide
def chaL (key nonce : List Nat) (n : Nat) : List Nat :=
 (List.range 16).flatMap fun k => le4 (((chaW key nonce n).getD k 0 + (dbl (chaW key nonce n) 10).getD k 0) % 4294967296)
theorem small_f (s : ByteArray) (hs : 4 ≤ s.size) : chacha_small.f s = some (lw4 (bys s) 0 : Nat) := by
 unfold chacha_small.f
 rw [if_pos (by omega), if_pos (by omega), if_pos (by omega), if_pos (by omega)]
 have h0 := bt_nat s 0 (by omega)
 have h1 := bt_nat s 1 (by omega)
 have h2 := bt_nat s 2 (by omega)
 have h3 := bt_nat s 3 (by omega)
 rw [show bt s 0 = ((bys s).getD 0 0 : Nat) from h0, show bt s 1 = ((bys s).getD 1 0 : Nat) from h1, show bt s 2 = ((bys s).getD 2 0 : Nat) from h2, show bt s 3 = ((bys s).getD 3 0 : Nat) from h3,
  or_be4 _ _ _ _ (bys_lt s 3) (bys_lt s 2) (bys_lt s 1) (bys_lt s 0)]
 unfold lw4
 simp only [Nat.zero_add]
 congr 2
 omega
theorem small_calls (s : ByteArray) (w : World) (hs : 4 ≤ s.size) : Calls Tryz.prog 147 #[.string s] w fun e w' => e = .returned (.int .u32 (lw4 (bys s) 0 : Nat)) ∧ ∃ n, w' = w.drewN n :=
 (chacha_small.calls s _ w (small_f s hs)).mono fun _ _ h => ⟨h.1, h.2.out⟩
theorem lw4_drop (l : List Nat) (i : Nat) : lw4 (l.drop i) 0 = lw4 l i := by
 unfold lw4
 simp only [List.getD_eq_getElem?_getD, List.getElem?_drop, Nat.zero_add, Nat.add_zero]
end Go.Proofs.YtbkbganflnemeaaGreat.Pr
end

section
namespace Go.Proofs.YtbkbganflnemeaaGreat.Pr
open Go.RowKit Go.Proofs.YtbkbganflnemeaaGreatW.PrintWords Go.Proofs.YtbkbganflnemeaaGreatW.PrintLast
set_option maxHeartbeats 1000000
def fillC (W : List Nat) (k : Nat) : List Nat := W.take k ++ List.replicate (16 - k) 0
theorem fillC_length (W : List Nat) (k : Nat) (hW : W.length = 16) (hk : k ≤ 16) : (fillC W k).length = 16 := by
 unfold fillC
 rw [List.length_append, List.length_take, List.length_replicate]
 omega
theorem fillC_set (W : List Nat) (k v : Nat) (hW : W.length = 16) (hk : k < 16) (hv : W.getD k 0 = v) : (fillC W k).set k v = fillC W (k + 1) := by
 unfold fillC
 have hT : (W.take k).length = k := by rw [List.length_take]; omega
 rw [List.set_append_right _ _ (by omega), hT, Nat.sub_self, show 16 - k = (16 - (k + 1)) + 1 by omega, List.replicate_succ, List.set_cons_zero,
  List.take_succ_eq_append_getElem (by omega), List.append_assoc]
 rw [← hv]
 simp [show k < W.length by omega]
theorem fillC_full (W : List Nat) (hW : W.length = 16) : fillC W 16 = W := by
 unfold fillC
 rw [List.take_of_length_le (by omega)]
 simp
theorem fillC_get (W : List Nat) (k i : Nat) (hW : W.length = 16) (hk : k ≤ 16) (hi : i < 16) : ∃ v : Nat, (u32s (fillC W k))[i]? = some (.int .u32 (v : Int)) :=
 ⟨_, u32s_get _ _ (by rw [fillC_length W k hW hk]; omega)⟩
theorem lw4_take (l : List Nat) (n : Nat) (h : 4 ≤ n) : lw4 (l.take n) 0 = lw4 l 0 := by
 unfold lw4
 simp only [List.getD_eq_getElem?_getD, List.getElem?_take, Nat.zero_add]
 rw [if_pos (by omega), if_pos (by omega), if_pos (by omega), if_pos (by omega)]
structure ChA (w : World) (l : List Nat) (W : World) : Prop where
 below : Below w.heap.size w W
 out : W.heap[w.heap.size]? = some (.cells (u8s (List.replicate 64 0)) 140 (0, 0))
 row : W.heap[w.heap.size + 1]? = some (.cells (u32s l) 175 (0, 0))
theorem ChA.set {w W : World} {l : List Nat} (h : ChA w l W) (n k v : Nat) : ChA w (l.set k v) ((W.drewN n).setCell ⟨w.heap.size + 1, k, none⟩ (.int .u32 (v : Int))) :=
 ⟨below_set (pw_below_drewN h.below n) (by omega), blk_far (blk_drewN h.out n) (by simp) _, blk_put (blk_drewN h.row n) k _ (u32s_set l k v)⟩
theorem ChA.set0 {w W : World} {l : List Nat} (h : ChA w l W) (k v : Nat) : ChA w (l.set k v) (W.setCell ⟨w.heap.size + 1, k, none⟩ (.int .u32 (v : Int))) :=
 ⟨below_set h.below (by omega), blk_far h.out (by simp) _, blk_put h.row k _ (u32s_set l k v)⟩
theorem ChA.cell {w W : World} {L : List Nat} {k : Nat} (h : ChA w (fillC L k) W) (hL : L.length = 16) (hk : k ≤ 16) (i : Nat) (hi : i < 16) : (∃ v : Nat, W.cell? ⟨w.heap.size + 1, i, none⟩ = some (.int .u32 (v : Int))) ∧ W.frozen? ⟨w.heap.size + 1, i, none⟩ = false := by
 obtain ⟨v, hv⟩ := fillC_get L k i hL hk hi
 exact ⟨⟨v, (blk_cell h.row i).trans hv⟩, blk_frozen h.row i⟩
theorem ChA.next {w W : World} {L : List Nat} {k v : Nat} (h : ChA w ((fillC L k).set k v) W) (hL : L.length = 16) (hk : k < 16) (hv : L.getD k 0 = v) : ChA w (fillC L (k + 1)) W := by
 rw [← fillC_set L k v hL hk hv]; exact h
theorem ChA.start (w : World) (L : List Nat) : ChA w (fillC L 0) ((w.alloc (.cells (u8s (List.replicate 64 0)) 140)).alloc (.cells (u32s (List.replicate 16 0)) 175)) := by
 refine ⟨below_alloc (below_alloc (Below.refl _ _) _) _, blk_alloc (blk_new _ _) _, ?_⟩
 have := blk_new (w.alloc (.cells (u8s (List.replicate 64 0)) 140)) (.cells (u32s (List.replicate 16 0)) 175)
 rw [show (w.alloc (.cells (u8s (List.replicate 64 0)) 140)).heap.size = w.heap.size + 1 by simp] at this
 rw [show fillC L 0 = List.replicate 16 0 by simp [fillC]]
 exact this
structure ChR (w : World) (g : Nat) (L l : List Nat) (W : World) : Prop where
 a : ChA w l W
 gt : w.heap.size + 1 < g
 was : W.heap[g]? = some (.cells (u32s L) 175 (0, 0))
theorem ChR.set {w W : World} {g : Nat} {L l : List Nat} (h : ChR w g L l W) (n k v : Nat) : ChR w g L (l.set k v) ((W.drewN n).setCell ⟨w.heap.size + 1, k, none⟩ (.int .u32 (v : Int))) :=
 ⟨h.a.set n k v, h.gt, blk_far (blk_drewN h.was n) (by have := h.gt; simp; omega) _⟩
theorem ChR.set0 {w W : World} {g : Nat} {L l : List Nat} (h : ChR w g L l W) (k v : Nat) : ChR w g L (l.set k v) (W.setCell ⟨w.heap.size + 1, k, none⟩ (.int .u32 (v : Int))) :=
 ⟨h.a.set0 k v, h.gt, blk_far h.was (by have := h.gt; simp; omega) _⟩
structure Quad (L : List Nat) (i j k m x y z v : Nat) : Prop where
 ea : L.getD i 0 = x
 eb : L.getD j 0 = y
 ec : L.getD k 0 = z
 ed : L.getD m 0 = v
 la : x < 4294967296
 lb : y < 4294967296
 lc : z < 4294967296
 ld : v < 4294967296
theorem Quad.eq {l : List Nat} {i j k m x y z v : Nat} (h : Quad l i j k m x y z v) : (((l.set i (qa2 x y z v)).set j (qb2 x y z v)).set k (qc2 x y z v)).set m (qd2 x y z v) = qr l i j k m := by
 unfold qr
 rw [h.ea, h.eb, h.ec, h.ed]
theorem ChR.quad {w W : World} {g : Nat} {L l : List Nat} {i j k m x y z v : Nat} (h : ChR w g L l W) (hq : Quad l i j k m x y z v) (n : Nat) : ChR w g L (qr l i j k m) (((((W.drewN n).setCell ⟨w.heap.size + 1, i, none⟩ (.int .u32 (qa2 x y z v : Nat))).setCell ⟨w.heap.size + 1, j, none⟩ (.int .u32 (qb2 x y z v : Nat))).setCell ⟨w.heap.size + 1, k, none⟩ (.int .u32 (qc2 x y z v : Nat))).setCell ⟨w.heap.size + 1, m, none⟩ (.int .u32 (qd2 x y z v : Nat))) := by
 rw [← hq.eq]
 exact (((h.set n i _).set0 j _).set0 k _).set0 m _
theorem ChR.four {w W : World} {g : Nat} {L l : List Nat} (h : ChR w g L l W) (hs : Small l) (hl : l.length = 16) (i j k m : Nat) (hi : i < 16) (hj : j < 16) (hk : k < 16) (hm : m < 16) :
  ∃ a b c d : Nat, Quad l i j k m a b c d ∧ W.cell? ⟨w.heap.size + 1, i, none⟩ = some (.int .u32 (a : Int)) ∧ W.cell? ⟨w.heap.size + 1, j, none⟩ = some (.int .u32 (b : Int)) ∧ W.cell? ⟨w.heap.size + 1, k, none⟩ = some (.int .u32 (c : Int)) ∧ W.cell? ⟨w.heap.size + 1, m, none⟩ = some (.int .u32 (d : Int)) ∧
   W.frozen? ⟨w.heap.size + 1, i, none⟩ = false ∧ W.frozen? ⟨w.heap.size + 1, j, none⟩ = false ∧ W.frozen? ⟨w.heap.size + 1, k, none⟩ = false ∧ W.frozen? ⟨w.heap.size + 1, m, none⟩ = false :=
 ⟨_, _, _, _, ⟨rfl, rfl, rfl, rfl, hs i, hs j, hs k, hs m⟩, (blk_cell h.a.row i).trans (u32s_get l i (by omega)), (blk_cell h.a.row j).trans (u32s_get l j (by omega)), (blk_cell h.a.row k).trans (u32s_get l k (by omega)), (blk_cell h.a.row m).trans (u32s_get l m (by omega)), blk_frozen h.a.row i, blk_frozen h.a.row j, blk_frozen h.a.row k, blk_frozen h.a.row m⟩
def chaO (L : List Nat) : List Nat := (List.range 16).flatMap fun k => le4 ((L.getD k 0 + (dbl L 10).getD k 0) % 4294967296)
def outC (f : Nat → Nat) (k : Nat) : List Nat := (List.range k).flatMap (fun i => le4 (f i)) ++ List.replicate (64 - 4 * k) 0
theorem flatC_length (f : Nat → Nat) (k : Nat) : ((List.range k).flatMap (fun i => le4 (f i))).length = 4 * k := by
 induction k with
 | zero => rfl
 | succ k ih => rw [List.range_succ, List.flatMap_append, List.length_append, ih]; simp [le4]; omega
theorem outC_length (f : Nat → Nat) (k : Nat) (hk : k ≤ 16) : (outC f k).length = 64 := by
 unfold outC
 rw [List.length_append, flatC_length, List.length_replicate]
 omega
theorem outC_set (f : Nat → Nat) (k : Nat) (hk : k < 16) :
  ((((outC f k).set (4 * k) (f k % 256)).set (4 * k + 1) (f k / 256 % 256)).set (4 * k + 2) (f k / 65536 % 256)).set (4 * k + 3) (f k / 16777216 % 256) = outC f (k + 1) := by
 have hF := flatC_length f k
 have hr : List.replicate (64 - 4 * k) 0 = 0 :: 0 :: 0 :: 0 :: List.replicate (64 - 4 * (k + 1)) 0 := by
  rw [show 64 - 4 * k = (64 - 4 * (k + 1)) + 1 + 1 + 1 + 1 by omega]; rfl
 unfold outC
 rw [List.range_succ, List.flatMap_append, hr]
 generalize (List.range k).flatMap (fun i => le4 (f i)) = F at hF
 rw [List.set_append_right _ _ (by omega), List.set_append_right _ _ (by omega), List.set_append_right _ _ (by omega), List.set_append_right _ _ (by omega)]
 rw [show 4 * k - F.length = 0 by omega, show 4 * k + 1 - F.length = 1 by omega, show 4 * k + 2 - F.length = 2 by omega, show 4 * k + 3 - F.length = 3 by omega]
 simp [le4]
theorem outC_full (f : Nat → Nat) : outC f 16 = (List.range 16).flatMap (fun i => le4 (f i)) := by simp [outC]
structure ChO (w : World) (g2 g3 : Nat) (L o : List Nat) (W : World) : Prop where
 below : Below w.heap.size w W
 out : W.heap[w.heap.size]? = some (.cells (u8s (List.replicate 64 0)) 140 (0, 0))
 was : W.heap[g2]? = some (.cells (u32s L) 175 (0, 0))
 row : W.heap[g3]? = some (.cells (u8s o) 140 (0, 0))
 lt2 : w.heap.size + 1 < g2
 lt3 : g2 < g3
theorem ChO.set0 {w W : World} {g2 g3 : Nat} {L o : List Nat} (h : ChO w g2 g3 L o W) (k v : Nat) : ChO w g2 g3 L (o.set k v) (W.setCell ⟨g3, k, none⟩ (.int .u8 (v : Int))) := by
 have h2 := h.lt2
 have h3 := h.lt3
 exact ⟨below_set h.below (by omega), blk_far h.out (by simp; omega) _, blk_far h.was (by simp; omega) _, blk_put h.row k _ (u8s_set o k v), h2, h3⟩
theorem ChO.step {w W : World} {g2 g3 : Nat} {L : List Nat} {f : Nat → Nat} {k : Nat} (h : ChO w g2 g3 L (outC f k) W) (hk : k < 16) (x : Nat) (hx : f k = x) : ChO w g2 g3 L (outC f (k + 1))
  ((((W.setCell ⟨g3, 4 * k, none⟩ (.int .u8 ((x : Int) % 256))).setCell ⟨g3, 4 * k + 1, none⟩ (.int .u8 ((x : Int) / 256 % 256))).setCell ⟨g3, 4 * k + 2, none⟩ (.int .u8 ((x : Int) / 65536 % 256))).setCell ⟨g3, 4 * k + 3, none⟩ (.int .u8 ((x : Int) / 16777216 % 256))) := by
 rw [← outC_set f k hk, hx]
 exact (((h.set0 (4 * k) (x % 256)).set0 (4 * k + 1) (x / 256 % 256)).set0 (4 * k + 2) (x / 65536 % 256)).set0 (4 * k + 3) (x / 16777216 % 256)
theorem ChO.cell {w W : World} {g2 g3 : Nat} {L : List Nat} {f : Nat → Nat} {k : Nat} (h : ChO w g2 g3 L (outC f k) W) (hk : k ≤ 16) (i : Nat) (hi : i < 64) : (∃ v : Nat, W.cell? ⟨g3, i, none⟩ = some (.int .u8 (v : Int))) ∧ W.frozen? ⟨g3, i, none⟩ = false :=
 ⟨⟨_, (blk_cell h.row i).trans (u8s_get _ i (by rw [outC_length f k hk]; exact hi))⟩, blk_frozen h.row i⟩
theorem u8s_one (l : List Nat) : (u8s l).all (·.oneCell') = true := by
 simp [u8s, Value.oneCell']
theorem index_u32 (D : List Nat) (hD : D.length = 16) (k : Nat) (hk : k < 16) (w : World) : (Instr.index 175 (.agg (u32s D)) (.int .i64 (k : Int))).run Tryz.prog w = .ok (.int .u32 (D.getD k 0 : Nat)) w := by
 refine index_row (D.map fun (n : Nat) => Value.int .u32 (n : Int)) 175 166 16 Tryz.underlying175 (by kernel_rfl) ?_ k _ ?_ (by simpa using hD) ⟨_, Tryz.underlying166, rfl⟩ w
 ·intro v hv
  rw [List.mem_map] at hv
  obtain ⟨n, _, rfl⟩ := hv
  simp [Value.cells]
 ·rw [List.getElem?_map, List.getElem?_eq_getElem (by omega), List.getD_eq_getElem?_getD, List.getElem?_eq_getElem (by omega)]
  rfl
set_option maxRecDepth 100000 in
theorem chacha_bytes_calls (a0 a1 : ByteArray) (m : Nat) (w : World) (h0 : a0.size = 32) (h1 : a1.size = 12) (hm : m < 4294967296) :
  Calls Tryz.prog 102 #[.string a0, .string a1, .int .i64 m] w fun e w' => e = .returned (.agg (u8s (chaL (bys a0) (bys a1) m))) ∧ Below w.heap.size w w' := by
 have hinf : (Tryz.prog.info? 140).map (·.size) = some 64 := by kernel_rfl
 have HI := Aside0.mk hinf
 clear hinf
 have HW := Aside0.mk (chaW_length (bys a0) (bys a1) m)
 have HSm := Aside0.mk (chaW_small a0 a1 m)
 have W1 := Aside0.mk (fun k (hk : k < 4) => chaW_head (bys a0) (bys a1) m k hk)
 have W2 := Aside0.mk (fun k (hk : k < 8) => chaW_key (bys a0) (bys a1) m k hk)
 have W3 := Aside0.mk (chaW_count (bys a0) (bys a1) m)
 have W4 := Aside0.mk (fun k (hk : k < 3) => chaW_nonce (bys a0) (bys a1) m k hk)
 have hr : chaL (bys a0) (bys a1) m = chaO (chaW (bys a0) (bys a1) m) := rfl
 rw [hr]
 clear hr
 generalize chaW (bys a0) (bys a1) m = L at HW HSm W1 W2 W3 W4 ⊢
 go_enter Tryz.func102, Tryz.ntmps102
 go_wp2_with (fail)
 go_loopw [20] (fun i wr => ∃ k : Nat, k ≤ 4 ∧ i = .int .i64 k ∧ Aside0 (ChA w (fillC L k) wr)) (fun i _ => 4 - (intOf i).toNat)
 case atStart => exact ⟨0, by omega, rfl, ⟨ChA.start w L⟩⟩
 case round =>
  obtain ⟨k, hk, rfl, H⟩ := hrel
  by_cases hlt : k < 4
  ·obtain ⟨⟨v, hv⟩, hf⟩ := H.out.cell HW.out (by omega) k (by omega)
   have hx := W1.out k hlt
   generalize L.getD k 0 = x at hx
   have HX := Aside0.mk hx
   have HB := Aside0.mk (show lw4 (bys ((⟨#[101, 120, 112, 97, 110, 100, 32, 51, 50, 45, 98, 121, 116, 101, 32, 107]⟩ : ByteArray).extract (4 * k) 16)) 0 = L.getD k 0 by
    rw [bys_extract, lw4_take _ _ (by omega), lw4_drop, W1.out k hlt]; rfl)
   have HSZ := Aside0.mk (show 4 ≤ ((⟨#[101, 120, 112, 97, 110, 100, 32, 51, 50, 45, 98, 121, 116, 101, 32, 107]⟩ : ByteArray).extract (4 * k) 16).size by rw [ByteArray.size_extract]; exact (show 4 ≤ min 16 16 - 4 * k by omega))
   clear hx
   go_wp2_with (fail)
   refine (small_calls _ _ HSZ.out).mono ?_
   rintro e1 w1 ⟨rfl, n1, rfl⟩
   rw [HB.out]
   generalize hy : L.getD k 0 = y
   have HY := Aside0.mk hy
   clear hy
   go_wp2
   exact ⟨⟨k + 1, by omega, by go_num, ⟨(H.out.set n1 k y).next HW.out (by omega) HY.out⟩⟩, by simp [intOf]; omega⟩
  ·obtain rfl : k = 4 := by omega
   clear hlt hk
   rw [show ((4 : Nat) : Int) = 4 from rfl]
   go_wp2_with (fail)
   go_loopw [30] (fun i wr => ∃ k : Nat, k ≤ 8 ∧ i = .int .i64 k ∧ Aside0 (ChA w (fillC L (4 + k)) wr)) (fun i _ => 8 - (intOf i).toNat)
   case atStart => exact ⟨0, by omega, rfl, H⟩
   case round =>
    clear H
    obtain ⟨k, hk, rfl, H⟩ := hrel
    by_cases hlt : k < 8
    ·obtain ⟨⟨v, hv⟩, hf⟩ := H.out.cell HW.out (by omega) (4 + k) (by omega)
     have HB := Aside0.mk (show lw4 (bys (a0.extract (4 * k) 32)) 0 = L.getD (4 + k) 0 by
      rw [bys_extract, lw4_take _ _ (by omega), lw4_drop, W2.out k hlt])
     have HSZ := Aside0.mk (show 4 ≤ (a0.extract (4 * k) 32).size by rw [ByteArray.size_extract]; omega)
     go_wp2_with (fail)
     refine (small_calls _ _ HSZ.out).mono ?_
     rintro e1 w1 ⟨rfl, n1, rfl⟩
     rw [HB.out]
     generalize hy : L.getD (4 + k) 0 = y
     have HY := Aside0.mk hy
     clear hy
     go_wp2
     exact ⟨⟨k + 1, by omega, by go_num, ⟨(H.out.set n1 (4 + k) y).next HW.out (by omega) HY.out⟩⟩, by simp [intOf]; omega⟩
    ·obtain rfl : k = 8 := by omega
     clear hlt hk
     rw [show ((8 : Nat) : Int) = 8 from rfl]
     obtain ⟨⟨v, hv⟩, hf⟩ := H.out.cell HW.out (by omega) 12 (by omega)
     go_wp2_with (fail)
     have H : Aside0 (ChA w (fillC L (13 + 0)) (wr.setCell { block := w.heap.size + 1, off := 12 } (.int .u32 (m : Int)))) := ⟨(H.out.set0 12 m).next HW.out (by omega) (W3.out.trans (Nat.mod_eq_of_lt hm))⟩
     clear hv hf
     generalize wr.setCell { block := w.heap.size + 1, off := 12 } (.int .u32 (m : Int)) = wr at *
     go_loopw [45] (fun i wr => ∃ k : Nat, k ≤ 3 ∧ i = .int .i64 k ∧ Aside0 (ChA w (fillC L (13 + k)) wr)) (fun i _ => 3 - (intOf i).toNat)
     case atStart => exact ⟨0, by omega, rfl, H⟩
     case round =>
      clear H
      obtain ⟨k, hk, rfl, H⟩ := hrel
      by_cases hlt : k < 3
      ·obtain ⟨⟨v, hv⟩, hf⟩ := H.out.cell HW.out (by omega) (13 + k) (by omega)
       have HB := Aside0.mk (show lw4 (bys (a1.extract (4 * k) 12)) 0 = L.getD (13 + k) 0 by
        rw [bys_extract, lw4_take _ _ (by omega), lw4_drop, W4.out k hlt])
       have HSZ := Aside0.mk (show 4 ≤ (a1.extract (4 * k) 12).size by rw [ByteArray.size_extract]; omega)
       go_wp2_with (fail)
       refine (small_calls _ _ HSZ.out).mono ?_
       rintro e1 w1 ⟨rfl, n1, rfl⟩
       rw [HB.out]
       generalize hy : L.getD (13 + k) 0 = y
       have HY := Aside0.mk hy
       clear hy
       go_wp2
       exact ⟨⟨k + 1, by omega, by go_num, ⟨(H.out.set n1 (13 + k) y).next HW.out (by omega) HY.out⟩⟩, by simp [intOf]; omega⟩
      ·obtain rfl : k = 3 := by omega
       clear hlt hk
       rw [show ((3 : Nat) : Int) = 3 from rfl]
       have H2 : ChA w L wr := by have := H.out; rwa [fillC_full L HW.out] at this
       have H := Aside0.mk H2
       clear H2
       have hi16 : (Tryz.prog.info? 175).map (·.size) = some (u32s L).size := by rw [u32s_size, HW.out]; kernel_rfl
       have hi16' : (u32s (List.replicate 16 0)).size = (u32s L).size := by rw [u32s_size, u32s_size, HW.out]; rfl
       have HI16 := Aside0.mk hi16
       have HI16' := Aside0.mk hi16'
       clear hi16 hi16'
       go_wp2_with (first | (refine wpList_load_row rfl 175 (.tmp 7) rfl (w.heap.size + 1) rfl 175 (u32s L) (0, 0) _ H.out.row Tryz.underlying175 rfl HI16.out ?_) | (refine wpList_store_row rfl 175 (.tmp 11) (.tmp 57) rfl _ (u32s L) rfl rfl 175 _ (heap_alloc_last _ _) HI16.out HI16'.out (u32s_one _) ?_; rw [World.setRow_alloc_new]))
       have H : Aside0 (ChR w wr.heap.size L (dbl L 0) (wr.alloc (.cells (u32s L) 175))) := ⟨⟨⟨below_alloc H.out.below _, blk_alloc H.out.out _, blk_alloc H.out.row _⟩, blk_lt H.out.row, heap_alloc_last _ _⟩⟩
       generalize wr.heap.size = g2 at *
       generalize wr.alloc (.cells (u32s L) 175) = wr at *
       go_loopw [58] (fun i wr => ∃ k : Nat, k ≤ 10 ∧ i = .int .i64 k ∧ Aside0 (ChR w g2 L (dbl L k) wr)) (fun i _ => 10 - (intOf i).toNat)
       case atStart => exact ⟨0, by omega, rfl, H⟩
       case round =>
        clear H
        obtain ⟨n, hn, rfl, H⟩ := hrel
        by_cases hlt : n < 10
        ·go_wp2_with (fail)
         go_loopw [60] (fun i wr => ∃ k : Nat, k ≤ 4 ∧ i = .int .i64 k ∧ Aside0 (ChR w g2 L (col (dbl L n) k) wr)) (fun i _ => 4 - (intOf i).toNat)
         case atStart => exact ⟨0, by omega, rfl, H⟩
         case round =>
          clear H
          obtain ⟨k, hk, rfl, H⟩ := hrel
          by_cases hlk : k < 4
          ·obtain ⟨x0, x1, x2, x3, hq, c0, c1, c2, c3, f0, f1, f2, f3⟩ := H.out.four (col_small (dbl_small HSm.out n) k) (by rw [col_length, dbl_length, HW.out]) k (k + 4) (k + 8) (k + 12) (by omega) (by omega) (by omega) (by omega)
           have HQ := Aside0.mk hq
           clear hq
           go_wp2_with (fail)
           have q0 : (k : Int) < 16 := by omega
           have j4 : wrap64 ((k : Int) + 4) = (k : Int) + 4 := by unfold wrap64; omega
           have p4 : 0 ≤ (k : Int) + 4 := by omega
           have q4 : (k : Int) + 4 < 16 := by omega
           have n4 : ((k : Int) + 4).toNat = k + 4 := by omega
           have j8 : wrap64 ((k : Int) + 8) = (k : Int) + 8 := by unfold wrap64; omega
           have p8 : 0 ≤ (k : Int) + 8 := by omega
           have q8 : (k : Int) + 8 < 16 := by omega
           have n8 : ((k : Int) + 8).toNat = k + 8 := by omega
           have j12 : wrap64 ((k : Int) + 12) = (k : Int) + 12 := by unfold wrap64; omega
           have p12 : 0 ≤ (k : Int) + 12 := by omega
           have q12 : (k : Int) + 12 < 16 := by omega
           have n12 : ((k : Int) + 12).toNat = k + 12 := by omega
           refine start_ (n := 36) (S := fun w' => w'.cell? ⟨w.heap.size + 1, k, none⟩ = some (.int .u32 (x0 : Int)) ∧ w'.cell? ⟨w.heap.size + 1, k + 4, none⟩ = some (.int .u32 (x1 : Int)) ∧ w'.cell? ⟨w.heap.size + 1, k + 8, none⟩ = some (.int .u32 (x2 : Int)) ∧ w'.cell? ⟨w.heap.size + 1, k + 12, none⟩ = some (.int .u32 (x3 : Int))) (ds := [29, 31, 33, 35]) #[false, false, false, false, false, false, false, false, false, false, false, false, false, false, false, false, false, false, false, false, false, false, false, false, false, false, false, false, false, false, false, false, false, false, false, false] (by kernel_rfl) rfl rfl ⟨(show _ from c0), (show _ from c1), (show _ from c2), (show _ from c3)⟩ (fun hHeld => ?_)
           refine pz_ 0 64 rfl rfl (by kernel_rfl) ?_
           refine pz_ 1 65 rfl rfl (by kernel_rfl) ?_
           refine pz_ 2 66 rfl rfl (by kernel_rfl) ?_
           refine pz_ 3 67 rfl rfl (by kernel_rfl) ?_
           refine pz_ 4 68 rfl rfl (by kernel_rfl) ?_
           refine pz_ 5 69 rfl rfl (by kernel_rfl) ?_
           refine pz_ 6 70 rfl rfl (by kernel_rfl) ?_
           refine pz_ 7 71 rfl rfl (by kernel_rfl) ?_
           refine pz_ 8 72 rfl rfl (by kernel_rfl) ?_
           refine pz_ 10 74 rfl rfl (by kernel_rfl) ?_
           refine pz_ 11 75 rfl rfl (by kernel_rfl) ?_
           refine pz_ 12 76 rfl rfl (by kernel_rfl) ?_
           refine pz_ 14 78 rfl rfl (by kernel_rfl) ?_
           refine pz_ 15 79 rfl rfl (by kernel_rfl) ?_
           refine pz_ 16 80 rfl rfl (by kernel_rfl) ?_
           refine pz_ 18 82 rfl rfl (by kernel_rfl) ?_
           refine pz_ 19 83 rfl rfl (by kernel_rfl) ?_
           refine pz_ 20 84 rfl rfl (by kernel_rfl) ?_
           refine take_ (i := 9) (N := some 73) (v := ?_) (a' := ?_) #[true, true, true, true, true, true, true, true, true, true, true, true, true, false, true, true, true, false, true, true, true, false, false, false, false, false, false, false, false, false, false, false, false, false, false, false] rfl rfl (by kernel_rfl) (fun _ _ _ h => h) (Or.inl ⟨by rfl, ?_⟩) hHeld ?_ ?_
           rotate_left
           ·rintro w' ⟨s0, s1, s2, s3⟩
            go_simp
            with_reducible rfl
           rotate_left
           ·simp only [Act.put, List.setIfInBounds_toArray, List.set_cons_zero, List.set_cons_succ, i64_w, i32_w]
            rfl
           refine take_ (i := 13) (N := some 77) (v := ?_) (a' := ?_) #[true, true, true, true, true, true, true, true, true, true, true, true, true, true, true, true, true, false, true, true, true, false, false, false, false, false, false, false, false, false, false, false, false, false, false, false] rfl rfl (by kernel_rfl) (fun _ _ _ h => h) (Or.inl ⟨by rfl, ?_⟩) hHeld ?_ ?_
           rotate_left
           ·rintro w' ⟨s0, s1, s2, s3⟩
            go_simp
            with_reducible rfl
           rotate_left
           ·simp only [Act.put, List.setIfInBounds_toArray, List.set_cons_zero, List.set_cons_succ, i64_w, i32_w]
            rfl
           refine take_ (i := 17) (N := some 81) (v := ?_) (a' := ?_) #[true, true, true, true, true, true, true, true, true, true, true, true, true, true, true, true, true, true, true, true, true, false, false, false, false, false, false, false, false, false, false, false, false, false, false, false] rfl rfl (by kernel_rfl) (fun _ _ _ h => h) (Or.inl ⟨by rfl, ?_⟩) hHeld ?_ ?_
           rotate_left
           ·rintro w' ⟨s0, s1, s2, s3⟩
            go_simp
            with_reducible rfl
           rotate_left
           ·simp only [Act.put, List.setIfInBounds_toArray, List.set_cons_zero, List.set_cons_succ, i64_w, i32_w]
            rfl
           refine take_ (i := 21) (N := some 85) (v := ?_) (a' := ?_) #[true, true, true, true, true, true, true, true, true, true, true, true, true, true, true, true, true, true, true, true, true, true, false, false, false, false, false, false, false, false, false, false, false, false, false, false] rfl rfl (by kernel_rfl) (fun _ _ _ h => h) (Or.inl ⟨by rfl, ?_⟩) hHeld ?_ ?_
           rotate_left
           ·rintro w' ⟨s0, s1, s2, s3⟩
            go_simp
            with_reducible rfl
           rotate_left
           ·simp only [Act.put, List.setIfInBounds_toArray, List.set_cons_zero, List.set_cons_succ, i64_w, i32_w]
            rfl
           refine one_ (i := 22) (N := some 86) #[true, true, true, true, true, true, true, true, true, true, true, true, true, true, true, true, true, true, true, true, true, true, true, false, false, false, false, false, false, false, false, false, false, false, false, false] rfl rfl (by kernel_rfl) (by decide) (fun K hK => ?_)
           refine goes_ Tryz.func148 (by kernel_rfl) rfl #[.int .u32 (x0 : Int), .int .u32 (x1 : Int), .int .u32 (x2 : Int), .int .u32 (x3 : Int)] (by rfl) rfl rfl (by simp only [List.map_toArray, List.map_cons, List.map_nil]; rfl) ?_
           with_reducible refine (quarter_calls x0 x1 x2 x3 _ HQ.out.la HQ.out.lb HQ.out.lc HQ.out.ld).mono ?_
           rintro e w3 ⟨rfl, ⟨nd, rfl⟩⟩
           refine ⟨_, rfl, ?_⟩
           refine hK.out _ _ ⟨(show _ from c0), (show _ from c1), (show _ from c2), (show _ from c3)⟩ (fun hHeld => ?_)
           clear hK K
           refine norm_ sa_ ?_
           refine pz_ 23 63 rfl rfl (by kernel_rfl) ?_
           refine pz_ 24 87 rfl rfl (by kernel_rfl) ?_
           refine pz_ 25 88 rfl rfl (by kernel_rfl) ?_
           refine pz_ 26 89 rfl rfl (by kernel_rfl) ?_
           refine pz_ 27 90 rfl rfl (by kernel_rfl) ?_
           refine pz_ 28 91 rfl rfl (by kernel_rfl) ?_
           refine last_ (i := 29) (N := none) #[true, true, true, true, true, true, true, true, true, true, true, true, true, true, true, true, true, true, true, true, true, true, true, true, true, true, true, true, true, true, false, false, false, false, false, false] rfl rfl (by kernel_rfl) (by decide) (fun K hK => ?_)
           refine skip_ (w1 := ?_) (by rfl) rfl ?_ ?_
           rotate_left
           ·go_simp
            rfl
           refine hK.out _ _ ?_
           clear hK K
           refine pz_ 30 92 rfl rfl (by kernel_rfl) ?_
           refine last_ (i := 31) (N := none) #[true, true, true, true, true, true, true, true, true, true, true, true, true, true, true, true, true, true, true, true, true, true, true, true, true, true, true, true, true, true, true, true, false, false, false, false] rfl rfl (by kernel_rfl) (by decide) (fun K hK => ?_)
           refine skip_ (w1 := ?_) (by rfl) rfl ?_ ?_
           rotate_left
           ·go_simp
            rfl
           refine hK.out _ _ ?_
           clear hK K
           refine pz_ 32 93 rfl rfl (by kernel_rfl) ?_
           refine last_ (i := 33) (N := none) #[true, true, true, true, true, true, true, true, true, true, true, true, true, true, true, true, true, true, true, true, true, true, true, true, true, true, true, true, true, true, true, true, true, true, false, false] rfl rfl (by kernel_rfl) (by decide) (fun K hK => ?_)
           refine skip_ (w1 := ?_) (by rfl) rfl ?_ ?_
           rotate_left
           ·go_simp
            rfl
           refine hK.out _ _ ?_
           clear hK K
           refine pz_ 34 94 rfl rfl (by kernel_rfl) ?_
           refine last_ (i := 35) (N := none) #[true, true, true, true, true, true, true, true, true, true, true, true, true, true, true, true, true, true, true, true, true, true, true, true, true, true, true, true, true, true, true, true, true, true, true, true] rfl rfl (by kernel_rfl) (by decide) (fun K hK => ?_)
           refine skip_ (w1 := ?_) (by rfl) rfl ?_ ?_
           rotate_left
           ·go_simp
            rfl
           refine hK.out _ _ ?_
           clear hK K
           refine done_ (by kernel_rfl) ?_
           clear q0 j4 p4 q4 n4 j8 p8 q8 n8 j12 p12 q12 n12 hHeld c0 c1 c2 c3 f0 f1 f2 f3
           go_wp2
           exact ⟨⟨k + 1, by omega, by go_num, ⟨H.out.quad HQ.out (1 + nd)⟩⟩, by simp [intOf]; omega⟩
          ·obtain rfl : k = 4 := by omega
           clear hlk hk
           rw [show ((4 : Nat) : Int) = 4 from rfl]
           go_wp2_with (fail)
           go_loopw [96] (fun i wr => ∃ k : Nat, k ≤ 4 ∧ i = .int .i64 k ∧ Aside0 (ChR w g2 L (dia (col (dbl L n) 4) k) wr)) (fun i _ => 4 - (intOf i).toNat)
           case atStart => exact ⟨0, by omega, rfl, H⟩
           case round =>
            clear H
            obtain ⟨k, hk, rfl, H⟩ := hrel
            by_cases hlk : k < 4
            ·have eb : 4 + ((k : Int) + 1) % 4 = ((4 + (k + 1) % 4 : Nat) : Int) := by omega
             have ec : 8 + ((k : Int) + 2) % 4 = ((8 + (k + 2) % 4 : Nat) : Int) := by omega
             have ed : 12 + ((k : Int) + 3) % 4 = ((12 + (k + 3) % 4 : Nat) : Int) := by omega
             have EB := Aside0.mk eb
             have EC := Aside0.mk ec
             have ED := Aside0.mk ed
             clear eb ec ed
             go_wp2_with (fail)
             rw [EB.out, EC.out, ED.out]
             have b4 : 4 ≤ 4 + (k + 1) % 4 := by omega
             have b8 : 4 + (k + 1) % 4 < 8 := by omega
             have d8 : 8 ≤ 8 + (k + 2) % 4 := by omega
             have d12 : 8 + (k + 2) % 4 < 12 := by omega
             have e12 : 12 ≤ 12 + (k + 3) % 4 := by omega
             have e16 : 12 + (k + 3) % 4 < 16 := by omega
             have hdia : dia (col (dbl L n) 4) (k + 1) = qr (dia (col (dbl L n) 4) k) k (4 + (k + 1) % 4) (8 + (k + 2) % 4) (12 + (k + 3) % 4) := rfl
             generalize 4 + (k + 1) % 4 = b at *
             generalize 8 + (k + 2) % 4 = c at *
             generalize 12 + (k + 3) % 4 = d at *
             have HD := Aside0.mk hdia
             clear hdia EB EC ED
             obtain ⟨x0, x1, x2, x3, hq, c0, c1, c2, c3, f0, f1, f2, f3⟩ := H.out.four (dia_small (col_small (dbl_small HSm.out n) 4) k) (by rw [dia_length, col_length, dbl_length, HW.out]) k b c d (by omega) (by omega) (by omega) (by omega)
             have HQ := Aside0.mk hq
             clear hq
             have n1 : ¬ b = k := by omega
             have n2 : ¬ c = k := by omega
             have n3 : ¬ d = k := by omega
             have n4 : ¬ c = b := by omega
             have n5 : ¬ d = b := by omega
             have n6 : ¬ d = c := by omega
             have m1 : ¬ k = b := by omega
             have m2 : ¬ k = c := by omega
             have m3 : ¬ k = d := by omega
             have m4 : ¬ b = c := by omega
             have m5 : ¬ b = d := by omega
             have m6 : ¬ c = d := by omega
             have q0 : (k : Int) < 16 := by omega
             have q4 : (b : Int) < 16 := by omega
             have q8 : (c : Int) < 16 := by omega
             have q12 : (d : Int) < 16 := by omega
             refine start_ (n := 30) (S := fun w' => w'.cell? ⟨w.heap.size + 1, k, none⟩ = some (.int .u32 (x0 : Int)) ∧ w'.cell? ⟨w.heap.size + 1, b, none⟩ = some (.int .u32 (x1 : Int)) ∧ w'.cell? ⟨w.heap.size + 1, c, none⟩ = some (.int .u32 (x2 : Int)) ∧ w'.cell? ⟨w.heap.size + 1, d, none⟩ = some (.int .u32 (x3 : Int))) (ds := [23, 25, 27, 29]) #[false, false, false, false, false, false, false, false, false, false, false, false, false, false, false, false, false, false, false, false, false, false, false, false, false, false, false, false, false, false] (by kernel_rfl) rfl rfl ⟨(show _ from c0), (show _ from c1), (show _ from c2), (show _ from c3)⟩ (fun hHeld => ?_)
             refine pz_ 0 112 rfl rfl (by kernel_rfl) ?_
             refine pz_ 1 113 rfl rfl (by kernel_rfl) ?_
             refine pz_ 2 114 rfl rfl (by kernel_rfl) ?_
             refine pz_ 3 115 rfl rfl (by kernel_rfl) ?_
             refine pz_ 4 116 rfl rfl (by kernel_rfl) ?_
             refine pz_ 5 117 rfl rfl (by kernel_rfl) ?_
             refine pz_ 7 119 rfl rfl (by kernel_rfl) ?_
             refine pz_ 8 120 rfl rfl (by kernel_rfl) ?_
             refine pz_ 10 122 rfl rfl (by kernel_rfl) ?_
             refine pz_ 11 123 rfl rfl (by kernel_rfl) ?_
             refine pz_ 13 125 rfl rfl (by kernel_rfl) ?_
             refine pz_ 14 126 rfl rfl (by kernel_rfl) ?_
             refine take_ (i := 6) (N := some 118) (v := ?_) (a' := ?_) #[true, true, true, true, true, true, true, true, true, false, true, true, false, true, true, false, false, false, false, false, false, false, false, false, false, false, false, false, false, false] rfl rfl (by kernel_rfl) (fun _ _ _ h => h) (Or.inl ⟨by rfl, ?_⟩) hHeld ?_ ?_
             rotate_left
             ·rintro w' ⟨s0, s1, s2, s3⟩
              go_simp
              with_reducible rfl
             rotate_left
             ·simp only [Act.put, List.setIfInBounds_toArray, List.set_cons_zero, List.set_cons_succ, i64_w, i32_w]
              rfl
             refine take_ (i := 9) (N := some 121) (v := ?_) (a' := ?_) #[true, true, true, true, true, true, true, true, true, true, true, true, false, true, true, false, false, false, false, false, false, false, false, false, false, false, false, false, false, false] rfl rfl (by kernel_rfl) (fun _ _ _ h => h) (Or.inl ⟨by rfl, ?_⟩) hHeld ?_ ?_
             rotate_left
             ·rintro w' ⟨s0, s1, s2, s3⟩
              go_simp
              with_reducible rfl
             rotate_left
             ·simp only [Act.put, List.setIfInBounds_toArray, List.set_cons_zero, List.set_cons_succ, i64_w, i32_w]
              rfl
             refine take_ (i := 12) (N := some 124) (v := ?_) (a' := ?_) #[true, true, true, true, true, true, true, true, true, true, true, true, true, true, true, false, false, false, false, false, false, false, false, false, false, false, false, false, false, false] rfl rfl (by kernel_rfl) (fun _ _ _ h => h) (Or.inl ⟨by rfl, ?_⟩) hHeld ?_ ?_
             rotate_left
             ·rintro w' ⟨s0, s1, s2, s3⟩
              go_simp
              with_reducible rfl
             rotate_left
             ·simp only [Act.put, List.setIfInBounds_toArray, List.set_cons_zero, List.set_cons_succ, i64_w, i32_w]
              rfl
             refine take_ (i := 15) (N := some 127) (v := ?_) (a' := ?_) #[true, true, true, true, true, true, true, true, true, true, true, true, true, true, true, true, false, false, false, false, false, false, false, false, false, false, false, false, false, false] rfl rfl (by kernel_rfl) (fun _ _ _ h => h) (Or.inl ⟨by rfl, ?_⟩) hHeld ?_ ?_
             rotate_left
             ·rintro w' ⟨s0, s1, s2, s3⟩
              go_simp
              with_reducible rfl
             rotate_left
             ·simp only [Act.put, List.setIfInBounds_toArray, List.set_cons_zero, List.set_cons_succ, i64_w, i32_w]
              rfl
             refine one_ (i := 16) (N := some 128) #[true, true, true, true, true, true, true, true, true, true, true, true, true, true, true, true, true, false, false, false, false, false, false, false, false, false, false, false, false, false] rfl rfl (by kernel_rfl) (by decide) (fun K hK => ?_)
             refine goes_ Tryz.func148 (by kernel_rfl) rfl #[.int .u32 (x0 : Int), .int .u32 (x1 : Int), .int .u32 (x2 : Int), .int .u32 (x3 : Int)] (by rfl) rfl rfl (by simp only [List.map_toArray, List.map_cons, List.map_nil]; rfl) ?_
             with_reducible refine (quarter_calls x0 x1 x2 x3 _ HQ.out.la HQ.out.lb HQ.out.lc HQ.out.ld).mono ?_
             rintro e w3 ⟨rfl, ⟨nd, rfl⟩⟩
             refine ⟨_, rfl, ?_⟩
             refine hK.out _ _ ⟨(show _ from c0), (show _ from c1), (show _ from c2), (show _ from c3)⟩ (fun hHeld => ?_)
             clear hK K
             refine norm_ sa_ ?_
             refine pz_ 17 111 rfl rfl (by kernel_rfl) ?_
             refine pz_ 18 129 rfl rfl (by kernel_rfl) ?_
             refine pz_ 19 130 rfl rfl (by kernel_rfl) ?_
             refine pz_ 20 131 rfl rfl (by kernel_rfl) ?_
             refine pz_ 21 132 rfl rfl (by kernel_rfl) ?_
             refine pz_ 22 133 rfl rfl (by kernel_rfl) ?_
             refine last_ (i := 23) (N := none) #[true, true, true, true, true, true, true, true, true, true, true, true, true, true, true, true, true, true, true, true, true, true, true, true, false, false, false, false, false, false] rfl rfl (by kernel_rfl) (by decide) (fun K hK => ?_)
             refine skip_ (w1 := ?_) (by rfl) rfl ?_ ?_
             rotate_left
             ·go_simp
              rfl
             refine hK.out _ _ ?_
             clear hK K
             refine pz_ 24 134 rfl rfl (by kernel_rfl) ?_
             refine last_ (i := 25) (N := none) #[true, true, true, true, true, true, true, true, true, true, true, true, true, true, true, true, true, true, true, true, true, true, true, true, true, true, false, false, false, false] rfl rfl (by kernel_rfl) (by decide) (fun K hK => ?_)
             refine skip_ (w1 := ?_) (by rfl) rfl ?_ ?_
             rotate_left
             ·go_simp
              rfl
             refine hK.out _ _ ?_
             clear hK K
             refine pz_ 26 135 rfl rfl (by kernel_rfl) ?_
             refine last_ (i := 27) (N := none) #[true, true, true, true, true, true, true, true, true, true, true, true, true, true, true, true, true, true, true, true, true, true, true, true, true, true, true, true, false, false] rfl rfl (by kernel_rfl) (by decide) (fun K hK => ?_)
             refine skip_ (w1 := ?_) (by rfl) rfl ?_ ?_
             rotate_left
             ·go_simp
              rfl
             refine hK.out _ _ ?_
             clear hK K
             refine pz_ 28 136 rfl rfl (by kernel_rfl) ?_
             refine last_ (i := 29) (N := none) #[true, true, true, true, true, true, true, true, true, true, true, true, true, true, true, true, true, true, true, true, true, true, true, true, true, true, true, true, true, true] rfl rfl (by kernel_rfl) (by decide) (fun K hK => ?_)
             refine skip_ (w1 := ?_) (by rfl) rfl ?_ ?_
             rotate_left
             ·go_simp
              rfl
             refine hK.out _ _ ?_
             clear hK K
             refine done_ (by kernel_rfl) ?_
             clear n1 n2 n3 n4 n5 n6 m1 m2 m3 m4 m5 m6 q0 q4 q8 q12 hHeld c0 c1 c2 c3 f0 f1 f2 f3
             go_wp2
             exact ⟨⟨k + 1, by omega, by go_num, ⟨by rw [HD.out]; exact H.out.quad HQ.out (1 + nd)⟩⟩, by simp [intOf]; omega⟩
            ·obtain rfl : k = 4 := by omega
             clear hlk hk
             rw [show ((4 : Nat) : Int) = 4 from rfl]
             go_wp2
             exact ⟨⟨n + 1, by omega, by go_num, H⟩, by simp [intOf]; omega⟩
        ·obtain rfl : n = 10 := by omega
         clear hlt hn
         rw [show ((10 : Nat) : Int) = 10 from rfl]
         go_wp2_with (refine wpList_load_row rfl 175 (.tmp 7) rfl (w.heap.size + 1) rfl 175 (u32s (dbl L 10)) (0, 0) _ (blk_alloc H.out.a.row _) Tryz.underlying175 rfl (by rw [u32s_size, dbl_length, HW.out]; kernel_rfl) ?_)
         have H : Aside0 (ChO w g2 wr.heap.size L (outC (fun k => (L.getD k 0 + (dbl L 10).getD k 0) % 4294967296) 0) (wr.alloc (.cells (u8s (List.replicate 64 0)) 140))) := ⟨⟨below_alloc H.out.a.below _, blk_alloc H.out.a.out _, blk_alloc H.out.was _, blk_new _ _, H.out.gt, blk_lt H.out.was⟩⟩
         have HDl := Aside0.mk (show (dbl L 10).length = 16 by rw [dbl_length, HW.out])
         generalize hD : dbl L 10 = D at *
         have HDe := Aside0.mk hD
         clear hD
         generalize wr.heap.size = g3 at *
         go_loopw [140] (fun i wr => ∃ k : Nat, k ≤ 16 ∧ i = .int .i64 k ∧ Aside0 (ChO w g2 g3 L (outC (fun k => (L.getD k 0 + D.getD k 0) % 4294967296) k) wr)) (fun i _ => 16 - (intOf i).toNat)
         case atStart => exact ⟨0, by omega, rfl, H⟩
         case round =>
          clear H
          obtain ⟨k, hk, rfl, H⟩ := hrel
          by_cases hlt : k < 16
          ·have hj := fun w => index_u32 D HDl.out k hlt w
           generalize hx : D.getD k 0 = x at hj
           have HX := Aside0.mk hx
           clear hx
           have hw := (blk_cell H.out.was k).trans (u32s_get L k (by rw [HW.out]; exact hlt))
           generalize hy : L.getD k 0 = y at hw
           have HY := Aside0.mk hy
           clear hy
           obtain ⟨⟨v0, c0⟩, f0⟩ := H.out.cell hk (4 * k) (by omega)
           obtain ⟨⟨v1, c1⟩, f1⟩ := H.out.cell hk (4 * k + 1) (by omega)
           obtain ⟨⟨v2, c2⟩, f2⟩ := H.out.cell hk (4 * k + 2) (by omega)
           obtain ⟨⟨v3, c3⟩, f3⟩ := H.out.cell hk (4 * k + 3) (by omega)
           go_wp2
           have HN : Aside0 (ChO w g2 g3 L (outC (fun k => (L.getD k 0 + D.getD k 0) % 4294967296) (k + 1)) _) := ⟨H.out.step hlt ((y + x) % 4294967296) (by show (L.getD k 0 + D.getD k 0) % 4294967296 = _; rw [HY.out, HX.out])⟩
           rw [Nat.add_comm y x] at HN
           refine ⟨⟨k + 1, by omega, by go_num, ?_⟩, by simp [intOf]; omega⟩
           rw [show ((x : Int) + (y : Int)) % 4294967296 / 16777216 = (((x + y) % 4294967296 : Nat) : Int) / 16777216 % 256 by omega, show ((x : Int) + (y : Int)) % 256 = (((x + y) % 4294967296 : Nat) : Int) % 256 by omega, show ((x : Int) + (y : Int)) % 4294967296 = (((x + y) % 4294967296 : Nat) : Int) by omega]
           exact HN
          ·obtain rfl : k = 16 := by omega
           clear hlt hk
           rw [show ((16 : Nat) : Int) = 16 from rfl]
           have hrow := H.out.row
           rw [outC_full] at hrow
           have hlen : ((List.range 16).flatMap (fun i => le4 ((fun k => (L.getD k 0 + D.getD k 0) % 4294967296) i))).length = 64 := flatC_length _ 16
           generalize hO : (List.range 16).flatMap (fun i => le4 ((fun k => (L.getD k 0 + D.getD k 0) % 4294967296) i)) = O at *
           have HO := Aside0.mk hO
           clear hO
           have HR := Aside0.mk hrow
           have HL := Aside0.mk hlen
           clear hrow hlen
           have hi64 : (Tryz.prog.info? 140).map (·.size) = some (u8s O).size := by rw [u8s_size, HL.out]; exact HI.out
           have HI64 := Aside0.mk hi64
           clear hi64
           go_wp2_with (first | (refine wpList_load_row rfl 140 (.tmp 17) rfl g3 rfl 140 (u8s O) (0, 0) _ HR.out Tryz.underlying140 rfl HI64.out ?_) | (refine wpList_store_row rfl 140 (.tmp 6) (.tmp 176) rfl w.heap.size (u8s O) rfl rfl 140 _ H.out.out HI64.out (by rw [u8s_size, u8s_size, HL.out]; rfl) (u8s_one _) ?_))
           refine bodyPost_ret (results_cell_row Tryz.results102 _ _ w.heap.size 140 (u8s O) (0, 0) _ rfl (setRow_heap _ _ _ _ _ _ H.out.out) Tryz.underlying140 rfl HI64.out) rfl ⟨?_, ?_⟩
           ·rw [← HO.out, ← HDe.out]; rfl
           ·exact below_setRow H.out.below (Nat.le_refl _) _
end Go.Proofs.YtbkbganflnemeaaGreat.Pr
end

section
namespace Go.Proofs.YtbkbganflnemeaaGreat.Pr
open Go.RowKit Go.Proofs.YtbkbganflnemeaaGreatW.PrintWords Go.Proofs.YtbkbganflnemeaaGreatW.PrintLast Go.Proofs.YtbkbganflnemeaaGreatW.PrintMore
attribute [local go_sem] max2_int min2_int max_two min_two max_three min_three max_four min_four
def chacha_may.f (a0 : ByteArray) (a1 : ByteArray) (a2 : Int) : Option (Bool) := if (a0.size : Int) = 32 then (if (a1.size : Int) = 12 then (if a2 ≥ 0 then (some (decide (a2 < 4294967296))) else (some false)) else (some false)) else (some false)
set_option maxHeartbeats 8000000 in
set_option maxRecDepth 100000 in
theorem chacha_may.calls (a0 : ByteArray) (a1 : ByteArray) (a2 : Int) (r : Bool) (w : World) (h : chacha_may.f a0 a1 a2 = some r) :
  Calls Tryz.prog 101 #[.string a0, .string a1, .int .i64 a2] w fun e w' => e = .returned (.bool r) ∧ Drawn0 w w' := by
 have H : (if (a0.size : Int) = 32 then (if (a1.size : Int) = 12 then (if a2 ≥ 0 then (some (decide (a2 < 4294967296))) else (some false)) else (some false)) else (some false)) = some r := h; clear h; by_cases c4 : (a0.size : Int) = 32
 ·rw [if_pos c4] at H; have c4b0 : ((a0.size : Int) == 32) = true := beq_iff_eq.mpr c4; have c4b1 : ((a0.size : Int) != 32) = false := bne_eq_false_iff_eq.mpr c4; clear c4; by_cases c5 : (a1.size : Int) = 12
  ·rw [if_pos c5] at H; have c5b0 : ((a1.size : Int) == 12) = true := beq_iff_eq.mpr c5; have c5b1 : ((a1.size : Int) != 12) = false := bne_eq_false_iff_eq.mpr c5; clear c5; by_cases c6 : a2 ≥ 0
   ·rw [if_pos c6] at H; have c6b0 : decide (0 ≤ a2) = true := decide_eq_true c6; clear c6; obtain rfl := Option.some.inj H; go_enter Tryz.func101, Tryz.ntmps101
    go_wp2; go_ret
    exact ⟨rz_, dz_⟩
   ·rw [if_neg c6] at H; have c6b0 : decide (0 ≤ a2) = false := decide_eq_false c6; clear c6; obtain rfl := Option.some.inj H; go_enter Tryz.func101, Tryz.ntmps101
    go_wp2; go_ret
    exact ⟨rz_, dz_⟩
  ·rw [if_neg c5] at H; have c5b0 : ((a1.size : Int) == 12) = false := beq_eq_false_iff_ne.mpr c5; have c5b1 : ((a1.size : Int) != 12) = true := bne_iff_ne.mpr c5; obtain rfl := Option.some.inj H; go_enter Tryz.func101, Tryz.ntmps101
   go_wp2; go_ret
   exact ⟨rz_, dz_⟩
 ·rw [if_neg c4] at H; have c4b0 : ((a0.size : Int) == 32) = false := beq_eq_false_iff_ne.mpr c4; have c4b1 : ((a0.size : Int) != 32) = true := bne_iff_ne.mpr c4; obtain rfl := Option.some.inj H; go_enter Tryz.func101, Tryz.ntmps101
  go_wp2; go_ret
  exact ⟨rz_, dz_⟩
end Go.Proofs.YtbkbganflnemeaaGreat.Pr
end

section
namespace Go.Proofs.YtbkbganflnemeaaGreat.Pr
open Go.RowKit Go.Deep Go.Proofs.YtbkbganflnemeaaGreatW.PrintWords Go.Proofs.YtbkbganflnemeaaGreatW.PrintLast Go.Proofs.YtbkbganflnemeaaGreatW.PrintMore
set_option maxHeartbeats 2000000
theorem chaL_length (a b : List Nat) (n : Nat) : (chaL a b n).length = 64 := flatC_length _ 16
theorem chaL_lt (a b : List Nat) (n : Nat) : ∀ x ∈ chaL a b n, x < 256 := by
 intro x hx
 unfold chaL at hx
 rw [List.mem_flatMap] at hx
 obtain ⟨k, _, h⟩ := hx
 simp only [le4, List.mem_cons, List.not_mem_nil, or_false] at h
 rcases h with h | h | h | h <;> rw [h] <;> exact Nat.mod_lt _ (by decide)
def chaOK (a0 a1 : ByteArray) (a2 : Int) : Prop := a0.size = 32 ∧ a1.size = 12 ∧ 0 ≤ a2 ∧ a2 < 4294967296
instance (a0 a1 : ByteArray) (a2 : Int) : Decidable (chaOK a0 a1 a2) := by unfold chaOK; infer_instance
theorem may_calls (a0 a1 : ByteArray) (a2 : Int) (w : World) : Calls Tryz.prog 101 #[.string a0, .string a1, .int .i64 a2] w fun e w' => e = .returned (.bool (decide (chaOK a0 a1 a2))) ∧ ∃ n, w' = w.drewN n := by
 refine (chacha_may.calls a0 a1 a2 (decide (chaOK a0 a1 a2)) w ?_).mono fun _ _ h => ⟨h.1, h.2.out⟩
 unfold chacha_may.f chaOK
 by_cases h0 : a0.size = 32 <;> by_cases h1 : a1.size = 12 <;> by_cases h2 : 0 ≤ a2 <;> simp [h0, h1, h2, show ((a0.size : Int) = 32) = (a0.size = 32) by apply propext; omega, show ((a1.size : Int) = 12) = (a1.size = 12) by apply propext; omega]
def chacha_Block.f (a0 a1 : ByteArray) (a2 : Int) : Option (ByteArray × Int) :=
 if chaOK a0 a1 a2 then some (txt (chaL (bys a0) (bys a1) a2.toNat), 0) else some (⟨#[]⟩, 1)
set_option maxRecDepth 100000 in
theorem chacha_Block.calls (a0 : ByteArray) (a1 : ByteArray) (a2 : Int) (r1 : ByteArray) (r2 : Int) (w : World) (h : chacha_Block.f a0 a1 a2 = some (r1, r2)) :
  Calls Tryz.prog 103 #[.string a0, .string a1, .int .i64 a2] w fun e w' => e = .returned (.tuple #[.string r1, .int .i64 r2]) ∧ Below w.heap.size w w' := by
 unfold chacha_Block.f at h
 by_cases hc : chaOK a0 a1 a2
 ·rw [if_pos hc] at h
  simp only [Option.some.injEq, Prod.mk.injEq] at h
  obtain ⟨rfl, rfl⟩ := h
  have hcd : decide (chaOK a0 a1 a2) = true := decide_eq_true hc
  obtain ⟨h0, h1, h2, h3⟩ := hc
  obtain ⟨m, rfl⟩ := Int.eq_ofNat_of_zero_le h2
  rw [Int.toNat_natCast]
  have hinf : (Tryz.prog.info? 140).map (·.size) = some 64 := by kernel_rfl
  have HL := Aside0.mk (chaL_length (bys a0) (bys a1) m)
  have hB := fun W => chacha_bytes_calls a0 a1 m W h0 h1 (by omega)
  generalize chaL (bys a0) (bys a1) m = O at hB HL ⊢
  have HB := Aside0.mk hB
  have HC := Aside0.mk hcd
  have hi64 : (Tryz.prog.info? 140).map (·.size) = some (u8s O).size := by rw [u8s_size, HL.out]; exact hinf
  have HI64 := Aside0.mk hi64
  clear hB hi64 hinf hcd h2
  go_enter Tryz.func103, Tryz.ntmps103
  go_wp2_with (fail)
  refine (may_calls _ _ _ _).mono ?_
  rw [HC.out]
  rintro e w1 ⟨rfl, n1, rfl⟩
  go_wp2_with (fail)
  refine (HB.out _).mono ?_
  rintro e w1 ⟨rfl, hb⟩
  have hcv := conv_u8s (w1.alloc (.cells (u8s O) 140)) 68 9 5 140 w1.heap.size O 64 Tryz.underlying68 Tryz.underlying5 Tryz.underlying9 (heap_alloc_last _ _) HL.out 64
  have HBE : Aside0 (Below w.heap.size w (w1.alloc (.cells (u8s O) 140))) := ⟨below_alloc (below_then (pw_below_drewN (Below.refl _ w) n1) (Nat.le_refl _) hb) _⟩
  clear hb
  go_wp2_with (refine wpList_store_row rfl 140 (.tmp 8) (.tmp 17) rfl _ (u8s O) rfl rfl 140 _ (heap_alloc_last _ _) HI64.out (by rw [u8s_size, HL.out]; rfl) (u8s_one _) ?_; rw [World.setRow_alloc_new])
  go_ret2
  exact ⟨rfl, HBE.out⟩
 ·rw [if_neg hc] at h
  simp only [Option.some.injEq, Prod.mk.injEq] at h
  obtain ⟨rfl, rfl⟩ := h
  have hcd : decide (chaOK a0 a1 a2) = false := decide_eq_false hc
  have HC := Aside0.mk hcd
  clear hcd hc
  go_enter Tryz.func103, Tryz.ntmps103
  go_wp2_with (fail)
  refine (may_calls _ _ _ _).mono ?_
  rw [HC.out]
  rintro e w1 ⟨rfl, n1, rfl⟩
  go_wp2
  go_ret2
  exact ⟨rfl, pw_below_drewN (Below.refl _ w) n1⟩
def xorAt (f : Nat → Nat) (L : List Nat) (i : Nat) : List Nat := (List.range L.length).map fun j => if j < i then L.getD j 0 ^^^ f j else L.getD j 0
theorem xorAt_length (f : Nat → Nat) (L : List Nat) (i : Nat) : (xorAt f L i).length = L.length := by simp [xorAt]
theorem xorAt_zero (f : Nat → Nat) (L : List Nat) : xorAt f L 0 = L := by
 apply List.ext_getElem
 ·simp [xorAt]
 ·intro j h1 h2
  simp [xorAt, List.getD_eq_getElem?_getD, h2]
theorem xorAt_get (f : Nat → Nat) (L : List Nat) (i : Nat) (hi : i < L.length) : (xorAt f L i)[i]? = some (L.getD i 0) := by
 simp [xorAt, hi]
theorem xorAt_set (f : Nat → Nat) (L : List Nat) (i x y : Nat) (hi : i < L.length) (hx : L.getD i 0 = x) (hy : f i = y) : (xorAt f L i).set i (x ^^^ y) = xorAt f L (i + 1) := by
 apply List.ext_getElem
 ·simp [xorAt]
 ·intro j h1 h2
  rw [List.getElem_set]
  simp only [xorAt, List.getElem_map, List.getElem_range]
  by_cases e : i = j
  ·subst e; rw [if_pos rfl, if_pos (by omega), hx, hy]
  ·rw [if_neg e]
   by_cases h : j < i
   ·rw [if_pos h, if_pos (by omega)]
   ·rw [if_neg h, if_neg (by omega)]
theorem xorAt_over (f : Nat → Nat) (L : List Nat) (i i' : Nat) (h : L.length ≤ i) (h' : L.length ≤ i') : xorAt f L i = xorAt f L i' := by
 unfold xorAt
 apply List.map_congr_left
 intro j hj
 rw [List.mem_range] at hj
 rw [if_pos (by omega), if_pos (by omega)]
def strB (key nonce : List Nat) (n i : Nat) : Nat := (chaL key nonce (n + i / 64)).getD (i % 64) 0
def streamL (key nonce : List Nat) (n : Nat) (s : List Nat) : List Nat := xorAt (strB key nonce n) s s.length
def strOK (a0 a1 : ByteArray) (a2 : Int) (a3 : ByteArray) : Prop := chaOK a0 a1 a2 ∧ a3.size ≤ 65536 ∧ ((a3.size + 63) / 64 : Nat) ≤ 4294967296 - a2
instance (a0 a1 : ByteArray) (a2 : Int) (a3 : ByteArray) : Decidable (strOK a0 a1 a2 a3) := by unfold strOK; infer_instance
def chacha_Stream.f (a0 a1 : ByteArray) (a2 : Int) (a3 : ByteArray) : Option (ByteArray × Int) :=
 if a3.size ≤ 1000000000000 then (if strOK a0 a1 a2 a3 then some (txt (streamL (bys a0) (bys a1) a2.toNat (bys a3)), 0) else some (⟨#[]⟩, 1)) else none
set_option maxRecDepth 100000 in
theorem chacha_Stream.yes (a0 a1 a3 : ByteArray) (m : Nat) (w : World) (h0 : a0.size = 32) (h1 : a1.size = 12) (hm : m < 4294967296) (h3 : a3.size ≤ 65536) (h4 : m + (a3.size + 63) / 64 ≤ 4294967296) :
  Calls Tryz.prog 66 #[.string a0, .string a1, .int .i64 m, .string a3] w fun e w' => e = .returned (.tuple #[.string (txt (streamL (bys a0) (bys a1) m (bys a3))), .int .i64 0]) ∧ Below w.heap.size w w' := by
 have hcd : decide (chaOK a0 a1 m) = true := decide_eq_true ⟨h0, h1, by omega, by omega⟩
 have hB : ∀ (j : Nat) (W : World), m + j < 4294967296 → Calls Tryz.prog 102 #[.string a0, .string a1, .int .i64 ((m : Int) + (j : Int))] W fun e w' => e = .returned (.agg (u8s (chaL (bys a0) (bys a1) (m + j)))) ∧ Below W.heap.size W w' := by
  intro j W hj
  have := chacha_bytes_calls a0 a1 (m + j) W h0 h1 hj
  rwa [show ((m + j : Nat) : Int) = (m : Int) + (j : Int) by omega] at this
 have HB := Aside0.mk hB
 have HC := Aside0.mk hcd
 have kb := print_bytes (P := Tryz.prog) 9 68 5 Tryz.underlying9 Tryz.underlying68 Tryz.underlying5 a3
 have t1 : decide (65536 < (a3.size : Int)) = false := decide_eq_false (by omega)
 have t2 : decide (4294967296 - (m : Int) < ((a3.size : Int) + 64 - 1) / 64) = false := decide_eq_false (by omega)
 clear hB hcd
 go_enter Tryz.func66, Tryz.ntmps66
 go_wp2_with (fail)
 refine (may_calls _ _ _ _).mono ?_
 rw [HC.out]
 rintro e w1 ⟨rfl, n1, rfl⟩
 have kb := kb (w.drewN n1)
 go_wp2_with (fail)
 have HROW : ∃ rest, BAt w.heap.size (bys a3) rest (Lib.bytesWorld (w.drewN n1) 5 a3) := bytes_row (w.drewN n1) a3
 have HB0 : Aside0 (Below w.heap.size w (Lib.bytesWorld (w.drewN n1) 5 a3)) := ⟨bytes_below (pw_below_drewN (Below.refl _ w) n1) (Nat.le_refl _) _ _⟩
 clear kb
 obtain ⟨rest, HROW⟩ := HROW
 have hLl := bys_length a3
 have hLb := bys_lt' a3
 have hpost : streamL (bys a0) (bys a1) m (bys a3) = xorAt (strB (bys a0) (bys a1) m) (bys a3) (bys a3).length := rfl
 have HP := Aside0.mk hpost
 rw [← xorAt_zero (strB (bys a0) (bys a1) m) (bys a3)] at HROW
 generalize hL : bys a3 = L at hLl hLb HROW HP
 have HLe := Aside0.mk hL
 clear hL
 have HLl := Aside0.mk hLl
 have HLb := Aside0.mk hLb
 have HR := Aside0.mk HROW
 clear hpost hLl hLb HROW
 generalize Lib.bytesWorld (w.drewN n1) 5 a3 = w2 at HR HB0 ⊢
 generalize grownCap (w.drewN n1) a3.size 0 5 = cp
 have hcv := Aside0.mk (fun (W : World) (l : List Nat) (h : BAt w.heap.size l rest W) (hl : l.length = a3.size) => conv_bat W w.heap.size l rest h a3.size hl cp)
 go_loopw [11] (fun i wr => ∃ j : Nat, 64 * j < a3.size + 64 ∧ i = .int .i64 (64 * (j : Int)) ∧ Aside0 (BAt w.heap.size (xorAt (strB (bys a0) (bys a1) m) L (64 * j)) rest wr) ∧ Aside0 (Below w.heap.size w wr)) (fun i _ => a3.size + 64 - (intOf i).toNat)
 case atStart => exact ⟨0, by omega, rfl, HR, HB0⟩
 case round =>
  clear HR HB0
  obtain ⟨j, hj, rfl, HR, HBE⟩ := hrel
  by_cases hlt : 64 * j < a3.size
  ·have d1 : decide (64 * (j : Int) < (a3.size : Int)) = true := decide_eq_true (by omega)
   have d2 : 64 * (j : Int) / 64 = (j : Int) := by omega
   have hjm : m + j < 4294967296 := by omega
   go_wp2_with (fail)
   refine (HB.out j _ hjm).mono ?_
   rintro e w3 ⟨rfl, hb⟩
   have HO := Aside0.mk (chaL_length (bys a0) (bys a1) (m + j))
   have HOl := Aside0.mk (chaL_lt (bys a0) (bys a1) (m + j))
   have HF := Aside0.mk (show ∀ i, i < 64 → strB (bys a0) (bys a1) m (64 * j + i) = (chaL (bys a0) (bys a1) (m + j)).getD i 0 by
    intro i hi
    unfold strB
    rw [show (64 * j + i) / 64 = j by omega, show (64 * j + i) % 64 = i by omega])
   generalize chaL (bys a0) (bys a1) (m + j) = O at HO HOl HF ⊢
   have hinf : (Tryz.prog.info? 140).map (·.size) = some 64 := by kernel_rfl
   have hi64 : (Tryz.prog.info? 140).map (·.size) = some (u8s O).size := by rw [u8s_size, HO.out]; exact hinf
   have HI64 := Aside0.mk hi64
   clear hi64 hinf
   have HR0 := HR
   have HR : Aside0 (BAt w.heap.size (xorAt (strB (bys a0) (bys a1) m) L (64 * j)) rest (w3.alloc (.cells (u8s O) 140))) := ⟨blk_alloc (blk_below HR.out hb) _⟩
   have HBE : Aside0 (Below w.heap.size w (w3.alloc (.cells (u8s O) 140))) := ⟨below_alloc (below_then HBE.out HBE.out.size hb) _⟩
   have HON : Aside0 ((w3.alloc (.cells (u8s O) 140)).heap[w3.heap.size]? = some (.cells (u8s O) 140 (0, 0))) := ⟨heap_alloc_last _ _⟩
   go_wp2_with (refine wpList_store_row rfl 140 (.tmp 12) (.tmp 48) rfl _ (u8s O) rfl rfl 140 _ (heap_alloc_last _ _) HI64.out (by rw [u8s_size, HO.out]; rfl) (u8s_one _) ?_; rw [World.setRow_alloc_new])
   have hq : min 64 ((a3.size : Int) - 64 * (j : Int)) = ((min 64 (a3.size - 64 * j) : Nat) : Int) := by omega
   rw [hq]
   have q1 : min 64 (a3.size - 64 * j) ≤ 64 := by omega
   have q2 : 64 * j + min 64 (a3.size - 64 * j) ≤ a3.size := by omega
   have q3 : min 64 (a3.size - 64 * j) = 64 ∨ 64 * j + min 64 (a3.size - 64 * j) = a3.size := by omega
   have HQ3 := Aside0.mk q3
   clear hq q3
   generalize min 64 (a3.size - 64 * j) = q at q1 q2 HQ3 ⊢
   have HG4 := Aside0.mk (Nat.lt_of_lt_of_le (blk_lt HR0.out) hb.size)
   generalize w3.alloc (.cells (u8s O) 140) = w4 at HR HBE HON ⊢
   generalize w3.heap.size = g4 at HON HG4 ⊢
   clear hb HR0
   go_loopw [54] (fun i wr => ∃ k : Nat, k ≤ q ∧ i = .int .i64 k ∧ Aside0 (BAt w.heap.size (xorAt (strB (bys a0) (bys a1) m) L (64 * j + k)) rest wr) ∧ Aside0 (Below w.heap.size w wr) ∧ Aside0 (wr.heap[g4]? = some (.cells (u8s O) 140 (0, 0)))) (fun i _ => q - (intOf i).toNat)
   case atStart => exact ⟨0, by omega, rfl, HR, HBE, HON⟩
   case round =>
    clear HR HBE HON
    obtain ⟨k, hk, rfl, HR, HBE, HON⟩ := hrel
    by_cases hlk : k < q
    ·have hx0 := xorAt_get (strB (bys a0) (bys a1) m) L (64 * j + k) (by rw [HLl.out]; omega)
     have hxb : L.getD (64 * j + k) 0 < 256 := by
      have hk' : 64 * j + k < L.length := by rw [HLl.out]; omega
      rw [List.getD_eq_getElem?_getD, List.getElem?_eq_getElem hk']
      exact HLb.out _ (List.getElem_mem hk')
     have hyb : O.getD k 0 < 256 := by
      have hk' : k < O.length := by rw [HO.out]; omega
      rw [List.getD_eq_getElem?_getD, List.getElem?_eq_getElem hk']
      exact HOl.out _ (List.getElem_mem hk')
     have hcell := BAt.cell HR.out hx0
     have hfr := BAt.frozen HR.out hx0
     have hcO := (blk_cell HON.out k).trans (u8s_get O k (by rw [HO.out]; omega))
     generalize hx : L.getD (64 * j + k) 0 = x at hcell hxb
     generalize hy : O.getD k 0 = y at hcO hyb
     have HX := Aside0.mk hx
     have HY := Aside0.mk hy
     clear hx hy hx0
     have hxor := u8_xor_nat x y hxb hyb
     go_wp2_with (fail)
     refine wp_still_tail 11 (by kernel_rfl) (by kernel_rfl) ?_
     intro W hW
     have HW := Aside0.mk hW
     have g1 : W.cell? ⟨w.heap.size, 64 * j + k, none⟩ = some (.int .u8 (x : Int)) := by rw [hW]; exact hcell
     have g2 : W.cell? ⟨g4, k, none⟩ = some (.int .u8 (y : Int)) := by rw [hW]; exact hcO
     have gf : W.frozen? ⟨w.heap.size, 64 * j + k, none⟩ = false := by rw [hW]; exact hfr
     have i1 : IntKind.i64.wrap (64 * (j : Int) + (k : Int)) = 64 * (j : Int) + (k : Int) := IntWalk.i64_in _ (by omega)
     have i2 : (64 * (j : Int) + (k : Int)).toNat = 64 * j + k := by omega
     have i3 : 0 ≤ 64 * (j : Int) + (k : Int) := by omega
     have i4 : 64 * (j : Int) + (k : Int) < (a3.size : Int) := by omega
     have i5 : (k : Int) < 64 := by omega
     clear hW hcell hcO hfr
     simp only [List.take_succ_cons, List.take_zero, List.drop_succ_cons, List.drop_zero]
     repeat still_step
     refine wpStill_nil ?_
     go_wp2
     clear i1 i2 i3 i4 i5
     have HN : BAt w.heap.size (xorAt (strB (bys a0) (bys a1) m) L (64 * j + (k + 1))) rest (W.setCell ⟨w.heap.size, 64 * j + k, none⟩ (.int .u8 ((x ^^^ y : Nat) : Int))) := by
      rw [show 64 * j + (k + 1) = 64 * j + k + 1 by omega, ← xorAt_set (strB (bys a0) (bys a1) m) L (64 * j + k) x y (by rw [HLl.out]; omega) HX.out ((HF.out k (by omega)).trans HY.out)]
      rw [HW.out]
      exact BAt.store (w := wr.drew) HR.out (64 * j + k) (x ^^^ y) (by rw [xorAt_length, HLl.out]; omega)
     exact ⟨⟨k + 1, by omega, by go_num, ⟨HN⟩, ⟨by rw [HW.out]; exact below_set (below_drew HBE.out) (Nat.le_refl _)⟩, ⟨by rw [HW.out]; exact blk_far (w := wr.drew) (blk_drew HON.out) (by have := HG4.out; simp; omega) _⟩⟩, by simp [intOf]; omega⟩
    ·obtain rfl : k = q := by omega
     clear hlk hk
     go_wp2_with (fail)
     have HN : BAt w.heap.size (xorAt (strB (bys a0) (bys a1) m) L (64 * (j + 1))) rest wr := by
      rcases HQ3.out with h | h
      ·rw [show 64 * (j + 1) = 64 * j + k by omega]; exact HR.out
      ·rw [xorAt_over _ L (64 * (j + 1)) (64 * j + k) (by rw [HLl.out]; omega) (by rw [HLl.out]; omega)]; exact HR.out
     exact ⟨⟨j + 1, by omega, by go_num, ⟨HN⟩, HBE⟩, by simp [intOf]; omega⟩
  ·have d1 : decide (64 * (j : Int) < (a3.size : Int)) = false := decide_eq_false (by omega)
   have hcv2 := hcv.out wr _ HR.out (by rw [xorAt_length, HLl.out])
   have HE := Aside0.mk (xorAt_over (strB (bys a0) (bys a1) m) L (64 * j) L.length (by rw [HLl.out]; omega) (Nat.le_refl _))
   go_wp2
   go_ret2
   rw [HE.out, ← HP.out, ← HLe.out]
   exact ⟨rfl, HBE.out⟩
set_option maxRecDepth 100000 in
theorem chacha_Stream.no (a0 a1 a3 : ByteArray) (a2 : Int) (w : World) (h : ¬ strOK a0 a1 a2 a3) (k3 : a3.size ≤ 1000000000000) :
  Calls Tryz.prog 66 #[.string a0, .string a1, .int .i64 a2, .string a3] w fun e w' => e = .returned (.tuple #[.string ⟨#[]⟩, .int .i64 1]) ∧ Below w.heap.size w w' := by
 by_cases hc : chaOK a0 a1 a2
 ·have hcd : decide (chaOK a0 a1 a2) = true := decide_eq_true hc
  obtain ⟨h0, h1, h2, h3⟩ := hc
  have HC := Aside0.mk hcd
  clear hcd
  by_cases h4 : 65536 < a3.size
  ·have t1 : decide (65536 < (a3.size : Int)) = true := decide_eq_true (by omega)
   clear h h4
   go_enter Tryz.func66, Tryz.ntmps66
   go_wp2_with (fail)
   refine (may_calls _ _ _ _).mono ?_
   rw [HC.out]
   rintro e w1 ⟨rfl, n1, rfl⟩
   go_wp2
   go_ret2
   exact ⟨rfl, pw_below_drewN (Below.refl _ w) n1⟩
  ·have t1 : decide (65536 < (a3.size : Int)) = false := decide_eq_false (by omega)
   have t2 : decide (4294967296 - a2 < ((a3.size : Int) + 64 - 1) / 64) = true := by
    refine decide_eq_true ?_
    apply Classical.byContradiction
    intro hn
    exact h ⟨⟨h0, h1, h2, h3⟩, by omega, by omega⟩
   clear h
   go_enter Tryz.func66, Tryz.ntmps66
   go_wp2_with (fail)
   refine (may_calls _ _ _ _).mono ?_
   rw [HC.out]
   rintro e w1 ⟨rfl, n1, rfl⟩
   go_wp2
   go_ret2
   exact ⟨rfl, pw_below_drewN (Below.refl _ w) n1⟩
 ·have hcd : decide (chaOK a0 a1 a2) = false := decide_eq_false hc
  have HC := Aside0.mk hcd
  clear hcd hc h
  go_enter Tryz.func66, Tryz.ntmps66
  go_wp2_with (fail)
  refine (may_calls _ _ _ _).mono ?_
  rw [HC.out]
  rintro e w1 ⟨rfl, n1, rfl⟩
  go_wp2
  go_ret2
  exact ⟨rfl, pw_below_drewN (Below.refl _ w) n1⟩
theorem chacha_Stream.calls (a0 : ByteArray) (a1 : ByteArray) (a2 : Int) (a3 : ByteArray) (r1 : ByteArray) (r2 : Int) (w : World) (h : chacha_Stream.f a0 a1 a2 a3 = some (r1, r2)) :
  Calls Tryz.prog 66 #[.string a0, .string a1, .int .i64 a2, .string a3] w fun e w' => e = .returned (.tuple #[.string r1, .int .i64 r2]) ∧ Below w.heap.size w w' := by
 unfold chacha_Stream.f at h
 by_cases hs : a3.size ≤ 1000000000000
 ·rw [if_pos hs] at h
  by_cases hc : strOK a0 a1 a2 a3
  ·rw [if_pos hc] at h
   simp only [Option.some.injEq, Prod.mk.injEq] at h
   obtain ⟨rfl, rfl⟩ := h
   obtain ⟨⟨h0, h1, h2, h3⟩, h4, h5⟩ := hc
   obtain ⟨m, rfl⟩ := Int.eq_ofNat_of_zero_le h2
   rw [Int.toNat_natCast]
   exact chacha_Stream.yes a0 a1 a3 m w h0 h1 (by omega) h4 (by omega)
  ·rw [if_neg hc] at h
   simp only [Option.some.injEq, Prod.mk.injEq] at h
   obtain ⟨rfl, rfl⟩ := h
   exact chacha_Stream.no a0 a1 a3 a2 w hc hs
 ·rw [if_neg hs] at h
  cases h
def mapAt (p : Nat → Nat → Nat) (l : List Nat) : List Nat := (List.range l.length).map fun i => p i (l.getD i 0)
theorem mapAt_length (p : Nat → Nat → Nat) (l : List Nat) : (mapAt p l).length = l.length := by simp [mapAt]
theorem mapAt_congr {p q : Nat → Nat → Nat} {l : List Nat} (h : ∀ i, i < l.length → p i (l.getD i 0) = q i (l.getD i 0)) : mapAt p l = mapAt q l :=
 List.map_congr_left fun i hi => h i (List.mem_range.1 hi)
theorem mapAt_id (l : List Nat) : mapAt (fun _ x => x) l = l := by
 apply List.ext_getElem
 ·simp [mapAt]
 ·intro j h1 h2
  simp [mapAt, List.getD_eq_getElem?_getD, h2]
theorem mapAt_get (p : Nat → Nat → Nat) (l : List Nat) (i : Nat) (hi : i < l.length) : (mapAt p l)[i]? = some (p i (l.getD i 0)) := by
 simp [mapAt, hi]
theorem mapAt_set {p q : Nat → Nat → Nat} {l : List Nat} (k v : Nat) (hk : q k (l.getD k 0) = v) (h : ∀ i, i ≠ k → p i (l.getD i 0) = q i (l.getD i 0)) : (mapAt p l).set k v = mapAt q l := by
 apply List.ext_getElem
 ·simp [mapAt]
 ·intro j h1 h2
  rw [List.getElem_set]
  simp only [mapAt, List.getElem_map, List.getElem_range]
  by_cases e : k = j
  ·subst e; rw [if_pos rfl, hk]
  ·rw [if_neg e, h j (fun e' => e e'.symm)]
def clB (k x : Nat) : Nat := if k % 4 = 3 then x % 16 else if k % 4 = 0 ∧ 0 < k then x / 4 * 4 else x
def clampL (l : List Nat) : List Nat := mapAt clB l
theorem clampL_length (l : List Nat) : (clampL l).length = l.length := mapAt_length _ _
theorem clB_lt (k x : Nat) (h : x < 256) : clB k x < 256 := by
 unfold clB
 split
 ·omega
 ·split <;> omega
theorem clampL_lt (l : List Nat) (h : ∀ i, l.getD i 0 < 256) : ∀ x ∈ clampL l, x < 256 := by
 intro x hx
 unfold clampL mapAt at hx
 rw [List.mem_map] at hx
 obtain ⟨i, _, rfl⟩ := hx
 exact clB_lt _ _ (h i)
def upto (f : Nat → Nat → Nat) (k : Nat) : Nat → Nat → Nat := fun i x => if i < k then f i x else x
theorem upto_set (f : Nat → Nat → Nat) (L : List Nat) (k v : Nat) (hv : f k (L.getD k 0) = v) : (mapAt (upto f k) L).set k v = mapAt (upto f (k + 1)) L := by
 refine mapAt_set k v ?_ ?_
 ·unfold upto; rw [if_pos (by omega), hv]
 ·intro i hi
  unfold upto
  by_cases h : i < k
  ·rw [if_pos h, if_pos (by omega)]
  ·rw [if_neg h, if_neg (by omega)]
theorem upto_skip (f : Nat → Nat → Nat) (L : List Nat) (k k' : Nat) (hk : k ≤ k') (hv : ∀ i, k ≤ i → i < k' → f i (L.getD i 0) = L.getD i 0) : mapAt (upto f k) L = mapAt (upto f k') L := by
 refine mapAt_congr fun i _ => ?_
 unfold upto
 by_cases h : i < k
 ·rw [if_pos h, if_pos (by omega)]
 ·rw [if_neg h]
  by_cases h' : i < k'
  ·rw [if_pos h', hv i (by omega) h']
  ·rw [if_neg h']
theorem upto_get (f : Nat → Nat → Nat) (L : List Nat) (k : Nat) (hk : k < L.length) : (mapAt (upto f k) L)[k]? = some (L.getD k 0) := by
 rw [mapAt_get _ _ _ hk]
 unfold upto
 rw [if_neg (by omega)]
theorem upto_zero (f : Nat → Nat → Nat) (L : List Nat) : mapAt (upto f 0) L = L := by
 conv => rhs; rw [← mapAt_id L]
 exact mapAt_congr fun i _ => by simp [upto]
theorem upto_all (f : Nat → Nat → Nat) (L : List Nat) (k : Nat) (hk : L.length ≤ k) : mapAt (upto f k) L = mapAt f L :=
 mapAt_congr fun i hi => by unfold upto; rw [if_pos (by omega)]
theorem u8_and15 : ∀ x : Nat, x < 256 → bits .and .u8 (x : Int) 15 = ((x % 16 : Nat) : Int) := by decide +kernel
theorem u8_and252 : ∀ x : Nat, x < 256 → bits .and .u8 (x : Int) 252 = ((x / 4 * 4 : Nat) : Int) := by decide +kernel
theorem u8_not3 : ∀ x : Nat, x < 256 → bits .andNot .u8 (x : Int) 3 = ((x / 4 * 4 : Nat) : Int) := by decide +kernel
set_option maxRecDepth 100000 in
theorem poly_Clamp.yes (a0 : ByteArray) (w : World) (h0 : a0.size = 16) :
  Calls Tryz.prog 149 #[.string a0] w fun e w' => e = .returned (.tuple #[.string (txt (clampL (bys a0))), .int .i64 0]) ∧ Below w.heap.size w w' := by
 have kb := print_bytes (P := Tryz.prog) 9 68 5 Tryz.underlying9 Tryz.underlying68 Tryz.underlying5 a0 w
 have g0 : ((a0.size : Int) != 16) = false := by rw [bne_eq_false_iff_eq]; omega
 go_enter Tryz.func149, Tryz.ntmps149
 go_wp2_with (fail)
 have HROW := bytes_row w a0
 have HB0 : Aside0 (Below w.heap.size w (Lib.bytesWorld w 5 a0)) := ⟨bytes_below (Below.refl _ w) (Nat.le_refl _) _ _⟩
 clear kb g0
 obtain ⟨rest, HROW⟩ := HROW
 have hLl : (bys a0).length = 16 := by rw [bys_length]; exact h0
 have hLb := bys_lt a0
 rw [← upto_zero clB (bys a0)] at HROW
 generalize hL : bys a0 = L at hLl hLb HROW
 have HLe := Aside0.mk hL
 have HLl := Aside0.mk hLl
 have HLb := Aside0.mk hLb
 have HR0 := Aside0.mk HROW
 clear hL hLl hLb HROW
 generalize Lib.bytesWorld w 5 a0 = w2 at HR0 HB0 ⊢
 generalize grownCap w a0.size 0 5 = cp
 generalize grownCap w 16 0 5 = cp
 have hcv := Aside0.mk (fun (W : World) (l : List Nat) (h : BAt w.heap.size l rest W) (hl : l.length = 16) => conv_bat W w.heap.size l rest h 16 hl cp)
 go_loopw [13] (fun i wr => ∃ k : Nat, k ≤ 16 ∧ i = .int .i64 k ∧ Aside0 (BAt w.heap.size (mapAt (upto clB k) L) rest wr) ∧ Aside0 (Below w.heap.size w wr)) (fun i _ => 16 - (intOf i).toNat)
 case atStart => exact ⟨0, by omega, rfl, HR0, HB0⟩
 case round =>
  clear HR0 HB0
  obtain ⟨k, hk, rfl, HR, HB⟩ := hrel
  by_cases hlt : k < 16
  ·have hx0 := mapAt_get (fun i x => if i < k then clB i x else x) L k (by rw [HLl.out]; exact hlt)
   simp only [Nat.lt_irrefl, if_false] at hx0
   have hxb := HLb.out k
   have hcell := BAt.cell HR.out hx0
   have hfr := BAt.frozen HR.out hx0
   generalize hx : L.getD k 0 = x at hcell hxb
   have hb15 := u8_and15 x hxb
   have hb3 := u8_not3 x hxb
   have HX := Aside0.mk hx
   clear hx hx0 hcv
   have HN : ∀ W v, W = wr.setCell ⟨w.heap.size, k, none⟩ (.int .u8 ((v : Nat) : Int)) → clB k x = v → Aside0 (BAt w.heap.size (mapAt (upto clB (k + 1)) L) rest W) ∧ Aside0 (Below w.heap.size w W) := by
    rintro W v rfl hv
    refine ⟨⟨?_⟩, ⟨below_set HB.out (Nat.le_refl _)⟩⟩
    rw [← upto_set clB L k v (by rw [HX.out, hv])]
    exact BAt.store HR.out k v (by rw [mapAt_length, HLl.out]; exact hlt)
   have HN := Aside0.mk HN
   by_cases h3 : k % 4 = 3
   ·have t3 : (((k : Int) % 4) == 3) = true := by rw [beq_iff_eq]; omega
    have hv : clB k x = x % 16 := by unfold clB; rw [if_pos h3]
    have HV := Aside0.mk hv
    clear hv h3
    go_wp2
    have := HN.out _ _ rfl HV.out
    exact ⟨⟨k + 1, by omega, by go_num, this.1, this.2⟩, by simp [intOf]; omega⟩
   ·have t3 : (((k : Int) % 4) == 3) = false := by rw [beq_eq_false_iff_ne]; omega
    by_cases h4 : k % 4 = 0 ∧ 0 < k
    ·have t4 : (((k : Int) % 4) == 0) = true := by rw [beq_iff_eq]; omega
     have t5 : decide (0 < (k : Int)) = true := decide_eq_true (by omega)
     have t6 : 0 < k := by omega
     have hv : clB k x = x / 4 * 4 := by unfold clB; rw [if_neg h3, if_pos h4]
     have HV := Aside0.mk hv
     clear hv h3 h4
     go_wp2
     have := HN.out _ _ rfl HV.out
     exact ⟨⟨k + 1, by omega, by go_num, this.1, this.2⟩, by simp [intOf]; omega⟩
    ·have hv : clB k x = x := by unfold clB; rw [if_neg h3, if_neg h4]
     have HS : Aside0 (BAt w.heap.size (mapAt (upto clB (k + 1)) L) rest wr) := ⟨by
      rw [← upto_skip clB L k (k + 1) (by omega) (fun i h1 h2 => by rw [show i = k by omega, HX.out, hv])]
      exact HR.out⟩
     clear hv
     by_cases h0k : k = 0
     ·have t4 : (((k : Int) % 4) == 0) = true := by rw [beq_iff_eq]; omega
      have t5 : decide (0 < (k : Int)) = false := decide_eq_false (by omega)
      have t6 : (0 < k) = False := eq_false (by omega)
      clear h3 h4 h0k
      go_wp2
      exact ⟨⟨k + 1, by omega, by go_num, HS, HB⟩, by simp [intOf]; omega⟩
     ·have t4 : (((k : Int) % 4) == 0) = false := by rw [beq_eq_false_iff_ne]; omega
      clear h3 h4 h0k
      go_wp2
      exact ⟨⟨k + 1, by omega, by go_num, HS, HB⟩, by simp [intOf]; omega⟩
  ·obtain rfl : k = 16 := by omega
   clear hlt hk
   have hcv2 := hcv.out wr _ HR.out (by rw [mapAt_length, HLl.out])
   have HE := Aside0.mk (show mapAt (upto clB 16) L = clampL L from upto_all clB L 16 (by rw [HLl.out]; omega))
   rw [HE.out] at hcv2
   go_wp2
   go_ret2
   rw [HLe.out]
   exact ⟨rfl, HB.out⟩
def cl3 (k x : Nat) : Nat := if k % 4 = 3 then x % 16 else x
def cl0 (k x : Nat) : Nat := if k % 4 = 0 ∧ 0 < k then x / 4 * 4 else x
theorem cl_both (L : List Nat) : mapAt cl0 (mapAt cl3 L) = clampL L := by
 unfold clampL mapAt
 rw [List.length_map, List.length_range]
 apply List.map_congr_left
 intro i hi
 rw [List.mem_range] at hi
 have : ((List.range L.length).map fun i => cl3 i (L.getD i 0)).getD i 0 = cl3 i (L.getD i 0) := by
  simp [List.getD_eq_getElem?_getD, hi]
 rw [this]
 unfold clB cl0 cl3
 by_cases h : i % 4 = 3
 ·rw [if_pos h, if_neg (by omega), if_pos h]
 ·rw [if_neg h, if_neg h]
set_option maxRecDepth 100000 in
theorem samphireref06_Clamp.yes (a0 : ByteArray) (w : World) (h0 : a0.size = 16) :
  Calls Tryz.prog 162 #[.string a0] w fun e w' => e = .returned (.tuple #[.string (txt (clampL (bys a0))), .int .i64 0]) ∧ Below w.heap.size w w' := by
 have kb := print_bytes (P := Tryz.prog) 9 68 5 Tryz.underlying9 Tryz.underlying68 Tryz.underlying5 a0 w
 have g0 : ((a0.size : Int) != 16) = false := by rw [bne_eq_false_iff_eq]; omega
 go_enter Tryz.func162, Tryz.ntmps162
 go_wp2_with (fail)
 have HROW := bytes_row w a0
 have HB0 : Aside0 (Below w.heap.size w (Lib.bytesWorld w 5 a0)) := ⟨bytes_below (Below.refl _ w) (Nat.le_refl _) _ _⟩
 clear kb g0
 obtain ⟨rest, HROW⟩ := HROW
 have hLl : (bys a0).length = 16 := by rw [bys_length]; exact h0
 have hLb := bys_lt a0
 rw [← upto_zero cl3 (bys a0), upto_skip cl3 (bys a0) 0 3 (by omega) (fun i _ h => by unfold cl3; rw [if_neg (by omega)])] at HROW
 generalize hL : bys a0 = L at hLl hLb HROW
 have HLe := Aside0.mk hL
 have HLl := Aside0.mk hLl
 have HLb := Aside0.mk hLb
 have HR0 := Aside0.mk HROW
 clear hL hLl hLb HROW
 generalize Lib.bytesWorld w 5 a0 = w2 at HR0 HB0 ⊢
 generalize grownCap w a0.size 0 5 = cp
 generalize grownCap w 16 0 5 = cp
 have hcv := Aside0.mk (fun (W : World) (l : List Nat) (h : BAt w.heap.size l rest W) (hl : l.length = 16) => conv_bat W w.heap.size l rest h 16 hl cp)
 go_loopw [5] (fun i wr => ∃ j : Nat, j ≤ 4 ∧ i = .int .i64 (4 * (j : Int) + 3) ∧ Aside0 (BAt w.heap.size (mapAt (upto cl3 (4 * j + 3)) L) rest wr) ∧ Aside0 (Below w.heap.size w wr)) (fun i _ => 20 - (intOf i).toNat)
 case atStart => exact ⟨0, by omega, rfl, HR0, HB0⟩
 case round =>
  clear HR0 HB0
  obtain ⟨j, hk, rfl, HR, HB⟩ := hrel
  by_cases hlt : j < 4
  ·have hx0 := upto_get cl3 L (4 * j + 3) (by rw [HLl.out]; omega)
   have hxb := HLb.out (4 * j + 3)
   have hcell := BAt.cell HR.out hx0
   have hfr := BAt.frozen HR.out hx0
   generalize hx : L.getD (4 * j + 3) 0 = x at hcell hxb
   have hb15 := u8_and15 x hxb
   have HX := Aside0.mk hx
   have t1 : decide (4 * (j : Int) + 3 < 16) = true := decide_eq_true (by omega)
   have t2 : (4 * (j : Int) + 3).toNat = 4 * j + 3 := by omega
   clear hx hx0 hcv
   go_wp2
   have HN : BAt w.heap.size (mapAt (upto cl3 (4 * (j + 1) + 3)) L) rest (wr.setCell ⟨w.heap.size, 4 * j + 3, none⟩ (.int .u8 ((x % 16 : Nat) : Int))) := by
    rw [← upto_skip cl3 L (4 * j + 3 + 1) (4 * (j + 1) + 3) (by omega) (fun i h1 h2 => by unfold cl3; rw [if_neg (by omega)]),
     ← upto_set cl3 L (4 * j + 3) (x % 16) (by unfold cl3; rw [if_pos (by omega), HX.out])]
    exact BAt.store HR.out (4 * j + 3) (x % 16) (by rw [mapAt_length, HLl.out]; omega)
   exact ⟨⟨j + 1, by omega, by go_num, ⟨HN⟩, ⟨below_set HB.out (Nat.le_refl _)⟩⟩, by simp [intOf]; omega⟩
  ·obtain rfl : j = 4 := by omega
   clear hlt hk
   have HR1 : Aside0 (BAt w.heap.size (mapAt (upto cl0 4) (mapAt cl3 L)) rest wr) := ⟨by
    rw [← upto_skip cl0 (mapAt cl3 L) 0 4 (by omega) (fun i _ h => by unfold cl0; rw [if_neg (by omega)]), upto_zero, ← upto_all cl3 L 19 (by rw [HLl.out]; omega)]
    exact HR.out⟩
   have HLm := Aside0.mk (show (mapAt cl3 L).length = 16 by rw [mapAt_length, HLl.out])
   have HLc := Aside0.mk (cl_both L)
   have HLb2 : Aside0 (∀ i, (mapAt cl3 L).getD i 0 < 256) := ⟨fun i => by
    by_cases hi : i < L.length
    ·rw [List.getD_eq_getElem?_getD, mapAt_get _ _ _ hi]
     have := HLb.out i
     simp only [Option.getD_some]
     unfold cl3
     split
     ·omega
     ·exact this
    ·rw [List.getD_eq_getElem?_getD, List.getElem?_eq_none (by rw [mapAt_length]; omega)]; simp⟩
   generalize mapAt cl3 L = M at HR1 HLm HLc HLb2
   clear HR
   rw [show 4 * ((4 : Nat) : Int) + 3 = 19 from rfl]
   go_wp2_with (fail)
   go_loopw [6] (fun i wr => ∃ j : Nat, j ≤ 3 ∧ i = .int .i64 (4 * (j : Int) + 4) ∧ Aside0 (BAt w.heap.size (mapAt (upto cl0 (4 * j + 4)) M) rest wr) ∧ Aside0 (Below w.heap.size w wr)) (fun i _ => 20 - (intOf i).toNat)
   case atStart => exact ⟨0, by omega, rfl, HR1, HB⟩
   case round =>
    clear HR1 HB
    obtain ⟨j, hk, rfl, HR, HB⟩ := hrel
    by_cases hlt : j < 3
    ·have hx0 := upto_get cl0 M (4 * j + 4) (by rw [HLm.out]; omega)
     have hxb := HLb2.out (4 * j + 4)
     have hcell := BAt.cell HR.out hx0
     have hfr := BAt.frozen HR.out hx0
     generalize hx : M.getD (4 * j + 4) 0 = x at hcell hxb
     have hb252 := u8_and252 x hxb
     have HX := Aside0.mk hx
     have t1 : decide (4 * (j : Int) + 4 < 16) = true := decide_eq_true (by omega)
     have t2 : (4 * (j : Int) + 4).toNat = 4 * j + 4 := by omega
     clear hx hx0 hcv
     go_wp2
     have HN : BAt w.heap.size (mapAt (upto cl0 (4 * (j + 1) + 4)) M) rest (wr.setCell ⟨w.heap.size, 4 * j + 4, none⟩ (.int .u8 ((x / 4 * 4 : Nat) : Int))) := by
      rw [← upto_skip cl0 M (4 * j + 4 + 1) (4 * (j + 1) + 4) (by omega) (fun i h1 h2 => by unfold cl0; rw [if_neg (by omega)]),
       ← upto_set cl0 M (4 * j + 4) (x / 4 * 4) (by unfold cl0; rw [if_pos (by omega), HX.out])]
      exact BAt.store HR.out (4 * j + 4) (x / 4 * 4) (by rw [mapAt_length, HLm.out]; omega)
     exact ⟨⟨j + 1, by omega, by go_num, ⟨HN⟩, ⟨below_set HB.out (Nat.le_refl _)⟩⟩, by simp [intOf]; omega⟩
    ·obtain rfl : j = 3 := by omega
     clear hlt hk
     have hcv2 := hcv.out wr _ HR.out (by rw [mapAt_length, HLm.out])
     have HE := Aside0.mk (show mapAt (upto cl0 (4 * 3 + 4)) M = clampL L from (upto_all cl0 M _ (by rw [HLm.out]; omega)).trans HLc.out)
     rw [HE.out] at hcv2
     rw [show 4 * ((3 : Nat) : Int) + 4 = 16 from rfl]
     go_wp2
     go_ret2
     rw [HLe.out]
     exact ⟨rfl, HB.out⟩
set_option maxRecDepth 100000 in
theorem samphireref06_Clamp.no (a0 : ByteArray) (w : World) (h0 : ¬ a0.size = 16) : Calls Tryz.prog 162 #[.string a0] w fun e w' => e = .returned (.tuple #[.string ⟨#[]⟩, .int .i64 1]) ∧ Below w.heap.size w w' := by
 have g0 : ((a0.size : Int) != 16) = true := by rw [bne_iff_ne]; omega
 go_enter Tryz.func162, Tryz.ntmps162
 go_wp2
 go_ret2
 exact ⟨rfl, Below.refl _ _⟩
def clampF (a0 : ByteArray) : Option (ByteArray × Int) := if a0.size = 16 then some (txt (clampL (bys a0)), 0) else some (⟨#[]⟩, 1)
def samphireref06_Clamp.f (a0 : ByteArray) : Option (ByteArray × Int) := clampF a0
theorem samphireref06_Clamp.calls (a0 : ByteArray) (r1 : ByteArray) (r2 : Int) (w : World) (h : samphireref06_Clamp.f a0 = some (r1, r2)) :
  Calls Tryz.prog 162 #[.string a0] w fun e w' => e = .returned (.tuple #[.string r1, .int .i64 r2]) ∧ Below w.heap.size w w' := by
 unfold samphireref06_Clamp.f clampF at h
 split at h <;> simp only [Option.some.injEq, Prod.mk.injEq] at h <;> obtain ⟨rfl, rfl⟩ := h
 ·exact samphireref06_Clamp.yes a0 w (by assumption)
 ·exact samphireref06_Clamp.no a0 w (by assumption)
end Go.Proofs.YtbkbganflnemeaaGreat.Pr
end

section
namespace Go.Proofs.YtbkbganflnemeaaGreat.Pr
set_option maxHeartbeats 1000000
def lv : List Nat → Nat
 | [] => 0
 | x :: l => x + 67108864 * lv l
def cstep (st : List Nat × Nat) (k : Nat) : List Nat × Nat := (st.1.set k ((st.1.getD k 0 + st.2) % 67108864), (st.1.getD k 0 + st.2) / 67108864)
def carL (l : List Nat) : Nat → List Nat × Nat
 | 0 => (l, 0)
 | k + 1 => cstep (carL l k) k
def car (l : List Nat) : List Nat :=
 ((carL l 5).1.set 0 (((carL l 5).1.getD 0 0 + 5 * (carL l 5).2) % 67108864)).set 1 ((carL l 5).1.getD 1 0 + ((carL l 5).1.getD 0 0 + 5 * (carL l 5).2) / 67108864)
theorem five {l : List Nat} (h : l.length = 5) : ∃ a b c d e, l = [a, b, c, d, e] := by
 match l, h with
 | [a, b, c, d, e], _ => exact ⟨a, b, c, d, e, rfl⟩
structure Lim (n : Nat) (l : List Nat) : Prop where
 len : l.length = 5
 lt : ∀ i, l.getD i 0 < n
theorem Lim.mk5 {n a b c d e : Nat} (h0 : a < n) (h1 : b < n) (h2 : c < n) (h3 : d < n) (h4 : e < n) : Lim n [a, b, c, d, e] := by
 refine ⟨rfl, fun i => ?_⟩
 match i with
 | 0 => exact h0
 | 1 => exact h1
 | 2 => exact h2
 | 3 => exact h3
 | 4 => exact h4
 | i + 5 => simp; omega
theorem Lim.of5 {n : Nat} {l : List Nat} (h : Lim n l) : ∃ a b c d e, l = [a, b, c, d, e] ∧ a < n ∧ b < n ∧ c < n ∧ d < n ∧ e < n := by
 obtain ⟨a, b, c, d, e, rfl⟩ := five h.len
 exact ⟨a, b, c, d, e, rfl, h.lt 0, h.lt 1, h.lt 2, h.lt 3, h.lt 4⟩
theorem Lim.mono {n m : Nat} {l : List Nat} (h : Lim n l) (hnm : n ≤ m) : Lim m l := ⟨h.len, fun i => Nat.lt_of_lt_of_le (h.lt i) hnm⟩
theorem car5 (a b c d e : Nat) : ∃ q0 q1 q2 q3 q4 q5, car [a, b, c, d, e] = [(a % 67108864 + 5 * q4) % 67108864, (b + q0) % 67108864 + q5, (c + q1) % 67108864, (d + q2) % 67108864, (e + q3) % 67108864] ∧
  q0 = a / 67108864 ∧ q1 = (b + q0) / 67108864 ∧ q2 = (c + q1) / 67108864 ∧ q3 = (d + q2) / 67108864 ∧ q4 = (e + q3) / 67108864 ∧ q5 = (a % 67108864 + 5 * q4) / 67108864 :=
 ⟨_, _, _, _, _, _, rfl, rfl, rfl, rfl, rfl, rfl, rfl⟩
theorem car_lv {l : List Nat} (h : l.length = 5) : ∃ q, lv l = lv (car l) + 1361129467683753853853498429727072845819 * q := by
 obtain ⟨a, b, c, d, e, rfl⟩ := five h
 obtain ⟨q0, q1, q2, q3, q4, q5, h, e0, e1, e2, e3, e4, e5⟩ := car5 a b c d e
 rw [h]
 refine ⟨q4, ?_⟩
 simp only [lv]
 omega
theorem car_lim {l : List Nat} (h : Lim 9223372036854775808 l) : Lim 67141632 (car l) := by
 obtain ⟨a, b, c, d, e, rfl, h0, h1, h2, h3, h4⟩ := h.of5
 obtain ⟨q0, q1, q2, q3, q4, q5, h, e0, e1, e2, e3, e4, e5⟩ := car5 a b c d e
 rw [h]
 apply Lim.mk5 <;> omega
theorem carL_lt {l : List Nat} (h : Lim 9223372036854775808 l) : ∀ k, k < 5 → (carL l k).1.getD k 0 + (carL l k).2 < 18446744073709551616 := by
 obtain ⟨a, b, c, d, e, rfl, h0, h1, h2, h3, h4⟩ := h.of5
 intro k hk
 match k, hk with
 | 0, _ => show a + 0 < _; omega
 | 1, _ => show b + (a + 0) / 67108864 < _; omega
 | 2, _ => show c + (b + (a + 0) / 67108864) / 67108864 < _; omega
 | 3, _ => show d + (c + (b + (a + 0) / 67108864) / 67108864) / 67108864 < _; omega
 | 4, _ => show e + (d + (c + (b + (a + 0) / 67108864) / 67108864) / 67108864) / 67108864 < _; omega
theorem carL_length (l : List Nat) : ∀ k, (carL l k).1.length = l.length
 | 0 => rfl
 | k + 1 => by simp [carL, cstep, carL_length l k]
theorem car_length (l : List Nat) : (car l).length = l.length := by simp [car, carL_length]
theorem carL_end {l : List Nat} (h : Lim 9223372036854775808 l) : (carL l 5).1.getD 0 0 + 5 * (carL l 5).2 < 18446744073709551616 ∧ (carL l 5).1.getD 0 0 < 67108864 ∧ (carL l 5).1.getD 1 0 < 67108864 ∧ (carL l 5).2 < 274877906944 := by
 obtain ⟨a, b, c, d, e, rfl, h0, h1, h2, h3, h4⟩ := h.of5
 have e0 : (carL [a, b, c, d, e] 5).1.getD 0 0 = (a + 0) % 67108864 := rfl
 have e1 : (carL [a, b, c, d, e] 5).1.getD 1 0 = (b + (a + 0) / 67108864) % 67108864 := rfl
 have e2 : (carL [a, b, c, d, e] 5).2 = (e + (d + (c + (b + (a + 0) / 67108864) / 67108864) / 67108864) / 67108864) / 67108864 := rfl
 rw [e0, e1, e2]
 omega
def addT (l m : List Nat) (k : Nat) : List Nat := (List.range 5).map fun i => if i < k then l.getD i 0 + m.getD i 0 else l.getD i 0
def addL (l m : List Nat) : List Nat := addT l m 5
theorem addL_lv (l m : List Nat) (hl : l.length = 5) (hm : m.length = 5) : lv (addL l m) = lv l + lv m := by
 obtain ⟨a, b, c, d, e, rfl⟩ := five hl
 obtain ⟨a', b', c', d', e', rfl⟩ := five hm
 show lv [a + a', b + b', c + c', d + d', e + e'] = _
 simp only [lv]
 omega
theorem addL_lim {n m : Nat} {l k : List Nat} (hl : Lim n l) (hk : Lim m k) : Lim (n + m) (addL l k) := by
 obtain ⟨a, b, c, d, e, rfl, h0, h1, h2, h3, h4⟩ := hl.of5
 obtain ⟨a', b', c', d', e', rfl, g0, g1, g2, g3, g4⟩ := hk.of5
 show Lim _ [a + a', b + b', c + c', d + d', e + e']
 apply Lim.mk5 <;> omega
def mulT (n m : List Nat) (k : Nat) : Nat → Nat
 | 0 => 0
 | i + 1 => mulT n m k i + if i ≤ k then n.getD i 0 * m.getD (k - i) 0 else 5 * n.getD i 0 * m.getD (k + 5 - i) 0
def mulL (n m : List Nat) : List Nat := (List.range 5).map fun k => mulT n m k 5
theorem mul_lv (n m : List Nat) (hn : n.length = 5) (hm : m.length = 5) : ∃ q, lv n * lv m = lv (mulL n m) + 1361129467683753853853498429727072845819 * q := by
 obtain ⟨a, b, c, d, e, rfl⟩ := five hn
 obtain ⟨a', b', c', d', e', rfl⟩ := five hm
 refine ⟨b * e' + c * d' + d * c' + e * b' + 67108864 * (c * e' + d * d' + e * c' + 67108864 * (d * e' + e * d' + 67108864 * (e * e'))), ?_⟩
 show _ = lv [0 + a * a' + 5 * b * e' + 5 * c * d' + 5 * d * c' + 5 * e * b', 0 + a * b' + b * a' + 5 * c * e' + 5 * d * d' + 5 * e * c', 0 + a * c' + b * b' + c * a' + 5 * d * e' + 5 * e * d', 0 + a * d' + b * c' + c * b' + d * a' + 5 * e * e', 0 + a * e' + b * d' + c * c' + d * b' + e * a'] + _
 simp only [lv]
 grind
theorem mulT_lt {n m : List Nat} (hn : Lim 268435456 n) (hm : Lim 67108864 m) (k : Nat) : ∀ i, mulT n m k i ≤ i * 90071992547409920
  | 0 => by simp [mulT]
  | i + 1 => by
    have h1 := mulT_lt hn hm k i
    have hx : ∀ j r, n.getD j 0 * m.getD r 0 ≤ 18014398509481984 := fun j r => by
      have := Nat.mul_le_mul (Nat.le_of_lt (hn.lt j)) (Nat.le_of_lt (hm.lt r))
      simpa using this
    have h2 : (if i ≤ k then n.getD i 0 * m.getD (k - i) 0 else 5 * n.getD i 0 * m.getD (k + 5 - i) 0) ≤ 90071992547409920 := by
      split
      · have := hx i (k - i); omega
      · have := hx i (k + 5 - i)
        rw [Nat.mul_assoc]; omega
    simp only [mulT]
    omega
theorem mulL_lim {n m : List Nat} (hn : Lim 268435456 n) (hm : Lim 67108864 m) : Lim 9223372036854775808 (mulL n m) := by
 refine ⟨by simp [mulL], fun i => ?_⟩
 unfold mulL
 by_cases hi : i < 5
 ·simp [List.getD_eq_getElem?_getD, hi]
  have := mulT_lt hn hm i 5
  omega
 ·simp [List.getD_eq_getElem?_getD, hi]
def norm (l : List Nat) : List Nat := if (car l).getD 1 0 < 67108864 then car l else car (car l)
theorem norm_lim {l : List Nat} (h : Lim 134217728 l) : Lim 67108864 (norm l) := by
 obtain ⟨a, b, c, d, e, rfl, h0, h1, h2, h3, h4⟩ := h.of5
 unfold norm
 obtain ⟨q0, q1, q2, q3, q4, q5, h, e0, e1, e2, e3, e4, e5⟩ := car5 a b c d e
 rw [h]
 split
 ·rename_i hb
  simp only [List.getD_cons_succ, List.getD_cons_zero] at hb
  apply Lim.mk5 <;> omega
 ·rename_i hb
  simp only [List.getD_cons_succ, List.getD_cons_zero] at hb
  obtain ⟨r0, r1, r2, r3, r4, r5, g, f0, f1, f2, f3, f4, f5⟩ := car5 ((a % 67108864 + 5 * q4) % 67108864) ((b + q0) % 67108864 + q5) ((c + q1) % 67108864) ((d + q2) % 67108864) ((e + q3) % 67108864)
  rw [g]
  apply Lim.mk5 <;> omega
theorem norm_lv {l : List Nat} (h : l.length = 5) : ∃ q, lv l = lv (norm l) + 1361129467683753853853498429727072845819 * q := by
 unfold norm
 split
 ·exact car_lv h
 ·obtain ⟨q, hq⟩ := car_lv h
  obtain ⟨r, hr⟩ := car_lv (l := car l) (by rw [car_length]; exact h)
  exact ⟨q + r, by rw [hq, hr]; omega⟩
def moreT (l : List Nat) : Nat → List Nat
 | 0 => l.set 0 (l.getD 0 0 + 5)
 | k + 1 => ((moreT l k).set (k + 1) ((moreT l k).getD (k + 1) 0 + (moreT l k).getD k 0 / 67108864)).set k ((moreT l k).getD k 0 % 67108864)
def whole (l : List Nat) : List Nat :=
 if (moreT (norm l) 4).getD 4 0 / 67108864 = 0 then norm l else (moreT (norm l) 4).set 4 ((moreT (norm l) 4).getD 4 0 % 67108864)
theorem more5 (a b c d e : Nat) : ∃ q0 q1 q2 q3, moreT [a, b, c, d, e] 4 = [(a + 5) % 67108864, (b + q0) % 67108864, (c + q1) % 67108864, (d + q2) % 67108864, e + q3] ∧
  q0 = (a + 5) / 67108864 ∧ q1 = (b + q0) / 67108864 ∧ q2 = (c + q1) / 67108864 ∧ q3 = (d + q2) / 67108864 := ⟨_, _, _, _, rfl, rfl, rfl, rfl, rfl⟩
theorem whole_lim {l : List Nat} (h : Lim 134217728 l) : Lim 67108864 (whole l) := by
 have hN := norm_lim h
 unfold whole
 generalize norm l = m at *
 obtain ⟨a, b, c, d, e, rfl, h0, h1, h2, h3, h4⟩ := hN.of5
 obtain ⟨q0, q1, q2, q3, hm, e0, e1, e2, e3⟩ := more5 a b c d e
 rw [hm]
 split
 ·exact hN
 ·simp only [List.getD_cons_succ, List.getD_cons_zero, List.set_cons_succ, List.set_cons_zero] at *
  apply Lim.mk5 <;> omega
theorem whole_lv {l : List Nat} (h : Lim 134217728 l) : lv (whole l) = lv l % 1361129467683753853853498429727072845819 := by
 have hN := norm_lim h
 obtain ⟨q, hq⟩ := norm_lv h.len
 rw [hq, Nat.add_mul_mod_self_left]
 unfold whole
 generalize norm l = m at *
 obtain ⟨a, b, c, d, e, rfl, h0, h1, h2, h3, h4⟩ := hN.of5
 obtain ⟨q0, q1, q2, q3, hm, e0, e1, e2, e3⟩ := more5 a b c d e
 rw [hm]
 split
 ·rename_i hc
  simp only [List.getD_cons_succ, List.getD_cons_zero] at hc
  simp only [lv]
  rw [Nat.mod_eq_of_lt (by omega)]
 ·rename_i hc
  simp only [List.getD_cons_succ, List.getD_cons_zero, List.set_cons_succ, List.set_cons_zero] at *
  simp only [lv]
  have hu : (e + q3) / 67108864 = 1 := by omega
  rw [Nat.mod_eq_sub_mod (by omega), Nat.mod_eq_of_lt (by omega)]
  omega
end Go.Proofs.YtbkbganflnemeaaGreat.Pr
namespace Go.Proofs.YtbkbganflnemeaaGreat.Pr
def limbs (V : Nat) : List Nat := [V % 67108864, V / 67108864 % 67108864, V / 4503599627370496 % 67108864, V / 302231454903657293676544 % 67108864, V / 20282409603651670423947251286016 % 67108864]
theorem limbs_lim (V : Nat) : Lim 67108864 (limbs V) := by
 apply Lim.mk5 <;> exact Nat.mod_lt _ (by decide)
theorem limbs_lv (V : Nat) (h : V < 1361129467683753853853498429727072845824) : lv (limbs V) = V := by
 simp only [limbs, lv]
 omega
def dv : List Nat → Nat
 | [] => 0
 | x :: l => x + 256 * dv l
theorem dv_append (l m : List Nat) : dv (l ++ m) = dv l + 256 ^ l.length * dv m := by
 induction l with
 | nil => simp [dv]
 | cons x l ih => simp only [List.cons_append, dv, ih, List.length_cons, Nat.pow_succ]; grind
theorem dv_lt (l : List Nat) (h : ∀ i, l.getD i 0 < 256) : dv l < 256 ^ l.length := by
  induction l with
  | nil => simp [dv]
  | cons x l ih =>
    have h0 := h 0
    have := ih (fun i => by simpa using h (i + 1))
    simp only [dv, List.length_cons, Nat.pow_succ, List.getD_cons_zero] at *
    omega
theorem dv_digit (l : List Nat) (h : ∀ i, l.getD i 0 < 256) (k : Nat) : dv l / 256 ^ k % 256 = l.getD k 0 := by
  induction l generalizing k with
  | nil => simp [dv]
  | cons x l ih =>
    have h0 := h 0
    simp only [List.getD_cons_zero] at h0
    cases k with
    | zero => simp only [dv, List.getD_cons_zero, Nat.pow_zero, Nat.div_one]; omega
    | succ k =>
      have := ih (fun i => by simpa using h (i + 1)) k
      rw [List.getD_cons_succ, ← this, Nat.pow_succ, Nat.mul_comm, ← Nat.div_div_eq_div_mul]
      simp only [dv]
      congr 2
      omega
end Go.Proofs.YtbkbganflnemeaaGreat.Pr
namespace Go.Proofs.YtbkbganflnemeaaGreat.Pr
def dig (V n : Nat) : List Nat := (List.range n).map fun k => V / 256 ^ k % 256
theorem dig_length (V n : Nat) : (dig V n).length = n := by simp [dig]
theorem dig_get (V n k : Nat) (h : k < n) : (dig V n).getD k 0 = V / 256 ^ k % 256 := by simp [dig, List.getD_eq_getElem?_getD, h]
theorem dig_lt (V n k : Nat) : (dig V n).getD k 0 < 256 := by
 by_cases h : k < n
 ·rw [dig_get V n k h]; exact Nat.mod_lt _ (by decide)
 ·simp [dig, List.getD_eq_getElem?_getD, h]
theorem dig_succ (V n : Nat) : dig V (n + 1) = V % 256 :: dig (V / 256) n := by
 unfold dig
 rw [List.range_succ_eq_map, List.map_cons, List.map_map]
 congr 1
 ·simp
 ·apply List.map_congr_left
  intro k _
  simp only [Function.comp, Nat.pow_succ, Nat.mul_comm _ 256, Nat.div_div_eq_div_mul]
theorem dv_dig (V n : Nat) : dv (dig V n) = V % 256 ^ n := by
  induction n generalizing V with
  | zero => simp [dig, dv, Nat.mod_one]
  | succ n ih =>
    rw [dig_succ, dv, ih, Nat.pow_succ, Nat.mul_comm _ 256, Nat.mod_mul]
theorem dig_dv (l : List Nat) (h : ∀ i, l.getD i 0 < 256) : dig (dv l) l.length = l := by
 apply List.ext_getElem
 ·simp [dig]
 ·intro i h1 h2
  have := dv_digit l h i
  simp only [dig, List.getElem_map, List.getElem_range, this]
  simp [List.getD_eq_getElem?_getD, h2]
theorem dig_dv' (l : List Nat) (n : Nat) (h : ∀ i, l.getD i 0 < 256) (hn : l.length = n) : dig (dv l) n = l := by subst hn; exact dig_dv l h
theorem dv_take_succ (l : List Nat) (i : Nat) : dv (l.take (i + 1)) = dv (l.take i) + 256 ^ i * l.getD i 0 := by
 by_cases h : i < l.length
 ·rw [List.take_succ_eq_append_getElem h, dv_append]
  simp [dv, List.length_take, Nat.min_eq_left (Nat.le_of_lt h), List.getD_eq_getElem?_getD, h]
 ·have : i ≤ l.length ∨ l.length ≤ i := by omega
  rw [List.take_of_length_le (by omega), List.take_of_length_le (by omega)]
  simp [List.getD_eq_getElem?_getD, h]
theorem take_digit (l : List Nat) (i : Nat) : dv l / 256 ^ i % 256 = (dv (l.take i) / 256 ^ i + l.getD i 0) % 256 := by
 have h1 : dv l = dv (l.take (i + 1)) + 256 ^ (i + 1) * dv (l.drop (i + 1)) := by
  by_cases h : i + 1 ≤ l.length
  ·have := dv_append (l.take (i + 1)) (l.drop (i + 1))
   rw [List.take_append_drop, List.length_take, Nat.min_eq_left h] at this
   exact this
  ·rw [List.take_of_length_le (by omega), List.drop_of_length_le (by omega)]; simp [dv]
 rw [h1, dv_take_succ, Nat.pow_succ, Nat.mul_assoc, Nat.add_mul_div_left _ _ (Nat.pow_pos (by decide)), Nat.add_mul_div_left _ _ (Nat.pow_pos (by decide)), Nat.add_mul_mod_self_left]
end Go.Proofs.YtbkbganflnemeaaGreat.Pr
end

section
namespace Go.Proofs.YtbkbganflnemeaaGreat.Pr
open Go.RowKit Go.Deep Go.Proofs.YtbkbganflnemeaaGreatW.PrintWords Go.Proofs.YtbkbganflnemeaaGreatW.PrintLast Go.Proofs.YtbkbganflnemeaaGreatW.PrintMore
set_option maxHeartbeats 2000000
def u64s (l : List Nat) : Array Value := (l.map fun (n : Nat) => Value.int .u64 (n : Int)).toArray
theorem u64s_size (l : List Nat) : (u64s l).size = l.length := by simp [u64s]
theorem u64s_get (l : List Nat) (i : Nat) (h : i < l.length) : (u64s l)[i]? = some (.int .u64 (l.getD i 0 : Nat)) := by
 simp [u64s, h]
theorem u64s_set (l : List Nat) (i v : Nat) : (u64s l).setIfInBounds i (.int .u64 (v : Int)) = u64s (l.set i v) := by
 simp [u64s]
theorem u64s_one (l : List Nat) : (u64s l).all (·.oneCell') = true := by
 simp [u64s, Value.oneCell']
def adr (n : Nat) : Nat → Nat
 | 0 => n
 | i + 1 => adr n i + 1
theorem adr_eq (n : Nat) : ∀ i, adr n i = n + i
 | 0 => rfl
 | i + 1 => by rw [adr, adr_eq n i]; omega
structure PN (w : World) (R : List (List Nat)) (W : World) : Prop where
 below : Below w.heap.size w W
 rows : ∀ i l, R[i]? = some l → W.heap[adr w.heap.size i]? = some (.cells (u64s l) 181 (0, 0))
 size : W.heap.size = w.heap.size + R.length
theorem PN.nil (w : World) : PN w [] w := ⟨Below.refl _ _, by simp, rfl⟩
theorem PN.push {w W : World} {R : List (List Nat)} (h : PN w R W) (l : List Nat) : PN w (R ++ [l]) (W.alloc (.cells (u64s l) 181)) := by
 refine ⟨below_alloc h.below _, ?_, by simp [h.size]; omega⟩
 intro i l' hi
 by_cases hlt : i < R.length
 ·rw [List.getElem?_append_left hlt] at hi
  exact blk_alloc (h.rows i l' hi) _
 ·have hi2 : i = R.length := by
   have := (List.getElem?_eq_some_iff.1 hi).1
   simp at this; omega
  subst hi2
  simp at hi
  subst hi
  rw [adr_eq, ← h.size]
  exact blk_new _ _
theorem PN.drew {w W : World} {R : List (List Nat)} (h : PN w R W) : PN w R W.drew := ⟨below_drew h.below, h.rows, h.size⟩
theorem PN.cell {w W : World} {R : List (List Nat)} (h : PN w R W) (i k : Nat) {l : List Nat} (hl : R[i]? = some l) (hk : k < l.length) : W.cell? ⟨adr w.heap.size i, k, none⟩ = some (.int .u64 (l.getD k 0 : Nat)) ∧ W.frozen? ⟨adr w.heap.size i, k, none⟩ = false :=
 ⟨(blk_cell (h.rows i l hl) k).trans (u64s_get l k hk), blk_frozen (h.rows i l hl) k⟩
theorem PN.set {w W : World} {R : List (List Nat)} (h : PN w R W) (i k v : Nat) {l : List Nat} (hl : R[i]? = some l) : PN w (R.set i (l.set k v)) (W.setCell ⟨adr w.heap.size i, k, none⟩ (.int .u64 (v : Int))) := by
 refine ⟨below_set h.below (by rw [adr_eq]; omega), ?_, by rw [List.length_set]; simp [h.size]⟩
 intro j l' hj
 rw [List.getElem?_set] at hj
 by_cases e : i = j
 ·subst e
  have hlt := (List.getElem?_eq_some_iff.1 hl).1
  rw [if_pos rfl, if_pos hlt] at hj
  obtain rfl := Option.some.inj hj
  exact blk_put (h.rows i l hl) k _ (u64s_set l k v)
 ·rw [if_neg e] at hj
  exact blk_far (h.rows j l' hj) (by rw [adr_eq, adr_eq]; simp; omega) _
theorem PN.set2 {w W : World} {R : List (List Nat)} (h : PN w R W) (i k u v : Nat) {l : List Nat} (hl : R[i]? = some l) : PN w (R.set i (l.set k v)) ((W.setCell ⟨adr w.heap.size i, k, none⟩ (.int .u64 (u : Int))).setCell ⟨adr w.heap.size i, k, none⟩ (.int .u64 (v : Int))) := by
 have hlt := (List.getElem?_eq_some_iff.1 hl).1
 have := (h.set i k u hl).set i k v (l := l.set k u) (by rw [List.getElem?_set]; simp [hlt])
 rwa [List.set_set, List.set_set] at this
theorem wraps_u64 (n : Int) (h₀ : 0 ≤ n) (h₁ : n < 2 ^ 64) : IntKind.u64.wrap n = n := by rw [IntKind.wrap_u64]; omega
theorem and64 (a b : Nat) (ha : a < 18446744073709551616) (hb : b < 18446744073709551616) : bits .and .u64 (a : Int) (b : Int) = ((a &&& b : Nat) : Int) :=
 (bits_nat .u64 64 (by decide) wraps_u64 a b (by simpa using ha) (by simpa using hb)).1
theorem or64 (a b : Nat) (ha : a < 18446744073709551616) (hb : b < 18446744073709551616) : bits .or .u64 (a : Int) (b : Int) = ((a ||| b : Nat) : Int) :=
 (bits_nat .u64 64 (by decide) wraps_u64 a b (by simpa using ha) (by simpa using hb)).2
theorem mask26 (a : Nat) (ha : a < 18446744073709551616) : bits .and .u64 (a : Int) 67108863 = ((a % 67108864 : Nat) : Int) := by
 have := and64 a 67108863 ha (by decide)
 rw [show ((67108863 : Nat) : Int) = 67108863 from rfl] at this
 rw [this, show (67108863 : Nat) = 2 ^ 26 - 1 from rfl, Nat.and_two_pow_sub_one_eq_mod]
set_option maxRecDepth 100000 in
theorem carried_calls (l : List Nat) (w : World) (h : Lim 9223372036854775808 l) :
  Calls Tryz.prog 184 #[.agg (u64s l)] w fun e w' => e = .returned (.agg (u64s (car l))) ∧ Below w.heap.size w w' := by
 have hi : (Tryz.prog.info? 181).map (·.size) = some 5 := by kernel_rfl
 have HI := Aside0.mk hi
 have HL := Aside0.mk h
 clear hi h
 go_enter Tryz.func184, Tryz.ntmps184
 go_wp2_with (fail)
 have H : Aside0 (PN w [l, List.replicate 5 0] ((w.alloc (.cells (u64s l) 181)).alloc (.cells (u64s (List.replicate 5 0)) 181))) := ⟨((PN.nil w).push l).push _⟩
 go_loopw [3, 5] (fun c i wr => ∃ k : Nat, k ≤ 5 ∧ i = .int .i64 k ∧ c = .int .u64 ((carL l k).2 : Nat) ∧ Aside0 (PN w [(carL l k).1, List.replicate 5 0] wr)) (fun _ i _ => 5 - (intOf i).toNat)
 case atStart => exact ⟨0, by omega, rfl, rfl, H⟩
 case round =>
  clear H
  obtain ⟨k, hk, rfl, rfl, H⟩ := hrel
  by_cases hlt : k < 5
  ·obtain ⟨hx, hf⟩ := H.out.cell 0 k rfl (by rw [carL_length, HL.out.len]; exact hlt)
   have hs : carL l (k + 1) = cstep (carL l k) k := rfl
   unfold cstep at hs
   have hb := carL_lt HL.out k hlt
   generalize (carL l k).1.getD k 0 = x at hx hs hb
   generalize (carL l k).2 = c at hs hb ⊢
   generalize (carL l k).1 = m at hs H
   have hxc : (x : Int) + (c : Int) ≤ 18446744073709551615 := by omega
   have hm := mask26 (x + c) hb
   rw [show ((x + c : Nat) : Int) = (x : Int) + (c : Int) by omega] at hm
   have HS := Aside0.mk hs
   clear hs
   simp only [adr] at hx hf
   go_wp2
   have HN : PN w [(carL l (k + 1)).1, List.replicate 5 0] ((wr.setCell ⟨w.heap.size, k, none⟩ (.int .u64 ((x : Int) + (c : Int)))).setCell ⟨w.heap.size, k, none⟩ (.int .u64 (((x : Int) + (c : Int)) % 67108864))) := by rw [HS.out]; exact H.out.set2 0 k (x + c) ((x + c) % 67108864) rfl
   exact ⟨⟨k + 1, by omega, by go_num, by rw [HS.out]; go_num, ⟨HN⟩⟩, by simp [intOf]; omega⟩
  ·obtain rfl : k = 5 := by omega
   clear hlt hk
   obtain ⟨e1, e2, e3, e4⟩ := carL_end HL.out
   have hcar : car l = (((carL l 5).1.set 0 (((carL l 5).1.getD 0 0 + 5 * (carL l 5).2) % 67108864)).set 1 ((carL l 5).1.getD 1 0 + ((carL l 5).1.getD 0 0 + 5 * (carL l 5).2) / 67108864)) := rfl
   have hml : (carL l 5).1.length = 5 := by rw [carL_length, HL.out.len]
   have hcl : (car l).length = 5 := by rw [car_length, HL.out.len]
   obtain ⟨hx0, hf0⟩ := H.out.cell 0 0 rfl (by omega)
   obtain ⟨hx1, hf1⟩ := H.out.cell 0 1 rfl (by omega)
   generalize (carL l 5).1.getD 0 0 = x at *
   generalize (carL l 5).1.getD 1 0 = y at *
   generalize (carL l 5).2 = c at *
   generalize (carL l 5).1 = m at *
   generalize hr : car l = r at *
   have HRe := Aside0.mk hr
   clear hr
   have hm := mask26 (x + 5 * c) e1
   rw [show ((x + 5 * c : Nat) : Int) = (x : Int) + 5 * (c : Int) by omega] at hm
   have b1 : (x : Int) + 5 * (c : Int) ≤ 18446744073709551615 := by omega
   have b2 : 5 * (c : Int) ≤ 18446744073709551615 := by omega
   have b3 : (y : Int) + ((x : Int) + 5 * (c : Int)) / 67108864 ≤ 18446744073709551615 := by omega
   have HC := Aside0.mk hcar
   have HML := Aside0.mk hml
   have HCL := Aside0.mk hcl
   clear hcar hml hcl
   simp only [adr] at hx0 hf0 hx1 hf1
   rw [show ((5 : Nat) : Int) = 5 from rfl]
   have HN : PN w [r, List.replicate 5 0] (((wr.setCell ⟨w.heap.size, 0, none⟩ (.int .u64 ((x : Int) + 5 * (c : Int)))).setCell ⟨w.heap.size, 0, none⟩ (.int .u64 (((x : Int) + 5 * (c : Int)) % 67108864))).setCell ⟨w.heap.size, 1, none⟩ (.int .u64 ((y : Int) + ((x : Int) + 5 * (c : Int)) / 67108864))) := by
    rw [HC.out]
    exact (H.out.set2 0 0 (x + 5 * c) ((x + 5 * c) % 67108864) rfl).set 0 1 (y + (x + 5 * c) / 67108864) rfl
   have HN := Aside0.mk HN
   go_upto_region 13 with (fail)
   generalize ((wr.setCell ⟨w.heap.size, 0, none⟩ (.int .u64 ((x : Int) + 5 * (c : Int)))).setCell ⟨w.heap.size, 0, none⟩ (.int .u64 (((x : Int) + 5 * (c : Int)) % 67108864))).setCell ⟨w.heap.size, 1, none⟩ (.int .u64 ((y : Int) + ((x : Int) + 5 * (c : Int)) / 67108864)) = w2 at HN ⊢
   have hrow : w2.heap[w.heap.size]? = _ := HN.out.rows 0 r rfl
   have hout : w2.heap[w.heap.size + 1]? = _ := HN.out.rows 1 _ rfl
   have hsz : (Tryz.prog.info? 181).map (·.size) = some (u64s r).size := by rw [u64s_size, HCL.out]; exact HI.out
   have hsz2 : (u64s (List.replicate 5 0)).size = (u64s r).size := by rw [u64s_size, u64s_size, HCL.out]; rfl
   have HROW := Aside0.mk hrow
   have HOUT := Aside0.mk hout
   have HSZ := Aside0.mk hsz
   have HSZ2 := Aside0.mk hsz2
   clear hrow hout hsz hsz2 hm b1 b2 b3 hx0 hx1 hf0 hf1
   go_wp2_with (first | (with_reducible refine wpList_load_row rfl 181 (.tmp 1) rfl w.heap.size rfl 181 (u64s r) (0, 0) _ HROW.out Tryz.underlying181 rfl HSZ.out ?_) | (refine wpList_store_row rfl 181 (.tmp 2) (.tmp 42) rfl (w.heap.size + 1) (u64s r) rfl rfl 181 _ HOUT.out HSZ.out HSZ2.out (u64s_one _) ?_))
   exact bodyPost_ret (results_cell_row Tryz.results184 _ _ (w.heap.size + 1) 181 (u64s r) (0, 0) _ rfl (setRow_heap _ _ _ _ _ _ HOUT.out) Tryz.underlying181 rfl HSZ.out) rfl ⟨by rw [HRe.out], below_setRow HN.out.below (by omega) _⟩
theorem addT_set (l m : List Nat) (k : Nat) (hl : l.length = 5) (hk : k < 5) : (addT l m k).set k (l.getD k 0 + m.getD k 0) = addT l m (k + 1) := by
 apply List.ext_getElem
 ·simp [addT]
 ·intro j h1 h2
  rw [List.getElem_set]
  simp only [addT, List.getElem_map, List.getElem_range]
  by_cases e : k = j
  ·subst e; rw [if_pos rfl, if_pos (by omega)]
  ·rw [if_neg e]
   by_cases h : j < k
   ·rw [if_pos h, if_pos (by omega)]
   ·rw [if_neg h, if_neg (by omega)]
theorem addT_length (l m : List Nat) (k : Nat) : (addT l m k).length = 5 := by simp [addT]
theorem addT_zero (l m : List Nat) (hl : l.length = 5) : addT l m 0 = l := by
 obtain ⟨a, b, c, d, e, rfl⟩ := five hl
 rfl
theorem addT_get (l m : List Nat) (k : Nat) (hk : k < 5) : (addT l m k).getD k 0 = l.getD k 0 := by
 simp [addT, List.getD_eq_getElem?_getD, hk]
set_option maxRecDepth 100000 in
theorem number_add_calls (l m : List Nat) (w : World) (hl : Lim 9223372036854775808 l) (hm : Lim 9223372036854775808 m) :
  Calls Tryz.prog 151 #[.agg (u64s l), .agg (u64s m)] w fun e w' => e = .returned (.agg (u64s (addL l m))) ∧ Below w.heap.size w w' := by
 have hi : (Tryz.prog.info? 181).map (·.size) = some 5 := by kernel_rfl
 have HI := Aside0.mk hi
 have HL := Aside0.mk hl
 have HM := Aside0.mk hm
 clear hi hl hm
 go_enter Tryz.func151, Tryz.ntmps151
 go_wp2_with (fail)
 have H : Aside0 (PN w [addT l m 0, m, List.replicate 5 0] (((w.alloc (.cells (u64s l) 181)).alloc (.cells (u64s m) 181)).alloc (.cells (u64s (List.replicate 5 0)) 181))) := ⟨by rw [addT_zero l m HL.out.len]; exact (((PN.nil w).push l).push m).push _⟩
 go_loopw [6] (fun i wr => ∃ k : Nat, k ≤ 5 ∧ i = .int .i64 k ∧ Aside0 (PN w [addT l m k, m, List.replicate 5 0] wr)) (fun i _ => 5 - (intOf i).toNat)
 case atStart => exact ⟨0, by omega, rfl, H⟩
 case round =>
  clear H
  obtain ⟨k, hk, rfl, H⟩ := hrel
  by_cases hlt : k < 5
  ·obtain ⟨hx, hf⟩ := H.out.cell 0 k rfl (by rw [addT_length]; exact hlt)
   obtain ⟨hy, hfy⟩ := H.out.cell 1 k rfl (by rw [HM.out.len]; exact hlt)
   rw [addT_get l m k hlt] at hx
   have hn := addT_set l m k HL.out.len hlt
   have bx := HL.out.lt k
   have by_ := HM.out.lt k
   generalize l.getD k 0 = x at hx hn bx
   generalize m.getD k 0 = y at hy hn by_
   have HN := Aside0.mk hn
   have hxy : (x : Int) + (y : Int) ≤ 18446744073709551615 := by omega
   have q5 : (k : Int) < 5 := by omega
   clear hn bx by_ hfy
   simp only [adr] at hx hf hy
   go_wp2_with (fail)
   refine wp_still_tail 8 (by kernel_rfl) (by kernel_rfl) ?_
   intro W hW
   have g1 : W.cell? ⟨w.heap.size, k, none⟩ = some (.int .u64 (x : Int)) := by rw [hW]; exact hx
   have g2 : W.cell? ⟨w.heap.size + 1, k, none⟩ = some (.int .u64 (y : Int)) := by rw [hW]; exact hy
   have gf : W.frozen? ⟨w.heap.size, k, none⟩ = false := by rw [hW]; exact hf
   have HW : Aside0 (PN w [addT l m k, m, List.replicate 5 0] W) := ⟨by rw [hW]; exact H.out.drew⟩
   clear hW hx hy hf H
   simp only [List.take_succ_cons, List.take_zero, List.drop_succ_cons, List.drop_zero]
   repeat still_step
   refine wpStill_nil ?_
   go_wp2
   refine ⟨⟨k + 1, by omega, by go_num, ?_⟩, by simp [intOf]; omega⟩
   rw [← HN.out]
   exact ⟨HW.out.set 0 k (x + y) rfl⟩
  ·obtain rfl : k = 5 := by omega
   clear hlt hk
   rw [show ((5 : Nat) : Int) = 5 from rfl]
   have HCL := Aside0.mk (addT_length l m 5)
   have HRe : Aside0 (addL l m = addT l m 5) := ⟨rfl⟩
   generalize addT l m 5 = r at *
   go_upto_region 6 with (fail)
   have hrow := H.out.rows 0 r rfl
   have hout := H.out.rows 2 _ rfl
   simp only [adr] at hrow hout
   have hsz : (Tryz.prog.info? 181).map (·.size) = some (u64s r).size := by rw [u64s_size, HCL.out]; exact HI.out
   have hsz2 : (u64s (List.replicate 5 0)).size = (u64s r).size := by rw [u64s_size, u64s_size, HCL.out]; rfl
   have HROW := Aside0.mk hrow
   have HOUT := Aside0.mk hout
   have HSZ := Aside0.mk hsz
   have HSZ2 := Aside0.mk hsz2
   clear hrow hout hsz hsz2
   go_wp2_with (first | (with_reducible refine wpList_load_row rfl 181 (.tmp 2) rfl (w.heap.size) rfl 181 (u64s r) (0, 0) _ HROW.out Tryz.underlying181 rfl HSZ.out ?_) | (refine wpList_store_row rfl 181 (.tmp 4) (.tmp 18) rfl (w.heap.size + 1 + 1) (u64s r) rfl rfl 181 _ HOUT.out HSZ.out HSZ2.out (u64s_one _) ?_))
   exact bodyPost_ret (results_cell_row Tryz.results151 _ _ (w.heap.size + 1 + 1) 181 (u64s r) (0, 0) _ rfl (setRow_heap _ _ _ _ _ _ HOUT.out) Tryz.underlying181 rfl HSZ.out) rfl ⟨by rw [HRe.out], below_setRow H.out.below (by omega) _⟩
def mulS (n m : List Nat) (k i : Nat) : List Nat := (List.range 5).map fun q => if q < k then mulT n m q 5 else if q = k then mulT n m k i else 0
theorem mulS_length (n m : List Nat) (k i : Nat) : (mulS n m k i).length = 5 := by simp [mulS]
theorem mulS_get (n m : List Nat) (k i : Nat) (hk : k < 5) : (mulS n m k i).getD k 0 = mulT n m k i := by
 simp [mulS, List.getD_eq_getElem?_getD, hk]
theorem mulS_set (n m : List Nat) (k i : Nat) (hk : k < 5) : (mulS n m k i).set k (mulT n m k (i + 1)) = mulS n m k (i + 1) := by
 apply List.ext_getElem
 ·simp [mulS]
 ·intro j h1 h2
  rw [List.getElem_set]
  simp only [mulS, List.getElem_map, List.getElem_range]
  by_cases e : k = j
  ·subst e; rw [if_pos rfl, if_neg (by omega), if_pos rfl]
  ·rw [if_neg e]
   by_cases h : j < k
   ·rw [if_pos h, if_pos h]
   ·rw [if_neg h, if_neg (by omega), if_neg h, if_neg (by omega)]
theorem mulS_next (n m : List Nat) (k : Nat) : mulS n m k 5 = mulS n m (k + 1) 0 := by
 unfold mulS
 apply List.map_congr_left
 intro q _
 by_cases h : q < k
 ·rw [if_pos h, if_pos (by omega)]
 ·rw [if_neg h]
  by_cases e : q = k
  ·subst e; rw [if_pos rfl, if_pos (by omega)]
  ·rw [if_neg e, if_neg (by omega)]; simp [mulT]
theorem mulS_zero (n m : List Nat) : mulS n m 0 0 = List.replicate 5 0 := rfl
theorem mulS_all (n m : List Nat) : mulS n m 5 0 = mulL n m := by
 unfold mulS mulL
 apply List.map_congr_left
 intro q hq
 rw [List.mem_range] at hq
 rw [if_pos hq]
set_option maxRecDepth 100000 in
theorem number_times_calls (n m : List Nat) (w : World) (hn : Lim 268435456 n) (hm : Lim 67108864 m) :
  Calls Tryz.prog 152 #[.agg (u64s n), .agg (u64s m)] w fun e w' => e = .returned (.agg (u64s (car (mulL n m)))) ∧ Below w.heap.size w w' := by
 have hi : (Tryz.prog.info? 181).map (·.size) = some 5 := by kernel_rfl
 have HI := Aside0.mk hi
 have HN := Aside0.mk hn
 have HM := Aside0.mk hm
 clear hi hn hm
 go_enter Tryz.func152, Tryz.ntmps152
 go_wp2_with (fail)
 have H : Aside0 (PN w [n, m, List.replicate 5 0, mulS n m 0 0] ((((w.alloc (.cells (u64s n) 181)).alloc (.cells (u64s m) 181)).alloc (.cells (u64s (List.replicate 5 0)) 181)).alloc (.cells (u64s (List.replicate 5 0)) 181))) := ⟨by rw [mulS_zero]; exact ((((PN.nil w).push n).push m).push _).push _⟩
 go_loopw [10] (fun i wr => ∃ k : Nat, k ≤ 5 ∧ i = .int .i64 k ∧ Aside0 (PN w [n, m, List.replicate 5 0, mulS n m k 0] wr)) (fun i _ => 5 - (intOf i).toNat)
 case atStart => exact ⟨0, by omega, rfl, H⟩
 case round =>
  clear H
  obtain ⟨k, hk, rfl, H⟩ := hrel
  by_cases hlt : k < 5
  ·have q5 : (k : Int) < 5 := by omega
   go_wp2_with (fail)
   go_loopw [13] (fun i wr => ∃ k' : Nat, k' ≤ 5 ∧ i = .int .i64 k' ∧ Aside0 (PN w [n, m, List.replicate 5 0, mulS n m k k'] wr)) (fun i _ => 5 - (intOf i).toNat)
   case atStart => exact ⟨0, by omega, rfl, H⟩
   case round =>
    clear H
    obtain ⟨i, hi, rfl, H⟩ := hrel
    by_cases hli : i < 5
    ·obtain ⟨hx, hfx⟩ := H.out.cell 0 i rfl (by rw [HN.out.len]; exact hli)
     obtain ⟨hs, hfs⟩ := H.out.cell 3 k rfl (by rw [mulS_length]; exact hlt)
     rw [mulS_get n m k i hlt] at hs
     have hset := mulS_set n m k i hlt
     have bs := mulT_lt HN.out HM.out k i
     have bx := HN.out.lt i
     have r5 : (i : Int) < 5 := by omega
     have hT : mulT n m k (i + 1) = mulT n m k i + if i ≤ k then n.getD i 0 * m.getD (k - i) 0 else 5 * n.getD i 0 * m.getD (k + 5 - i) 0 := rfl
     clear hfx
     by_cases hik : i ≤ k
     ·obtain ⟨hz, hfz⟩ := H.out.cell 1 (k - i) rfl (by rw [HM.out.len]; omega)
      have bz := HM.out.lt (k - i)
      rw [if_pos hik] at hT
      generalize n.getD i 0 = x at hx hT bx
      generalize m.getD (k - i) 0 = z at hz hT bz
      have bxz : x * z ≤ 18014398509481984 := by
       have := Nat.mul_le_mul (Nat.le_of_lt bx) (Nat.le_of_lt bz)
       simpa using this
      rw [hT] at hset
      generalize mulT n m k i = s at hs hset bs
      have HSET := Aside0.mk hset
      have b1 : (x : Int) * (z : Int) ≤ 18446744073709551615 := by
       have : ((x * z : Nat) : Int) ≤ 18014398509481984 := by omega
       rw [Int.natCast_mul] at this; omega
      have b2 : (s : Int) + (x : Int) * (z : Int) ≤ 18446744073709551615 := by
       have : ((x * z : Nat) : Int) ≤ 18014398509481984 := by omega
       rw [Int.natCast_mul] at this; omega
      have b3 : 0 ≤ (x : Int) * (z : Int) := Int.mul_nonneg (by omega) (by omega)
      have t1 : decide (0 ≤ (k : Int) - (i : Int)) = true := decide_eq_true (by omega)
      have t2 : decide ((i : Int) ≤ (k : Int)) = true := decide_eq_true (by omega)
      have t3 : decide (i ≤ k) = true := decide_eq_true hik
      have n1 : ((k : Int) - (i : Int)).toNat = k - i := by omega
      have n2 : (k : Int) - (i : Int) < 5 := by omega
      have e1 : IntKind.u64.wrap ((x : Int) * (z : Int)) = (x : Int) * (z : Int) := wraps_u64 _ b3 (by omega)
      have e2 : IntKind.u64.wrap ((s : Int) + (x : Int) * (z : Int)) = (s : Int) + (x : Int) * (z : Int) := wraps_u64 _ (by omega) (by omega)
      clear hset hT bxz bs bx bz hfz
      simp only [adr] at hx hs hz hfs
      go_wp2_with (fail)
      refine wp_still_tail 10 (by kernel_rfl) (by kernel_rfl) ?_
      intro W hW
      have g2 : W.cell? ⟨w.heap.size + 1, k - i, none⟩ = some (.int .u64 (z : Int)) := by rw [hW]; exact hz
      have g3 : W.cell? ⟨w.heap.size + 1 + 1 + 1, k, none⟩ = some (.int .u64 (s : Int)) := by rw [hW]; exact hs
      have gf : W.frozen? ⟨w.heap.size + 1 + 1 + 1, k, none⟩ = false := by rw [hW]; exact hfs
      have HW : Aside0 (PN w [n, m, List.replicate 5 0, mulS n m k i] W) := ⟨by rw [hW]; exact H.out.drew⟩
      clear hW hx hz hs hfs H
      simp only [List.take_succ_cons, List.take_zero, List.drop_succ_cons, List.drop_zero]
      repeat still_step
      refine wpStill_nil ?_
      go_wp2
      refine ⟨⟨i + 1, by omega, by go_num, ?_⟩, by simp [intOf]; omega⟩
      rw [← HSET.out]
      exact ⟨HW.out.set 3 k (s + x * z) rfl⟩
     ·obtain ⟨hz, hfz⟩ := H.out.cell 1 (k + 5 - i) rfl (by rw [HM.out.len]; omega)
      have bz := HM.out.lt (k + 5 - i)
      rw [if_neg hik] at hT
      generalize n.getD i 0 = x at hx hT bx
      generalize m.getD (k + 5 - i) 0 = z at hz hT bz
      have bxz : x * z ≤ 18014398509481984 := by
       have := Nat.mul_le_mul (Nat.le_of_lt bx) (Nat.le_of_lt bz)
       simpa using this
      rw [hT] at hset
      generalize mulT n m k i = s at hs hset bs
      have HSET := Aside0.mk hset
      have b0 : 5 * (x : Int) ≤ 18446744073709551615 := by omega
      have b1 : 5 * (x : Int) * (z : Int) ≤ 18446744073709551615 := by
       have : ((x * z : Nat) : Int) ≤ 18014398509481984 := by omega
       rw [Int.natCast_mul] at this; rw [Int.mul_assoc]; omega
      have b2 : (s : Int) + 5 * (x : Int) * (z : Int) ≤ 18446744073709551615 := by
       have : ((x * z : Nat) : Int) ≤ 18014398509481984 := by omega
       rw [Int.natCast_mul] at this; rw [Int.mul_assoc]; omega
      have b3 : 0 ≤ 5 * (x : Int) * (z : Int) := Int.mul_nonneg (by omega) (by omega)
      have t1 : decide (0 ≤ (k : Int) - (i : Int)) = false := decide_eq_false (by omega)
      have t2 : decide ((i : Int) ≤ (k : Int)) = false := decide_eq_false (by omega)
      have t3 : decide (i ≤ k) = false := decide_eq_false hik
      have n1 : ((k : Int) - (i : Int) + 5).toNat = k + 5 - i := by omega
      have n2 : (k : Int) - (i : Int) + 5 < 5 := by omega
      have n3 : 0 ≤ (k : Int) - (i : Int) + 5 := by omega
      have n4 : IntKind.i64.wrap ((k : Int) - (i : Int) + 5) = (k : Int) - (i : Int) + 5 := IntWalk.i64_in _ (by omega)
      have e0 : IntKind.u64.wrap (5 * (x : Int)) = 5 * (x : Int) := wraps_u64 _ (by omega) (by omega)
      have e1 : IntKind.u64.wrap (5 * (x : Int) * (z : Int)) = 5 * (x : Int) * (z : Int) := wraps_u64 _ b3 (by omega)
      have e2 : IntKind.u64.wrap ((s : Int) + 5 * (x : Int) * (z : Int)) = (s : Int) + 5 * (x : Int) * (z : Int) := wraps_u64 _ (by omega) (by omega)
      clear hset hT bxz bs bx bz hfz
      simp only [adr] at hx hs hz hfs
      go_wp2_with (fail)
      refine wp_still_tail 12 (by kernel_rfl) (by kernel_rfl) ?_
      intro W hW
      have g2 : W.cell? ⟨w.heap.size + 1, k + 5 - i, none⟩ = some (.int .u64 (z : Int)) := by rw [hW]; exact hz
      have g3 : W.cell? ⟨w.heap.size + 1 + 1 + 1, k, none⟩ = some (.int .u64 (s : Int)) := by rw [hW]; exact hs
      have gf : W.frozen? ⟨w.heap.size + 1 + 1 + 1, k, none⟩ = false := by rw [hW]; exact hfs
      have HW : Aside0 (PN w [n, m, List.replicate 5 0, mulS n m k i] W) := ⟨by rw [hW]; exact H.out.drew⟩
      clear hW hx hz hs hfs H
      simp only [List.take_succ_cons, List.take_zero, List.drop_succ_cons, List.drop_zero]
      repeat still_step
      refine wpStill_nil ?_
      go_wp2
      refine ⟨⟨i + 1, by omega, by go_num, ?_⟩, by simp [intOf]; omega⟩
      rw [← HSET.out]
      exact ⟨HW.out.set 3 k (s + 5 * x * z) rfl⟩
    ·obtain rfl : i = 5 := by omega
     clear hli hi
     rw [show ((5 : Nat) : Int) = 5 from rfl]
     go_wp2
     refine ⟨⟨k + 1, by omega, by go_num, ?_⟩, by simp [intOf]; omega⟩
     rw [← mulS_next]
     exact H
  ·obtain rfl : k = 5 := by omega
   clear hlt hk
   rw [show ((5 : Nat) : Int) = 5 from rfl]
   have hP := H.out
   rw [mulS_all] at hP
   have HLM := Aside0.mk (mulL_lim HN.out HM.out)
   have hPl : (mulL n m).length = 5 := by simp [mulL]
   have hCl : (car (mulL n m)).length = 5 := by rw [car_length]; exact hPl
   generalize hP0 : mulL n m = P at *
   have HRe := Aside0.mk hP0
   clear hP0
   have HP := Aside0.mk hP
   have HPl := Aside0.mk hPl
   have HC := Aside0.mk (fun W => carried_calls P W HLM.out)
   have hrow := HP.out.rows 3 P rfl
   simp only [adr] at hrow
   have hszp : (Tryz.prog.info? 181).map (·.size) = some (u64s P).size := by rw [u64s_size, HPl.out]; exact HI.out
   have HROWP := Aside0.mk hrow
   have HSZP := Aside0.mk hszp
   have HCL := Aside0.mk hCl
   clear hP hPl hrow hszp hCl
   go_upto_region 15 with (fail)
   go_wp2_with (first | (with_reducible refine wpList_load_row rfl 181 (.tmp 5) rfl (w.heap.size + 1 + 1 + 1) rfl 181 (u64s P) (0, 0) _ HROWP.out Tryz.underlying181 rfl HSZP.out ?_))
   refine (HC.out _).mono ?_
   rintro e w3 ⟨rfl, hb⟩
   have hout := blk_below (HP.out.rows 2 _ rfl) hb
   simp only [adr] at hout
   have HBE := Aside0.mk (below_then HP.out.below HP.out.below.size hb)
   have hsz : (Tryz.prog.info? 181).map (·.size) = some (u64s (car P)).size := by rw [u64s_size, HCL.out]; exact HI.out
   have hsz2 : (u64s (List.replicate 5 0)).size = (u64s (car P)).size := by rw [u64s_size, u64s_size, HCL.out]; rfl
   have HOUT := Aside0.mk hout
   have HSZ := Aside0.mk hsz
   have HSZ2 := Aside0.mk hsz2
   clear hout hsz hsz2 hb
   generalize hr : car P = r at *
   have HRr := Aside0.mk hr
   clear hr
   go_wp2_with (refine wpList_store_row rfl 181 (.tmp 4) (.tmp 49) rfl (w.heap.size + 1 + 1) (u64s r) rfl rfl 181 _ HOUT.out HSZ.out HSZ2.out (u64s_one _) ?_)
   exact bodyPost_ret (results_cell_row Tryz.results152 _ _ (w.heap.size + 1 + 1) 181 (u64s r) (0, 0) _ rfl (setRow_heap _ _ _ _ _ _ HOUT.out) Tryz.underlying181 rfl HSZ.out) rfl ⟨by rw [HRe.out, HRr.out], below_setRow HBE.out (by omega) _⟩
structure WN (w : World) (l : List Nat) (W : World) : Prop where
 below : Below w.heap.size w W
 row : W.heap[w.heap.size]? = some (.cells (u64s l) 181 (0, 0))
 ret : W.heap[w.heap.size + 1]? = some (.cells (u64s (List.replicate 5 0)) 181 (0, 0))
theorem WN.then_ {w W W' : World} {l : List Nat} (h : WN w l W) (hb : Below W.heap.size W W') : WN w l W' := ⟨below_then h.below h.below.size hb, blk_below h.row hb, blk_below h.ret hb⟩
theorem WN.put {w W : World} {l : List Nat} (h : WN w l W) (l' : List Nat) : WN w l' (W.setRow w.heap.size (u64s l')) :=
 ⟨below_setRow h.below (Nat.le_refl _) _, setRow_heap _ _ _ _ _ _ h.row, by rw [setRow_other _ _ _ _ (by omega)]; exact h.ret⟩
structure WM (w : World) (g : Nat) (l m : List Nat) (W : World) : Prop where
 n : WN w l W
 gt : w.heap.size + 1 < g
 row : W.heap[g]? = some (.cells (u64s m) 181 (0, 0))
theorem WM.set {w W : World} {g : Nat} {l m : List Nat} (h : WM w g l m W) (k v : Nat) : WM w g l (m.set k v) (W.setCell ⟨g, k, none⟩ (.int .u64 (v : Int))) := by
 have hg := h.gt
 exact ⟨⟨below_set h.n.below (by omega), blk_far h.n.row (by simp; omega) _, blk_far h.n.ret (by simp; omega) _⟩, hg, blk_put h.row k _ (u64s_set m k v)⟩
theorem WM.cell {w W : World} {g : Nat} {l m : List Nat} (h : WM w g l m W) (k : Nat) (hk : k < m.length) : W.cell? ⟨g, k, none⟩ = some (.int .u64 (m.getD k 0 : Nat)) ∧ W.frozen? ⟨g, k, none⟩ = false :=
 ⟨(blk_cell h.row k).trans (u64s_get m k hk), blk_frozen h.row k⟩
theorem WM.drew {w W : World} {g : Nat} {l m : List Nat} (h : WM w g l m W) : WM w g l m W.drew := ⟨⟨below_drew h.n.below, h.n.row, h.n.ret⟩, h.gt, h.row⟩
theorem moreT_length (l : List Nat) : ∀ k, (moreT l k).length = l.length
 | 0 => by simp [moreT]
 | k + 1 => by simp [moreT, moreT_length l k]
theorem more_lt {l : List Nat} (h : Lim 67108864 l) : ∀ k, k < 4 → (moreT l k).getD k 0 < 134217728 ∧ (moreT l k).getD (k + 1) 0 < 67108864 := by
 obtain ⟨a, b, c, d, e, rfl, h0, h1, h2, h3, h4⟩ := h.of5
 intro k hk
 match k, hk with
 | 0, _ => exact ⟨show a + 5 < _ by omega, h1⟩
 | 1, _ => exact ⟨show b + (a + 5) / 67108864 < _ by omega, h2⟩
 | 2, _ => exact ⟨show c + (b + (a + 5) / 67108864) / 67108864 < _ by omega, h3⟩
 | 3, _ => exact ⟨show d + (c + (b + (a + 5) / 67108864) / 67108864) / 67108864 < _ by omega, h4⟩
theorem more_top {l : List Nat} (h : Lim 67108864 l) : (moreT l 4).getD 4 0 < 134217728 := by
 obtain ⟨a, b, c, d, e, rfl, h0, h1, h2, h3, h4⟩ := h.of5
 show e + (d + (c + (b + (a + 5) / 67108864) / 67108864) / 67108864) / 67108864 < _
 omega
theorem car2_lim {l : List Nat} (h : Lim 134217728 l) (hn : ¬ (car l).getD 1 0 < 67108864) : (car (car l)).getD 1 0 < 67108864 := by
 have := (norm_lim h).lt 1
 unfold norm at this
 rwa [if_neg hn] at this
def topOf (g : Nat) (W : World) : Nat := match W.cell? ⟨g, 1, none⟩ with
 | some (.int _ v) => v.toNat
 | _ => 0
theorem topOf_eq {w W : World} {l : List Nat} (h : WN w l W) (hl : l.length = 5) : topOf w.heap.size W = l.getD 1 0 := by
 unfold topOf
 rw [(blk_cell h.row 1).trans (u64s_get l 1 (by omega))]
 simp
set_option maxRecDepth 100000 in
theorem number_whole_calls (l : List Nat) (w : World) (h : Lim 134217728 l) :
  Calls Tryz.prog 153 #[.agg (u64s l)] w fun e w' => e = .returned (.agg (u64s (whole l))) ∧ Below w.heap.size w w' := by
 have hi : ∀ m : List Nat, m.length = 5 → (Tryz.prog.info? 181).map (·.size) = some (u64s m).size := by intro m hm; rw [u64s_size, hm]; kernel_rfl
 have HI := Aside0.mk hi
 have HL := Aside0.mk h
 have HLl := Aside0.mk h.len
 have HCl := Aside0.mk (show (car l).length = 5 by rw [car_length]; exact h.len)
 have HCCl := Aside0.mk (show (car (car l)).length = 5 by rw [car_length, car_length]; exact h.len)
 have HC1 := Aside0.mk (fun W => carried_calls l W (h.mono (by decide)))
 have HC2 := Aside0.mk (fun W => carried_calls (car l) W ((car_lim (h.mono (by decide))).mono (by decide)))
 clear hi h
 go_enter Tryz.func153, Tryz.ntmps153
 go_upto_region 1 with (fail)
 have H : Aside0 (WN w l ((w.alloc (.cells (u64s l) 181)).alloc (.cells (u64s (List.replicate 5 0)) 181))) := ⟨⟨below_alloc (below_alloc (Below.refl _ _) _) _, blk_alloc (blk_new _ _) _, by
  have := blk_new (w.alloc (.cells (u64s l) 181)) (.cells (u64s (List.replicate 5 0)) 181)
  rwa [show (w.alloc (.cells (u64s l) 181)).heap.size = w.heap.size + 1 by simp] at this⟩⟩
 have e5 : #[Value.int IntKind.u64 0, Value.int IntKind.u64 0, Value.int IntKind.u64 0, Value.int IntKind.u64 0, Value.int IntKind.u64 0] = u64s (List.replicate 5 0) := rfl
 rw [e5]
 clear e5
 generalize (w.alloc (.cells (u64s l) 181)).alloc (.cells (u64s (List.replicate 5 0)) 181) = W0 at H ⊢
 go_wp2_with (with_reducible refine wpList_load_row rfl 181 (.tmp 1) rfl w.heap.size rfl 181 (u64s l) (0, 0) _ H.out.row Tryz.underlying181 rfl (HI.out l HLl.out) ?_)
 refine (HC1.out _).mono ?_
 rintro e w3 ⟨rfl, hb⟩
 have H := Aside0.mk (H.out.then_ hb)
 clear hb
 go_wp2_with (refine wpList_store_row rfl 181 (.tmp 1) (.tmp 6) rfl w.heap.size (u64s (car l)) rfl rfl 181 _ H.out.row (HI.out (car l) HCl.out) (by rw [u64s_size, u64s_size, HLl.out, HCl.out]) (u64s_one _) ?_)
 have H := Aside0.mk (H.out.put (car l))
 generalize w3.setRow w.heap.size (u64s (car l)) = W0 at H ⊢
 simp only [Act.put, List.setIfInBounds_toArray, List.set_cons_zero, List.set_cons_succ]
 go_loopw [] (fun wr => ∃ l', (l' = car l ∨ (l' = car (car l) ∧ ¬ (car l).getD 1 0 < 67108864)) ∧ Aside0 (WN w l' wr)) (fun wr => topOf w.heap.size wr)
 case atStart => exact ⟨car l, Or.inl rfl, H⟩
 case round =>
  clear H
  obtain ⟨l', hl', H⟩ := hrel
  have hll : l'.length = 5 := by
   rcases hl' with h | h
   ·rw [h]; exact HCl.out
   ·rw [h.1]; exact HCCl.out
  have HLL := Aside0.mk hll
  have HOR := Aside0.mk hl'
  have hc := (blk_cell H.out.row 1).trans (u64s_get l' 1 (by omega))
  have htop := topOf_eq H.out hll
  clear hll hl'
  by_cases hlt : l'.getD 1 0 < 67108864
  ·have HN : Aside0 (norm l = l') := ⟨by
    unfold norm
    rcases HOR.out with h | h
    ·rw [← h, if_pos hlt]
    ·rw [if_neg h.2, h.1]⟩
   generalize l'.getD 1 0 = y at hc hlt
   have t1 : decide (0 < (y : Int) / 67108864) = false := decide_eq_false (by omega)
   have t2 : decide (0 < y / 67108864) = false := decide_eq_false (by omega)
   clear htop
   go_upto_region 4 with (fail)
   have HLN := Aside0.mk (HN.out ▸ norm_lim HL.out)
   have HW : Aside0 (whole l = if (moreT l' 4).getD 4 0 / 67108864 = 0 then l' else (moreT l' 4).set 4 ((moreT l' 4).getD 4 0 % 67108864)) := ⟨by unfold whole; rw [HN.out]⟩
   have hc0 := (blk_cell H.out.row 0).trans (u64s_get l' 0 (by rw [HLL.out]; omega))
   have hm0 : moreT l' 0 = l'.set 0 (l'.getD 0 0 + 5) := rfl
   have hz0 := HLN.out.lt 0
   generalize hzz : l'.getD 0 0 = z at hc0 hm0 hz0
   have HZ := Aside0.mk hzz
   clear hzz
   have hz : (z : Int) + 5 ≤ 18446744073709551615 := by omega
   have HM0 := Aside0.mk hm0
   have hgt := blk_lt H.out.ret
   have HQ : Aside0 (WM w wr.heap.size l' l' (wr.alloc (.cells (u64s l') 181))) := ⟨⟨⟨below_alloc H.out.below _, blk_alloc H.out.row _, blk_alloc H.out.ret _⟩, hgt, blk_new _ _⟩⟩
   clear t1 t2 hc hlt hm0 hz0 hgt HN HOR hc0
   go_upto_region 5 with (first | (with_reducible refine wpList_load_row rfl 181 (.tmp 1) rfl w.heap.size rfl 181 (u64s l') (0, 0) _ H.out.row Tryz.underlying181 rfl (HI.out l' HLL.out) ?_) | (refine wpList_store_row rfl 181 (.tmp 3) (.tmp 13) rfl wr.heap.size (u64s l') rfl rfl 181 _ (heap_alloc_last _ _) (HI.out l' HLL.out) (by rw [u64s_size, HLL.out]; rfl) (u64s_one _) ?_; rw [World.setRow_alloc_new]))
   simp only [Act.put, List.setIfInBounds_toArray, List.set_cons_zero, List.set_cons_succ]
   obtain ⟨hk0, hf0⟩ := HQ.out.cell 0 (by rw [HLL.out]; omega)
   have hz0 : l'.getD 0 0 = z := HZ.out
   rw [hz0] at hk0
   clear hz0
   have HQ1 : Aside0 (WM w wr.heap.size l' (moreT l' 0) ((wr.alloc (.cells (u64s l') 181)).setCell ⟨wr.heap.size, 0, none⟩ (.int .u64 ((z : Int) + 5)))) := ⟨by rw [HM0.out]; exact HQ.out.set 0 (z + 5)⟩
   generalize wr.alloc (.cells (u64s l') 181) = W1 at HQ HQ1 hk0 hf0 ⊢
   generalize wr.heap.size = g at HQ HQ1 hk0 hf0 ⊢
   go_wp2_with (fail)
   clear hk0 hf0 HQ hz
   go_loopw [18] (fun i wr => ∃ k : Nat, k ≤ 4 ∧ i = .int .i64 k ∧ Aside0 (WM w g l' (moreT l' k) wr)) (fun i _ => 4 - (intOf i).toNat)
   case atStart => exact ⟨0, by omega, rfl, HQ1⟩
   case round =>
    clear HQ1 H
    obtain ⟨k, hk, rfl, H⟩ := hrel
    by_cases hlt : k < 4
    ·obtain ⟨bx, by_⟩ := more_lt HLN.out k hlt
     have hml : (moreT l' k).length = 5 := by rw [moreT_length, HLL.out]
     obtain ⟨hx, hfx⟩ := H.out.cell k (by omega)
     obtain ⟨hy, hfy⟩ := H.out.cell (k + 1) (by omega)
     have hs : moreT l' (k + 1) = ((moreT l' k).set (k + 1) ((moreT l' k).getD (k + 1) 0 + (moreT l' k).getD k 0 / 67108864)).set k ((moreT l' k).getD k 0 % 67108864) := rfl
     generalize (moreT l' k).getD k 0 = x at hx hs bx
     generalize (moreT l' k).getD (k + 1) 0 = y at hy hs by_
     have HS := Aside0.mk hs
     have i5 : (k : Int) < 5 := by omega
     clear hs hml
     go_wp2_with (fail)
     have hm := mask26 x (by omega)
     have b1 : (y : Int) + (x : Int) / 67108864 ≤ 18446744073709551615 := by omega
     have e1 : IntKind.u64.wrap ((y : Int) + (x : Int) / 67108864) = (y : Int) + (x : Int) / 67108864 := wraps_u64 _ (by omega) (by omega)
     have i1 : IntKind.i64.wrap ((k : Int) + 1) = (k : Int) + 1 := IntWalk.i64_in _ (by omega)
     have i2 : ((k : Int) + 1).toNat = k + 1 := by omega
     have i3 : 0 ≤ (k : Int) + 1 := by omega
     have i4 : (k : Int) + 1 < 5 := by omega
     clear bx by_
     refine wp_still_tail 10 (by kernel_rfl) (by kernel_rfl) ?_
     intro W hW
     have g1 : W.cell? ⟨g, k, none⟩ = some (.int .u64 (x : Int)) := by rw [hW]; exact hx
     have g2 : W.cell? ⟨g, k + 1, none⟩ = some (.int .u64 (y : Int)) := by rw [hW]; exact hy
     have gf : W.frozen? ⟨g, k, none⟩ = false := by rw [hW]; exact hfx
     have gf2 : W.frozen? ⟨g, k + 1, none⟩ = false := by rw [hW]; exact hfy
     have HW : Aside0 (WM w g l' (moreT l' k) W) := ⟨by rw [hW]; exact H.out.drew⟩
     clear hW hx hy hfx hfy H
     simp only [List.take_succ_cons, List.take_zero, List.drop_succ_cons, List.drop_zero]
     repeat still_step
     refine wpStill_nil ?_
     clear i1
     go_wp2
     refine ⟨⟨k + 1, by omega, by go_num, ?_⟩, by simp [intOf]; omega⟩
     rw [HS.out]
     exact ⟨(HW.out.set (k + 1) (y + x / 67108864)).set k (x % 67108864)⟩
    ·obtain rfl : k = 4 := by omega
     clear hlt hk
     rw [show ((4 : Nat) : Int) = 4 from rfl]
     have hml : (moreT l' 4).length = 5 := by rw [moreT_length, HLL.out]
     obtain ⟨hx, hfx⟩ := H.out.cell 4 (by omega)
     have bx := more_top HLN.out
     have HML := Aside0.mk hml
     have HOUT := Aside0.mk H.out.n.ret
     have HBE := Aside0.mk H.out.n.below
     clear hml
     generalize (moreT l' 4).getD 4 0 = x at hx bx HW
     by_cases h0 : x / 67108864 = 0
     ·have t1 : ((x : Int) / 67108864 == 0) = true := by rw [beq_iff_eq]; omega
      have HE : Aside0 (whole l = l') := ⟨by rw [HW.out, if_pos h0]⟩
      have HRL := HLL
      clear h0
      go_wp2_with (first | (with_reducible refine wpList_load_row rfl 181 (.tmp 1) rfl w.heap.size rfl 181 (u64s l') (0, 0) _ H.out.n.row Tryz.underlying181 rfl (HI.out _ HRL.out) ?_) | (refine wpList_store_row rfl 181 (.tmp 2) (.tmp 41) rfl (w.heap.size + 1) (u64s l') rfl rfl 181 _ HOUT.out (HI.out _ HRL.out) (by rw [u64s_size, u64s_size, HRL.out]; rfl) (u64s_one _) ?_))
      exact bodyPost_ret (results_cell_row Tryz.results153 _ _ (w.heap.size + 1) 181 (u64s l') (0, 0) _ rfl (setRow_heap _ _ _ _ _ _ HOUT.out) Tryz.underlying181 rfl (HI.out _ HRL.out)) rfl ⟨by rw [HE.out], below_setRow HBE.out (by omega) _⟩
     ·have t1 : ((x : Int) / 67108864 == 0) = false := by rw [beq_eq_false_iff_ne]; omega
      have HE : Aside0 (whole l = (moreT l' 4).set 4 (x % 67108864)) := ⟨by rw [HW.out, if_neg h0]⟩
      have hm := mask26 x (by omega)
      clear h0 bx
      go_upto_region 15 with (fail)
      have HX : Aside0 (WM w g l' ((moreT l' 4).set 4 (x % 67108864)) (wr.setCell ⟨g, 4, none⟩ (.int .u64 ((x : Int) % 67108864)))) := ⟨H.out.set 4 (x % 67108864)⟩
      generalize wr.setCell ⟨g, 4, none⟩ (.int .u64 ((x : Int) % 67108864)) = W2 at HX ⊢
      have HRL := Aside0.mk (show ((moreT l' 4).set 4 (x % 67108864)).length = 5 by rw [List.length_set]; exact HML.out)
      generalize (moreT l' 4).set 4 (x % 67108864) = r at HX HRL HE
      have HOUT := Aside0.mk HX.out.n.ret
      have HBE := Aside0.mk HX.out.n.below
      clear hm hx hfx t1
      go_wp2_with (first | (with_reducible refine wpList_load_row rfl 181 (.tmp 3) rfl g rfl 181 (u64s r) (0, 0) _ HX.out.row Tryz.underlying181 rfl (HI.out _ HRL.out) ?_) | (refine wpList_store_row rfl 181 (.tmp 2) (.tmp 46) rfl (w.heap.size + 1) (u64s r) rfl rfl 181 _ HOUT.out (HI.out _ HRL.out) (by rw [u64s_size, u64s_size, HRL.out]; rfl) (u64s_one _) ?_))
      exact bodyPost_ret (results_cell_row Tryz.results153 _ _ (w.heap.size + 1) 181 (u64s r) (0, 0) _ rfl (setRow_heap _ _ _ _ _ _ HOUT.out) Tryz.underlying181 rfl (HI.out _ HRL.out)) rfl ⟨by rw [HE.out], below_setRow HBE.out (by omega) _⟩
  ·have h' : l' = car l := by
    rcases HOR.out with h | h
    ·exact h
    ·exact absurd (h.1 ▸ car2_lim HL.out h.2) hlt
   subst h'
   have HT := Aside0.mk htop
   have HLT := Aside0.mk hlt
   generalize (car l).getD 1 0 = y at hc hlt
   have t1 : decide (0 < (y : Int) / 67108864) = true := decide_eq_true (by omega)
   have t2 : decide (0 < y / 67108864) = true := decide_eq_true (by omega)
   clear htop
   go_wp2_with (with_reducible refine wpList_load_row rfl 181 (.tmp 1) rfl w.heap.size rfl 181 (u64s (car l)) (0, 0) _ H.out.row Tryz.underlying181 rfl (HI.out (car l) HCl.out) ?_)
   refine (HC2.out _).mono ?_
   rintro e w5 ⟨rfl, hb⟩
   have H := Aside0.mk (H.out.then_ hb)
   clear hb
   go_wp2_with (refine wpList_store_row rfl 181 (.tmp 1) (.tmp 12) rfl w.heap.size (u64s (car (car l))) rfl rfl 181 _ H.out.row (HI.out (car (car l)) HCCl.out) (by rw [u64s_size, u64s_size, HCl.out, HCCl.out]) (u64s_one _) ?_)
   have H := Aside0.mk (H.out.put (car (car l)))
   generalize w5.setRow w.heap.size (u64s (car (car l))) = W1 at H ⊢
   go_roundw
   case rel =>
    repeat apply Exists.intro
    exact ⟨⟨car (car l), Or.inr ⟨rfl, hlt⟩, H⟩, rfl⟩
   case measure =>
    rw [topOf_eq H.out HCCl.out, HT.out]
    have := car2_lim HL.out HLT.out
    have := HLT.out
    omega
def cyT (V : Nat) (S : List Nat) : Nat → Nat
 | 0 => 0
 | k + 1 => (cyT V S k + (V / 256 ^ k % 256 + S.getD k 0)) / 256
def outT (V : Nat) (S : List Nat) (k : Nat) : List Nat := (List.range 16).map fun i => if i < k then (cyT V S i + (V / 256 ^ i % 256 + S.getD i 0)) % 256 else 0
theorem cyT_le (V : Nat) (S : List Nat) (hS : ∀ i, S.getD i 0 < 256) : ∀ k, cyT V S k ≤ 1
  | 0 => by simp [cyT]
  | k + 1 => by
    have := cyT_le V S hS k
    have := hS k
    have : V / 256 ^ k % 256 < 256 := Nat.mod_lt _ (by decide)
    simp only [cyT]
    omega
theorem outT_length (V : Nat) (S : List Nat) (k : Nat) : (outT V S k).length = 16 := by simp [outT]
theorem outT_lt (V : Nat) (S : List Nat) (k : Nat) : ∀ x ∈ outT V S k, x < 256 := by
 intro x hx
 unfold outT at hx
 rw [List.mem_map] at hx
 obtain ⟨i, _, rfl⟩ := hx
 split
 ·exact Nat.mod_lt _ (by decide)
 ·decide
theorem outT_set (V : Nat) (S : List Nat) (k : Nat) (hk : k < 16) : (outT V S k).set k ((cyT V S k + (V / 256 ^ k % 256 + S.getD k 0)) % 256) = outT V S (k + 1) := by
 apply List.ext_getElem
 ·simp [outT]
 ·intro j h1 h2
  rw [List.getElem_set]
  simp only [outT, List.getElem_map, List.getElem_range]
  by_cases e : k = j
  ·subst e; rw [if_pos rfl, if_pos (by omega)]
  ·rw [if_neg e]
   by_cases h : j < k
   ·rw [if_pos h, if_pos (by omega)]
   ·rw [if_neg h, if_neg (by omega)]
theorem and255_64 (a : Nat) (ha : a < 18446744073709551616) : bits .and .u64 (a : Int) 255 = ((a % 256 : Nat) : Int) := by
 have := and64 a 255 ha (by decide)
 rw [show ((255 : Nat) : Int) = 255 from rfl] at this
 rw [this, show (255 : Nat) = 2 ^ 8 - 1 from rfl, Nat.and_two_pow_sub_one_eq_mod]
theorem bitx (c d p q i : Nat) (hq : q = 2 ^ i) (hpq : p * q = 67108864) (hc : c < 67108864) (hd : d < 67108864) :
  bits .and .u64 (bits .or .u64 ((c : Int) / (p : Int)) (IntKind.u64.wrap ((d : Int) * (q : Int)))) 255 = (((c / p + d * q) % 256 : Nat) : Int) := by
 have hp0 : 0 < p := Nat.pos_of_ne_zero (by rintro rfl; simp at hpq)
 have hq0 : 0 < q := Nat.pos_of_ne_zero (by rintro rfl; simp at hpq)
 have h1 : c / p < q := by
  rw [Nat.div_lt_iff_lt_mul hp0, Nat.mul_comm]; omega
 have hqM : q ≤ 67108864 := by
  rw [← hpq]; exact Nat.le_mul_of_pos_left q hp0
 have h2 : d * q ≤ 67108864 * 67108864 := Nat.mul_le_mul (Nat.le_of_lt hd) hqM
 have e1 : ((c : Int) / (p : Int)) = ((c / p : Nat) : Int) := by simp
 have e2 : (d : Int) * (q : Int) = ((d * q : Nat) : Int) := by simp
 rw [e2, wraps_u64 _ (Int.natCast_nonneg _) (by omega), e1, or64 _ _ (by omega) (by omega)]
 have h3 : c / p ||| d * q = c / p + d * q := by
  rw [Nat.or_comm, Nat.mul_comm d q, hq, ← Nat.two_pow_add_eq_or_of_lt (by rw [← hq]; exact h1) d, ← hq]
  omega
 rw [h3, and255_64 _ (by omega)]
theorem bitl (c p : Nat) (hp : 0 < p) (hc : c < 67108864) : bits .and .u64 ((c : Int) / (p : Int)) 255 = (((c / p) % 256 : Nat) : Int) := by
 have e1 : ((c : Int) / (p : Int)) = ((c / p : Nat) : Int) := by simp
 have : c / p ≤ c := Nat.div_le_self _ _
 rw [e1, and255_64 _ (by omega)]
theorem sum_w (x y c_ : Nat) (hx : x < 256) (hy : y < 256) (hc : c_ ≤ 1) : IntKind.u64.wrap ((c_ : Int) + IntKind.u64.wrap ((x : Int) + IntKind.u64.wrap (y : Int))) = ((c_ + (x + y) : Nat) : Int) := by
 rw [wraps_u64 (y : Int) (by omega) (by omega), wraps_u64 ((x : Int) + (y : Int)) (by omega) (by omega), wraps_u64 _ (by omega) (by omega)]
 omega
theorem dg_0 (a b c d e : Nat) (h0 : a < 67108864) (h1 : b < 67108864) (h2 : c < 67108864) (h3 : d < 67108864) (h4 : e < 67108864) : (a / 1 + b * 67108864) % 256 = lv [a, b, c, d, e] / 256 ^ 0 % 256 := by
 rw [show (256 : Nat) ^ 0 = 1 from rfl]
 simp only [lv]
 omega
theorem dg_1 (a b c d e : Nat) (h0 : a < 67108864) (h1 : b < 67108864) (h2 : c < 67108864) (h3 : d < 67108864) (h4 : e < 67108864) : (a / 256 + b * 262144) % 256 = lv [a, b, c, d, e] / 256 ^ 1 % 256 := by
 rw [show (256 : Nat) ^ 1 = 256 from rfl]
 simp only [lv]
 omega
theorem dg_2 (a b c d e : Nat) (h0 : a < 67108864) (h1 : b < 67108864) (h2 : c < 67108864) (h3 : d < 67108864) (h4 : e < 67108864) : (a / 65536 + b * 1024) % 256 = lv [a, b, c, d, e] / 256 ^ 2 % 256 := by
 rw [show (256 : Nat) ^ 2 = 65536 from rfl]
 simp only [lv]
 omega
theorem dg_3 (a b c d e : Nat) (h0 : a < 67108864) (h1 : b < 67108864) (h2 : c < 67108864) (h3 : d < 67108864) (h4 : e < 67108864) : (a / 16777216 + b * 4) % 256 = lv [a, b, c, d, e] / 256 ^ 3 % 256 := by
 rw [show (256 : Nat) ^ 3 = 16777216 from rfl]
 simp only [lv]
 omega
theorem dg_4 (a b c d e : Nat) (h0 : a < 67108864) (h1 : b < 67108864) (h2 : c < 67108864) (h3 : d < 67108864) (h4 : e < 67108864) : (b / 64 + c * 1048576) % 256 = lv [a, b, c, d, e] / 256 ^ 4 % 256 := by
 rw [show (256 : Nat) ^ 4 = 4294967296 from rfl]
 simp only [lv]
 omega
theorem dg_5 (a b c d e : Nat) (h0 : a < 67108864) (h1 : b < 67108864) (h2 : c < 67108864) (h3 : d < 67108864) (h4 : e < 67108864) : (b / 16384 + c * 4096) % 256 = lv [a, b, c, d, e] / 256 ^ 5 % 256 := by
 rw [show (256 : Nat) ^ 5 = 1099511627776 from rfl]
 simp only [lv]
 omega
theorem dg_6 (a b c d e : Nat) (h0 : a < 67108864) (h1 : b < 67108864) (h2 : c < 67108864) (h3 : d < 67108864) (h4 : e < 67108864) : (b / 4194304 + c * 16) % 256 = lv [a, b, c, d, e] / 256 ^ 6 % 256 := by
 rw [show (256 : Nat) ^ 6 = 281474976710656 from rfl]
 simp only [lv]
 omega
theorem dg_7 (a b c d e : Nat) (h0 : a < 67108864) (h1 : b < 67108864) (h2 : c < 67108864) (h3 : d < 67108864) (h4 : e < 67108864) : (c / 16 + d * 4194304) % 256 = lv [a, b, c, d, e] / 256 ^ 7 % 256 := by
 rw [show (256 : Nat) ^ 7 = 72057594037927936 from rfl]
 simp only [lv]
 omega
theorem dg_8 (a b c d e : Nat) (h0 : a < 67108864) (h1 : b < 67108864) (h2 : c < 67108864) (h3 : d < 67108864) (h4 : e < 67108864) : (c / 4096 + d * 16384) % 256 = lv [a, b, c, d, e] / 256 ^ 8 % 256 := by
 rw [show (256 : Nat) ^ 8 = 18446744073709551616 from rfl]
 simp only [lv]
 omega
theorem dg_9 (a b c d e : Nat) (h0 : a < 67108864) (h1 : b < 67108864) (h2 : c < 67108864) (h3 : d < 67108864) (h4 : e < 67108864) : (c / 1048576 + d * 64) % 256 = lv [a, b, c, d, e] / 256 ^ 9 % 256 := by
 rw [show (256 : Nat) ^ 9 = 4722366482869645213696 from rfl]
 simp only [lv]
 omega
theorem dg_10 (a b c d e : Nat) (h0 : a < 67108864) (h1 : b < 67108864) (h2 : c < 67108864) (h3 : d < 67108864) (h4 : e < 67108864) : (d / 4 + e * 16777216) % 256 = lv [a, b, c, d, e] / 256 ^ 10 % 256 := by
 rw [show (256 : Nat) ^ 10 = 1208925819614629174706176 from rfl]
 simp only [lv]
 omega
theorem dg_11 (a b c d e : Nat) (h0 : a < 67108864) (h1 : b < 67108864) (h2 : c < 67108864) (h3 : d < 67108864) (h4 : e < 67108864) : (d / 1024 + e * 65536) % 256 = lv [a, b, c, d, e] / 256 ^ 11 % 256 := by
 rw [show (256 : Nat) ^ 11 = 309485009821345068724781056 from rfl]
 simp only [lv]
 omega
theorem dg_12 (a b c d e : Nat) (h0 : a < 67108864) (h1 : b < 67108864) (h2 : c < 67108864) (h3 : d < 67108864) (h4 : e < 67108864) : (d / 262144 + e * 256) % 256 = lv [a, b, c, d, e] / 256 ^ 12 % 256 := by
 rw [show (256 : Nat) ^ 12 = 79228162514264337593543950336 from rfl]
 simp only [lv]
 omega
theorem dg_13 (a b c d e : Nat) (h0 : a < 67108864) (h1 : b < 67108864) (h2 : c < 67108864) (h3 : d < 67108864) (h4 : e < 67108864) : e / 1 % 256 = lv [a, b, c, d, e] / 256 ^ 13 % 256 := by
 rw [show (256 : Nat) ^ 13 = 20282409603651670423947251286016 from rfl]
 simp only [lv]
 omega
theorem dg_14 (a b c d e : Nat) (h0 : a < 67108864) (h1 : b < 67108864) (h2 : c < 67108864) (h3 : d < 67108864) (h4 : e < 67108864) : e / 256 % 256 = lv [a, b, c, d, e] / 256 ^ 14 % 256 := by
 rw [show (256 : Nat) ^ 14 = 5192296858534827628530496329220096 from rfl]
 simp only [lv]
 omega
theorem dg_15 (a b c d e : Nat) (h0 : a < 67108864) (h1 : b < 67108864) (h2 : c < 67108864) (h3 : d < 67108864) (h4 : e < 67108864) : e / 65536 % 256 = lv [a, b, c, d, e] / 256 ^ 15 % 256 := by
 rw [show (256 : Nat) ^ 15 = 1329227995784915872903807060280344576 from rfl]
 simp only [lv]
 omega
structure ND (w : World) (l o : List Nat) (W : World) : Prop where
 below : Below w.heap.size w W
 row : W.heap[w.heap.size]? = some (.cells (u64s l) 181 (0, 0))
 out : W.heap[w.heap.size + 1]? = some (.cells (u8s o) 220 (0, 0))
theorem ND.set {w W : World} {l o : List Nat} (h : ND w l o W) (k v : Nat) : ND w l (o.set k v) (W.setCell ⟨w.heap.size + 1, k, none⟩ (.int .u8 (v : Int))) :=
 ⟨below_set h.below (by omega), blk_far h.row (by simp) _, blk_put h.out k _ (u8s_set o k v)⟩
set_option maxRecDepth 100000 in
theorem number_bytes_calls (a b c d e : Nat) (s : ByteArray) (w : World) (h : Lim 67108864 [a, b, c, d, e]) (hs : 16 ≤ s.size) :
  Calls Tryz.prog 154 #[.agg (u64s [a, b, c, d, e]), .string s] w fun E w' => E = .returned (.string (txt (outT (lv [a, b, c, d, e]) (bys s) 16))) ∧ Below w.heap.size w w' := by
 have l0 : a < 67108864 := h.lt 0
 have l1 : b < 67108864 := h.lt 1
 have l2 : c < 67108864 := h.lt 2
 have l3 : d < 67108864 := h.lt 3
 have l4 : e < 67108864 := h.lt 4
 have D0 := Aside0.mk (dg_0 a b c d e l0 l1 l2 l3 l4)
 have D1 := Aside0.mk (dg_1 a b c d e l0 l1 l2 l3 l4)
 have D2 := Aside0.mk (dg_2 a b c d e l0 l1 l2 l3 l4)
 have D3 := Aside0.mk (dg_3 a b c d e l0 l1 l2 l3 l4)
 have D4 := Aside0.mk (dg_4 a b c d e l0 l1 l2 l3 l4)
 have D5 := Aside0.mk (dg_5 a b c d e l0 l1 l2 l3 l4)
 have D6 := Aside0.mk (dg_6 a b c d e l0 l1 l2 l3 l4)
 have D7 := Aside0.mk (dg_7 a b c d e l0 l1 l2 l3 l4)
 have D8 := Aside0.mk (dg_8 a b c d e l0 l1 l2 l3 l4)
 have D9 := Aside0.mk (dg_9 a b c d e l0 l1 l2 l3 l4)
 have D10 := Aside0.mk (dg_10 a b c d e l0 l1 l2 l3 l4)
 have D11 := Aside0.mk (dg_11 a b c d e l0 l1 l2 l3 l4)
 have D12 := Aside0.mk (dg_12 a b c d e l0 l1 l2 l3 l4)
 have D13 := Aside0.mk (dg_13 a b c d e l0 l1 l2 l3 l4)
 have D14 := Aside0.mk (dg_14 a b c d e l0 l1 l2 l3 l4)
 have D15 := Aside0.mk (dg_15 a b c d e l0 l1 l2 l3 l4)
 have LL := Aside0.mk (And.intro l0 (And.intro l1 (And.intro l2 (And.intro l3 l4))))
 clear h l0 l1 l2 l3 l4
 generalize hV : lv [a, b, c, d, e] = V at *
 have HV := Aside0.mk hV
 clear hV
 have HB := Aside0.mk (bys_lt s)
 have HC := Aside0.mk (cyT_le V (bys s) (bys_lt s))
 have HG : Aside0 (∀ i (hi : i < s.size), (s[i]'hi).toNat = (bys s).getD i 0) := ⟨fun i hi => by
  have hl : i < s.data.toList.length := by rw [data_length]; exact hi
  simp only [bys, List.getD_eq_getElem?_getD, List.getElem?_map, List.getElem?_eq_getElem hl, Option.map_some, Option.getD_some]
  rfl⟩
 go_enter Tryz.func154, Tryz.ntmps154
 go_wp2_with (fail)
 have H : Aside0 (ND w [a, b, c, d, e] (outT V (bys s) 0) ((w.alloc (.cells (u64s [a, b, c, d, e]) 181)).alloc (.cells (u8s (List.replicate 16 0)) 220))) := ⟨⟨below_alloc (below_alloc (Below.refl _ _) _) _, blk_alloc (blk_new _ _) _, by
  have := blk_new (w.alloc (.cells (u64s [a, b, c, d, e]) 181)) (.cells (u8s (List.replicate 16 0)) 220)
  rwa [show (w.alloc (.cells (u64s [a, b, c, d, e]) 181)).heap.size = w.heap.size + 1 by simp] at this⟩⟩
 go_loopw [6, 10] (fun cy i wr => ∃ k : Nat, k ≤ 16 ∧ i = .int .i64 k ∧ cy = .int .u64 (cyT V (bys s) k : Nat) ∧ Aside0 (ND w [a, b, c, d, e] (outT V (bys s) k) wr)) (fun _ i _ => 16 - (intOf i).toNat)
 case atStart => exact ⟨0, by omega, rfl, rfl, H⟩
 case round =>
  clear H
  obtain ⟨k, hk, rfl, rfl, H⟩ := hrel
  by_cases hlt : k < 16
  ·have h0 : wr.cell? ⟨w.heap.size, 0, none⟩ = some (.int .u64 (a : Int)) := blk_cell H.out.row 0
   have h1 : wr.cell? ⟨w.heap.size, 1, none⟩ = some (.int .u64 (b : Int)) := blk_cell H.out.row 1
   have h2 : wr.cell? ⟨w.heap.size, 2, none⟩ = some (.int .u64 (c : Int)) := blk_cell H.out.row 2
   have h3 : wr.cell? ⟨w.heap.size, 3, none⟩ = some (.int .u64 (d : Int)) := blk_cell H.out.row 3
   have h4 : wr.cell? ⟨w.heap.size, 4, none⟩ = some (.int .u64 (e : Int)) := blk_cell H.out.row 4
   have h5 := (blk_cell H.out.out k).trans (u8s_get _ k (by rw [outT_length]; exact hlt))
   have h6 := blk_frozen H.out.out k
   generalize (outT V (bys s) k).getD k 0 = o at h5
   have HS := Aside0.mk (outT_set V (bys s) k hlt)
   have hy := HB.out k
   have hc := HC.out k
   have hn : cyT V (bys s) (k + 1) = (cyT V (bys s) k + (V / 256 ^ k % 256 + (bys s).getD k 0)) / 256 := rfl
   have hg := HG.out k (by omega)
   have hx : V / 256 ^ k % 256 < 256 := Nat.mod_lt _ (by decide)
   generalize hX : V / 256 ^ k % 256 = X at HS hn hx
   generalize (bys s).getD k 0 = y at HS hn hy hg
   generalize cyT V (bys s) k = cy at HS hn hc ⊢
   have HSUM := Aside0.mk (sum_w X y cy hx hy hc)
   have HX := Aside0.mk hX
   have HN := Aside0.mk hn
   have HGK := Aside0.mk hg
   clear hX hn hy hc hx hg
   have HK : Aside0 (k = 0 ∨ k = 1 ∨ k = 2 ∨ k = 3 ∨ k = 4 ∨ k = 5 ∨ k = 6 ∨ k = 7 ∨ k = 8 ∨ k = 9 ∨ k = 10 ∨ k = 11 ∨ k = 12 ∨ k = 13 ∨ k = 14 ∨ k = 15) := ⟨by omega⟩
   rcases HK.out with h | h | h | h | h | h | h | h | h | h | h | h | h | h | h | h
   ·subst h
    have E : bits .and .u64 (bits .or .u64 (a : Int) (IntKind.u64.wrap ((b : Int) * 67108864))) 255 = (X : Int) := by
     have := bitx a b 1 67108864 26 rfl rfl LL.out.1 LL.out.2.1
     rw [show ((1 : Nat) : Int) = 1 from rfl, Int.ediv_one] at this
     rw [← HX.out, ← D0.out]
     exact this
    have HE := Aside0.mk E
    clear E HK
    rw [show ((0 : Nat) : Int) = 0 from rfl]
    go_wp2
    simp only [HGK.out]
    rw [HE.out, HSUM.out]
    refine ⟨⟨1, by omega, rfl, ?_, ?_⟩, by simp [intOf]⟩
    ·rw [HN.out]; rfl
    ·rw [← HS.out]
     exact ⟨H.out.set 0 _⟩
   ·subst h
    have E : bits .and .u64 (bits .or .u64 ((a : Int) / 256) (IntKind.u64.wrap ((b : Int) * 262144))) 255 = (X : Int) := by
     have := bitx a b 256 262144 18 rfl rfl LL.out.1 LL.out.2.1
     skip
     rw [← HX.out, ← D1.out]
     exact this
    have HE := Aside0.mk E
    clear E HK
    rw [show ((1 : Nat) : Int) = 1 from rfl]
    go_wp2
    simp only [HGK.out]
    rw [HE.out, HSUM.out]
    refine ⟨⟨2, by omega, rfl, ?_, ?_⟩, by simp [intOf]⟩
    ·rw [HN.out]; rfl
    ·rw [← HS.out]
     exact ⟨H.out.set 1 _⟩
   ·subst h
    have E : bits .and .u64 (bits .or .u64 ((a : Int) / 65536) (IntKind.u64.wrap ((b : Int) * 1024))) 255 = (X : Int) := by
     have := bitx a b 65536 1024 10 rfl rfl LL.out.1 LL.out.2.1
     skip
     rw [← HX.out, ← D2.out]
     exact this
    have HE := Aside0.mk E
    clear E HK
    rw [show ((2 : Nat) : Int) = 2 from rfl]
    go_wp2
    simp only [HGK.out]
    rw [HE.out, HSUM.out]
    refine ⟨⟨3, by omega, rfl, ?_, ?_⟩, by simp [intOf]⟩
    ·rw [HN.out]; rfl
    ·rw [← HS.out]
     exact ⟨H.out.set 2 _⟩
   ·subst h
    have E : bits .and .u64 (bits .or .u64 ((a : Int) / 16777216) (IntKind.u64.wrap ((b : Int) * 4))) 255 = (X : Int) := by
     have := bitx a b 16777216 4 2 rfl rfl LL.out.1 LL.out.2.1
     skip
     rw [← HX.out, ← D3.out]
     exact this
    have HE := Aside0.mk E
    clear E HK
    rw [show ((3 : Nat) : Int) = 3 from rfl]
    go_wp2
    simp only [HGK.out]
    rw [HE.out, HSUM.out]
    refine ⟨⟨4, by omega, rfl, ?_, ?_⟩, by simp [intOf]⟩
    ·rw [HN.out]; rfl
    ·rw [← HS.out]
     exact ⟨H.out.set 3 _⟩
   ·subst h
    have E : bits .and .u64 (bits .or .u64 ((b : Int) / 64) (IntKind.u64.wrap ((c : Int) * 1048576))) 255 = (X : Int) := by
     have := bitx b c 64 1048576 20 rfl rfl LL.out.2.1 LL.out.2.2.1
     skip
     rw [← HX.out, ← D4.out]
     exact this
    have HE := Aside0.mk E
    clear E HK
    rw [show ((4 : Nat) : Int) = 4 from rfl]
    go_wp2
    simp only [HGK.out]
    rw [HE.out, HSUM.out]
    refine ⟨⟨5, by omega, rfl, ?_, ?_⟩, by simp [intOf]⟩
    ·rw [HN.out]; rfl
    ·rw [← HS.out]
     exact ⟨H.out.set 4 _⟩
   ·subst h
    have E : bits .and .u64 (bits .or .u64 ((b : Int) / 16384) (IntKind.u64.wrap ((c : Int) * 4096))) 255 = (X : Int) := by
     have := bitx b c 16384 4096 12 rfl rfl LL.out.2.1 LL.out.2.2.1
     skip
     rw [← HX.out, ← D5.out]
     exact this
    have HE := Aside0.mk E
    clear E HK
    rw [show ((5 : Nat) : Int) = 5 from rfl]
    go_wp2
    simp only [HGK.out]
    rw [HE.out, HSUM.out]
    refine ⟨⟨6, by omega, rfl, ?_, ?_⟩, by simp [intOf]⟩
    ·rw [HN.out]; rfl
    ·rw [← HS.out]
     exact ⟨H.out.set 5 _⟩
   ·subst h
    have E : bits .and .u64 (bits .or .u64 ((b : Int) / 4194304) (IntKind.u64.wrap ((c : Int) * 16))) 255 = (X : Int) := by
     have := bitx b c 4194304 16 4 rfl rfl LL.out.2.1 LL.out.2.2.1
     skip
     rw [← HX.out, ← D6.out]
     exact this
    have HE := Aside0.mk E
    clear E HK
    rw [show ((6 : Nat) : Int) = 6 from rfl]
    go_wp2
    simp only [HGK.out]
    rw [HE.out, HSUM.out]
    refine ⟨⟨7, by omega, rfl, ?_, ?_⟩, by simp [intOf]⟩
    ·rw [HN.out]; rfl
    ·rw [← HS.out]
     exact ⟨H.out.set 6 _⟩
   ·subst h
    have E : bits .and .u64 (bits .or .u64 ((c : Int) / 16) (IntKind.u64.wrap ((d : Int) * 4194304))) 255 = (X : Int) := by
     have := bitx c d 16 4194304 22 rfl rfl LL.out.2.2.1 LL.out.2.2.2.1
     skip
     rw [← HX.out, ← D7.out]
     exact this
    have HE := Aside0.mk E
    clear E HK
    rw [show ((7 : Nat) : Int) = 7 from rfl]
    go_wp2
    simp only [HGK.out]
    rw [HE.out, HSUM.out]
    refine ⟨⟨8, by omega, rfl, ?_, ?_⟩, by simp [intOf]⟩
    ·rw [HN.out]; rfl
    ·rw [← HS.out]
     exact ⟨H.out.set 7 _⟩
   ·subst h
    have E : bits .and .u64 (bits .or .u64 ((c : Int) / 4096) (IntKind.u64.wrap ((d : Int) * 16384))) 255 = (X : Int) := by
     have := bitx c d 4096 16384 14 rfl rfl LL.out.2.2.1 LL.out.2.2.2.1
     skip
     rw [← HX.out, ← D8.out]
     exact this
    have HE := Aside0.mk E
    clear E HK
    rw [show ((8 : Nat) : Int) = 8 from rfl]
    go_wp2
    simp only [HGK.out]
    rw [HE.out, HSUM.out]
    refine ⟨⟨9, by omega, rfl, ?_, ?_⟩, by simp [intOf]⟩
    ·rw [HN.out]; rfl
    ·rw [← HS.out]
     exact ⟨H.out.set 8 _⟩
   ·subst h
    have E : bits .and .u64 (bits .or .u64 ((c : Int) / 1048576) (IntKind.u64.wrap ((d : Int) * 64))) 255 = (X : Int) := by
     have := bitx c d 1048576 64 6 rfl rfl LL.out.2.2.1 LL.out.2.2.2.1
     skip
     rw [← HX.out, ← D9.out]
     exact this
    have HE := Aside0.mk E
    clear E HK
    rw [show ((9 : Nat) : Int) = 9 from rfl]
    go_wp2
    simp only [HGK.out]
    rw [HE.out, HSUM.out]
    refine ⟨⟨10, by omega, rfl, ?_, ?_⟩, by simp [intOf]⟩
    ·rw [HN.out]; rfl
    ·rw [← HS.out]
     exact ⟨H.out.set 9 _⟩
   ·subst h
    have E : bits .and .u64 (bits .or .u64 ((d : Int) / 4) (IntKind.u64.wrap ((e : Int) * 16777216))) 255 = (X : Int) := by
     have := bitx d e 4 16777216 24 rfl rfl LL.out.2.2.2.1 LL.out.2.2.2.2
     skip
     rw [← HX.out, ← D10.out]
     exact this
    have HE := Aside0.mk E
    clear E HK
    rw [show ((10 : Nat) : Int) = 10 from rfl]
    go_wp2
    simp only [HGK.out]
    rw [HE.out, HSUM.out]
    refine ⟨⟨11, by omega, rfl, ?_, ?_⟩, by simp [intOf]⟩
    ·rw [HN.out]; rfl
    ·rw [← HS.out]
     exact ⟨H.out.set 10 _⟩
   ·subst h
    have E : bits .and .u64 (bits .or .u64 ((d : Int) / 1024) (IntKind.u64.wrap ((e : Int) * 65536))) 255 = (X : Int) := by
     have := bitx d e 1024 65536 16 rfl rfl LL.out.2.2.2.1 LL.out.2.2.2.2
     skip
     rw [← HX.out, ← D11.out]
     exact this
    have HE := Aside0.mk E
    clear E HK
    rw [show ((11 : Nat) : Int) = 11 from rfl]
    go_wp2
    simp only [HGK.out]
    rw [HE.out, HSUM.out]
    refine ⟨⟨12, by omega, rfl, ?_, ?_⟩, by simp [intOf]⟩
    ·rw [HN.out]; rfl
    ·rw [← HS.out]
     exact ⟨H.out.set 11 _⟩
   ·subst h
    have E : bits .and .u64 (bits .or .u64 ((d : Int) / 262144) (IntKind.u64.wrap ((e : Int) * 256))) 255 = (X : Int) := by
     have := bitx d e 262144 256 8 rfl rfl LL.out.2.2.2.1 LL.out.2.2.2.2
     skip
     rw [← HX.out, ← D12.out]
     exact this
    have HE := Aside0.mk E
    clear E HK
    rw [show ((12 : Nat) : Int) = 12 from rfl]
    go_wp2
    simp only [HGK.out]
    rw [HE.out, HSUM.out]
    refine ⟨⟨13, by omega, rfl, ?_, ?_⟩, by simp [intOf]⟩
    ·rw [HN.out]; rfl
    ·rw [← HS.out]
     exact ⟨H.out.set 12 _⟩
   ·subst h
    have E : bits .and .u64 (e : Int) 255 = (X : Int) := by
     have := bitl e 1 (by decide) LL.out.2.2.2.2
     rw [show ((1 : Nat) : Int) = 1 from rfl, Int.ediv_one] at this
     rw [← HX.out, ← D13.out]
     exact this
    have HE := Aside0.mk E
    clear E HK
    rw [show ((13 : Nat) : Int) = 13 from rfl]
    go_wp2
    simp only [HGK.out]
    rw [HE.out, HSUM.out]
    refine ⟨⟨14, by omega, rfl, ?_, ?_⟩, by simp [intOf]⟩
    ·rw [HN.out]; rfl
    ·rw [← HS.out]
     exact ⟨H.out.set 13 _⟩
   ·subst h
    have E : bits .and .u64 ((e : Int) / 256) 255 = (X : Int) := by
     have := bitl e 256 (by decide) LL.out.2.2.2.2
     skip
     rw [← HX.out, ← D14.out]
     exact this
    have HE := Aside0.mk E
    clear E HK
    rw [show ((14 : Nat) : Int) = 14 from rfl]
    go_wp2
    simp only [HGK.out]
    rw [HE.out, HSUM.out]
    refine ⟨⟨15, by omega, rfl, ?_, ?_⟩, by simp [intOf]⟩
    ·rw [HN.out]; rfl
    ·rw [← HS.out]
     exact ⟨H.out.set 14 _⟩
   ·subst h
    have E : bits .and .u64 ((e : Int) / 65536) 255 = (X : Int) := by
     have := bitl e 65536 (by decide) LL.out.2.2.2.2
     skip
     rw [← HX.out, ← D15.out]
     exact this
    have HE := Aside0.mk E
    clear E HK
    rw [show ((15 : Nat) : Int) = 15 from rfl]
    go_wp2
    simp only [HGK.out]
    rw [HE.out, HSUM.out]
    refine ⟨⟨16, by omega, rfl, ?_, ?_⟩, by simp [intOf]⟩
    ·rw [HN.out]; rfl
    ·rw [← HS.out]
     exact ⟨H.out.set 15 _⟩
  ·obtain rfl : k = 16 := by omega
   clear hlt hk
   rw [show ((16 : Nat) : Int) = 16 from rfl]
   have HOl := Aside0.mk (outT_length V (bys s) 16)
   generalize hO : outT V (bys s) 16 = O at *
   have HO := Aside0.mk hO
   clear hO
   have hcv := conv_u8s wr 68 9 5 220 (w.heap.size + 1) O 16 Tryz.underlying68 Tryz.underlying5 Tryz.underlying9 H.out.out HOl.out 16
   go_wp2
   go_ret
   exact ⟨by first | (rw [HO.out]; done) | (rw [HO.out]; rfl), H.out.below⟩
end Go.Proofs.YtbkbganflnemeaaGreat.Pr
end

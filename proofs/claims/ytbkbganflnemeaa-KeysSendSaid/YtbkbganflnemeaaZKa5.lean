/- Joined texts (pack.py): what the statement's proof needs, part a5. No condition. -/
import Derived.Below
import Derived.Deep.Draws
import Derived.Deep.AppendLies
import Derived.Maps.AppendAt
import Derived.OwnWalk
import Derived.Laws.BytesArg
import Derived.Laws.MakeOwn
import Derived.Laws.OwnMore
import Derived.Deep.OwnRows
import Derived.Tactics
import Derived.Lib.ConvBytes
import Derived.Laws.Slices
import Derived.WalkKit
import Derived.KernelRfl
import Derived.RowKit3
import Derived.Deep.LoopGhost
import Derived.Deep.QuietTactic
import Derived.BigQuiet
import Derived.WideLaws
import Derived.Deep.DeepCutAuto
import Derived.Deep.CutBlock
import Derived.Deep.RegionHeld3
import Derived.Laws.Rows
import Derived.Lib.AppendStr
import Derived.ArgAppend
import Derived.Laws.IdiomCopy
import Derived.RowKit
import Derived.OrdersHeld
import Derived.Laws.BitsLemmas
import Derived.Laws.StructEq
import Derived.Test.YtbkbganflnemeaaProg
import Derived.Shelf.Strings.Builder1
import Derived.Shelf.Strings.Builder2
import Derived.Shelf.Strings.OnBuilder
import Derived.Shelf.Strings.BuilderF
import Derived.Shelf.Strings.Prefix
import Derived.Shelf.Bits.Mul64
import Derived.Shelf.Strings.Repeat
import Derived.Deep.RegionLaw
import Derived.StillTailTactics
import Derived.Deep.Light
import Derived.Deep.RegionHeldLaw
import Derived.Deep.DrawnRows
import Derived.IntWalk
import Derived.Deep.WholeRow
import Derived.Laws.CopyOwn
import Derived.Test.YtbkbganflnemeaaRows
import Derived.ProofKit
import Derived.OpenShut
import Derived.ShutString
import Derived.ChangeOld
import Derived.SizedLaws
import Derived.ChangeKeysEq
import Derived.Test.YtbkbganflnemeaaZKa1
import Derived.Test.YtbkbganflnemeaaZKa2
import Derived.Test.YtbkbganflnemeaaZKa3
import Derived.Test.YtbkbganflnemeaaZKa4
section
namespace Go.Proofs.Ytbkbganflnemeaa.Pr
open Go.RowKit Go.Proofs.YtbkbganflnemeaaW.PrintWords Go.Proofs.YtbkbganflnemeaaW.PrintLast Go.Proofs.YtbkbganflnemeaaW.PrintMore
attribute [local go_sem] max2_int min2_int max_two min_two max_three min_three max_four min_four   -- for this text's walks alone
set_option linter.unusedVariables false
set_option linter.unusedSimpArgs false
def samphireref03_Mac.f (k : Nat) (a0 : ByteArray) (a1 : ByteArray) : Option (ByteArray) := (samphireref03_turned.f k a0 92).bind fun t294 => ((samphireref03_turned.f k a0 54).bind fun t295 => (if t295.size + a1.size ≤ 9223372036854775807 then ((samphireref02_Sum.f (t295 ++ a1)).bind fun t296 => (if t294.size + t296.size ≤ 9223372036854775807 then ((samphireref02_Sum.f (t294 ++ t296)).bind fun t297 => (some t297)) else (none))) else (none)))
theorem samphireref03_Mac.mono : ∀ a0 a1 k, LeO (samphireref03_Mac.f k a0 a1) (samphireref03_Mac.f (k + 1) a0 a1) := by
  intro a0 a1 k
  unfold samphireref03_Mac.f
  repeat' first
      | (with_reducible exact samphireref03_turned.mono _ _ _)
      | (with_reducible exact LeO.refl _)
      | (with_reducible exact LeO.none _)
      | (with_reducible refine LeO.ite ?_ ?_)
      | (with_reducible refine LeO.bind ?_ (fun _ => ?_))
      | exact samphireref03_turned.mono _ _ _
      | exact LeO.none _
      | refine LeO.ite ?_ ?_
      | refine LeO.bind ?_ (fun _ => ?_)
set_option maxHeartbeats 8000000 in
set_option maxRecDepth 100000 in
theorem samphireref03_Mac.calls (k : Nat) (a0 : ByteArray) (a1 : ByteArray) (r : ByteArray) (w : World) (h : samphireref03_Mac.f k a0 a1 = some r) :
    Calls Try.prog 93 #[.string a0, .string a1] w fun e w' => e = .returned (.string r) ∧ Below w.heap.size w w' := by
  have HB := Aside0.mk (Below.refl w.heap.size w)
  have H : ((samphireref03_turned.f k a0 92).bind fun t294 => ((samphireref03_turned.f k a0 54).bind fun t295 => (if t295.size + a1.size ≤ 9223372036854775807 then ((samphireref02_Sum.f (t295 ++ a1)).bind fun t296 => (if t294.size + t296.size ≤ 9223372036854775807 then ((samphireref02_Sum.f (t294 ++ t296)).bind fun t297 => (some t297)) else (none))) else (none)))) = some r := h
  clear h
  replace H := Option.bind_eq_some_iff.mp H
  obtain ⟨t294, A30, H⟩ := H
  replace H : ((samphireref03_turned.f k a0 54).bind fun t295 => (if t295.size + a1.size ≤ 9223372036854775807 then ((samphireref02_Sum.f (t295 ++ a1)).bind fun t296 => (if t294.size + t296.size ≤ 9223372036854775807 then ((samphireref02_Sum.f (t294 ++ t296)).bind fun t297 => (some t297)) else (none))) else (none))) = some r := H
  have A3 := Aside0.mk A30
  clear A30
  replace H := Option.bind_eq_some_iff.mp H
  obtain ⟨t295, A40, H⟩ := H
  replace H : (if t295.size + a1.size ≤ 9223372036854775807 then ((samphireref02_Sum.f (t295 ++ a1)).bind fun t296 => (if t294.size + t296.size ≤ 9223372036854775807 then ((samphireref02_Sum.f (t294 ++ t296)).bind fun t297 => (some t297)) else (none))) else (none)) = some r := H
  have A4 := Aside0.mk A40
  clear A40
  by_cases c5 : t295.size + a1.size ≤ 9223372036854775807
  · rw [if_pos c5] at H
    have c5b0 := eq_true c5
    have c5b1 : decide (t295.size + a1.size ≤ 9223372036854775807) = true := decide_eq_true c5
    try have c5b2 : (9223372036854775807 < t295.size + a1.size) = False := eq_false (Nat.not_lt.2 c5)
    replace H := Option.bind_eq_some_iff.mp H
    obtain ⟨t296, A60, H⟩ := H
    replace H : (if t294.size + t296.size ≤ 9223372036854775807 then ((samphireref02_Sum.f (t294 ++ t296)).bind fun t297 => (some t297)) else (none)) = some r := H
    have A6 := Aside0.mk A60
    clear A60
    by_cases c7 : t294.size + t296.size ≤ 9223372036854775807
    · rw [if_pos c7] at H
      have c7b0 := eq_true c7
      have c7b1 : decide (t294.size + t296.size ≤ 9223372036854775807) = true := decide_eq_true c7
      try have c7b2 : (9223372036854775807 < t294.size + t296.size) = False := eq_false (Nat.not_lt.2 c7)
      replace H := Option.bind_eq_some_iff.mp H
      obtain ⟨t297, A80, H⟩ := H
      replace H : (some t297) = some r := H
      have A8 := Aside0.mk A80
      clear A80
      obtain rfl := Option.some.inj H
      go_enter Try.func93, Try.ntmps93
      go_wp2_with (first | ((with_reducible refine gate_callee (f := 126) rfl ?_); refine goesL_ (some 6) rfl rfl Try.func126 (by kernel_rfl) rfl #[.string a0, .int .u8 92] rfl (by (try simp only [List.map_toArray, List.map_cons, List.map_nil]); first | done | rfl | (simp only [List.length_drop, List.length_take]; rfl)) ?_; (with_reducible refine (samphireref03_turned.calls k a0 92 t294 _ A3.out).mono ?_); rintro e w9 ⟨rfl, hb⟩; refine ⟨_, rfl, ?_⟩; have n0_ := Aside0.mk (below_step (by repeat (first | (with_reducible first | exact HB.out | apply below_alloc | apply pw_below_drewN | apply below_drew1) | exact HB.out)) hb); clear HB; have HB := n0_; clear n0_; (try clear hb); (try clear hb2); (try clear hk); (try clear hi)) | ((with_reducible refine gate_callee (f := 126) rfl ?_); refine goesL_ (some 8) rfl rfl Try.func126 (by kernel_rfl) rfl #[.string a0, .int .u8 54] rfl (by (try simp only [List.map_toArray, List.map_cons, List.map_nil]); first | done | rfl | (simp only [List.length_drop, List.length_take]; rfl)) ?_; (with_reducible refine (samphireref03_turned.calls k a0 54 t295 _ A4.out).mono ?_); rintro e w10 ⟨rfl, hb⟩; refine ⟨_, rfl, ?_⟩; have n0_ := Aside0.mk (below_step (by repeat (first | (with_reducible first | exact HB.out | apply below_alloc | apply pw_below_drewN | apply below_drew1) | exact HB.out)) hb); clear HB; have HB := n0_; clear n0_; (try clear hb); (try clear hb2); (try clear hk); (try clear hi)) | ((with_reducible refine gate_callee (f := 125) rfl ?_); refine goesL_ (some 11) rfl rfl Try.func125 (by kernel_rfl) rfl #[.string (t295 ++ a1)] rfl (by (try simp only [List.map_toArray, List.map_cons, List.map_nil]); first | done | rfl | (simp only [List.length_drop, List.length_take]; rfl)) ?_; (with_reducible refine (samphireref02_Sum.calls (t295 ++ a1) t296 _ A6.out).mono ?_); rintro e w11 ⟨rfl, hb⟩; refine ⟨_, rfl, ?_⟩; have n0_ := Aside0.mk (below_step (by repeat (first | (with_reducible first | exact HB.out | apply below_alloc | apply pw_below_drewN | apply below_drew1) | exact HB.out)) hb); clear HB; have HB := n0_; clear n0_; (try clear hb); (try clear hb2); (try clear hk); (try clear hi)) | ((with_reducible refine gate_callee (f := 125) rfl ?_); refine goesL_ (some 13) rfl rfl Try.func125 (by kernel_rfl) rfl #[.string (t294 ++ t296)] rfl (by (try simp only [List.map_toArray, List.map_cons, List.map_nil]); first | done | rfl | (simp only [List.length_drop, List.length_take]; rfl)) ?_; (with_reducible refine (samphireref02_Sum.calls (t294 ++ t296) t297 _ A8.out).mono ?_); rintro e w12 ⟨rfl, hb⟩; refine ⟨_, rfl, ?_⟩; have n0_ := Aside0.mk (below_step (by repeat (first | (with_reducible first | exact HB.out | apply below_alloc | apply pw_below_drewN | apply below_drew1) | exact HB.out)) hb); clear HB; have HB := n0_; clear n0_; (try clear hb); (try clear hb2); (try clear hk); (try clear hi)))
      go_ret
      exact ⟨by first | rfl | (simp [errW_none, errW_some] <;> rfl) | (simp [*, errW_none, errW_some] <;> rfl), by repeat (first | (with_reducible first | exact HB.out | apply below_alloc | apply pw_below_drewN | apply below_drew1) | exact HB.out)⟩
    · rw [if_neg c7] at H
      exact absurd H (by simp)
  · rw [if_neg c5] at H
    exact absurd H (by simp)
end Go.Proofs.Ytbkbganflnemeaa.Pr
end

section
namespace Go.Proofs.Ytbkbganflnemeaa.Pr
open Go.RowKit Go.Proofs.YtbkbganflnemeaaW.PrintWords Go.Proofs.YtbkbganflnemeaaW.PrintLast Go.Proofs.YtbkbganflnemeaaW.PrintMore
attribute [local go_sem] max2_int min2_int max_two min_two max_three min_three max_four min_four   -- for this text's walks alone
set_option linter.unusedVariables false
set_option linter.unusedSimpArgs false
def word_Same.l0 : Nat → ByteArray → ByteArray → Int → Int → Int → Option (Bool)
  | 0, _, _, _, _, _ => none
  | k + 1, x0, x1, x5, x13, x14 => if x14 < x13 then (if 0 ≤ x14 then (if x14 < (x0.size : Int) then (if x14 < (x1.size : Int) then (word_Same.l0 k x0 x1 (Go.bits .or .u8 x5 (Go.bits .xor .u8 (bt x0 x14) (bt x1 x14))) x13 (wrap64 (x14 + 1))) else (none)) else (none)) else (none)) else (some (x5 == 0))
def word_Same.f (k : Nat) (a0 : ByteArray) (a1 : ByteArray) : Option (Bool) := if (a0.size : Int) = (a1.size : Int) then (word_Same.l0 k a0 a1 0 (a0.size : Int) 0) else (some false)
theorem word_Same.mono_l : ∀ k, (∀ y0 y1 y2 y3 y4, LeO (word_Same.l0 k y0 y1 y2 y3 y4) (word_Same.l0 (k + 1) y0 y1 y2 y3 y4))
  | 0 => fun _ _ _ _ _ r h => by simp [word_Same.l0] at h
  | k + 1 => by
    have ih0 := word_Same.mono_l k
    · intro y0 y1 y2 y3 y4
      unfold word_Same.l0
      repeat' first
      | (with_reducible exact ih0 _ _ _ _ _)
      | (with_reducible exact LeO.refl _)
      | (with_reducible exact LeO.none _)
      | (with_reducible refine LeO.ite ?_ ?_)
      | (with_reducible refine LeO.bind ?_ (fun _ => ?_))
      | exact ih0 _ _ _ _ _
      | exact LeO.none _
      | refine LeO.ite ?_ ?_
      | refine LeO.bind ?_ (fun _ => ?_)
set_option maxHeartbeats 8000000 in
set_option maxRecDepth 100000 in
theorem word_Same.calls (k : Nat) (a0 : ByteArray) (a1 : ByteArray) (r : Bool) (w : World) (h : word_Same.f k a0 a1 = some r) :
    Calls Try.prog 97 #[.string a0, .string a1] w fun e w' => e = .returned (.bool r) ∧ Drawn0 w w' := by
  have H : (if (a0.size : Int) = (a1.size : Int) then (word_Same.l0 k a0 a1 0 (a0.size : Int) 0) else (some false)) = some r := h
  clear h
  by_cases c3 : (a0.size : Int) = (a1.size : Int)
  · rw [if_pos c3] at H
    have c3b0 : ((a0.size : Int) == (a1.size : Int)) = true := beq_iff_eq.mpr c3
    have c3b1 : ((a0.size : Int) != (a1.size : Int)) = false := bne_eq_false_iff_eq.mpr c3
    have c3b2 : (a0.size == a1.size) = true := by first | simpa using c3 | (simp at c3 ⊢; omega)
    clear c3
    have H' := Aside0.mk H
    clear H
    go_enter Try.func97, Try.ntmps97
    go_wp2
    repeat (go_quiet (fail); try go_wp2)
    go_loopg [5, 14] k (fun kq v5 v14 w' => ∃ (x5_1 : Int) (x14_1 : Int), v5 = .int .u8 x5_1 ∧ v14 = .int .i64 x14_1 ∧ Aside0 (word_Same.l0 kq a0 a1 x5_1 (a0.size : Int) x14_1 = some r) ∧ Aside0 (kq ≤ k) ∧ Drawn0 w w')
    case atStart => exact ⟨(0), (0), (by first | rfl | (simp; done) | (simp [*]; done)), (by first | rfl | (simp; done) | (simp [*]; done)), H', ⟨Nat.le_refl _⟩, by repeat (first | exact Drawn0.refl _ | apply Drawn0.step)⟩
    case round =>
      clear H'
      try clear p2
      try clear c3
      try clear c3b0
      try clear c3b1
      try clear c3b2
      obtain ⟨x5_1, x14_1, rfl, rfl, HA, HK1, ⟨m1, rfl⟩⟩ := hrel
      cases gk with
      | zero => exact absurd HA.out (by simp [word_Same.l0])
      | succ k1 =>
        have H := HA.out
        clear HA
        simp only [word_Same.l0] at H
        by_cases c4 : x14_1 < (a0.size : Int)
        · rw [if_pos c4] at H
          have c4b0 : decide (x14_1 < (a0.size : Int)) = true := decide_eq_true c4
          clear c4
          by_cases c5 : 0 ≤ x14_1
          · rw [if_pos c5] at H
            have c5b0 : decide (0 ≤ x14_1) = true := decide_eq_true c5
            clear c5
            by_cases c6 : x14_1 < (a0.size : Int)
            · rw [if_pos c6] at H
              have c6b0 : decide (x14_1 < (a0.size : Int)) = true := decide_eq_true c6
              clear c6
              by_cases c8 : x14_1 < (a1.size : Int)
              · rw [if_pos c8] at H
                have c8b0 : decide (x14_1 < (a1.size : Int)) = true := decide_eq_true c8
                clear c8
                have H' := Aside0.mk H
                clear H
                have p7 : 0 ≤ (x14_1 : Int) := of_decide_eq_true (by first | (with_reducible assumption) | assumption)
                have q7 : x14_1 < (a0.size : Int) := of_decide_eq_true (by first | (with_reducible assumption) | assumption)
                have hx7 := bt_at a0 x14_1
                replace p7 := eq_true p7
                replace q7 := eq_true q7
                have p9 : 0 ≤ (x14_1 : Int) := of_decide_eq_true (by first | (with_reducible assumption) | assumption)
                have q9 : x14_1 < (a1.size : Int) := of_decide_eq_true (by first | (with_reducible assumption) | assumption)
                have hx9 := bt_at a1 x14_1
                replace p9 := eq_true p9
                replace q9 := eq_true q9
                go_wp2
                repeat (go_quiet (fail); try go_wp2)
                go_roundg k1
                case measure => have := HK1.out; omega
                case rel => exact ⟨(Go.bits .or .u8 x5_1 (Go.bits .xor .u8 (bt a0 x14_1) (bt a1 x14_1))), (wrap64 (x14_1 + 1)), (by first | rfl | (simp; done) | (simp [*]; done)), (by first | rfl | (simp; done) | (simp [*]; done)), H', ⟨by have := HK1.out; omega⟩, by repeat (first | exact Drawn0.refl _ | apply Drawn0.step)⟩
              · rw [if_neg c8] at H
                exact absurd H (by simp)
            · rw [if_neg c6] at H
              exact absurd H (by simp)
          · rw [if_neg c5] at H
            exact absurd H (by simp)
        · rw [if_neg c4] at H
          have c4b0 : decide (x14_1 < (a0.size : Int)) = false := decide_eq_false c4
          clear c4
          obtain rfl := Option.some.inj H
          go_wp2
          repeat (go_quiet (fail); try go_wp2)
          go_ret
          exact ⟨by first | rfl | (simp; done) | (simp [*]; done), by repeat (first | exact Drawn0.refl _ | apply Drawn0.step)⟩
  · rw [if_neg c3] at H
    have c3b0 : ((a0.size : Int) == (a1.size : Int)) = false := beq_eq_false_iff_ne.mpr c3
    have c3b1 : ((a0.size : Int) != (a1.size : Int)) = true := bne_iff_ne.mpr c3
    have c3b2 : (a0.size == a1.size) = false := by first | simpa using c3 | (simp at c3 ⊢; omega)
    obtain rfl := Option.some.inj H
    go_enter Try.func97, Try.ntmps97
    go_wp2
    repeat (go_quiet (fail); try go_wp2)
    go_ret
    exact ⟨by first | rfl | (simp; done) | (simp [*]; done), by repeat (first | exact Drawn0.refl _ | apply Drawn0.step)⟩
end Go.Proofs.Ytbkbganflnemeaa.Pr
end

section
namespace Go.Proofs.Ytbkbganflnemeaa.Pr
open Go.RowKit Go.Deep Go.Proofs.YtbkbganflnemeaaW.PrintWords Go.Proofs.YtbkbganflnemeaaW.PrintLast Go.Proofs.YtbkbganflnemeaaW.PrintMore
set_option maxHeartbeats 1000000
set_option linter.unusedVariables false
set_option linter.unusedSimpArgs false
theorem same_loop (x y : ByteArray) (n : Nat) (hx : x.size = n) (hy : y.size = n) (hn : n ≤ 1000000000000) : ∀ (d i acc : Nat), i + d = n → acc < 256 → (acc = 0 ↔ (bys x).take i = (bys y).take i) →
    word_Same.l0 (d + 1) x y (acc : Int) (n : Int) (i : Int) = some (decide (bys x = bys y))
  | 0, i, acc, h, ha, hr => by
    rw [word_Same.l0, if_neg (by omega)]
    rw [List.take_of_length_le (by rw [bys_length]; omega), List.take_of_length_le (by rw [bys_length]; omega)] at hr
    congr 1
    by_cases hc : acc = 0
    · rw [decide_eq_true (hr.1 hc), hc]
      rfl
    · rw [decide_eq_false (fun h => hc (hr.2 h)), beq_eq_false_iff_ne]
      omega
  | d + 1, i, acc, h, ha, hr => by
    have hw : wrap64 ((i : Int) + 1) = ((i + 1 : Nat) : Int) := by rw [wrapN _ (by omega) (by omega)]; omega
    have hxi : i < (bys x).length := by rw [bys_length]; omega
    have hyi : i < (bys y).length := by rw [bys_length]; omega
    have hxor : (bys x).getD i 0 ^^^ (bys y).getD i 0 < 256 := Nat.xor_lt_two_pow (n := 8) (bys_lt x i) (bys_lt y i)
    rw [word_Same.l0, if_pos (by omega), if_pos (by omega), if_pos (by omega), if_pos (by omega), bt_nat _ _ (by omega), bt_nat _ _ (by omega), u8_xor_nat _ _ (bys_lt _ _) (bys_lt _ _), u8_or_nat _ _ ha hxor, hw]
    refine same_loop x y n hx hy hn d (i + 1) _ (by omega) (Nat.or_lt_two_pow (n := 8) ha hxor) ?_
    rw [or_zero, xor_zero, hr, List.take_succ_eq_append_getElem hxi, List.take_succ_eq_append_getElem hyi]
    have e1 : (bys x).getD i 0 = (bys x)[i] := by simp [hxi]
    have e2 : (bys y).getD i 0 = (bys y)[i] := by simp [hyi]
    rw [e1, e2]
    constructor
    · rintro ⟨h1, h2⟩
      rw [h1, h2]
    · intro h
      have := List.append_inj' h rfl
      exact ⟨this.1, by simpa using this.2⟩
theorem word_Same_f (x y : ByteArray) (hx : x.size ≤ 1000000000000) (k : Nat) (hk : x.size + 1 ≤ k) : word_Same.f k x y = some (decide (bys x = bys y)) := by
  unfold word_Same.f
  by_cases hc : x.size = y.size
  · rw [if_pos (by omega)]
    have h0 := same_loop x y x.size rfl hc.symm hx x.size 0 0 (by omega) (by decide) (by simp)
    have h1 : ∀ j, x.size + 1 ≤ j → word_Same.l0 j x y 0 (x.size : Int) 0 = some (decide (bys x = bys y)) := by
      intro j hj
      induction hj with
      | refl => exact h0
      | step _ ih => exact word_Same.mono_l _ _ _ _ _ _ _ ih
    exact h1 k hk
  · rw [if_neg (by omega), decide_eq_false]
    intro h
    apply hc
    rw [← bys_length, ← bys_length, h]
end Go.Proofs.Ytbkbganflnemeaa.Pr
end

section
namespace Go.Proofs.Ytbkbganflnemeaa.Pr
open Go.RowKit Go.Proofs.YtbkbganflnemeaaW.PrintWords Go.Proofs.YtbkbganflnemeaaW.PrintLast
set_option linter.unusedVariables false
set_option linter.unusedSimpArgs false
def macL (k s : List Nat) : List Nat := sumL ((key64 k).map (· ^^^ 92) ++ sumL ((key64 k).map (· ^^^ 54) ++ s))
def macT (k s : ByteArray) : ByteArray := txt (macL (bys k) (bys s))
theorem macT_size (k s : ByteArray) : (macT k s).size = 32 := by rw [macT, txt_size, macL, sumL_length]
theorem key64_lt (l : List Nat) (hl : ∀ x ∈ l, x < 256) : ∀ x ∈ key64 l, x < 256 := by
  intro x hx
  unfold key64 at hx
  rw [List.mem_append] at hx
  rcases hx with hx | hx
  · split at hx
    · exact sumL_lt _ x hx
    · exact hl x hx
  · rw [List.mem_replicate] at hx
    omega
theorem turn_lt (l : List Nat) (hl : ∀ x ∈ l, x < 256) (b : Nat) (hb : b < 256) : ∀ x ∈ (key64 l).map (· ^^^ b), x < 256 := by
  intro x hx
  rw [List.mem_map] at hx
  obtain ⟨y, hy, rfl⟩ := hx
  exact Nat.xor_lt_two_pow (n := 8) (key64_lt l hl y hy) hb
theorem hmac_turned_f (a : ByteArray) (h : a.size ≤ 1000000000000) (b : Nat) (hb : b < 256) : hmac_turned.f a (b : Int) = some (txt ((key64 (bys a)).map (· ^^^ b))) := by
  unfold hmac_turned.f
  rw [if_pos ⟨h, by omega, by omega⟩, Int.toNat_natCast]
theorem two_sums (k s T1 T2 : ByteArray) (h1 : T1 = txt ((key64 (bys k)).map (· ^^^ 92))) (h2 : T2 = txt ((key64 (bys k)).map (· ^^^ 54))) : sumT (T1 ++ sumT (T2 ++ s)) = macT k s := by
  subst h1
  subst h2
  unfold sumT macT macL
  rw [bys_append, bys_append, bys_txt (turn_lt _ (bys_lt' k) 92 (by decide)), bys_txt (turn_lt _ (bys_lt' k) 54 (by decide)), bys_txt (sumL_lt _)]
theorem turn_size (l : List Nat) (b : Nat) : (txt ((key64 l).map (· ^^^ b))).size = 64 := by rw [txt_size, List.length_map, key64_length]
theorem hmac_Mac_f (k s : ByteArray) (hk : k.size ≤ 100000000000) (hs : s.size ≤ 100000000000) : hmac_Mac.f k s = some (macT k s) := by
  unfold hmac_Mac.f
  rw [show (92 : Int) = ((92 : Nat) : Int) from rfl, show (54 : Int) = ((54 : Nat) : Int) from rfl, hmac_turned_f k (by omega) 92 (by decide), hmac_turned_f k (by omega) 54 (by decide), Option.bind_some, Option.bind_some]
  rw [if_pos (by rw [turn_size]; omega), sha_Sum_f _ (by rw [ByteArray.size_append, turn_size]; omega), Option.bind_some, if_pos (by rw [turn_size, sumT_size]; omega), sha_Sum_f _ (by rw [ByteArray.size_append, turn_size, sumT_size]; omega), Option.bind_some]
  rw [two_sums k s _ _ rfl rfl]
theorem key_at (x0 : ByteArray) (i : Nat) (hi : i < 64) (b : Nat) (hb : b < 256) (hx : x0.size ≤ 64) :
    (bys x0 ++ List.replicate (64 - x0.size) 0).getD i 0 = (if i < x0.size then (bys x0).getD i 0 else 0) := by
  split
  · rename_i h
    rw [List.getD_eq_getElem?_getD, List.getElem?_append_left (by rw [bys_length]; exact h), ← List.getD_eq_getElem?_getD]
  · rename_i h
    rw [List.getD_eq_getElem?_getD, List.getElem?_append_right (by rw [bys_length]; omega), List.getElem?_replicate]
    split <;> rfl
theorem take_one (L : List Nat) (i : Nat) (hi : i < L.length) (b : Nat) : (((L.map (· ^^^ b)).take (i + 1)).map fun (n : Nat) => (n : Int)) = (((L.map (· ^^^ b)).take i).map fun (n : Nat) => (n : Int)) ++ [((L.getD i 0 ^^^ b : Nat) : Int)] := by
  rw [List.take_succ_eq_append_getElem (by rw [List.length_map]; exact hi), List.map_append]
  simp [hi]
theorem ref_turned_loop (x0 : ByteArray) (hx : x0.size ≤ 64) (b : Nat) (hb : b < 256) (L : List Nat) (hL : bys x0 ++ List.replicate (64 - x0.size) 0 = L) (hl : L.length = 64) : ∀ (d i : Nat), i + d = 64 →
    samphireref03_turned.l0 (d + 1) x0 (b : Int) (((L.map (· ^^^ b)).take i).map fun (n : Nat) => (n : Int)) (i : Int) = some (txt (L.map (· ^^^ b)))
  | 0, i, h => by
    rw [samphireref03_turned.l0, if_neg (by omega), str_nats, List.take_of_length_le (by rw [List.length_map]; omega)]
  | d + 1, i, h => by
    have hlen : ((((L.map (· ^^^ b)).take i).map fun (n : Nat) => (n : Int))).length < 140737488355328 := by
      rw [List.length_map, List.length_take, List.length_map]
      omega
    have hw : wrap64 ((i : Int) + 1) = ((i + 1 : Nat) : Int) := by rw [wrapN _ (by omega) (by omega)]; omega
    have hk := key_at x0 i (by omega) b hb hx
    rw [hL] at hk
    have ih := ref_turned_loop x0 hx b hb L hL hl d (i + 1) (by omega)
    rw [take_one L i (by omega) b, hk] at ih
    rw [samphireref03_turned.l0, if_pos (by omega)]
    by_cases hc : i < x0.size
    · rw [if_pos (by omega), if_pos (by omega), if_pos hlen, bt_nat _ _ hc, u8_xor_nat _ _ (bys_lt _ _) hb, hw]
      rw [if_pos hc] at ih
      exact ih
    · rw [if_neg (by omega), if_pos hlen, hw, show (0 : Int) = ((0 : Nat) : Int) from rfl, u8_xor_nat _ _ (by decide) hb]
      rw [if_neg hc] at ih
      exact ih
theorem ref_turned_j (x0 : ByteArray) (hx : x0.size ≤ 64) (b : Nat) (hb : b < 256) : samphireref03_turned.j0 66 x0 (b : Int) = some (txt ((bys x0 ++ List.replicate (64 - x0.size) 0).map (· ^^^ b))) := by
  rw [samphireref03_turned.j0]
  have := ref_turned_loop x0 hx b hb _ rfl (by rw [List.length_append, bys_length, List.length_replicate]; omega) 64 0 rfl
  simpa using this
theorem ref_turned_66 (a : ByteArray) (h : a.size ≤ 1000000000000) (b : Nat) (hb : b < 256) : samphireref03_turned.f 66 a (b : Int) = some (txt ((key64 (bys a)).map (· ^^^ b))) := by
  unfold samphireref03_turned.f key64
  by_cases hc : 64 < a.size
  · rw [if_pos (by omega), ref_Sum_f _ h, Option.bind_some, ref_turned_j _ (by rw [sumT_size]; omega) b hb, if_pos (by rw [bys_length]; omega), bys_sumT, sumT_size, sumL_length]
  · rw [if_neg (by omega), ref_turned_j _ (by omega) b hb, if_neg (by rw [bys_length]; omega), bys_length]
theorem ref_turned_f (a : ByteArray) (h : a.size ≤ 1000000000000) (b : Nat) (hb : b < 256) (k : Nat) (hk : 66 ≤ k) : samphireref03_turned.f k a (b : Int) = some (txt ((key64 (bys a)).map (· ^^^ b))) := by
  induction hk with
  | refl => exact ref_turned_66 a h b hb
  | step _ ih => exact samphireref03_turned.mono _ _ _ _ ih
theorem ref_Mac_f (k s : ByteArray) (hk : k.size ≤ 100000000000) (hs : s.size ≤ 100000000000) (n : Nat) (hn : 66 ≤ n) : samphireref03_Mac.f n k s = some (macT k s) := by
  unfold samphireref03_Mac.f
  rw [show (92 : Int) = ((92 : Nat) : Int) from rfl, show (54 : Int) = ((54 : Nat) : Int) from rfl, ref_turned_f k (by omega) 92 (by decide) n hn, ref_turned_f k (by omega) 54 (by decide) n hn, Option.bind_some, Option.bind_some]
  rw [if_pos (by rw [turn_size]; omega), ref_Sum_f _ (by rw [ByteArray.size_append, turn_size]; omega), Option.bind_some, if_pos (by rw [turn_size, sumT_size]; omega), ref_Sum_f _ (by rw [ByteArray.size_append, turn_size, sumT_size]; omega), Option.bind_some]
  rw [two_sums k s _ _ rfl rfl]
end Go.Proofs.Ytbkbganflnemeaa.Pr
end

section
namespace Go.Proofs.Ytbkbganflnemeaa.Pr
open Go.RowKit Go.Deep Go.Proofs.YtbkbganflnemeaaW.PrintWords Go.Proofs.YtbkbganflnemeaaW.PrintLast Go.Proofs.YtbkbganflnemeaaW.PrintMore
set_option maxHeartbeats 2000000
set_option linter.unusedVariables false
set_option linter.unusedSimpArgs false
def partL (key purpose : List Nat) : Nat → List Nat
  | 0 => []
  | j + 1 => macL key (partL key purpose j ++ purpose ++ [(j + 1) % 256])
def expL (key purpose : List Nat) : Nat → List Nat
  | 0 => []
  | j + 1 => expL key purpose j ++ partL key purpose (j + 1)
def hkdf_Expand.f (a0 a1 : ByteArray) (a2 : Int) : Option (ByteArray × Int) :=
  if a2 < 0 ∨ 8160 < a2 then some (⟨#[]⟩, 1) else if a0.size ≤ 1000000000 ∧ a1.size ≤ 1000000000 then some (txt ((expL (bys a0) (bys a1) ((a2.toNat + 31) / 32)).take a2.toNat), 0) else none
theorem partL_length (k p : List Nat) (j : Nat) : (partL k p (j + 1)).length = 32 := sumL_length _
theorem partL_lt (k p : List Nat) : ∀ j, ∀ x ∈ partL k p j, x < 256
  | 0 => by intro x hx; simp [partL] at hx
  | j + 1 => sumL_lt _
theorem expL_length (k p : List Nat) : ∀ j, (expL k p j).length = 32 * j
  | 0 => rfl
  | j + 1 => by rw [expL, List.length_append, expL_length k p j, partL_length]; omega
theorem expL_cells (k p : List Nat) (j : Nat) : (Lib.byteCells (txt (expL k p j)).data.toList).length = 32 * j := by
  rw [← expL_length k p j]
  simp [Lib.byteCells, txt]
set_option maxRecDepth 100000 in
theorem expand (a0 a1 : ByteArray) (n : Nat) (hn : n ≤ 8160) (h0 : a0.size ≤ 1000000000) (h1 : a1.size ≤ 1000000000) (w : World) :
    Calls Try.prog 92 #[.string a0, .string a1, .int .i64 n] w fun e w' => e = .returned (.tuple #[.string (txt ((expL (bys a0) (bys a1) ((n + 31) / 32)).take n)), .int .i64 0]) ∧ Below w.heap.size w w' := by
  have c1 : decide ((n : Int) < 0) = false := decide_eq_false (by omega)
  have c2 : decide (8160 < (n : Int)) = false := decide_eq_false (by omega)
  go_enter Try.func92, Try.ntmps92
  go_wp2_with (fail)
  rw [show ((n : Int) + 32 - 1) / 32 = (((n + 31) / 32 : Nat) : Int) by omega]
  generalize hN : (n + 31) / 32 = N
  have hN1 : N ≤ 255 := by omega
  have hN2 : n ≤ 32 * N := by omega
  have HN := Aside0.mk hN
  clear hN
  have hm32 := Aside0.mk (macT_size)
  go_loopw [9, 21] (fun t i wr => ∃ (k : Nat) (τ : ByteArray), k ≤ N ∧ i = .int .i64 k ∧ t = .string τ ∧ τ.size ≤ 32 ∧ Aside0 (τ = txt (partL (bys a0) (bys a1) k)) ∧ Aside0 (Lib.IsBuilder 115 5 w.heap.size w.heap.size (Lib.byteCells (txt (expL (bys a0) (bys a1) k)).data.toList) wr) ∧ Aside0 (Below w.heap.size w wr)) (fun _ i _ => N - (intOf i).toNat)
  case atStart => exact ⟨0, ⟨#[]⟩, by omega, rfl, rfl, by decide, ⟨rfl⟩, ⟨Lib.fresh_isBuilder _ _ w⟩, ⟨below_alloc (Below.refl _ _) _⟩⟩
  case round =>
    obtain ⟨k, τ, hk, rfl, rfl, hτ, HT, HI, HB⟩ := hrel
    by_cases hlt : k < N
    · have k1 : τ.size + a1.size ≤ 9223372036854775807 := by omega
      have k3 : (9223372036854775807 < τ.size + a1.size) = False := eq_false (Nat.not_lt.2 k1)
      have hcv : (convert 68 9 (.slice (some ⟨wr.heap.size, 0, none⟩) 1 1)).run Try.prog (wr.alloc (.cells #[.int .u8 ((k : Int) + 1)] 5)) = .ok (.string (txt [k + 1])) (wr.alloc (.cells #[.int .u8 ((k : Int) + 1)] 5)) := by
        have := conv_u8s (wr.alloc (.cells (u8s [k + 1]) 5)) 68 9 5 5 wr.heap.size [k + 1] 1 Try.underlying68 Try.underlying5 Try.underlying9 (heap_alloc_last _ _) rfl 1
        simpa [u8s] using this
      generalize hV : txt [k + 1] = V at hcv
      have hVs : V.size ≤ 1 := by rw [← hV, txt_size]; exact Nat.le_refl _
      have HV := Aside0.mk hV
      have k5 : (τ ++ a1).size + V.size ≤ 9223372036854775807 := by rw [ByteArray.size_append]; omega
      have k6 : τ.size + a1.size + V.size ≤ 9223372036854775807 := by omega
      clear hV k3
      have hI1 : Aside0 (Lib.IsBuilder 115 5 w.heap.size w.heap.size (Lib.byteCells (txt (expL (bys a0) (bys a1) k)).data.toList) (wr.alloc (.cells #[.int .u8 ((k : Int) + 1)] 5))) := ⟨isBuilder_below HI.out (below_alloc (Below.refl _ _) _)⟩
      have hB1 : Aside0 (Below w.heap.size w (wr.alloc (.cells #[.int .u8 ((k : Int) + 1)] 5))) := ⟨below_alloc HB.out _⟩
      go_wp2_with (go_at_call 124; refine (hmac_Mac.calls a0 (τ ++ a1 ++ V) _ _ (hmac_Mac_f a0 (τ ++ a1 ++ V) (by omega) (by rw [ByteArray.size_append, ByteArray.size_append]; omega))).mono ?_; rintro e w3 ⟨rfl, hb3⟩; generalize hM : macT a0 (τ ++ a1 ++ V) = τ'; have hI3 : Aside0 (Lib.IsBuilder 115 5 w.heap.size w.heap.size (Lib.byteCells (txt (expL (bys a0) (bys a1) k)).data.toList) w3) := ⟨isBuilder_below hI1.out hb3⟩; have hB3 : Aside0 (Below w.heap.size w w3) := ⟨below_then hB1.out hB1.out.size hb3⟩; clear hb3; have HMM := Aside0.mk hM; clear hM)
      have hτ' : τ'.size = 32 := by rw [← HMM.out, macT_size]
      have hτ2 : τ'.size ≤ 32 := by omega
      have hbl := expL_cells (bys a0) (bys a1) k
      have HBL := Aside0.mk hbl
      have HTS := Aside0.mk hτ'
      clear hbl hτ'
      go_wp2_with (go_at_call 84; refine (Try.Builder_WriteString w.heap.size w.heap.size _ τ' _ hI3.out (by rw [HBL.out]; omega) hB3.out.size).mono ?_; rintro e w4 ⟨rfl, hI4, hb4⟩; have HI4 := Aside0.mk hI4; have HB4 := Aside0.mk hb4; clear hI4 hb4)
      go_wp2
      have hp : txt (partL (bys a0) (bys a1) (k + 1)) = τ' := by
        rw [← HMM.out, macT, bys_append, bys_append, ← HV.out, HT.out, bys_txt (partL_lt _ _ _), bys_txt (by intro x hx; rw [List.mem_singleton] at hx; omega), partL, Nat.mod_eq_of_lt (by omega)]
      refine ⟨⟨k + 1, τ', by omega, by go_num, rfl, hτ2, ⟨hp.symm⟩, ⟨?_⟩, ⟨hB3.out.trans HB4.out⟩⟩, by simp [intOf]; omega⟩
      have e : Lib.byteCells (txt (expL (bys a0) (bys a1) (k + 1))).data.toList = Lib.byteCells (txt (expL (bys a0) (bys a1) k)).data.toList ++ Lib.strCells τ' := by
        rw [← hp, expL]
        simp [txt, Lib.byteCells, Lib.strCells]
      rw [e]
      exact .inr HI4.out
    · obtain rfl : k = N := by omega
      clear hlt hk hτ
      have hbl := expL_length (bys a0) (bys a1) k
      have HX : Aside0 ((⟨(txt (expL (bys a0) (bys a1) k)).data.toList.toArray⟩ : ByteArray) = txt (expL (bys a0) (bys a1) k)) := ⟨by simp⟩
      have hYs : (txt (expL (bys a0) (bys a1) k)).size = 32 * k := by rw [txt_size, hbl]
      have i1 := eq_true (show (n : Int) ≤ ((txt (expL (bys a0) (bys a1) k)).size : Int) by omega)
      have i2 := eq_true (show 0 ≤ (n : Int) by omega)
      clear hYs hbl
      have HF : Aside0 ((txt (expL (bys a0) (bys a1) k)).extract 0 n = txt ((expL (bys a0) (bys a1) k).take n)) := ⟨by rw [txt_extract]; rfl⟩
      go_wp2_with (go_at_call 86; refine (Try.Builder_String_any w.heap.size w.heap.size _ _ HI.out HB.out.size).mono ?_; rw [HX.out]; rintro e w2 ⟨rfl, hb2⟩)
      go_ret2
      rw [HN.out, ← HF.out]
      exact ⟨rfl, HB.out.trans hb2⟩
set_option maxRecDepth 100000 in
theorem expand_no (a0 a1 : ByteArray) (a2 : Int) (h : a2 < 0 ∨ 8160 < a2) (w : World) :
    Calls Try.prog 92 #[.string a0, .string a1, .int .i64 a2] w fun e w' => e = .returned (.tuple #[.string ⟨#[]⟩, .int .i64 1]) ∧ Below w.heap.size w w' := by
  by_cases h0 : a2 < 0
  · have c1 : decide (a2 < 0) = true := decide_eq_true h0
    clear h
    go_enter Try.func92, Try.ntmps92
    go_wp2
    go_ret2
    exact ⟨rfl, Below.refl _ _⟩
  · have c1 : decide (a2 < 0) = false := decide_eq_false h0
    have c2 : decide (8160 < a2) = true := decide_eq_true (by omega)
    clear h
    go_enter Try.func92, Try.ntmps92
    go_wp2
    go_ret2
    exact ⟨rfl, Below.refl _ _⟩
theorem hkdf_Expand.calls (a0 a1 : ByteArray) (a2 : Int) (r1 : ByteArray) (r2 : Int) (w : World) (h : hkdf_Expand.f a0 a1 a2 = some (r1, r2)) :
    Calls Try.prog 92 #[.string a0, .string a1, .int .i64 a2] w fun e w' => e = .returned (.tuple #[.string r1, .int .i64 r2]) ∧ Below w.heap.size w w' := by
  unfold hkdf_Expand.f at h
  by_cases hc : a2 < 0 ∨ 8160 < a2
  · rw [if_pos hc] at h
    simp only [Option.some.injEq, Prod.mk.injEq] at h
    obtain ⟨rfl, rfl⟩ := h
    exact expand_no a0 a1 a2 hc w
  · rw [if_neg hc] at h
    by_cases hs : a0.size ≤ 1000000000 ∧ a1.size ≤ 1000000000
    · rw [if_pos hs] at h
      simp only [Option.some.injEq, Prod.mk.injEq] at h
      obtain ⟨rfl, rfl⟩ := h
      obtain ⟨n, rfl⟩ := Int.eq_ofNat_of_zero_le (show 0 ≤ a2 by omega)
      rw [Int.toNat_natCast]
      exact expand a0 a1 n (by omega) hs.1 hs.2 w
    · rw [if_neg hs] at h
      cases h
end Go.Proofs.Ytbkbganflnemeaa.Pr
end

section
namespace Go.Proofs.Ytbkbganflnemeaa.Pr
open Go.RowKit Go.Proofs.YtbkbganflnemeaaW.PrintWords Go.Proofs.YtbkbganflnemeaaW.PrintLast Go.Proofs.YtbkbganflnemeaaW.PrintMore
attribute [local go_sem] max2_int min2_int max_two min_two max_three min_three max_four min_four   -- for this text's walks alone
set_option linter.unusedVariables false
set_option linter.unusedSimpArgs false
def keys_of.j0 : Nat → ByteArray → List ByteArray → Bool → Option (ByteArray × Int)
  | 0, _, _, _ => none
  | k + 1, x0, x2, x14 => if x14 = true then (some ((⟨#[]⟩ : ByteArray), 1)) else ((keys_purpose.f x2).bind fun t229 => ((hkdf_Expand.f x0 t229 32).bind fun bt230 => (some (bt230.1, bt230.2))))
def keys_of.f (k : Nat) (a0 : ByteArray) (a1 : Bool) (l2 : List ByteArray) : Option (ByteArray × Int) := if a1 = true then (keys_of.j0 k a0 l2 ((a0.size : Int) != 32)) else (keys_of.j0 k a0 l2 true)
set_option maxHeartbeats 8000000 in
set_option maxRecDepth 100000 in
theorem keys_of.calls (k : Nat) (a0 : ByteArray) (a1 : Bool) (A2 : Option Addr) (c2 : Nat) (l2 : List ByteArray) (r1 : ByteArray) (r2 : Int) (w : World) (hr2 : Kd.C Kd.string w A2 l2.length l2) (hc2 : l2.length ≤ c2) (h : keys_of.f k a0 a1 l2 = some (r1, r2)) :
    Calls Try.prog 56 #[.string a0, .bool a1, .slice A2 l2.length c2] w fun e w' => e = .returned (.tuple #[.string r1, .int .i64 r2]) ∧ Below w.heap.size w w' := by
  have HR2 := Aside0.mk hr2
  have HC2 := Aside0.mk hc2
  clear hr2 hc2
  have HB := Aside0.mk (Below.refl w.heap.size w)
  have H : (if a1 = true then (keys_of.j0 k a0 l2 ((a0.size : Int) != 32)) else (keys_of.j0 k a0 l2 true)) = some (r1, r2) := h
  clear h
  have HC4 := Aside0.mk H
  clear H
  go_enter Try.func56, Try.ntmps56
  go_upto_region 1 with (fail)
  go_cut [14] (fun v14 wc => ∃ (kq : Nat) (x14_3 : Bool), v14 = .bool x14_3 ∧ Aside0 (keys_of.j0 kq a0 l2 x14_3 = some (r1, r2)) ∧ Aside0 (kq ≤ k) ∧ Aside0 (Below w.heap.size w wc))
  case first =>
    have H := HC4.out
    clear HC4
    by_cases c5 : a1 = true
    · subst c5
      have H1 : (keys_of.j0 k a0 l2 ((a0.size : Int) != 32)) = some (r1, r2) := by rw [if_pos rfl] at H; exact H
      clear H
      have H := H1
      clear H1
      have H' := Aside0.mk H
      clear H
      go_wp2
      go_meet
      case rel => exact ⟨_, (((a0.size : Int) != 32)), (by first | rfl | (simp; done) | (simp [*]; done)), H', ⟨by first | omega | exact Nat.le_refl _⟩, ⟨by repeat (first | (with_reducible first | exact HB.out | apply below_alloc | apply pw_below_drewN | apply below_drew1) | exact HB.out)⟩⟩
    · replace c5 := Bool.eq_false_iff.mpr c5
      subst c5
      have H1 : (keys_of.j0 k a0 l2 true) = some (r1, r2) := by rw [if_neg (show ¬ (false = true) by decide)] at H; exact H
      clear H
      have H := H1
      clear H1
      have H' := Aside0.mk H
      clear H
      go_wp2
      go_meet
      case rel => exact ⟨_, (true), (by first | rfl | (simp; done) | (simp [*]; done)), H', ⟨by first | omega | exact Nat.le_refl _⟩, ⟨by repeat (first | (with_reducible first | exact HB.out | apply below_alloc | apply pw_below_drewN | apply below_drew1) | exact HB.out)⟩⟩
  case rest =>
    clear HC4
    try clear c2
    try clear p2
    try clear c5
    obtain ⟨kq, x14_3, rfl, HA, HJ3, HB⟩ := hcut
    cases kq with
    | zero => exact absurd HA.out (by simp [keys_of.j0])
    | succ kj3 =>
      have H := HA.out
      clear HA
      simp only [keys_of.j0] at H
      by_cases c6 : x14_3 = true
      · subst c6
        have H1 : (some ((⟨#[]⟩ : ByteArray), 1)) = some (r1, r2) := by rw [if_pos rfl] at H; exact H
        clear H
        have H := H1
        clear H1
        simp only [Option.some.injEq, Prod.mk.injEq] at H
        obtain ⟨rfl, rfl⟩ := H
        go_wp2
        go_ret2
        exact ⟨by first | rfl | (simp [errW_none, errW_some] <;> rfl) | (simp [*, errW_none, errW_some] <;> rfl), by repeat (first | (with_reducible first | exact HB.out | apply below_alloc | apply pw_below_drewN | apply below_drew1) | exact HB.out)⟩
      · replace c6 := Bool.eq_false_iff.mpr c6
        subst c6
        have H1 : ((keys_purpose.f l2).bind fun t229 => ((hkdf_Expand.f a0 t229 32).bind fun bt230 => (some (bt230.1, bt230.2)))) = some (r1, r2) := by rw [if_neg (show ¬ (false = true) by decide)] at H; exact H
        clear H
        have H := H1
        clear H1
        replace H := Option.bind_eq_some_iff.mp H
        obtain ⟨t229, A70, H⟩ := H
        replace H : ((hkdf_Expand.f a0 t229 32).bind fun bt230 => (some (bt230.1, bt230.2))) = some (r1, r2) := H
        have A7 := Aside0.mk A70
        clear A70
        replace H := Option.bind_eq_some_iff.mp H
        obtain ⟨⟨t230, t231⟩, A80, H⟩ := H
        replace H : (some (t230, t231)) = some (r1, r2) := H
        have A8 := Aside0.mk A80
        clear A80
        simp only [Option.some.injEq, Prod.mk.injEq] at H
        obtain ⟨rfl, rfl⟩ := H
        go_wp2_with (first | ((with_reducible refine gate_callee (f := 49) rfl ?_); refine goesL_ (some 17) rfl rfl Try.func49 (by kernel_rfl) rfl #[.slice A2 l2.length c2] rfl (by (try simp only [List.map_toArray, List.map_cons, List.map_nil]); first | done | rfl | (simp only [List.length_drop, List.length_take]; rfl)) ?_; (with_reducible refine (keys_purpose.calls _ _ l2 t229 _ ?side1 ?side2 A7.out).mono ?_); (case side1 => repeat (first | exact (Kd.C_below HR2.out HB.out) | (with_reducible refine Kd.C_alloc ?_ _) | (with_reducible refine Kd.C_drewN ?_ _) | (with_reducible refine Kd.C_drew ?_))); (case side2 => exact HC2.out); rintro e w9 ⟨rfl, hb⟩; refine ⟨_, rfl, ?_⟩; have n0_ := Aside0.mk (below_step (by repeat (first | (with_reducible first | exact HB.out | apply below_alloc | apply pw_below_drewN | apply below_drew1) | exact HB.out)) hb); clear HB; have HB := n0_; clear n0_; (try clear hb); (try clear hb2); (try clear hk); (try clear hi)) | ((with_reducible refine gate_callee (f := 92) rfl ?_); refine goesL_ (some 18) rfl rfl Try.func92 (by kernel_rfl) rfl #[.string a0, .string t229, .int .i64 32] rfl (by (try simp only [List.map_toArray, List.map_cons, List.map_nil]); first | done | rfl | (simp only [List.length_drop, List.length_take]; rfl)) ?_; (with_reducible refine (hkdf_Expand.calls a0 t229 32 t230 t231 _ A8.out).mono ?_); rintro e w10 ⟨rfl, hb⟩; refine ⟨_, rfl, ?_⟩; have n0_ := Aside0.mk (below_step (by repeat (first | (with_reducible first | exact HB.out | apply below_alloc | apply pw_below_drewN | apply below_drew1) | exact HB.out)) hb); clear HB; have HB := n0_; clear n0_; (try clear hb); (try clear hb2); (try clear hk); (try clear hi)))
        go_ret2
        exact ⟨by first | rfl | (simp [errW_none, errW_some] <;> rfl) | (simp [*, errW_none, errW_some] <;> rfl), by repeat (first | (with_reducible first | exact HB.out | apply below_alloc | apply pw_below_drewN | apply below_drew1) | exact HB.out)⟩
end Go.Proofs.Ytbkbganflnemeaa.Pr
end

section
namespace Go.Proofs.Ytbkbganflnemeaa.Pr
open Go.RowKit Go.Proofs.YtbkbganflnemeaaW.PrintWords Go.Proofs.YtbkbganflnemeaaW.PrintLast Go.Proofs.YtbkbganflnemeaaW.PrintMore
attribute [local go_sem] max2_int min2_int max_two min_two max_three min_three max_four min_four   -- for this text's walks alone
set_option linter.unusedVariables false
set_option linter.unusedSimpArgs false
def keys_epoch.f (a0 : Int) : Option (Bool) := if a0 ≥ 1 then (some (decide (a0 ≤ 1099511627775))) else (some false)
set_option maxHeartbeats 8000000 in
set_option maxRecDepth 100000 in
theorem keys_epoch.calls (a0 : Int) (r : Bool) (w : World) (h : keys_epoch.f a0 = some r) :
    Calls Try.prog 58 #[.int .i64 a0] w fun e w' => e = .returned (.bool r) ∧ Drawn0 w w' := by
  have H : (if a0 ≥ 1 then (some (decide (a0 ≤ 1099511627775))) else (some false)) = some r := h
  clear h
  by_cases c2 : a0 ≥ 1
  · rw [if_pos c2] at H
    have c2b0 : decide (1 ≤ a0) = true := decide_eq_true c2
    clear c2
    obtain rfl := Option.some.inj H
    go_enter Try.func58, Try.ntmps58
    go_wp2
    go_ret
    exact ⟨by first | rfl | (simp; done) | (simp [*]; done), by repeat (first | exact Drawn0.refl _ | apply Drawn0.step)⟩
  · rw [if_neg c2] at H
    have c2b0 : decide (1 ≤ a0) = false := decide_eq_false c2
    clear c2
    obtain rfl := Option.some.inj H
    go_enter Try.func58, Try.ntmps58
    go_wp2
    go_ret
    exact ⟨by first | rfl | (simp; done) | (simp [*]; done), by repeat (first | exact Drawn0.refl _ | apply Drawn0.step)⟩
end Go.Proofs.Ytbkbganflnemeaa.Pr
end

section
namespace Go.Proofs.Ytbkbganflnemeaa.Pr
open Go.RowKit Go.Proofs.YtbkbganflnemeaaW.PrintWords Go.Proofs.YtbkbganflnemeaaW.PrintLast Go.Proofs.YtbkbganflnemeaaW.PrintMore
attribute [local go_sem] max2_int min2_int max_two min_two max_three min_three max_four min_four   -- for this text's walks alone
set_option linter.unusedVariables false
set_option linter.unusedSimpArgs false
def keys_Wrap.j0 : Nat → Int → Int → ByteArray → ByteArray → Int → Option (ByteArray × Int)
  | 0, _, _, _, _, _ => none
  | k + 1, x1, x2, x3, x10, x11 => if x11 = 0 then ((keys_Nonce.f k x1 x2).bind fun bt249 => ((aead_Seal.f x10 bt249.1 (⟨#[119, 114, 97, 112]⟩ : ByteArray) x3).bind fun bt251 => (some (bt251.1, bt251.2)))) else (some ((⟨#[]⟩ : ByteArray), x11))
def keys_Wrap.f (k : Nat) (a0 : ByteArray) (a1 : Int) (a2 : Int) (a3 : ByteArray) : Option (ByteArray × Int) := (keys_member.f a1).bind fun t232 => (if t232 = true then ((keys_epoch.f a2).bind fun t233 => (if t233 = true then ((keys_of.f k a0 ((a3.size : Int) == 32) (([(⟨#[119, 114, 97, 112]⟩ : ByteArray)] : List ByteArray))).bind fun bt237 => (keys_Wrap.j0 k a1 a2 a3 bt237.1 bt237.2)) else ((keys_of.f k a0 false (([(⟨#[119, 114, 97, 112]⟩ : ByteArray)] : List ByteArray))).bind fun bt242 => (keys_Wrap.j0 k a1 a2 a3 bt242.1 bt242.2)))) else ((keys_of.f k a0 false (([(⟨#[119, 114, 97, 112]⟩ : ByteArray)] : List ByteArray))).bind fun bt247 => (keys_Wrap.j0 k a1 a2 a3 bt247.1 bt247.2)))
set_option maxHeartbeats 8000000 in
set_option maxRecDepth 100000 in
theorem keys_Wrap.calls (k : Nat) (a0 : ByteArray) (a1 : Int) (a2 : Int) (a3 : ByteArray) (r1 : ByteArray) (r2 : Int) (w : World) (h : keys_Wrap.f k a0 a1 a2 a3 = some (r1, r2)) :
    Calls Try.prog 54 #[.string a0, .int .i64 a1, .int .i64 a2, .string a3] w fun e w' => e = .returned (.tuple #[.string r1, .int .i64 r2]) ∧ Below w.heap.size w w' := by
  have HB := Aside0.mk (Below.refl w.heap.size w)
  have H : ((keys_member.f a1).bind fun t232 => (if t232 = true then ((keys_epoch.f a2).bind fun t233 => (if t233 = true then ((keys_of.f k a0 ((a3.size : Int) == 32) (([(⟨#[119, 114, 97, 112]⟩ : ByteArray)] : List ByteArray))).bind fun bt237 => (keys_Wrap.j0 k a1 a2 a3 bt237.1 bt237.2)) else ((keys_of.f k a0 false (([(⟨#[119, 114, 97, 112]⟩ : ByteArray)] : List ByteArray))).bind fun bt242 => (keys_Wrap.j0 k a1 a2 a3 bt242.1 bt242.2)))) else ((keys_of.f k a0 false (([(⟨#[119, 114, 97, 112]⟩ : ByteArray)] : List ByteArray))).bind fun bt247 => (keys_Wrap.j0 k a1 a2 a3 bt247.1 bt247.2)))) = some (r1, r2) := h
  clear h
  have HC5 := Aside0.mk H
  clear H
  go_enter Try.func54, Try.ntmps54
  go_upto_region 1 with (fail)
  go_cut [10, 11] (fun v10 v11 wc => ∃ (kq : Nat) (x10_4 : ByteArray) (x11_4 : Int), v10 = .string x10_4 ∧ v11 = .int .i64 x11_4 ∧ Aside0 (keys_Wrap.j0 kq a1 a2 a3 x10_4 x11_4 = some (r1, r2)) ∧ Aside0 (kq ≤ k) ∧ Aside0 (Below w.heap.size w wc))
  case first =>
    have H := HC5.out
    clear HC5
    replace H := Option.bind_eq_some_iff.mp H
    obtain ⟨t232, A60, H⟩ := H
    replace H : (if t232 = true then ((keys_epoch.f a2).bind fun t233 => (if t233 = true then ((keys_of.f k a0 ((a3.size : Int) == 32) (([(⟨#[119, 114, 97, 112]⟩ : ByteArray)] : List ByteArray))).bind fun bt237 => (keys_Wrap.j0 k a1 a2 a3 bt237.1 bt237.2)) else ((keys_of.f k a0 false (([(⟨#[119, 114, 97, 112]⟩ : ByteArray)] : List ByteArray))).bind fun bt242 => (keys_Wrap.j0 k a1 a2 a3 bt242.1 bt242.2)))) else ((keys_of.f k a0 false (([(⟨#[119, 114, 97, 112]⟩ : ByteArray)] : List ByteArray))).bind fun bt247 => (keys_Wrap.j0 k a1 a2 a3 bt247.1 bt247.2))) = some (r1, r2) := H
    have A6 := Aside0.mk A60
    clear A60
    by_cases c7 : t232 = true
    · subst c7
      have H1 : ((keys_epoch.f a2).bind fun t233 => (if t233 = true then ((keys_of.f k a0 ((a3.size : Int) == 32) (([(⟨#[119, 114, 97, 112]⟩ : ByteArray)] : List ByteArray))).bind fun bt237 => (keys_Wrap.j0 k a1 a2 a3 bt237.1 bt237.2)) else ((keys_of.f k a0 false (([(⟨#[119, 114, 97, 112]⟩ : ByteArray)] : List ByteArray))).bind fun bt242 => (keys_Wrap.j0 k a1 a2 a3 bt242.1 bt242.2)))) = some (r1, r2) := by rw [if_pos rfl] at H; exact H
      clear H
      have H := H1
      clear H1
      replace H := Option.bind_eq_some_iff.mp H
      obtain ⟨t233, A80, H⟩ := H
      replace H : (if t233 = true then ((keys_of.f k a0 ((a3.size : Int) == 32) (([(⟨#[119, 114, 97, 112]⟩ : ByteArray)] : List ByteArray))).bind fun bt237 => (keys_Wrap.j0 k a1 a2 a3 bt237.1 bt237.2)) else ((keys_of.f k a0 false (([(⟨#[119, 114, 97, 112]⟩ : ByteArray)] : List ByteArray))).bind fun bt242 => (keys_Wrap.j0 k a1 a2 a3 bt242.1 bt242.2))) = some (r1, r2) := H
      have A8 := Aside0.mk A80
      clear A80
      by_cases c9 : t233 = true
      · subst c9
        have H1 : ((keys_of.f k a0 ((a3.size : Int) == 32) (([(⟨#[119, 114, 97, 112]⟩ : ByteArray)] : List ByteArray))).bind fun bt237 => (keys_Wrap.j0 k a1 a2 a3 bt237.1 bt237.2)) = some (r1, r2) := by rw [if_pos rfl] at H; exact H
        clear H
        have H := H1
        clear H1
        obtain ⟨y234, hy234⟩ : ∃ y_ : List ByteArray, y_ = (([(⟨#[119, 114, 97, 112]⟩ : ByteArray)] : List ByteArray)) := ⟨_, rfl⟩
        replace H : ((keys_of.f k a0 ((a3.size : Int) == 32) y234).bind fun bt237 => (keys_Wrap.j0 k a1 a2 a3 bt237.1 bt237.2)) = some (r1, r2) := by first | (rw [hy234]; with_reducible exact H) | (have H2_ := (Option.bind_some _ _).symm.trans H; rw [hy234]; with_reducible exact H2_) | (have H2_ := (Option.bind_some _ _).symm.trans H; with_reducible exact H2_) | with_reducible exact H | (rw [hy234]; exact H) | exact H
        have Ny234 := Aside0.mk hy234
        clear hy234
        replace H := Option.bind_eq_some_iff.mp H
        obtain ⟨⟨t237, t238⟩, A100, H⟩ := H
        replace H : (keys_Wrap.j0 k a1 a2 a3 t237 t238) = some (r1, r2) := H
        have A10 := Aside0.mk A100
        clear A100
        have H' := Aside0.mk H
        clear H
        go_wp2_with (first | ((with_reducible refine gate_callee (f := 48) rfl ?_); refine goesL_ (some 17) rfl rfl Try.func48 (by kernel_rfl) rfl #[.int .i64 a1] rfl (by (try simp only [List.map_toArray, List.map_cons, List.map_nil]); first | done | rfl | (simp only [List.length_drop, List.length_take]; rfl)) ?_; (with_reducible refine (keys_member.calls a1 true _ A6.out).mono ?_); rintro e w' ⟨rfl, ⟨nd, rfl⟩⟩; refine ⟨_, rfl, ?_⟩) | (go_at_call 58; (with_reducible refine (keys_epoch.calls a2 true _ A8.out).mono ?_); rintro e w' ⟨rfl, ⟨nd, rfl⟩⟩) | ((with_reducible refine gate_dst (N := 27) rfl ?_); (try (refine gate_guard (by rfl) ?_; dsimp only)); refine Kd.R_lit Kd.string _ 9 ?hg (N := 27) ?hd (xs := ([(⟨#[119, 114, 97, 112]⟩ : ByteArray)] : List ByteArray)) (inner := [.string (⟨#[119, 114, 97, 112]⟩ : ByteArray)]) (ok := fun _ => True) (okp := fun _ => True) ?hr ?hp (fun _ hk => hk) trivial (Below.refl _ _) (Nat.le_refl _) (by simp) ?_; (case hd => rfl); (case hg => rfl); (case hr => first | (go_simp; done) | (go_simp; rfl)); (case hp => exact (Reps.one (show Kd.M Kd.string _ _ _ (⟨#[119, 114, 97, 112]⟩ : ByteArray) [.string (⟨#[119, 114, 97, 112]⟩ : ByteArray)] from rfl) (Reps.none _ _))); intro v235 w11 ho12 hb hg_ hnew_; clear hg_ hnew_; (first | rw [← Ny234.out] at ho12 | (simp only [Int.reduceToNat] at ho12; rw [← Ny234.out] at ho12)); have n0_ := Aside0.mk (Kd.R_lower ho12 (below_size (by repeat (first | (with_reducible first | exact HB.out | apply below_alloc | apply pw_below_drewN | apply below_drew1) | exact HB.out)))); have n1_ := Aside0.mk (below_step (by repeat (first | (with_reducible first | exact HB.out | apply below_alloc | apply pw_below_drewN | apply below_drew1) | exact HB.out)) hb); clear HB; have HO236 := n0_; have HB := n1_; clear n0_ n1_; clear hb ho12; obtain ⟨Ao13, co13, eo13⟩ := Kd.R_slice HO236.out; subst eo13) | ((with_reducible refine gate_callee (f := 56) rfl ?_); refine goesL_ (some 28) rfl rfl Try.func56 (by kernel_rfl) rfl #[.string a0, .bool ((a3.size : Int) == 32), .slice Ao13 y234.length co13] rfl (by (try simp only [List.map_toArray, List.map_cons, List.map_nil]); first | done | rfl | (simp only [List.length_drop, List.length_take]; rfl)) ?_; (with_reducible refine (keys_of.calls k a0 ((a3.size : Int) == 32) _ _ y234 t237 t238 _ ?side1 ?side2 A10.out).mono ?_); (case side1 => repeat (first | exact (Kd.R_reads' HO236.out).2.2 | (with_reducible refine Kd.C_alloc ?_ _) | (with_reducible refine Kd.C_drewN ?_ _) | (with_reducible refine Kd.C_drew ?_))); (case side2 => exact (Kd.R_reads' HO236.out).2.1); rintro e w14 ⟨rfl, hb⟩; refine ⟨_, rfl, ?_⟩; have n0_ := Aside0.mk (Kd.R_below (by (with_reducible repeat (first | apply Kd.R_alloc | apply Kd.R_drewN | apply Kd.R_drew)); exact HO236.out) hb); have n1_ := Aside0.mk (below_step (by repeat (first | (with_reducible first | exact HB.out | apply below_alloc | apply pw_below_drewN | apply below_drew1) | exact HB.out)) hb); clear HO236; clear HB; have HO236 := n0_; have HB := n1_; clear n0_ n1_; (try clear hb); (try clear hb2); (try clear hk); (try clear hi)))
        go_meet
        case rel => exact ⟨_, (t237), (t238), (by first | rfl | (simp; done) | (simp [*]; done)), (by first | rfl | (simp; done) | (simp [*]; done)), H', ⟨by first | omega | exact Nat.le_refl _⟩, ⟨by repeat (first | (with_reducible first | exact HB.out | apply below_alloc | apply pw_below_drewN | apply below_drew1) | exact HB.out)⟩⟩
      · replace c9 := Bool.eq_false_iff.mpr c9
        subst c9
        have H1 : ((keys_of.f k a0 false (([(⟨#[119, 114, 97, 112]⟩ : ByteArray)] : List ByteArray))).bind fun bt242 => (keys_Wrap.j0 k a1 a2 a3 bt242.1 bt242.2)) = some (r1, r2) := by rw [if_neg (show ¬ (false = true) by decide)] at H; exact H
        clear H
        have H := H1
        clear H1
        obtain ⟨y239, hy239⟩ : ∃ y_ : List ByteArray, y_ = (([(⟨#[119, 114, 97, 112]⟩ : ByteArray)] : List ByteArray)) := ⟨_, rfl⟩
        replace H : ((keys_of.f k a0 false y239).bind fun bt242 => (keys_Wrap.j0 k a1 a2 a3 bt242.1 bt242.2)) = some (r1, r2) := by first | (rw [hy239]; with_reducible exact H) | (have H2_ := (Option.bind_some _ _).symm.trans H; rw [hy239]; with_reducible exact H2_) | (have H2_ := (Option.bind_some _ _).symm.trans H; with_reducible exact H2_) | with_reducible exact H | (rw [hy239]; exact H) | exact H
        have Ny239 := Aside0.mk hy239
        clear hy239
        replace H := Option.bind_eq_some_iff.mp H
        obtain ⟨⟨t242, t243⟩, A150, H⟩ := H
        replace H : (keys_Wrap.j0 k a1 a2 a3 t242 t243) = some (r1, r2) := H
        have A15 := Aside0.mk A150
        clear A150
        have H' := Aside0.mk H
        clear H
        go_wp2_with (first | ((with_reducible refine gate_callee (f := 48) rfl ?_); refine goesL_ (some 17) rfl rfl Try.func48 (by kernel_rfl) rfl #[.int .i64 a1] rfl (by (try simp only [List.map_toArray, List.map_cons, List.map_nil]); first | done | rfl | (simp only [List.length_drop, List.length_take]; rfl)) ?_; (with_reducible refine (keys_member.calls a1 true _ A6.out).mono ?_); rintro e w' ⟨rfl, ⟨nd, rfl⟩⟩; refine ⟨_, rfl, ?_⟩) | (go_at_call 58; (with_reducible refine (keys_epoch.calls a2 false _ A8.out).mono ?_); rintro e w' ⟨rfl, ⟨nd, rfl⟩⟩) | ((with_reducible refine gate_dst (N := 27) rfl ?_); (try (refine gate_guard (by rfl) ?_; dsimp only)); refine Kd.R_lit Kd.string _ 9 ?hg (N := 27) ?hd (xs := ([(⟨#[119, 114, 97, 112]⟩ : ByteArray)] : List ByteArray)) (inner := [.string (⟨#[119, 114, 97, 112]⟩ : ByteArray)]) (ok := fun _ => True) (okp := fun _ => True) ?hr ?hp (fun _ hk => hk) trivial (Below.refl _ _) (Nat.le_refl _) (by simp) ?_; (case hd => rfl); (case hg => rfl); (case hr => first | (go_simp; done) | (go_simp; rfl)); (case hp => exact (Reps.one (show Kd.M Kd.string _ _ _ (⟨#[119, 114, 97, 112]⟩ : ByteArray) [.string (⟨#[119, 114, 97, 112]⟩ : ByteArray)] from rfl) (Reps.none _ _))); intro v240 w16 ho17 hb hg_ hnew_; clear hg_ hnew_; (first | rw [← Ny239.out] at ho17 | (simp only [Int.reduceToNat] at ho17; rw [← Ny239.out] at ho17)); have n0_ := Aside0.mk (Kd.R_lower ho17 (below_size (by repeat (first | (with_reducible first | exact HB.out | apply below_alloc | apply pw_below_drewN | apply below_drew1) | exact HB.out)))); have n1_ := Aside0.mk (below_step (by repeat (first | (with_reducible first | exact HB.out | apply below_alloc | apply pw_below_drewN | apply below_drew1) | exact HB.out)) hb); clear HB; have HO241 := n0_; have HB := n1_; clear n0_ n1_; clear hb ho17; obtain ⟨Ao18, co18, eo18⟩ := Kd.R_slice HO241.out; subst eo18) | ((with_reducible refine gate_callee (f := 56) rfl ?_); refine goesL_ (some 28) rfl rfl Try.func56 (by kernel_rfl) rfl #[.string a0, .bool false, .slice Ao18 y239.length co18] rfl (by (try simp only [List.map_toArray, List.map_cons, List.map_nil]); first | done | rfl | (simp only [List.length_drop, List.length_take]; rfl)) ?_; (with_reducible refine (keys_of.calls k a0 false _ _ y239 t242 t243 _ ?side1 ?side2 A15.out).mono ?_); (case side1 => repeat (first | exact (Kd.R_reads' HO241.out).2.2 | (with_reducible refine Kd.C_alloc ?_ _) | (with_reducible refine Kd.C_drewN ?_ _) | (with_reducible refine Kd.C_drew ?_))); (case side2 => exact (Kd.R_reads' HO241.out).2.1); rintro e w19 ⟨rfl, hb⟩; refine ⟨_, rfl, ?_⟩; have n0_ := Aside0.mk (Kd.R_below (by (with_reducible repeat (first | apply Kd.R_alloc | apply Kd.R_drewN | apply Kd.R_drew)); exact HO241.out) hb); have n1_ := Aside0.mk (below_step (by repeat (first | (with_reducible first | exact HB.out | apply below_alloc | apply pw_below_drewN | apply below_drew1) | exact HB.out)) hb); clear HO241; clear HB; have HO241 := n0_; have HB := n1_; clear n0_ n1_; (try clear hb); (try clear hb2); (try clear hk); (try clear hi)))
        go_meet
        case rel => exact ⟨_, (t242), (t243), (by first | rfl | (simp; done) | (simp [*]; done)), (by first | rfl | (simp; done) | (simp [*]; done)), H', ⟨by first | omega | exact Nat.le_refl _⟩, ⟨by repeat (first | (with_reducible first | exact HB.out | apply below_alloc | apply pw_below_drewN | apply below_drew1) | exact HB.out)⟩⟩
    · replace c7 := Bool.eq_false_iff.mpr c7
      subst c7
      have H1 : ((keys_of.f k a0 false (([(⟨#[119, 114, 97, 112]⟩ : ByteArray)] : List ByteArray))).bind fun bt247 => (keys_Wrap.j0 k a1 a2 a3 bt247.1 bt247.2)) = some (r1, r2) := by rw [if_neg (show ¬ (false = true) by decide)] at H; exact H
      clear H
      have H := H1
      clear H1
      obtain ⟨y244, hy244⟩ : ∃ y_ : List ByteArray, y_ = (([(⟨#[119, 114, 97, 112]⟩ : ByteArray)] : List ByteArray)) := ⟨_, rfl⟩
      replace H : ((keys_of.f k a0 false y244).bind fun bt247 => (keys_Wrap.j0 k a1 a2 a3 bt247.1 bt247.2)) = some (r1, r2) := by first | (rw [hy244]; with_reducible exact H) | (have H2_ := (Option.bind_some _ _).symm.trans H; rw [hy244]; with_reducible exact H2_) | (have H2_ := (Option.bind_some _ _).symm.trans H; with_reducible exact H2_) | with_reducible exact H | (rw [hy244]; exact H) | exact H
      have Ny244 := Aside0.mk hy244
      clear hy244
      replace H := Option.bind_eq_some_iff.mp H
      obtain ⟨⟨t247, t248⟩, A200, H⟩ := H
      replace H : (keys_Wrap.j0 k a1 a2 a3 t247 t248) = some (r1, r2) := H
      have A20 := Aside0.mk A200
      clear A200
      have H' := Aside0.mk H
      clear H
      go_wp2_with (first | ((with_reducible refine gate_callee (f := 48) rfl ?_); refine goesL_ (some 17) rfl rfl Try.func48 (by kernel_rfl) rfl #[.int .i64 a1] rfl (by (try simp only [List.map_toArray, List.map_cons, List.map_nil]); first | done | rfl | (simp only [List.length_drop, List.length_take]; rfl)) ?_; (with_reducible refine (keys_member.calls a1 false _ A6.out).mono ?_); rintro e w' ⟨rfl, ⟨nd, rfl⟩⟩; refine ⟨_, rfl, ?_⟩) | ((with_reducible refine gate_dst (N := 27) rfl ?_); (try (refine gate_guard (by rfl) ?_; dsimp only)); refine Kd.R_lit Kd.string _ 9 ?hg (N := 27) ?hd (xs := ([(⟨#[119, 114, 97, 112]⟩ : ByteArray)] : List ByteArray)) (inner := [.string (⟨#[119, 114, 97, 112]⟩ : ByteArray)]) (ok := fun _ => True) (okp := fun _ => True) ?hr ?hp (fun _ hk => hk) trivial (Below.refl _ _) (Nat.le_refl _) (by simp) ?_; (case hd => rfl); (case hg => rfl); (case hr => first | (go_simp; done) | (go_simp; rfl)); (case hp => exact (Reps.one (show Kd.M Kd.string _ _ _ (⟨#[119, 114, 97, 112]⟩ : ByteArray) [.string (⟨#[119, 114, 97, 112]⟩ : ByteArray)] from rfl) (Reps.none _ _))); intro v245 w21 ho22 hb hg_ hnew_; clear hg_ hnew_; (first | rw [← Ny244.out] at ho22 | (simp only [Int.reduceToNat] at ho22; rw [← Ny244.out] at ho22)); have n0_ := Aside0.mk (Kd.R_lower ho22 (below_size (by repeat (first | (with_reducible first | exact HB.out | apply below_alloc | apply pw_below_drewN | apply below_drew1) | exact HB.out)))); have n1_ := Aside0.mk (below_step (by repeat (first | (with_reducible first | exact HB.out | apply below_alloc | apply pw_below_drewN | apply below_drew1) | exact HB.out)) hb); clear HB; have HO246 := n0_; have HB := n1_; clear n0_ n1_; clear hb ho22; obtain ⟨Ao23, co23, eo23⟩ := Kd.R_slice HO246.out; subst eo23) | ((with_reducible refine gate_callee (f := 56) rfl ?_); refine goesL_ (some 28) rfl rfl Try.func56 (by kernel_rfl) rfl #[.string a0, .bool false, .slice Ao23 y244.length co23] rfl (by (try simp only [List.map_toArray, List.map_cons, List.map_nil]); first | done | rfl | (simp only [List.length_drop, List.length_take]; rfl)) ?_; (with_reducible refine (keys_of.calls k a0 false _ _ y244 t247 t248 _ ?side1 ?side2 A20.out).mono ?_); (case side1 => repeat (first | exact (Kd.R_reads' HO246.out).2.2 | (with_reducible refine Kd.C_alloc ?_ _) | (with_reducible refine Kd.C_drewN ?_ _) | (with_reducible refine Kd.C_drew ?_))); (case side2 => exact (Kd.R_reads' HO246.out).2.1); rintro e w24 ⟨rfl, hb⟩; refine ⟨_, rfl, ?_⟩; have n0_ := Aside0.mk (Kd.R_below (by (with_reducible repeat (first | apply Kd.R_alloc | apply Kd.R_drewN | apply Kd.R_drew)); exact HO246.out) hb); have n1_ := Aside0.mk (below_step (by repeat (first | (with_reducible first | exact HB.out | apply below_alloc | apply pw_below_drewN | apply below_drew1) | exact HB.out)) hb); clear HO246; clear HB; have HO246 := n0_; have HB := n1_; clear n0_ n1_; (try clear hb); (try clear hb2); (try clear hk); (try clear hi)))
      go_meet
      case rel => exact ⟨_, (t247), (t248), (by first | rfl | (simp; done) | (simp [*]; done)), (by first | rfl | (simp; done) | (simp [*]; done)), H', ⟨by first | omega | exact Nat.le_refl _⟩, ⟨by repeat (first | (with_reducible first | exact HB.out | apply below_alloc | apply pw_below_drewN | apply below_drew1) | exact HB.out)⟩⟩
  case rest =>
    clear HC5
    try clear p2
    try clear c4
    try clear c5
    try clear c7
    try clear c9
    obtain ⟨kq, x10_4, x11_4, rfl, rfl, HA, HJ4, HB⟩ := hcut
    cases kq with
    | zero => exact absurd HA.out (by simp [keys_Wrap.j0])
    | succ kj4 =>
      have H := HA.out
      clear HA
      simp only [keys_Wrap.j0] at H
      by_cases c25 : x11_4 = 0
      · rw [if_pos c25] at H
        have c25b0 : (x11_4 == 0) = true := beq_iff_eq.mpr c25
        have c25b1 : (x11_4 != 0) = false := bne_eq_false_iff_eq.mpr c25
        clear c25
        replace H := Option.bind_eq_some_iff.mp H
        obtain ⟨⟨t249, t250⟩, A260, H⟩ := H
        replace H : ((aead_Seal.f x10_4 t249 (⟨#[119, 114, 97, 112]⟩ : ByteArray) a3).bind fun bt251 => (some (bt251.1, bt251.2))) = some (r1, r2) := H
        have A26 := Aside0.mk A260
        clear A260
        replace H := Option.bind_eq_some_iff.mp H
        obtain ⟨⟨t251, t252⟩, A270, H⟩ := H
        replace H : (some (t251, t252)) = some (r1, r2) := H
        have A27 := Aside0.mk A270
        clear A270
        simp only [Option.some.injEq, Prod.mk.injEq] at H
        obtain ⟨rfl, rfl⟩ := H
        go_wp2_with (first | ((with_reducible refine gate_callee (f := 14) rfl ?_); refine goesL_ (some 37) rfl rfl Try.func14 (by kernel_rfl) rfl #[.int .i64 a1, .int .i64 a2] rfl (by (try simp only [List.map_toArray, List.map_cons, List.map_nil]); first | done | rfl | (simp only [List.length_drop, List.length_take]; rfl)) ?_; (with_reducible refine (keys_Nonce.calls kj4 a1 a2 t249 t250 _ A26.out).mono ?_); rintro e w28 ⟨rfl, hb⟩; refine ⟨_, rfl, ?_⟩; have n0_ := Aside0.mk (below_step (by repeat (first | (with_reducible first | exact HB.out | apply below_alloc | apply pw_below_drewN | apply below_drew1) | exact HB.out)) hb); clear HB; have HB := n0_; clear n0_; (try clear hb); (try clear hb2); (try clear hk); (try clear hi)) | ((with_reducible refine gate_callee (f := 29) rfl ?_); refine goesL_ (some 43) rfl rfl Try.func29 (by kernel_rfl) rfl #[.string x10_4, .string t249, .string (⟨#[119, 114, 97, 112]⟩ : ByteArray), .string a3] rfl (by (try simp only [List.map_toArray, List.map_cons, List.map_nil]); first | done | rfl | (simp only [List.length_drop, List.length_take]; rfl)) ?_; (with_reducible refine (aead_Seal.calls x10_4 t249 (⟨#[119, 114, 97, 112]⟩ : ByteArray) a3 t251 t252 _ A27.out).mono ?_); rintro e w29 ⟨rfl, hb⟩; refine ⟨_, rfl, ?_⟩; have n0_ := Aside0.mk (below_step (by repeat (first | (with_reducible first | exact HB.out | apply below_alloc | apply pw_below_drewN | apply below_drew1) | exact HB.out)) hb); clear HB; have HB := n0_; clear n0_; (try clear hb); (try clear hb2); (try clear hk); (try clear hi)))
        go_ret2
        exact ⟨by first | rfl | (simp [errW_none, errW_some] <;> rfl) | (simp [*, errW_none, errW_some] <;> rfl), by repeat (first | (with_reducible first | exact HB.out | apply below_alloc | apply pw_below_drewN | apply below_drew1) | exact HB.out)⟩
      · rw [if_neg c25] at H
        have c25b0 : (x11_4 == 0) = false := beq_eq_false_iff_ne.mpr c25
        have c25b1 : (x11_4 != 0) = true := bne_iff_ne.mpr c25
        simp only [Option.some.injEq, Prod.mk.injEq] at H
        obtain ⟨rfl, rfl⟩ := H
        go_wp2
        go_ret2
        exact ⟨by first | rfl | (simp [errW_none, errW_some] <;> rfl) | (simp [*, errW_none, errW_some] <;> rfl), by repeat (first | (with_reducible first | exact HB.out | apply below_alloc | apply pw_below_drewN | apply below_drew1) | exact HB.out)⟩
end Go.Proofs.Ytbkbganflnemeaa.Pr
end

section
namespace Go.Proofs.Ytbkbganflnemeaa.Pr
open Go.RowKit Go.Proofs.YtbkbganflnemeaaW.PrintWords Go.Proofs.YtbkbganflnemeaaW.PrintLast
set_option maxHeartbeats 1000000
set_option linter.unusedVariables false
set_option linter.unusedSimpArgs false
theorem strB_lt (a b : List Nat) (n i : Nat) : strB a b n i < 256 := by
  unfold strB
  have hl : i % 64 < (chaL a b (n + i / 64)).length := by rw [chaL_length]; exact Nat.mod_lt _ (by decide)
  rw [List.getD_eq_getElem?_getD, List.getElem?_eq_getElem hl]
  exact chaL_lt _ _ _ _ (List.getElem_mem hl)
theorem streamL_length (a b : List Nat) (n : Nat) (s : List Nat) : (streamL a b n s).length = s.length := xorAt_length _ _ _
theorem streamL_get (a b : List Nat) (n : Nat) (s : List Nat) (i : Nat) (hi : i < s.length) : (streamL a b n s)[i]? = some (s.getD i 0 ^^^ strB a b n i) := by
  unfold streamL xorAt
  simp [hi]
theorem streamL_lt (a b : List Nat) (n : Nat) (s : List Nat) (hs : ∀ x ∈ s, x < 256) : ∀ x ∈ streamL a b n s, x < 256 := by
  intro x hx
  obtain ⟨i, hi, rfl⟩ := List.getElem_of_mem hx
  have hi' : i < s.length := by rw [← streamL_length a b n s]; exact hi
  have h := streamL_get a b n s i hi'
  rw [List.getElem?_eq_getElem hi] at h
  rw [Option.some.inj h]
  have h1 : s.getD i 0 < 256 := by
    rw [List.getD_eq_getElem?_getD, List.getElem?_eq_getElem hi']
    exact hs _ (List.getElem_mem hi')
  exact Nat.xor_lt_two_pow (n := 8) h1 (strB_lt a b n i)
theorem streamL_twice (a b : List Nat) (n : Nat) (s : List Nat) : streamL a b n (streamL a b n s) = s := by
  apply List.ext_getElem?
  intro i
  by_cases hi : i < s.length
  · rw [streamL_get _ _ _ _ _ (by rw [streamL_length]; exact hi), List.getD_eq_getElem?_getD, streamL_get _ _ _ _ _ hi]
    simp only [Option.getD_some]
    rw [Nat.xor_assoc, Nat.xor_self, Nat.xor_zero, List.getD_eq_getElem?_getD, List.getElem?_eq_getElem hi]
    rfl
  · rw [List.getElem?_eq_none (by rw [streamL_length, streamL_length]; omega), List.getElem?_eq_none (by omega)]
theorem tagL_length (a b c d : List Nat) : (tagL a b c d).length = 16 := outT_length _ _ _
theorem tagL_lt (a b c d : List Nat) : ∀ x ∈ tagL a b c d, x < 256 := outT_lt _ _ _
def aeadOK (a0 a1 : ByteArray) (x y : Nat) : Prop := a0.size = 32 ∧ a1.size = 12 ∧ x ≤ 32768 ∧ y ≤ 32768 - x
instance (a0 a1 : ByteArray) (x y : Nat) : Decidable (aeadOK a0 a1 x y) := by unfold aeadOK; infer_instance
theorem aead_may_f (a0 a1 : ByteArray) (x y : Nat) (hx : x ≤ 1000000000000000) (hy : y ≤ 1000000000000000) : aead_may.f a0 a1 (x : Int) (y : Int) = some (decide (aeadOK a0 a1 x y)) := by
  unfold aead_may.f aeadOK
  by_cases h0 : a0.size = 32
  · rw [if_pos (by omega)]
    by_cases h1 : a1.size = 12
    · rw [if_pos (by omega)]
      by_cases h2 : x ≤ 32768
      · rw [if_pos (by omega)]
        congr 1
        have hw : wrap64 (32768 - (x : Int)) = 32768 - (x : Int) := by unfold wrap64; omega
        rw [hw]
        apply decide_eq_decide.2
        omega
      · rw [if_neg (by omega)]; congr 1; exact (decide_eq_false (by omega)).symm
    · rw [if_neg (by omega)]; congr 1; exact (decide_eq_false (by omega)).symm
  · rw [if_neg (by omega)]; congr 1; exact (decide_eq_false (by omega)).symm
def sealF (a0 a1 a2 a3 : ByteArray) : ByteArray × Int :=
  if aeadOK a0 a1 a2.size a3.size then (txt (streamL (bys a0) (bys a1) 1 (bys a3) ++ tagL (bys a0) (bys a1) (bys a2) (streamL (bys a0) (bys a1) 1 (bys a3))), 0) else (⟨#[]⟩, 1)
theorem stream_f (a0 a1 a3 : ByteArray) (h0 : a0.size = 32) (h1 : a1.size = 12) (h3 : a3.size ≤ 32768) : chacha_Stream.f a0 a1 1 a3 = some (txt (streamL (bys a0) (bys a1) 1 (bys a3)), 0) := by
  unfold chacha_Stream.f
  rw [if_pos (by omega), if_pos ⟨⟨h0, h1, by decide, by decide⟩, by omega, by omega⟩]
  rfl
def openF (a0 a1 a2 a3 : ByteArray) : ByteArray × Int :=
  if aeadOK a0 a1 a2.size (a3.size - 16) then
    (if a3.size < 16 then (⟨#[]⟩, 70) else if tagL (bys a0) (bys a1) (bys a2) ((bys a3).take (a3.size - 16)) = (bys a3).drop (a3.size - 16) then (txt (streamL (bys a0) (bys a1) 1 ((bys a3).take (a3.size - 16))), 0) else (⟨#[]⟩, 70))
  else (⟨#[]⟩, 1)
theorem open_seal (a0 a1 a2 a3 : ByteArray) (h : aeadOK a0 a1 a2.size a3.size) : openF a0 a1 a2 (sealF a0 a1 a2 a3).1 = (a3, 0) ∧ (sealF a0 a1 a2 a3).2 = 0 ∧ (sealF a0 a1 a2 a3).1.size = a3.size + 16 ∧ bys (sealF a0 a1 a2 a3).1 = streamL (bys a0) (bys a1) 1 (bys a3) ++ tagL (bys a0) (bys a1) (bys a2) (streamL (bys a0) (bys a1) 1 (bys a3)) := by
  have hsz : (sealF a0 a1 a2 a3).1.size = a3.size + 16 := by
    unfold sealF
    rw [if_pos h, txt_size, List.length_append, streamL_length, tagL_length, bys_length]
  have hb : bys (sealF a0 a1 a2 a3).1 = streamL (bys a0) (bys a1) 1 (bys a3) ++ tagL (bys a0) (bys a1) (bys a2) (streamL (bys a0) (bys a1) 1 (bys a3)) := by
    unfold sealF
    rw [if_pos h]
    refine bys_txt ?_
    intro x hx
    rw [List.mem_append] at hx
    rcases hx with hx | hx
    · exact streamL_lt _ _ _ _ (bys_lt' _) x hx
    · exact tagL_lt _ _ _ _ x hx
  refine ⟨?_, by unfold sealF; rw [if_pos h], hsz, hb⟩
  obtain ⟨k0, k1, k2, k3⟩ := h
  have hl : (streamL (bys a0) (bys a1) 1 (bys a3)).length = a3.size := by rw [streamL_length, bys_length]
  unfold openF
  rw [hsz, Nat.add_sub_cancel, if_pos ⟨k0, k1, k2, k3⟩, if_neg (by omega), hb, List.take_left' hl, List.drop_left' hl, if_pos rfl, streamL_twice, txt_bys]
end Go.Proofs.Ytbkbganflnemeaa.Pr
end

section
namespace Go.Proofs.Ytbkbganflnemeaa.Pr
open Go.RowKit Go.Deep Go.Proofs.YtbkbganflnemeaaW.PrintWords Go.Proofs.YtbkbganflnemeaaW.PrintLast Go.Proofs.YtbkbganflnemeaaW.PrintMore
set_option maxHeartbeats 2000000
set_option linter.unusedVariables false
set_option linter.unusedSimpArgs false
def aead_Open.f (a0 a1 a2 a3 : ByteArray) : Option (ByteArray × Int) :=
  if a2.size ≤ 1000000000000000 ∧ a3.size ≤ 1000000000000000 then some (openF a0 a1 a2 a3) else none
theorem aead_Open_f (a0 a1 a2 a3 : ByteArray) (h2 : a2.size ≤ 1000000000000000) (h3 : a3.size ≤ 1000000000000000) : aead_Open.f a0 a1 a2 a3 = some (openF a0 a1 a2 a3) := if_pos ⟨h2, h3⟩
set_option maxRecDepth 100000 in
theorem aead_Open.short (a0 a1 a2 a3 : ByteArray) (w : World) (h2 : a2.size ≤ 1000000000000000) (h3 : a3.size < 16) :
    Calls Try.prog 64 #[.string a0, .string a1, .string a2, .string a3] w fun e w' => e = .returned (.tuple #[.string (openF a0 a1 a2 a3).1, .int .i64 (openF a0 a1 a2 a3).2]) ∧ Below w.heap.size w w' := by
  have hm0 : a3.size - 16 = 0 := by omega
  have HMay := Aside0.mk (fun W => aead_may.calls a0 a1 (a2.size : Int) 0 _ W (aead_may_f a0 a1 a2.size 0 h2 (by omega)))
  have HO : Aside0 (openF a0 a1 a2 a3 = if aeadOK a0 a1 a2.size 0 then (⟨#[]⟩, 70) else (⟨#[]⟩, 1)) := ⟨by
    unfold openF
    rw [hm0, if_pos h3]⟩
  have hmx : max ((a3.size : Int) - 16) 0 = 0 := by omega
  have t1 : decide ((a3.size : Int) - 16 < 0) = true := decide_eq_true (by omega)
  rw [HO.out]
  clear h2 hm0
  by_cases hc : aeadOK a0 a1 a2.size 0
  · have hd : decide (aeadOK a0 a1 a2.size 0) = true := decide_eq_true hc
    rw [if_pos hc]
    have HD := Aside0.mk hd
    clear hc hd
    go_enter Try.func64, Try.ntmps64
    go_wp2_with (fail)
    refine (HMay.out _).mono ?_
    rw [HD.out]
    rintro e w1 ⟨rfl, ⟨n1, rfl⟩⟩
    go_upto_region 4 with (fail)
    refine start_ (n := 17) (S := fun w' => True) (ds := []) #[false, false, false, false, false, false, false, false, false, false, false, false, false, false, false, false, false] (by kernel_rfl) rfl rfl trivial (fun hHeld => ?_)
    refine pure_ (i := 0) (N := some 26) (v := ?_) (a' := ?_) #[true, false, false, false, false, false, false, false, false, false, false, false, false, false, false, false, false] rfl rfl (by kernel_rfl) (fun _ _ _ h => h) (Or.inl ⟨by rfl, ?_⟩) ?_ ?_
    rotate_left
    · intro w'
      go_simp
      with_reducible rfl
    rotate_left
    · simp only [Act.put, List.setIfInBounds_toArray, List.set_cons_zero, List.set_cons_succ, i64_w, i32_w]
      rfl
    refine pure_ (i := 1) (N := some 27) (v := ?_) (a' := ?_) #[true, true, false, false, false, false, false, false, false, false, false, false, false, false, false, false, false] rfl rfl (by kernel_rfl) (fun _ _ _ h => h) (Or.inl ⟨by rfl, ?_⟩) ?_ ?_
    rotate_left
    · intro w'
      go_simp
      with_reducible rfl
    rotate_left
    · simp only [Act.put, List.setIfInBounds_toArray, List.set_cons_zero, List.set_cons_succ, i64_w, i32_w]
      rfl
    refine pure_ (i := 2) (N := some 28) (v := ?_) (a' := ?_) #[true, true, true, false, false, false, false, false, false, false, false, false, false, false, false, false, false] rfl rfl (by kernel_rfl) (fun _ _ _ h => h) (Or.inl ⟨by rfl, ?_⟩) ?_ ?_
    rotate_left
    · intro w'
      go_simp
      with_reducible rfl
    rotate_left
    · simp only [Act.put, List.setIfInBounds_toArray, List.set_cons_zero, List.set_cons_succ, i64_w, i32_w]
      rfl
    refine pure_ (i := 3) (N := some 29) (v := undef) (a' := ?_) #[true, true, true, true, false, false, false, false, false, false, false, false, false, false, false, false, false] rfl rfl (by kernel_rfl) (fun _ _ _ h => h) (Or.inr ⟨by rfl, rfl⟩) ?_ ?_
    rotate_left
    · simp only [Act.put, List.setIfInBounds_toArray, List.set_cons_zero, List.set_cons_succ, i64_w, i32_w]
      rfl
    refine pure_ (i := 4) (N := some 30) (v := undef) (a' := ?_) #[true, true, true, true, true, false, false, false, false, false, false, false, false, false, false, false, false] rfl rfl (by kernel_rfl) (fun _ _ _ h => h) (Or.inr ⟨by rfl, rfl⟩) ?_ ?_
    rotate_left
    · simp only [Act.put, List.setIfInBounds_toArray, List.set_cons_zero, List.set_cons_succ, i64_w, i32_w]
      rfl
    refine pure_ (i := 5) (N := some 31) (v := undef) (a' := ?_) #[true, true, true, true, true, true, false, false, false, false, false, false, false, false, false, false, false] rfl rfl (by kernel_rfl) (fun _ _ _ h => h) (Or.inr ⟨by rfl, rfl⟩) ?_ ?_
    rotate_left
    · simp only [Act.put, List.setIfInBounds_toArray, List.set_cons_zero, List.set_cons_succ, i64_w, i32_w]
      rfl
    refine pure_ (i := 6) (N := some 32) (v := undef) (a' := ?_) #[true, true, true, true, true, true, true, false, false, false, false, false, false, false, false, false, false] rfl rfl (by kernel_rfl) (fun _ _ _ h => h) (Or.inr ⟨by rfl, rfl⟩) ?_ ?_
    rotate_left
    · simp only [Act.put, List.setIfInBounds_toArray, List.set_cons_zero, List.set_cons_succ, i64_w, i32_w]
      rfl
    refine pure_ (i := 7) (N := some 33) (v := undef) (a' := ?_) #[true, true, true, true, true, true, true, true, false, false, false, false, false, false, false, false, false] rfl rfl (by kernel_rfl) (fun _ _ _ h => h) (Or.inr ⟨by rfl, rfl⟩) ?_ ?_
    rotate_left
    · simp only [Act.put, List.setIfInBounds_toArray, List.set_cons_zero, List.set_cons_succ, i64_w, i32_w]
      rfl
    refine pure_ (i := 8) (N := some 34) (v := undef) (a' := ?_) #[true, true, true, true, true, true, true, true, true, false, false, false, false, false, false, false, false] rfl rfl (by kernel_rfl) (fun _ _ _ h => h) (Or.inr ⟨by rfl, rfl⟩) ?_ ?_
    rotate_left
    · simp only [Act.put, List.setIfInBounds_toArray, List.set_cons_zero, List.set_cons_succ, i64_w, i32_w]
      rfl
    refine pure_ (i := 9) (N := some 35) (v := undef) (a' := ?_) #[true, true, true, true, true, true, true, true, true, true, false, false, false, false, false, false, false] rfl rfl (by kernel_rfl) (fun _ _ _ h => h) (Or.inr ⟨by rfl, rfl⟩) ?_ ?_
    rotate_left
    · simp only [Act.put, List.setIfInBounds_toArray, List.set_cons_zero, List.set_cons_succ, i64_w, i32_w]
      rfl
    refine pure_ (i := 10) (N := some 36) (v := undef) (a' := ?_) #[true, true, true, true, true, true, true, true, true, true, true, false, false, false, false, false, false] rfl rfl (by kernel_rfl) (fun _ _ _ h => h) (Or.inr ⟨by rfl, rfl⟩) ?_ ?_
    rotate_left
    · simp only [Act.put, List.setIfInBounds_toArray, List.set_cons_zero, List.set_cons_succ, i64_w, i32_w]
      rfl
    refine pure_ (i := 11) (N := some 37) (v := undef) (a' := ?_) #[true, true, true, true, true, true, true, true, true, true, true, true, false, false, false, false, false] rfl rfl (by kernel_rfl) (fun _ _ _ h => h) (Or.inr ⟨by rfl, rfl⟩) ?_ ?_
    rotate_left
    · simp only [Act.put, List.setIfInBounds_toArray, List.set_cons_zero, List.set_cons_succ, i64_w, i32_w]
      rfl
    refine pure_ (i := 12) (N := some 38) (v := undef) (a' := ?_) #[true, true, true, true, true, true, true, true, true, true, true, true, true, false, false, false, false] rfl rfl (by kernel_rfl) (fun _ _ _ h => h) (Or.inr ⟨by rfl, rfl⟩) ?_ ?_
    rotate_left
    · simp only [Act.put, List.setIfInBounds_toArray, List.set_cons_zero, List.set_cons_succ, i64_w, i32_w]
      rfl
    refine pure_ (i := 13) (N := some 39) (v := undef) (a' := ?_) #[true, true, true, true, true, true, true, true, true, true, true, true, true, true, false, false, false] rfl rfl (by kernel_rfl) (fun _ _ _ h => h) (Or.inr ⟨by rfl, rfl⟩) ?_ ?_
    rotate_left
    · simp only [Act.put, List.setIfInBounds_toArray, List.set_cons_zero, List.set_cons_succ, i64_w, i32_w]
      rfl
    refine pure_ (i := 14) (N := some 40) (v := undef) (a' := ?_) #[true, true, true, true, true, true, true, true, true, true, true, true, true, true, true, false, false] rfl rfl (by kernel_rfl) (fun _ _ _ h => h) (Or.inr ⟨by rfl, rfl⟩) ?_ ?_
    rotate_left
    · simp only [Act.put, List.setIfInBounds_toArray, List.set_cons_zero, List.set_cons_succ, i64_w, i32_w]
      rfl
    refine pure_ (i := 15) (N := some 41) (v := ?_) (a' := ?_) #[true, true, true, true, true, true, true, true, true, true, true, true, true, true, true, true, false] rfl rfl (by kernel_rfl) (fun _ _ _ h => h) (Or.inl ⟨by rfl, ?_⟩) ?_ ?_
    rotate_left
    · intro w'
      go_simp
      with_reducible rfl
    rotate_left
    · simp only [Act.put, List.setIfInBounds_toArray, List.set_cons_zero, List.set_cons_succ, i64_w, i32_w]
      rfl
    refine pure_ (i := 16) (N := some 25) (v := ?_) (a' := ?_) #[true, true, true, true, true, true, true, true, true, true, true, true, true, true, true, true, true] rfl rfl (by kernel_rfl) (fun _ _ _ h => h) (Or.inl ⟨by rfl, ?_⟩) ?_ ?_
    rotate_left
    · intro w'
      go_simp
      with_reducible rfl
    rotate_left
    · simp only [Act.put, List.setIfInBounds_toArray, List.set_cons_zero, List.set_cons_succ, i64_w, i32_w]
      rfl
    refine done_ (by kernel_rfl) ?_
    go_wp2
    go_ret2
    exact ⟨rfl, below_drew (pw_below_drewN (Below.refl _ w) _)⟩
  · have hd : decide (aeadOK a0 a1 a2.size 0) = false := decide_eq_false hc
    rw [if_neg hc]
    have HD := Aside0.mk hd
    clear hc hd
    go_enter Try.func64, Try.ntmps64
    go_wp2_with (fail)
    refine (HMay.out _).mono ?_
    rw [HD.out]
    rintro e w1 ⟨rfl, ⟨n1, rfl⟩⟩
    go_wp2
    go_ret2
    exact ⟨rfl, pw_below_drewN (Below.refl _ w) _⟩
set_option maxRecDepth 100000 in
theorem aead_Open.long (a0 a1 a2 a3 : ByteArray) (q : Nat) (w : World) (h2 : a2.size ≤ 1000000000000000) (h3 : a3.size ≤ 1000000000000000) (hq : a3.size = q + 16) :
    Calls Try.prog 64 #[.string a0, .string a1, .string a2, .string a3] w fun e w' => e = .returned (.tuple #[.string (openF a0 a1 a2 a3).1, .int .i64 (openF a0 a1 a2 a3).2]) ∧ Below w.heap.size w w' := by
  have hm0 : a3.size - 16 = q := by omega
  have HMay := Aside0.mk (fun W => aead_may.calls a0 a1 (a2.size : Int) (q : Int) _ W (aead_may_f a0 a1 a2.size q h2 (by omega)))
  have hxs : (a3.extract 0 q).size = q := by rw [ByteArray.size_extract]; omega
  have hxb : bys (a3.extract 0 q) = (bys a3).take q := by rw [bys_extract]; rfl
  have hyb : bys (a3.extract q a3.size) = (bys a3).drop q := by
    rw [bys_extract, List.take_of_length_le (by rw [List.length_drop, bys_length]; omega)]
  have HO : Aside0 (openF a0 a1 a2 a3 = if aeadOK a0 a1 a2.size q then (if tagL (bys a0) (bys a1) (bys a2) ((bys a3).take q) = (bys a3).drop q then (txt (streamL (bys a0) (bys a1) 1 ((bys a3).take q)), 0) else (⟨#[]⟩, 70)) else (⟨#[]⟩, 1)) := ⟨by
    unfold openF
    rw [hm0, if_neg (show ¬ a3.size < 16 by omega)]⟩
  have hmx : max ((a3.size : Int) - 16) 0 = (q : Int) := by omega
  have hn : (a3.size : Int) - 16 = (q : Int) := by omega
  have HMX := Aside0.mk hmx
  have HN := Aside0.mk hn
  have t1 : decide ((q : Int) < 0) = false := decide_eq_false (by omega)
  rw [HO.out]
  have hmq : max (q : Int) 0 = (q : Int) := by omega
  have HQ := Aside0.mk hq
  have hq1 : (q : Int) ≤ (a3.size : Int) := by omega
  clear h2 hm0 hmx hn
  by_cases hc : aeadOK a0 a1 a2.size q
  · have hd : decide (aeadOK a0 a1 a2.size q) = true := decide_eq_true hc
    rw [if_pos hc]
    have HD := Aside0.mk hd
    obtain ⟨k0, k1, k2, k3⟩ := hc
    have htg := fun W => aead_tag.yes a0 a1 a2 (a3.extract 0 q) W k0 k1 (by rw [hxs]; omega)
    rw [hxb] at htg
    have hTs : (txt (tagL (bys a0) (bys a1) (bys a2) ((bys a3).take q))).size = 16 := by rw [txt_size, tagL_length]
    have hTb : bys (txt (tagL (bys a0) (bys a1) (bys a2) ((bys a3).take q))) = tagL (bys a0) (bys a1) (bys a2) ((bys a3).take q) := bys_txt (tagL_lt _ _ _ _)
    have hsm := fun W => word_Same.calls 17 (txt (tagL (bys a0) (bys a1) (bys a2) ((bys a3).take q))) (a3.extract q a3.size) _ W (word_Same_f _ _ (by rw [hTs]; decide) 17 (by rw [hTs]; decide))
    rw [hTb, hyb] at hsm
    have hst := fun W => chacha_Stream.yes a0 a1 (a3.extract 0 q) 1 W k0 k1 (by decide) (by rw [hxs]; omega) (by rw [hxs]; omega)
    rw [hxb] at hst
    have HST := Aside0.mk hst
    have HTG := Aside0.mk htg
    generalize txt (tagL (bys a0) (bys a1) (bys a2) ((bys a3).take q)) = T at HTG hsm hTs hTb
    clear hq
    by_cases ht : tagL (bys a0) (bys a1) (bys a2) ((bys a3).take q) = (bys a3).drop q
    · have hd2 : decide (tagL (bys a0) (bys a1) (bys a2) ((bys a3).take q) = (bys a3).drop q) = true := decide_eq_true ht
      rw [if_pos ht]
      simp only [hd2] at hsm
      have HSM := Aside0.mk hsm
      clear hd2 ht hsm htg hst hTs hTb hd hxs hxb hyb
      go_enter Try.func64, Try.ntmps64
      go_upto_region 2 with (fail)
      rw [HN.out]
      go_wp2_with (fail)
      refine (HMay.out _).mono ?_
      rw [HD.out]
      rintro e w1 ⟨rfl, ⟨n1, rfl⟩⟩
      go_upto_region 4 with (fail)
      refine start_ (n := 17) (S := fun w' => True) (ds := []) #[false, false, false, false, false, false, false, false, false, false, false, false, false, false, false, false, false] (by kernel_rfl) rfl rfl trivial (fun hHeld => ?_)
      refine pure_ (i := 0) (N := some 26) (v := ?_) (a' := ?_) #[true, false, false, false, false, false, false, false, false, false, false, false, false, false, false, false, false] rfl rfl (by kernel_rfl) (fun _ _ _ h => h) (Or.inl ⟨by rfl, ?_⟩) ?_ ?_
      rotate_left
      · intro w'
        go_simp
        with_reducible rfl
      rotate_left
      · simp only [Act.put, List.setIfInBounds_toArray, List.set_cons_zero, List.set_cons_succ, i64_w, i32_w]
        rfl
      refine pure_ (i := 1) (N := some 27) (v := ?_) (a' := ?_) #[true, true, false, false, false, false, false, false, false, false, false, false, false, false, false, false, false] rfl rfl (by kernel_rfl) (fun _ _ _ h => h) (Or.inl ⟨by rfl, ?_⟩) ?_ ?_
      rotate_left
      · intro w'
        go_simp
        with_reducible rfl
      rotate_left
      · simp only [Act.put, List.setIfInBounds_toArray, List.set_cons_zero, List.set_cons_succ, i64_w, i32_w]
        rfl
      refine pure_ (i := 2) (N := some 28) (v := ?_) (a' := ?_) #[true, true, true, false, false, false, false, false, false, false, false, false, false, false, false, false, false] rfl rfl (by kernel_rfl) (fun _ _ _ h => h) (Or.inl ⟨by rfl, ?_⟩) ?_ ?_
      rotate_left
      · intro w'
        go_simp
        with_reducible rfl
      rotate_left
      · simp only [Act.put, List.setIfInBounds_toArray, List.set_cons_zero, List.set_cons_succ, i64_w, i32_w]
        rfl
      refine pure_ (i := 3) (N := some 29) (v := ?_) (a' := ?_) #[true, true, true, true, false, false, false, false, false, false, false, false, false, false, false, false, false] rfl rfl (by kernel_rfl) (fun _ _ _ h => h) (Or.inl ⟨by rfl, ?_⟩) ?_ ?_
      rotate_left
      · intro w'
        go_simp
        with_reducible rfl
      rotate_left
      · simp only [Act.put, List.setIfInBounds_toArray, List.set_cons_zero, List.set_cons_succ, i64_w, i32_w]
        rfl
      refine pure_ (i := 4) (N := some 30) (v := ?_) (a' := ?_) #[true, true, true, true, true, false, false, false, false, false, false, false, false, false, false, false, false] rfl rfl (by kernel_rfl) (fun _ _ _ h => h) (Or.inl ⟨by rfl, ?_⟩) ?_ ?_
      rotate_left
      · intro w'
        go_simp
        with_reducible rfl
      rotate_left
      · simp only [Act.put, List.setIfInBounds_toArray, List.set_cons_zero, List.set_cons_succ, i64_w, i32_w]
        rfl
      refine pure_ (i := 5) (N := some 31) (v := ?_) (a' := ?_) #[true, true, true, true, true, true, false, false, false, false, false, false, false, false, false, false, false] rfl rfl (by kernel_rfl) (fun _ _ _ h => h) (Or.inl ⟨by rfl, ?_⟩) ?_ ?_
      rotate_left
      · intro w'
        go_simp
        with_reducible rfl
      rotate_left
      · simp only [Act.put, List.setIfInBounds_toArray, List.set_cons_zero, List.set_cons_succ, i64_w, i32_w]
        rfl
      refine pure_ (i := 6) (N := some 32) (v := ?_) (a' := ?_) #[true, true, true, true, true, true, true, false, false, false, false, false, false, false, false, false, false] rfl rfl (by kernel_rfl) (fun _ _ _ h => h) (Or.inl ⟨by rfl, ?_⟩) ?_ ?_
      rotate_left
      · intro w'
        go_simp
        with_reducible rfl
      rotate_left
      · simp only [Act.put, List.setIfInBounds_toArray, List.set_cons_zero, List.set_cons_succ, i64_w, i32_w]
        rfl
      refine pure_ (i := 7) (N := some 33) (v := ?_) (a' := ?_) #[true, true, true, true, true, true, true, true, false, false, false, false, false, false, false, false, false] rfl rfl (by kernel_rfl) (fun _ _ _ h => h) (Or.inl ⟨by rfl, ?_⟩) ?_ ?_
      rotate_left
      · intro w'
        go_simp
        with_reducible rfl
      rotate_left
      · simp only [Act.put, List.setIfInBounds_toArray, List.set_cons_zero, List.set_cons_succ, i64_w, i32_w]
        rfl
      refine pure_ (i := 8) (N := some 34) (v := ?_) (a' := ?_) #[true, true, true, true, true, true, true, true, true, false, false, false, false, false, false, false, false] rfl rfl (by kernel_rfl) (fun _ _ _ h => h) (Or.inl ⟨by rfl, ?_⟩) ?_ ?_
      rotate_left
      · intro w'
        go_simp
        with_reducible rfl
      rotate_left
      · simp only [Act.put, List.setIfInBounds_toArray, List.set_cons_zero, List.set_cons_succ, i64_w, i32_w]
        rfl
      refine pure_ (i := 10) (N := some 36) (v := ?_) (a' := ?_) #[true, true, true, true, true, true, true, true, true, false, true, false, false, false, false, false, false] rfl rfl (by kernel_rfl) (fun _ _ _ h => h) (Or.inl ⟨by rfl, ?_⟩) ?_ ?_
      rotate_left
      · intro w'
        go_simp
        with_reducible rfl
      rotate_left
      · simp only [Act.put, List.setIfInBounds_toArray, List.set_cons_zero, List.set_cons_succ, i64_w, i32_w]
        rfl
      refine pure_ (i := 11) (N := some 37) (v := ?_) (a' := ?_) #[true, true, true, true, true, true, true, true, true, false, true, true, false, false, false, false, false] rfl rfl (by kernel_rfl) (fun _ _ _ h => h) (Or.inl ⟨by rfl, ?_⟩) ?_ ?_
      rotate_left
      · intro w'
        go_simp
        with_reducible rfl
      rotate_left
      · simp only [Act.put, List.setIfInBounds_toArray, List.set_cons_zero, List.set_cons_succ, i64_w, i32_w]
        rfl
      refine pure_ (i := 12) (N := some 38) (v := ?_) (a' := ?_) #[true, true, true, true, true, true, true, true, true, false, true, true, true, false, false, false, false] rfl rfl (by kernel_rfl) (fun _ _ _ h => h) (Or.inl ⟨by rfl, ?_⟩) ?_ ?_
      rotate_left
      · intro w'
        go_simp
        with_reducible rfl
      rotate_left
      · simp only [Act.put, List.setIfInBounds_toArray, List.set_cons_zero, List.set_cons_succ, i64_w, i32_w]
        rfl
      refine one_ (i := 9) (N := some 35) #[true, true, true, true, true, true, true, true, true, true, true, true, true, false, false, false, false] rfl rfl (by kernel_rfl) (by decide) (fun K hK => ?_)
      refine goes_ Try.func67 (by kernel_rfl) rfl #[.string a0, .string a1, .string a2, .string (a3.extract 0 q)] (by rfl) rfl rfl (by simp only [List.map_toArray, List.map_cons, List.map_nil]; rfl) ?_
      with_reducible refine (HTG.out _).mono ?_
      rintro e w3 ⟨rfl, hb3⟩
      refine ⟨_, rfl, ?_⟩
      refine hK.out _ _ trivial (fun hHeld => ?_)
      clear hK K
      refine norm_ (a' := ?_) ?_ ?_
      rotate_left
      · show Act.put _ (some 35) _ = _
        simp only [Act.put, List.setIfInBounds_toArray, List.set_cons_zero, List.set_cons_succ, i64_w, i32_w]
        rfl
      refine one_ (i := 13) (N := some 39) #[true, true, true, true, true, true, true, true, true, true, true, true, true, true, false, false, false] rfl rfl (by kernel_rfl) (by decide) (fun K hK => ?_)
      refine goes_ Try.func97 (by kernel_rfl) rfl #[.string T, .string (a3.extract q a3.size)] (by rfl) rfl rfl (by simp only [List.map_toArray, List.map_cons, List.map_nil]; rfl) ?_
      with_reducible refine (HSM.out _).mono ?_
      rintro e w4 ⟨rfl, ⟨n4, rfl⟩⟩
      refine ⟨_, rfl, ?_⟩
      refine hK.out _ _ trivial (fun hHeld => ?_)
      clear hK K
      refine norm_ (a' := ?_) ?_ ?_
      rotate_left
      · show Act.put _ (some 39) _ = _
        simp only [Act.put, List.setIfInBounds_toArray, List.set_cons_zero, List.set_cons_succ, i64_w, i32_w]
        rfl
      refine pure_ (i := 14) (N := some 40) (v := ?_) (a' := ?_) #[true, true, true, true, true, true, true, true, true, true, true, true, true, true, true, false, false] rfl rfl (by kernel_rfl) (fun _ _ _ h => h) (Or.inl ⟨by rfl, ?_⟩) ?_ ?_
      rotate_left
      · intro w'
        go_simp
        with_reducible rfl
      rotate_left
      · simp only [Act.put, List.setIfInBounds_toArray, List.set_cons_zero, List.set_cons_succ, i64_w, i32_w]
        rfl
      refine pure_ (i := 15) (N := some 41) (v := ?_) (a' := ?_) #[true, true, true, true, true, true, true, true, true, true, true, true, true, true, true, true, false] rfl rfl (by kernel_rfl) (fun _ _ _ h => h) (Or.inl ⟨by rfl, ?_⟩) ?_ ?_
      rotate_left
      · intro w'
        go_simp
        with_reducible rfl
      rotate_left
      · simp only [Act.put, List.setIfInBounds_toArray, List.set_cons_zero, List.set_cons_succ, i64_w, i32_w]
        rfl
      refine pure_ (i := 16) (N := some 25) (v := ?_) (a' := ?_) #[true, true, true, true, true, true, true, true, true, true, true, true, true, true, true, true, true] rfl rfl (by kernel_rfl) (fun _ _ _ h => h) (Or.inl ⟨by rfl, ?_⟩) ?_ ?_
      rotate_left
      · intro w'
        go_simp
        with_reducible rfl
      rotate_left
      · simp only [Act.put, List.setIfInBounds_toArray, List.set_cons_zero, List.set_cons_succ, i64_w, i32_w]
        rfl
      refine done_ (by kernel_rfl) ?_
      go_wp2_with (fail)
      refine (HST.out _).mono ?_
      rintro e w5 ⟨rfl, hb5⟩
      have HBL : Aside0 (Below w.heap.size w w5) := ⟨below_then (pw_below_drewN (below_then (below_drew (pw_below_drewN (Below.refl _ w) n1)) (Nat.le_refl _) hb3) n4) hb3.size hb5⟩
      clear hb3 hb5 hHeld
      go_wp2
      go_ret2
      exact ⟨rfl, HBL.out⟩
    · have hd2 : decide (tagL (bys a0) (bys a1) (bys a2) ((bys a3).take q) = (bys a3).drop q) = false := decide_eq_false ht
      rw [if_neg ht]
      simp only [hd2] at hsm
      have HSM := Aside0.mk hsm
      clear hd2 ht hsm htg hst hTs hTb hd hxs hxb hyb
      go_enter Try.func64, Try.ntmps64
      go_upto_region 2 with (fail)
      rw [HN.out]
      go_wp2_with (fail)
      refine (HMay.out _).mono ?_
      rw [HD.out]
      rintro e w1 ⟨rfl, ⟨n1, rfl⟩⟩
      go_upto_region 4 with (fail)
      refine start_ (n := 17) (S := fun w' => True) (ds := []) #[false, false, false, false, false, false, false, false, false, false, false, false, false, false, false, false, false] (by kernel_rfl) rfl rfl trivial (fun hHeld => ?_)
      refine pure_ (i := 0) (N := some 26) (v := ?_) (a' := ?_) #[true, false, false, false, false, false, false, false, false, false, false, false, false, false, false, false, false] rfl rfl (by kernel_rfl) (fun _ _ _ h => h) (Or.inl ⟨by rfl, ?_⟩) ?_ ?_
      rotate_left
      · intro w'
        go_simp
        with_reducible rfl
      rotate_left
      · simp only [Act.put, List.setIfInBounds_toArray, List.set_cons_zero, List.set_cons_succ, i64_w, i32_w]
        rfl
      refine pure_ (i := 1) (N := some 27) (v := ?_) (a' := ?_) #[true, true, false, false, false, false, false, false, false, false, false, false, false, false, false, false, false] rfl rfl (by kernel_rfl) (fun _ _ _ h => h) (Or.inl ⟨by rfl, ?_⟩) ?_ ?_
      rotate_left
      · intro w'
        go_simp
        with_reducible rfl
      rotate_left
      · simp only [Act.put, List.setIfInBounds_toArray, List.set_cons_zero, List.set_cons_succ, i64_w, i32_w]
        rfl
      refine pure_ (i := 2) (N := some 28) (v := ?_) (a' := ?_) #[true, true, true, false, false, false, false, false, false, false, false, false, false, false, false, false, false] rfl rfl (by kernel_rfl) (fun _ _ _ h => h) (Or.inl ⟨by rfl, ?_⟩) ?_ ?_
      rotate_left
      · intro w'
        go_simp
        with_reducible rfl
      rotate_left
      · simp only [Act.put, List.setIfInBounds_toArray, List.set_cons_zero, List.set_cons_succ, i64_w, i32_w]
        rfl
      refine pure_ (i := 3) (N := some 29) (v := ?_) (a' := ?_) #[true, true, true, true, false, false, false, false, false, false, false, false, false, false, false, false, false] rfl rfl (by kernel_rfl) (fun _ _ _ h => h) (Or.inl ⟨by rfl, ?_⟩) ?_ ?_
      rotate_left
      · intro w'
        go_simp
        with_reducible rfl
      rotate_left
      · simp only [Act.put, List.setIfInBounds_toArray, List.set_cons_zero, List.set_cons_succ, i64_w, i32_w]
        rfl
      refine pure_ (i := 4) (N := some 30) (v := ?_) (a' := ?_) #[true, true, true, true, true, false, false, false, false, false, false, false, false, false, false, false, false] rfl rfl (by kernel_rfl) (fun _ _ _ h => h) (Or.inl ⟨by rfl, ?_⟩) ?_ ?_
      rotate_left
      · intro w'
        go_simp
        with_reducible rfl
      rotate_left
      · simp only [Act.put, List.setIfInBounds_toArray, List.set_cons_zero, List.set_cons_succ, i64_w, i32_w]
        rfl
      refine pure_ (i := 5) (N := some 31) (v := ?_) (a' := ?_) #[true, true, true, true, true, true, false, false, false, false, false, false, false, false, false, false, false] rfl rfl (by kernel_rfl) (fun _ _ _ h => h) (Or.inl ⟨by rfl, ?_⟩) ?_ ?_
      rotate_left
      · intro w'
        go_simp
        with_reducible rfl
      rotate_left
      · simp only [Act.put, List.setIfInBounds_toArray, List.set_cons_zero, List.set_cons_succ, i64_w, i32_w]
        rfl
      refine pure_ (i := 6) (N := some 32) (v := ?_) (a' := ?_) #[true, true, true, true, true, true, true, false, false, false, false, false, false, false, false, false, false] rfl rfl (by kernel_rfl) (fun _ _ _ h => h) (Or.inl ⟨by rfl, ?_⟩) ?_ ?_
      rotate_left
      · intro w'
        go_simp
        with_reducible rfl
      rotate_left
      · simp only [Act.put, List.setIfInBounds_toArray, List.set_cons_zero, List.set_cons_succ, i64_w, i32_w]
        rfl
      refine pure_ (i := 7) (N := some 33) (v := ?_) (a' := ?_) #[true, true, true, true, true, true, true, true, false, false, false, false, false, false, false, false, false] rfl rfl (by kernel_rfl) (fun _ _ _ h => h) (Or.inl ⟨by rfl, ?_⟩) ?_ ?_
      rotate_left
      · intro w'
        go_simp
        with_reducible rfl
      rotate_left
      · simp only [Act.put, List.setIfInBounds_toArray, List.set_cons_zero, List.set_cons_succ, i64_w, i32_w]
        rfl
      refine pure_ (i := 8) (N := some 34) (v := ?_) (a' := ?_) #[true, true, true, true, true, true, true, true, true, false, false, false, false, false, false, false, false] rfl rfl (by kernel_rfl) (fun _ _ _ h => h) (Or.inl ⟨by rfl, ?_⟩) ?_ ?_
      rotate_left
      · intro w'
        go_simp
        with_reducible rfl
      rotate_left
      · simp only [Act.put, List.setIfInBounds_toArray, List.set_cons_zero, List.set_cons_succ, i64_w, i32_w]
        rfl
      refine pure_ (i := 10) (N := some 36) (v := ?_) (a' := ?_) #[true, true, true, true, true, true, true, true, true, false, true, false, false, false, false, false, false] rfl rfl (by kernel_rfl) (fun _ _ _ h => h) (Or.inl ⟨by rfl, ?_⟩) ?_ ?_
      rotate_left
      · intro w'
        go_simp
        with_reducible rfl
      rotate_left
      · simp only [Act.put, List.setIfInBounds_toArray, List.set_cons_zero, List.set_cons_succ, i64_w, i32_w]
        rfl
      refine pure_ (i := 11) (N := some 37) (v := ?_) (a' := ?_) #[true, true, true, true, true, true, true, true, true, false, true, true, false, false, false, false, false] rfl rfl (by kernel_rfl) (fun _ _ _ h => h) (Or.inl ⟨by rfl, ?_⟩) ?_ ?_
      rotate_left
      · intro w'
        go_simp
        with_reducible rfl
      rotate_left
      · simp only [Act.put, List.setIfInBounds_toArray, List.set_cons_zero, List.set_cons_succ, i64_w, i32_w]
        rfl
      refine pure_ (i := 12) (N := some 38) (v := ?_) (a' := ?_) #[true, true, true, true, true, true, true, true, true, false, true, true, true, false, false, false, false] rfl rfl (by kernel_rfl) (fun _ _ _ h => h) (Or.inl ⟨by rfl, ?_⟩) ?_ ?_
      rotate_left
      · intro w'
        go_simp
        with_reducible rfl
      rotate_left
      · simp only [Act.put, List.setIfInBounds_toArray, List.set_cons_zero, List.set_cons_succ, i64_w, i32_w]
        rfl
      refine one_ (i := 9) (N := some 35) #[true, true, true, true, true, true, true, true, true, true, true, true, true, false, false, false, false] rfl rfl (by kernel_rfl) (by decide) (fun K hK => ?_)
      refine goes_ Try.func67 (by kernel_rfl) rfl #[.string a0, .string a1, .string a2, .string (a3.extract 0 q)] (by rfl) rfl rfl (by simp only [List.map_toArray, List.map_cons, List.map_nil]; rfl) ?_
      with_reducible refine (HTG.out _).mono ?_
      rintro e w3 ⟨rfl, hb3⟩
      refine ⟨_, rfl, ?_⟩
      refine hK.out _ _ trivial (fun hHeld => ?_)
      clear hK K
      refine norm_ (a' := ?_) ?_ ?_
      rotate_left
      · show Act.put _ (some 35) _ = _
        simp only [Act.put, List.setIfInBounds_toArray, List.set_cons_zero, List.set_cons_succ, i64_w, i32_w]
        rfl
      refine one_ (i := 13) (N := some 39) #[true, true, true, true, true, true, true, true, true, true, true, true, true, true, false, false, false] rfl rfl (by kernel_rfl) (by decide) (fun K hK => ?_)
      refine goes_ Try.func97 (by kernel_rfl) rfl #[.string T, .string (a3.extract q a3.size)] (by rfl) rfl rfl (by simp only [List.map_toArray, List.map_cons, List.map_nil]; rfl) ?_
      with_reducible refine (HSM.out _).mono ?_
      rintro e w4 ⟨rfl, ⟨n4, rfl⟩⟩
      refine ⟨_, rfl, ?_⟩
      refine hK.out _ _ trivial (fun hHeld => ?_)
      clear hK K
      refine norm_ (a' := ?_) ?_ ?_
      rotate_left
      · show Act.put _ (some 39) _ = _
        simp only [Act.put, List.setIfInBounds_toArray, List.set_cons_zero, List.set_cons_succ, i64_w, i32_w]
        rfl
      refine pure_ (i := 14) (N := some 40) (v := ?_) (a' := ?_) #[true, true, true, true, true, true, true, true, true, true, true, true, true, true, true, false, false] rfl rfl (by kernel_rfl) (fun _ _ _ h => h) (Or.inl ⟨by rfl, ?_⟩) ?_ ?_
      rotate_left
      · intro w'
        go_simp
        with_reducible rfl
      rotate_left
      · simp only [Act.put, List.setIfInBounds_toArray, List.set_cons_zero, List.set_cons_succ, i64_w, i32_w]
        rfl
      refine pure_ (i := 15) (N := some 41) (v := ?_) (a' := ?_) #[true, true, true, true, true, true, true, true, true, true, true, true, true, true, true, true, false] rfl rfl (by kernel_rfl) (fun _ _ _ h => h) (Or.inl ⟨by rfl, ?_⟩) ?_ ?_
      rotate_left
      · intro w'
        go_simp
        with_reducible rfl
      rotate_left
      · simp only [Act.put, List.setIfInBounds_toArray, List.set_cons_zero, List.set_cons_succ, i64_w, i32_w]
        rfl
      refine pure_ (i := 16) (N := some 25) (v := ?_) (a' := ?_) #[true, true, true, true, true, true, true, true, true, true, true, true, true, true, true, true, true] rfl rfl (by kernel_rfl) (fun _ _ _ h => h) (Or.inl ⟨by rfl, ?_⟩) ?_ ?_
      rotate_left
      · intro w'
        go_simp
        with_reducible rfl
      rotate_left
      · simp only [Act.put, List.setIfInBounds_toArray, List.set_cons_zero, List.set_cons_succ, i64_w, i32_w]
        rfl
      refine done_ (by kernel_rfl) ?_
      have HBL : Aside0 (Below w.heap.size w (w3.drewN n4)) := ⟨pw_below_drewN (below_then (below_drew (pw_below_drewN (Below.refl _ w) n1)) (Nat.le_refl _) hb3) n4⟩
      clear hb3 hHeld
      go_wp2
      go_ret2
      exact ⟨rfl, HBL.out⟩
  · have hd : decide (aeadOK a0 a1 a2.size q) = false := decide_eq_false hc
    rw [if_neg hc]
    have HD := Aside0.mk hd
    clear hc hd hxs hxb hyb hq
    go_enter Try.func64, Try.ntmps64
    go_upto_region 2 with (fail)
    rw [HN.out]
    go_wp2_with (fail)
    refine (HMay.out _).mono ?_
    rw [HD.out]
    rintro e w1 ⟨rfl, ⟨n1, rfl⟩⟩
    go_wp2
    go_ret2
    exact ⟨rfl, pw_below_drewN (Below.refl _ w) _⟩
theorem aead_Open.calls (a0 a1 a2 a3 : ByteArray) (r1 : ByteArray) (r2 : Int) (w : World) (h : aead_Open.f a0 a1 a2 a3 = some (r1, r2)) :
    Calls Try.prog 64 #[.string a0, .string a1, .string a2, .string a3] w fun e w' => e = .returned (.tuple #[.string r1, .int .i64 r2]) ∧ Below w.heap.size w w' := by
  unfold aead_Open.f at h
  by_cases hc : a2.size ≤ 1000000000000000 ∧ a3.size ≤ 1000000000000000
  · rw [if_pos hc] at h
    have h := Option.some.inj h
    have e1 : r1 = (openF a0 a1 a2 a3).1 := by rw [h]
    have e2 : r2 = (openF a0 a1 a2 a3).2 := by rw [h]
    rw [e1, e2]
    by_cases h16 : a3.size < 16
    · exact aead_Open.short a0 a1 a2 a3 w hc.1 h16
    · exact aead_Open.long a0 a1 a2 a3 (a3.size - 16) w hc.1 hc.2 (by omega)
  · rw [if_neg hc] at h
    cases h
end Go.Proofs.Ytbkbganflnemeaa.Pr
end

section
namespace Go.Proofs.Ytbkbganflnemeaa.Pr
open Go.RowKit Go.Proofs.YtbkbganflnemeaaW.PrintWords Go.Proofs.YtbkbganflnemeaaW.PrintLast Go.Proofs.YtbkbganflnemeaaW.PrintMore
attribute [local go_sem] max2_int min2_int max_two min_two max_three min_three max_four min_four   -- for this text's walks alone
set_option linter.unusedVariables false
set_option linter.unusedSimpArgs false
def keys_Unwrap.j0 : Nat → Int → Int → ByteArray → ByteArray → Int → Option (ByteArray × Int)
  | 0, _, _, _, _, _ => none
  | k + 1, x1, x2, x3, x10, x11 => if x11 = 0 then ((keys_Nonce.f k x1 x2).bind fun bt265 => ((aead_Open.f x10 bt265.1 (⟨#[119, 114, 97, 112]⟩ : ByteArray) x3).bind fun bt267 => (if bt267.2 = 0 then (if (bt267.1.size : Int) = 32 then (some (bt267.1, bt267.2)) else (some ((⟨#[]⟩ : ByteArray), 70))) else (some (bt267.1, bt267.2))))) else (some ((⟨#[]⟩ : ByteArray), x11))
def keys_Unwrap.f (k : Nat) (a0 : ByteArray) (a1 : Int) (a2 : Int) (a3 : ByteArray) : Option (ByteArray × Int) := (keys_member.f a1).bind fun t253 => (if t253 = true then ((keys_epoch.f a2).bind fun t254 => ((keys_of.f k a0 t254 (([(⟨#[119, 114, 97, 112]⟩ : ByteArray)] : List ByteArray))).bind fun bt258 => (keys_Unwrap.j0 k a1 a2 a3 bt258.1 bt258.2))) else ((keys_of.f k a0 false (([(⟨#[119, 114, 97, 112]⟩ : ByteArray)] : List ByteArray))).bind fun bt263 => (keys_Unwrap.j0 k a1 a2 a3 bt263.1 bt263.2)))
set_option maxHeartbeats 8000000 in
set_option maxRecDepth 100000 in
theorem keys_Unwrap.calls (k : Nat) (a0 : ByteArray) (a1 : Int) (a2 : Int) (a3 : ByteArray) (r1 : ByteArray) (r2 : Int) (w : World) (h : keys_Unwrap.f k a0 a1 a2 a3 = some (r1, r2)) :
    Calls Try.prog 55 #[.string a0, .int .i64 a1, .int .i64 a2, .string a3] w fun e w' => e = .returned (.tuple #[.string r1, .int .i64 r2]) ∧ Below w.heap.size w w' := by
  have HB := Aside0.mk (Below.refl w.heap.size w)
  have H : ((keys_member.f a1).bind fun t253 => (if t253 = true then ((keys_epoch.f a2).bind fun t254 => ((keys_of.f k a0 t254 (([(⟨#[119, 114, 97, 112]⟩ : ByteArray)] : List ByteArray))).bind fun bt258 => (keys_Unwrap.j0 k a1 a2 a3 bt258.1 bt258.2))) else ((keys_of.f k a0 false (([(⟨#[119, 114, 97, 112]⟩ : ByteArray)] : List ByteArray))).bind fun bt263 => (keys_Unwrap.j0 k a1 a2 a3 bt263.1 bt263.2)))) = some (r1, r2) := h
  clear h
  have HC5 := Aside0.mk H
  clear H
  go_enter Try.func55, Try.ntmps55
  go_upto_region 1 with (fail)
  go_cut [10, 11] (fun v10 v11 wc => ∃ (kq : Nat) (x10_4 : ByteArray) (x11_4 : Int), v10 = .string x10_4 ∧ v11 = .int .i64 x11_4 ∧ Aside0 (keys_Unwrap.j0 kq a1 a2 a3 x10_4 x11_4 = some (r1, r2)) ∧ Aside0 (kq ≤ k) ∧ Aside0 (Below w.heap.size w wc))
  case first =>
    have H := HC5.out
    clear HC5
    replace H := Option.bind_eq_some_iff.mp H
    obtain ⟨t253, A60, H⟩ := H
    replace H : (if t253 = true then ((keys_epoch.f a2).bind fun t254 => ((keys_of.f k a0 t254 (([(⟨#[119, 114, 97, 112]⟩ : ByteArray)] : List ByteArray))).bind fun bt258 => (keys_Unwrap.j0 k a1 a2 a3 bt258.1 bt258.2))) else ((keys_of.f k a0 false (([(⟨#[119, 114, 97, 112]⟩ : ByteArray)] : List ByteArray))).bind fun bt263 => (keys_Unwrap.j0 k a1 a2 a3 bt263.1 bt263.2))) = some (r1, r2) := H
    have A6 := Aside0.mk A60
    clear A60
    by_cases c7 : t253 = true
    · subst c7
      have H1 : ((keys_epoch.f a2).bind fun t254 => ((keys_of.f k a0 t254 (([(⟨#[119, 114, 97, 112]⟩ : ByteArray)] : List ByteArray))).bind fun bt258 => (keys_Unwrap.j0 k a1 a2 a3 bt258.1 bt258.2))) = some (r1, r2) := by rw [if_pos rfl] at H; exact H
      clear H
      have H := H1
      clear H1
      replace H := Option.bind_eq_some_iff.mp H
      obtain ⟨t254, A80, H⟩ := H
      replace H : ((keys_of.f k a0 t254 (([(⟨#[119, 114, 97, 112]⟩ : ByteArray)] : List ByteArray))).bind fun bt258 => (keys_Unwrap.j0 k a1 a2 a3 bt258.1 bt258.2)) = some (r1, r2) := H
      have A8 := Aside0.mk A80
      clear A80
      obtain ⟨y255, hy255⟩ : ∃ y_ : List ByteArray, y_ = (([(⟨#[119, 114, 97, 112]⟩ : ByteArray)] : List ByteArray)) := ⟨_, rfl⟩
      replace H : ((keys_of.f k a0 t254 y255).bind fun bt258 => (keys_Unwrap.j0 k a1 a2 a3 bt258.1 bt258.2)) = some (r1, r2) := by first | (rw [hy255]; with_reducible exact H) | (have H2_ := (Option.bind_some _ _).symm.trans H; rw [hy255]; with_reducible exact H2_) | (have H2_ := (Option.bind_some _ _).symm.trans H; with_reducible exact H2_) | with_reducible exact H | (rw [hy255]; exact H) | exact H
      have Ny255 := Aside0.mk hy255
      clear hy255
      replace H := Option.bind_eq_some_iff.mp H
      obtain ⟨⟨t258, t259⟩, A90, H⟩ := H
      replace H : (keys_Unwrap.j0 k a1 a2 a3 t258 t259) = some (r1, r2) := H
      have A9 := Aside0.mk A90
      clear A90
      have H' := Aside0.mk H
      clear H
      go_wp2_with (first | ((with_reducible refine gate_callee (f := 48) rfl ?_); refine goesL_ (some 18) rfl rfl Try.func48 (by kernel_rfl) rfl #[.int .i64 a1] rfl (by (try simp only [List.map_toArray, List.map_cons, List.map_nil]); first | done | rfl | (simp only [List.length_drop, List.length_take]; rfl)) ?_; (with_reducible refine (keys_member.calls a1 true _ A6.out).mono ?_); rintro e w' ⟨rfl, ⟨nd, rfl⟩⟩; refine ⟨_, rfl, ?_⟩) | (go_at_call 58; (with_reducible refine (keys_epoch.calls a2 t254 _ A8.out).mono ?_); rintro e w' ⟨rfl, ⟨nd, rfl⟩⟩) | ((with_reducible refine gate_dst (N := 23) rfl ?_); (try (refine gate_guard (by rfl) ?_; dsimp only)); refine Kd.R_lit Kd.string _ 9 ?hg (N := 23) ?hd (xs := ([(⟨#[119, 114, 97, 112]⟩ : ByteArray)] : List ByteArray)) (inner := [.string (⟨#[119, 114, 97, 112]⟩ : ByteArray)]) (ok := fun _ => True) (okp := fun _ => True) ?hr ?hp (fun _ hk => hk) trivial (Below.refl _ _) (Nat.le_refl _) (by simp) ?_; (case hd => rfl); (case hg => rfl); (case hr => first | (go_simp; done) | (go_simp; rfl)); (case hp => exact (Reps.one (show Kd.M Kd.string _ _ _ (⟨#[119, 114, 97, 112]⟩ : ByteArray) [.string (⟨#[119, 114, 97, 112]⟩ : ByteArray)] from rfl) (Reps.none _ _))); intro v256 w10 ho11 hb hg_ hnew_; clear hg_ hnew_; (first | rw [← Ny255.out] at ho11 | (simp only [Int.reduceToNat] at ho11; rw [← Ny255.out] at ho11)); have n0_ := Aside0.mk (Kd.R_lower ho11 (below_size (by repeat (first | (with_reducible first | exact HB.out | apply below_alloc | apply pw_below_drewN | apply below_drew1) | exact HB.out)))); have n1_ := Aside0.mk (below_step (by repeat (first | (with_reducible first | exact HB.out | apply below_alloc | apply pw_below_drewN | apply below_drew1) | exact HB.out)) hb); clear HB; have HO257 := n0_; have HB := n1_; clear n0_ n1_; clear hb ho11; obtain ⟨Ao12, co12, eo12⟩ := Kd.R_slice HO257.out; subst eo12) | ((with_reducible refine gate_callee (f := 56) rfl ?_); refine goesL_ (some 24) rfl rfl Try.func56 (by kernel_rfl) rfl #[.string a0, .bool t254, .slice Ao12 y255.length co12] rfl (by (try simp only [List.map_toArray, List.map_cons, List.map_nil]); first | done | rfl | (simp only [List.length_drop, List.length_take]; rfl)) ?_; (with_reducible refine (keys_of.calls k a0 t254 _ _ y255 t258 t259 _ ?side1 ?side2 A9.out).mono ?_); (case side1 => repeat (first | exact (Kd.R_reads' HO257.out).2.2 | (with_reducible refine Kd.C_alloc ?_ _) | (with_reducible refine Kd.C_drewN ?_ _) | (with_reducible refine Kd.C_drew ?_))); (case side2 => exact (Kd.R_reads' HO257.out).2.1); rintro e w13 ⟨rfl, hb⟩; refine ⟨_, rfl, ?_⟩; have n0_ := Aside0.mk (Kd.R_below (by (with_reducible repeat (first | apply Kd.R_alloc | apply Kd.R_drewN | apply Kd.R_drew)); exact HO257.out) hb); have n1_ := Aside0.mk (below_step (by repeat (first | (with_reducible first | exact HB.out | apply below_alloc | apply pw_below_drewN | apply below_drew1) | exact HB.out)) hb); clear HO257; clear HB; have HO257 := n0_; have HB := n1_; clear n0_ n1_; (try clear hb); (try clear hb2); (try clear hk); (try clear hi)))
      go_meet
      case rel => exact ⟨_, (t258), (t259), (by first | rfl | (simp; done) | (simp [*]; done)), (by first | rfl | (simp; done) | (simp [*]; done)), H', ⟨by first | omega | exact Nat.le_refl _⟩, ⟨by repeat (first | (with_reducible first | exact HB.out | apply below_alloc | apply pw_below_drewN | apply below_drew1) | exact HB.out)⟩⟩
    · replace c7 := Bool.eq_false_iff.mpr c7
      subst c7
      have H1 : ((keys_of.f k a0 false (([(⟨#[119, 114, 97, 112]⟩ : ByteArray)] : List ByteArray))).bind fun bt263 => (keys_Unwrap.j0 k a1 a2 a3 bt263.1 bt263.2)) = some (r1, r2) := by rw [if_neg (show ¬ (false = true) by decide)] at H; exact H
      clear H
      have H := H1
      clear H1
      obtain ⟨y260, hy260⟩ : ∃ y_ : List ByteArray, y_ = (([(⟨#[119, 114, 97, 112]⟩ : ByteArray)] : List ByteArray)) := ⟨_, rfl⟩
      replace H : ((keys_of.f k a0 false y260).bind fun bt263 => (keys_Unwrap.j0 k a1 a2 a3 bt263.1 bt263.2)) = some (r1, r2) := by first | (rw [hy260]; with_reducible exact H) | (have H2_ := (Option.bind_some _ _).symm.trans H; rw [hy260]; with_reducible exact H2_) | (have H2_ := (Option.bind_some _ _).symm.trans H; with_reducible exact H2_) | with_reducible exact H | (rw [hy260]; exact H) | exact H
      have Ny260 := Aside0.mk hy260
      clear hy260
      replace H := Option.bind_eq_some_iff.mp H
      obtain ⟨⟨t263, t264⟩, A140, H⟩ := H
      replace H : (keys_Unwrap.j0 k a1 a2 a3 t263 t264) = some (r1, r2) := H
      have A14 := Aside0.mk A140
      clear A140
      have H' := Aside0.mk H
      clear H
      go_wp2_with (first | ((with_reducible refine gate_callee (f := 48) rfl ?_); refine goesL_ (some 18) rfl rfl Try.func48 (by kernel_rfl) rfl #[.int .i64 a1] rfl (by (try simp only [List.map_toArray, List.map_cons, List.map_nil]); first | done | rfl | (simp only [List.length_drop, List.length_take]; rfl)) ?_; (with_reducible refine (keys_member.calls a1 false _ A6.out).mono ?_); rintro e w' ⟨rfl, ⟨nd, rfl⟩⟩; refine ⟨_, rfl, ?_⟩) | ((with_reducible refine gate_dst (N := 23) rfl ?_); (try (refine gate_guard (by rfl) ?_; dsimp only)); refine Kd.R_lit Kd.string _ 9 ?hg (N := 23) ?hd (xs := ([(⟨#[119, 114, 97, 112]⟩ : ByteArray)] : List ByteArray)) (inner := [.string (⟨#[119, 114, 97, 112]⟩ : ByteArray)]) (ok := fun _ => True) (okp := fun _ => True) ?hr ?hp (fun _ hk => hk) trivial (Below.refl _ _) (Nat.le_refl _) (by simp) ?_; (case hd => rfl); (case hg => rfl); (case hr => first | (go_simp; done) | (go_simp; rfl)); (case hp => exact (Reps.one (show Kd.M Kd.string _ _ _ (⟨#[119, 114, 97, 112]⟩ : ByteArray) [.string (⟨#[119, 114, 97, 112]⟩ : ByteArray)] from rfl) (Reps.none _ _))); intro v261 w15 ho16 hb hg_ hnew_; clear hg_ hnew_; (first | rw [← Ny260.out] at ho16 | (simp only [Int.reduceToNat] at ho16; rw [← Ny260.out] at ho16)); have n0_ := Aside0.mk (Kd.R_lower ho16 (below_size (by repeat (first | (with_reducible first | exact HB.out | apply below_alloc | apply pw_below_drewN | apply below_drew1) | exact HB.out)))); have n1_ := Aside0.mk (below_step (by repeat (first | (with_reducible first | exact HB.out | apply below_alloc | apply pw_below_drewN | apply below_drew1) | exact HB.out)) hb); clear HB; have HO262 := n0_; have HB := n1_; clear n0_ n1_; clear hb ho16; obtain ⟨Ao17, co17, eo17⟩ := Kd.R_slice HO262.out; subst eo17) | ((with_reducible refine gate_callee (f := 56) rfl ?_); refine goesL_ (some 24) rfl rfl Try.func56 (by kernel_rfl) rfl #[.string a0, .bool false, .slice Ao17 y260.length co17] rfl (by (try simp only [List.map_toArray, List.map_cons, List.map_nil]); first | done | rfl | (simp only [List.length_drop, List.length_take]; rfl)) ?_; (with_reducible refine (keys_of.calls k a0 false _ _ y260 t263 t264 _ ?side1 ?side2 A14.out).mono ?_); (case side1 => repeat (first | exact (Kd.R_reads' HO262.out).2.2 | (with_reducible refine Kd.C_alloc ?_ _) | (with_reducible refine Kd.C_drewN ?_ _) | (with_reducible refine Kd.C_drew ?_))); (case side2 => exact (Kd.R_reads' HO262.out).2.1); rintro e w18 ⟨rfl, hb⟩; refine ⟨_, rfl, ?_⟩; have n0_ := Aside0.mk (Kd.R_below (by (with_reducible repeat (first | apply Kd.R_alloc | apply Kd.R_drewN | apply Kd.R_drew)); exact HO262.out) hb); have n1_ := Aside0.mk (below_step (by repeat (first | (with_reducible first | exact HB.out | apply below_alloc | apply pw_below_drewN | apply below_drew1) | exact HB.out)) hb); clear HO262; clear HB; have HO262 := n0_; have HB := n1_; clear n0_ n1_; (try clear hb); (try clear hb2); (try clear hk); (try clear hi)))
      go_meet
      case rel => exact ⟨_, (t263), (t264), (by first | rfl | (simp; done) | (simp [*]; done)), (by first | rfl | (simp; done) | (simp [*]; done)), H', ⟨by first | omega | exact Nat.le_refl _⟩, ⟨by repeat (first | (with_reducible first | exact HB.out | apply below_alloc | apply pw_below_drewN | apply below_drew1) | exact HB.out)⟩⟩
  case rest =>
    clear HC5
    try clear p2
    try clear c4
    try clear c5
    try clear c7
    obtain ⟨kq, x10_4, x11_4, rfl, rfl, HA, HJ4, HB⟩ := hcut
    cases kq with
    | zero => exact absurd HA.out (by simp [keys_Unwrap.j0])
    | succ kj4 =>
      have H := HA.out
      clear HA
      simp only [keys_Unwrap.j0] at H
      by_cases c19 : x11_4 = 0
      · rw [if_pos c19] at H
        have c19b0 : (x11_4 == 0) = true := beq_iff_eq.mpr c19
        have c19b1 : (x11_4 != 0) = false := bne_eq_false_iff_eq.mpr c19
        clear c19
        replace H := Option.bind_eq_some_iff.mp H
        obtain ⟨⟨t265, t266⟩, A200, H⟩ := H
        replace H : ((aead_Open.f x10_4 t265 (⟨#[119, 114, 97, 112]⟩ : ByteArray) a3).bind fun bt267 => (if bt267.2 = 0 then (if (bt267.1.size : Int) = 32 then (some (bt267.1, bt267.2)) else (some ((⟨#[]⟩ : ByteArray), 70))) else (some (bt267.1, bt267.2)))) = some (r1, r2) := H
        have A20 := Aside0.mk A200
        clear A200
        replace H := Option.bind_eq_some_iff.mp H
        obtain ⟨⟨t267, t268⟩, A210, H⟩ := H
        replace H : (if t268 = 0 then (if (t267.size : Int) = 32 then (some (t267, t268)) else (some ((⟨#[]⟩ : ByteArray), 70))) else (some (t267, t268))) = some (r1, r2) := H
        have A21 := Aside0.mk A210
        clear A210
        by_cases c22 : t268 = 0
        · rw [if_pos c22] at H
          have c22b0 : (t268 == 0) = true := beq_iff_eq.mpr c22
          have c22b1 : (t268 != 0) = false := bne_eq_false_iff_eq.mpr c22
          clear c22
          by_cases c23 : (t267.size : Int) = 32
          · rw [if_pos c23] at H
            have c23b0 : ((t267.size : Int) == 32) = true := beq_iff_eq.mpr c23
            have c23b1 : ((t267.size : Int) != 32) = false := bne_eq_false_iff_eq.mpr c23
            clear c23
            simp only [Option.some.injEq, Prod.mk.injEq] at H
            obtain ⟨rfl, rfl⟩ := H
            go_wp2_with (first | ((with_reducible refine gate_callee (f := 14) rfl ?_); refine goesL_ (some 33) rfl rfl Try.func14 (by kernel_rfl) rfl #[.int .i64 a1, .int .i64 a2] rfl (by (try simp only [List.map_toArray, List.map_cons, List.map_nil]); first | done | rfl | (simp only [List.length_drop, List.length_take]; rfl)) ?_; (with_reducible refine (keys_Nonce.calls kj4 a1 a2 t265 t266 _ A20.out).mono ?_); rintro e w24 ⟨rfl, hb⟩; refine ⟨_, rfl, ?_⟩; have n0_ := Aside0.mk (below_step (by repeat (first | (with_reducible first | exact HB.out | apply below_alloc | apply pw_below_drewN | apply below_drew1) | exact HB.out)) hb); clear HB; have HB := n0_; clear n0_; (try clear hb); (try clear hb2); (try clear hk); (try clear hi)) | ((with_reducible refine gate_callee (f := 64) rfl ?_); refine goesL_ (some 40) rfl rfl Try.func64 (by kernel_rfl) rfl #[.string x10_4, .string t265, .string (⟨#[119, 114, 97, 112]⟩ : ByteArray), .string a3] rfl (by (try simp only [List.map_toArray, List.map_cons, List.map_nil]); first | done | rfl | (simp only [List.length_drop, List.length_take]; rfl)) ?_; (with_reducible refine (aead_Open.calls x10_4 t265 (⟨#[119, 114, 97, 112]⟩ : ByteArray) a3 t267 t268 _ A21.out).mono ?_); rintro e w25 ⟨rfl, hb⟩; refine ⟨_, rfl, ?_⟩; have n0_ := Aside0.mk (below_step (by repeat (first | (with_reducible first | exact HB.out | apply below_alloc | apply pw_below_drewN | apply below_drew1) | exact HB.out)) hb); clear HB; have HB := n0_; clear n0_; (try clear hb); (try clear hb2); (try clear hk); (try clear hi)))
            go_ret2
            exact ⟨by first | rfl | (simp [errW_none, errW_some] <;> rfl) | (simp [*, errW_none, errW_some] <;> rfl), by repeat (first | (with_reducible first | exact HB.out | apply below_alloc | apply pw_below_drewN | apply below_drew1) | exact HB.out)⟩
          · rw [if_neg c23] at H
            have c23b0 : ((t267.size : Int) == 32) = false := beq_eq_false_iff_ne.mpr c23
            have c23b1 : ((t267.size : Int) != 32) = true := bne_iff_ne.mpr c23
            simp only [Option.some.injEq, Prod.mk.injEq] at H
            obtain ⟨rfl, rfl⟩ := H
            go_wp2_with (first | ((with_reducible refine gate_callee (f := 14) rfl ?_); refine goesL_ (some 33) rfl rfl Try.func14 (by kernel_rfl) rfl #[.int .i64 a1, .int .i64 a2] rfl (by (try simp only [List.map_toArray, List.map_cons, List.map_nil]); first | done | rfl | (simp only [List.length_drop, List.length_take]; rfl)) ?_; (with_reducible refine (keys_Nonce.calls kj4 a1 a2 t265 t266 _ A20.out).mono ?_); rintro e w26 ⟨rfl, hb⟩; refine ⟨_, rfl, ?_⟩; have n0_ := Aside0.mk (below_step (by repeat (first | (with_reducible first | exact HB.out | apply below_alloc | apply pw_below_drewN | apply below_drew1) | exact HB.out)) hb); clear HB; have HB := n0_; clear n0_; (try clear hb); (try clear hb2); (try clear hk); (try clear hi)) | ((with_reducible refine gate_callee (f := 64) rfl ?_); refine goesL_ (some 40) rfl rfl Try.func64 (by kernel_rfl) rfl #[.string x10_4, .string t265, .string (⟨#[119, 114, 97, 112]⟩ : ByteArray), .string a3] rfl (by (try simp only [List.map_toArray, List.map_cons, List.map_nil]); first | done | rfl | (simp only [List.length_drop, List.length_take]; rfl)) ?_; (with_reducible refine (aead_Open.calls x10_4 t265 (⟨#[119, 114, 97, 112]⟩ : ByteArray) a3 t267 t268 _ A21.out).mono ?_); rintro e w27 ⟨rfl, hb⟩; refine ⟨_, rfl, ?_⟩; have n0_ := Aside0.mk (below_step (by repeat (first | (with_reducible first | exact HB.out | apply below_alloc | apply pw_below_drewN | apply below_drew1) | exact HB.out)) hb); clear HB; have HB := n0_; clear n0_; (try clear hb); (try clear hb2); (try clear hk); (try clear hi)))
            go_ret2
            exact ⟨by first | rfl | (simp [errW_none, errW_some] <;> rfl) | (simp [*, errW_none, errW_some] <;> rfl), by repeat (first | (with_reducible first | exact HB.out | apply below_alloc | apply pw_below_drewN | apply below_drew1) | exact HB.out)⟩
        · rw [if_neg c22] at H
          have c22b0 : (t268 == 0) = false := beq_eq_false_iff_ne.mpr c22
          have c22b1 : (t268 != 0) = true := bne_iff_ne.mpr c22
          simp only [Option.some.injEq, Prod.mk.injEq] at H
          obtain ⟨rfl, rfl⟩ := H
          go_wp2_with (first | ((with_reducible refine gate_callee (f := 14) rfl ?_); refine goesL_ (some 33) rfl rfl Try.func14 (by kernel_rfl) rfl #[.int .i64 a1, .int .i64 a2] rfl (by (try simp only [List.map_toArray, List.map_cons, List.map_nil]); first | done | rfl | (simp only [List.length_drop, List.length_take]; rfl)) ?_; (with_reducible refine (keys_Nonce.calls kj4 a1 a2 t265 t266 _ A20.out).mono ?_); rintro e w28 ⟨rfl, hb⟩; refine ⟨_, rfl, ?_⟩; have n0_ := Aside0.mk (below_step (by repeat (first | (with_reducible first | exact HB.out | apply below_alloc | apply pw_below_drewN | apply below_drew1) | exact HB.out)) hb); clear HB; have HB := n0_; clear n0_; (try clear hb); (try clear hb2); (try clear hk); (try clear hi)) | ((with_reducible refine gate_callee (f := 64) rfl ?_); refine goesL_ (some 40) rfl rfl Try.func64 (by kernel_rfl) rfl #[.string x10_4, .string t265, .string (⟨#[119, 114, 97, 112]⟩ : ByteArray), .string a3] rfl (by (try simp only [List.map_toArray, List.map_cons, List.map_nil]); first | done | rfl | (simp only [List.length_drop, List.length_take]; rfl)) ?_; (with_reducible refine (aead_Open.calls x10_4 t265 (⟨#[119, 114, 97, 112]⟩ : ByteArray) a3 t267 t268 _ A21.out).mono ?_); rintro e w29 ⟨rfl, hb⟩; refine ⟨_, rfl, ?_⟩; have n0_ := Aside0.mk (below_step (by repeat (first | (with_reducible first | exact HB.out | apply below_alloc | apply pw_below_drewN | apply below_drew1) | exact HB.out)) hb); clear HB; have HB := n0_; clear n0_; (try clear hb); (try clear hb2); (try clear hk); (try clear hi)))
          go_ret2
          exact ⟨by first | rfl | (simp [errW_none, errW_some] <;> rfl) | (simp [*, errW_none, errW_some] <;> rfl), by repeat (first | (with_reducible first | exact HB.out | apply below_alloc | apply pw_below_drewN | apply below_drew1) | exact HB.out)⟩
      · rw [if_neg c19] at H
        have c19b0 : (x11_4 == 0) = false := beq_eq_false_iff_ne.mpr c19
        have c19b1 : (x11_4 != 0) = true := bne_iff_ne.mpr c19
        simp only [Option.some.injEq, Prod.mk.injEq] at H
        obtain ⟨rfl, rfl⟩ := H
        go_wp2
        go_ret2
        exact ⟨by first | rfl | (simp [errW_none, errW_some] <;> rfl) | (simp [*, errW_none, errW_some] <;> rfl), by repeat (first | (with_reducible first | exact HB.out | apply below_alloc | apply pw_below_drewN | apply below_drew1) | exact HB.out)⟩
end Go.Proofs.Ytbkbganflnemeaa.Pr
end

section
namespace Go.Proofs.Ytbkbganflnemeaa.Pr
open Go.RowKit Go.Proofs.YtbkbganflnemeaaW.PrintWords Go.Proofs.YtbkbganflnemeaaW.PrintLast Go.Proofs.YtbkbganflnemeaaW.PrintMore
attribute [local go_sem] max2_int min2_int max_two min_two max_three min_three max_four min_four   -- for this text's walks alone
set_option linter.unusedVariables false
set_option linter.unusedSimpArgs false
def samphirelaw15_awake.f (k : Nat)  : Option (Bool) := if 32 ≤ 281474976710656 then ((some (List.replicate 32 0 : List Int)).bind fun y269 => ((keys_Wrap.f k (strOfNums y269) 2 7 (⟨#[48, 49, 50, 51, 52, 53, 54, 55, 56, 57, 97, 98, 99, 100, 101, 102, 48, 49, 50, 51, 52, 53, 54, 55, 56, 57, 97, 98, 99, 100, 101, 102]⟩ : ByteArray)).bind fun bt272 => ((keys_Unwrap.f k (strOfNums y269) 2 7 bt272.1).bind fun bt274 => ((keys_Unwrap.f k (strOfNums y269) 2 8 bt272.1).bind fun bt276 => ((keys_Nonce.f k 2 258).bind fun bt278 => (if bt272.2 = 0 then (if (bt272.1.size : Int) = 48 then (if bt274.1.toList = ([48, 49, 50, 51, 52, 53, 54, 55, 56, 57, 97, 98, 99, 100, 101, 102, 48, 49, 50, 51, 52, 53, 54, 55, 56, 57, 97, 98, 99, 100, 101, 102] : List UInt8) then (if bt274.2 = 0 then (if bt276.2 = 70 then (if bt278.1.toList = ([2, 0, 0, 0, 0, 0, 0, 0, 0, 0, 1, 2] : List UInt8) then (some (bt278.2 == 0)) else (some false)) else (some false)) else (some false)) else (some false)) else (some false)) else (some false))))))) else (none)
set_option maxHeartbeats 8000000 in
set_option maxRecDepth 100000 in
theorem samphirelaw15_awake.calls (k : Nat)  (r : Bool) (w : World) (h : samphirelaw15_awake.f k  = some r) :
    Calls Try.prog 16 #[] w fun e w' => e = .returned (.bool r) ∧ Below w.heap.size w w' := by
  have HB := Aside0.mk (Below.refl w.heap.size w)
  have H : (if 32 ≤ 281474976710656 then ((some (List.replicate 32 0 : List Int)).bind fun y269 => ((keys_Wrap.f k (strOfNums y269) 2 7 (⟨#[48, 49, 50, 51, 52, 53, 54, 55, 56, 57, 97, 98, 99, 100, 101, 102, 48, 49, 50, 51, 52, 53, 54, 55, 56, 57, 97, 98, 99, 100, 101, 102]⟩ : ByteArray)).bind fun bt272 => ((keys_Unwrap.f k (strOfNums y269) 2 7 bt272.1).bind fun bt274 => ((keys_Unwrap.f k (strOfNums y269) 2 8 bt272.1).bind fun bt276 => ((keys_Nonce.f k 2 258).bind fun bt278 => (if bt272.2 = 0 then (if (bt272.1.size : Int) = 48 then (if bt274.1.toList = ([48, 49, 50, 51, 52, 53, 54, 55, 56, 57, 97, 98, 99, 100, 101, 102, 48, 49, 50, 51, 52, 53, 54, 55, 56, 57, 97, 98, 99, 100, 101, 102] : List UInt8) then (if bt274.2 = 0 then (if bt276.2 = 70 then (if bt278.1.toList = ([2, 0, 0, 0, 0, 0, 0, 0, 0, 0, 1, 2] : List UInt8) then (some (bt278.2 == 0)) else (some false)) else (some false)) else (some false)) else (some false)) else (some false)) else (some false))))))) else (none)) = some r := h
  clear h
  by_cases c1 : 32 ≤ 281474976710656
  · rw [if_pos c1] at H
    have c1b0 := eq_true c1
    have c1b1 : decide (32 ≤ 281474976710656) = true := decide_eq_true c1
    clear c1
    obtain ⟨y269, hy269⟩ : ∃ y_ : List Int, y_ = (List.replicate 32 0) := ⟨_, rfl⟩
    replace H : ((keys_Wrap.f k (strOfNums y269) 2 7 (⟨#[48, 49, 50, 51, 52, 53, 54, 55, 56, 57, 97, 98, 99, 100, 101, 102, 48, 49, 50, 51, 52, 53, 54, 55, 56, 57, 97, 98, 99, 100, 101, 102]⟩ : ByteArray)).bind fun bt272 => ((keys_Unwrap.f k (strOfNums y269) 2 7 bt272.1).bind fun bt274 => ((keys_Unwrap.f k (strOfNums y269) 2 8 bt272.1).bind fun bt276 => ((keys_Nonce.f k 2 258).bind fun bt278 => (if bt272.2 = 0 then (if (bt272.1.size : Int) = 48 then (if bt274.1.toList = ([48, 49, 50, 51, 52, 53, 54, 55, 56, 57, 97, 98, 99, 100, 101, 102, 48, 49, 50, 51, 52, 53, 54, 55, 56, 57, 97, 98, 99, 100, 101, 102] : List UInt8) then (if bt274.2 = 0 then (if bt276.2 = 70 then (if bt278.1.toList = ([2, 0, 0, 0, 0, 0, 0, 0, 0, 0, 1, 2] : List UInt8) then (some (bt278.2 == 0)) else (some false)) else (some false)) else (some false)) else (some false)) else (some false)) else (some false)))))) = some r := by first | (rw [hy269]; with_reducible exact H) | (have H2_ := (Option.bind_some _ _).symm.trans H; rw [hy269]; with_reducible exact H2_) | (have H2_ := (Option.bind_some _ _).symm.trans H; with_reducible exact H2_) | with_reducible exact H | (rw [hy269]; exact H) | exact H
    have Ny269 := Aside0.mk hy269
    clear hy269
    replace H := Option.bind_eq_some_iff.mp H
    obtain ⟨⟨t272, t273⟩, A20, H⟩ := H
    replace H : ((keys_Unwrap.f k (strOfNums y269) 2 7 t272).bind fun bt274 => ((keys_Unwrap.f k (strOfNums y269) 2 8 t272).bind fun bt276 => ((keys_Nonce.f k 2 258).bind fun bt278 => (if t273 = 0 then (if (t272.size : Int) = 48 then (if bt274.1.toList = ([48, 49, 50, 51, 52, 53, 54, 55, 56, 57, 97, 98, 99, 100, 101, 102, 48, 49, 50, 51, 52, 53, 54, 55, 56, 57, 97, 98, 99, 100, 101, 102] : List UInt8) then (if bt274.2 = 0 then (if bt276.2 = 70 then (if bt278.1.toList = ([2, 0, 0, 0, 0, 0, 0, 0, 0, 0, 1, 2] : List UInt8) then (some (bt278.2 == 0)) else (some false)) else (some false)) else (some false)) else (some false)) else (some false)) else (some false))))) = some r := H
    have A2 := Aside0.mk A20
    clear A20
    replace H := Option.bind_eq_some_iff.mp H
    obtain ⟨⟨t274, t275⟩, A30, H⟩ := H
    replace H : ((keys_Unwrap.f k (strOfNums y269) 2 8 t272).bind fun bt276 => ((keys_Nonce.f k 2 258).bind fun bt278 => (if t273 = 0 then (if (t272.size : Int) = 48 then (if t274.toList = ([48, 49, 50, 51, 52, 53, 54, 55, 56, 57, 97, 98, 99, 100, 101, 102, 48, 49, 50, 51, 52, 53, 54, 55, 56, 57, 97, 98, 99, 100, 101, 102] : List UInt8) then (if t275 = 0 then (if bt276.2 = 70 then (if bt278.1.toList = ([2, 0, 0, 0, 0, 0, 0, 0, 0, 0, 1, 2] : List UInt8) then (some (bt278.2 == 0)) else (some false)) else (some false)) else (some false)) else (some false)) else (some false)) else (some false)))) = some r := H
    have A3 := Aside0.mk A30
    clear A30
    replace H := Option.bind_eq_some_iff.mp H
    obtain ⟨⟨t276, t277⟩, A40, H⟩ := H
    replace H : ((keys_Nonce.f k 2 258).bind fun bt278 => (if t273 = 0 then (if (t272.size : Int) = 48 then (if t274.toList = ([48, 49, 50, 51, 52, 53, 54, 55, 56, 57, 97, 98, 99, 100, 101, 102, 48, 49, 50, 51, 52, 53, 54, 55, 56, 57, 97, 98, 99, 100, 101, 102] : List UInt8) then (if t275 = 0 then (if t277 = 70 then (if bt278.1.toList = ([2, 0, 0, 0, 0, 0, 0, 0, 0, 0, 1, 2] : List UInt8) then (some (bt278.2 == 0)) else (some false)) else (some false)) else (some false)) else (some false)) else (some false)) else (some false))) = some r := H
    have A4 := Aside0.mk A40
    clear A40
    replace H := Option.bind_eq_some_iff.mp H
    obtain ⟨⟨t278, t279⟩, A50, H⟩ := H
    replace H : (if t273 = 0 then (if (t272.size : Int) = 48 then (if t274.toList = ([48, 49, 50, 51, 52, 53, 54, 55, 56, 57, 97, 98, 99, 100, 101, 102, 48, 49, 50, 51, 52, 53, 54, 55, 56, 57, 97, 98, 99, 100, 101, 102] : List UInt8) then (if t275 = 0 then (if t277 = 70 then (if t278.toList = ([2, 0, 0, 0, 0, 0, 0, 0, 0, 0, 1, 2] : List UInt8) then (some (t279 == 0)) else (some false)) else (some false)) else (some false)) else (some false)) else (some false)) else (some false)) = some r := H
    have A5 := Aside0.mk A50
    clear A50
    by_cases c6 : t273 = 0
    · rw [if_pos c6] at H
      have c6b0 : (t273 == 0) = true := beq_iff_eq.mpr c6
      have c6b1 : (t273 != 0) = false := bne_eq_false_iff_eq.mpr c6
      clear c6
      by_cases c7 : (t272.size : Int) = 48
      · rw [if_pos c7] at H
        have c7b0 : ((t272.size : Int) == 48) = true := beq_iff_eq.mpr c7
        have c7b1 : ((t272.size : Int) != 48) = false := bne_eq_false_iff_eq.mpr c7
        clear c7
        by_cases c8 : t274.toList = ([48, 49, 50, 51, 52, 53, 54, 55, 56, 57, 97, 98, 99, 100, 101, 102, 48, 49, 50, 51, 52, 53, 54, 55, 56, 57, 97, 98, 99, 100, 101, 102] : List UInt8)
        · rw [if_pos c8] at H
          have c8b0 : (t274.toList == ([48, 49, 50, 51, 52, 53, 54, 55, 56, 57, 97, 98, 99, 100, 101, 102, 48, 49, 50, 51, 52, 53, 54, 55, 56, 57, 97, 98, 99, 100, 101, 102] : List UInt8)) = true := beq_iff_eq.mpr c8
          have c8b1 : (t274.toList != ([48, 49, 50, 51, 52, 53, 54, 55, 56, 57, 97, 98, 99, 100, 101, 102, 48, 49, 50, 51, 52, 53, 54, 55, 56, 57, 97, 98, 99, 100, 101, 102] : List UInt8)) = false := bne_eq_false_iff_eq.mpr c8
          clear c8
          by_cases c9 : t275 = 0
          · rw [if_pos c9] at H
            have c9b0 : (t275 == 0) = true := beq_iff_eq.mpr c9
            have c9b1 : (t275 != 0) = false := bne_eq_false_iff_eq.mpr c9
            clear c9
            by_cases c10 : t277 = 70
            · rw [if_pos c10] at H
              have c10b0 : (t277 == 70) = true := beq_iff_eq.mpr c10
              have c10b1 : (t277 != 70) = false := bne_eq_false_iff_eq.mpr c10
              clear c10
              by_cases c11 : t278.toList = ([2, 0, 0, 0, 0, 0, 0, 0, 0, 0, 1, 2] : List UInt8)
              · rw [if_pos c11] at H
                have c11b0 : (t278.toList == ([2, 0, 0, 0, 0, 0, 0, 0, 0, 0, 1, 2] : List UInt8)) = true := beq_iff_eq.mpr c11
                have c11b1 : (t278.toList != ([2, 0, 0, 0, 0, 0, 0, 0, 0, 0, 1, 2] : List UInt8)) = false := bne_eq_false_iff_eq.mpr c11
                clear c11
                obtain rfl := Option.some.inj H
                go_enter Try.func16, Try.ntmps16
                go_wp2_with (first | ((with_reducible refine gate_dst (N := 11) rfl ?_); (try (refine gate_guard (by rfl) ?_; dsimp only)); refine Kd.R_make (Kd.int .u8) _ 5 rfl (N := 11) rfl 68 _ _ rfl 32 rfl rfl Try.underlying68 (.int .u8 0) 1 info5 rfl (by decide) (by omega) 0 (ok := fun _ => True) (okp := fun _ => True) rfl (fun _ hk => hk) trivial (by omega) (by omega) (Below.refl _ _) (Nat.le_refl _) ?_; intro v270 w12 ho13 hb hg_ hnew_; clear hg_ hnew_; (first | rw [← Ny269.out] at ho13 | (simp only [Int.reduceToNat] at ho13; rw [← Ny269.out] at ho13)); have n0_ := Aside0.mk (Kd.R_lower ho13 (below_size (by repeat (first | (with_reducible first | exact HB.out | apply below_alloc | apply pw_below_drewN | apply below_drew1) | exact HB.out)))); have n1_ := Aside0.mk (below_step (by repeat (first | (with_reducible first | exact HB.out | apply below_alloc | apply pw_below_drewN | apply below_drew1) | exact HB.out)) hb); clear HB; have HO271 := n0_; have HB := n1_; clear n0_ n1_; clear hb ho13; have hcv14 := own_string (P := Try.prog) Try.underlying68 Try.underlying5 Try.underlying9 (Kd.own_of_R HO271.out)) | ((with_reducible refine gate_callee (f := 54) rfl ?_); refine goesL_ (some 16) rfl rfl Try.func54 (by kernel_rfl) rfl #[.string (strOfNums y269), .int .i64 2, .int .i64 7, .string (⟨#[48, 49, 50, 51, 52, 53, 54, 55, 56, 57, 97, 98, 99, 100, 101, 102, 48, 49, 50, 51, 52, 53, 54, 55, 56, 57, 97, 98, 99, 100, 101, 102]⟩ : ByteArray)] rfl (by (try simp only [List.map_toArray, List.map_cons, List.map_nil]); first | done | rfl | (simp only [List.length_drop, List.length_take]; rfl)) ?_; (with_reducible refine (keys_Wrap.calls k (strOfNums y269) 2 7 (⟨#[48, 49, 50, 51, 52, 53, 54, 55, 56, 57, 97, 98, 99, 100, 101, 102, 48, 49, 50, 51, 52, 53, 54, 55, 56, 57, 97, 98, 99, 100, 101, 102]⟩ : ByteArray) t272 t273 _ A2.out).mono ?_); rintro e w15 ⟨rfl, hb⟩; refine ⟨_, rfl, ?_⟩; have n0_ := Aside0.mk (Kd.R_below (by (with_reducible repeat (first | apply Kd.R_alloc | apply Kd.R_drewN | apply Kd.R_drew)); exact HO271.out) hb); have n1_ := Aside0.mk (below_step (by repeat (first | (with_reducible first | exact HB.out | apply below_alloc | apply pw_below_drewN | apply below_drew1) | exact HB.out)) hb); clear HO271; clear HB; have HO271 := n0_; have HB := n1_; clear n0_ n1_; (try clear hb); (try clear hb2); (try clear hk); (try clear hi)) | ((with_reducible refine gate_callee (f := 55) rfl ?_); refine goesL_ (some 22) rfl rfl Try.func55 (by kernel_rfl) rfl #[.string (strOfNums y269), .int .i64 2, .int .i64 7, .string t272] rfl (by (try simp only [List.map_toArray, List.map_cons, List.map_nil]); first | done | rfl | (simp only [List.length_drop, List.length_take]; rfl)) ?_; (with_reducible refine (keys_Unwrap.calls k (strOfNums y269) 2 7 t272 t274 t275 _ A3.out).mono ?_); rintro e w16 ⟨rfl, hb⟩; refine ⟨_, rfl, ?_⟩; have n0_ := Aside0.mk (Kd.R_below (by (with_reducible repeat (first | apply Kd.R_alloc | apply Kd.R_drewN | apply Kd.R_drew)); exact HO271.out) hb); have n1_ := Aside0.mk (below_step (by repeat (first | (with_reducible first | exact HB.out | apply below_alloc | apply pw_below_drewN | apply below_drew1) | exact HB.out)) hb); clear HO271; clear HB; have HO271 := n0_; have HB := n1_; clear n0_ n1_; (try clear hb); (try clear hb2); (try clear hk); (try clear hi)) | ((with_reducible refine gate_callee (f := 55) rfl ?_); refine goesL_ (some 28) rfl rfl Try.func55 (by kernel_rfl) rfl #[.string (strOfNums y269), .int .i64 2, .int .i64 8, .string t272] rfl (by (try simp only [List.map_toArray, List.map_cons, List.map_nil]); first | done | rfl | (simp only [List.length_drop, List.length_take]; rfl)) ?_; (with_reducible refine (keys_Unwrap.calls k (strOfNums y269) 2 8 t272 t276 t277 _ A4.out).mono ?_); rintro e w17 ⟨rfl, hb⟩; refine ⟨_, rfl, ?_⟩; have n0_ := Aside0.mk (Kd.R_below (by (with_reducible repeat (first | apply Kd.R_alloc | apply Kd.R_drewN | apply Kd.R_drew)); exact HO271.out) hb); have n1_ := Aside0.mk (below_step (by repeat (first | (with_reducible first | exact HB.out | apply below_alloc | apply pw_below_drewN | apply below_drew1) | exact HB.out)) hb); clear HO271; clear HB; have HO271 := n0_; have HB := n1_; clear n0_ n1_; (try clear hb); (try clear hb2); (try clear hk); (try clear hi)) | ((with_reducible refine gate_callee (f := 14) rfl ?_); refine goesL_ (some 32) rfl rfl Try.func14 (by kernel_rfl) rfl #[.int .i64 2, .int .i64 258] rfl (by (try simp only [List.map_toArray, List.map_cons, List.map_nil]); first | done | rfl | (simp only [List.length_drop, List.length_take]; rfl)) ?_; (with_reducible refine (keys_Nonce.calls k 2 258 t278 t279 _ A5.out).mono ?_); rintro e w18 ⟨rfl, hb⟩; refine ⟨_, rfl, ?_⟩; have n0_ := Aside0.mk (Kd.R_below (by (with_reducible repeat (first | apply Kd.R_alloc | apply Kd.R_drewN | apply Kd.R_drew)); exact HO271.out) hb); have n1_ := Aside0.mk (below_step (by repeat (first | (with_reducible first | exact HB.out | apply below_alloc | apply pw_below_drewN | apply below_drew1) | exact HB.out)) hb); clear HO271; clear HB; have HO271 := n0_; have HB := n1_; clear n0_ n1_; (try clear hb); (try clear hb2); (try clear hk); (try clear hi)))
                go_ret
                exact ⟨by first | rfl | (simp [errW_none, errW_some] <;> rfl) | (simp [*, errW_none, errW_some] <;> rfl), by repeat (first | (with_reducible first | exact HB.out | apply below_alloc | apply pw_below_drewN | apply below_drew1) | exact HB.out)⟩
              · rw [if_neg c11] at H
                have c11b0 : (t278.toList == ([2, 0, 0, 0, 0, 0, 0, 0, 0, 0, 1, 2] : List UInt8)) = false := beq_eq_false_iff_ne.mpr c11
                have c11b1 : (t278.toList != ([2, 0, 0, 0, 0, 0, 0, 0, 0, 0, 1, 2] : List UInt8)) = true := bne_iff_ne.mpr c11
                obtain rfl := Option.some.inj H
                go_enter Try.func16, Try.ntmps16
                go_wp2_with (first | ((with_reducible refine gate_dst (N := 11) rfl ?_); (try (refine gate_guard (by rfl) ?_; dsimp only)); refine Kd.R_make (Kd.int .u8) _ 5 rfl (N := 11) rfl 68 _ _ rfl 32 rfl rfl Try.underlying68 (.int .u8 0) 1 info5 rfl (by decide) (by omega) 0 (ok := fun _ => True) (okp := fun _ => True) rfl (fun _ hk => hk) trivial (by omega) (by omega) (Below.refl _ _) (Nat.le_refl _) ?_; intro v270 w19 ho20 hb hg_ hnew_; clear hg_ hnew_; (first | rw [← Ny269.out] at ho20 | (simp only [Int.reduceToNat] at ho20; rw [← Ny269.out] at ho20)); have n0_ := Aside0.mk (Kd.R_lower ho20 (below_size (by repeat (first | (with_reducible first | exact HB.out | apply below_alloc | apply pw_below_drewN | apply below_drew1) | exact HB.out)))); have n1_ := Aside0.mk (below_step (by repeat (first | (with_reducible first | exact HB.out | apply below_alloc | apply pw_below_drewN | apply below_drew1) | exact HB.out)) hb); clear HB; have HO271 := n0_; have HB := n1_; clear n0_ n1_; clear hb ho20; have hcv21 := own_string (P := Try.prog) Try.underlying68 Try.underlying5 Try.underlying9 (Kd.own_of_R HO271.out)) | ((with_reducible refine gate_callee (f := 54) rfl ?_); refine goesL_ (some 16) rfl rfl Try.func54 (by kernel_rfl) rfl #[.string (strOfNums y269), .int .i64 2, .int .i64 7, .string (⟨#[48, 49, 50, 51, 52, 53, 54, 55, 56, 57, 97, 98, 99, 100, 101, 102, 48, 49, 50, 51, 52, 53, 54, 55, 56, 57, 97, 98, 99, 100, 101, 102]⟩ : ByteArray)] rfl (by (try simp only [List.map_toArray, List.map_cons, List.map_nil]); first | done | rfl | (simp only [List.length_drop, List.length_take]; rfl)) ?_; (with_reducible refine (keys_Wrap.calls k (strOfNums y269) 2 7 (⟨#[48, 49, 50, 51, 52, 53, 54, 55, 56, 57, 97, 98, 99, 100, 101, 102, 48, 49, 50, 51, 52, 53, 54, 55, 56, 57, 97, 98, 99, 100, 101, 102]⟩ : ByteArray) t272 t273 _ A2.out).mono ?_); rintro e w22 ⟨rfl, hb⟩; refine ⟨_, rfl, ?_⟩; have n0_ := Aside0.mk (Kd.R_below (by (with_reducible repeat (first | apply Kd.R_alloc | apply Kd.R_drewN | apply Kd.R_drew)); exact HO271.out) hb); have n1_ := Aside0.mk (below_step (by repeat (first | (with_reducible first | exact HB.out | apply below_alloc | apply pw_below_drewN | apply below_drew1) | exact HB.out)) hb); clear HO271; clear HB; have HO271 := n0_; have HB := n1_; clear n0_ n1_; (try clear hb); (try clear hb2); (try clear hk); (try clear hi)) | ((with_reducible refine gate_callee (f := 55) rfl ?_); refine goesL_ (some 22) rfl rfl Try.func55 (by kernel_rfl) rfl #[.string (strOfNums y269), .int .i64 2, .int .i64 7, .string t272] rfl (by (try simp only [List.map_toArray, List.map_cons, List.map_nil]); first | done | rfl | (simp only [List.length_drop, List.length_take]; rfl)) ?_; (with_reducible refine (keys_Unwrap.calls k (strOfNums y269) 2 7 t272 t274 t275 _ A3.out).mono ?_); rintro e w23 ⟨rfl, hb⟩; refine ⟨_, rfl, ?_⟩; have n0_ := Aside0.mk (Kd.R_below (by (with_reducible repeat (first | apply Kd.R_alloc | apply Kd.R_drewN | apply Kd.R_drew)); exact HO271.out) hb); have n1_ := Aside0.mk (below_step (by repeat (first | (with_reducible first | exact HB.out | apply below_alloc | apply pw_below_drewN | apply below_drew1) | exact HB.out)) hb); clear HO271; clear HB; have HO271 := n0_; have HB := n1_; clear n0_ n1_; (try clear hb); (try clear hb2); (try clear hk); (try clear hi)) | ((with_reducible refine gate_callee (f := 55) rfl ?_); refine goesL_ (some 28) rfl rfl Try.func55 (by kernel_rfl) rfl #[.string (strOfNums y269), .int .i64 2, .int .i64 8, .string t272] rfl (by (try simp only [List.map_toArray, List.map_cons, List.map_nil]); first | done | rfl | (simp only [List.length_drop, List.length_take]; rfl)) ?_; (with_reducible refine (keys_Unwrap.calls k (strOfNums y269) 2 8 t272 t276 t277 _ A4.out).mono ?_); rintro e w24 ⟨rfl, hb⟩; refine ⟨_, rfl, ?_⟩; have n0_ := Aside0.mk (Kd.R_below (by (with_reducible repeat (first | apply Kd.R_alloc | apply Kd.R_drewN | apply Kd.R_drew)); exact HO271.out) hb); have n1_ := Aside0.mk (below_step (by repeat (first | (with_reducible first | exact HB.out | apply below_alloc | apply pw_below_drewN | apply below_drew1) | exact HB.out)) hb); clear HO271; clear HB; have HO271 := n0_; have HB := n1_; clear n0_ n1_; (try clear hb); (try clear hb2); (try clear hk); (try clear hi)) | ((with_reducible refine gate_callee (f := 14) rfl ?_); refine goesL_ (some 32) rfl rfl Try.func14 (by kernel_rfl) rfl #[.int .i64 2, .int .i64 258] rfl (by (try simp only [List.map_toArray, List.map_cons, List.map_nil]); first | done | rfl | (simp only [List.length_drop, List.length_take]; rfl)) ?_; (with_reducible refine (keys_Nonce.calls k 2 258 t278 t279 _ A5.out).mono ?_); rintro e w25 ⟨rfl, hb⟩; refine ⟨_, rfl, ?_⟩; have n0_ := Aside0.mk (Kd.R_below (by (with_reducible repeat (first | apply Kd.R_alloc | apply Kd.R_drewN | apply Kd.R_drew)); exact HO271.out) hb); have n1_ := Aside0.mk (below_step (by repeat (first | (with_reducible first | exact HB.out | apply below_alloc | apply pw_below_drewN | apply below_drew1) | exact HB.out)) hb); clear HO271; clear HB; have HO271 := n0_; have HB := n1_; clear n0_ n1_; (try clear hb); (try clear hb2); (try clear hk); (try clear hi)))
                go_ret
                exact ⟨by first | rfl | (simp [errW_none, errW_some] <;> rfl) | (simp [*, errW_none, errW_some] <;> rfl), by repeat (first | (with_reducible first | exact HB.out | apply below_alloc | apply pw_below_drewN | apply below_drew1) | exact HB.out)⟩
            · rw [if_neg c10] at H
              have c10b0 : (t277 == 70) = false := beq_eq_false_iff_ne.mpr c10
              have c10b1 : (t277 != 70) = true := bne_iff_ne.mpr c10
              obtain rfl := Option.some.inj H
              go_enter Try.func16, Try.ntmps16
              go_wp2_with (first | ((with_reducible refine gate_dst (N := 11) rfl ?_); (try (refine gate_guard (by rfl) ?_; dsimp only)); refine Kd.R_make (Kd.int .u8) _ 5 rfl (N := 11) rfl 68 _ _ rfl 32 rfl rfl Try.underlying68 (.int .u8 0) 1 info5 rfl (by decide) (by omega) 0 (ok := fun _ => True) (okp := fun _ => True) rfl (fun _ hk => hk) trivial (by omega) (by omega) (Below.refl _ _) (Nat.le_refl _) ?_; intro v270 w26 ho27 hb hg_ hnew_; clear hg_ hnew_; (first | rw [← Ny269.out] at ho27 | (simp only [Int.reduceToNat] at ho27; rw [← Ny269.out] at ho27)); have n0_ := Aside0.mk (Kd.R_lower ho27 (below_size (by repeat (first | (with_reducible first | exact HB.out | apply below_alloc | apply pw_below_drewN | apply below_drew1) | exact HB.out)))); have n1_ := Aside0.mk (below_step (by repeat (first | (with_reducible first | exact HB.out | apply below_alloc | apply pw_below_drewN | apply below_drew1) | exact HB.out)) hb); clear HB; have HO271 := n0_; have HB := n1_; clear n0_ n1_; clear hb ho27; have hcv28 := own_string (P := Try.prog) Try.underlying68 Try.underlying5 Try.underlying9 (Kd.own_of_R HO271.out)) | ((with_reducible refine gate_callee (f := 54) rfl ?_); refine goesL_ (some 16) rfl rfl Try.func54 (by kernel_rfl) rfl #[.string (strOfNums y269), .int .i64 2, .int .i64 7, .string (⟨#[48, 49, 50, 51, 52, 53, 54, 55, 56, 57, 97, 98, 99, 100, 101, 102, 48, 49, 50, 51, 52, 53, 54, 55, 56, 57, 97, 98, 99, 100, 101, 102]⟩ : ByteArray)] rfl (by (try simp only [List.map_toArray, List.map_cons, List.map_nil]); first | done | rfl | (simp only [List.length_drop, List.length_take]; rfl)) ?_; (with_reducible refine (keys_Wrap.calls k (strOfNums y269) 2 7 (⟨#[48, 49, 50, 51, 52, 53, 54, 55, 56, 57, 97, 98, 99, 100, 101, 102, 48, 49, 50, 51, 52, 53, 54, 55, 56, 57, 97, 98, 99, 100, 101, 102]⟩ : ByteArray) t272 t273 _ A2.out).mono ?_); rintro e w29 ⟨rfl, hb⟩; refine ⟨_, rfl, ?_⟩; have n0_ := Aside0.mk (Kd.R_below (by (with_reducible repeat (first | apply Kd.R_alloc | apply Kd.R_drewN | apply Kd.R_drew)); exact HO271.out) hb); have n1_ := Aside0.mk (below_step (by repeat (first | (with_reducible first | exact HB.out | apply below_alloc | apply pw_below_drewN | apply below_drew1) | exact HB.out)) hb); clear HO271; clear HB; have HO271 := n0_; have HB := n1_; clear n0_ n1_; (try clear hb); (try clear hb2); (try clear hk); (try clear hi)) | ((with_reducible refine gate_callee (f := 55) rfl ?_); refine goesL_ (some 22) rfl rfl Try.func55 (by kernel_rfl) rfl #[.string (strOfNums y269), .int .i64 2, .int .i64 7, .string t272] rfl (by (try simp only [List.map_toArray, List.map_cons, List.map_nil]); first | done | rfl | (simp only [List.length_drop, List.length_take]; rfl)) ?_; (with_reducible refine (keys_Unwrap.calls k (strOfNums y269) 2 7 t272 t274 t275 _ A3.out).mono ?_); rintro e w30 ⟨rfl, hb⟩; refine ⟨_, rfl, ?_⟩; have n0_ := Aside0.mk (Kd.R_below (by (with_reducible repeat (first | apply Kd.R_alloc | apply Kd.R_drewN | apply Kd.R_drew)); exact HO271.out) hb); have n1_ := Aside0.mk (below_step (by repeat (first | (with_reducible first | exact HB.out | apply below_alloc | apply pw_below_drewN | apply below_drew1) | exact HB.out)) hb); clear HO271; clear HB; have HO271 := n0_; have HB := n1_; clear n0_ n1_; (try clear hb); (try clear hb2); (try clear hk); (try clear hi)) | ((with_reducible refine gate_callee (f := 55) rfl ?_); refine goesL_ (some 28) rfl rfl Try.func55 (by kernel_rfl) rfl #[.string (strOfNums y269), .int .i64 2, .int .i64 8, .string t272] rfl (by (try simp only [List.map_toArray, List.map_cons, List.map_nil]); first | done | rfl | (simp only [List.length_drop, List.length_take]; rfl)) ?_; (with_reducible refine (keys_Unwrap.calls k (strOfNums y269) 2 8 t272 t276 t277 _ A4.out).mono ?_); rintro e w31 ⟨rfl, hb⟩; refine ⟨_, rfl, ?_⟩; have n0_ := Aside0.mk (Kd.R_below (by (with_reducible repeat (first | apply Kd.R_alloc | apply Kd.R_drewN | apply Kd.R_drew)); exact HO271.out) hb); have n1_ := Aside0.mk (below_step (by repeat (first | (with_reducible first | exact HB.out | apply below_alloc | apply pw_below_drewN | apply below_drew1) | exact HB.out)) hb); clear HO271; clear HB; have HO271 := n0_; have HB := n1_; clear n0_ n1_; (try clear hb); (try clear hb2); (try clear hk); (try clear hi)) | ((with_reducible refine gate_callee (f := 14) rfl ?_); refine goesL_ (some 32) rfl rfl Try.func14 (by kernel_rfl) rfl #[.int .i64 2, .int .i64 258] rfl (by (try simp only [List.map_toArray, List.map_cons, List.map_nil]); first | done | rfl | (simp only [List.length_drop, List.length_take]; rfl)) ?_; (with_reducible refine (keys_Nonce.calls k 2 258 t278 t279 _ A5.out).mono ?_); rintro e w32 ⟨rfl, hb⟩; refine ⟨_, rfl, ?_⟩; have n0_ := Aside0.mk (Kd.R_below (by (with_reducible repeat (first | apply Kd.R_alloc | apply Kd.R_drewN | apply Kd.R_drew)); exact HO271.out) hb); have n1_ := Aside0.mk (below_step (by repeat (first | (with_reducible first | exact HB.out | apply below_alloc | apply pw_below_drewN | apply below_drew1) | exact HB.out)) hb); clear HO271; clear HB; have HO271 := n0_; have HB := n1_; clear n0_ n1_; (try clear hb); (try clear hb2); (try clear hk); (try clear hi)))
              go_ret
              exact ⟨by first | rfl | (simp [errW_none, errW_some] <;> rfl) | (simp [*, errW_none, errW_some] <;> rfl), by repeat (first | (with_reducible first | exact HB.out | apply below_alloc | apply pw_below_drewN | apply below_drew1) | exact HB.out)⟩
          · rw [if_neg c9] at H
            have c9b0 : (t275 == 0) = false := beq_eq_false_iff_ne.mpr c9
            have c9b1 : (t275 != 0) = true := bne_iff_ne.mpr c9
            obtain rfl := Option.some.inj H
            go_enter Try.func16, Try.ntmps16
            go_wp2_with (first | ((with_reducible refine gate_dst (N := 11) rfl ?_); (try (refine gate_guard (by rfl) ?_; dsimp only)); refine Kd.R_make (Kd.int .u8) _ 5 rfl (N := 11) rfl 68 _ _ rfl 32 rfl rfl Try.underlying68 (.int .u8 0) 1 info5 rfl (by decide) (by omega) 0 (ok := fun _ => True) (okp := fun _ => True) rfl (fun _ hk => hk) trivial (by omega) (by omega) (Below.refl _ _) (Nat.le_refl _) ?_; intro v270 w33 ho34 hb hg_ hnew_; clear hg_ hnew_; (first | rw [← Ny269.out] at ho34 | (simp only [Int.reduceToNat] at ho34; rw [← Ny269.out] at ho34)); have n0_ := Aside0.mk (Kd.R_lower ho34 (below_size (by repeat (first | (with_reducible first | exact HB.out | apply below_alloc | apply pw_below_drewN | apply below_drew1) | exact HB.out)))); have n1_ := Aside0.mk (below_step (by repeat (first | (with_reducible first | exact HB.out | apply below_alloc | apply pw_below_drewN | apply below_drew1) | exact HB.out)) hb); clear HB; have HO271 := n0_; have HB := n1_; clear n0_ n1_; clear hb ho34; have hcv35 := own_string (P := Try.prog) Try.underlying68 Try.underlying5 Try.underlying9 (Kd.own_of_R HO271.out)) | ((with_reducible refine gate_callee (f := 54) rfl ?_); refine goesL_ (some 16) rfl rfl Try.func54 (by kernel_rfl) rfl #[.string (strOfNums y269), .int .i64 2, .int .i64 7, .string (⟨#[48, 49, 50, 51, 52, 53, 54, 55, 56, 57, 97, 98, 99, 100, 101, 102, 48, 49, 50, 51, 52, 53, 54, 55, 56, 57, 97, 98, 99, 100, 101, 102]⟩ : ByteArray)] rfl (by (try simp only [List.map_toArray, List.map_cons, List.map_nil]); first | done | rfl | (simp only [List.length_drop, List.length_take]; rfl)) ?_; (with_reducible refine (keys_Wrap.calls k (strOfNums y269) 2 7 (⟨#[48, 49, 50, 51, 52, 53, 54, 55, 56, 57, 97, 98, 99, 100, 101, 102, 48, 49, 50, 51, 52, 53, 54, 55, 56, 57, 97, 98, 99, 100, 101, 102]⟩ : ByteArray) t272 t273 _ A2.out).mono ?_); rintro e w36 ⟨rfl, hb⟩; refine ⟨_, rfl, ?_⟩; have n0_ := Aside0.mk (Kd.R_below (by (with_reducible repeat (first | apply Kd.R_alloc | apply Kd.R_drewN | apply Kd.R_drew)); exact HO271.out) hb); have n1_ := Aside0.mk (below_step (by repeat (first | (with_reducible first | exact HB.out | apply below_alloc | apply pw_below_drewN | apply below_drew1) | exact HB.out)) hb); clear HO271; clear HB; have HO271 := n0_; have HB := n1_; clear n0_ n1_; (try clear hb); (try clear hb2); (try clear hk); (try clear hi)) | ((with_reducible refine gate_callee (f := 55) rfl ?_); refine goesL_ (some 22) rfl rfl Try.func55 (by kernel_rfl) rfl #[.string (strOfNums y269), .int .i64 2, .int .i64 7, .string t272] rfl (by (try simp only [List.map_toArray, List.map_cons, List.map_nil]); first | done | rfl | (simp only [List.length_drop, List.length_take]; rfl)) ?_; (with_reducible refine (keys_Unwrap.calls k (strOfNums y269) 2 7 t272 t274 t275 _ A3.out).mono ?_); rintro e w37 ⟨rfl, hb⟩; refine ⟨_, rfl, ?_⟩; have n0_ := Aside0.mk (Kd.R_below (by (with_reducible repeat (first | apply Kd.R_alloc | apply Kd.R_drewN | apply Kd.R_drew)); exact HO271.out) hb); have n1_ := Aside0.mk (below_step (by repeat (first | (with_reducible first | exact HB.out | apply below_alloc | apply pw_below_drewN | apply below_drew1) | exact HB.out)) hb); clear HO271; clear HB; have HO271 := n0_; have HB := n1_; clear n0_ n1_; (try clear hb); (try clear hb2); (try clear hk); (try clear hi)) | ((with_reducible refine gate_callee (f := 55) rfl ?_); refine goesL_ (some 28) rfl rfl Try.func55 (by kernel_rfl) rfl #[.string (strOfNums y269), .int .i64 2, .int .i64 8, .string t272] rfl (by (try simp only [List.map_toArray, List.map_cons, List.map_nil]); first | done | rfl | (simp only [List.length_drop, List.length_take]; rfl)) ?_; (with_reducible refine (keys_Unwrap.calls k (strOfNums y269) 2 8 t272 t276 t277 _ A4.out).mono ?_); rintro e w38 ⟨rfl, hb⟩; refine ⟨_, rfl, ?_⟩; have n0_ := Aside0.mk (Kd.R_below (by (with_reducible repeat (first | apply Kd.R_alloc | apply Kd.R_drewN | apply Kd.R_drew)); exact HO271.out) hb); have n1_ := Aside0.mk (below_step (by repeat (first | (with_reducible first | exact HB.out | apply below_alloc | apply pw_below_drewN | apply below_drew1) | exact HB.out)) hb); clear HO271; clear HB; have HO271 := n0_; have HB := n1_; clear n0_ n1_; (try clear hb); (try clear hb2); (try clear hk); (try clear hi)) | ((with_reducible refine gate_callee (f := 14) rfl ?_); refine goesL_ (some 32) rfl rfl Try.func14 (by kernel_rfl) rfl #[.int .i64 2, .int .i64 258] rfl (by (try simp only [List.map_toArray, List.map_cons, List.map_nil]); first | done | rfl | (simp only [List.length_drop, List.length_take]; rfl)) ?_; (with_reducible refine (keys_Nonce.calls k 2 258 t278 t279 _ A5.out).mono ?_); rintro e w39 ⟨rfl, hb⟩; refine ⟨_, rfl, ?_⟩; have n0_ := Aside0.mk (Kd.R_below (by (with_reducible repeat (first | apply Kd.R_alloc | apply Kd.R_drewN | apply Kd.R_drew)); exact HO271.out) hb); have n1_ := Aside0.mk (below_step (by repeat (first | (with_reducible first | exact HB.out | apply below_alloc | apply pw_below_drewN | apply below_drew1) | exact HB.out)) hb); clear HO271; clear HB; have HO271 := n0_; have HB := n1_; clear n0_ n1_; (try clear hb); (try clear hb2); (try clear hk); (try clear hi)))
            go_ret
            exact ⟨by first | rfl | (simp [errW_none, errW_some] <;> rfl) | (simp [*, errW_none, errW_some] <;> rfl), by repeat (first | (with_reducible first | exact HB.out | apply below_alloc | apply pw_below_drewN | apply below_drew1) | exact HB.out)⟩
        · rw [if_neg c8] at H
          have c8b0 : (t274.toList == ([48, 49, 50, 51, 52, 53, 54, 55, 56, 57, 97, 98, 99, 100, 101, 102, 48, 49, 50, 51, 52, 53, 54, 55, 56, 57, 97, 98, 99, 100, 101, 102] : List UInt8)) = false := beq_eq_false_iff_ne.mpr c8
          have c8b1 : (t274.toList != ([48, 49, 50, 51, 52, 53, 54, 55, 56, 57, 97, 98, 99, 100, 101, 102, 48, 49, 50, 51, 52, 53, 54, 55, 56, 57, 97, 98, 99, 100, 101, 102] : List UInt8)) = true := bne_iff_ne.mpr c8
          obtain rfl := Option.some.inj H
          go_enter Try.func16, Try.ntmps16
          go_wp2_with (first | ((with_reducible refine gate_dst (N := 11) rfl ?_); (try (refine gate_guard (by rfl) ?_; dsimp only)); refine Kd.R_make (Kd.int .u8) _ 5 rfl (N := 11) rfl 68 _ _ rfl 32 rfl rfl Try.underlying68 (.int .u8 0) 1 info5 rfl (by decide) (by omega) 0 (ok := fun _ => True) (okp := fun _ => True) rfl (fun _ hk => hk) trivial (by omega) (by omega) (Below.refl _ _) (Nat.le_refl _) ?_; intro v270 w40 ho41 hb hg_ hnew_; clear hg_ hnew_; (first | rw [← Ny269.out] at ho41 | (simp only [Int.reduceToNat] at ho41; rw [← Ny269.out] at ho41)); have n0_ := Aside0.mk (Kd.R_lower ho41 (below_size (by repeat (first | (with_reducible first | exact HB.out | apply below_alloc | apply pw_below_drewN | apply below_drew1) | exact HB.out)))); have n1_ := Aside0.mk (below_step (by repeat (first | (with_reducible first | exact HB.out | apply below_alloc | apply pw_below_drewN | apply below_drew1) | exact HB.out)) hb); clear HB; have HO271 := n0_; have HB := n1_; clear n0_ n1_; clear hb ho41; have hcv42 := own_string (P := Try.prog) Try.underlying68 Try.underlying5 Try.underlying9 (Kd.own_of_R HO271.out)) | ((with_reducible refine gate_callee (f := 54) rfl ?_); refine goesL_ (some 16) rfl rfl Try.func54 (by kernel_rfl) rfl #[.string (strOfNums y269), .int .i64 2, .int .i64 7, .string (⟨#[48, 49, 50, 51, 52, 53, 54, 55, 56, 57, 97, 98, 99, 100, 101, 102, 48, 49, 50, 51, 52, 53, 54, 55, 56, 57, 97, 98, 99, 100, 101, 102]⟩ : ByteArray)] rfl (by (try simp only [List.map_toArray, List.map_cons, List.map_nil]); first | done | rfl | (simp only [List.length_drop, List.length_take]; rfl)) ?_; (with_reducible refine (keys_Wrap.calls k (strOfNums y269) 2 7 (⟨#[48, 49, 50, 51, 52, 53, 54, 55, 56, 57, 97, 98, 99, 100, 101, 102, 48, 49, 50, 51, 52, 53, 54, 55, 56, 57, 97, 98, 99, 100, 101, 102]⟩ : ByteArray) t272 t273 _ A2.out).mono ?_); rintro e w43 ⟨rfl, hb⟩; refine ⟨_, rfl, ?_⟩; have n0_ := Aside0.mk (Kd.R_below (by (with_reducible repeat (first | apply Kd.R_alloc | apply Kd.R_drewN | apply Kd.R_drew)); exact HO271.out) hb); have n1_ := Aside0.mk (below_step (by repeat (first | (with_reducible first | exact HB.out | apply below_alloc | apply pw_below_drewN | apply below_drew1) | exact HB.out)) hb); clear HO271; clear HB; have HO271 := n0_; have HB := n1_; clear n0_ n1_; (try clear hb); (try clear hb2); (try clear hk); (try clear hi)) | ((with_reducible refine gate_callee (f := 55) rfl ?_); refine goesL_ (some 22) rfl rfl Try.func55 (by kernel_rfl) rfl #[.string (strOfNums y269), .int .i64 2, .int .i64 7, .string t272] rfl (by (try simp only [List.map_toArray, List.map_cons, List.map_nil]); first | done | rfl | (simp only [List.length_drop, List.length_take]; rfl)) ?_; (with_reducible refine (keys_Unwrap.calls k (strOfNums y269) 2 7 t272 t274 t275 _ A3.out).mono ?_); rintro e w44 ⟨rfl, hb⟩; refine ⟨_, rfl, ?_⟩; have n0_ := Aside0.mk (Kd.R_below (by (with_reducible repeat (first | apply Kd.R_alloc | apply Kd.R_drewN | apply Kd.R_drew)); exact HO271.out) hb); have n1_ := Aside0.mk (below_step (by repeat (first | (with_reducible first | exact HB.out | apply below_alloc | apply pw_below_drewN | apply below_drew1) | exact HB.out)) hb); clear HO271; clear HB; have HO271 := n0_; have HB := n1_; clear n0_ n1_; (try clear hb); (try clear hb2); (try clear hk); (try clear hi)) | ((with_reducible refine gate_callee (f := 55) rfl ?_); refine goesL_ (some 28) rfl rfl Try.func55 (by kernel_rfl) rfl #[.string (strOfNums y269), .int .i64 2, .int .i64 8, .string t272] rfl (by (try simp only [List.map_toArray, List.map_cons, List.map_nil]); first | done | rfl | (simp only [List.length_drop, List.length_take]; rfl)) ?_; (with_reducible refine (keys_Unwrap.calls k (strOfNums y269) 2 8 t272 t276 t277 _ A4.out).mono ?_); rintro e w45 ⟨rfl, hb⟩; refine ⟨_, rfl, ?_⟩; have n0_ := Aside0.mk (Kd.R_below (by (with_reducible repeat (first | apply Kd.R_alloc | apply Kd.R_drewN | apply Kd.R_drew)); exact HO271.out) hb); have n1_ := Aside0.mk (below_step (by repeat (first | (with_reducible first | exact HB.out | apply below_alloc | apply pw_below_drewN | apply below_drew1) | exact HB.out)) hb); clear HO271; clear HB; have HO271 := n0_; have HB := n1_; clear n0_ n1_; (try clear hb); (try clear hb2); (try clear hk); (try clear hi)) | ((with_reducible refine gate_callee (f := 14) rfl ?_); refine goesL_ (some 32) rfl rfl Try.func14 (by kernel_rfl) rfl #[.int .i64 2, .int .i64 258] rfl (by (try simp only [List.map_toArray, List.map_cons, List.map_nil]); first | done | rfl | (simp only [List.length_drop, List.length_take]; rfl)) ?_; (with_reducible refine (keys_Nonce.calls k 2 258 t278 t279 _ A5.out).mono ?_); rintro e w46 ⟨rfl, hb⟩; refine ⟨_, rfl, ?_⟩; have n0_ := Aside0.mk (Kd.R_below (by (with_reducible repeat (first | apply Kd.R_alloc | apply Kd.R_drewN | apply Kd.R_drew)); exact HO271.out) hb); have n1_ := Aside0.mk (below_step (by repeat (first | (with_reducible first | exact HB.out | apply below_alloc | apply pw_below_drewN | apply below_drew1) | exact HB.out)) hb); clear HO271; clear HB; have HO271 := n0_; have HB := n1_; clear n0_ n1_; (try clear hb); (try clear hb2); (try clear hk); (try clear hi)))
          go_ret
          exact ⟨by first | rfl | (simp [errW_none, errW_some] <;> rfl) | (simp [*, errW_none, errW_some] <;> rfl), by repeat (first | (with_reducible first | exact HB.out | apply below_alloc | apply pw_below_drewN | apply below_drew1) | exact HB.out)⟩
      · rw [if_neg c7] at H
        have c7b0 : ((t272.size : Int) == 48) = false := beq_eq_false_iff_ne.mpr c7
        have c7b1 : ((t272.size : Int) != 48) = true := bne_iff_ne.mpr c7
        obtain rfl := Option.some.inj H
        go_enter Try.func16, Try.ntmps16
        go_wp2_with (first | ((with_reducible refine gate_dst (N := 11) rfl ?_); (try (refine gate_guard (by rfl) ?_; dsimp only)); refine Kd.R_make (Kd.int .u8) _ 5 rfl (N := 11) rfl 68 _ _ rfl 32 rfl rfl Try.underlying68 (.int .u8 0) 1 info5 rfl (by decide) (by omega) 0 (ok := fun _ => True) (okp := fun _ => True) rfl (fun _ hk => hk) trivial (by omega) (by omega) (Below.refl _ _) (Nat.le_refl _) ?_; intro v270 w47 ho48 hb hg_ hnew_; clear hg_ hnew_; (first | rw [← Ny269.out] at ho48 | (simp only [Int.reduceToNat] at ho48; rw [← Ny269.out] at ho48)); have n0_ := Aside0.mk (Kd.R_lower ho48 (below_size (by repeat (first | (with_reducible first | exact HB.out | apply below_alloc | apply pw_below_drewN | apply below_drew1) | exact HB.out)))); have n1_ := Aside0.mk (below_step (by repeat (first | (with_reducible first | exact HB.out | apply below_alloc | apply pw_below_drewN | apply below_drew1) | exact HB.out)) hb); clear HB; have HO271 := n0_; have HB := n1_; clear n0_ n1_; clear hb ho48; have hcv49 := own_string (P := Try.prog) Try.underlying68 Try.underlying5 Try.underlying9 (Kd.own_of_R HO271.out)) | ((with_reducible refine gate_callee (f := 54) rfl ?_); refine goesL_ (some 16) rfl rfl Try.func54 (by kernel_rfl) rfl #[.string (strOfNums y269), .int .i64 2, .int .i64 7, .string (⟨#[48, 49, 50, 51, 52, 53, 54, 55, 56, 57, 97, 98, 99, 100, 101, 102, 48, 49, 50, 51, 52, 53, 54, 55, 56, 57, 97, 98, 99, 100, 101, 102]⟩ : ByteArray)] rfl (by (try simp only [List.map_toArray, List.map_cons, List.map_nil]); first | done | rfl | (simp only [List.length_drop, List.length_take]; rfl)) ?_; (with_reducible refine (keys_Wrap.calls k (strOfNums y269) 2 7 (⟨#[48, 49, 50, 51, 52, 53, 54, 55, 56, 57, 97, 98, 99, 100, 101, 102, 48, 49, 50, 51, 52, 53, 54, 55, 56, 57, 97, 98, 99, 100, 101, 102]⟩ : ByteArray) t272 t273 _ A2.out).mono ?_); rintro e w50 ⟨rfl, hb⟩; refine ⟨_, rfl, ?_⟩; have n0_ := Aside0.mk (Kd.R_below (by (with_reducible repeat (first | apply Kd.R_alloc | apply Kd.R_drewN | apply Kd.R_drew)); exact HO271.out) hb); have n1_ := Aside0.mk (below_step (by repeat (first | (with_reducible first | exact HB.out | apply below_alloc | apply pw_below_drewN | apply below_drew1) | exact HB.out)) hb); clear HO271; clear HB; have HO271 := n0_; have HB := n1_; clear n0_ n1_; (try clear hb); (try clear hb2); (try clear hk); (try clear hi)) | ((with_reducible refine gate_callee (f := 55) rfl ?_); refine goesL_ (some 22) rfl rfl Try.func55 (by kernel_rfl) rfl #[.string (strOfNums y269), .int .i64 2, .int .i64 7, .string t272] rfl (by (try simp only [List.map_toArray, List.map_cons, List.map_nil]); first | done | rfl | (simp only [List.length_drop, List.length_take]; rfl)) ?_; (with_reducible refine (keys_Unwrap.calls k (strOfNums y269) 2 7 t272 t274 t275 _ A3.out).mono ?_); rintro e w51 ⟨rfl, hb⟩; refine ⟨_, rfl, ?_⟩; have n0_ := Aside0.mk (Kd.R_below (by (with_reducible repeat (first | apply Kd.R_alloc | apply Kd.R_drewN | apply Kd.R_drew)); exact HO271.out) hb); have n1_ := Aside0.mk (below_step (by repeat (first | (with_reducible first | exact HB.out | apply below_alloc | apply pw_below_drewN | apply below_drew1) | exact HB.out)) hb); clear HO271; clear HB; have HO271 := n0_; have HB := n1_; clear n0_ n1_; (try clear hb); (try clear hb2); (try clear hk); (try clear hi)) | ((with_reducible refine gate_callee (f := 55) rfl ?_); refine goesL_ (some 28) rfl rfl Try.func55 (by kernel_rfl) rfl #[.string (strOfNums y269), .int .i64 2, .int .i64 8, .string t272] rfl (by (try simp only [List.map_toArray, List.map_cons, List.map_nil]); first | done | rfl | (simp only [List.length_drop, List.length_take]; rfl)) ?_; (with_reducible refine (keys_Unwrap.calls k (strOfNums y269) 2 8 t272 t276 t277 _ A4.out).mono ?_); rintro e w52 ⟨rfl, hb⟩; refine ⟨_, rfl, ?_⟩; have n0_ := Aside0.mk (Kd.R_below (by (with_reducible repeat (first | apply Kd.R_alloc | apply Kd.R_drewN | apply Kd.R_drew)); exact HO271.out) hb); have n1_ := Aside0.mk (below_step (by repeat (first | (with_reducible first | exact HB.out | apply below_alloc | apply pw_below_drewN | apply below_drew1) | exact HB.out)) hb); clear HO271; clear HB; have HO271 := n0_; have HB := n1_; clear n0_ n1_; (try clear hb); (try clear hb2); (try clear hk); (try clear hi)) | ((with_reducible refine gate_callee (f := 14) rfl ?_); refine goesL_ (some 32) rfl rfl Try.func14 (by kernel_rfl) rfl #[.int .i64 2, .int .i64 258] rfl (by (try simp only [List.map_toArray, List.map_cons, List.map_nil]); first | done | rfl | (simp only [List.length_drop, List.length_take]; rfl)) ?_; (with_reducible refine (keys_Nonce.calls k 2 258 t278 t279 _ A5.out).mono ?_); rintro e w53 ⟨rfl, hb⟩; refine ⟨_, rfl, ?_⟩; have n0_ := Aside0.mk (Kd.R_below (by (with_reducible repeat (first | apply Kd.R_alloc | apply Kd.R_drewN | apply Kd.R_drew)); exact HO271.out) hb); have n1_ := Aside0.mk (below_step (by repeat (first | (with_reducible first | exact HB.out | apply below_alloc | apply pw_below_drewN | apply below_drew1) | exact HB.out)) hb); clear HO271; clear HB; have HO271 := n0_; have HB := n1_; clear n0_ n1_; (try clear hb); (try clear hb2); (try clear hk); (try clear hi)))
        go_ret
        exact ⟨by first | rfl | (simp [errW_none, errW_some] <;> rfl) | (simp [*, errW_none, errW_some] <;> rfl), by repeat (first | (with_reducible first | exact HB.out | apply below_alloc | apply pw_below_drewN | apply below_drew1) | exact HB.out)⟩
    · rw [if_neg c6] at H
      have c6b0 : (t273 == 0) = false := beq_eq_false_iff_ne.mpr c6
      have c6b1 : (t273 != 0) = true := bne_iff_ne.mpr c6
      obtain rfl := Option.some.inj H
      go_enter Try.func16, Try.ntmps16
      go_wp2_with (first | ((with_reducible refine gate_dst (N := 11) rfl ?_); (try (refine gate_guard (by rfl) ?_; dsimp only)); refine Kd.R_make (Kd.int .u8) _ 5 rfl (N := 11) rfl 68 _ _ rfl 32 rfl rfl Try.underlying68 (.int .u8 0) 1 info5 rfl (by decide) (by omega) 0 (ok := fun _ => True) (okp := fun _ => True) rfl (fun _ hk => hk) trivial (by omega) (by omega) (Below.refl _ _) (Nat.le_refl _) ?_; intro v270 w54 ho55 hb hg_ hnew_; clear hg_ hnew_; (first | rw [← Ny269.out] at ho55 | (simp only [Int.reduceToNat] at ho55; rw [← Ny269.out] at ho55)); have n0_ := Aside0.mk (Kd.R_lower ho55 (below_size (by repeat (first | (with_reducible first | exact HB.out | apply below_alloc | apply pw_below_drewN | apply below_drew1) | exact HB.out)))); have n1_ := Aside0.mk (below_step (by repeat (first | (with_reducible first | exact HB.out | apply below_alloc | apply pw_below_drewN | apply below_drew1) | exact HB.out)) hb); clear HB; have HO271 := n0_; have HB := n1_; clear n0_ n1_; clear hb ho55; have hcv56 := own_string (P := Try.prog) Try.underlying68 Try.underlying5 Try.underlying9 (Kd.own_of_R HO271.out)) | ((with_reducible refine gate_callee (f := 54) rfl ?_); refine goesL_ (some 16) rfl rfl Try.func54 (by kernel_rfl) rfl #[.string (strOfNums y269), .int .i64 2, .int .i64 7, .string (⟨#[48, 49, 50, 51, 52, 53, 54, 55, 56, 57, 97, 98, 99, 100, 101, 102, 48, 49, 50, 51, 52, 53, 54, 55, 56, 57, 97, 98, 99, 100, 101, 102]⟩ : ByteArray)] rfl (by (try simp only [List.map_toArray, List.map_cons, List.map_nil]); first | done | rfl | (simp only [List.length_drop, List.length_take]; rfl)) ?_; (with_reducible refine (keys_Wrap.calls k (strOfNums y269) 2 7 (⟨#[48, 49, 50, 51, 52, 53, 54, 55, 56, 57, 97, 98, 99, 100, 101, 102, 48, 49, 50, 51, 52, 53, 54, 55, 56, 57, 97, 98, 99, 100, 101, 102]⟩ : ByteArray) t272 t273 _ A2.out).mono ?_); rintro e w57 ⟨rfl, hb⟩; refine ⟨_, rfl, ?_⟩; have n0_ := Aside0.mk (Kd.R_below (by (with_reducible repeat (first | apply Kd.R_alloc | apply Kd.R_drewN | apply Kd.R_drew)); exact HO271.out) hb); have n1_ := Aside0.mk (below_step (by repeat (first | (with_reducible first | exact HB.out | apply below_alloc | apply pw_below_drewN | apply below_drew1) | exact HB.out)) hb); clear HO271; clear HB; have HO271 := n0_; have HB := n1_; clear n0_ n1_; (try clear hb); (try clear hb2); (try clear hk); (try clear hi)) | ((with_reducible refine gate_callee (f := 55) rfl ?_); refine goesL_ (some 22) rfl rfl Try.func55 (by kernel_rfl) rfl #[.string (strOfNums y269), .int .i64 2, .int .i64 7, .string t272] rfl (by (try simp only [List.map_toArray, List.map_cons, List.map_nil]); first | done | rfl | (simp only [List.length_drop, List.length_take]; rfl)) ?_; (with_reducible refine (keys_Unwrap.calls k (strOfNums y269) 2 7 t272 t274 t275 _ A3.out).mono ?_); rintro e w58 ⟨rfl, hb⟩; refine ⟨_, rfl, ?_⟩; have n0_ := Aside0.mk (Kd.R_below (by (with_reducible repeat (first | apply Kd.R_alloc | apply Kd.R_drewN | apply Kd.R_drew)); exact HO271.out) hb); have n1_ := Aside0.mk (below_step (by repeat (first | (with_reducible first | exact HB.out | apply below_alloc | apply pw_below_drewN | apply below_drew1) | exact HB.out)) hb); clear HO271; clear HB; have HO271 := n0_; have HB := n1_; clear n0_ n1_; (try clear hb); (try clear hb2); (try clear hk); (try clear hi)) | ((with_reducible refine gate_callee (f := 55) rfl ?_); refine goesL_ (some 28) rfl rfl Try.func55 (by kernel_rfl) rfl #[.string (strOfNums y269), .int .i64 2, .int .i64 8, .string t272] rfl (by (try simp only [List.map_toArray, List.map_cons, List.map_nil]); first | done | rfl | (simp only [List.length_drop, List.length_take]; rfl)) ?_; (with_reducible refine (keys_Unwrap.calls k (strOfNums y269) 2 8 t272 t276 t277 _ A4.out).mono ?_); rintro e w59 ⟨rfl, hb⟩; refine ⟨_, rfl, ?_⟩; have n0_ := Aside0.mk (Kd.R_below (by (with_reducible repeat (first | apply Kd.R_alloc | apply Kd.R_drewN | apply Kd.R_drew)); exact HO271.out) hb); have n1_ := Aside0.mk (below_step (by repeat (first | (with_reducible first | exact HB.out | apply below_alloc | apply pw_below_drewN | apply below_drew1) | exact HB.out)) hb); clear HO271; clear HB; have HO271 := n0_; have HB := n1_; clear n0_ n1_; (try clear hb); (try clear hb2); (try clear hk); (try clear hi)) | ((with_reducible refine gate_callee (f := 14) rfl ?_); refine goesL_ (some 32) rfl rfl Try.func14 (by kernel_rfl) rfl #[.int .i64 2, .int .i64 258] rfl (by (try simp only [List.map_toArray, List.map_cons, List.map_nil]); first | done | rfl | (simp only [List.length_drop, List.length_take]; rfl)) ?_; (with_reducible refine (keys_Nonce.calls k 2 258 t278 t279 _ A5.out).mono ?_); rintro e w60 ⟨rfl, hb⟩; refine ⟨_, rfl, ?_⟩; have n0_ := Aside0.mk (Kd.R_below (by (with_reducible repeat (first | apply Kd.R_alloc | apply Kd.R_drewN | apply Kd.R_drew)); exact HO271.out) hb); have n1_ := Aside0.mk (below_step (by repeat (first | (with_reducible first | exact HB.out | apply below_alloc | apply pw_below_drewN | apply below_drew1) | exact HB.out)) hb); clear HO271; clear HB; have HO271 := n0_; have HB := n1_; clear n0_ n1_; (try clear hb); (try clear hb2); (try clear hk); (try clear hi)))
      go_ret
      exact ⟨by first | rfl | (simp [errW_none, errW_some] <;> rfl) | (simp [*, errW_none, errW_some] <;> rfl), by repeat (first | (with_reducible first | exact HB.out | apply below_alloc | apply pw_below_drewN | apply below_drew1) | exact HB.out)⟩
  · rw [if_neg c1] at H
    exact absurd H (by simp)
end Go.Proofs.Ytbkbganflnemeaa.Pr
end

section
namespace Go.Proofs.Ytbkbganflnemeaa.Pr
open Go.RowKit Go.Proofs.YtbkbganflnemeaaW.PrintWords Go.Proofs.YtbkbganflnemeaaW.PrintLast Go.Proofs.YtbkbganflnemeaaW.PrintMore
attribute [local go_sem] max2_int min2_int max_two min_two max_three min_three max_four min_four   -- for this text's walks alone
set_option linter.unusedVariables false
set_option linter.unusedSimpArgs false
def samphirelaw15_light.f (a0 : ByteArray) (a1 : ByteArray) : Option (Bool) := if (a0.size : Int) ≤ 256 then (some (decide ((a1.size : Int) ≤ 256))) else (some false)
set_option maxHeartbeats 8000000 in
set_option maxRecDepth 100000 in
theorem samphirelaw15_light.calls (a0 : ByteArray) (a1 : ByteArray) (r : Bool) (w : World) (h : samphirelaw15_light.f a0 a1 = some r) :
    Calls Try.prog 17 #[.string a0, .string a1] w fun e w' => e = .returned (.bool r) ∧ Drawn0 w w' := by
  have H : (if (a0.size : Int) ≤ 256 then (some (decide ((a1.size : Int) ≤ 256))) else (some false)) = some r := h
  clear h
  by_cases c3 : (a0.size : Int) ≤ 256
  · rw [if_pos c3] at H
    have c3b0 : decide ((a0.size : Int) ≤ 256) = true := decide_eq_true c3
    have c3b1 : decide (a0.size ≤ 256) = true := decide_eq_true (by omega)
    clear c3
    obtain rfl := Option.some.inj H
    go_enter Try.func17, Try.ntmps17
    go_wp2
    go_ret
    exact ⟨by first | rfl | (simp; done) | (simp [*]; done), by repeat (first | exact Drawn0.refl _ | apply Drawn0.step)⟩
  · rw [if_neg c3] at H
    have c3b0 : decide ((a0.size : Int) ≤ 256) = false := decide_eq_false c3
    have c3b1 : decide (a0.size ≤ 256) = false := decide_eq_false (by omega)
    clear c3
    obtain rfl := Option.some.inj H
    go_enter Try.func17, Try.ntmps17
    go_wp2
    go_ret
    exact ⟨by first | rfl | (simp; done) | (simp [*]; done), by repeat (first | exact Drawn0.refl _ | apply Drawn0.step)⟩
end Go.Proofs.Ytbkbganflnemeaa.Pr
end

section
namespace Go.Proofs.Ytbkbganflnemeaa.Pr
open Go.RowKit Go.Proofs.YtbkbganflnemeaaW.PrintWords Go.Proofs.YtbkbganflnemeaaW.PrintLast Go.Proofs.YtbkbganflnemeaaW.PrintMore
attribute [local go_sem] max2_int min2_int max_two min_two max_three min_three max_four min_four   -- for this text's walks alone
set_option linter.unusedVariables false
set_option linter.unusedSimpArgs false
def hkdf_Extract.f (a0 : ByteArray) (a1 : ByteArray) : Option (ByteArray) := if a0.toList = ([] : List UInt8) then ((strings_Repeat.f (⟨#[0]⟩ : ByteArray) 32).bind fun t329 => ((hmac_Mac.f t329 a1).bind fun t330 => (some t330))) else ((hmac_Mac.f a0 a1).bind fun t331 => (some t331))
set_option maxHeartbeats 8000000 in
set_option maxRecDepth 100000 in
theorem hkdf_Extract.calls (a0 : ByteArray) (a1 : ByteArray) (r : ByteArray) (w : World) (h : hkdf_Extract.f a0 a1 = some r) :
    Calls Try.prog 94 #[.string a0, .string a1] w fun e w' => e = .returned (.string r) ∧ Below w.heap.size w w' := by
  have HB := Aside0.mk (Below.refl w.heap.size w)
  have H : (if a0.toList = ([] : List UInt8) then ((strings_Repeat.f (⟨#[0]⟩ : ByteArray) 32).bind fun t329 => ((hmac_Mac.f t329 a1).bind fun t330 => (some t330))) else ((hmac_Mac.f a0 a1).bind fun t331 => (some t331))) = some r := h
  clear h
  by_cases c3 : a0.toList = ([] : List UInt8)
  · rw [if_pos c3] at H
    have c3b0 : (a0.toList == ([] : List UInt8)) = true := beq_iff_eq.mpr c3
    have c3b1 : (a0.toList != ([] : List UInt8)) = false := bne_eq_false_iff_eq.mpr c3
    clear c3
    replace H := Option.bind_eq_some_iff.mp H
    obtain ⟨t329, A40, H⟩ := H
    replace H : ((hmac_Mac.f t329 a1).bind fun t330 => (some t330)) = some r := H
    have A4 := Aside0.mk A40
    clear A40
    replace H := Option.bind_eq_some_iff.mp H
    obtain ⟨t330, A50, H⟩ := H
    replace H : (some t330) = some r := H
    have A5 := Aside0.mk A50
    clear A50
    obtain rfl := Option.some.inj H
    go_enter Try.func94, Try.ntmps94
    go_wp2_with (first | ((with_reducible refine gate_callee (f := 51) rfl ?_); refine goesL_ (some 7) rfl rfl Try.func51 (by kernel_rfl) rfl #[.string (⟨#[0]⟩ : ByteArray), .int .i64 32] rfl (by (try simp only [List.map_toArray, List.map_cons, List.map_nil]); first | done | rfl | (simp only [List.length_drop, List.length_take]; rfl)) ?_; (with_reducible refine (strings_Repeat.calls (⟨#[0]⟩ : ByteArray) 32 t329 _ A4.out).mono ?_); rintro e w6 ⟨rfl, hb⟩; refine ⟨_, rfl, ?_⟩; have n0_ := Aside0.mk (below_step (by repeat (first | (with_reducible first | exact HB.out | apply below_alloc | apply pw_below_drewN | apply below_drew1) | exact HB.out)) hb); clear HB; have HB := n0_; clear n0_; (try clear hb); (try clear hb2); (try clear hk); (try clear hi)) | ((with_reducible refine gate_callee (f := 124) rfl ?_); refine goesL_ (some 10) rfl rfl Try.func124 (by kernel_rfl) rfl #[.string t329, .string a1] rfl (by (try simp only [List.map_toArray, List.map_cons, List.map_nil]); first | done | rfl | (simp only [List.length_drop, List.length_take]; rfl)) ?_; (with_reducible refine (hmac_Mac.calls t329 a1 t330 _ A5.out).mono ?_); rintro e w7 ⟨rfl, hb⟩; refine ⟨_, rfl, ?_⟩; have n0_ := Aside0.mk (below_step (by repeat (first | (with_reducible first | exact HB.out | apply below_alloc | apply pw_below_drewN | apply below_drew1) | exact HB.out)) hb); clear HB; have HB := n0_; clear n0_; (try clear hb); (try clear hb2); (try clear hk); (try clear hi)))
    go_ret
    exact ⟨by first | rfl | (simp [errW_none, errW_some] <;> rfl) | (simp [*, errW_none, errW_some] <;> rfl), by repeat (first | (with_reducible first | exact HB.out | apply below_alloc | apply pw_below_drewN | apply below_drew1) | exact HB.out)⟩
  · rw [if_neg c3] at H
    have c3b0 : (a0.toList == ([] : List UInt8)) = false := beq_eq_false_iff_ne.mpr c3
    have c3b1 : (a0.toList != ([] : List UInt8)) = true := bne_iff_ne.mpr c3
    replace H := Option.bind_eq_some_iff.mp H
    obtain ⟨t331, A80, H⟩ := H
    replace H : (some t331) = some r := H
    have A8 := Aside0.mk A80
    clear A80
    obtain rfl := Option.some.inj H
    go_enter Try.func94, Try.ntmps94
    go_wp2_with (first | ((with_reducible refine gate_callee (f := 124) rfl ?_); refine goesL_ (some 10) rfl rfl Try.func124 (by kernel_rfl) rfl #[.string a0, .string a1] rfl (by (try simp only [List.map_toArray, List.map_cons, List.map_nil]); first | done | rfl | (simp only [List.length_drop, List.length_take]; rfl)) ?_; (with_reducible refine (hmac_Mac.calls a0 a1 t331 _ A8.out).mono ?_); rintro e w9 ⟨rfl, hb⟩; refine ⟨_, rfl, ?_⟩; have n0_ := Aside0.mk (below_step (by repeat (first | (with_reducible first | exact HB.out | apply below_alloc | apply pw_below_drewN | apply below_drew1) | exact HB.out)) hb); clear HB; have HB := n0_; clear n0_; (try clear hb); (try clear hb2); (try clear hk); (try clear hi)))
    go_ret
    exact ⟨by first | rfl | (simp [errW_none, errW_some] <;> rfl) | (simp [*, errW_none, errW_some] <;> rfl), by repeat (first | (with_reducible first | exact HB.out | apply below_alloc | apply pw_below_drewN | apply below_drew1) | exact HB.out)⟩
end Go.Proofs.Ytbkbganflnemeaa.Pr
end

section
namespace Go.Proofs.Ytbkbganflnemeaa.Pr
open Go.RowKit Go.Proofs.YtbkbganflnemeaaW.PrintWords Go.Proofs.YtbkbganflnemeaaW.PrintLast Go.Proofs.YtbkbganflnemeaaW.PrintMore
attribute [local go_sem] max2_int min2_int max_two min_two max_three min_three max_four min_four   -- for this text's walks alone
set_option linter.unusedVariables false
set_option linter.unusedSimpArgs false
def samphireref09_Done.f (a0_0 : ByteArray) (a0_1 : Bool) : Option (ByteArray × Int) := if a0_1 = true then (some ((⟨#[]⟩ : ByteArray), 1)) else (some (a0_0, 0))
set_option maxHeartbeats 8000000 in
set_option maxRecDepth 100000 in
theorem samphireref09_Done.calls (a0_0 : ByteArray) (a0_1 : Bool) (r1 : ByteArray) (r2 : Int) (w : World) (h : samphireref09_Done.f a0_0 a0_1 = some (r1, r2)) :
    Calls Try.prog 90 #[.agg #[.string a0_0, .bool a0_1]] w fun e w' => e = .returned (.tuple #[.string r1, .int .i64 r2]) ∧ Below w.heap.size w w' := by
  have hu126 := Try.underlying126
  have HB := Aside0.mk (Below.refl w.heap.size w)
  have H : (if a0_1 = true then (some ((⟨#[]⟩ : ByteArray), 1)) else (some (a0_0, 0))) = some (r1, r2) := h
  clear h
  by_cases c2 : a0_1 = true
  · subst c2
    have H1 : (some ((⟨#[]⟩ : ByteArray), 1)) = some (r1, r2) := by rw [if_pos rfl] at H; exact H
    clear H
    have H := H1
    clear H1
    simp only [Option.some.injEq, Prod.mk.injEq] at H
    obtain ⟨rfl, rfl⟩ := H
    go_enter Try.func90, Try.ntmps90
    go_wp2_with (first | ((with_reducible refine gate_dst (N := 1) rfl ?_); refine box_event ?hg (N := 1) ?hd (cs := #[.string a0_0, .bool true]) (t := 126) ?hr ?_; (case hd => rfl); (case hg => rfl); (case hr => first | (go_simp; done) | (go_simp; rfl)); intro gb113 hg w3 hbox hb; have n0_ := Aside0.mk (below_step (by repeat (first | (with_reducible first | exact HB.out | apply below_alloc | apply pw_below_drewN | apply below_drew1) | exact HB.out)) hb); have n1_ := Aside0.mk (hbox); have n2_ := Aside0.mk ((by rw [hg]; exact (below_size (by repeat (first | (with_reducible first | exact HB.out | apply below_alloc | apply pw_below_drewN | apply below_drew1) | exact HB.out))) : w.heap.size ≤ gb113)); have n3_ := Aside0.mk ((by rw [hg]; exact (below_size (by repeat (first | (with_reducible first | exact HB.out | apply below_alloc | apply pw_below_drewN | apply below_drew1) | exact HB.out))) : w.heap.size ≤ gb113)); clear HB; have HB := n0_; have BK113 := n1_; have GW113 := n2_; have GE113 := n3_; clear n0_ n1_ n2_ n3_; clear hb hbox hg; have hcz4_0 : w3.cell? ⟨gb113, 0, none⟩ = some (.string a0_0) := (blk_cell BK113.out 0).trans rfl; have hcz4_1 : w3.cell? ⟨gb113, 1, none⟩ = some (.bool true) := (blk_cell BK113.out 1).trans rfl; have hfz4_0 := blk_frozen BK113.out 0; have hfz4_1 := blk_frozen BK113.out 1))
    go_ret2
    exact ⟨by first | rfl | (simp [errW_none, errW_some] <;> rfl) | (simp [*, errW_none, errW_some] <;> rfl), by repeat (first | (with_reducible first | exact HB.out | apply below_alloc | apply pw_below_drewN | apply below_drew1 | refine below_set ?_ GE113.out) | exact HB.out)⟩
  · replace c2 := Bool.eq_false_iff.mpr c2
    subst c2
    have H1 : (some (a0_0, 0)) = some (r1, r2) := by rw [if_neg (show ¬ (false = true) by decide)] at H; exact H
    clear H
    have H := H1
    clear H1
    simp only [Option.some.injEq, Prod.mk.injEq] at H
    obtain ⟨rfl, rfl⟩ := H
    go_enter Try.func90, Try.ntmps90
    go_wp2_with (first | ((with_reducible refine gate_dst (N := 1) rfl ?_); refine box_event ?hg (N := 1) ?hd (cs := #[.string a0_0, .bool false]) (t := 126) ?hr ?_; (case hd => rfl); (case hg => rfl); (case hr => first | (go_simp; done) | (go_simp; rfl)); intro gb113 hg w5 hbox hb; have n0_ := Aside0.mk (below_step (by repeat (first | (with_reducible first | exact HB.out | apply below_alloc | apply pw_below_drewN | apply below_drew1) | exact HB.out)) hb); have n1_ := Aside0.mk (hbox); have n2_ := Aside0.mk ((by rw [hg]; exact (below_size (by repeat (first | (with_reducible first | exact HB.out | apply below_alloc | apply pw_below_drewN | apply below_drew1) | exact HB.out))) : w.heap.size ≤ gb113)); have n3_ := Aside0.mk ((by rw [hg]; exact (below_size (by repeat (first | (with_reducible first | exact HB.out | apply below_alloc | apply pw_below_drewN | apply below_drew1) | exact HB.out))) : w.heap.size ≤ gb113)); clear HB; have HB := n0_; have BK113 := n1_; have GW113 := n2_; have GE113 := n3_; clear n0_ n1_ n2_ n3_; clear hb hbox hg; have hcz6_0 : w5.cell? ⟨gb113, 0, none⟩ = some (.string a0_0) := (blk_cell BK113.out 0).trans rfl; have hcz6_1 : w5.cell? ⟨gb113, 1, none⟩ = some (.bool false) := (blk_cell BK113.out 1).trans rfl; have hfz6_0 := blk_frozen BK113.out 0; have hfz6_1 := blk_frozen BK113.out 1))
    go_ret2
    exact ⟨by first | rfl | (simp [errW_none, errW_some] <;> rfl) | (simp [*, errW_none, errW_some] <;> rfl), by repeat (first | (with_reducible first | exact HB.out | apply below_alloc | apply pw_below_drewN | apply below_drew1 | refine below_set ?_ GE113.out) | exact HB.out)⟩
end Go.Proofs.Ytbkbganflnemeaa.Pr
end

section
namespace Go.Proofs.Ytbkbganflnemeaa.Pr
open Go.RowKit Go.Proofs.YtbkbganflnemeaaW.PrintWords Go.Proofs.YtbkbganflnemeaaW.PrintLast Go.Proofs.YtbkbganflnemeaaW.PrintMore
set_option maxHeartbeats 1000000
set_option linter.unusedVariables false
set_option linter.unusedSimpArgs false
def samphireref09_with.f (a0_0 : ByteArray) (a0_1 : Bool) (a1 : ByteArray) (a2 : Bool) : Option (ByteArray × Bool) :=
  if a0_0.size ≤ 1000000000000000 ∧ a1.size ≤ 1000000000000000 then some (if a2 = false ∨ a0_1 = true ∨ 65536 < a0_0.size + a1.size then (a0_0, true) else (a0_0 ++ a1, false)) else none
theorem with_no (S x : ByteArray) (b : Bool) (w : World) : Calls Try.prog 122 #[.agg #[.string S, .bool b], .string x, .bool false] w fun e w' => e = .returned (.agg #[.string S, .bool true]) ∧ Below w.heap.size w w' := by
  go_enter Try.func122, Try.ntmps122
  go_wp2_with (fail)
  refine bodyPost_ret (v := .agg #[.string S, .bool true]) (by simp [results, Try.results122, go_sem]) rfl ⟨rfl, ?_⟩
  exact below_alloc (below_alloc (Below.refl _ _) _) _
theorem with_bad (S x : ByteArray) (w : World) : Calls Try.prog 122 #[.agg #[.string S, .bool true], .string x, .bool true] w fun e w' => e = .returned (.agg #[.string S, .bool true]) ∧ Below w.heap.size w w' := by
  go_enter Try.func122, Try.ntmps122
  go_wp2_with (fail)
  refine bodyPost_ret (v := .agg #[.string S, .bool true]) (by simp [results, Try.results122, go_sem]) rfl ⟨rfl, ?_⟩
  exact below_alloc (below_alloc (Below.refl _ _) _) _
theorem with_big (S x : ByteArray) (w : World) (hS : S.size ≤ 1000000000000000) (hx : x.size ≤ 1000000000000000) (h : 65536 < S.size + x.size) : Calls Try.prog 122 #[.agg #[.string S, .bool false], .string x, .bool true] w fun e w' => e = .returned (.agg #[.string S, .bool true]) ∧ Below w.heap.size w w' := by
  have d : decide (65536 < (S.size : Int) + (x.size : Int)) = true := decide_eq_true (by omega)
  go_enter Try.func122, Try.ntmps122
  go_wp2_with (fail)
  refine bodyPost_ret (v := .agg #[.string S, .bool true]) (by simp [results, Try.results122, go_sem]) rfl ⟨rfl, ?_⟩
  exact below_alloc (below_alloc (Below.refl _ _) _) _
theorem with_yes (S x : ByteArray) (w : World) (h : S.size + x.size ≤ 65536) : Calls Try.prog 122 #[.agg #[.string S, .bool false], .string x, .bool true] w fun e w' => e = .returned (.agg #[.string (S ++ x), .bool false]) ∧ Below w.heap.size w w' := by
  have d : decide (65536 < (S.size : Int) + (x.size : Int)) = false := decide_eq_false (by omega)
  have k1 : S.size + x.size ≤ 9223372036854775807 := by omega
  go_enter Try.func122, Try.ntmps122
  go_wp2_with (fail)
  refine bodyPost_ret (v := .agg #[.string (S ++ x), .bool false]) (by simp [results, Try.results122, go_sem]) rfl ⟨rfl, ?_⟩
  exact below_alloc (below_alloc (Below.refl _ _) _) _
theorem samphireref09_with.calls (a0_0 : ByteArray) (a0_1 : Bool) (a1 : ByteArray) (a2 : Bool) (r1 : ByteArray) (r2 : Bool) (w : World) (h : samphireref09_with.f a0_0 a0_1 a1 a2 = some (r1, r2)) :
    Calls Try.prog 122 #[.agg #[.string a0_0, .bool a0_1], .string a1, .bool a2] w fun e w' => e = .returned (.agg #[.string r1, .bool r2]) ∧ Below w.heap.size w w' := by
  unfold samphireref09_with.f at h
  by_cases hs : a0_0.size ≤ 1000000000000000 ∧ a1.size ≤ 1000000000000000
  · rw [if_pos hs] at h
    have h := Option.some.inj h
    cases a2 with
    | false =>
      rw [if_pos (.inl rfl)] at h
      simp only [Prod.mk.injEq] at h
      obtain ⟨rfl, rfl⟩ := h
      exact with_no _ _ _ w
    | true =>
      cases a0_1 with
      | true =>
        rw [if_pos (.inr (.inl rfl))] at h
        simp only [Prod.mk.injEq] at h
        obtain ⟨rfl, rfl⟩ := h
        exact with_bad _ _ w
      | false =>
        by_cases hb : 65536 < a0_0.size + a1.size
        · rw [if_pos (.inr (.inr hb))] at h
          simp only [Prod.mk.injEq] at h
          obtain ⟨rfl, rfl⟩ := h
          exact with_big _ _ w hs.1 hs.2 hb
        · rw [if_neg (by rintro (h | h | h); cases h; cases h; exact hb h)] at h
          simp only [Prod.mk.injEq] at h
          obtain ⟨rfl, rfl⟩ := h
          exact with_yes _ _ w (by omega)
  · rw [if_neg hs] at h
    cases h
end Go.Proofs.Ytbkbganflnemeaa.Pr
end

section
namespace Go.Proofs.Ytbkbganflnemeaa.Pr
open Go.RowKit Go.Proofs.YtbkbganflnemeaaW.PrintWords Go.Proofs.YtbkbganflnemeaaW.PrintLast Go.Proofs.YtbkbganflnemeaaW.PrintMore
attribute [local go_sem] max2_int min2_int max_two min_two max_three min_three max_four min_four   -- for this text's walks alone
set_option linter.unusedVariables false
set_option linter.unusedSimpArgs false
def samphireref09_big.l0 : Nat → Int → List Int → Int → Option (ByteArray)
  | 0, _, _, _ => none
  | k + 1, x0, x5, x6 => if x6 ≥ 0 then (if 0 ≤ (wrap64 (8 * x6)) then (if x5.length < 140737488355328 then (samphireref09_big.l0 k x0 (x5 ++ [(Go.bits .and .i64 (shr .i64 x0 (wrap64 (8 * x6))) 255) % 256]) (wrap64 (x6 - 1))) else (none)) else (none)) else (some (strOfNums x5))
def samphireref09_big.f (k : Nat) (a0 : Int) (a1 : Int) : Option (ByteArray) := samphireref09_big.l0 k a0 ([] : List Int) (wrap64 (a1 - 1))
theorem samphireref09_big.mono_l : ∀ k, (∀ y0 y1 y2, LeO (samphireref09_big.l0 k y0 y1 y2) (samphireref09_big.l0 (k + 1) y0 y1 y2))
  | 0 => fun _ _ _ r h => by simp [samphireref09_big.l0] at h
  | k + 1 => by
    have ih0 := samphireref09_big.mono_l k
    · intro y0 y1 y2
      unfold samphireref09_big.l0
      repeat' first
      | (with_reducible exact ih0 _ _ _)
      | (with_reducible exact LeO.refl _)
      | (with_reducible exact LeO.none _)
      | (with_reducible refine LeO.ite ?_ ?_)
      | (with_reducible refine LeO.bind ?_ (fun _ => ?_))
      | exact ih0 _ _ _
      | exact LeO.none _
      | refine LeO.ite ?_ ?_
      | refine LeO.bind ?_ (fun _ => ?_)
theorem samphireref09_big.mono : ∀ a0 a1 k, LeO (samphireref09_big.f k a0 a1) (samphireref09_big.f (k + 1) a0 a1) := by
  intro a0 a1 k
  have ih0 := samphireref09_big.mono_l k
  unfold samphireref09_big.f
  repeat' first
      | (with_reducible exact ih0 _ _ _)
      | (with_reducible exact LeO.refl _)
      | (with_reducible exact LeO.none _)
      | (with_reducible refine LeO.ite ?_ ?_)
      | (with_reducible refine LeO.bind ?_ (fun _ => ?_))
      | exact ih0 _ _ _
      | exact LeO.none _
      | refine LeO.ite ?_ ?_
      | refine LeO.bind ?_ (fun _ => ?_)
set_option maxHeartbeats 8000000 in
set_option maxRecDepth 100000 in
theorem samphireref09_big.calls (k : Nat) (a0 : Int) (a1 : Int) (r : ByteArray) (w : World) (h : samphireref09_big.f k a0 a1 = some r) :
    Calls Try.prog 123 #[.int .i64 a0, .int .i64 a1] w fun e w' => e = .returned (.string r) ∧ Below w.heap.size w w' := by
  have HB := Aside0.mk (Below.refl w.heap.size w)
  have H : (samphireref09_big.l0 k a0 ([] : List Int) (wrap64 (a1 - 1))) = some r := h
  clear h
  have H' := Aside0.mk H
  clear H
  go_enter Try.func123, Try.ntmps123
  go_wp2
  go_loopg [5, 6] k (fun kq v5 v6 w' => ∃ (x5_1 : List Int) (x6_1 : Int), v6 = .int .i64 x6_1 ∧ Aside0 (samphireref09_big.l0 kq a0 x5_1 x6_1 = some r) ∧ Aside0 (kq ≤ k) ∧ Aside0 (Kd.R (Kd.int .u8) 5 w' w.heap.size (fun _ => True) v5 x5_1) ∧ Aside0 (Below w.heap.size w w'))
  case atStart => exact ⟨(([] : List Int)), (wrap64 (a1 - 1)), (by first | rfl | (simp; done) | (simp [*]; done)), H', ⟨Nat.le_refl _⟩, ⟨by first | exact Kd.R_nil _ _ _ _ _ | exact Kd.N_nil _ _ _ _ _ | exact Kd.V_nil _ _ _ _ _ | exact Kd.Q_nil _ _ _ _ _ | exact Kd.S_nil _ _ _ _ _⟩, ⟨by repeat (first | (with_reducible first | exact HB.out | apply below_alloc | apply pw_below_drewN | apply below_drew1) | exact HB.out)⟩⟩
  case round =>
    clear H'
    try clear c1
    try clear p2
    obtain ⟨x5_1, x6_1, rfl, HA, HK1, HO_5, HB⟩ := hrel
    cases gk with
    | zero => exact absurd HA.out (by simp [samphireref09_big.l0])
    | succ k1 =>
      have H := HA.out
      clear HA
      simp only [samphireref09_big.l0] at H
      by_cases c3 : x6_1 ≥ 0
      · rw [if_pos c3] at H
        have c3b0 : decide (0 ≤ x6_1) = true := decide_eq_true c3
        clear c3
        obtain ⟨ji4, hji4⟩ : ∃ j_ : Int, (wrap64 (8 * x6_1)) = j_ := ⟨_, rfl⟩
        replace H : (if 0 ≤ (ji4) then (if x5_1.length < 140737488355328 then (samphireref09_big.l0 k1 a0 (x5_1 ++ [(Go.bits .and .i64 (shr .i64 a0 (ji4)) 255) % 256]) (wrap64 (x6_1 - 1))) else (none)) else (none)) = some r := by first | (rw [hji4] at H; exact H) | (simp only [hji4] at H ⊢; exact H)
        have hji4w : (IntKind.i64.wrap (8 * x6_1)) = ji4 := (i64_w _).trans hji4
        by_cases c5 : 0 ≤ (ji4)
        · rw [if_pos c5] at H
          have c5b0 := eq_true c5
          have c5b1 : decide (0 ≤ (ji4)) = true := decide_eq_true c5
          clear c5
          obtain ⟨ji6, hji6⟩ : ∃ j_ : Int, (shr .i64 a0 (ji4)) = j_ := ⟨_, rfl⟩
          replace H : (if x5_1.length < 140737488355328 then (samphireref09_big.l0 k1 a0 (x5_1 ++ [(Go.bits .and .i64 (ji6) 255) % 256]) (wrap64 (x6_1 - 1))) else (none)) = some r := by first | (rw [hji6] at H; exact H) | (simp only [hji6] at H ⊢; exact H)
          have hji6_ : (a0 / 2 ^ min (ji4).toNat 64) = ji6 := hji6
          have hji6z : (ji4) ≤ 64 → (a0 / 2 ^ (ji4).toNat) = ji6 := shr_small hji6
          by_cases c7 : x5_1.length < 140737488355328
          · rw [if_pos c7] at H
            have LMc7 := Aside0.mk c7
            clear c7
            obtain ⟨y114, hy114⟩ : ∃ y_ : List Int, y_ = (x5_1 ++ [(Go.bits .and .i64 (ji6) 255) % 256]) := ⟨_, rfl⟩
            replace H : (samphireref09_big.l0 k1 a0 y114 (wrap64 (x6_1 - 1))) = some r := by first | (rw [hy114]; with_reducible exact H) | (have H2_ := (Option.bind_some _ _).symm.trans H; rw [hy114]; with_reducible exact H2_) | (have H2_ := (Option.bind_some _ _).symm.trans H; with_reducible exact H2_) | with_reducible exact H | (rw [hy114]; exact H) | exact H
            have Ny114 := Aside0.mk hy114
            clear hy114
            have H' := Aside0.mk H
            clear H
            go_wp2_with (first | ((with_reducible refine gate_builtin (b := .append) (xs := #[.tmp 13, .tmp 20]) rfl ?_); at_builtin; refine Kd.R_append (Kd.int .u8) (w0 := w) w.heap.size rfl (.tmp 13) (.tmp 20) 68 5 (.int .u8 0) 1 rfl Try.underlying68 info5 rfl (by decide) (by omega) u5 x5_1 ((Go.bits .and .i64 (ji6) 255) % 256) [.int .u8 ((Go.bits .and .i64 (ji6) 255) % 256)] (fun _ => True) (fun _ => False) rfl rfl ?aP (fun _ hk => hk.elim) ?aF ?aO ?aB ?aS ?aL ?_; (case aP => exact rfl); (case aB => exact (by repeat (first | (with_reducible first | exact HB.out | apply below_alloc | apply pw_below_drewN | apply below_drew1) | exact HB.out))); (case aF => exact (fun _ _ => trivial)); (case aO => exact (by (with_reducible repeat (first | apply Kd.R_alloc | apply Kd.R_drewN | apply Kd.R_drew)); exact HO_5.out)); (case aS => exact (below_size (by repeat (first | (with_reducible first | exact HB.out | apply below_alloc | apply pw_below_drewN | apply below_drew1) | exact HB.out)))); (case aL => have := LMc7.out; omega); intro v115 w8 ho hb hg hat; rw [← Ny114.out] at ho; have n0_ := Aside0.mk (hb); have n1_ := Aside0.mk (ho); clear HB; clear HO_5; have HB := n0_; have HO116 := n1_; clear n0_ n1_; clear ho hb hg hat))
            go_roundg k1
            case measure => have := HK1.out; omega
            case rel => exact ⟨(y114), (wrap64 (x6_1 - 1)), (by first | rfl | (simp; done) | (simp [*]; done)), H', ⟨by have := HK1.out; omega⟩, ⟨by (with_reducible repeat (first | apply Kd.R_alloc | apply Kd.R_drewN | apply Kd.R_drew)); exact HO116.out⟩, ⟨by repeat (first | (with_reducible first | exact HB.out | apply below_alloc | apply pw_below_drewN | apply below_drew1) | exact HB.out)⟩⟩
          · rw [if_neg c7] at H
            exact absurd H (by simp)
        · rw [if_neg c5] at H
          exact absurd H (by simp)
      · rw [if_neg c3] at H
        have c3b0 : decide (0 ≤ x6_1) = false := decide_eq_false c3
        clear c3
        obtain rfl := Option.some.inj H
        have hcv9 := own_string (P := Try.prog) Try.underlying68 Try.underlying5 Try.underlying9 (Kd.own_of_R HO_5.out)
        go_wp2
        go_ret
        exact ⟨by first | rfl | (simp [errW_none, errW_some] <;> rfl) | (simp [*, errW_none, errW_some] <;> rfl), by repeat (first | (with_reducible first | exact HB.out | apply below_alloc | apply pw_below_drewN | apply below_drew1) | exact HB.out)⟩
end Go.Proofs.Ytbkbganflnemeaa.Pr
end

section
namespace Go.Proofs.Ytbkbganflnemeaa.Pr
open Go.RowKit Go.Proofs.YtbkbganflnemeaaW.PrintWords Go.Proofs.YtbkbganflnemeaaW.PrintLast Go.Proofs.YtbkbganflnemeaaW.PrintMore
attribute [local go_sem] max2_int min2_int max_two min_two max_three min_three max_four min_four   -- for this text's walks alone
set_option linter.unusedVariables false
set_option linter.unusedSimpArgs false
def samphireref09_Num.f (k : Nat) (a0_0 : ByteArray) (a0_1 : Bool) (a1 : Int) : Option (ByteArray × Bool) := (samphireref09_big.f k a1 6).bind fun t119 => (if a1 ≥ 0 then ((samphireref09_with.f a0_0 a0_1 t119 (decide (a1 ≤ 1099511627775))).bind fun bt120 => (some (bt120.1, bt120.2))) else ((samphireref09_with.f a0_0 a0_1 t119 false).bind fun bt122 => (some (bt122.1, bt122.2))))
theorem samphireref09_Num.mono : ∀ a0 a1 a2 k, LeO (samphireref09_Num.f k a0 a1 a2) (samphireref09_Num.f (k + 1) a0 a1 a2) := by
  intro a0 a1 a2 k
  unfold samphireref09_Num.f
  repeat' first
      | (with_reducible exact samphireref09_big.mono _ _ _)
      | (with_reducible exact LeO.refl _)
      | (with_reducible exact LeO.none _)
      | (with_reducible refine LeO.ite ?_ ?_)
      | (with_reducible refine LeO.bind ?_ (fun _ => ?_))
      | exact samphireref09_big.mono _ _ _
      | exact LeO.none _
      | refine LeO.ite ?_ ?_
      | refine LeO.bind ?_ (fun _ => ?_)
def samphireref09_Num.T1 : Bool × List (List Nat × List Nat) := (true, [([], []), ([], []), ([1], [1]), ([], []), ([3], [3]), ([4, 2], [4]), ([5], [5]), ([6, 5], [5, 6]), ([5, 7], [5, 7]), ([0, 2, 8, 5], [0, 2, 8]), ([9, 9, 0, 1, 2, 3, 4, 5, 6, 7, 8, 9], [9])])
def samphireref09_Num.B1 : List Nat := [0, 0, 2, 0, 8, 30, 62, 126, 254, 511, 1023]
theorem samphireref09_Num.tab1 : rtab .any (opsOf Try.f91 1) = samphireref09_Num.T1 := by kernel_rfl
theorem samphireref09_Num.bits1 : waitsOk samphireref09_Num.T1.2 samphireref09_Num.B1 = true := by kernel_rfl
set_option maxHeartbeats 8000000 in
set_option maxRecDepth 100000 in
theorem samphireref09_Num.calls (k : Nat) (a0_0 : ByteArray) (a0_1 : Bool) (a1 : Int) (r1 : ByteArray) (r2 : Bool) (w : World) (h : samphireref09_Num.f k a0_0 a0_1 a1 = some (r1, r2)) :
    Calls Try.prog 91 #[.agg #[.string a0_0, .bool a0_1], .int .i64 a1] w fun e w' => e = .returned (.agg #[.string r1, .bool r2]) ∧ Below w.heap.size w w' := by
  have hu126 := Try.underlying126
  have HB := Aside0.mk (Below.refl w.heap.size w)
  have H : ((samphireref09_big.f k a1 6).bind fun t119 => (if a1 ≥ 0 then ((samphireref09_with.f a0_0 a0_1 t119 (decide (a1 ≤ 1099511627775))).bind fun bt120 => (some (bt120.1, bt120.2))) else ((samphireref09_with.f a0_0 a0_1 t119 false).bind fun bt122 => (some (bt122.1, bt122.2))))) = some (r1, r2) := h
  clear h
  replace H := Option.bind_eq_some_iff.mp H
  obtain ⟨t119, A30, H⟩ := H
  replace H : (if a1 ≥ 0 then ((samphireref09_with.f a0_0 a0_1 t119 (decide (a1 ≤ 1099511627775))).bind fun bt120 => (some (bt120.1, bt120.2))) else ((samphireref09_with.f a0_0 a0_1 t119 false).bind fun bt122 => (some (bt122.1, bt122.2)))) = some (r1, r2) := H
  have A3 := Aside0.mk A30
  clear A30
  by_cases c4 : a1 ≥ 0
  · rw [if_pos c4] at H
    have c4b0 : decide (0 ≤ a1) = true := decide_eq_true c4
    clear c4
    replace H := Option.bind_eq_some_iff.mp H
    obtain ⟨⟨t120, t121⟩, A50, H⟩ := H
    replace H : (some (t120, t121)) = some (r1, r2) := H
    have A5 := Aside0.mk A50
    clear A50
    simp only [Option.some.injEq, Prod.mk.injEq] at H
    obtain ⟨rfl, rfl⟩ := H
    go_enter Try.func91, Try.ntmps91
    try go_wp2_with (first | ((with_reducible refine gate_dst (N := 2) rfl ?_); refine box_event ?hg (N := 2) ?hd (cs := #[.string a0_0, .bool a0_1]) (t := 126) ?hr ?_; (case hd => rfl); (case hg => rfl); (case hr => first | (go_simp; done) | (go_simp; rfl)); intro gb117 hg w6 hbox hb; have n0_ := Aside0.mk (below_step (by repeat (first | (with_reducible first | exact HB.out | apply below_alloc | apply pw_below_drewN | apply below_drew1) | exact HB.out)) hb); have n1_ := Aside0.mk (hbox); have n2_ := Aside0.mk ((by rw [hg]; exact (below_size (by repeat (first | (with_reducible first | exact HB.out | apply below_alloc | apply pw_below_drewN | apply below_drew1) | exact HB.out))) : w.heap.size ≤ gb117)); have n3_ := Aside0.mk ((by rw [hg]; exact (below_size (by repeat (first | (with_reducible first | exact HB.out | apply below_alloc | apply pw_below_drewN | apply below_drew1) | exact HB.out))) : w.heap.size ≤ gb117)); clear HB; have HB := n0_; have BK117 := n1_; have GW117 := n2_; have GE117 := n3_; clear n0_ n1_ n2_ n3_; clear hb hbox hg) | ((with_reducible refine gate_dst (N := 4) rfl ?_); refine box_event ?hg (N := 4) ?hd (cs := #[.string (⟨#[]⟩ : ByteArray), .bool false]) (t := 126) ?hr ?_; (case hd => rfl); (case hg => rfl); (case hr => first | (go_simp; done) | (go_simp; rfl)); intro gb118 hg w7 hbox hb; have n0_ := Aside0.mk (blk_below (g := gb117) (o := .cells #[.string a0_0, .bool a0_1] 126 (0, 0)) (by (with_reducible repeat (first | refine blk_drewN ?_ _ | refine blk_drew ?_ | refine blk_alloc ?_ _)); exact BK117.out) hb); have n1_ := Aside0.mk (below_step (by repeat (first | (with_reducible first | exact HB.out | apply below_alloc | apply pw_below_drewN | apply below_drew1 | refine below_set ?_ GE117.out) | exact HB.out)) hb); have n2_ := Aside0.mk (hbox); have n3_ := Aside0.mk ((by rw [hg]; exact (below_size (by repeat (first | (with_reducible first | exact HB.out | apply below_alloc | apply pw_below_drewN | apply below_drew1 | refine below_set ?_ GE117.out) | exact HB.out))) : w.heap.size ≤ gb118)); have n4_ := Aside0.mk ((by rw [hg]; exact (below_size (by repeat (first | (with_reducible first | exact HB.out | apply below_alloc | apply pw_below_drewN | apply below_drew1 | refine below_set ?_ GE117.out) | exact HB.out))) : w.heap.size ≤ gb118)); have n5_ := Aside0.mk ((by rw [hg]; exact Nat.ne_of_lt (blk_lt (g := gb117) (o := .cells #[.string a0_0, .bool a0_1] 126 (0, 0)) (by (with_reducible repeat (first | refine blk_drewN ?_ _ | refine blk_drew ?_ | refine blk_alloc ?_ _)); exact BK117.out)) : gb117 ≠ gb118)); have n6_ := Aside0.mk ((by rw [hg]; exact Nat.ne_of_gt (blk_lt (g := gb117) (o := .cells #[.string a0_0, .bool a0_1] 126 (0, 0)) (by (with_reducible repeat (first | refine blk_drewN ?_ _ | refine blk_drew ?_ | refine blk_alloc ?_ _)); exact BK117.out)) : gb118 ≠ gb117)); clear BK117; clear HB; have BK117 := n0_; have HB := n1_; have BK118 := n2_; have GW118 := n3_; have GE118 := n4_; have NB117_118 := n5_; have NB118_117 := n6_; clear n0_ n1_ n2_ n3_ n4_ n5_ n6_; clear hb hbox hg))
    have n0_ := Aside0.mk (blk_drew BK117.out)
    have n1_ := Aside0.mk (blk_drew BK118.out)
    have n2_ := Aside0.mk (below_drew1 HB.out)
    clear BK117
    clear BK118
    clear HB
    have BK117 := n0_
    have BK118 := n1_
    have HB := n2_
    clear n0_ n1_ n2_
    refine start_ (n := 11) (S := fun w' => w'.cell? ⟨gb117, 0, none⟩ = some (.string a0_0) ∧ w'.cell? ⟨gb117, 1, none⟩ = some (.bool a0_1)) (ds := []) #[false, false, false, false, false, false, false, false, false, false, false] (by kernel_rfl) rfl rfl ⟨(blk_cell BK117.out 0).trans rfl, (blk_cell BK117.out 1).trans rfl⟩ (fun hHeld => ?_); refine with_tabW samphireref09_Num.tab1 samphireref09_Num.bits1 (fun HT_ HW_ => ?_)
    generalize w7.drew = w8 at BK117 BK118 HB hHeld ⊢
    refine pure_ (i := 1) (N := some 6) (v := ?_) (a' := ?_) #[false, true, false, false, false, false, false, false, false, false, false] rfl rfl (any_of HT_.out (by kernel_rfl)) (fun _ _ _ h => h) (Or.inl ⟨by rfl, ?_⟩) ?_ ?_
    rotate_left
    · intro w'
      go_simp
      with_reducible rfl
    rotate_left
    · simp only [Act.put, List.setIfInBounds_toArray, List.set_cons_zero, List.set_cons_succ, i64_w, i32_w]
      rfl
    refine pure_ (i := 3) (N := some 8) (v := ?_) (a' := ?_) #[false, true, false, true, false, false, false, false, false, false, false] rfl rfl (any_of HT_.out (by kernel_rfl)) (fun _ _ _ h => h) (Or.inl ⟨by rfl, ?_⟩) ?_ ?_
    rotate_left
    · intro w'
      go_simp
      with_reducible rfl
    rotate_left
    · simp only [Act.put, List.setIfInBounds_toArray, List.set_cons_zero, List.set_cons_succ, i64_w, i32_w]
      rfl
    refine pure_ (i := 4) (N := some 9) (v := ?_) (a' := ?_) #[false, true, false, true, true, false, false, false, false, false, false] rfl rfl (any_of HT_.out (by kernel_rfl)) (fun _ _ _ h => h) (Or.inl ⟨by rfl, ?_⟩) ?_ ?_
    rotate_left
    · intro w'
      go_simp
      with_reducible rfl
    rotate_left
    · simp only [Act.put, List.setIfInBounds_toArray, List.set_cons_zero, List.set_cons_succ, i64_w, i32_w]
      rfl
    refine take_ (i := 0) (N := some 5) (v := ?_) (a' := ?_) #[true, true, false, true, true, false, false, false, false, false, false] rfl rfl (take_ofW HT_.out HW_.out (by kernel_rfl)) (fun _ _ _ h => h) (Or.inl ⟨by rfl, ?_⟩) hHeld ?_ ?_
    rotate_left
    · rintro w' ⟨s0, s1⟩
      go_simp
      with_reducible rfl
    rotate_left
    · simp only [Act.put, List.setIfInBounds_toArray, List.set_cons_zero, List.set_cons_succ, i64_w, i32_w]
      rfl
    refine one_ (i := 2) (N := some 7) #[true, true, true, true, true, false, false, false, false, false, false] rfl rfl (one_of HT_.out (by kernel_rfl)) (by decide) (fun K hK => ?_)
    refine goes_ Try.func123 (by kernel_rfl) rfl #[.int .i64 a1, .int .i64 6] (by rfl) rfl rfl (by (try simp only [List.map_toArray, List.map_cons, List.map_nil]); first | done | rfl | (simp only [List.length_drop, List.length_take]; rfl)) ?_
    with_reducible refine (samphireref09_big.calls k a1 6 t119 _ A3.out).mono ?_
    rintro e w9 ⟨rfl, hb⟩
    refine ⟨_, rfl, ?_⟩
    have n0_ := Aside0.mk (blk_below (g := gb117) (o := .cells #[.string a0_0, .bool a0_1] 126 (0, 0)) (by (with_reducible repeat (first | refine blk_drewN ?_ _ | refine blk_drew ?_ | refine blk_alloc ?_ _)); exact BK117.out) hb)
    have n1_ := Aside0.mk (blk_below (g := gb118) (o := .cells #[.string (⟨#[]⟩ : ByteArray), .bool false] 126 (0, 0)) (by (with_reducible repeat (first | refine blk_drewN ?_ _ | refine blk_drew ?_ | refine blk_alloc ?_ _)); exact BK118.out) hb)
    have n2_ := Aside0.mk (below_step (by repeat (first | (with_reducible first | exact HB.out | apply below_alloc | apply pw_below_drewN | apply below_drew1 | refine below_set ?_ GE117.out | refine below_set ?_ GE118.out) | exact HB.out)) hb)
    clear BK117
    clear BK118
    clear HB
    have BK117 := n0_
    have BK118 := n1_
    have HB := n2_
    clear n0_ n1_ n2_
    (try clear hb)
    (try clear hb2)
    (try clear hk)
    (try clear hi)
    refine hK.out _ _ ⟨(blk_cell BK117.out 0).trans rfl, (blk_cell BK117.out 1).trans rfl⟩ (fun hHeld => ?_)
    clear hK K
    refine norm_ (a' := ?_) ?_ ?_
    rotate_left
    · show Act.put _ (some 7) _ = _
      simp only [Act.put, List.setIfInBounds_toArray, List.set_cons_zero, List.set_cons_succ, i64_w, i32_w]
      rfl
    refine pure_ (i := 5) (N := some 10) (v := ?_) (a' := ?_) #[true, true, true, true, true, true, false, false, false, false, false] rfl rfl (any_of HT_.out (by kernel_rfl)) (fun _ _ _ h => h) (Or.inl ⟨by rfl, ?_⟩) ?_ ?_
    rotate_left
    · intro w'
      go_simp
      with_reducible rfl
    rotate_left
    · simp only [Act.put, List.setIfInBounds_toArray, List.set_cons_zero, List.set_cons_succ, i64_w, i32_w]
      rfl
    refine pure_ (i := 6) (N := some 11) (v := ?_) (a' := ?_) #[true, true, true, true, true, true, true, false, false, false, false] rfl rfl (any_of HT_.out (by kernel_rfl)) (fun _ _ _ h => h) (Or.inl ⟨by rfl, ?_⟩) ?_ ?_
    rotate_left
    · intro w'
      go_simp
      with_reducible rfl
    rotate_left
    · simp only [Act.put, List.setIfInBounds_toArray, List.set_cons_zero, List.set_cons_succ, i64_w, i32_w]
      rfl
    refine pure_ (i := 7) (N := some 12) (v := ?_) (a' := ?_) #[true, true, true, true, true, true, true, true, false, false, false] rfl rfl (any_of HT_.out (by kernel_rfl)) (fun _ _ _ h => h) (Or.inl ⟨by rfl, ?_⟩) ?_ ?_
    rotate_left
    · intro w'
      go_simp
      with_reducible rfl
    rotate_left
    · simp only [Act.put, List.setIfInBounds_toArray, List.set_cons_zero, List.set_cons_succ, i64_w, i32_w]
      rfl
    refine pure_ (i := 8) (N := some 13) (v := ?_) (a' := ?_) #[true, true, true, true, true, true, true, true, true, false, false] rfl rfl (any_of HT_.out (by kernel_rfl)) (fun _ _ _ h => h) (Or.inl ⟨by rfl, ?_⟩) ?_ ?_
    rotate_left
    · intro w'
      go_simp
      with_reducible rfl
    rotate_left
    · simp only [Act.put, List.setIfInBounds_toArray, List.set_cons_zero, List.set_cons_succ, i64_w, i32_w]
      rfl
    refine one_ (i := 9) (N := some 14) #[true, true, true, true, true, true, true, true, true, true, false] rfl rfl (one_of HT_.out (by kernel_rfl)) (by decide) (fun K hK => ?_)
    refine goes_ Try.func122 (by kernel_rfl) rfl #[.agg #[.string a0_0, .bool a0_1], .string t119, .bool (decide (a1 ≤ 1099511627775))] (by rfl) rfl rfl (by (try simp only [List.map_toArray, List.map_cons, List.map_nil]); first | done | rfl | (simp only [List.length_drop, List.length_take]; rfl)) ?_
    with_reducible refine (samphireref09_with.calls a0_0 a0_1 t119 (decide (a1 ≤ 1099511627775)) t120 t121 _ A5.out).mono ?_
    rintro e w10 ⟨rfl, hb⟩
    refine ⟨_, rfl, ?_⟩
    have n0_ := Aside0.mk (blk_below (g := gb117) (o := .cells #[.string a0_0, .bool a0_1] 126 (0, 0)) (by (with_reducible repeat (first | refine blk_drewN ?_ _ | refine blk_drew ?_ | refine blk_alloc ?_ _)); exact BK117.out) hb)
    have n1_ := Aside0.mk (blk_below (g := gb118) (o := .cells #[.string (⟨#[]⟩ : ByteArray), .bool false] 126 (0, 0)) (by (with_reducible repeat (first | refine blk_drewN ?_ _ | refine blk_drew ?_ | refine blk_alloc ?_ _)); exact BK118.out) hb)
    have n2_ := Aside0.mk (below_step (by repeat (first | (with_reducible first | exact HB.out | apply below_alloc | apply pw_below_drewN | apply below_drew1 | refine below_set ?_ GE117.out | refine below_set ?_ GE118.out) | exact HB.out)) hb)
    clear BK117
    clear BK118
    clear HB
    have BK117 := n0_
    have BK118 := n1_
    have HB := n2_
    clear n0_ n1_ n2_
    (try clear hb)
    (try clear hb2)
    (try clear hk)
    (try clear hi)
    refine hK.out _ _ ⟨(blk_cell BK117.out 0).trans rfl, (blk_cell BK117.out 1).trans rfl⟩ (fun hHeld => ?_)
    clear hK K
    refine norm_ (a' := ?_) ?_ ?_
    rotate_left
    · show Act.put _ (some 14) _ = _
      simp only [Act.put, List.setIfInBounds_toArray, List.set_cons_zero, List.set_cons_succ, i64_w, i32_w]
      rfl
    refine one_ (i := 10) (N := none) #[true, true, true, true, true, true, true, true, true, true, true] rfl rfl (one_of HT_.out (by kernel_rfl)) (by decide) (fun K hK => ?_)
    have hs11 : w10.cell? ⟨gb118, 0, none⟩ = some (.string (⟨#[]⟩ : ByteArray)) := (blk_cell BK118.out 0).trans rfl
    have hfs11 := blk_frozen BK118.out 0
    have hns11_0 := NB117_118.out
    have hms11_0 := NB118_117.out
    have hs12 : w10.cell? ⟨gb118, 1, none⟩ = some (.bool false) := (blk_cell BK118.out 1).trans rfl
    have hfs12 := blk_frozen BK118.out 1
    have hns12_0 := NB117_118.out
    have hms12_0 := NB118_117.out
    refine skip_ (w1 := ?_) (by rfl) rfl ?_ ?_
    rotate_left
    · go_simp
      rfl
    refine hK.out _ _ ⟨((cell_far (p := ⟨gb118, _, none⟩) NB117_118.out _).trans (((cell_far (p := ⟨gb118, _, none⟩) NB117_118.out _).trans (hHeld.1)))), ((cell_far (p := ⟨gb118, _, none⟩) NB117_118.out _).trans (((cell_far (p := ⟨gb118, _, none⟩) NB117_118.out _).trans (hHeld.2))))⟩ (fun hHeld => ?_)
    clear hK K
    refine done_ (done_of HT_.out (by kernel_rfl)) ?_
    try go_wp2
    refine bodyPost_ret (results_cell_row rfl _ _ gb118 126 #[.string t120, .bool t121] (0, 0) _ rfl (by (with_reducible repeat (first | refine blk_drewN ?_ _ | refine blk_drew ?_ | refine blk_alloc ?_ _)); refine blk_put (cs := #[.string t120, .bool false]) ?_ 1 _ rfl; (with_reducible repeat (first | refine blk_drewN ?_ _ | refine blk_drew ?_ | refine blk_alloc ?_ _)); refine blk_put (cs := #[.string (⟨#[]⟩ : ByteArray), .bool false]) ?_ 0 _ rfl; (with_reducible repeat (first | refine blk_drewN ?_ _ | refine blk_drew ?_ | refine blk_alloc ?_ _)); exact BK118.out) Try.underlying126 rfl (by kernel_rfl)) rfl ?_
    exact ⟨by first | rfl | (simp [errW_none, errW_some] <;> rfl) | (simp [*, errW_none, errW_some] <;> rfl), by repeat (first | (with_reducible first | exact HB.out | apply below_alloc | apply pw_below_drewN | apply below_drew1 | refine below_set ?_ GE117.out | refine below_set ?_ GE118.out) | exact HB.out)⟩
  · rw [if_neg c4] at H
    have c4b0 : decide (0 ≤ a1) = false := decide_eq_false c4
    clear c4
    replace H := Option.bind_eq_some_iff.mp H
    obtain ⟨⟨t122, t123⟩, A130, H⟩ := H
    replace H : (some (t122, t123)) = some (r1, r2) := H
    have A13 := Aside0.mk A130
    clear A130
    simp only [Option.some.injEq, Prod.mk.injEq] at H
    obtain ⟨rfl, rfl⟩ := H
    go_enter Try.func91, Try.ntmps91
    try go_wp2_with (first | ((with_reducible refine gate_dst (N := 2) rfl ?_); refine box_event ?hg (N := 2) ?hd (cs := #[.string a0_0, .bool a0_1]) (t := 126) ?hr ?_; (case hd => rfl); (case hg => rfl); (case hr => first | (go_simp; done) | (go_simp; rfl)); intro gb117 hg w14 hbox hb; have n0_ := Aside0.mk (below_step (by repeat (first | (with_reducible first | exact HB.out | apply below_alloc | apply pw_below_drewN | apply below_drew1) | exact HB.out)) hb); have n1_ := Aside0.mk (hbox); have n2_ := Aside0.mk ((by rw [hg]; exact (below_size (by repeat (first | (with_reducible first | exact HB.out | apply below_alloc | apply pw_below_drewN | apply below_drew1) | exact HB.out))) : w.heap.size ≤ gb117)); have n3_ := Aside0.mk ((by rw [hg]; exact (below_size (by repeat (first | (with_reducible first | exact HB.out | apply below_alloc | apply pw_below_drewN | apply below_drew1) | exact HB.out))) : w.heap.size ≤ gb117)); clear HB; have HB := n0_; have BK117 := n1_; have GW117 := n2_; have GE117 := n3_; clear n0_ n1_ n2_ n3_; clear hb hbox hg) | ((with_reducible refine gate_dst (N := 4) rfl ?_); refine box_event ?hg (N := 4) ?hd (cs := #[.string (⟨#[]⟩ : ByteArray), .bool false]) (t := 126) ?hr ?_; (case hd => rfl); (case hg => rfl); (case hr => first | (go_simp; done) | (go_simp; rfl)); intro gb118 hg w15 hbox hb; have n0_ := Aside0.mk (blk_below (g := gb117) (o := .cells #[.string a0_0, .bool a0_1] 126 (0, 0)) (by (with_reducible repeat (first | refine blk_drewN ?_ _ | refine blk_drew ?_ | refine blk_alloc ?_ _)); exact BK117.out) hb); have n1_ := Aside0.mk (below_step (by repeat (first | (with_reducible first | exact HB.out | apply below_alloc | apply pw_below_drewN | apply below_drew1 | refine below_set ?_ GE117.out) | exact HB.out)) hb); have n2_ := Aside0.mk (hbox); have n3_ := Aside0.mk ((by rw [hg]; exact (below_size (by repeat (first | (with_reducible first | exact HB.out | apply below_alloc | apply pw_below_drewN | apply below_drew1 | refine below_set ?_ GE117.out) | exact HB.out))) : w.heap.size ≤ gb118)); have n4_ := Aside0.mk ((by rw [hg]; exact (below_size (by repeat (first | (with_reducible first | exact HB.out | apply below_alloc | apply pw_below_drewN | apply below_drew1 | refine below_set ?_ GE117.out) | exact HB.out))) : w.heap.size ≤ gb118)); have n5_ := Aside0.mk ((by rw [hg]; exact Nat.ne_of_lt (blk_lt (g := gb117) (o := .cells #[.string a0_0, .bool a0_1] 126 (0, 0)) (by (with_reducible repeat (first | refine blk_drewN ?_ _ | refine blk_drew ?_ | refine blk_alloc ?_ _)); exact BK117.out)) : gb117 ≠ gb118)); have n6_ := Aside0.mk ((by rw [hg]; exact Nat.ne_of_gt (blk_lt (g := gb117) (o := .cells #[.string a0_0, .bool a0_1] 126 (0, 0)) (by (with_reducible repeat (first | refine blk_drewN ?_ _ | refine blk_drew ?_ | refine blk_alloc ?_ _)); exact BK117.out)) : gb118 ≠ gb117)); clear BK117; clear HB; have BK117 := n0_; have HB := n1_; have BK118 := n2_; have GW118 := n3_; have GE118 := n4_; have NB117_118 := n5_; have NB118_117 := n6_; clear n0_ n1_ n2_ n3_ n4_ n5_ n6_; clear hb hbox hg))
    have n0_ := Aside0.mk (blk_drew BK117.out)
    have n1_ := Aside0.mk (blk_drew BK118.out)
    have n2_ := Aside0.mk (below_drew1 HB.out)
    clear BK117
    clear BK118
    clear HB
    have BK117 := n0_
    have BK118 := n1_
    have HB := n2_
    clear n0_ n1_ n2_
    refine start_ (n := 11) (S := fun w' => w'.cell? ⟨gb117, 0, none⟩ = some (.string a0_0) ∧ w'.cell? ⟨gb117, 1, none⟩ = some (.bool a0_1)) (ds := []) #[false, false, false, false, false, false, false, false, false, false, false] (by kernel_rfl) rfl rfl ⟨(blk_cell BK117.out 0).trans rfl, (blk_cell BK117.out 1).trans rfl⟩ (fun hHeld => ?_); refine with_tabW samphireref09_Num.tab1 samphireref09_Num.bits1 (fun HT_ HW_ => ?_)
    generalize w15.drew = w16 at BK117 BK118 HB hHeld ⊢
    refine pure_ (i := 1) (N := some 6) (v := ?_) (a' := ?_) #[false, true, false, false, false, false, false, false, false, false, false] rfl rfl (any_of HT_.out (by kernel_rfl)) (fun _ _ _ h => h) (Or.inl ⟨by rfl, ?_⟩) ?_ ?_
    rotate_left
    · intro w'
      go_simp
      with_reducible rfl
    rotate_left
    · simp only [Act.put, List.setIfInBounds_toArray, List.set_cons_zero, List.set_cons_succ, i64_w, i32_w]
      rfl
    refine pure_ (i := 3) (N := some 8) (v := ?_) (a' := ?_) #[false, true, false, true, false, false, false, false, false, false, false] rfl rfl (any_of HT_.out (by kernel_rfl)) (fun _ _ _ h => h) (Or.inl ⟨by rfl, ?_⟩) ?_ ?_
    rotate_left
    · intro w'
      go_simp
      with_reducible rfl
    rotate_left
    · simp only [Act.put, List.setIfInBounds_toArray, List.set_cons_zero, List.set_cons_succ, i64_w, i32_w]
      rfl
    refine pure_ (i := 4) (N := some 9) (v := ?_) (a' := ?_) #[false, true, false, true, true, false, false, false, false, false, false] rfl rfl (any_of HT_.out (by kernel_rfl)) (fun _ _ _ h => h) (Or.inl ⟨by rfl, ?_⟩) ?_ ?_
    rotate_left
    · intro w'
      go_simp
      with_reducible rfl
    rotate_left
    · simp only [Act.put, List.setIfInBounds_toArray, List.set_cons_zero, List.set_cons_succ, i64_w, i32_w]
      rfl
    refine take_ (i := 0) (N := some 5) (v := ?_) (a' := ?_) #[true, true, false, true, true, false, false, false, false, false, false] rfl rfl (take_ofW HT_.out HW_.out (by kernel_rfl)) (fun _ _ _ h => h) (Or.inl ⟨by rfl, ?_⟩) hHeld ?_ ?_
    rotate_left
    · rintro w' ⟨s0, s1⟩
      go_simp
      with_reducible rfl
    rotate_left
    · simp only [Act.put, List.setIfInBounds_toArray, List.set_cons_zero, List.set_cons_succ, i64_w, i32_w]
      rfl
    refine one_ (i := 2) (N := some 7) #[true, true, true, true, true, false, false, false, false, false, false] rfl rfl (one_of HT_.out (by kernel_rfl)) (by decide) (fun K hK => ?_)
    refine goes_ Try.func123 (by kernel_rfl) rfl #[.int .i64 a1, .int .i64 6] (by rfl) rfl rfl (by (try simp only [List.map_toArray, List.map_cons, List.map_nil]); first | done | rfl | (simp only [List.length_drop, List.length_take]; rfl)) ?_
    with_reducible refine (samphireref09_big.calls k a1 6 t119 _ A3.out).mono ?_
    rintro e w17 ⟨rfl, hb⟩
    refine ⟨_, rfl, ?_⟩
    have n0_ := Aside0.mk (blk_below (g := gb117) (o := .cells #[.string a0_0, .bool a0_1] 126 (0, 0)) (by (with_reducible repeat (first | refine blk_drewN ?_ _ | refine blk_drew ?_ | refine blk_alloc ?_ _)); exact BK117.out) hb)
    have n1_ := Aside0.mk (blk_below (g := gb118) (o := .cells #[.string (⟨#[]⟩ : ByteArray), .bool false] 126 (0, 0)) (by (with_reducible repeat (first | refine blk_drewN ?_ _ | refine blk_drew ?_ | refine blk_alloc ?_ _)); exact BK118.out) hb)
    have n2_ := Aside0.mk (below_step (by repeat (first | (with_reducible first | exact HB.out | apply below_alloc | apply pw_below_drewN | apply below_drew1 | refine below_set ?_ GE117.out | refine below_set ?_ GE118.out) | exact HB.out)) hb)
    clear BK117
    clear BK118
    clear HB
    have BK117 := n0_
    have BK118 := n1_
    have HB := n2_
    clear n0_ n1_ n2_
    (try clear hb)
    (try clear hb2)
    (try clear hk)
    (try clear hi)
    refine hK.out _ _ ⟨(blk_cell BK117.out 0).trans rfl, (blk_cell BK117.out 1).trans rfl⟩ (fun hHeld => ?_)
    clear hK K
    refine norm_ (a' := ?_) ?_ ?_
    rotate_left
    · show Act.put _ (some 7) _ = _
      simp only [Act.put, List.setIfInBounds_toArray, List.set_cons_zero, List.set_cons_succ, i64_w, i32_w]
      rfl
    refine pure_ (i := 5) (N := some 10) (v := ?_) (a' := ?_) #[true, true, true, true, true, true, false, false, false, false, false] rfl rfl (any_of HT_.out (by kernel_rfl)) (fun _ _ _ h => h) (Or.inl ⟨by rfl, ?_⟩) ?_ ?_
    rotate_left
    · intro w'
      go_simp
      with_reducible rfl
    rotate_left
    · simp only [Act.put, List.setIfInBounds_toArray, List.set_cons_zero, List.set_cons_succ, i64_w, i32_w]
      rfl
    refine pure_ (i := 6) (N := some 11) (v := undef) (a' := ?_) #[true, true, true, true, true, true, true, false, false, false, false] rfl rfl (any_of HT_.out (by kernel_rfl)) (fun _ _ _ h => h) (Or.inr ⟨by rfl, rfl⟩) ?_ ?_
    rotate_left
    · simp only [Act.put, List.setIfInBounds_toArray, List.set_cons_zero, List.set_cons_succ, i64_w, i32_w]
      rfl
    refine pure_ (i := 7) (N := some 12) (v := undef) (a' := ?_) #[true, true, true, true, true, true, true, true, false, false, false] rfl rfl (any_of HT_.out (by kernel_rfl)) (fun _ _ _ h => h) (Or.inr ⟨by rfl, rfl⟩) ?_ ?_
    rotate_left
    · simp only [Act.put, List.setIfInBounds_toArray, List.set_cons_zero, List.set_cons_succ, i64_w, i32_w]
      rfl
    refine pure_ (i := 8) (N := some 13) (v := ?_) (a' := ?_) #[true, true, true, true, true, true, true, true, true, false, false] rfl rfl (any_of HT_.out (by kernel_rfl)) (fun _ _ _ h => h) (Or.inl ⟨by rfl, ?_⟩) ?_ ?_
    rotate_left
    · intro w'
      go_simp
      with_reducible rfl
    rotate_left
    · simp only [Act.put, List.setIfInBounds_toArray, List.set_cons_zero, List.set_cons_succ, i64_w, i32_w]
      rfl
    refine one_ (i := 9) (N := some 14) #[true, true, true, true, true, true, true, true, true, true, false] rfl rfl (one_of HT_.out (by kernel_rfl)) (by decide) (fun K hK => ?_)
    refine goes_ Try.func122 (by kernel_rfl) rfl #[.agg #[.string a0_0, .bool a0_1], .string t119, .bool false] (by rfl) rfl rfl (by (try simp only [List.map_toArray, List.map_cons, List.map_nil]); first | done | rfl | (simp only [List.length_drop, List.length_take]; rfl)) ?_
    with_reducible refine (samphireref09_with.calls a0_0 a0_1 t119 false t122 t123 _ A13.out).mono ?_
    rintro e w18 ⟨rfl, hb⟩
    refine ⟨_, rfl, ?_⟩
    have n0_ := Aside0.mk (blk_below (g := gb117) (o := .cells #[.string a0_0, .bool a0_1] 126 (0, 0)) (by (with_reducible repeat (first | refine blk_drewN ?_ _ | refine blk_drew ?_ | refine blk_alloc ?_ _)); exact BK117.out) hb)
    have n1_ := Aside0.mk (blk_below (g := gb118) (o := .cells #[.string (⟨#[]⟩ : ByteArray), .bool false] 126 (0, 0)) (by (with_reducible repeat (first | refine blk_drewN ?_ _ | refine blk_drew ?_ | refine blk_alloc ?_ _)); exact BK118.out) hb)
    have n2_ := Aside0.mk (below_step (by repeat (first | (with_reducible first | exact HB.out | apply below_alloc | apply pw_below_drewN | apply below_drew1 | refine below_set ?_ GE117.out | refine below_set ?_ GE118.out) | exact HB.out)) hb)
    clear BK117
    clear BK118
    clear HB
    have BK117 := n0_
    have BK118 := n1_
    have HB := n2_
    clear n0_ n1_ n2_
    (try clear hb)
    (try clear hb2)
    (try clear hk)
    (try clear hi)
    refine hK.out _ _ ⟨(blk_cell BK117.out 0).trans rfl, (blk_cell BK117.out 1).trans rfl⟩ (fun hHeld => ?_)
    clear hK K
    refine norm_ (a' := ?_) ?_ ?_
    rotate_left
    · show Act.put _ (some 14) _ = _
      simp only [Act.put, List.setIfInBounds_toArray, List.set_cons_zero, List.set_cons_succ, i64_w, i32_w]
      rfl
    refine one_ (i := 10) (N := none) #[true, true, true, true, true, true, true, true, true, true, true] rfl rfl (one_of HT_.out (by kernel_rfl)) (by decide) (fun K hK => ?_)
    have hs19 : w18.cell? ⟨gb118, 0, none⟩ = some (.string (⟨#[]⟩ : ByteArray)) := (blk_cell BK118.out 0).trans rfl
    have hfs19 := blk_frozen BK118.out 0
    have hns19_0 := NB117_118.out
    have hms19_0 := NB118_117.out
    have hs20 : w18.cell? ⟨gb118, 1, none⟩ = some (.bool false) := (blk_cell BK118.out 1).trans rfl
    have hfs20 := blk_frozen BK118.out 1
    have hns20_0 := NB117_118.out
    have hms20_0 := NB118_117.out
    refine skip_ (w1 := ?_) (by rfl) rfl ?_ ?_
    rotate_left
    · go_simp
      rfl
    refine hK.out _ _ ⟨((cell_far (p := ⟨gb118, _, none⟩) NB117_118.out _).trans (((cell_far (p := ⟨gb118, _, none⟩) NB117_118.out _).trans (hHeld.1)))), ((cell_far (p := ⟨gb118, _, none⟩) NB117_118.out _).trans (((cell_far (p := ⟨gb118, _, none⟩) NB117_118.out _).trans (hHeld.2))))⟩ (fun hHeld => ?_)
    clear hK K
    refine done_ (done_of HT_.out (by kernel_rfl)) ?_
    try go_wp2
    refine bodyPost_ret (results_cell_row rfl _ _ gb118 126 #[.string t122, .bool t123] (0, 0) _ rfl (by (with_reducible repeat (first | refine blk_drewN ?_ _ | refine blk_drew ?_ | refine blk_alloc ?_ _)); refine blk_put (cs := #[.string t122, .bool false]) ?_ 1 _ rfl; (with_reducible repeat (first | refine blk_drewN ?_ _ | refine blk_drew ?_ | refine blk_alloc ?_ _)); refine blk_put (cs := #[.string (⟨#[]⟩ : ByteArray), .bool false]) ?_ 0 _ rfl; (with_reducible repeat (first | refine blk_drewN ?_ _ | refine blk_drew ?_ | refine blk_alloc ?_ _)); exact BK118.out) Try.underlying126 rfl (by kernel_rfl)) rfl ?_
    exact ⟨by first | rfl | (simp [errW_none, errW_some] <;> rfl) | (simp [*, errW_none, errW_some] <;> rfl), by repeat (first | (with_reducible first | exact HB.out | apply below_alloc | apply pw_below_drewN | apply below_drew1 | refine below_set ?_ GE117.out | refine below_set ?_ GE118.out) | exact HB.out)⟩
end Go.Proofs.Ytbkbganflnemeaa.Pr
end

section
namespace Go.Proofs.Ytbkbganflnemeaa.Pr
open Go.RowKit Go.Proofs.YtbkbganflnemeaaW.PrintWords Go.Proofs.YtbkbganflnemeaaW.PrintLast Go.Proofs.YtbkbganflnemeaaW.PrintMore
attribute [local go_sem] max2_int min2_int max_two min_two max_three min_three max_four min_four   -- for this text's walks alone
set_option linter.unusedVariables false
set_option linter.unusedSimpArgs false
def samphireref15_number.f (k : Nat) (a0 : Int) : Option (ByteArray) := (samphireref09_Num.f k (⟨#[]⟩ : ByteArray) false a0).bind fun bt124 => ((samphireref09_Done.f bt124.1 bt124.2).bind fun bt126 => (some bt126.1))
set_option maxHeartbeats 8000000 in
set_option maxRecDepth 100000 in
theorem samphireref15_number.calls (k : Nat) (a0 : Int) (r : ByteArray) (w : World) (h : samphireref15_number.f k a0 = some r) :
    Calls Try.prog 53 #[.int .i64 a0] w fun e w' => e = .returned (.string r) ∧ Below w.heap.size w w' := by
  have hu126 := Try.underlying126
  have HB := Aside0.mk (Below.refl w.heap.size w)
  have H : ((samphireref09_Num.f k (⟨#[]⟩ : ByteArray) false a0).bind fun bt124 => ((samphireref09_Done.f bt124.1 bt124.2).bind fun bt126 => (some bt126.1))) = some r := h
  clear h
  replace H := Option.bind_eq_some_iff.mp H
  obtain ⟨⟨t124, t125⟩, A20, H⟩ := H
  replace H : ((samphireref09_Done.f t124 t125).bind fun bt126 => (some bt126.1)) = some r := H
  have A2 := Aside0.mk A20
  clear A20
  replace H := Option.bind_eq_some_iff.mp H
  obtain ⟨⟨t126, t127⟩, A30, H⟩ := H
  replace H : (some t126) = some r := H
  have A3 := Aside0.mk A30
  clear A30
  obtain rfl := Option.some.inj H
  go_enter Try.func53, Try.ntmps53
  go_wp2_with (first | ((with_reducible refine gate_callee (f := 91) rfl ?_); refine goesL_ (some 8) rfl rfl Try.func91 (by kernel_rfl) rfl #[.agg #[.string (⟨#[]⟩ : ByteArray), .bool false], .int .i64 a0] rfl (by (try simp only [List.map_toArray, List.map_cons, List.map_nil]); first | done | rfl | (simp only [List.length_drop, List.length_take]; rfl)) ?_; (with_reducible refine (samphireref09_Num.calls k (⟨#[]⟩ : ByteArray) false a0 t124 t125 _ A2.out).mono ?_); rintro e w4 ⟨rfl, hb⟩; refine ⟨_, rfl, ?_⟩; have n0_ := Aside0.mk (below_step (by repeat (first | (with_reducible first | exact HB.out | apply below_alloc | apply pw_below_drewN | apply below_drew1) | exact HB.out)) hb); clear HB; have HB := n0_; clear n0_; (try clear hb); (try clear hb2); (try clear hk); (try clear hi)) | ((with_reducible refine gate_callee (f := 90) rfl ?_); refine goesL_ (some 9) rfl rfl Try.func90 (by kernel_rfl) rfl #[.agg #[.string t124, .bool t125]] rfl (by (try simp only [List.map_toArray, List.map_cons, List.map_nil]); first | done | rfl | (simp only [List.length_drop, List.length_take]; rfl)) ?_; (with_reducible refine (samphireref09_Done.calls t124 t125 t126 t127 _ A3.out).mono ?_); rintro e w5 ⟨rfl, hb⟩; refine ⟨_, rfl, ?_⟩; have n0_ := Aside0.mk (below_step (by repeat (first | (with_reducible first | exact HB.out | apply below_alloc | apply pw_below_drewN | apply below_drew1) | exact HB.out)) hb); clear HB; have HB := n0_; clear n0_; (try clear hb); (try clear hb2); (try clear hk); (try clear hi)))
  go_ret
  exact ⟨by first | rfl | (simp [errW_none, errW_some] <;> rfl) | (simp [*, errW_none, errW_some] <;> rfl), by repeat (first | (with_reducible first | exact HB.out | apply below_alloc | apply pw_below_drewN | apply below_drew1) | exact HB.out)⟩
end Go.Proofs.Ytbkbganflnemeaa.Pr
end

section
namespace Go.Proofs.Ytbkbganflnemeaa.Pr
open Go.RowKit Go.Proofs.YtbkbganflnemeaaW.PrintWords Go.Proofs.YtbkbganflnemeaaW.PrintLast Go.Proofs.YtbkbganflnemeaaW.PrintMore
attribute [local go_sem] max2_int min2_int max_two min_two max_three min_three max_four min_four   -- for this text's walks alone
set_option linter.unusedVariables false
set_option linter.unusedSimpArgs false
mutual
def samphireref04_Expand.j0 : Nat → ByteArray → ByteArray → Int → Bool → Option (ByteArray × Int)
  | 0, _, _, _, _ => none
  | k + 1, x0, x1, x2, x16 => if x16 = true then (some ((⟨#[]⟩ : ByteArray), 1)) else (samphireref04_Expand.l0 k x0 x1 x2 (⟨#[]⟩ : ByteArray) (⟨#[]⟩ : ByteArray) 1)
def samphireref04_Expand.l0 : Nat → ByteArray → ByteArray → Int → ByteArray → ByteArray → Int → Option (ByteArray × Int)
  | 0, _, _, _, _, _, _ => none
  | k + 1, x0, x1, x2, x8, x9, x10 => if (x8.size : Int) < x2 then (if x9.size + x1.size ≤ 9223372036854775807 then ((some (([(x10) % 256] : List Int) : List Int)).bind fun y298 => (if (x9 ++ x1).size + (strOfNums y298).size ≤ 9223372036854775807 then ((samphireref03_Mac.f k x0 ((x9 ++ x1) ++ (strOfNums y298))).bind fun t301 => (if x8.size + t301.size ≤ 9223372036854775807 then (samphireref04_Expand.l0 k x0 x1 x2 (x8 ++ t301) t301 (wrap64 (x10 + 1))) else (none))) else (none))) else (none)) else (if 0 ≤ x2 then (if x2 ≤ (x8.size : Int) then (some (x8.extract 0 (x2 : Int).toNat, 0)) else (none)) else (none))
end
def samphireref04_Expand.f (k : Nat) (a0 : ByteArray) (a1 : ByteArray) (a2 : Int) : Option (ByteArray × Int) := if a2 < 0 then (samphireref04_Expand.j0 k a0 a1 a2 true) else (samphireref04_Expand.j0 k a0 a1 a2 (decide (a2 > 8160)))
theorem samphireref04_Expand.mono_l : ∀ k, (∀ y0 y1 y2 y3, LeO (samphireref04_Expand.j0 k y0 y1 y2 y3) (samphireref04_Expand.j0 (k + 1) y0 y1 y2 y3)) ∧ (∀ y0 y1 y2 y3 y4 y5, LeO (samphireref04_Expand.l0 k y0 y1 y2 y3 y4 y5) (samphireref04_Expand.l0 (k + 1) y0 y1 y2 y3 y4 y5))
  | 0 => ⟨fun _ _ _ _ r h => by simp [samphireref04_Expand.j0] at h, fun _ _ _ _ _ _ r h => by simp [samphireref04_Expand.l0] at h⟩
  | k + 1 => by
    obtain ⟨ih0, ih1⟩ := samphireref04_Expand.mono_l k
    refine ⟨?_, ?_⟩
    · intro y0 y1 y2 y3
      unfold samphireref04_Expand.j0
      repeat' first
      | (with_reducible exact ih0 _ _ _ _)
      | (with_reducible exact ih1 _ _ _ _ _ _)
      | (with_reducible exact samphireref03_Mac.mono _ _ _)
      | (with_reducible exact LeO.refl _)
      | (with_reducible exact LeO.none _)
      | (with_reducible refine LeO.ite ?_ ?_)
      | (with_reducible refine LeO.bind ?_ (fun _ => ?_))
      | exact ih0 _ _ _ _
      | exact ih1 _ _ _ _ _ _
      | exact samphireref03_Mac.mono _ _ _
      | exact LeO.none _
      | refine LeO.ite ?_ ?_
      | refine LeO.bind ?_ (fun _ => ?_)
    · intro y0 y1 y2 y3 y4 y5
      unfold samphireref04_Expand.l0
      repeat' first
      | (with_reducible exact ih0 _ _ _ _)
      | (with_reducible exact ih1 _ _ _ _ _ _)
      | (with_reducible exact samphireref03_Mac.mono _ _ _)
      | (with_reducible exact LeO.refl _)
      | (with_reducible exact LeO.none _)
      | (with_reducible refine LeO.ite ?_ ?_)
      | (with_reducible refine LeO.bind ?_ (fun _ => ?_))
      | exact ih0 _ _ _ _
      | exact ih1 _ _ _ _ _ _
      | exact samphireref03_Mac.mono _ _ _
      | exact LeO.none _
      | refine LeO.ite ?_ ?_
      | refine LeO.bind ?_ (fun _ => ?_)
theorem samphireref04_Expand.mono : ∀ a0 a1 a2 k, LeO (samphireref04_Expand.f k a0 a1 a2) (samphireref04_Expand.f (k + 1) a0 a1 a2) := by
  intro a0 a1 a2 k
  obtain ⟨ih0, ih1⟩ := samphireref04_Expand.mono_l k
  unfold samphireref04_Expand.f
  repeat' first
      | (with_reducible exact ih0 _ _ _ _)
      | (with_reducible exact ih1 _ _ _ _ _ _)
      | (with_reducible exact samphireref03_Mac.mono _ _ _)
      | (with_reducible exact LeO.refl _)
      | (with_reducible exact LeO.none _)
      | (with_reducible refine LeO.ite ?_ ?_)
      | (with_reducible refine LeO.bind ?_ (fun _ => ?_))
      | exact ih0 _ _ _ _
      | exact ih1 _ _ _ _ _ _
      | exact samphireref03_Mac.mono _ _ _
      | exact LeO.none _
      | refine LeO.ite ?_ ?_
      | refine LeO.bind ?_ (fun _ => ?_)
set_option maxHeartbeats 8000000 in
set_option maxRecDepth 100000 in
theorem samphireref04_Expand.calls (k : Nat) (a0 : ByteArray) (a1 : ByteArray) (a2 : Int) (r1 : ByteArray) (r2 : Int) (w : World) (h : samphireref04_Expand.f k a0 a1 a2 = some (r1, r2)) :
    Calls Try.prog 57 #[.string a0, .string a1, .int .i64 a2] w fun e w' => e = .returned (.tuple #[.string r1, .int .i64 r2]) ∧ Below w.heap.size w w' := by
  have HB := Aside0.mk (Below.refl w.heap.size w)
  have H : (if a2 < 0 then (samphireref04_Expand.j0 k a0 a1 a2 true) else (samphireref04_Expand.j0 k a0 a1 a2 (decide (a2 > 8160)))) = some (r1, r2) := h
  clear h
  have HC4 := Aside0.mk H
  clear H
  go_enter Try.func57, Try.ntmps57
  go_upto_region 1 with (fail)
  go_cut [16] (fun v16 wc => ∃ (kq : Nat) (x16_3 : Bool), v16 = .bool x16_3 ∧ Aside0 (samphireref04_Expand.j0 kq a0 a1 a2 x16_3 = some (r1, r2)) ∧ Aside0 (kq ≤ k) ∧ Aside0 (Below w.heap.size w wc))
  case first =>
    have H := HC4.out
    clear HC4
    by_cases c5 : a2 < 0
    · rw [if_pos c5] at H
      have c5b0 : decide (a2 < 0) = true := decide_eq_true c5
      clear c5
      (first | rw [c5b0] | (simp only [i64_w, i32_w]; rw [c5b0]) | skip)
      have H' := Aside0.mk H
      clear H
      go_wp2
      go_meet
      case rel => exact ⟨_, (true), (by first | rfl | (simp; done) | (simp [*]; done)), H', ⟨by first | omega | exact Nat.le_refl _⟩, ⟨by repeat (first | (with_reducible first | exact HB.out | apply below_alloc | apply pw_below_drewN | apply below_drew1) | exact HB.out)⟩⟩
    · rw [if_neg c5] at H
      have c5b0 : decide (a2 < 0) = false := decide_eq_false c5
      clear c5
      (first | rw [c5b0] | (simp only [i64_w, i32_w]; rw [c5b0]) | skip)
      have H' := Aside0.mk H
      clear H
      go_wp2
      go_meet
      case rel => exact ⟨_, (decide (a2 > 8160)), (by first | rfl | (simp; done) | (simp [*]; done)), H', ⟨by first | omega | exact Nat.le_refl _⟩, ⟨by repeat (first | (with_reducible first | exact HB.out | apply below_alloc | apply pw_below_drewN | apply below_drew1) | exact HB.out)⟩⟩
  case rest =>
    clear HC4
    try clear p2
    try clear c5
    try clear c5b0
    obtain ⟨kq, x16_3, rfl, HA, HJ3, HB⟩ := hcut
    cases kq with
    | zero => exact absurd HA.out (by simp [samphireref04_Expand.j0])
    | succ kj3 =>
      have H := HA.out
      clear HA
      simp only [samphireref04_Expand.j0] at H
      by_cases c6 : x16_3 = true
      · subst c6
        have H1 : (some ((⟨#[]⟩ : ByteArray), 1)) = some (r1, r2) := by rw [if_pos rfl] at H; exact H
        clear H
        have H := H1
        clear H1
        simp only [Option.some.injEq, Prod.mk.injEq] at H
        obtain ⟨rfl, rfl⟩ := H
        go_wp2
        go_ret2
        exact ⟨by first | rfl | (simp [errW_none, errW_some] <;> rfl) | (simp [*, errW_none, errW_some] <;> rfl), by repeat (first | (with_reducible first | exact HB.out | apply below_alloc | apply pw_below_drewN | apply below_drew1) | exact HB.out)⟩
      · replace c6 := Bool.eq_false_iff.mpr c6
        subst c6
        have H1 : (samphireref04_Expand.l0 kj3 a0 a1 a2 (⟨#[]⟩ : ByteArray) (⟨#[]⟩ : ByteArray) 1) = some (r1, r2) := by rw [if_neg (show ¬ (false = true) by decide)] at H; exact H
        clear H
        have H := H1
        clear H1
        have H' := Aside0.mk H
        clear H
        go_wp2
        go_loopg [8, 9, 10] kj3 (fun kq v8 v9 v10 w' => ∃ (x8_2 : ByteArray) (x9_2 : ByteArray) (x10_2 : Int), v8 = .string x8_2 ∧ v9 = .string x9_2 ∧ v10 = .int .i64 x10_2 ∧ Aside0 (samphireref04_Expand.l0 kq a0 a1 a2 x8_2 x9_2 x10_2 = some (r1, r2)) ∧ Aside0 (kq ≤ kj3) ∧ Aside0 (Below w.heap.size w w'))
        case atStart => exact ⟨((⟨#[]⟩ : ByteArray)), ((⟨#[]⟩ : ByteArray)), (1), (by first | rfl | (simp; done) | (simp [*]; done)), (by first | rfl | (simp; done) | (simp [*]; done)), (by first | rfl | (simp; done) | (simp [*]; done)), H', ⟨Nat.le_refl _⟩, ⟨by repeat (first | (with_reducible first | exact HB.out | apply below_alloc | apply pw_below_drewN | apply below_drew1) | exact HB.out)⟩⟩
        case round =>
          clear H'
          try clear p2
          try clear c5
          try clear c5b0
          try clear c6
          try clear p2
          obtain ⟨x8_2, x9_2, x10_2, rfl, rfl, rfl, HA, HK2, HB⟩ := hrel
          cases gk with
          | zero => exact absurd HA.out (by simp [samphireref04_Expand.l0])
          | succ k2 =>
            have H := HA.out
            clear HA
            simp only [samphireref04_Expand.l0] at H
            by_cases c7 : (x8_2.size : Int) < a2
            · rw [if_pos c7] at H
              have c7b0 : decide ((x8_2.size : Int) < a2) = true := decide_eq_true c7
              clear c7
              by_cases c8 : x9_2.size + a1.size ≤ 9223372036854775807
              · rw [if_pos c8] at H
                have c8b0 := eq_true c8
                have c8b1 : decide (x9_2.size + a1.size ≤ 9223372036854775807) = true := decide_eq_true c8
                try have c8b2 : (9223372036854775807 < x9_2.size + a1.size) = False := eq_false (Nat.not_lt.2 c8)
                obtain ⟨y298, hy298⟩ : ∃ y_ : List Int, y_ = (([(x10_2) % 256] : List Int)) := ⟨_, rfl⟩
                replace H : (if (x9_2 ++ a1).size + (strOfNums y298).size ≤ 9223372036854775807 then ((samphireref03_Mac.f k2 a0 ((x9_2 ++ a1) ++ (strOfNums y298))).bind fun t301 => (if x8_2.size + t301.size ≤ 9223372036854775807 then (samphireref04_Expand.l0 k2 a0 a1 a2 (x8_2 ++ t301) t301 (wrap64 (x10_2 + 1))) else (none))) else (none)) = some (r1, r2) := by first | (rw [hy298]; with_reducible exact H) | (have H2_ := (Option.bind_some _ _).symm.trans H; rw [hy298]; with_reducible exact H2_) | (have H2_ := (Option.bind_some _ _).symm.trans H; with_reducible exact H2_) | with_reducible exact H | (rw [hy298]; exact H) | exact H
                have Ny298 := Aside0.mk hy298
                clear hy298
                by_cases c9 : (x9_2 ++ a1).size + (strOfNums y298).size ≤ 9223372036854775807
                · rw [if_pos c9] at H
                  have c9b0 := eq_true c9
                  have c9b1 : decide ((x9_2 ++ a1).size + (strOfNums y298).size ≤ 9223372036854775807) = true := decide_eq_true c9
                  try have c9b2 : (9223372036854775807 < (x9_2 ++ a1).size + (strOfNums y298).size) = False := eq_false (Nat.not_lt.2 c9)
                  try (have c9b3 := c9b2; simp only [ByteArray.size_append] at c9b3)
                  replace H := Option.bind_eq_some_iff.mp H
                  obtain ⟨t301, A100, H⟩ := H
                  replace H : (if x8_2.size + t301.size ≤ 9223372036854775807 then (samphireref04_Expand.l0 k2 a0 a1 a2 (x8_2 ++ t301) t301 (wrap64 (x10_2 + 1))) else (none)) = some (r1, r2) := H
                  have A10 := Aside0.mk A100
                  clear A100
                  by_cases c11 : x8_2.size + t301.size ≤ 9223372036854775807
                  · rw [if_pos c11] at H
                    have c11b0 := eq_true c11
                    have c11b1 : decide (x8_2.size + t301.size ≤ 9223372036854775807) = true := decide_eq_true c11
                    try have c11b2 : (9223372036854775807 < x8_2.size + t301.size) = False := eq_false (Nat.not_lt.2 c11)
                    have H' := Aside0.mk H
                    clear H
                    go_wp2_with (first | ((with_reducible refine gate_dst (N := 29) rfl ?_); refine Kd.R_lit (Kd.int .u8) _ 5 ?hg (N := 29) ?hd (xs := ([(x10_2) % 256] : List Int)) (inner := [.int .u8 ((x10_2) % 256)]) (ok := fun _ => True) (okp := fun _ => True) ?hr ?hp (fun _ hk => hk) trivial (Below.refl _ _) (Nat.le_refl _) (by simp) ?_; (case hd => rfl); (case hg => rfl); (case hr => first | (go_simp; done) | (go_simp; rfl)); (case hp => exact (Reps.one (show Kd.M (Kd.int .u8) _ _ _ ((x10_2) % 256) [.int .u8 ((x10_2) % 256)] from rfl) (Reps.none _ _))); intro v299 w12 ho13 hb hg_ hnew_; clear hg_ hnew_; (first | rw [← Ny298.out] at ho13 | (simp only [Int.reduceToNat] at ho13; rw [← Ny298.out] at ho13)); have n0_ := Aside0.mk (Kd.R_lower ho13 (below_size (by repeat (first | (with_reducible first | exact HB.out | apply below_alloc | apply pw_below_drewN | apply below_drew1) | exact HB.out)))); have n1_ := Aside0.mk (below_step (by repeat (first | (with_reducible first | exact HB.out | apply below_alloc | apply pw_below_drewN | apply below_drew1) | exact HB.out)) hb); clear HB; have HO300 := n0_; have HB := n1_; clear n0_ n1_; clear hb ho13; have hcv14 := own_string (P := Try.prog) Try.underlying68 Try.underlying5 Try.underlying9 (Kd.own_of_R HO300.out)) | ((with_reducible refine gate_callee (f := 93) rfl ?_); refine goesL_ (some 32) rfl rfl Try.func93 (by kernel_rfl) rfl #[.string a0, .string ((x9_2 ++ a1) ++ (strOfNums y298))] rfl (by (try simp only [List.map_toArray, List.map_cons, List.map_nil]); first | done | rfl | (simp only [List.length_drop, List.length_take]; rfl)) ?_; (with_reducible refine (samphireref03_Mac.calls k2 a0 ((x9_2 ++ a1) ++ (strOfNums y298)) t301 _ A10.out).mono ?_); rintro e w15 ⟨rfl, hb⟩; refine ⟨_, rfl, ?_⟩; have n0_ := Aside0.mk (Kd.R_below (by (with_reducible repeat (first | apply Kd.R_alloc | apply Kd.R_drewN | apply Kd.R_drew)); exact HO300.out) hb); have n1_ := Aside0.mk (below_step (by repeat (first | (with_reducible first | exact HB.out | apply below_alloc | apply pw_below_drewN | apply below_drew1) | exact HB.out)) hb); clear HO300; clear HB; have HO300 := n0_; have HB := n1_; clear n0_ n1_; (try clear hb); (try clear hb2); (try clear hk); (try clear hi)))
                    go_roundg k2
                    case measure => have := HJ3.out; have := HK2.out; omega
                    case rel => exact ⟨(x8_2 ++ t301), (t301), (wrap64 (x10_2 + 1)), (by first | rfl | (simp; done) | (simp [*]; done)), (by first | rfl | (simp; done) | (simp [*]; done)), (by first | rfl | (simp; done) | (simp [*]; done)), H', ⟨by have := HJ3.out; have := HK2.out; omega⟩, ⟨by repeat (first | (with_reducible first | exact HB.out | apply below_alloc | apply pw_below_drewN | apply below_drew1) | exact HB.out)⟩⟩
                  · rw [if_neg c11] at H
                    exact absurd H (by simp)
                · rw [if_neg c9] at H
                  exact absurd H (by simp)
              · rw [if_neg c8] at H
                exact absurd H (by simp)
            · rw [if_neg c7] at H
              have c7b0 : decide ((x8_2.size : Int) < a2) = false := decide_eq_false c7
              clear c7
              by_cases c16 : 0 ≤ a2
              · rw [if_pos c16] at H
                have c16b0 := eq_true c16
                have c16b1 : decide (0 ≤ a2) = true := decide_eq_true c16
                clear c16
                by_cases c17 : a2 ≤ (x8_2.size : Int)
                · rw [if_pos c17] at H
                  have c17b0 := eq_true c17
                  have c17b1 : decide (a2 ≤ (x8_2.size : Int)) = true := decide_eq_true c17
                  clear c17
                  simp only [Option.some.injEq, Prod.mk.injEq] at H
                  obtain ⟨rfl, rfl⟩ := H
                  go_wp2
                  go_ret2
                  exact ⟨by first | rfl | (simp [errW_none, errW_some] <;> rfl) | (simp [*, errW_none, errW_some] <;> rfl), by repeat (first | (with_reducible first | exact HB.out | apply below_alloc | apply pw_below_drewN | apply below_drew1) | exact HB.out)⟩
                · rw [if_neg c17] at H
                  exact absurd H (by simp)
              · rw [if_neg c16] at H
                exact absurd H (by simp)
end Go.Proofs.Ytbkbganflnemeaa.Pr
end

section
namespace Go.Proofs.Ytbkbganflnemeaa.Pr
open Go.RowKit Go.Proofs.YtbkbganflnemeaaW.PrintWords Go.Proofs.YtbkbganflnemeaaW.PrintLast Go.Proofs.YtbkbganflnemeaaW.PrintMore
attribute [local go_sem] max2_int min2_int max_two min_two max_three min_three max_four min_four   -- for this text's walks alone
set_option linter.unusedVariables false
set_option linter.unusedSimpArgs false
def samphireref04_Extract.f (k : Nat) (a0 : ByteArray) (a1 : ByteArray) : Option (ByteArray) := if a0.toList = ([] : List UInt8) then (if 32 ≤ 281474976710656 then ((samphireref03_Mac.f k (strOfNums (List.replicate 32 0)) a1).bind fun t346 => (some t346)) else (none)) else ((samphireref03_Mac.f k a0 a1).bind fun t347 => (some t347))
set_option maxHeartbeats 8000000 in
set_option maxRecDepth 100000 in
theorem samphireref04_Extract.calls (k : Nat) (a0 : ByteArray) (a1 : ByteArray) (r : ByteArray) (w : World) (h : samphireref04_Extract.f k a0 a1 = some r) :
    Calls Try.prog 95 #[.string a0, .string a1] w fun e w' => e = .returned (.string r) ∧ Below w.heap.size w w' := by
  have HB := Aside0.mk (Below.refl w.heap.size w)
  have H : (if a0.toList = ([] : List UInt8) then (if 32 ≤ 281474976710656 then ((samphireref03_Mac.f k (strOfNums (List.replicate 32 0)) a1).bind fun t346 => (some t346)) else (none)) else ((samphireref03_Mac.f k a0 a1).bind fun t347 => (some t347))) = some r := h
  clear h
  by_cases c3 : a0.toList = ([] : List UInt8)
  · rw [if_pos c3] at H
    have c3b0 : (a0.toList == ([] : List UInt8)) = true := beq_iff_eq.mpr c3
    have c3b1 : (a0.toList != ([] : List UInt8)) = false := bne_eq_false_iff_eq.mpr c3
    clear c3
    by_cases c4 : 32 ≤ 281474976710656
    · rw [if_pos c4] at H
      have c4b0 := eq_true c4
      have c4b1 : decide (32 ≤ 281474976710656) = true := decide_eq_true c4
      clear c4
      obtain ⟨y343, hy343⟩ : ∃ y_ : List Int, y_ = (List.replicate 32 0) := ⟨_, rfl⟩
      replace H : ((samphireref03_Mac.f k (strOfNums y343) a1).bind fun t346 => (some t346)) = some r := by first | (rw [hy343]; with_reducible exact H) | (have H2_ := (Option.bind_some _ _).symm.trans H; rw [hy343]; with_reducible exact H2_) | (have H2_ := (Option.bind_some _ _).symm.trans H; with_reducible exact H2_) | with_reducible exact H | (rw [hy343]; exact H) | exact H
      have Ny343 := Aside0.mk hy343
      clear hy343
      replace H := Option.bind_eq_some_iff.mp H
      obtain ⟨t346, A50, H⟩ := H
      replace H : (some t346) = some r := H
      have A5 := Aside0.mk A50
      clear A50
      obtain rfl := Option.some.inj H
      go_enter Try.func95, Try.ntmps95
      go_wp2_with (first | ((with_reducible refine gate_dst (N := 7) rfl ?_); refine Kd.R_make (Kd.int .u8) _ 5 rfl (N := 7) rfl 68 _ _ rfl 32 rfl rfl Try.underlying68 (.int .u8 0) 1 info5 rfl (by decide) (by omega) 0 (ok := fun _ => True) (okp := fun _ => True) rfl (fun _ hk => hk) trivial (by omega) (by omega) (Below.refl _ _) (Nat.le_refl _) ?_; intro v344 w6 ho7 hb hg_ hnew_; clear hg_ hnew_; (first | rw [← Ny343.out] at ho7 | (simp only [Int.reduceToNat] at ho7; rw [← Ny343.out] at ho7)); have n0_ := Aside0.mk (Kd.R_lower ho7 (below_size (by repeat (first | (with_reducible first | exact HB.out | apply below_alloc | apply pw_below_drewN | apply below_drew1) | exact HB.out)))); have n1_ := Aside0.mk (below_step (by repeat (first | (with_reducible first | exact HB.out | apply below_alloc | apply pw_below_drewN | apply below_drew1) | exact HB.out)) hb); clear HB; have HO345 := n0_; have HB := n1_; clear n0_ n1_; clear hb ho7; have hcv8 := own_string (P := Try.prog) Try.underlying68 Try.underlying5 Try.underlying9 (Kd.own_of_R HO345.out)) | ((with_reducible refine gate_callee (f := 93) rfl ?_); refine goesL_ (some 11) rfl rfl Try.func93 (by kernel_rfl) rfl #[.string (strOfNums y343), .string a1] rfl (by (try simp only [List.map_toArray, List.map_cons, List.map_nil]); first | done | rfl | (simp only [List.length_drop, List.length_take]; rfl)) ?_; (with_reducible refine (samphireref03_Mac.calls k (strOfNums y343) a1 t346 _ A5.out).mono ?_); rintro e w9 ⟨rfl, hb⟩; refine ⟨_, rfl, ?_⟩; have n0_ := Aside0.mk (Kd.R_below (by (with_reducible repeat (first | apply Kd.R_alloc | apply Kd.R_drewN | apply Kd.R_drew)); exact HO345.out) hb); have n1_ := Aside0.mk (below_step (by repeat (first | (with_reducible first | exact HB.out | apply below_alloc | apply pw_below_drewN | apply below_drew1) | exact HB.out)) hb); clear HO345; clear HB; have HO345 := n0_; have HB := n1_; clear n0_ n1_; (try clear hb); (try clear hb2); (try clear hk); (try clear hi)))
      go_ret
      exact ⟨by first | rfl | (simp [errW_none, errW_some] <;> rfl) | (simp [*, errW_none, errW_some] <;> rfl), by repeat (first | (with_reducible first | exact HB.out | apply below_alloc | apply pw_below_drewN | apply below_drew1) | exact HB.out)⟩
    · rw [if_neg c4] at H
      exact absurd H (by simp)
  · rw [if_neg c3] at H
    have c3b0 : (a0.toList == ([] : List UInt8)) = false := beq_eq_false_iff_ne.mpr c3
    have c3b1 : (a0.toList != ([] : List UInt8)) = true := bne_iff_ne.mpr c3
    replace H := Option.bind_eq_some_iff.mp H
    obtain ⟨t347, A100, H⟩ := H
    replace H : (some t347) = some r := H
    have A10 := Aside0.mk A100
    clear A100
    obtain rfl := Option.some.inj H
    go_enter Try.func95, Try.ntmps95
    go_wp2_with (first | ((with_reducible refine gate_callee (f := 93) rfl ?_); refine goesL_ (some 11) rfl rfl Try.func93 (by kernel_rfl) rfl #[.string a0, .string a1] rfl (by (try simp only [List.map_toArray, List.map_cons, List.map_nil]); first | done | rfl | (simp only [List.length_drop, List.length_take]; rfl)) ?_; (with_reducible refine (samphireref03_Mac.calls k a0 a1 t347 _ A10.out).mono ?_); rintro e w11 ⟨rfl, hb⟩; refine ⟨_, rfl, ?_⟩; have n0_ := Aside0.mk (below_step (by repeat (first | (with_reducible first | exact HB.out | apply below_alloc | apply pw_below_drewN | apply below_drew1) | exact HB.out)) hb); clear HB; have HB := n0_; clear n0_; (try clear hb); (try clear hb2); (try clear hk); (try clear hi)))
    go_ret
    exact ⟨by first | rfl | (simp [errW_none, errW_some] <;> rfl) | (simp [*, errW_none, errW_some] <;> rfl), by repeat (first | (with_reducible first | exact HB.out | apply below_alloc | apply pw_below_drewN | apply below_drew1) | exact HB.out)⟩
end Go.Proofs.Ytbkbganflnemeaa.Pr
end

section
namespace Go.Proofs.Ytbkbganflnemeaa.Pr
open Go.RowKit Go.Proofs.YtbkbganflnemeaaW.PrintWords Go.Proofs.YtbkbganflnemeaaW.PrintLast
set_option linter.unusedVariables false
set_option linter.unusedSimpArgs false
theorem empty_size (a : ByteArray) : (a.toList = ([] : List UInt8)) ↔ a.size = 0 := by
  rw [ByteArray.toList_eq]
  obtain ⟨⟨l⟩⟩ := a
  cases l with
  | nil => simp [ByteArray.size]
  | cons x l => simp [ByteArray.size]
theorem noughts_str (n : Nat) : strOfNums (List.replicate n 0) = txt (List.replicate n 0) := by
  rw [← str_nats, List.map_replicate]
  rfl
theorem bys_noughts (n : Nat) : bys (txt (List.replicate n 0)) = List.replicate n 0 := bys_txt (by intro x hx; rw [List.mem_replicate] at hx; omega)
theorem macT_empty (a s : ByteArray) (h : a.size = 0) : macT (txt (List.replicate 32 0)) s = macT a s := by
  have e : bys a = [] := by
    rw [← List.length_eq_zero_iff, bys_length]
    exact h
  unfold macT macL
  rw [bys_noughts, e]
  rfl
theorem hkdf_Extract_f (a s : ByteArray) (h0 : a.size ≤ 1000000000) (h1 : s.size ≤ 1000000000) : hkdf_Extract.f a s = some (macT a s) := by
  unfold hkdf_Extract.f
  by_cases hc : a.size = 0
  · rw [if_pos ((empty_size a).2 hc), strings_Repeat.f, if_pos (by decide), Option.bind_some, show (32 : Int).toNat = 32 from rfl, txt_repeat, hmac_Mac_f _ _ (by rw [txt_size, List.length_replicate]; omega) (by omega), Option.bind_some, macT_empty a s hc]
  · rw [if_neg (fun h => hc ((empty_size a).1 h)), hmac_Mac_f _ _ (by omega) (by omega), Option.bind_some]
theorem ref_Extract_f (a s : ByteArray) (h0 : a.size ≤ 1000000000) (h1 : s.size ≤ 1000000000) (k : Nat) (hk : 66 ≤ k) : samphireref04_Extract.f k a s = some (macT a s) := by
  unfold samphireref04_Extract.f
  by_cases hc : a.size = 0
  · rw [if_pos ((empty_size a).2 hc), if_pos (by decide), noughts_str, ref_Mac_f _ _ (by rw [txt_size, List.length_replicate]; omega) (by omega) k hk, Option.bind_some, macT_empty a s hc]
  · rw [if_neg (fun h => hc ((empty_size a).1 h)), ref_Mac_f _ _ (by omega) (by omega) k hk, Option.bind_some]
theorem txt_app (a b : List Nat) : txt a ++ txt b = txt (a ++ b) := by
  apply ByteArray.ext
  rw [ByteArray.data_append]
  unfold txt
  simp
theorem partL_le (k p : List Nat) : ∀ j, (partL k p j).length ≤ 32
  | 0 => by simp [partL]
  | j + 1 => by rw [partL_length]; exact Nat.le_refl _
theorem part_mac (x0 x1 : ByteArray) (j : Nat) : macT x0 (txt (partL (bys x0) (bys x1) j) ++ x1 ++ txt [(j + 1) % 256]) = txt (partL (bys x0) (bys x1) (j + 1)) := by
  unfold macT
  rw [bys_append, bys_append, bys_txt (partL_lt _ _ _), bys_txt (by intro x hx; rw [List.mem_singleton] at hx; omega)]
  rfl
theorem one_num (j : Nat) : strOfNums [((j : Int) + 1) % 256] = txt [(j + 1) % 256] := by
  rw [← str_nats]
  congr 1
theorem ref_expand_loop (x0 x1 : ByteArray) (h0 : x0.size ≤ 1000000000) (h1 : x1.size ≤ 1000000000) (n N : Nat) (hN : N = (n + 31) / 32) (hN2 : N ≤ 255) : ∀ (d j : Nat), j + d = N →
    samphireref04_Expand.l0 (d + 67) x0 x1 (n : Int) (txt (expL (bys x0) (bys x1) j)) (txt (partL (bys x0) (bys x1) j)) ((j : Int) + 1) = some (txt ((expL (bys x0) (bys x1) N).take n), 0)
  | 0, j, h => by
    have e : j = N := by omega
    subst e
    rw [show 0 + 67 = 66 + 1 from rfl, samphireref04_Expand.l0, txt_size, expL_length, if_neg (by omega), if_pos (by omega), if_pos (by omega), txt_extract, Int.toNat_natCast]
    rfl
  | d + 1, j, h => by
    have hpl := partL_le (bys x0) (bys x1) j
    have hw : wrap64 ((j : Int) + 1 + 1) = ((j + 1 : Nat) : Int) + 1 := by rw [wrapN _ (by omega) (by omega)]; omega
    rw [show d + 1 + 67 = (d + 67) + 1 by omega, samphireref04_Expand.l0, txt_size, expL_length, if_pos (by omega), txt_size, if_pos (by omega), Option.bind_some, one_num, if_pos (by rw [ByteArray.size_append, txt_size, txt_size, List.length_singleton]; omega)]
    rw [ref_Mac_f _ _ (by omega) (by rw [ByteArray.size_append, ByteArray.size_append, txt_size, txt_size, List.length_singleton]; omega) (d + 67) (by omega), Option.bind_some, part_mac, if_pos (by rw [txt_size, partL_length]; omega), txt_app, hw]
    exact ref_expand_loop x0 x1 h0 h1 n N hN hN2 d (j + 1) (by omega)
theorem ref_Expand_f (x0 x1 : ByteArray) (h0 : x0.size ≤ 1000000000) (h1 : x1.size ≤ 1000000000) (n : Nat) (hn : n ≤ 8160) : samphireref04_Expand.f ((n + 31) / 32 + 68) x0 x1 (n : Int) = some (txt ((expL (bys x0) (bys x1) ((n + 31) / 32)).take n), 0) := by
  unfold samphireref04_Expand.f
  rw [if_neg (by omega), decide_eq_false (by omega), show (n + 31) / 32 + 68 = ((n + 31) / 32 + 67) + 1 by omega, samphireref04_Expand.j0, if_neg (by decide)]
  exact ref_expand_loop x0 x1 h0 h1 n _ rfl (by omega) _ 0 (by omega)
theorem hkdf_Expand_f (x0 x1 : ByteArray) (h0 : x0.size ≤ 1000000000) (h1 : x1.size ≤ 1000000000) (n : Nat) (hn : n ≤ 8160) : hkdf_Expand.f x0 x1 (n : Int) = some (txt ((expL (bys x0) (bys x1) ((n + 31) / 32)).take n), 0) := by
  unfold hkdf_Expand.f
  rw [if_neg (by omega), if_pos ⟨h0, h1⟩, Int.toNat_natCast]
end Go.Proofs.Ytbkbganflnemeaa.Pr
end

section
namespace Go.Proofs.Ytbkbganflnemeaa.Pr
open Go.RowKit Go.Proofs.YtbkbganflnemeaaW.PrintWords Go.Proofs.YtbkbganflnemeaaW.PrintLast
set_option maxHeartbeats 1000000
set_option linter.unusedVariables false
set_option linter.unusedSimpArgs false
theorem aead_Seal_f (a0 a1 a2 a3 : ByteArray) (h2 : a2.size ≤ 1000000000000000) (h3 : a3.size ≤ 1000000000000000) : aead_Seal.f a0 a1 a2 a3 = some (sealF a0 a1 a2 a3) := by
  unfold aead_Seal.f sealF
  rw [aead_may_f a0 a1 _ _ h2 h3, Option.bind_some]
  by_cases hc : aeadOK a0 a1 a2.size a3.size
  · rw [if_pos hc, if_pos (decide_eq_true hc)]
    obtain ⟨k0, k1, k2, k3⟩ := hc
    have hb : bys (txt (streamL (bys a0) (bys a1) 1 (bys a3))) = streamL (bys a0) (bys a1) 1 (bys a3) := bys_txt (streamL_lt _ _ _ _ (bys_lt' _))
    have hz : (txt (streamL (bys a0) (bys a1) 1 (bys a3))).size = a3.size := by rw [txt_size, streamL_length, bys_length]
    rw [stream_f a0 a1 a3 k0 k1 (by omega), Option.bind_some]
    unfold aead_tag.f
    rw [if_pos ⟨k0, k1, by rw [hz]; omega⟩, Option.bind_some, hb, if_pos (by rw [hz, txt_size, tagL_length]; omega), txt_append]
  · rw [if_neg hc, if_neg (by rw [decide_eq_false hc]; decide)]
end Go.Proofs.Ytbkbganflnemeaa.Pr
end

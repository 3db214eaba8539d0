/- Shared words. -/
import Derived.Test.YtmablneefndedaaHGenA
import Derived.Test.YtmablneefndedaaPrxf33
namespace Go.Proofs.Ytmablneefndedaa.Pr
open Go.RowKit Go.Deep Go.Proofs.YtmablneefndedaaW.PrintWords Go.Proofs.YtmablneefndedaaW.PrintLast Go.Proofs.YtmablneefndedaaW.PrintMore
set_option maxHeartbeats 1000000
set_option linter.unusedVariables false
set_option linter.unusedSimpArgs false
theorem same_loop (x y : ByteArray) (n : Nat) (hx : x.size = n) (hy : y.size = n) (hn : n ≤ 1000000000000) : ∀ (d i acc : Nat), i + d = n → acc < 256 → (acc = 0 ↔ (bys x).take i = (bys y).take i) →
    word_Same.l0 (d + 1) x y (acc : Int) (n : Int) (i : Int) = some (decide (bys x = bys y))
  | 0, i, acc, h, ha, hr => by
    rw [word_Same.l0, if_neg (by omega)]
    rw [List.take_of_length_le (by rw [bys_length]; omega), List.take_of_length_le (by rw [bys_length]; omega)] at hr
    congr 1
    by_cases hc : acc = 0
    · rw [decide_eq_true (hr.1 hc), hc]
      rfl
    · rw [decide_eq_false (fun h => hc (hr.2 h)), beq_eq_false_iff_ne]
      omega
  | d + 1, i, acc, h, ha, hr => by
    have hw : wrap64 ((i : Int) + 1) = ((i + 1 : Nat) : Int) := by rw [wrapN _ (by omega) (by omega)]; omega
    have hxi : i < (bys x).length := by rw [bys_length]; omega
    have hyi : i < (bys y).length := by rw [bys_length]; omega
    have hxor : (bys x).getD i 0 ^^^ (bys y).getD i 0 < 256 := Nat.xor_lt_two_pow (n := 8) (bys_lt x i) (bys_lt y i)
    rw [word_Same.l0, if_pos (by omega), if_pos (by omega), if_pos (by omega), if_pos (by omega), bt_nat _ _ (by omega), bt_nat _ _ (by omega), u8_xor_nat _ _ (bys_lt _ _) (bys_lt _ _), u8_or_nat _ _ ha hxor, hw]
    refine same_loop x y n hx hy hn d (i + 1) _ (by omega) (Nat.or_lt_two_pow (n := 8) ha hxor) ?_
    rw [or_zero, xor_zero, hr, List.take_succ_eq_append_getElem hxi, List.take_succ_eq_append_getElem hyi]
    have e1 : (bys x).getD i 0 = (bys x)[i] := by simp [hxi]
    have e2 : (bys y).getD i 0 = (bys y)[i] := by simp [hyi]
    rw [e1, e2]
    constructor
    · rintro ⟨h1, h2⟩
      rw [h1, h2]
    · intro h
      have := List.append_inj' h rfl
      exact ⟨this.1, by simpa using this.2⟩
theorem word_Same_f (x y : ByteArray) (hx : x.size ≤ 1000000000000) (k : Nat) (hk : x.size + 1 ≤ k) : word_Same.f k x y = some (decide (bys x = bys y)) := by
  unfold word_Same.f
  by_cases hc : x.size = y.size
  · rw [if_pos (by omega)]
    have h0 := same_loop x y x.size rfl hc.symm hx x.size 0 0 (by omega) (by decide) (by simp)
    have h1 : ∀ j, x.size + 1 ≤ j → word_Same.l0 j x y 0 (x.size : Int) 0 = some (decide (bys x = bys y)) := by
      intro j hj
      induction hj with
      | refl => exact h0
      | step _ ih => exact word_Same.mono_l _ _ _ _ _ _ _ ih
    exact h1 k hk
  · rw [if_neg (by omega), decide_eq_false]
    intro h
    apply hc
    rw [← bys_length, ← bys_length, h]
end Go.Proofs.Ytmablneefndedaa.Pr

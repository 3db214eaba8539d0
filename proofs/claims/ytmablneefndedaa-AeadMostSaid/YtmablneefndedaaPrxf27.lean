-- Written by wip/hp.py of this session (the kit's printer, with hand-proved functions put in). Lean checks it.
import Derived.Test.YtmablneefndedaaPrx0
namespace Go.Proofs.Ytmablneefndedaa.Pr
open Go.RowKit Go.Proofs.YtmablneefndedaaW.PrintWords Go.Proofs.YtmablneefndedaaW.PrintLast Go.Proofs.YtmablneefndedaaW.PrintMore
attribute [local go_sem] max2_int min2_int max_two min_two max_three min_three max_four min_four   -- for this text's walks alone
set_option linter.unusedVariables false
set_option linter.unusedSimpArgs false

/-! ### aead_may: function 27 -/
def aead_may.f (a0 : ByteArray) (a1 : ByteArray) (a2 : Int) (a3 : Int) : Option (Bool) := if (a0.size : Int) = 32 then (if (a1.size : Int) = 12 then (if a2 ≤ 32768 then (some (decide (a3 ≤ (wrap64 (32768 - a2))))) else (some false)) else (some false)) else (some false)
set_option maxHeartbeats 8000000 in
set_option maxRecDepth 100000 in
theorem aead_may.calls (a0 : ByteArray) (a1 : ByteArray) (a2 : Int) (a3 : Int) (r : Bool) (w : World) (h : aead_may.f a0 a1 a2 a3 = some r) :
    Calls Try.prog 27 #[.string a0, .string a1, .int .i64 a2, .int .i64 a3] w fun e w' => e = .returned (.bool r) ∧ Drawn0 w w' := by
  have H : (if (a0.size : Int) = 32 then (if (a1.size : Int) = 12 then (if a2 ≤ 32768 then (some (decide (a3 ≤ (wrap64 (32768 - a2))))) else (some false)) else (some false)) else (some false)) = some r := h
  clear h
  by_cases c5 : (a0.size : Int) = 32
  · rw [if_pos c5] at H
    have c5b0 : ((a0.size : Int) == 32) = true := beq_iff_eq.mpr c5
    have c5b1 : ((a0.size : Int) != 32) = false := bne_eq_false_iff_eq.mpr c5
    clear c5
    by_cases c6 : (a1.size : Int) = 12
    · rw [if_pos c6] at H
      have c6b0 : ((a1.size : Int) == 12) = true := beq_iff_eq.mpr c6
      have c6b1 : ((a1.size : Int) != 12) = false := bne_eq_false_iff_eq.mpr c6
      clear c6
      by_cases c7 : a2 ≤ 32768
      · rw [if_pos c7] at H
        have c7b0 : decide (a2 ≤ 32768) = true := decide_eq_true c7
        clear c7
        obtain rfl := Option.some.inj H
        go_enter Try.func27, Try.ntmps27
        go_wp2
        go_ret
        exact ⟨by first | rfl | (simp; done) | (simp [*]; done), by repeat (first | exact Drawn0.refl _ | apply Drawn0.step)⟩
      · rw [if_neg c7] at H
        have c7b0 : decide (a2 ≤ 32768) = false := decide_eq_false c7
        clear c7
        obtain rfl := Option.some.inj H
        go_enter Try.func27, Try.ntmps27
        go_wp2
        go_ret
        exact ⟨by first | rfl | (simp; done) | (simp [*]; done), by repeat (first | exact Drawn0.refl _ | apply Drawn0.step)⟩
    · rw [if_neg c6] at H
      have c6b0 : ((a1.size : Int) == 12) = false := beq_eq_false_iff_ne.mpr c6
      have c6b1 : ((a1.size : Int) != 12) = true := bne_iff_ne.mpr c6
      obtain rfl := Option.some.inj H
      go_enter Try.func27, Try.ntmps27
      go_wp2
      go_ret
      exact ⟨by first | rfl | (simp; done) | (simp [*]; done), by repeat (first | exact Drawn0.refl _ | apply Drawn0.step)⟩
  · rw [if_neg c5] at H
    have c5b0 : ((a0.size : Int) == 32) = false := beq_eq_false_iff_ne.mpr c5
    have c5b1 : ((a0.size : Int) != 32) = true := bne_iff_ne.mpr c5
    obtain rfl := Option.some.inj H
    go_enter Try.func27, Try.ntmps27
    go_wp2
    go_ret
    exact ⟨by first | rfl | (simp; done) | (simp [*]; done), by repeat (first | exact Drawn0.refl _ | apply Drawn0.step)⟩

end Go.Proofs.Ytmablneefndedaa.Pr

-- Written by wip/hp.py of this session (the kit's printer, with hand-proved functions put in). Lean checks it.
import Derived.Test.YtmablneefndedaaPrx0
namespace Go.Proofs.Ytmablneefndedaa.Pr
open Go.RowKit Go.Proofs.YtmablneefndedaaW.PrintWords Go.Proofs.YtmablneefndedaaW.PrintLast Go.Proofs.YtmablneefndedaaW.PrintMore
attribute [local go_sem] max2_int min2_int max_two min_two max_three min_three max_four min_four   -- for this text's walks alone
set_option linter.unusedVariables false
set_option linter.unusedSimpArgs false

/-! ### samphirelaw07_light: function 11 -/
def samphirelaw07_light.f (a0 : ByteArray) (a1 : ByteArray) (a2 : ByteArray) : Option (Bool) := if (a0.size : Int) ≤ 512 then (if (a1.size : Int) ≤ 512 then (some (decide ((a2.size : Int) ≤ 512))) else (some false)) else (some false)
set_option maxHeartbeats 8000000 in
set_option maxRecDepth 100000 in
theorem samphirelaw07_light.calls (a0 : ByteArray) (a1 : ByteArray) (a2 : ByteArray) (r : Bool) (w : World) (h : samphirelaw07_light.f a0 a1 a2 = some r) :
    Calls Try.prog 11 #[.string a0, .string a1, .string a2] w fun e w' => e = .returned (.bool r) ∧ Drawn0 w w' := by
  have H : (if (a0.size : Int) ≤ 512 then (if (a1.size : Int) ≤ 512 then (some (decide ((a2.size : Int) ≤ 512))) else (some false)) else (some false)) = some r := h
  clear h
  by_cases c4 : (a0.size : Int) ≤ 512
  · rw [if_pos c4] at H
    have c4b0 : decide ((a0.size : Int) ≤ 512) = true := decide_eq_true c4
    have c4b1 : decide (a0.size ≤ 512) = true := decide_eq_true (by omega)
    clear c4
    by_cases c5 : (a1.size : Int) ≤ 512
    · rw [if_pos c5] at H
      have c5b0 : decide ((a1.size : Int) ≤ 512) = true := decide_eq_true c5
      have c5b1 : decide (a1.size ≤ 512) = true := decide_eq_true (by omega)
      clear c5
      obtain rfl := Option.some.inj H
      go_enter Try.func11, Try.ntmps11
      go_wp2
      go_ret
      exact ⟨by first | rfl | (simp; done) | (simp [*]; done), by repeat (first | exact Drawn0.refl _ | apply Drawn0.step)⟩
    · rw [if_neg c5] at H
      have c5b0 : decide ((a1.size : Int) ≤ 512) = false := decide_eq_false c5
      have c5b1 : decide (a1.size ≤ 512) = false := decide_eq_false (by omega)
      clear c5
      obtain rfl := Option.some.inj H
      go_enter Try.func11, Try.ntmps11
      go_wp2
      go_ret
      exact ⟨by first | rfl | (simp; done) | (simp [*]; done), by repeat (first | exact Drawn0.refl _ | apply Drawn0.step)⟩
  · rw [if_neg c4] at H
    have c4b0 : decide ((a0.size : Int) ≤ 512) = false := decide_eq_false c4
    have c4b1 : decide (a0.size ≤ 512) = false := decide_eq_false (by omega)
    clear c4
    obtain rfl := Option.some.inj H
    go_enter Try.func11, Try.ntmps11
    go_wp2
    go_ret
    exact ⟨by first | rfl | (simp; done) | (simp [*]; done), by repeat (first | exact Drawn0.refl _ | apply Drawn0.step)⟩

end Go.Proofs.Ytmablneefndedaa.Pr

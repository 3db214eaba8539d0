/- The document's Out: a part more. -/
-- HAND samphire/samphireref09.with samphireref09_with 0 1
import Derived.Test.YtpeliaknceigdaaWWords
import Derived.Test.YtpeliaknceigdaaWLast
import Derived.Test.YtpeliaknceigdaaWMore
import Derived.Test.YtpeliaknceigdaaHTxtA
import Derived.WalkKit
import Derived.KernelRfl
namespace Go.Proofs.Ytpeliaknceigdaa.Pr
open Go.RowKit Go.Proofs.YtpeliaknceigdaaW.PrintWords Go.Proofs.YtpeliaknceigdaaW.PrintLast Go.Proofs.YtpeliaknceigdaaW.PrintMore
set_option maxHeartbeats 1000000
set_option linter.unusedVariables false
set_option linter.unusedSimpArgs false
def samphireref09_with.f (a0_0 : ByteArray) (a0_1 : Bool) (a1 : ByteArray) (a2 : Bool) : Option (ByteArray × Bool) :=
  if a0_0.size ≤ 1000000000000000 ∧ a1.size ≤ 1000000000000000 then some (if a2 = false ∨ a0_1 = true ∨ 65536 < a0_0.size + a1.size then (a0_0, true) else (a0_0 ++ a1, false)) else none
theorem with_no (S x : ByteArray) (b : Bool) (w : World) : Calls Try.prog 40 #[.agg #[.string S, .bool b], .string x, .bool false] w fun e w' => e = .returned (.agg #[.string S, .bool true]) ∧ Below w.heap.size w w' := by
  go_enter Try.func40, Try.ntmps40
  go_wp2_with (fail)
  refine bodyPost_ret (v := .agg #[.string S, .bool true]) (by simp [results, Try.results40, go_sem]) rfl ⟨rfl, ?_⟩
  exact below_alloc (below_alloc (Below.refl _ _) _) _
theorem with_bad (S x : ByteArray) (w : World) : Calls Try.prog 40 #[.agg #[.string S, .bool true], .string x, .bool true] w fun e w' => e = .returned (.agg #[.string S, .bool true]) ∧ Below w.heap.size w w' := by
  go_enter Try.func40, Try.ntmps40
  go_wp2_with (fail)
  refine bodyPost_ret (v := .agg #[.string S, .bool true]) (by simp [results, Try.results40, go_sem]) rfl ⟨rfl, ?_⟩
  exact below_alloc (below_alloc (Below.refl _ _) _) _
theorem with_big (S x : ByteArray) (w : World) (hS : S.size ≤ 1000000000000000) (hx : x.size ≤ 1000000000000000) (h : 65536 < S.size + x.size) : Calls Try.prog 40 #[.agg #[.string S, .bool false], .string x, .bool true] w fun e w' => e = .returned (.agg #[.string S, .bool true]) ∧ Below w.heap.size w w' := by
  have d : decide (65536 < (S.size : Int) + (x.size : Int)) = true := decide_eq_true (by omega)
  go_enter Try.func40, Try.ntmps40
  go_wp2_with (fail)
  refine bodyPost_ret (v := .agg #[.string S, .bool true]) (by simp [results, Try.results40, go_sem]) rfl ⟨rfl, ?_⟩
  exact below_alloc (below_alloc (Below.refl _ _) _) _
theorem with_yes (S x : ByteArray) (w : World) (h : S.size + x.size ≤ 65536) : Calls Try.prog 40 #[.agg #[.string S, .bool false], .string x, .bool true] w fun e w' => e = .returned (.agg #[.string (S ++ x), .bool false]) ∧ Below w.heap.size w w' := by
  have d : decide (65536 < (S.size : Int) + (x.size : Int)) = false := decide_eq_false (by omega)
  have k1 : S.size + x.size ≤ 9223372036854775807 := by omega
  go_enter Try.func40, Try.ntmps40
  go_wp2_with (fail)
  refine bodyPost_ret (v := .agg #[.string (S ++ x), .bool false]) (by simp [results, Try.results40, go_sem]) rfl ⟨rfl, ?_⟩
  exact below_alloc (below_alloc (Below.refl _ _) _) _
theorem samphireref09_with.calls (a0_0 : ByteArray) (a0_1 : Bool) (a1 : ByteArray) (a2 : Bool) (r1 : ByteArray) (r2 : Bool) (w : World) (h : samphireref09_with.f a0_0 a0_1 a1 a2 = some (r1, r2)) :
    Calls Try.prog 40 #[.agg #[.string a0_0, .bool a0_1], .string a1, .bool a2] w fun e w' => e = .returned (.agg #[.string r1, .bool r2]) ∧ Below w.heap.size w w' := by
  unfold samphireref09_with.f at h
  by_cases hs : a0_0.size ≤ 1000000000000000 ∧ a1.size ≤ 1000000000000000
  · rw [if_pos hs] at h
    have h := Option.some.inj h
    cases a2 with
    | false =>
      rw [if_pos (.inl rfl)] at h
      simp only [Prod.mk.injEq] at h
      obtain ⟨rfl, rfl⟩ := h
      exact with_no _ _ _ w
    | true =>
      cases a0_1 with
      | true =>
        rw [if_pos (.inr (.inl rfl))] at h
        simp only [Prod.mk.injEq] at h
        obtain ⟨rfl, rfl⟩ := h
        exact with_bad _ _ w
      | false =>
        by_cases hb : 65536 < a0_0.size + a1.size
        · rw [if_pos (.inr (.inr hb))] at h
          simp only [Prod.mk.injEq] at h
          obtain ⟨rfl, rfl⟩ := h
          exact with_big _ _ w hs.1 hs.2 hb
        · rw [if_neg (by rintro (h | h | h); cases h; cases h; exact hb h)] at h
          simp only [Prod.mk.injEq] at h
          obtain ⟨rfl, rfl⟩ := h
          exact with_yes _ _ w (by omega)
  · rw [if_neg hs] at h
    cases h
end Go.Proofs.Ytpeliaknceigdaa.Pr

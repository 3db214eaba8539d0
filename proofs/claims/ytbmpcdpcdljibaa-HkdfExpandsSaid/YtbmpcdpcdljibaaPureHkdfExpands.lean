/- HkdfExpands, the plain statement: any number of bytes of any key. No condition. -/
import Derived.Test.YtbmpcdpcdljibaaHHkB
import Derived.Test.YtbmpcdpcdljibaaPrxf12
namespace Go.Proofs.Ytbmpcdpcdljibaa.Pure
open Go.RowKit Go.Proofs.Ytbmpcdpcdljibaa.Pr Go.Proofs.YtbmpcdpcdljibaaW.PrintWords Go.Proofs.YtbmpcdpcdljibaaW.PrintLast
theorem HkdfExpands : samphirelaw04_HkdfExpands.Pure := by
  intro a0 a1 a2 _ _ _
  have ht : ∀ k, samphirelaw04_HkdfExpands.j0 (k + 1) a0 a1 a2 true = some true := by
    intro k
    rw [samphirelaw04_HkdfExpands.j0, if_pos rfl, one_f, Option.bind_some]
  refine ⟨330, ?_⟩
  unfold samphirelaw04_HkdfExpands.f
  rw [light_two a0 a1 327, Option.bind_some]
  by_cases hl : a0.size ≤ 512 ∧ a1.size ≤ 512
  · rw [decide_eq_true hl, if_pos rfl]
    obtain ⟨l0, l1⟩ := hl
    have b0 : a0.size ≤ 1000000000 := by omega
    have b1 : a1.size ≤ 1000000000 := by omega
    have hf : samphirelaw04_HkdfExpands.j0 330 a0 a1 a2 false = some true := by
      rw [samphirelaw04_HkdfExpands.j0, if_neg (by decide)]
      by_cases hn : a2 < 0 ∨ 8160 < a2
      · have e1 : hkdf_Expand.f a0 a1 a2 = some (⟨#[]⟩, 1) := by
          unfold hkdf_Expand.f
          rw [if_pos hn]
        have e2 : samphireref04_Expand.f 329 a0 a1 a2 = some (⟨#[]⟩, 1) := by
          unfold samphireref04_Expand.f
          by_cases h0 : a2 < 0
          · rw [if_pos h0, samphireref04_Expand.j0, if_pos rfl]
          · rw [if_neg h0, decide_eq_true (by omega), samphireref04_Expand.j0, if_pos rfl]
        rw [e1, e2, Option.bind_some, Option.bind_some, if_pos rfl, if_pos rfl, one_f, Option.bind_some]
      · obtain ⟨n, rfl⟩ := Int.eq_ofNat_of_zero_le (show 0 ≤ a2 by omega)
        have e1 := hkdf_Expand_f a0 a1 b0 b1 n (by omega)
        have e2 : samphireref04_Expand.f 329 a0 a1 (n : Int) = some (txt ((expL (bys a0) (bys a1) ((n + 31) / 32)).take n), 0) := by
          have h : ∀ k, (n + 31) / 32 + 68 ≤ k → samphireref04_Expand.f k a0 a1 (n : Int) = some (txt ((expL (bys a0) (bys a1) ((n + 31) / 32)).take n), 0) := by
            intro k hk
            induction hk with
            | refl => exact ref_Expand_f a0 a1 b0 b1 n (by omega)
            | step _ ih => exact samphireref04_Expand.mono _ _ _ _ _ ih
          exact h 329 (by omega)
        rw [e1, e2, Option.bind_some, Option.bind_some, if_pos rfl, if_pos rfl, one_f, Option.bind_some]
    by_cases h1 : a2 > 200
    · rw [if_pos h1]
      by_cases h2 : a2 ≤ 8160
      · rw [decide_eq_true h2, ht]
      · rw [decide_eq_false h2, hf]
    · rw [if_neg h1, hf]
  · rw [decide_eq_false hl, if_neg (by decide), ht]
end Go.Proofs.Ytbmpcdpcdljibaa.Pure

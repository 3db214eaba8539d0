/- HkdfExtracts, the plain statement: the key of anything secret, with any salt. No condition. -/
import Derived.Test.YtbmpcdpcdljibaaHHkB
import Derived.Test.YtbmpcdpcdljibaaPrxf13
namespace Go.Proofs.Ytbmpcdpcdljibaa.Pure
open Go.RowKit Go.Proofs.Ytbmpcdpcdljibaa.Pr Go.Proofs.YtbmpcdpcdljibaaW.PrintWords Go.Proofs.YtbmpcdpcdljibaaW.PrintLast
theorem HkdfExtracts : samphirelaw04_HkdfExtracts.Pure := by
  intro a0 a1 _ _
  refine ⟨70, ?_⟩
  unfold samphirelaw04_HkdfExtracts.f
  rw [light_two a0 a1 67, Option.bind_some]
  by_cases hl : a0.size ≤ 512 ∧ a1.size ≤ 512
  · obtain ⟨l0, l1⟩ := hl
    rw [decide_eq_true ⟨l0, l1⟩, if_pos rfl, hkdf_Extract_f a0 a1 (by omega) (by omega), ref_Extract_f a0 a1 (by omega) (by omega) 70 (by decide), Option.bind_some, Option.bind_some, if_pos rfl]
    rw [hkdf_Extract_f _ a1 (by decide) (by omega), Option.bind_some, if_pos (by decide), noughts_str, hkdf_Extract_f _ a1 (by rw [txt_size, List.length_replicate]; decide) (by omega), Option.bind_some, if_pos, one_f, Option.bind_some]
    rw [macT_empty ⟨#[]⟩ a1 rfl]
  · rw [decide_eq_false hl, if_neg (by decide), one_f, Option.bind_some]
end Go.Proofs.Ytbmpcdpcdljibaa.Pure

/- HkdfMost, the plain statement: as many bytes as may be, and one more. No condition. -/
import Derived.Test.YtbmpcdpcdljibaaHHkB
import Derived.Test.YtbmpcdpcdljibaaPrxf16
namespace Go.Proofs.Ytbmpcdpcdljibaa.Pure
open Go.RowKit Go.Proofs.Ytbmpcdpcdljibaa.Pr Go.Proofs.YtbmpcdpcdljibaaW.PrintWords Go.Proofs.YtbmpcdpcdljibaaW.PrintLast
theorem and_1h (n : Int) : bits .and .i64 n 1 = n % 2 := by
  have h127 : (BitVec.ofInt 64 1).toNat = 2 ^ 1 - 1 := by decide
  have key : (BitVec.ofInt 64 n &&& BitVec.ofInt 64 1).toNat = (n % ((2 ^ 64 : Nat) : Int)).toNat % 2 ^ 1 := by
    rw [BitVec.toNat_and, BitVec.toNat_ofInt, h127, Nat.and_two_pow_sub_one_eq_mod]
  show IntKind.i64.wrap ((BitVec.ofInt 64 n &&& BitVec.ofInt 64 1).toNat : Nat) = n % 2
  rw [key, IntKind.wrap_i64]
  omega
theorem HkdfMost : samphirelaw04_HkdfMost.Pure := by
  intro a0 a1 _ _
  refine ⟨70, ?_⟩
  unfold samphirelaw04_HkdfMost.f
  rw [light_one a0 68, Option.bind_some]
  by_cases hl : a0.size ≤ 512
  · rw [decide_eq_true hl, if_pos rfl, and_1h]
    rcases (show a1 % 2 = 0 ∨ a1 % 2 = 1 by omega) with h | h
    · rw [h, show wrap64 (8160 + 0) = ((8160 : Nat) : Int) by (rw [wrapN _ (by decide) (by decide)]; rfl), hkdf_Expand_f a0 _ (by omega) (by decide) 8160 (by decide), Option.bind_some]
      have hs : (txt ((expL (bys a0) (bys ⟨#[]⟩) ((8160 + 31) / 32)).take 8160)).size = 8160 := by
        rw [txt_size, List.length_take, expL_length]
        decide
      simp only
      rw [if_pos (by decide), hs, show wrap64 (1 - 0) = 1 by (rw [wrapN _ (by decide) (by decide)]; rfl), show wrap64 (8160 * 1) = 8160 by (rw [wrapN _ (by decide) (by decide)]; rfl), if_pos (show ((8160 : Nat) : Int) = 8160 from rfl), if_pos trivial, one_f, Option.bind_some]
    · have e1 : hkdf_Expand.f a0 ⟨#[]⟩ 8161 = some (⟨#[]⟩, 1) := by
        unfold hkdf_Expand.f
        rw [if_pos (by decide)]
      rw [h, show wrap64 (8160 + 1) = 8161 by (rw [wrapN _ (by decide) (by decide)]; rfl), e1, Option.bind_some]
      simp only
      rw [if_pos (by decide), show wrap64 (1 - 1) = 0 by (rw [wrapN _ (by decide) (by decide)]; rfl), show wrap64 (8160 * 0) = 0 by (rw [wrapN _ (by decide) (by decide)]; rfl), if_pos (show (((⟨#[]⟩ : ByteArray).size : Nat) : Int) = 0 from rfl), if_neg (by decide), if_pos trivial, one_f, Option.bind_some]
  · rw [decide_eq_false hl, if_neg (by decide), one_f, Option.bind_some]
end Go.Proofs.Ytbmpcdpcdljibaa.Pure

/- ShaPads, the plain statement: what stands behind a text of any length, as the document's reference has it; with it blocks are whole. No condition. -/
import Derived.Test.YtbmpcdpcdljibaaHShaD
import Derived.Test.YtbmpcdpcdljibaaPrxf4
namespace Go.Proofs.Ytbmpcdpcdljibaa.Pure
open Go.RowKit Go.Proofs.Ytbmpcdpcdljibaa.Pr Go.Proofs.YtbmpcdpcdljibaaW.PrintWords Go.Proofs.YtbmpcdpcdljibaaW.PrintLast
theorem padL_length (n : Nat) : (padL n).length = 9 + (119 - n % 64) % 64 := by
  simp [padL, by4]
  omega
theorem begin_both2 : ∃ (r : ByteArray) (K : Nat), sha_Begin.f = some r ∧ ∀ k, K ≤ k → samphireref02_Begin.f k = some r := by
  obtain ⟨K2, hK2⟩ := begin_ev
  exact ⟨_, K2, rfl, hK2⟩
theorem pad_facts (n : Nat) : ∃ r : ByteArray, txt (padL n) = r ∧ r.size = 9 + (119 - n % 64) % 64 ∧ bt r 0 = 128 := by
  refine ⟨_, rfl, by rw [txt_size, padL_length], ?_⟩
  have h := bt_nat (txt (padL n)) 0 (by rw [txt_size, padL_length]; omega)
  rw [show ((0 : Nat) : Int) = 0 from rfl] at h
  rw [h]
  have : bys (txt (padL n)) = 128 :: (bys (txt (padL n))).tail := by
    simp [padL, txt, bys]
  rw [this]
  rfl
theorem ShaPads : samphirelaw02_ShaPads.Pure := by
  intro a0 hw
  obtain ⟨b, K, e2, hK⟩ := begin_both2
  have e4 := hK K (Nat.le_refl _)
  refine ⟨K + 1, ?_⟩
  unfold samphirelaw02_ShaPads.f sha_Pad.f samphireref02_Pad.f padF
  by_cases hc : 0 ≤ a0 ∧ a0 ≤ 1125899906842624
  · rw [if_pos hc]
    obtain ⟨r, hr, hs, h0⟩ := pad_facts a0.toNat
    rw [hr]
    obtain ⟨n, rfl⟩ := Int.eq_ofNat_of_zero_le hc.1
    rw [Int.toNat_natCast] at hs
    clear hr
    simp only [Option.bind_some, bne_self_eq_false, if_true]
    simp only [samphirelaw02_ShaPads.j0]
    have q : Int.tmod (wrap64 ((n : Int) + (r.size : Int))) 64 = 0 := by
      rw [wr _ (by omega) (by omega), Int.tmod_eq_emod_of_nonneg (by omega)]
      omega
    rw [q, if_neg (by decide), if_pos rfl, if_pos trivial, if_pos (by omega), if_pos (by omega), if_pos (by omega), h0]
    rfl
  · rw [if_neg hc]
    simp only [Option.bind_some, bne_self_eq_false, if_true]
    simp only [samphirelaw02_ShaPads.j0]
    rw [e2, e4, if_neg (by decide), if_neg (by decide)]
    simp
end Go.Proofs.Ytbmpcdpcdljibaa.Pure

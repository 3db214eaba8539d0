/- ShaBlocks, the plain statement: any state behind any block is what the document's reference answers. No condition. -/
import Derived.Test.YtbmpcdpcdljibaaHShaP
import Derived.Test.YtbmpcdpcdljibaaPrx5
namespace Go.Proofs.Ytbmpcdpcdljibaa.Pure
open Go.RowKit Go.Proofs.Ytbmpcdpcdljibaa.Pr Go.Proofs.YtbmpcdpcdljibaaW.PrintWords Go.Proofs.YtbmpcdpcdljibaaW.PrintLast
theorem block_both (a0 a1 : ByteArray) : ∃ (r : ByteArray) (n : Int) (K : Nat), sha_Block.f a0 a1 = some (r, n) ∧ ∀ k, K ≤ k → samphireref02_Block.f k a0 a1 = some (r, n) := by
  obtain ⟨K1, hK1⟩ := block_ev a0 a1
  by_cases hc : a0.size = 32 ∧ a1.size = 64
  · rw [if_pos hc] at hK1
    exact ⟨_, _, K1, by unfold sha_Block.f; rw [if_pos hc], hK1⟩
  · rw [if_neg hc] at hK1
    exact ⟨_, _, K1, by unfold sha_Block.f; rw [if_neg hc], hK1⟩
theorem begin_both : ∃ (r : ByteArray) (K : Nat), sha_Begin.f = some r ∧ ∀ k, K ≤ k → samphireref02_Begin.f k = some r := by
  obtain ⟨K2, hK2⟩ := begin_ev
  exact ⟨_, K2, rfl, hK2⟩
theorem ShaBlocks : samphirelaw02_ShaBlocks.Pure := by
  intro a0 a1 _ _
  obtain ⟨r, n, K1, e1, hK1⟩ := block_both a0 a1
  obtain ⟨b, K2, e2, hK2⟩ := begin_both
  refine ⟨K1 + K2 + 1, ?_⟩
  have e3 := hK1 (K1 + K2) (by omega)
  have e4 := hK2 (K1 + K2) (by omega)
  have j : ∀ x, samphirelaw02_ShaBlocks.j0 (K1 + K2 + 1) a0 a1 x = some true := by
    intro x
    simp only [samphirelaw02_ShaBlocks.j0]
    rw [e1, e2, e3, e4]
    cases x <;> simp
  unfold samphirelaw02_ShaBlocks.f
  rw [j, j]
  split <;> rfl
end Go.Proofs.Ytbmpcdpcdljibaa.Pure

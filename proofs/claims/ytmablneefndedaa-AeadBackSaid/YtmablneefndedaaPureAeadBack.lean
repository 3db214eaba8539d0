import Derived.Test.YtmablneefndedaaPrxf5
import Derived.Test.YtmablneefndedaaHAeadP
namespace Go.Proofs.Ytmablneefndedaa.Pure
open Go.RowKit Go.Proofs.Ytmablneefndedaa.Pr Go.Proofs.YtmablneefndedaaW.PrintWords Go.Proofs.YtmablneefndedaaW.PrintLast
theorem AeadBack : samphirelaw07_AeadBack.Pure := by
  intro a0 a1 a2 h0 h1 h2
  refine ⟨1, ?_⟩
  have hj : ∀ b, (b = false → a0.size = 44 ∧ a1.size ≤ 512 ∧ a2.size ≤ 512) → samphirelaw07_AeadBack.j0 1 a0 a1 a2 b = some true := by
    intro b hb
    rw [samphirelaw07_AeadBack.j0]
    cases b with
    | true => rw [if_pos rfl, awake07_f]; rfl
    | false =>
      obtain ⟨g0, g1, g2⟩ := hb rfl
      rw [if_neg (by decide), if_pos (by decide), if_pos (by omega)]
      have hok : aeadOK (a0.extract 0 32) (a0.extract 32 a0.size) a1.size a2.size := by
        refine ⟨?_, ?_, by omega, by omega⟩
        · rw [ByteArray.size_extract]; omega
        · rw [ByteArray.size_extract]; omega
      obtain ⟨o1, o2, o3, -⟩ := open_seal _ _ _ _ hok
      rw [aead_Seal_f _ _ _ _ (by omega) (by omega), Option.bind_some, aead_Open_f _ _ _ _ (by omega) (by omega), Option.bind_some, o1, if_pos o2, if_pos rfl, if_pos (by rw [o3]; unfold wrap64; omega), if_pos rfl, awake07_f]
      rfl
  unfold samphirelaw07_AeadBack.f
  by_cases g : a0.size = 44
  · rw [if_pos (by omega), light_f, Option.bind_some]
    apply hj
    intro h
    rw [Bool.not_eq_false', decide_eq_true_iff] at h
    exact ⟨g, h.1, h.2.1⟩
  · rw [if_neg (by omega)]
    exact hj true (fun h => nomatch h)
end Go.Proofs.Ytmablneefndedaa.Pure

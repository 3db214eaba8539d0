/- What sealing answers; what must come, whatever the arguments are. -/
import Derived.Test.YtmablneefndedaaHAeadO
import Derived.Test.YtmablneefndedaaPrxf13
import Derived.Test.YtmablneefndedaaPrxf11
namespace Go.Proofs.Ytmablneefndedaa.Pr
open Go.RowKit Go.Proofs.YtmablneefndedaaW.PrintWords Go.Proofs.YtmablneefndedaaW.PrintLast
set_option maxHeartbeats 1000000
set_option linter.unusedVariables false
set_option linter.unusedSimpArgs false
theorem aead_Seal_f (a0 a1 a2 a3 : ByteArray) (h2 : a2.size ≤ 1000000000000000) (h3 : a3.size ≤ 1000000000000000) : aead_Seal.f a0 a1 a2 a3 = some (sealF a0 a1 a2 a3) := by
  unfold aead_Seal.f sealF
  rw [aead_may_f a0 a1 _ _ h2 h3, Option.bind_some]
  by_cases hc : aeadOK a0 a1 a2.size a3.size
  · rw [if_pos hc, if_pos (decide_eq_true hc)]
    obtain ⟨k0, k1, k2, k3⟩ := hc
    have hb : bys (txt (streamL (bys a0) (bys a1) 1 (bys a3))) = streamL (bys a0) (bys a1) 1 (bys a3) := bys_txt (streamL_lt _ _ _ _ (bys_lt' _))
    have hz : (txt (streamL (bys a0) (bys a1) 1 (bys a3))).size = a3.size := by rw [txt_size, streamL_length, bys_length]
    rw [stream_f a0 a1 a3 k0 k1 (by omega), Option.bind_some]
    unfold aead_tag.f
    rw [if_pos ⟨k0, k1, by rw [hz]; omega⟩, Option.bind_some, hb, if_pos (by rw [hz, txt_size, tagL_length]; omega), txt_append]
  · rw [if_neg hc, if_neg (by rw [decide_eq_false hc]; decide)]
theorem light_f (a b c : ByteArray) : samphirelaw07_light.f a b c = some (decide (a.size ≤ 512 ∧ b.size ≤ 512 ∧ c.size ≤ 512)) := by
  unfold samphirelaw07_light.f
  by_cases h1 : a.size ≤ 512
  · rw [if_pos (by omega)]
    by_cases h2 : b.size ≤ 512
    · rw [if_pos (by omega)]
      congr 1
      rw [decide_eq_decide]
      omega
    · rw [if_neg (by omega), decide_eq_false (by omega)]
  · rw [if_neg (by omega), decide_eq_false (by omega)]
/-- What is sealed for one text is not for another one. -/
def wakeC : List Nat := streamL (List.replicate 32 0) (List.replicate 12 0) 1 [116, 101, 120, 116]
theorem wake_tell : tagL (List.replicate 32 0) (List.replicate 12 0) [99] wakeC ≠ tagL (List.replicate 32 0) (List.replicate 12 0) [98] wakeC := by decide +kernel
end Go.Proofs.Ytmablneefndedaa.Pr

/- ShaParts, the plain statement: a text is summed as its blocks come. No condition. -/
import Derived.Test.YtbmpcdpcdljibaaPureShaSums
import Derived.Test.YtbmpcdpcdljibaaPrxf7
namespace Go.Proofs.Ytbmpcdpcdljibaa.Pure
open Go.RowKit Go.Proofs.Ytbmpcdpcdljibaa.Pr Go.Proofs.YtbmpcdpcdljibaaW.PrintWords Go.Proofs.YtbmpcdpcdljibaaW.PrintLast
theorem parts_loop (a0 : ByteArray) (h0 : a0.size ≤ 2048) : ∀ (d : Nat) (l : ByteArray) (s : St), s.ok → l.size = 64 * d → blks d s (bys l) = blks ((allL a0).length / 64) St0 (allL a0) → samphirelaw02_ShaParts.l0 (d + 1) a0 l (txt s.bytes) = some true
  | 0, l, s, hs, hl, hb => by
    have hl0 : l = ⟨#[]⟩ := by
      obtain ⟨⟨l⟩⟩ := l
      cases l with
      | nil => rfl
      | cons x l => simp [ByteArray.size] at hl
    subst hl0
    rw [samphirelaw02_ShaParts.l0, if_neg (by decide), if_pos (by rw [ByteArray.toList_eq]), sha_Sum_f _ (by omega), Option.bind_some, if_pos, abc_f, Option.bind_some]
    rw [sumT, sumL, ← allL_bys]
    rw [← hb]
    rfl
  | d + 1, l, s, hs, hl, hb => by
    have hx : (l.extract 0 64).size = 64 := by simp; omega
    rw [samphirelaw02_ShaParts.l0, if_pos (by omega), if_pos (by decide), if_pos (by omega), sha_Block.f, if_pos ⟨by rw [txt_size, St.bytes_length], hx⟩, Option.bind_some, if_pos rfl, if_pos (by rw [txt_size, St.bytes_length]; rfl)]
    rw [bys_bytes, stOf_bytes _ hs]
    refine parts_loop a0 h0 d _ _ (stp_ok _ _) (by simp; omega) ?_
    rw [← hb, blks, bys_extract, bys_extract, List.drop_zero, Nat.sub_zero, List.take_of_length_le (l := (bys l).drop 64) (by simp [bys_length])]
theorem ShaParts : samphirelaw02_ShaParts.Pure := by
  intro a0 _
  refine ⟨(allL a0).length / 64 + 1, ?_⟩
  unfold samphirelaw02_ShaParts.f
  split
  · rw [abc_f, Option.bind_some]
  · rename_i hs
    have hs' : a0.size ≤ 2048 := by omega
    have hp : sha_Pad.f (a0.size : Int) = some (txt (padL a0.size), 0) := by
      unfold sha_Pad.f padF
      rw [if_pos (by omega), Int.toNat_natCast]
    obtain ⟨m, hm, hm2⟩ := allL_len a0
    have hz : (a0 ++ txt (padL a0.size)).size = 64 * m := by
      rw [← bys_length, bys_append, bys_txt (padL_lt _)]
      exact hm
    rw [hp, Option.bind_some, if_pos rfl, if_pos (by rw [txt_size, padL_len]; omega), show sha_Begin.f = some (txt St0.bytes) from rfl, Option.bind_some]
    have e : (allL a0).length / 64 = m := by omega
    rw [e]
    refine parts_loop a0 hs' m _ _ St0_ok hz ?_
    rw [e, bys_append, bys_txt (padL_lt _)]
    rfl
end Go.Proofs.Ytbmpcdpcdljibaa.Pure

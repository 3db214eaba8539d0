/- HmacSums, the plain statement: any text's sum under any key. No condition. -/
import Derived.Test.YtbmpcdpcdljibaaHHmB
import Derived.Test.YtbmpcdpcdljibaaPrxf8
namespace Go.Proofs.Ytbmpcdpcdljibaa.Pure
open Go.RowKit Go.Proofs.Ytbmpcdpcdljibaa.Pr Go.Proofs.YtbmpcdpcdljibaaW.PrintWords Go.Proofs.YtbmpcdpcdljibaaW.PrintLast
theorem jefe_take : (macL [74, 101, 102, 101] [119, 104, 97, 116, 32, 100, 111, 32, 121, 97, 32, 119, 97, 110, 116, 32, 102, 111, 114, 32, 110, 111, 116, 104, 105, 110, 103, 63]).take 4 = [91, 220, 193, 70] := by decide +kernel
theorem jeff_ne : ¬ macL [74, 101, 102, 102] [119, 104, 97, 116, 32, 100, 111, 32, 121, 97, 32, 119, 97, 110, 116, 32, 102, 111, 114, 32, 110, 111, 116, 104, 105, 110, 103, 63] = macL [74, 101, 102, 101] [119, 104, 97, 116, 32, 100, 111, 32, 121, 97, 32, 119, 97, 110, 116, 32, 102, 111, 114, 32, 110, 111, 116, 104, 105, 110, 103, 63] := by decide +kernel
theorem jefe_f (k : Nat) (hk : 66 ≤ k) : samphirelaw03_jefe.f k = some true := by
  unfold samphirelaw03_jefe.f
  have e1 : bys (⟨#[74, 101, 102, 101]⟩ : ByteArray) = [74, 101, 102, 101] := rfl
  have e2 : bys (⟨#[119, 104, 97, 116, 32, 100, 111, 32, 121, 97, 32, 119, 97, 110, 116, 32, 102, 111, 114, 32, 110, 111, 116, 104, 105, 110, 103, 63]⟩ : ByteArray) = [119, 104, 97, 116, 32, 100, 111, 32, 121, 97, 32, 119, 97, 110, 116, 32, 102, 111, 114, 32, 110, 111, 116, 104, 105, 110, 103, 63] := rfl
  have e3 : bys (⟨#[74, 101, 102, 102]⟩ : ByteArray) = [74, 101, 102, 102] := rfl
  rw [hmac_Mac_f _ _ (by decide) (by decide), Option.bind_some, macT_size, if_pos (show ((32 : Nat) : Int) = 32 from rfl), if_pos (by decide), if_pos (by decide)]
  rw [hmac_Check_f _ _ _ (by decide) (by decide) k hk, hmac_Check_f _ _ _ (by decide) (by decide) k hk, Option.bind_some, bys_macT, e1, e2, e3, decide_eq_true rfl, if_pos rfl, Option.bind_some, decide_eq_false jeff_ne]
  rw [if_pos]
  · rfl
  · rw [macT, e1, e2, txt_extract, txt_toList, List.drop_zero, jefe_take]
    rfl
theorem HmacSums : samphirelaw03_HmacSums.Pure := by
  intro a0 a1 a2 _ _ _
  refine ⟨70, ?_⟩
  have hj := jefe_f 69 (by decide)
  have ht : samphirelaw03_HmacSums.j0 70 a0 a1 a2 true = some true := by
    rw [samphirelaw03_HmacSums.j0, if_pos rfl, hj, Option.bind_some]
  unfold samphirelaw03_HmacSums.f
  by_cases h0 : (a0.size : Int) > 1024
  · rw [if_pos h0, ht]
  · rw [if_neg h0]
    by_cases h1 : (a1.size : Int) > 1024
    · rw [if_pos h1, ht]
    · rw [if_neg h1]
      by_cases h2 : (a2.size : Int) > 1024
      · rw [decide_eq_true h2, ht]
      · rw [decide_eq_false h2, samphirelaw03_HmacSums.j0, if_neg (by decide)]
        have b0 : a0.size ≤ 100000000000 := by omega
        have b1 : a1.size ≤ 100000000000 := by omega
        rw [hmac_Mac_f a0 a1 b0 b1, ref_Mac_f a0 a1 b0 b1 69 (by decide), Option.bind_some, Option.bind_some, if_pos rfl]
        rw [hmac_Check_f a0 a1 a2 b0 b1 69 (by decide), Option.bind_some, ref_Check_f a0 a1 a2 b0 b1 69 (by decide), Option.bind_some, beq_bys, bys_macT, beq_self_eq_true, if_pos rfl]
        rw [Option.bind_some, hmac_Check_f a0 a1 _ b0 b1 69 (by decide), Option.bind_some, bys_macT, decide_eq_true rfl, if_pos rfl, hj, Option.bind_some]
end Go.Proofs.Ytbmpcdpcdljibaa.Pure

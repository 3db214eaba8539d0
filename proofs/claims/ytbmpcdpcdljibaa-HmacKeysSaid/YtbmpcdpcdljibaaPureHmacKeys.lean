/- HmacKeys, the plain statement: a long key counts as its sum, a short one as itself with noughts behind. No condition. -/
import Derived.Test.YtbmpcdpcdljibaaPureHmacSums
import Derived.Test.YtbmpcdpcdljibaaPrxf9
namespace Go.Proofs.Ytbmpcdpcdljibaa.Pure
open Go.RowKit Go.Proofs.Ytbmpcdpcdljibaa.Pr Go.Proofs.YtbmpcdpcdljibaaW.PrintWords Go.Proofs.YtbmpcdpcdljibaaW.PrintLast
theorem and_255 (n : Int) : bits .and .i64 n 255 = n % 256 := by
  have h127 : (BitVec.ofInt 64 255).toNat = 2 ^ 8 - 1 := by decide
  have key : (BitVec.ofInt 64 n &&& BitVec.ofInt 64 255).toNat = (n % ((2 ^ 64 : Nat) : Int)).toNat % 2 ^ 8 := by
    rw [BitVec.toNat_and, BitVec.toNat_ofInt, h127, Nat.and_two_pow_sub_one_eq_mod]
  show IntKind.i64.wrap ((BitVec.ofInt 64 n &&& BitVec.ofInt 64 255).toNat : Nat) = n % 256
  rw [key, IntKind.wrap_i64]
  omega
theorem key64_sum (l : List Nat) (h : 64 < l.length) : key64 (sumL l) = key64 l := by
  unfold key64
  rw [if_pos h, if_neg (by rw [sumL_length]; decide)]
theorem key64_noughts (l : List Nat) (n : Nat) (h : l.length + n ≤ 64) : key64 (l ++ List.replicate n 0) = key64 l := by
  unfold key64
  rw [if_neg (by rw [List.length_append, List.length_replicate]; omega), if_neg (by omega), List.append_assoc, List.length_append, List.length_replicate, List.replicate_append_replicate, show n + (64 - (l.length + n)) = 64 - l.length by omega]
theorem macT_key (k k' s : ByteArray) (h : key64 (bys k) = key64 (bys k')) : macT k s = macT k' s := by
  unfold macT macL
  rw [h]
theorem noughts (n : Nat) : strOfNums (List.replicate n 0) = txt (List.replicate n 0) := by
  rw [← str_nats, List.map_replicate]
  rfl
theorem HmacKeys : samphirelaw03_HmacKeys.Pure := by
  intro a0 a1 a2 _ _ _
  refine ⟨70, ?_⟩
  have hj := jefe_f 69 (by decide)
  have ht : samphirelaw03_HmacKeys.j0 70 a0 a1 a2 true = some true := by
    rw [samphirelaw03_HmacKeys.j0, if_pos rfl, hj, Option.bind_some]
  unfold samphirelaw03_HmacKeys.f
  by_cases h0 : (a0.size : Int) > 1024
  · rw [if_pos h0, ht]
  · rw [if_neg h0]
    by_cases h1 : (a1.size : Int) > 1024
    · rw [decide_eq_true h1, ht]
    · rw [decide_eq_false h1, samphirelaw03_HmacKeys.j0, if_neg (by decide)]
      have b0 : a0.size ≤ 100000000000 := by omega
      have b1 : a1.size ≤ 100000000000 := by omega
      rw [hmac_Mac_f a0 a1 b0 b1, Option.bind_some]
      by_cases h2 : (a0.size : Int) > 64
      · rw [if_pos h2, sha_Sum_f a0 (by omega), Option.bind_some, hmac_Mac_f _ a1 (by rw [sumT_size]; omega) b1, Option.bind_some, if_pos, hj, Option.bind_some]
        rw [macT_key (sumT a0) a0 a1]
        rw [bys_sumT, key64_sum _ (by rw [bys_length]; omega)]
      · rw [if_neg h2]
        have hw : wrap64 (65 - (a0.size : Int)) = 65 - (a0.size : Int) := by unfold wrap64; omega
        obtain ⟨n, hn, hn2⟩ : ∃ n : Nat, Int.tmod (bits .and .i64 a2 255) (65 - (a0.size : Int)) = (n : Int) ∧ a0.size + n ≤ 64 := by
          rw [and_255, Int.tmod_eq_emod_of_nonneg (by omega)]
          have q1 : 0 ≤ a2 % 256 % (65 - (a0.size : Int)) := Int.emod_nonneg _ (by omega)
          have q2 : a2 % 256 % (65 - (a0.size : Int)) < 65 - (a0.size : Int) := Int.emod_lt_of_pos _ (by omega)
          exact ⟨(a2 % 256 % (65 - (a0.size : Int))).toNat, by omega, by omega⟩
        have hs : (txt (List.replicate n 0)).size = n := by rw [txt_size, List.length_replicate]
        rw [hw, hn, if_neg (by omega), if_pos (by omega), if_pos (by omega), Int.toNat_natCast, Option.bind_some, noughts, if_pos (by rw [hs]; omega), hmac_Mac_f _ a1 (by rw [ByteArray.size_append, hs]; omega) b1, Option.bind_some, if_pos, hj, Option.bind_some]
        rw [macT_key (a0 ++ txt (List.replicate n 0)) a0 a1]
        rw [bys_append, bys_txt (by intro x hx; rw [List.mem_replicate] at hx; omega), key64_noughts _ _ (by rw [bys_length]; omega)]
end Go.Proofs.Ytbmpcdpcdljibaa.Pure

/- ShaLengths, the plain statement: texts of any length, all of one byte. No condition. -/
import Derived.Test.YtbmpcdpcdljibaaPureShaSums
import Derived.Test.YtbmpcdpcdljibaaPrxf6
namespace Go.Proofs.Ytbmpcdpcdljibaa.Pure
open Go.RowKit Go.Proofs.Ytbmpcdpcdljibaa.Pr Go.Proofs.YtbmpcdpcdljibaaW.PrintWords Go.Proofs.YtbmpcdpcdljibaaW.PrintLast
theorem head_nil : samphirelaw02_head.f (⟨#[]⟩ : ByteArray) (⟨#[227, 176, 196, 66]⟩ : ByteArray) = some true := by
  unfold samphirelaw02_head.f
  rw [sha_Sum_f _ (by decide), Option.bind_some, sumT_size, if_pos (show ((32 : Nat) : Int) = 32 from rfl), if_pos (by decide), if_pos (by decide)]
  have e : bys ⟨#[]⟩ = [] := rfl
  rw [sumT, e, txt_extract, txt_toList, List.drop_zero, sum_nil, ByteArray.toList_eq]
  rfl
theorem head_56 : samphirelaw02_head.f (⟨#[97, 98, 99, 100, 98, 99, 100, 101, 99, 100, 101, 102, 100, 101, 102, 103, 101, 102, 103, 104, 102, 103, 104, 105, 103, 104, 105, 106, 104, 105, 106, 107, 105, 106, 107, 108, 106, 107, 108, 109, 107, 108, 109, 110, 108, 109, 110, 111, 109, 110, 111, 112, 110, 111, 112, 113]⟩ : ByteArray) (⟨#[36, 141, 106, 97]⟩ : ByteArray) = some true := by
  unfold samphirelaw02_head.f
  rw [sha_Sum_f _ (by decide), Option.bind_some, sumT_size, if_pos (show ((32 : Nat) : Int) = 32 from rfl), if_pos (by decide), if_pos (by decide)]
  have e : bys ⟨#[97, 98, 99, 100, 98, 99, 100, 101, 99, 100, 101, 102, 100, 101, 102, 103, 101, 102, 103, 104, 102, 103, 104, 105, 103, 104, 105, 106, 104, 105, 106, 107, 105, 106, 107, 108, 106, 107, 108, 109, 107, 108, 109, 110, 108, 109, 110, 111, 109, 110, 111, 112, 110, 111, 112, 113]⟩ = [97, 98, 99, 100, 98, 99, 100, 101, 99, 100, 101, 102, 100, 101, 102, 103, 101, 102, 103, 104, 102, 103, 104, 105, 103, 104, 105, 106, 104, 105, 106, 107, 105, 106, 107, 108, 106, 107, 108, 109, 107, 108, 109, 110, 108, 109, 110, 111, 109, 110, 111, 112, 110, 111, 112, 113] := rfl
  rw [sumT, e, txt_extract, txt_toList, List.drop_zero, sum_56, ByteArray.toList_eq]
  rfl
theorem fill_loop (n : Nat) (c : Int) (hn : n ≤ 2047) : ∀ (d i : Nat) (l : List Int), l.length = n → i + d = n → samphirelaw02_ShaLengths.l0 (d + 1) c n l i = some true
  | 0, i, l, hl, hi => by
    rw [samphirelaw02_ShaLengths.l0, if_neg (by omega)]
    have hs : (strOfNums l).size ≤ 1000000000000 := by
      simp [strOfNums, ByteArray.size, hl]; omega
    rw [sha_Sum_f _ hs, ref_Sum_f _ hs, Option.bind_some, Option.bind_some, if_pos rfl, abc_f, Option.bind_some]
  | d + 1, i, l, hl, hi => by
    rw [samphirelaw02_ShaLengths.l0, if_pos (by omega), if_pos (by omega), if_pos (by omega)]
    have e : wrap64 ((i : Int) + 1) = ((i + 1 : Nat) : Int) := by
      unfold wrap64; omega
    rw [e]
    exact fill_loop n c hn d (i + 1) _ (by rw [List.length_set]; exact hl) (by omega)
theorem and_2047 (n : Int) : bits .and .i64 n 2047 = n % 2048 := by
  have h127 : (BitVec.ofInt 64 2047).toNat = 2 ^ 11 - 1 := by decide
  have key : (BitVec.ofInt 64 n &&& BitVec.ofInt 64 2047).toNat = (n % ((2 ^ 64 : Nat) : Int)).toNat % 2 ^ 11 := by
    rw [BitVec.toNat_and, BitVec.toNat_ofInt, h127, Nat.and_two_pow_sub_one_eq_mod]
  show IntKind.i64.wrap ((BitVec.ofInt 64 n &&& BitVec.ofInt 64 2047).toNat : Nat) = n % 2048
  rw [key, IntKind.wrap_i64]
  omega
theorem ShaLengths : samphirelaw02_ShaLengths.Pure := by
  intro a0 a1 h0 _
  obtain ⟨n, hn, hb⟩ : ∃ n : Nat, Go.bits .and .i64 a0 2047 = (n : Int) ∧ n ≤ 2047 := by
    refine ⟨(a0 % 2048).toNat, ?_, by omega⟩
    rw [and_2047]
    omega
  refine ⟨n + 2, ?_⟩
  unfold samphirelaw02_ShaLengths.f
  rw [head_nil, Option.bind_some, if_pos rfl, head_56, Option.bind_some]
  rw [show (!true) = false from rfl, samphirelaw02_ShaLengths.j0, if_neg (by decide), hn, if_pos (by omega), if_pos (by omega)]
  exact fill_loop n a1 hb n 0 _ (by rw [List.length_replicate]; omega) (by omega)
end Go.Proofs.Ytbmpcdpcdljibaa.Pure

/- The sum in plain words: what Sum answers, and two known sums. -/
import Derived.Test.YtbmpcdpcdljibaaHShaE
namespace Go.Proofs.Ytbmpcdpcdljibaa.Pr
open Go.RowKit Go.Proofs.YtbmpcdpcdljibaaW.PrintWords Go.Proofs.YtbmpcdpcdljibaaW.PrintLast
theorem sumL_length (l : List Nat) : (sumL l).length = 32 := rfl
theorem sumL_lt (l : List Nat) : ∀ n ∈ sumL l, n < 256 := St.bytes_lt _
theorem allL_bys (a : ByteArray) : allL a = bys a ++ padL (bys a).length := by rw [allL, bys_length]
/-- The sum of a text. -/
def sumT (a : ByteArray) : ByteArray := txt (sumL (bys a))
theorem sumT_size (a : ByteArray) : (sumT a).size = 32 := by rw [sumT, txt_size, sumL_length]
theorem bys_sumT (a : ByteArray) : bys (sumT a) = sumL (bys a) := bys_txt (sumL_lt _)
theorem sumF_eq (a : ByteArray) (h : a.size ≤ 1000000000000) : sumF a = some (sumT a) := by
  unfold sumF
  rw [if_pos h, allL_bys]
  rfl
theorem sha_Sum_f (a : ByteArray) (h : a.size ≤ 1000000000000) : sha_Sum.f a = some (sumT a) := sumF_eq a h
theorem ref_Sum_f (a : ByteArray) (h : a.size ≤ 1000000000000) : samphireref02_Sum.f a = some (sumT a) := sumF_eq a h
theorem sum_abc : sumL [97, 98, 99] = [186, 120, 22, 191, 143, 1, 207, 234, 65, 65, 64, 222, 93, 174, 34, 35, 176, 3, 97, 163, 150, 23, 122, 156, 180, 16, 255, 97, 242, 0, 21, 173] := by decide +kernel
theorem sum_nil : (sumL []).take 4 = [227, 176, 196, 66] := by decide +kernel
theorem sum_56 : (sumL [97, 98, 99, 100, 98, 99, 100, 101, 99, 100, 101, 102, 100, 101, 102, 103, 101, 102, 103, 104, 102, 103, 104, 105, 103, 104, 105, 106, 104, 105, 106, 107, 105, 106, 107, 108, 106, 107, 108, 109, 107, 108, 109, 110, 108, 109, 110, 111, 109, 110, 111, 112, 110, 111, 112, 113]).take 4 = [36, 141, 106, 97] := by decide +kernel
theorem txt_toList (l : List Nat) : (txt l).toList = l.map fun n => UInt8.ofNat n := by rw [ByteArray.toList_eq]; rfl
theorem txt_extract (l : List Nat) (i j : Nat) : (txt l).extract i j = txt ((l.drop i).take (j - i)) := by
  unfold txt
  apply ByteArray.ext
  simp [ByteArray.data_extract, List.map_take, List.map_drop]
end Go.Proofs.Ytbmpcdpcdljibaa.Pr

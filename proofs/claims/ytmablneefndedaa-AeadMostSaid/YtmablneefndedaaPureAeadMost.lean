import Derived.Test.YtmablneefndedaaPrxf7
import Derived.Test.YtmablneefndedaaHAwkA
namespace Go.Proofs.Ytmablneefndedaa.Pure
open Go.RowKit Go.Proofs.Ytmablneefndedaa.Pr Go.Proofs.YtmablneefndedaaW.PrintWords Go.Proofs.YtmablneefndedaaW.PrintLast Go.Proofs.YtmablneefndedaaW.PrintMore
theorem and_32767m (n : Int) : bits .and .i64 n 32767 = n % 32768 := by
  have h127 : (BitVec.ofInt 64 32767).toNat = 2 ^ 15 - 1 := by decide
  have key : (BitVec.ofInt 64 n &&& BitVec.ofInt 64 32767).toNat = (n % ((2 ^ 64 : Nat) : Int)).toNat % 2 ^ 15 := by
    rw [BitVec.toNat_and, BitVec.toNat_ofInt, h127, Nat.and_two_pow_sub_one_eq_mod]
  show IntKind.i64.wrap ((BitVec.ofInt 64 n &&& BitVec.ofInt 64 32767).toNat : Nat) = n % 32768
  rw [key, IntKind.wrap_i64]
  omega
theorem and_1m (n : Int) : bits .and .i64 n 1 = n % 2 := by
  have h127 : (BitVec.ofInt 64 1).toNat = 2 ^ 1 - 1 := by decide
  have key : (BitVec.ofInt 64 n &&& BitVec.ofInt 64 1).toNat = (n % ((2 ^ 64 : Nat) : Int)).toNat % 2 ^ 1 := by
    rw [BitVec.toNat_and, BitVec.toNat_ofInt, h127, Nat.and_two_pow_sub_one_eq_mod]
  show IntKind.i64.wrap ((BitVec.ofInt 64 n &&& BitVec.ofInt 64 1).toNat : Nat) = n % 2
  rw [key, IntKind.wrap_i64]
  omega
theorem zeros_size (n : Nat) : (strOfNums (List.replicate n 0)).size = n := by
  have e : (List.replicate n 0 : List Int) = (List.replicate n 0 : List Nat).map fun (k : Nat) => (k : Int) := by simp
  rw [e, str_nats]
  show (txt (List.replicate n 0)).size = n
  rw [txt_size, List.length_replicate]
theorem AeadMost : samphirelaw07_AeadMost.Pure := by
  intro a0 a1 a2 h0 h1 h2
  unfold samphirelaw07_AeadMost.f
  by_cases g : a0.size = 44
  · obtain ⟨n, hn, hn2⟩ : ∃ n : Nat, bits .and .i64 a1 32767 = (n : Int) ∧ n < 32768 := ⟨(a1 % 32768).toNat, by rw [and_32767m]; omega, by omega⟩
    obtain ⟨b, hb, hb2⟩ : ∃ b : Nat, bits .and .i64 a2 1 = (b : Int) ∧ b < 2 := ⟨(a2 % 2).toNat, by rw [and_1m]; omega, by omega⟩
    have hw1 : wrap64 (32768 - (n : Int)) = ((32768 - n : Nat) : Int) := by unfold wrap64; omega
    have hw2 : wrap64 (((32768 - n : Nat) : Int) + (b : Int)) = ((32768 - n + b : Nat) : Int) := by unfold wrap64; omega
    have hw3 : wrap64 (((32768 - n + b : Nat) : Int) + 16) = ((32768 - n + b + 16 : Nat) : Int) := by unfold wrap64; omega
    rw [hn, hb, hw1, hw2, hw3]
    rw [if_pos (by omega), if_pos (by decide), if_pos (by omega), if_pos (by omega), if_pos (by omega), if_pos (by omega), if_pos (by omega), Int.toNat_natCast, Int.toNat_natCast]
    rw [aead_Seal_f _ _ _ _ (by rw [zeros_size]; omega) (by rw [zeros_size]; omega), Option.bind_some]
    by_cases hb1 : b = 1
    · have hc : ¬ aeadOK (a0.extract 0 32) (a0.extract 32 a0.size) (strOfNums (List.replicate n 0)).size (strOfNums (List.replicate (32768 - n + b) 0)).size := by
        rintro ⟨-, -, -, h⟩
        rw [zeros_size, zeros_size] at h
        omega
      unfold sealF
      rw [if_neg hc, if_pos (by omega), if_pos (by simp only [ByteArray.toList_eq]), if_pos rfl, awake07_f]
      rfl
    · have hc : aeadOK (a0.extract 0 32) (a0.extract 32 a0.size) (strOfNums (List.replicate n 0)).size (strOfNums (List.replicate (32768 - n + b) 0)).size := by
        refine ⟨by rw [ByteArray.size_extract]; omega, by rw [ByteArray.size_extract]; omega, ?_, ?_⟩
        · rw [zeros_size]; omega
        · rw [zeros_size, zeros_size]; omega
      obtain ⟨-, o2, o3, -⟩ := open_seal _ _ _ _ hc
      rw [zeros_size] at o3
      rw [if_neg (by omega), if_pos o2, if_pos (by rw [o3]), awake07_f]
      rfl
  · rw [if_neg (by omega), awake07_f]
    rfl
end Go.Proofs.Ytmablneefndedaa.Pure

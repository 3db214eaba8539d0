/- HkdfChains, the plain statement: each part is made of the one ahead. No condition. -/
import Derived.Test.YtbmpcdpcdljibaaHHkB
import Derived.Test.YtbmpcdpcdljibaaPrxf15
namespace Go.Proofs.Ytbmpcdpcdljibaa.Pure
open Go.RowKit Go.Proofs.Ytbmpcdpcdljibaa.Pr Go.Proofs.YtbmpcdpcdljibaaW.PrintWords Go.Proofs.YtbmpcdpcdljibaaW.PrintLast
theorem and_255h (n : Int) : bits .and .i64 n 255 = n % 256 := by
  have h127 : (BitVec.ofInt 64 255).toNat = 2 ^ 8 - 1 := by decide
  have key : (BitVec.ofInt 64 n &&& BitVec.ofInt 64 255).toNat = (n % ((2 ^ 64 : Nat) : Int)).toNat % 2 ^ 8 := by
    rw [BitVec.toNat_and, BitVec.toNat_ofInt, h127, Nat.and_two_pow_sub_one_eq_mod]
  show IntKind.i64.wrap ((BitVec.ofInt 64 n &&& BitVec.ofInt 64 255).toNat : Nat) = n % 256
  rw [key, IntKind.wrap_i64]
  omega
theorem expL_part (k p : List Nat) : ∀ (n j : Nat), j < n → ((expL k p n).drop (32 * j)).take 32 = partL k p (j + 1)
  | 0, j, h => by omega
  | n + 1, j, h => by
    rw [expL]
    by_cases hj : j = n
    · subst hj
      rw [List.drop_left' (expL_length k p j), List.take_of_length_le (by rw [partL_length]; exact Nat.le_refl _)]
    · rw [List.drop_append_of_le_length (by rw [expL_length]; omega), List.take_append_of_le_length (by rw [List.length_drop, expL_length]; omega)]
      exact expL_part k p n j (by omega)
theorem chain_loop (x0 x1 : ByteArray) (h0 : x0.size ≤ 1000000000) (h1 : x1.size ≤ 1000000000) (n : Nat) (hn : n ≤ 200) : ∀ (d j : Nat), j + d = n →
    samphirelaw04_HkdfChains.l0 (d + 1) x0 x1 (n : Int) (txt (expL (bys x0) (bys x1) n)) (txt (partL (bys x0) (bys x1) j)) ((j : Int) + 1) = some true
  | 0, j, h => by
    rw [samphirelaw04_HkdfChains.l0, if_neg (by omega), one_f, Option.bind_some]
  | d + 1, j, h => by
    have hpl := partL_le (bys x0) (bys x1) j
    have hw : wrap64 ((j : Int) + 1 + 1) = ((j + 1 : Nat) : Int) + 1 := by rw [wrapN _ (by omega) (by omega)]; omega
    have hw2 : wrap64 (32 * ((j : Int) + 1)) = ((32 * (j + 1) : Nat) : Int) := by rw [wrapN _ (by omega) (by omega)]; omega
    have hw3 : wrap64 (((32 * (j + 1) : Nat) : Int) - 32) = ((32 * j : Nat) : Int) := by rw [wrapN _ (by omega) (by omega)]; omega
    rw [samphirelaw04_HkdfChains.l0, if_pos (by omega), txt_size, if_pos (by omega), Option.bind_some, one_num, if_pos (by rw [ByteArray.size_append, txt_size, txt_size, List.length_singleton]; omega)]
    rw [hmac_Mac_f _ _ (by omega) (by rw [ByteArray.size_append, ByteArray.size_append, txt_size, txt_size, List.length_singleton]; omega), Option.bind_some, part_mac, hw2, hw3, if_pos (by omega), if_pos (by omega), txt_size, expL_length, if_pos (by omega), Int.toNat_natCast, Int.toNat_natCast, txt_extract, show 32 * (j + 1) - 32 * j = 32 by omega, expL_part _ _ n j (by omega), if_pos rfl, hw]
    exact chain_loop x0 x1 h0 h1 n hn d (j + 1) (by omega)
theorem HkdfChains : samphirelaw04_HkdfChains.Pure := by
  intro a0 a1 a2 _ _ _
  obtain ⟨n, hn, hn1, hn2⟩ : ∃ n : Nat, wrap64 (1 + (Int.tmod (bits .and .i64 a2 255) 6)) = (n : Int) ∧ 1 ≤ n ∧ n ≤ 6 := by
    rw [and_255h, Int.tmod_eq_emod_of_nonneg (by omega)]
    refine ⟨(1 + a2 % 256 % 6).toNat, ?_, by omega, by omega⟩
    rw [wrapN _ (by omega) (by omega)]
    omega
  have hw : wrap64 (32 * (n : Int)) = ((32 * n : Nat) : Int) := by rw [wrapN _ (by omega) (by omega)]; omega
  refine ⟨n + 20, ?_⟩
  unfold samphirelaw04_HkdfChains.f
  rw [show n + 20 = (n + 17) + 3 from rfl, light_two a0 a1 (n + 17), Option.bind_some]
  by_cases hl : a0.size ≤ 512 ∧ a1.size ≤ 512
  · obtain ⟨l0, l1⟩ := hl
    rw [decide_eq_true ⟨l0, l1⟩, if_pos rfl, hn, hw, hkdf_Expand_f a0 a1 (by omega) (by omega) (32 * n) (by omega), Option.bind_some, if_pos rfl]
    have e : (32 * n + 31) / 32 = n := by omega
    have e2 : (expL (bys a0) (bys a1) n).take (32 * n) = expL (bys a0) (bys a1) n := List.take_of_length_le (by rw [expL_length]; exact Nat.le_refl _)
    simp only
    rw [e, e2, txt_size, expL_length, bne_self_eq_false, samphirelaw04_HkdfChains.j0, if_neg (by decide)]
    have h := chain_loop a0 a1 (by omega) (by omega) n (by omega) n 0 (by omega)
    have h' : ∀ k, n + 1 ≤ k → samphirelaw04_HkdfChains.l0 k a0 a1 (n : Int) (txt (expL (bys a0) (bys a1) n)) (⟨#[]⟩ : ByteArray) 1 = some true := by
      intro k hk
      induction hk with
      | refl => exact h
      | step _ ih => exact (samphirelaw04_HkdfChains.mono_l _).2 _ _ _ _ _ _ _ ih
    exact h' _ (by omega)
  · rw [decide_eq_false hl, if_neg (by decide), one_f, Option.bind_some]
end Go.Proofs.Ytbmpcdpcdljibaa.Pure

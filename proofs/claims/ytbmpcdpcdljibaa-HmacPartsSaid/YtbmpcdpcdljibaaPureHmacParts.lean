/- HmacParts, the plain statement: the sum is told by layer 2's alone. No condition. -/
import Derived.Test.YtbmpcdpcdljibaaPureHmacSums
import Derived.Test.YtbmpcdpcdljibaaPrxf11
namespace Go.Proofs.Ytbmpcdpcdljibaa.Pure
open Go.RowKit Go.Proofs.Ytbmpcdpcdljibaa.Pr Go.Proofs.YtbmpcdpcdljibaaW.PrintWords Go.Proofs.YtbmpcdpcdljibaaW.PrintLast
/-- A key's block, of which the first bytes are turned. -/
def turnAt (L : List Nat) (b i : Nat) : List Int := (((L.map (· ^^^ b)).take i) ++ List.replicate (64 - i) 0).map fun (n : Nat) => (n : Int)
theorem turnAt_length (L : List Nat) (b i : Nat) (hl : L.length = 64) (hi : i ≤ 64) : (turnAt L b i).length = 64 := by
  unfold turnAt
  rw [List.length_map, List.length_append, List.length_take, List.length_map, List.length_replicate]
  omega
theorem turnAt_set (L : List Nat) (b i : Nat) (hl : L.length = 64) (hi : i < 64) (x : Int) (hx : x = ((L.getD i 0 ^^^ b : Nat) : Int)) : (turnAt L b i).set i x = turnAt L b (i + 1) := by
  subst hx
  unfold turnAt
  have hT : ((L.map (· ^^^ b)).take i).length = i := by rw [List.length_take, List.length_map]; omega
  rw [List.take_succ_eq_append_getElem (by rw [List.length_map]; omega), List.map_append, List.map_append, List.map_append, List.set_append_right _ _ (by rw [List.length_map, hT]; exact Nat.le_refl _), List.length_map, hT, Nat.sub_self, show 64 - i = (64 - (i + 1)) + 1 by omega, List.replicate_succ]
  have hg : L.getD i 0 = L[i]'(by omega) := by simp [show i < L.length by omega]
  rw [List.append_assoc, hg]
  simp
theorem parts_mac (x0 x1 : ByteArray) (h0 : x0.size ≤ 64) (h1 : x1.size ≤ 1024) (L : List Nat) (hL : bys x0 ++ List.replicate (64 - x0.size) 0 = L) (hl : L.length = 64) :
    ∀ (d i : Nat), i + d = 64 → samphirelaw03_HmacParts.l0 (d + 70) x0 x1 (turnAt L 54 i) (turnAt L 92 i) (i : Int) = some true
  | 0, i, h => by
    have e64 : i = 64 := by omega
    subst e64
    have e : key64 (bys x0) = L := by
      unfold key64
      rw [if_neg (by rw [bys_length]; omega), bys_length, hL]
    have s1 : ∀ b, strOfNums (turnAt L b 64) = txt ((key64 (bys x0)).map (· ^^^ b)) := by
      intro b
      unfold turnAt
      rw [str_nats, Nat.sub_self, List.replicate_zero, List.append_nil, List.take_of_length_le (by rw [List.length_map]; omega), e]
    rw [samphirelaw03_HmacParts.l0, if_neg (by omega), hmac_Mac_f x0 x1 (by omega) (by omega), Option.bind_some, s1, s1]
    rw [if_pos (by rw [turn_size]; omega), sha_Sum_f _ (by rw [ByteArray.size_append, turn_size]; omega), Option.bind_some, if_pos (by rw [turn_size, sumT_size]; omega), sha_Sum_f _ (by rw [ByteArray.size_append, turn_size, sumT_size]; omega), Option.bind_some]
    rw [two_sums x0 x1 _ _ rfl rfl, if_pos rfl, jefe_f 69 (by decide), Option.bind_some]
  | d + 1, i, h => by
    have hw : wrap64 ((i : Int) + 1) = ((i + 1 : Nat) : Int) := by rw [wrapN _ (by omega) (by omega)]; omega
    have hk := fun b hb => key_at x0 i (by omega) b hb h0
    have hk := hk 54 (by decide)
    rw [hL] at hk
    have ih := parts_mac x0 x1 h0 h1 L hL hl d (i + 1) (by omega)
    have n54 := turnAt_length L 54 i hl (by omega)
    have n92 := turnAt_length L 92 i hl (by omega)
    rw [show d + 1 + 70 = (d + 70) + 1 by omega, samphirelaw03_HmacParts.l0, if_pos (by omega), n54, n92, Int.toNat_natCast, hw]
    by_cases hc : i < x0.size
    · rw [if_pos hc] at hk
      rw [if_pos (by omega), if_pos (by omega), if_pos (by omega), if_pos (by omega), bt_nat _ _ hc, ← hk]
      rw [turnAt_set L 54 i hl (by omega) _ (by rw [hk, show (54 : Int) = ((54 : Nat) : Int) from rfl, u8_xor_nat _ _ (bys_lt _ _) (by decide)]), turnAt_set L 92 i hl (by omega) _ (by rw [hk, show (92 : Int) = ((92 : Nat) : Int) from rfl, u8_xor_nat _ _ (bys_lt _ _) (by decide)])]
      exact ih
    · rw [if_neg hc] at hk
      rw [if_neg (by omega), if_pos (by omega), if_pos (by omega), if_pos (by omega)]
      rw [turnAt_set L 54 i hl (by omega) _ (by rw [hk]; exact u8_xor_nat 0 54 (by decide) (by decide)), turnAt_set L 92 i hl (by omega) _ (by rw [hk]; exact u8_xor_nat 0 92 (by decide) (by decide))]
      exact ih
theorem HmacParts : samphirelaw03_HmacParts.Pure := by
  intro a0 a1 _ _
  refine ⟨135, ?_⟩
  have hj := jefe_f 134 (by decide)
  have ht : samphirelaw03_HmacParts.j0 135 a0 a1 true = some true := by
    rw [samphirelaw03_HmacParts.j0, if_pos rfl, hj, Option.bind_some]
  unfold samphirelaw03_HmacParts.f
  by_cases h0 : (a0.size : Int) > 64
  · rw [if_pos h0, ht]
  · rw [if_neg h0]
    by_cases h1 : (a1.size : Int) > 1024
    · rw [decide_eq_true h1, ht]
    · rw [decide_eq_false h1, samphirelaw03_HmacParts.j0, if_neg (by decide), if_pos (by decide)]
      have := parts_mac a0 a1 (by omega) (by omega) _ rfl (by rw [List.length_append, bys_length, List.length_replicate]; omega) 64 0 rfl
      exact this
end Go.Proofs.Ytbmpcdpcdljibaa.Pure

/- The document's Out in plain words. -/
import Derived.Test.YtpeliaknceigdaaHCodeB
import Derived.Test.YtpeliaknceigdaaHRefA
import Derived.Test.YtpeliaknceigdaaPrxf41
import Derived.Test.YtpeliaknceigdaaPrxf26
import Derived.Test.YtpeliaknceigdaaPrxf27
import Derived.Test.YtpeliaknceigdaaPrxf28
import Derived.Test.YtpeliaknceigdaaPrxf29
namespace Go.Proofs.Ytpeliaknceigdaa.Pr
open Go.RowKit Go.Deep Go.Proofs.YtpeliaknceigdaaW.PrintWords Go.Proofs.YtpeliaknceigdaaW.PrintLast Go.Proofs.YtpeliaknceigdaaW.PrintMore
set_option maxHeartbeats 1000000
set_option linter.unusedVariables false
set_option linter.unusedSimpArgs false
theorem and_255c (n : Int) : bits .and .i64 n 255 = n % 256 := by
  have h127 : (BitVec.ofInt 64 255).toNat = 2 ^ 8 - 1 := by decide
  have key : (BitVec.ofInt 64 n &&& BitVec.ofInt 64 255).toNat = (n % ((2 ^ 64 : Nat) : Int)).toNat % 2 ^ 8 := by
    rw [BitVec.toNat_and, BitVec.toNat_ofInt, h127, Nat.and_two_pow_sub_one_eq_mod]
  show IntKind.i64.wrap ((BitVec.ofInt 64 n &&& BitVec.ofInt 64 255).toNat : Nat) = n % 256
  rw [key, IntKind.wrap_i64]
  omega
theorem wrapN {x : Int} (n : Nat) (h : x = n) (hn : n ≤ 1000000000000) : wrap64 x = n := by
  subst h
  unfold wrap64
  omega
theorem big_part (x : Int) (j : Nat) (hj : j ≤ 7) : (bits .and .i64 (shr .i64 x (wrap64 (8 * (j : Int)))) 255) % 256 = ((x / 2 ^ (8 * j) % 256).toNat : Int) := by
  rw [wrapN (x := 8 * (j : Int)) (8 * j) (by omega) (by omega), and_255c, shr, Int.toNat_natCast]
  have : min (8 * j) IntKind.i64.bits = 8 * j := Nat.min_eq_left (by show 8 * j ≤ 64; omega)
  rw [this]
  omega
/-- From the byte number j down. -/
def downN (x : Int) : Nat → List Nat
  | 0 => []
  | j + 1 => (x / 2 ^ (8 * j) % 256).toNat :: downN x j
theorem big_loop (x : Int) : ∀ (j k : Nat) (acc : List Nat), j ≤ 8 → j < k → acc.length + j ≤ 100 →
    samphireref09_big.l0 k x (acc.map fun (n : Nat) => (n : Int)) ((j : Int) - 1) = some (txt (acc ++ downN x j))
  | 0, k, acc, _, hk, _ => by
    obtain ⟨k, rfl⟩ : ∃ m, k = m + 1 := ⟨k - 1, by omega⟩
    simp only [samphireref09_big.l0]
    rw [if_neg (by omega), str_nats]
    simp [downN]
  | j + 1, k, acc, hj, hk, hl => by
    obtain ⟨k, rfl⟩ : ∃ m, k = m + 1 := ⟨k - 1, by omega⟩
    have e : ((j + 1 : Nat) : Int) - 1 = (j : Int) := by omega
    rw [e]
    simp only [samphireref09_big.l0]
    rw [if_pos (by omega), if_pos (by rw [wrapN (x := 8 * (j : Int)) (8 * j) (by omega) (by omega)]; omega), if_pos (by rw [List.length_map]; omega), big_part x j (by omega)]
    have e2 : wrap64 ((j : Int) - 1) = (j : Int) - 1 := by unfold wrap64; omega
    have e3 : (acc.map fun (n : Nat) => (n : Int)) ++ [((x / 2 ^ (8 * j) % 256).toNat : Int)] = ((acc ++ [(x / 2 ^ (8 * j) % 256).toNat]).map fun (n : Nat) => (n : Int)) := by simp
    rw [e2, e3, big_loop x j k _ (by omega) (by omega) (by rw [List.length_append, List.length_singleton]; omega), List.append_assoc]
    rfl
theorem downN_byN (x : Int) : downN x 1 = byN x 1 ∧ downN x 2 = byN x 2 ∧ downN x 6 = byN x 6 := by
  refine ⟨?_, ?_, ?_⟩ <;> simp [downN, byN, roomL, List.range, List.range.loop]
theorem big_f (x : Int) (m k : Nat) (hm : m ≤ 8) (hk : m < k) : samphireref09_big.f k x (m : Int) = some (txt (downN x m)) := by
  unfold samphireref09_big.f
  rw [show wrap64 ((m : Int) - 1) = (m : Int) - 1 from by unfold wrap64; omega]
  have := big_loop x m k [] hm hk (by simp; omega)
  simpa using this
theorem byN_lt (x : Int) (m : Nat) : ∀ n ∈ byN x m, n < 256 := by
  intro n hn
  unfold byN at hn
  have hn := List.mem_of_mem_drop hn
  unfold roomL at hn
  rw [List.mem_map] at hn
  obtain ⟨i, _, rfl⟩ := hn
  split <;> omega
/-- A part of the document's Out. -/
def refStep (S : ByteArray) (b : Bool) (ok : Bool) (M : List Nat) : ByteArray × Bool := if ok = false ∨ b = true ∨ 65536 < S.size + M.length then (S, true) else (S ++ txt M, false)
theorem with_step (S : ByteArray) (b ok : Bool) (M : List Nat) (hS : S.size ≤ 1000000000000000) (hM : M.length ≤ 1000000) : samphireref09_with.f S b (txt M) ok = some (refStep S b ok M) := by
  unfold samphireref09_with.f refStep
  rw [if_pos ⟨hS, by rw [txt_size]; omega⟩, txt_size]
theorem with_any (S : ByteArray) (b : Bool) (M N : List Nat) (hS : S.size ≤ 1000000000000000) (hM : M.length ≤ 1000000) : samphireref09_with.f S b (txt M) false = some (refStep S b false N) := by
  rw [with_step S b false M hS hM]
  unfold refStep
  rw [if_pos (.inl rfl), if_pos (.inl rfl)]
theorem ref_Byte (S : ByteArray) (b : Bool) (n : Int) (hS : S.size ≤ 1000000000000000) : samphireref09_Byte.f 10 S b n = some (refStep S b (oneB n) (byN n 1)) := by
  unfold samphireref09_Byte.f
  rw [show (1 : Int) = ((1 : Nat) : Int) from rfl, big_f n 1 10 (by decide) (by decide), (downN_byN n).1, Option.bind_some]
  unfold oneB
  split
  · rw [with_step S b _ _ hS (by rw [byN_length _ _ (by decide)]; decide), Option.bind_some, show decide (n ≤ 255) = decide (0 ≤ n ∧ n ≤ 255) from by simp only [decide_eq_decide]; omega]
  · rw [decide_eq_false (by omega), with_step S b _ _ hS (by rw [byN_length _ _ (by decide)]; decide), Option.bind_some]
theorem ref_Num (S : ByteArray) (b : Bool) (n : Int) (hS : S.size ≤ 1000000000000000) : samphireref09_Num.f 10 S b n = some (refStep S b (timeB n) (byN n 6)) := by
  unfold samphireref09_Num.f
  rw [show (6 : Int) = ((6 : Nat) : Int) from rfl, big_f n 6 10 (by decide) (by decide), (downN_byN n).2.2, Option.bind_some]
  unfold timeB
  split
  · rw [with_step S b _ _ hS (by rw [byN_length _ _ (by decide)]; decide), Option.bind_some, show decide (n ≤ 1099511627775) = decide (0 ≤ n ∧ n ≤ 1099511627775) from by simp only [decide_eq_decide]; omega]
  · rw [decide_eq_false (by omega), with_step S b _ _ hS (by rw [byN_length _ _ (by decide)]; decide), Option.bind_some]
theorem ref_Stamp (S : ByteArray) (b : Bool) (n k : Int) (hS : S.size ≤ 1000000000000000) : samphireref09_Stamp.f 10 S b n k = some (refStep S b (timeB n && oneB k) (byN n 6 ++ byN k 1)) := by
  have hl : (byN n 6 ++ byN k 1).length ≤ 1000000 := by rw [List.length_append, byN_length _ _ (by decide), byN_length _ _ (by decide)]; decide
  unfold samphireref09_Stamp.f
  rw [show (6 : Int) = ((6 : Nat) : Int) from rfl, big_f n 6 10 (by decide) (by decide), (downN_byN n).2.2, Option.bind_some, show (1 : Int) = ((1 : Nat) : Int) from rfl, big_f k 1 10 (by decide) (by decide), (downN_byN k).1, Option.bind_some,
    if_pos (by rw [txt_size, txt_size, byN_length _ _ (by decide), byN_length _ _ (by decide)]; decide), ← txt_append]
  unfold timeB oneB
  by_cases h0 : n ≥ 0
  · rw [if_pos h0]
    by_cases h1 : n ≤ 1099511627775
    · rw [if_pos h1, decide_eq_true (p := 0 ≤ n ∧ n ≤ 1099511627775) ⟨h0, h1⟩, Bool.true_and]
      by_cases h2 : k ≥ 0
      · rw [if_pos h2, with_step S b _ _ hS hl, Option.bind_some, show decide (k ≤ 255) = decide (0 ≤ k ∧ k ≤ 255) from by simp only [decide_eq_decide]; omega]
      · rw [if_neg h2, with_step S b _ _ hS hl, Option.bind_some, decide_eq_false (by omega)]
    · rw [if_neg h1, with_step S b _ _ hS hl, Option.bind_some, decide_eq_false (p := 0 ≤ n ∧ n ≤ 1099511627775) (by omega), Bool.false_and]
  · rw [if_neg h0, with_step S b _ _ hS hl, Option.bind_some, decide_eq_false (p := 0 ≤ n ∧ n ≤ 1099511627775) (by omega), Bool.false_and]
theorem txt_bys_app (l : List Nat) (s : ByteArray) : txt l ++ s = txt (l ++ bys s) := by rw [txt_append, txt_bys]
theorem ref_Text (S : ByteArray) (b : Bool) (s : ByteArray) (hS : S.size ≤ 1000000000000000) (hs : s.size ≤ 1000000000000) : samphireref09_Text.f 10 S b s = some (refStep S b (decide (s.size ≤ 65535)) (byN (s.size : Int) 2 ++ bys s)) := by
  unfold samphireref09_Text.f
  by_cases h : (s.size : Int) > 65535
  · rw [if_pos h, decide_eq_false (by omega), show (⟨#[]⟩ : ByteArray) = txt [] from rfl, with_any S b [] (byN (s.size : Int) 2 ++ bys s) hS (by decide), Option.bind_some]
  · rw [if_neg h, show (2 : Int) = ((2 : Nat) : Int) from rfl, big_f (s.size : Int) 2 10 (by decide) (by decide), (downN_byN _).2.1, Option.bind_some, if_pos (by rw [txt_size, byN_length _ _ (by decide)]; omega), txt_bys_app,
      with_step S b _ _ hS (by rw [List.length_append, byN_length _ _ (by decide), bys_length]; omega), Option.bind_some, decide_eq_true (show s.size ≤ 65535 by omega)]
end Go.Proofs.Ytpeliaknceigdaa.Pr

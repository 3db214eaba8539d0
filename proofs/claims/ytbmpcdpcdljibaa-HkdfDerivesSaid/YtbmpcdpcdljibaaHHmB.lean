/- HMAC in plain words: what Mac, Check and the reference's answer. -/
import Derived.Test.YtbmpcdpcdljibaaHHmA
import Derived.Test.YtbmpcdpcdljibaaPrxf30
import Derived.Test.YtbmpcdpcdljibaaPrxf31
namespace Go.Proofs.Ytbmpcdpcdljibaa.Pr
open Go.RowKit Go.Proofs.YtbmpcdpcdljibaaW.PrintWords Go.Proofs.YtbmpcdpcdljibaaW.PrintLast
set_option linter.unusedVariables false
set_option linter.unusedSimpArgs false
/-- A text's sum under a key, on numbers. -/
def macL (k s : List Nat) : List Nat := sumL ((key64 k).map (· ^^^ 92) ++ sumL ((key64 k).map (· ^^^ 54) ++ s))
def macT (k s : ByteArray) : ByteArray := txt (macL (bys k) (bys s))
theorem macT_size (k s : ByteArray) : (macT k s).size = 32 := by rw [macT, txt_size, macL, sumL_length]
theorem bys_macT (k s : ByteArray) : bys (macT k s) = macL (bys k) (bys s) := bys_txt (sumL_lt _)
theorem bys_lt' (s : ByteArray) : ∀ x ∈ bys s, x < 256 := by
  intro x hx
  obtain ⟨i, hi, rfl⟩ := List.getElem_of_mem hx
  have := bys_lt s i
  simpa [List.getD_eq_getElem?_getD, List.getElem?_eq_getElem hi] using this
theorem key64_lt (l : List Nat) (hl : ∀ x ∈ l, x < 256) : ∀ x ∈ key64 l, x < 256 := by
  intro x hx
  unfold key64 at hx
  rw [List.mem_append] at hx
  rcases hx with hx | hx
  · split at hx
    · exact sumL_lt _ x hx
    · exact hl x hx
  · rw [List.mem_replicate] at hx
    omega
theorem turn_lt (l : List Nat) (hl : ∀ x ∈ l, x < 256) (b : Nat) (hb : b < 256) : ∀ x ∈ (key64 l).map (· ^^^ b), x < 256 := by
  intro x hx
  rw [List.mem_map] at hx
  obtain ⟨y, hy, rfl⟩ := hx
  exact Nat.xor_lt_two_pow (n := 8) (key64_lt l hl y hy) hb
theorem hmac_turned_f (a : ByteArray) (h : a.size ≤ 1000000000000) (b : Nat) (hb : b < 256) : hmac_turned.f a (b : Int) = some (txt ((key64 (bys a)).map (· ^^^ b))) := by
  unfold hmac_turned.f
  rw [if_pos ⟨h, by omega, by omega⟩, Int.toNat_natCast]
theorem two_sums (k s T1 T2 : ByteArray) (h1 : T1 = txt ((key64 (bys k)).map (· ^^^ 92))) (h2 : T2 = txt ((key64 (bys k)).map (· ^^^ 54))) : sumT (T1 ++ sumT (T2 ++ s)) = macT k s := by
  subst h1
  subst h2
  unfold sumT macT macL
  rw [bys_append, bys_append, bys_txt (turn_lt _ (bys_lt' k) 92 (by decide)), bys_txt (turn_lt _ (bys_lt' k) 54 (by decide)), bys_txt (sumL_lt _)]
theorem turn_size (l : List Nat) (b : Nat) : (txt ((key64 l).map (· ^^^ b))).size = 64 := by rw [txt_size, List.length_map, key64_length]
theorem hmac_Mac_f (k s : ByteArray) (hk : k.size ≤ 100000000000) (hs : s.size ≤ 100000000000) : hmac_Mac.f k s = some (macT k s) := by
  unfold hmac_Mac.f
  rw [show (92 : Int) = ((92 : Nat) : Int) from rfl, show (54 : Int) = ((54 : Nat) : Int) from rfl, hmac_turned_f k (by omega) 92 (by decide), hmac_turned_f k (by omega) 54 (by decide), Option.bind_some, Option.bind_some]
  rw [if_pos (by rw [turn_size]; omega), sha_Sum_f _ (by rw [ByteArray.size_append, turn_size]; omega), Option.bind_some, if_pos (by rw [turn_size, sumT_size]; omega), sha_Sum_f _ (by rw [ByteArray.size_append, turn_size, sumT_size]; omega), Option.bind_some]
  rw [two_sums k s _ _ rfl rfl]
theorem wrapN (x : Int) (h0 : 0 ≤ x) (h1 : x < 4611686018427387904) : wrap64 x = x := by unfold wrap64; omega
theorem key_at (x0 : ByteArray) (i : Nat) (hi : i < 64) (b : Nat) (hb : b < 256) (hx : x0.size ≤ 64) :
    (bys x0 ++ List.replicate (64 - x0.size) 0).getD i 0 = (if i < x0.size then (bys x0).getD i 0 else 0) := by
  split
  · rename_i h
    rw [List.getD_eq_getElem?_getD, List.getElem?_append_left (by rw [bys_length]; exact h), ← List.getD_eq_getElem?_getD]
  · rename_i h
    rw [List.getD_eq_getElem?_getD, List.getElem?_append_right (by rw [bys_length]; omega), List.getElem?_replicate]
    split <;> rfl
theorem take_one (L : List Nat) (i : Nat) (hi : i < L.length) (b : Nat) : (((L.map (· ^^^ b)).take (i + 1)).map fun (n : Nat) => (n : Int)) = (((L.map (· ^^^ b)).take i).map fun (n : Nat) => (n : Int)) ++ [((L.getD i 0 ^^^ b : Nat) : Int)] := by
  rw [List.take_succ_eq_append_getElem (by rw [List.length_map]; exact hi), List.map_append]
  simp [hi]
theorem ref_turned_loop (x0 : ByteArray) (hx : x0.size ≤ 64) (b : Nat) (hb : b < 256) (L : List Nat) (hL : bys x0 ++ List.replicate (64 - x0.size) 0 = L) (hl : L.length = 64) : ∀ (d i : Nat), i + d = 64 →
    samphireref03_turned.l0 (d + 1) x0 (b : Int) (((L.map (· ^^^ b)).take i).map fun (n : Nat) => (n : Int)) (i : Int) = some (txt (L.map (· ^^^ b)))
  | 0, i, h => by
    rw [samphireref03_turned.l0, if_neg (by omega), str_nats, List.take_of_length_le (by rw [List.length_map]; omega)]
  | d + 1, i, h => by
    have hlen : ((((L.map (· ^^^ b)).take i).map fun (n : Nat) => (n : Int))).length < 140737488355328 := by
      rw [List.length_map, List.length_take, List.length_map]
      omega
    have hw : wrap64 ((i : Int) + 1) = ((i + 1 : Nat) : Int) := by rw [wrapN _ (by omega) (by omega)]; omega
    have hk := key_at x0 i (by omega) b hb hx
    rw [hL] at hk
    have ih := ref_turned_loop x0 hx b hb L hL hl d (i + 1) (by omega)
    rw [take_one L i (by omega) b, hk] at ih
    rw [samphireref03_turned.l0, if_pos (by omega)]
    by_cases hc : i < x0.size
    · rw [if_pos (by omega), if_pos (by omega), if_pos hlen, bt_nat _ _ hc, u8_xor_nat _ _ (bys_lt _ _) hb, hw]
      rw [if_pos hc] at ih
      exact ih
    · rw [if_neg (by omega), if_pos hlen, hw, show (0 : Int) = ((0 : Nat) : Int) from rfl, u8_xor_nat _ _ (by decide) hb]
      rw [if_neg hc] at ih
      exact ih
theorem ref_turned_j (x0 : ByteArray) (hx : x0.size ≤ 64) (b : Nat) (hb : b < 256) : samphireref03_turned.j0 66 x0 (b : Int) = some (txt ((bys x0 ++ List.replicate (64 - x0.size) 0).map (· ^^^ b))) := by
  rw [samphireref03_turned.j0]
  have := ref_turned_loop x0 hx b hb _ rfl (by rw [List.length_append, bys_length, List.length_replicate]; omega) 64 0 rfl
  simpa using this
theorem ref_turned_66 (a : ByteArray) (h : a.size ≤ 1000000000000) (b : Nat) (hb : b < 256) : samphireref03_turned.f 66 a (b : Int) = some (txt ((key64 (bys a)).map (· ^^^ b))) := by
  unfold samphireref03_turned.f key64
  by_cases hc : 64 < a.size
  · rw [if_pos (by omega), ref_Sum_f _ h, Option.bind_some, ref_turned_j _ (by rw [sumT_size]; omega) b hb, if_pos (by rw [bys_length]; omega), bys_sumT, sumT_size, sumL_length]
  · rw [if_neg (by omega), ref_turned_j _ (by omega) b hb, if_neg (by rw [bys_length]; omega), bys_length]
theorem ref_turned_f (a : ByteArray) (h : a.size ≤ 1000000000000) (b : Nat) (hb : b < 256) (k : Nat) (hk : 66 ≤ k) : samphireref03_turned.f k a (b : Int) = some (txt ((key64 (bys a)).map (· ^^^ b))) := by
  induction hk with
  | refl => exact ref_turned_66 a h b hb
  | step _ ih => exact samphireref03_turned.mono _ _ _ _ ih
theorem ref_Mac_f (k s : ByteArray) (hk : k.size ≤ 100000000000) (hs : s.size ≤ 100000000000) (n : Nat) (hn : 66 ≤ n) : samphireref03_Mac.f n k s = some (macT k s) := by
  unfold samphireref03_Mac.f
  rw [show (92 : Int) = ((92 : Nat) : Int) from rfl, show (54 : Int) = ((54 : Nat) : Int) from rfl, ref_turned_f k (by omega) 92 (by decide) n hn, ref_turned_f k (by omega) 54 (by decide) n hn, Option.bind_some, Option.bind_some]
  rw [if_pos (by rw [turn_size]; omega), ref_Sum_f _ (by rw [ByteArray.size_append, turn_size]; omega), Option.bind_some, if_pos (by rw [turn_size, sumT_size]; omega), ref_Sum_f _ (by rw [ByteArray.size_append, turn_size, sumT_size]; omega), Option.bind_some]
  rw [two_sums k s _ _ rfl rfl]
theorem ref_Check_f (k s m : ByteArray) (hk : k.size ≤ 100000000000) (hs : s.size ≤ 100000000000) (n : Nat) (hn : 66 ≤ n) : samphireref03_Check.f n k s m = some ((macT k s).toList == m.toList) := by
  unfold samphireref03_Check.f
  rw [ref_Mac_f k s hk hs n hn, Option.bind_some]
theorem or_zero {a b : Nat} : a ||| b = 0 ↔ a = 0 ∧ b = 0 := Nat.or_eq_zero_iff
theorem xor_zero {a b : Nat} : a ^^^ b = 0 ↔ a = b := by
  constructor
  · intro h
    have h2 : a ^^^ b ^^^ b = 0 ^^^ b := by rw [h]
    rwa [Nat.xor_assoc, Nat.xor_self, Nat.xor_zero, Nat.zero_xor] at h2
  · rintro rfl
    exact Nat.xor_self a
theorem same_loop (x y : ByteArray) (n : Nat) (hx : x.size = n) (hy : y.size = n) (hn : n ≤ 1000000000000) : ∀ (d i acc : Nat), i + d = n → acc < 256 → (acc = 0 ↔ (bys x).take i = (bys y).take i) →
    word_Same.l0 (d + 1) x y (acc : Int) (n : Int) (i : Int) = some (decide (bys x = bys y))
  | 0, i, acc, h, ha, hr => by
    rw [word_Same.l0, if_neg (by omega)]
    rw [List.take_of_length_le (by rw [bys_length]; omega), List.take_of_length_le (by rw [bys_length]; omega)] at hr
    congr 1
    by_cases hc : acc = 0
    · rw [decide_eq_true (hr.1 hc), hc]
      rfl
    · rw [decide_eq_false (fun h => hc (hr.2 h)), beq_eq_false_iff_ne]
      omega
  | d + 1, i, acc, h, ha, hr => by
    have hw : wrap64 ((i : Int) + 1) = ((i + 1 : Nat) : Int) := by rw [wrapN _ (by omega) (by omega)]; omega
    have hxi : i < (bys x).length := by rw [bys_length]; omega
    have hyi : i < (bys y).length := by rw [bys_length]; omega
    have hxor : (bys x).getD i 0 ^^^ (bys y).getD i 0 < 256 := Nat.xor_lt_two_pow (n := 8) (bys_lt x i) (bys_lt y i)
    rw [word_Same.l0, if_pos (by omega), if_pos (by omega), if_pos (by omega), if_pos (by omega), bt_nat _ _ (by omega), bt_nat _ _ (by omega), u8_xor_nat _ _ (bys_lt _ _) (bys_lt _ _), u8_or_nat _ _ ha hxor, hw]
    refine same_loop x y n hx hy hn d (i + 1) _ (by omega) (Nat.or_lt_two_pow (n := 8) ha hxor) ?_
    rw [or_zero, xor_zero, hr, List.take_succ_eq_append_getElem hxi, List.take_succ_eq_append_getElem hyi]
    have e1 : (bys x).getD i 0 = (bys x)[i] := by simp [hxi]
    have e2 : (bys y).getD i 0 = (bys y)[i] := by simp [hyi]
    rw [e1, e2]
    constructor
    · rintro ⟨h1, h2⟩
      rw [h1, h2]
    · intro h
      have := List.append_inj' h rfl
      exact ⟨this.1, by simpa using this.2⟩
theorem word_Same_f (x y : ByteArray) (hx : x.size ≤ 1000000000000) (k : Nat) (hk : x.size + 1 ≤ k) : word_Same.f k x y = some (decide (bys x = bys y)) := by
  unfold word_Same.f
  by_cases hc : x.size = y.size
  · rw [if_pos (by omega)]
    have h0 := same_loop x y x.size rfl hc.symm hx x.size 0 0 (by omega) (by decide) (by simp)
    have h1 : ∀ j, x.size + 1 ≤ j → word_Same.l0 j x y 0 (x.size : Int) 0 = some (decide (bys x = bys y)) := by
      intro j hj
      induction hj with
      | refl => exact h0
      | step _ ih => exact word_Same.mono_l _ _ _ _ _ _ _ ih
    exact h1 k hk
  · rw [if_neg (by omega), decide_eq_false]
    intro h
    apply hc
    rw [← bys_length, ← bys_length, h]
theorem bys_inj {x y : ByteArray} (h : bys x = bys y) : x = y := by
  apply ByteArray.ext
  apply Array.ext'
  exact (List.map_inj_right (fun a b h => UInt8.toNat_inj.1 h)).1 h
theorem beq_bys (x y : ByteArray) : (x.toList == y.toList) = decide (bys x = bys y) := by
  rw [Bool.eq_iff_iff, beq_iff_eq, decide_eq_true_eq, ByteArray.toList_eq, ByteArray.toList_eq]
  constructor
  · intro h
    unfold bys
    rw [h]
  · intro h
    rw [bys_inj h]
theorem hmac_Check_f (k s m : ByteArray) (hk : k.size ≤ 100000000000) (hs : s.size ≤ 100000000000) (n : Nat) (hn : 66 ≤ n) : hmac_Check.f n k s m = some (decide (macL (bys k) (bys s) = bys m)) := by
  unfold hmac_Check.f
  rw [hmac_Mac_f k s hk hs, Option.bind_some, word_Same_f _ _ (by rw [macT_size]; omega) n (by rw [macT_size]; omega), Option.bind_some, bys_macT]
end Go.Proofs.Ytbmpcdpcdljibaa.Pr

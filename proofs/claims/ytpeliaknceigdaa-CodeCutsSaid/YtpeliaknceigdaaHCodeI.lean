/- code.In in plain words: what was written is read. -/
import Derived.Test.YtpeliaknceigdaaHCodeP
import Derived.Test.YtpeliaknceigdaaHPartA
import Derived.Test.YtpeliaknceigdaaPrxf15
import Derived.Test.YtpeliaknceigdaaPrxf16
import Derived.Test.YtpeliaknceigdaaPrxf17
import Derived.Test.YtpeliaknceigdaaPrxf18
import Derived.Test.YtpeliaknceigdaaHCodeW
import Derived.Test.YtpeliaknceigdaaPrxf21
namespace Go.Proofs.Ytpeliaknceigdaa.Pr
open Go.RowKit Go.Deep Go.Proofs.YtpeliaknceigdaaW.PrintWords Go.Proofs.YtpeliaknceigdaaW.PrintLast Go.Proofs.YtpeliaknceigdaaW.PrintMore
set_option maxHeartbeats 1000000
set_option linter.unusedVariables false
set_option linter.unusedSimpArgs false
theorem or_byte (a b : Nat) (hb : b < 256) (ha : a < 140737488355328) : Go.bits .or .i64 ((a : Int) * 256) (b : Int) = ((a * 256 + b : Nat) : Int) := by
  have e1 : ((a : Int) * 256) = ((a * 256 : Nat) : Int) := by omega
  rw [e1]
  show IntKind.i64.wrap ((BitVec.ofInt 64 ((a * 256 : Nat) : Int) ||| BitVec.ofInt 64 (b : Int)).toNat : Nat) = _
  have h1 : (BitVec.ofInt 64 ((a * 256 : Nat) : Int)).toNat = a * 256 := by rw [BitVec.toNat_ofInt]; omega
  have h2 : (BitVec.ofInt 64 (b : Int)).toNat = b := by rw [BitVec.toNat_ofInt]; omega
  rw [BitVec.toNat_or, h1, h2]
  have h3 : a * 256 ||| b = a * 256 + b := by
    have := Nat.two_pow_add_eq_or_of_lt (i := 8) (b := b) hb a
    rw [show (2 : Nat) ^ 8 = 256 from rfl, Nat.mul_comm] at this
    exact this.symm
  rw [h3, IntKind.wrap_i64]
  omega
/-- The number of bytes. -/
def valN (l : List Nat) : Nat := l.foldl (fun a b => a * 256 + b) 0
theorem valN_snoc (l : List Nat) (b : Nat) : valN (l ++ [b]) = valN l * 256 + b := by simp [valN]
theorem fold_lt : ∀ (l : List Nat) (a : Nat), (∀ x ∈ l, x < 256) → l.foldl (fun a b => a * 256 + b) a < (a + 1) * 256 ^ l.length
  | [], a, _ => by simp
  | b :: l, a, h => by
    have h1 := fold_lt l (a * 256 + b) (fun x hx => h x (List.mem_cons_of_mem _ hx))
    have h2 := h b (List.mem_cons_self ..)
    rw [List.foldl_cons, List.length_cons, Nat.pow_succ, Nat.mul_comm (256 ^ l.length) 256, ← Nat.mul_assoc]
    exact Nat.lt_of_lt_of_le h1 (Nat.mul_le_mul_right _ (by omega))
theorem valN_lt (l : List Nat) (h : ∀ x ∈ l, x < 256) : valN l < 256 ^ l.length := by
  have := fold_lt l 0 h
  simpa [valN] using this
theorem bt_txt (l : List Nat) (hl : ∀ x ∈ l, x < 256) (j : Nat) (hj : j < l.length) : bt (txt l) (j : Int) = (l[j] : Int) := by
  have h := hl l[j] (List.getElem_mem hj)
  unfold bt
  rw [dif_pos (by rw [Int.toNat_natCast, txt_size]; exact hj)]
  simp [txt, ByteArray.getElem_eq_getElem_data]
  omega
theorem num_loop (l : List Nat) (hl : ∀ x ∈ l, x < 256) (hn : l.length ≤ 6) (x7 x1000 : Bool) (x1001 : ByteArray) (x1002 : Int) : ∀ (d k j : Nat), j + d = l.length → d < k →
    code_In_number.l0 k (txt l) x7 (valN (l.take j) : Int) (l.length : Int) (j : Int) x1000 x1001 x1002 = some ((valN l : Int), x7, x1000, x1001, x1002)
  | 0, k, j, hd, hk => by
    obtain ⟨k, rfl⟩ : ∃ m, k = m + 1 := ⟨k - 1, by omega⟩
    simp only [code_In_number.l0]
    rw [if_neg (by omega), List.take_of_length_le (by omega)]
  | d + 1, k, j, hd, hk => by
    obtain ⟨k, rfl⟩ : ∃ m, k = m + 1 := ⟨k - 1, by omega⟩
    have hj : j < l.length := by omega
    have hb := hl l[j] (List.getElem_mem hj)
    have hv : valN (l.take j) < 1099511627776 := by
      have h1 := valN_lt (l.take j) (fun x hx => hl x (List.mem_of_mem_take hx))
      have h2 : (l.take j).length ≤ 5 := by rw [List.length_take]; omega
      exact Nat.lt_of_lt_of_le h1 (Nat.pow_le_pow_right (by decide) h2)
    simp only [code_In_number.l0]
    rw [if_pos (by omega), if_pos (by omega), if_pos (by rw [txt_size]; omega), bt_txt l hl j hj]
    have w1 : wrap64 ((valN (l.take j) : Int) * 256) = (valN (l.take j) : Int) * 256 := by unfold wrap64; omega
    have w2 : wrap64 (l[j] : Int) = (l[j] : Int) := by unfold wrap64; omega
    have w3 : wrap64 ((j : Int) + 1) = ((j + 1 : Nat) : Int) := by unfold wrap64; omega
    rw [w1, w2, w3, or_byte _ _ hb (by omega), ← valN_snoc, ← List.take_succ_eq_append_getElem hj]
    exact num_loop l hl hn x7 x1000 x1001 x1002 d k (j + 1) (by omega) (by omega)
theorem take_good (M R : List Nat) (k : Nat) : code_In_take.f (k + 1) true (txt (M ++ R)) 0 (M.length : Int) = some (txt M, true, true, txt R, 0) := by
  unfold code_In_take.f
  rw [if_pos rfl]
  simp only [code_In_take.j0]
  rw [if_neg (by decide), if_neg (by rw [txt_size, List.length_append]; omega), if_pos (by omega), if_pos (by rw [txt_size, List.length_append]; omega), Int.toNat_natCast, txt_size, txt_extract, txt_extract, Nat.sub_zero, List.drop_zero, List.take_left, List.drop_left, List.length_append, Nat.add_sub_cancel_left, List.take_length]
theorem number_good (M R : List Nat) (hM : ∀ x ∈ M, x < 256) (hn : M.length ≤ 6) : code_In_number.f 10 true (txt (M ++ R)) 0 (M.length : Int) = some ((valN M : Int), true, true, txt R, 0) := by
  unfold code_In_number.f
  rw [take_good M R 9, Option.bind_some]
  have := num_loop M hM hn true true (txt R) 0 M.length 10 0 (by omega) (by omega)
  simpa [valN, txt_size] using this
theorem downN_val (p : Nat) : ∀ (j m : Nat), j ≤ m → m ≤ 8 → p < 256 ^ m → valN ((downN (p : Int) m).take j) = p / 256 ^ (m - j)
  | 0, m, _, _, hp => by rw [List.take_zero, Nat.sub_zero, Nat.div_eq_of_lt hp]; rfl
  | j + 1, m, hj, hm, hp => by
    have ih := downN_val p j m (by omega) hm hp
    have hlen : ∀ (n : Nat), (downN (p : Int) n).length = n := by intro n; induction n with
      | zero => rfl
      | succ n ih => simp [downN, ih]
    have hget : ∀ (n i : Nat), i < n → (downN (p : Int) n)[i]? = some (p / 256 ^ (n - 1 - i) % 256) := by
      intro n
      induction n with
      | zero => intro i hi; omega
      | succ n ihn =>
        intro i hi
        cases i with
        | zero =>
          simp only [downN, List.getElem?_cons_zero, Option.some.injEq]
          rw [show (2 : Int) ^ (8 * n) = ((256 ^ n : Nat) : Int) by rw [Int.pow_mul]; simp]
          rw [show n + 1 - 1 - 0 = n by omega]
          omega
        | succ i =>
          simp only [downN, List.getElem?_cons_succ]
          rw [ihn i (by omega), show n + 1 - 1 - (i + 1) = n - 1 - i by omega]
    have hj2 : j < (downN (p : Int) m).length := by rw [hlen]; omega
    have hg := hget m j (by omega)
    rw [List.getElem?_eq_getElem hj2] at hg
    rw [List.take_succ_eq_append_getElem hj2, valN_snoc, ih, Option.some.inj hg]
    have e : m - j = (m - (j + 1)) + 1 := by omega
    rw [e, Nat.pow_succ, ← Nat.div_div_eq_div_mul, show m - 1 - j = m - (j + 1) by omega]
    omega
theorem valN_down (p m : Nat) (hm : m ≤ 8) (hp : p < 256 ^ m) : valN (downN (p : Int) m) = p := by
  have h := downN_val p m m (Nat.le_refl _) hm hp
  have hlen : ∀ (n : Nat), (downN (p : Int) n).length = n := by intro n; induction n with
    | zero => rfl
    | succ n ih => simp [downN, ih]
  rw [List.take_of_length_le (by rw [hlen]; exact Nat.le_refl _), Nat.sub_self, Nat.pow_zero, Nat.div_one] at h
  exact h
theorem byte_good (n : Int) (R : List Nat) (h : oneB n = true) : code_In_Byte.f 10 true (txt (byN n 1 ++ R)) 0 = some (n, true, txt R, 0) := by
  have hn := of_decide_eq_true h
  obtain ⟨p, rfl⟩ := Int.eq_ofNat_of_zero_le hn.1
  unfold code_In_Byte.f
  have := number_good (byN (p : Int) 1) R (byN_lt _ _) (by rw [byN_length _ _ (by decide)]; decide)
  rw [byN_length _ _ (by decide), ← (downN_byN _).1, valN_down p 1 (by decide) (by omega)] at this
  rw [← (downN_byN _).1, show (1 : Int) = ((1 : Nat) : Int) from rfl, this, Option.bind_some]
theorem num_good (n : Int) (R : List Nat) (h : timeB n = true) : code_In_Num.f 10 true (txt (byN n 6 ++ R)) 0 = some (n, true, txt R, 0) := by
  have hn := of_decide_eq_true h
  obtain ⟨p, rfl⟩ := Int.eq_ofNat_of_zero_le hn.1
  unfold code_In_Num.f
  have := number_good (byN (p : Int) 6) R (byN_lt _ _) (by rw [byN_length _ _ (by decide)]; decide)
  rw [byN_length _ _ (by decide), ← (downN_byN _).2.2, valN_down p 6 (by decide) (by omega)] at this
  rw [← (downN_byN _).2.2, show (6 : Int) = ((6 : Nat) : Int) from rfl, this, Option.bind_some]
  simp only
  rw [if_pos trivial, time_f, Option.bind_some, h, if_pos rfl]
theorem stamp_good (n m : Int) (R : List Nat) (h : timeB n = true) (h2 : oneB m = true) : code_In_Stamp.f 10 true (txt (byN n 6 ++ byN m 1 ++ R)) 0 = some (n, m, true, txt R, 0) := by
  have hm := of_decide_eq_true h2
  obtain ⟨p, rfl⟩ := Int.eq_ofNat_of_zero_le hm.1
  unfold code_In_Stamp.f
  rw [List.append_assoc, num_good n _ h, Option.bind_some]
  have := number_good (byN (p : Int) 1) R (byN_lt _ _) (by rw [byN_length _ _ (by decide)]; decide)
  rw [byN_length _ _ (by decide), ← (downN_byN _).1, valN_down p 1 (by decide) (by omega)] at this
  simp only
  rw [← (downN_byN _).1, show (1 : Int) = ((1 : Nat) : Int) from rfl, this, Option.bind_some]
  simp only
  rw [if_pos trivial]
theorem text_good (s : ByteArray) (R : List Nat) (most : Int) (h : s.size ≤ 65535) (hm : (s.size : Int) ≤ most) : code_In_Text.f 10 true (txt (byN (s.size : Int) 2 ++ bys s ++ R)) 0 most = some (s, true, txt R, 0) := by
  unfold code_In_Text.f
  have := number_good (byN (s.size : Int) 2) (bys s ++ R) (byN_lt _ _) (by rw [byN_length _ _ (by decide)]; decide)
  rw [byN_length _ _ (by decide), ← (downN_byN _).2.1, valN_down s.size 2 (by decide) (by omega), ← List.append_assoc] at this
  rw [← (downN_byN _).2.1, show (2 : Int) = ((2 : Nat) : Int) from rfl, this, Option.bind_some]
  simp only
  rw [if_pos trivial, if_neg (by omega)]
  have ht := take_good (bys s) R 9
  rw [bys_length] at ht
  rw [ht, Option.bind_some, txt_bys]
section
open Go.RowKit Go.Deep Go.Proofs.YtpeliaknceigdaaW.PrintWords Go.Proofs.YtpeliaknceigdaaW.PrintLast Go.Proofs.YtpeliaknceigdaaW.PrintMore
set_option maxHeartbeats 1000000
set_option linter.unusedVariables false
set_option linter.unusedSimpArgs false
/-! what was written -/
theorem outStep_was {bad ok : Bool} {L M L' : List Nat} (h : outStep bad L ok M = (false, L')) : bad = false ∧ ok = true ∧ L' = L ++ M := by
  unfold outStep at h
  split at h
  · cases h
  · rename_i hn
    refine ⟨?_, ?_, (Prod.mk.inj h).2.symm⟩
    · cases bad
      · rfl
      · exact absurd (.inl rfl) hn
    · cases ok
      · exact absurd (.inr (.inl rfl)) hn
      · rfl
abbrev PartS := S31
def pok (x : PartS) : Bool := partOk x.f0 x.f1 x.f2 x.f3
def pby (x : PartS) : List Nat := partBy x.f0 x.f1 x.f2 x.f3
theorem pby_lt (x : PartS) : ∀ n ∈ pby x, n < 256 := by
  intro n hn
  unfold pby partBy at hn
  split at hn
  · exact byN_lt _ _ n hn
  · split at hn
    · exact byN_lt _ _ n hn
    · split at hn
      · rcases List.mem_append.1 hn with h | h
        · exact byN_lt _ _ n h
        · exact byN_lt _ _ n h
      · rcases List.mem_append.1 hn with h | h
        · exact byN_lt _ _ n h
        · exact bys_lt' _ n h
/-- What was written, where it may be. -/
def Wrote (l : List PartS) (k : Nat) (bad : Bool) (L : List Nat) : Prop := bad = false → L = (l.take k).flatMap pby ∧ ∀ x ∈ l.take k, pok x = true
theorem wrote_next {l : List PartS} {k : Nat} {bad bad' : Bool} {L L' : List Nat} {x : PartS} (h : Wrote l k bad L) (hx : l[k]? = some x) (ho : outStep bad L (pok x) (pby x) = (bad', L')) : Wrote l (k + 1) bad' L' := by
  intro hb
  subst hb
  obtain ⟨h1, h2, h3⟩ := outStep_was ho
  obtain ⟨e1, e2⟩ := h h1
  obtain ⟨hk, rfl⟩ := List.getElem?_eq_some_iff.1 hx
  rw [List.take_succ_eq_append_getElem hk]
  refine ⟨by rw [h3, e1, List.flatMap_append, List.flatMap_cons, List.flatMap_nil, List.append_nil], fun y hy => ?_⟩
  rcases List.mem_append.1 hy with hy | hy
  · exact e2 y hy
  · rw [List.mem_singleton.1 hy]; exact h2
theorem drop_parts {l : List PartS} {k : Nat} {x : PartS} (hx : l[k]? = some x) : (l.drop k).flatMap pby = pby x ++ (l.drop (k + 1)).flatMap pby := by
  obtain ⟨hk, rfl⟩ := List.getElem?_eq_some_iff.1 hx
  rw [List.drop_eq_getElem_cons hk, List.flatMap_cons]
theorem num_none (k : Nat) (x7 x1000 : Bool) (x1001 : ByteArray) (x1002 : Int) : code_In_number.l0 (k + 1) ⟨#[]⟩ x7 0 ((⟨#[]⟩ : ByteArray).size : Int) 0 x1000 x1001 x1002 = some (0, x7, x1000, x1001, x1002) := by
  simp only [code_In_number.l0]
  rw [if_neg (by decide)]
theorem number_short (T : List Nat) (m : Int) (h : (T.length : Int) < m) : code_In_number.f 10 true (txt T) 0 m = some (0, false, true, ⟨#[]⟩, 90) := by
  unfold code_In_number.f code_In_take.f
  rw [if_pos rfl]
  simp only [code_In_take.j0]
  rw [if_neg (by decide), if_pos (by rw [txt_size]; omega)]
  unfold code_In_wrong.f
  rw [if_pos rfl, Option.bind_some, Option.bind_some]
  exact num_none 9 false true ⟨#[]⟩ 90
theorem take_failed (m : Int) (k : Nat) : code_In_take.f (k + 1) true ⟨#[]⟩ 90 m = some (⟨#[]⟩, false, true, ⟨#[]⟩, 90) := by
  unfold code_In_take.f
  rw [if_pos rfl]
  simp only [code_In_take.j0]
  rw [if_pos (by decide)]
theorem number_failed (m : Int) : code_In_number.f 10 true ⟨#[]⟩ 90 m = some (0, false, true, ⟨#[]⟩, 90) := by
  unfold code_In_number.f
  rw [take_failed m 9, Option.bind_some]
  exact num_none 9 false true ⟨#[]⟩ 90
/-- T is R without some bytes at its end. -/
def Cut (T R : List Nat) : Prop := ∃ X, X ≠ [] ∧ R = T ++ X
theorem cut_part {T M R : List Nat} (h : Cut T (M ++ R)) : (∃ T', T = M ++ T' ∧ Cut T' R) ∨ T.length < M.length := by
  obtain ⟨X, hX, hR⟩ := h
  by_cases hl : T.length < M.length
  · exact .inr hl
  · left
    have h1 : T.take M.length = M := by
      have := congrArg (List.take M.length) hR
      rw [List.take_left, List.take_append_of_le_length (by omega)] at this
      exact this.symm
    have h2 : T = M ++ T.drop M.length := by
      conv => lhs; rw [← List.take_append_drop M.length T, h1]
    refine ⟨T.drop M.length, h2, X, hX, ?_⟩
    have := congrArg (List.drop M.length) hR
    rw [List.drop_left, List.drop_append_of_le_length (by omega)] at this
    exact this
/-- What an In may be, where bytes of R are to come: still right, or too short. -/
def InSt (s : ByteArray) (e : Int) (R : List Nat) : Prop := (e = 0 ∧ ∃ T, s = txt T ∧ Cut T R) ∨ (e = 90 ∧ s = ⟨#[]⟩)
theorem ref_short_byte : samphireref09_InByte.f 10 ⟨#[]⟩ 0 = some (⟨#[]⟩, 90, 0) := by decide +kernel
theorem ref_short_num : samphireref09_InNum.f 10 ⟨#[]⟩ 0 = some (⟨#[]⟩, 90, 0) := by decide +kernel
theorem ref_short_stamp : samphireref09_InStamp.f 10 ⟨#[]⟩ 0 = some (⟨#[]⟩, 90, 0, 0) := by decide +kernel
theorem ref_short_number : samphireref09_number.f 10 ⟨#[]⟩ 0 2 = some (⟨#[]⟩, 90, 0) := by decide +kernel
theorem ref_short_text (m : Int) : samphireref09_InText.f 10 ⟨#[]⟩ 0 m = some (⟨#[]⟩, 90, ⟨#[]⟩) := by
  unfold samphireref09_InText.f
  rw [ref_short_number, Option.bind_some]
  rfl
theorem byte_cut (s : ByteArray) (e n : Int) (R : List Nat) (hn : oneB n = true) (h : InSt s e (byN n 1 ++ R)) : ∃ v s' e', code_In_Byte.f 10 true s e = some (v, true, s', e') ∧ InSt s' e' R := by
  rcases h with ⟨rfl, T, rfl, hc⟩ | ⟨rfl, rfl⟩
  · rcases cut_part hc with ⟨T', rfl, hc'⟩ | hl
    · exact ⟨_, _, _, byte_good n T' hn, .inl ⟨rfl, T', rfl, hc'⟩⟩
    · rw [byN_length _ _ (by decide)] at hl
      refine ⟨0, ⟨#[]⟩, 90, ?_, .inr ⟨rfl, rfl⟩⟩
      unfold code_In_Byte.f
      rw [number_short T 1 (by omega), Option.bind_some]
  · refine ⟨0, ⟨#[]⟩, 90, ?_, .inr ⟨rfl, rfl⟩⟩
    unfold code_In_Byte.f
    rw [number_failed, Option.bind_some]
theorem num_short (T : List Nat) (h : T.length < 6) : code_In_Num.f 10 true (txt T) 0 = some (0, true, ⟨#[]⟩, 90) := by
  unfold code_In_Num.f
  rw [number_short T 6 (by omega), Option.bind_some]
  simp only
  rw [if_neg (by decide)]
theorem num_failed : code_In_Num.f 10 true ⟨#[]⟩ 90 = some (0, true, ⟨#[]⟩, 90) := by
  unfold code_In_Num.f
  rw [number_failed, Option.bind_some]
  simp only
  rw [if_neg (by decide)]
theorem num_cut (s : ByteArray) (e n : Int) (R : List Nat) (hn : timeB n = true) (h : InSt s e (byN n 6 ++ R)) : ∃ v s' e', code_In_Num.f 10 true s e = some (v, true, s', e') ∧ InSt s' e' R := by
  rcases h with ⟨rfl, T, rfl, hc⟩ | ⟨rfl, rfl⟩
  · rcases cut_part hc with ⟨T', rfl, hc'⟩ | hl
    · exact ⟨_, _, _, num_good n T' hn, .inl ⟨rfl, T', rfl, hc'⟩⟩
    · rw [byN_length _ _ (by decide)] at hl
      exact ⟨0, ⟨#[]⟩, 90, num_short T hl, .inr ⟨rfl, rfl⟩⟩
  · exact ⟨0, ⟨#[]⟩, 90, num_failed, .inr ⟨rfl, rfl⟩⟩
theorem stamp_cut (s : ByteArray) (e n m : Int) (R : List Nat) (hn : timeB n = true) (hm : oneB m = true) (h : InSt s e (byN n 6 ++ byN m 1 ++ R)) : ∃ v u s' e', code_In_Stamp.f 10 true s e = some (v, u, true, s', e') ∧ InSt s' e' R := by
  rw [List.append_assoc] at h
  obtain ⟨v, s1, e1, h1, hc1⟩ := num_cut s e n _ hn h
  unfold code_In_Stamp.f
  rw [h1, Option.bind_some]
  simp only
  rcases hc1 with ⟨rfl, T, rfl, hc⟩ | ⟨rfl, rfl⟩
  · rcases cut_part hc with ⟨T', rfl, hc'⟩ | hl
    · have := number_good (byN m 1) T' (byN_lt _ _) (by rw [byN_length _ _ (by decide)]; decide)
      rw [byN_length _ _ (by decide)] at this
      refine ⟨v, (valN (byN m 1) : Int), txt T', 0, ?_, .inl ⟨rfl, T', rfl, hc'⟩⟩
      rw [show (1 : Int) = ((1 : Nat) : Int) from rfl, this, Option.bind_some]
      simp only
      rw [if_pos trivial]
    · rw [byN_length _ _ (by decide)] at hl
      refine ⟨0, 0, ⟨#[]⟩, 90, ?_, .inr ⟨rfl, rfl⟩⟩
      rw [number_short T 1 (by omega), Option.bind_some]
      simp only
      rw [if_neg (by decide)]
  · refine ⟨0, 0, ⟨#[]⟩, 90, ?_, .inr ⟨rfl, rfl⟩⟩
    rw [number_failed, Option.bind_some]
    simp only
    rw [if_neg (by decide)]
theorem take_short (T : List Nat) (m : Int) (k : Nat) (h : (T.length : Int) < m) : code_In_take.f (k + 1) true (txt T) 0 m = some (⟨#[]⟩, false, true, ⟨#[]⟩, 90) := by
  unfold code_In_take.f
  rw [if_pos rfl]
  simp only [code_In_take.j0]
  rw [if_neg (by decide), if_pos (by rw [txt_size]; omega)]
  unfold code_In_wrong.f
  rw [if_pos rfl, Option.bind_some]
theorem text_cut (s : ByteArray) (e : Int) (t : ByteArray) (R : List Nat) (ht : t.size ≤ 65535) (h : InSt s e (byN (t.size : Int) 2 ++ bys t ++ R)) : ∃ v s' e', code_In_Text.f 10 true s e 65536 = some (v, true, s', e') ∧ InSt s' e' R := by
  rw [List.append_assoc] at h
  unfold code_In_Text.f
  rcases h with ⟨rfl, T, rfl, hc⟩ | ⟨rfl, rfl⟩
  · rcases cut_part hc with ⟨T', rfl, hc'⟩ | hl
    · have hn := number_good (byN (t.size : Int) 2) T' (byN_lt _ _) (by rw [byN_length _ _ (by decide)]; decide)
      rw [byN_length _ _ (by decide), ← (downN_byN _).2.1, valN_down t.size 2 (by decide) (by omega)] at hn
      rw [← (downN_byN _).2.1, show (2 : Int) = ((2 : Nat) : Int) from rfl, hn, Option.bind_some]
      simp only
      rw [if_pos trivial, if_neg (by omega)]
      rcases cut_part hc' with ⟨T2, rfl, hc2⟩ | hl2
      · have h2 := take_good (bys t) T2 9
        rw [bys_length] at h2
        exact ⟨t, txt T2, 0, by rw [h2, Option.bind_some, txt_bys], .inl ⟨rfl, T2, rfl, hc2⟩⟩
      · rw [bys_length] at hl2
        exact ⟨⟨#[]⟩, ⟨#[]⟩, 90, by rw [take_short T' _ 9 (by omega), Option.bind_some], .inr ⟨rfl, rfl⟩⟩
    · rw [byN_length _ _ (by decide)] at hl
      refine ⟨⟨#[]⟩, ⟨#[]⟩, 90, ?_, .inr ⟨rfl, rfl⟩⟩
      rw [number_short T 2 (by omega), Option.bind_some]
      simp only
      rw [if_neg (by decide)]
  · refine ⟨⟨#[]⟩, ⟨#[]⟩, 90, ?_, .inr ⟨rfl, rfl⟩⟩
    rw [number_failed, Option.bind_some]
    simp only
    rw [if_neg (by decide)]
/-- The part as CodeCuts reads it. -/
def cutN (kind n : Int) : Int := if kind < 1 ∨ kind > 3 then 65536 else n
theorem cutN_in {kind n : Int} (h : kind = 1 ∨ kind = 2 ∨ kind = 3) : cutN kind n = n := if_neg (by omega)
theorem reads_cut (s : ByteArray) (e kind n m : Int) (t : ByteArray) (R : List Nat) (hk : partOk kind n m t = true) (h : InSt s e (partBy kind n m t ++ R)) :
    ∃ b s' e', samphirelaw09_reads.f 10 true s e ⟨#[]⟩ 0 kind (cutN kind n) m t = some (⟨#[]⟩, 90, b, true, s', e') ∧ InSt s' e' R := by
  unfold samphirelaw09_reads.f
  unfold partOk at hk
  unfold partBy at h
  by_cases t1 : kind = 1
  · rw [if_pos t1] at hk h
    obtain ⟨v, s', e', h1, h2⟩ := byte_cut s e n R hk h
    exact ⟨_, s', e', by rw [if_pos t1, ref_short_byte, Option.bind_some, h1, Option.bind_some], h2⟩
  rw [if_neg t1] at hk h
  rw [if_neg t1]
  by_cases t2 : kind = 2
  · rw [if_pos t2] at hk h
    obtain ⟨v, s', e', h1, h2⟩ := num_cut s e n R hk h
    exact ⟨_, s', e', by rw [if_pos t2, ref_short_num, Option.bind_some, h1, Option.bind_some], h2⟩
  rw [if_neg t2] at hk h
  rw [if_neg t2]
  by_cases t3 : kind = 3
  · rw [if_pos t3] at hk h
    obtain ⟨v, u, s', e', h1, h2⟩ := stamp_cut s e n m R (Bool.and_eq_true_iff.1 hk).1 (Bool.and_eq_true_iff.1 hk).2 h
    exact ⟨_, s', e', by rw [if_pos t3, ref_short_stamp, Option.bind_some, h1, Option.bind_some], h2⟩
  rw [if_neg t3] at hk h
  rw [if_neg t3]
  have hc : cutN kind n = 65536 := if_pos (by omega)
  obtain ⟨v, s', e', h1, h2⟩ := text_cut s e t R (of_decide_eq_true hk) h
  exact ⟨_, s', e', by rw [hc, ref_short_text, Option.bind_some, h1, Option.bind_some], h2⟩
theorem reads_whole (kind n m : Int) (t : ByteArray) (R : List Nat) (hk : partOk kind n m t = true) :
    ∃ b, samphirelaw09_reads.f 10 true (txt (partBy kind n m t ++ R)) 0 ⟨#[]⟩ 0 kind (cutN kind n) m t = some (⟨#[]⟩, 90, b, true, txt R, 0) := by
  unfold samphirelaw09_reads.f
  unfold partOk at hk
  unfold partBy
  by_cases t1 : kind = 1
  · rw [if_pos t1] at hk
    rw [if_pos t1, if_pos t1, ref_short_byte, Option.bind_some, byte_good n R hk, Option.bind_some]
    exact ⟨_, rfl⟩
  rw [if_neg t1] at hk
  rw [if_neg t1, if_neg t1]
  by_cases t2 : kind = 2
  · rw [if_pos t2] at hk
    rw [if_pos t2, if_pos t2, ref_short_num, Option.bind_some, num_good n R hk, Option.bind_some]
    exact ⟨_, rfl⟩
  rw [if_neg t2] at hk
  rw [if_neg t2, if_neg t2]
  by_cases t3 : kind = 3
  · rw [if_pos t3] at hk
    rw [if_pos t3, if_pos t3, ref_short_stamp, Option.bind_some, stamp_good n m R (Bool.and_eq_true_iff.1 hk).1 (Bool.and_eq_true_iff.1 hk).2, Option.bind_some]
    exact ⟨_, rfl⟩
  rw [if_neg t3] at hk
  have hc : cutN kind n = 65536 := if_pos (by omega)
  have hs := of_decide_eq_true hk
  rw [if_neg t3, if_neg t3, hc, ref_short_text, Option.bind_some, text_good t R 65536 hs (by omega), Option.bind_some]
  exact ⟨_, rfl⟩
end
end Go.Proofs.Ytpeliaknceigdaa.Pr

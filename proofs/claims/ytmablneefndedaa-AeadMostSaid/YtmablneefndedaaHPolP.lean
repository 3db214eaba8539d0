/- poly's numbers in plain Lean. -/
namespace Go.Proofs.Ytmablneefndedaa.Pr
set_option maxHeartbeats 1000000
set_option linter.unusedVariables false
set_option linter.unusedSimpArgs false
/-- The value of limbs of 26 bits, the lowest first. -/
def lv : List Nat → Nat
  | [] => 0
  | x :: l => x + 67108864 * lv l
def cstep (st : List Nat × Nat) (k : Nat) : List Nat × Nat := (st.1.set k ((st.1.getD k 0 + st.2) % 67108864), (st.1.getD k 0 + st.2) / 67108864)
def carL (l : List Nat) : Nat → List Nat × Nat
  | 0 => (l, 0)
  | k + 1 => cstep (carL l k) k
/-- Limbs, carried. -/
def car (l : List Nat) : List Nat :=
  ((carL l 5).1.set 0 (((carL l 5).1.getD 0 0 + 5 * (carL l 5).2) % 67108864)).set 1 ((carL l 5).1.getD 1 0 + ((carL l 5).1.getD 0 0 + 5 * (carL l 5).2) / 67108864)
theorem five {l : List Nat} (h : l.length = 5) : ∃ a b c d e, l = [a, b, c, d, e] := by
  match l, h with
  | [a, b, c, d, e], _ => exact ⟨a, b, c, d, e, rfl⟩
/-- Five limbs, each below a bound. -/
structure Lim (n : Nat) (l : List Nat) : Prop where
  len : l.length = 5
  lt : ∀ i, l.getD i 0 < n
theorem Lim.mk5 {n a b c d e : Nat} (h0 : a < n) (h1 : b < n) (h2 : c < n) (h3 : d < n) (h4 : e < n) : Lim n [a, b, c, d, e] := by
  refine ⟨rfl, fun i => ?_⟩
  match i with
  | 0 => exact h0
  | 1 => exact h1
  | 2 => exact h2
  | 3 => exact h3
  | 4 => exact h4
  | i + 5 => simp; omega
theorem Lim.of5 {n : Nat} {l : List Nat} (h : Lim n l) : ∃ a b c d e, l = [a, b, c, d, e] ∧ a < n ∧ b < n ∧ c < n ∧ d < n ∧ e < n := by
  obtain ⟨a, b, c, d, e, rfl⟩ := five h.len
  exact ⟨a, b, c, d, e, rfl, h.lt 0, h.lt 1, h.lt 2, h.lt 3, h.lt 4⟩
theorem Lim.mono {n m : Nat} {l : List Nat} (h : Lim n l) (hnm : n ≤ m) : Lim m l := ⟨h.len, fun i => Nat.lt_of_lt_of_le (h.lt i) hnm⟩
theorem car5 (a b c d e : Nat) : ∃ q0 q1 q2 q3 q4 q5, car [a, b, c, d, e] = [(a % 67108864 + 5 * q4) % 67108864, (b + q0) % 67108864 + q5, (c + q1) % 67108864, (d + q2) % 67108864, (e + q3) % 67108864] ∧
    q0 = a / 67108864 ∧ q1 = (b + q0) / 67108864 ∧ q2 = (c + q1) / 67108864 ∧ q3 = (d + q2) / 67108864 ∧ q4 = (e + q3) / 67108864 ∧ q5 = (a % 67108864 + 5 * q4) / 67108864 :=
  ⟨_, _, _, _, _, _, rfl, rfl, rfl, rfl, rfl, rfl, rfl⟩
theorem car_lv {l : List Nat} (h : l.length = 5) : ∃ q, lv l = lv (car l) + 1361129467683753853853498429727072845819 * q := by
  obtain ⟨a, b, c, d, e, rfl⟩ := five h
  obtain ⟨q0, q1, q2, q3, q4, q5, h, e0, e1, e2, e3, e4, e5⟩ := car5 a b c d e
  rw [h]
  refine ⟨q4, ?_⟩
  simp only [lv]
  omega
theorem car_lim {l : List Nat} (h : Lim 9223372036854775808 l) : Lim 67141632 (car l) := by
  obtain ⟨a, b, c, d, e, rfl, h0, h1, h2, h3, h4⟩ := h.of5
  obtain ⟨q0, q1, q2, q3, q4, q5, h, e0, e1, e2, e3, e4, e5⟩ := car5 a b c d e
  rw [h]
  apply Lim.mk5 <;> omega
/-- The limbs as the carries run through them: nothing is too great. -/
theorem carL_lt {l : List Nat} (h : Lim 9223372036854775808 l) : ∀ k, k < 5 → (carL l k).1.getD k 0 + (carL l k).2 < 18446744073709551616 := by
  obtain ⟨a, b, c, d, e, rfl, h0, h1, h2, h3, h4⟩ := h.of5
  intro k hk
  match k, hk with
  | 0, _ => show a + 0 < _; omega
  | 1, _ => show b + (a + 0) / 67108864 < _; omega
  | 2, _ => show c + (b + (a + 0) / 67108864) / 67108864 < _; omega
  | 3, _ => show d + (c + (b + (a + 0) / 67108864) / 67108864) / 67108864 < _; omega
  | 4, _ => show e + (d + (c + (b + (a + 0) / 67108864) / 67108864) / 67108864) / 67108864 < _; omega
theorem carL_length (l : List Nat) : ∀ k, (carL l k).1.length = l.length
  | 0 => rfl
  | k + 1 => by simp [carL, cstep, carL_length l k]
theorem car_length (l : List Nat) : (car l).length = l.length := by simp [car, carL_length]
theorem carL_end {l : List Nat} (h : Lim 9223372036854775808 l) : (carL l 5).1.getD 0 0 + 5 * (carL l 5).2 < 18446744073709551616 ∧ (carL l 5).1.getD 0 0 < 67108864 ∧ (carL l 5).1.getD 1 0 < 67108864 ∧ (carL l 5).2 < 274877906944 := by
  obtain ⟨a, b, c, d, e, rfl, h0, h1, h2, h3, h4⟩ := h.of5
  have e0 : (carL [a, b, c, d, e] 5).1.getD 0 0 = (a + 0) % 67108864 := rfl
  have e1 : (carL [a, b, c, d, e] 5).1.getD 1 0 = (b + (a + 0) / 67108864) % 67108864 := rfl
  have e2 : (carL [a, b, c, d, e] 5).2 = (e + (d + (c + (b + (a + 0) / 67108864) / 67108864) / 67108864) / 67108864) / 67108864 := rfl
  rw [e0, e1, e2]
  omega
/-- Sums of limbs. -/
def addT (l m : List Nat) (k : Nat) : List Nat := (List.range 5).map fun i => if i < k then l.getD i 0 + m.getD i 0 else l.getD i 0
def addL (l m : List Nat) : List Nat := addT l m 5
theorem addL_lv (l m : List Nat) (hl : l.length = 5) (hm : m.length = 5) : lv (addL l m) = lv l + lv m := by
  obtain ⟨a, b, c, d, e, rfl⟩ := five hl
  obtain ⟨a', b', c', d', e', rfl⟩ := five hm
  show lv [a + a', b + b', c + c', d + d', e + e'] = _
  simp only [lv]
  omega
theorem addL_lim {n m : Nat} {l k : List Nat} (hl : Lim n l) (hk : Lim m k) : Lim (n + m) (addL l k) := by
  obtain ⟨a, b, c, d, e, rfl, h0, h1, h2, h3, h4⟩ := hl.of5
  obtain ⟨a', b', c', d', e', rfl, g0, g1, g2, g3, g4⟩ := hk.of5
  show Lim _ [a + a', b + b', c + c', d + d', e + e']
  apply Lim.mk5 <;> omega
/-- A product's limb as far as it is summed. -/
def mulT (n m : List Nat) (k : Nat) : Nat → Nat
  | 0 => 0
  | i + 1 => mulT n m k i + if i ≤ k then n.getD i 0 * m.getD (k - i) 0 else 5 * n.getD i 0 * m.getD (k + 5 - i) 0
/-- A product's limbs, ahead of the carries. -/
def mulL (n m : List Nat) : List Nat := (List.range 5).map fun k => mulT n m k 5
theorem mul_lv (n m : List Nat) (hn : n.length = 5) (hm : m.length = 5) : ∃ q, lv n * lv m = lv (mulL n m) + 1361129467683753853853498429727072845819 * q := by
  obtain ⟨a, b, c, d, e, rfl⟩ := five hn
  obtain ⟨a', b', c', d', e', rfl⟩ := five hm
  refine ⟨b * e' + c * d' + d * c' + e * b' + 67108864 * (c * e' + d * d' + e * c' + 67108864 * (d * e' + e * d' + 67108864 * (e * e'))), ?_⟩
  show _ = lv [0 + a * a' + 5 * b * e' + 5 * c * d' + 5 * d * c' + 5 * e * b', 0 + a * b' + b * a' + 5 * c * e' + 5 * d * d' + 5 * e * c', 0 + a * c' + b * b' + c * a' + 5 * d * e' + 5 * e * d', 0 + a * d' + b * c' + c * b' + d * a' + 5 * e * e', 0 + a * e' + b * d' + c * c' + d * b' + e * a'] + _
  simp only [lv]
  grind
theorem mulT_lt {n m : List Nat} (hn : Lim 268435456 n) (hm : Lim 67108864 m) (k : Nat) : ∀ i, mulT n m k i ≤ i * 90071992547409920
  | 0 => by simp [mulT]
  | i + 1 => by
    have h1 := mulT_lt hn hm k i
    have hx : ∀ j r, n.getD j 0 * m.getD r 0 ≤ 18014398509481984 := fun j r => by
      have := Nat.mul_le_mul (Nat.le_of_lt (hn.lt j)) (Nat.le_of_lt (hm.lt r))
      simpa using this
    have h2 : (if i ≤ k then n.getD i 0 * m.getD (k - i) 0 else 5 * n.getD i 0 * m.getD (k + 5 - i) 0) ≤ 90071992547409920 := by
      split
      · have := hx i (k - i); omega
      · have := hx i (k + 5 - i)
        rw [Nat.mul_assoc]; omega
    simp only [mulT]
    omega
theorem mulL_lim {n m : List Nat} (hn : Lim 268435456 n) (hm : Lim 67108864 m) : Lim 9223372036854775808 (mulL n m) := by
  refine ⟨by simp [mulL], fun i => ?_⟩
  unfold mulL
  by_cases hi : i < 5
  · simp [List.getD_eq_getElem?_getD, hi]
    have := mulT_lt hn hm i 5
    omega
  · simp [List.getD_eq_getElem?_getD, hi]
/-- A number with limbs of 26 bits. -/
def norm (l : List Nat) : List Nat := if (car l).getD 1 0 < 67108864 then car l else car (car l)
theorem norm_lim {l : List Nat} (h : Lim 134217728 l) : Lim 67108864 (norm l) := by
  obtain ⟨a, b, c, d, e, rfl, h0, h1, h2, h3, h4⟩ := h.of5
  unfold norm
  obtain ⟨q0, q1, q2, q3, q4, q5, h, e0, e1, e2, e3, e4, e5⟩ := car5 a b c d e
  rw [h]
  split
  · rename_i hb
    simp only [List.getD_cons_succ, List.getD_cons_zero] at hb
    apply Lim.mk5 <;> omega
  · rename_i hb
    simp only [List.getD_cons_succ, List.getD_cons_zero] at hb
    obtain ⟨r0, r1, r2, r3, r4, r5, g, f0, f1, f2, f3, f4, f5⟩ := car5 ((a % 67108864 + 5 * q4) % 67108864) ((b + q0) % 67108864 + q5) ((c + q1) % 67108864) ((d + q2) % 67108864) ((e + q3) % 67108864)
    rw [g]
    apply Lim.mk5 <;> omega
theorem norm_lv {l : List Nat} (h : l.length = 5) : ∃ q, lv l = lv (norm l) + 1361129467683753853853498429727072845819 * q := by
  unfold norm
  split
  · exact car_lv h
  · obtain ⟨q, hq⟩ := car_lv h
    obtain ⟨r, hr⟩ := car_lv (l := car l) (by rw [car_length]; exact h)
    exact ⟨q + r, by rw [hq, hr]; omega⟩
/-- 5 more, with the carries, as far as they are made. -/
def moreT (l : List Nat) : Nat → List Nat
  | 0 => l.set 0 (l.getD 0 0 + 5)
  | k + 1 => ((moreT l k).set (k + 1) ((moreT l k).getD (k + 1) 0 + (moreT l k).getD k 0 / 67108864)).set k ((moreT l k).getD k 0 % 67108864)
def whole (l : List Nat) : List Nat :=
  if (moreT (norm l) 4).getD 4 0 / 67108864 = 0 then norm l else (moreT (norm l) 4).set 4 ((moreT (norm l) 4).getD 4 0 % 67108864)
theorem more5 (a b c d e : Nat) : ∃ q0 q1 q2 q3, moreT [a, b, c, d, e] 4 = [(a + 5) % 67108864, (b + q0) % 67108864, (c + q1) % 67108864, (d + q2) % 67108864, e + q3] ∧
    q0 = (a + 5) / 67108864 ∧ q1 = (b + q0) / 67108864 ∧ q2 = (c + q1) / 67108864 ∧ q3 = (d + q2) / 67108864 := ⟨_, _, _, _, rfl, rfl, rfl, rfl, rfl⟩
theorem whole_lim {l : List Nat} (h : Lim 134217728 l) : Lim 67108864 (whole l) := by
  have hN := norm_lim h
  unfold whole
  generalize norm l = m at *
  obtain ⟨a, b, c, d, e, rfl, h0, h1, h2, h3, h4⟩ := hN.of5
  obtain ⟨q0, q1, q2, q3, hm, e0, e1, e2, e3⟩ := more5 a b c d e
  rw [hm]
  split
  · exact hN
  · simp only [List.getD_cons_succ, List.getD_cons_zero, List.set_cons_succ, List.set_cons_zero] at *
    apply Lim.mk5 <;> omega
theorem whole_lv {l : List Nat} (h : Lim 134217728 l) : lv (whole l) = lv l % 1361129467683753853853498429727072845819 := by
  have hN := norm_lim h
  obtain ⟨q, hq⟩ := norm_lv h.len
  rw [hq, Nat.add_mul_mod_self_left]
  unfold whole
  generalize norm l = m at *
  obtain ⟨a, b, c, d, e, rfl, h0, h1, h2, h3, h4⟩ := hN.of5
  obtain ⟨q0, q1, q2, q3, hm, e0, e1, e2, e3⟩ := more5 a b c d e
  rw [hm]
  split
  · rename_i hc
    simp only [List.getD_cons_succ, List.getD_cons_zero] at hc
    simp only [lv]
    rw [Nat.mod_eq_of_lt (by omega)]
  · rename_i hc
    simp only [List.getD_cons_succ, List.getD_cons_zero, List.set_cons_succ, List.set_cons_zero] at *
    simp only [lv]
    have hu : (e + q3) / 67108864 = 1 := by omega
    rw [Nat.mod_eq_sub_mod (by omega), Nat.mod_eq_of_lt (by omega)]
    omega
end Go.Proofs.Ytmablneefndedaa.Pr
namespace Go.Proofs.Ytmablneefndedaa.Pr
/-- The limbs of a number. -/
def limbs (V : Nat) : List Nat := [V % 67108864, V / 67108864 % 67108864, V / 4503599627370496 % 67108864, V / 302231454903657293676544 % 67108864, V / 20282409603651670423947251286016 % 67108864]
theorem limbs_lim (V : Nat) : Lim 67108864 (limbs V) := by
  apply Lim.mk5 <;> exact Nat.mod_lt _ (by decide)
theorem limbs_lv (V : Nat) (h : V < 1361129467683753853853498429727072845824) : lv (limbs V) = V := by
  simp only [limbs, lv]
  omega
theorem lv_limbs {l : List Nat} (h : Lim 67108864 l) : limbs (lv l) = l := by
  obtain ⟨a, b, c, d, e, rfl, h0, h1, h2, h3, h4⟩ := h.of5
  simp only [limbs, lv, List.cons.injEq, and_true]
  refine ⟨?_, ?_, ?_, ?_, ?_⟩ <;> omega
/-- The number of bytes, the lowest first. -/
def dv : List Nat → Nat
  | [] => 0
  | x :: l => x + 256 * dv l
theorem dv_append (l m : List Nat) : dv (l ++ m) = dv l + 256 ^ l.length * dv m := by
  induction l with
  | nil => simp [dv]
  | cons x l ih => simp only [List.cons_append, dv, ih, List.length_cons, Nat.pow_succ]; grind
theorem dv_lt (l : List Nat) (h : ∀ i, l.getD i 0 < 256) : dv l < 256 ^ l.length := by
  induction l with
  | nil => simp [dv]
  | cons x l ih =>
    have h0 := h 0
    have := ih (fun i => by simpa using h (i + 1))
    simp only [dv, List.length_cons, Nat.pow_succ, List.getD_cons_zero] at *
    omega
theorem dv_digit (l : List Nat) (h : ∀ i, l.getD i 0 < 256) (k : Nat) : dv l / 256 ^ k % 256 = l.getD k 0 := by
  induction l generalizing k with
  | nil => simp [dv]
  | cons x l ih =>
    have h0 := h 0
    simp only [List.getD_cons_zero] at h0
    cases k with
    | zero => simp only [dv, List.getD_cons_zero, Nat.pow_zero, Nat.div_one]; omega
    | succ k =>
      have := ih (fun i => by simpa using h (i + 1)) k
      rw [List.getD_cons_succ, ← this, Nat.pow_succ, Nat.mul_comm, ← Nat.div_div_eq_div_mul]
      simp only [dv]
      congr 2
      omega
end Go.Proofs.Ytmablneefndedaa.Pr
namespace Go.Proofs.Ytmablneefndedaa.Pr
/-- So many digits of a number. -/
def dig (V n : Nat) : List Nat := (List.range n).map fun k => V / 256 ^ k % 256
theorem dig_length (V n : Nat) : (dig V n).length = n := by simp [dig]
theorem dig_get (V n k : Nat) (h : k < n) : (dig V n).getD k 0 = V / 256 ^ k % 256 := by simp [dig, List.getD_eq_getElem?_getD, h]
theorem dig_lt (V n k : Nat) : (dig V n).getD k 0 < 256 := by
  by_cases h : k < n
  · rw [dig_get V n k h]; exact Nat.mod_lt _ (by decide)
  · simp [dig, List.getD_eq_getElem?_getD, h]
theorem dig_succ (V n : Nat) : dig V (n + 1) = V % 256 :: dig (V / 256) n := by
  unfold dig
  rw [List.range_succ_eq_map, List.map_cons, List.map_map]
  congr 1
  · simp
  · apply List.map_congr_left
    intro k _
    simp only [Function.comp, Nat.pow_succ, Nat.mul_comm _ 256, Nat.div_div_eq_div_mul]
theorem dv_dig (V n : Nat) : dv (dig V n) = V % 256 ^ n := by
  induction n generalizing V with
  | zero => simp [dig, dv, Nat.mod_one]
  | succ n ih =>
    rw [dig_succ, dv, ih, Nat.pow_succ, Nat.mul_comm _ 256, Nat.mod_mul]
theorem dig_dv (l : List Nat) (h : ∀ i, l.getD i 0 < 256) : dig (dv l) l.length = l := by
  apply List.ext_getElem
  · simp [dig]
  · intro i h1 h2
    have := dv_digit l h i
    simp only [dig, List.getElem_map, List.getElem_range, this]
    simp [List.getD_eq_getElem?_getD, h2]
theorem dig_dv' (l : List Nat) (n : Nat) (h : ∀ i, l.getD i 0 < 256) (hn : l.length = n) : dig (dv l) n = l := by subst hn; exact dig_dv l h
theorem dv_take_succ (l : List Nat) (i : Nat) : dv (l.take (i + 1)) = dv (l.take i) + 256 ^ i * l.getD i 0 := by
  by_cases h : i < l.length
  · rw [List.take_succ_eq_append_getElem h, dv_append]
    simp [dv, List.length_take, Nat.min_eq_left (Nat.le_of_lt h), List.getD_eq_getElem?_getD, h]
  · have : i ≤ l.length ∨ l.length ≤ i := by omega
    rw [List.take_of_length_le (by omega), List.take_of_length_le (by omega)]
    simp [List.getD_eq_getElem?_getD, h]
/-- A number's lower digits are not turned by what stands above. -/
theorem take_digit (l : List Nat) (i : Nat) : dv l / 256 ^ i % 256 = (dv (l.take i) / 256 ^ i + l.getD i 0) % 256 := by
  have h1 : dv l = dv (l.take (i + 1)) + 256 ^ (i + 1) * dv (l.drop (i + 1)) := by
    by_cases h : i + 1 ≤ l.length
    · have := dv_append (l.take (i + 1)) (l.drop (i + 1))
      rw [List.take_append_drop, List.length_take, Nat.min_eq_left h] at this
      exact this
    · rw [List.take_of_length_le (by omega), List.drop_of_length_le (by omega)]; simp [dv]
  rw [h1, dv_take_succ, Nat.pow_succ, Nat.mul_assoc, Nat.add_mul_div_left _ _ (Nat.pow_pos (by decide)), Nat.add_mul_div_left _ _ (Nat.pow_pos (by decide)), Nat.add_mul_mod_self_left]
end Go.Proofs.Ytmablneefndedaa.Pr

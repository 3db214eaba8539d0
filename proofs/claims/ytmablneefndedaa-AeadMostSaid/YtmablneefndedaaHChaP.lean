/- chacha's rounds on a list of sixteen words: plain. -/
import Derived.Test.YtmablneefndedaaHChaA
import Derived.Test.YtmablneefndedaaHShaB
import Derived.Test.YtmablneefndedaaPrxf74
namespace Go.Proofs.Ytmablneefndedaa.Pr
open Go.RowKit Go.Proofs.YtmablneefndedaaW.PrintWords
set_option maxHeartbeats 1000000
set_option linter.unusedVariables false
set_option linter.unusedSimpArgs false
/-- A list of words behind a quarter round of four of them. -/
def qr (l : List Nat) (i j k m : Nat) : List Nat :=
  (((l.set i (qa2 (l.getD i 0) (l.getD j 0) (l.getD k 0) (l.getD m 0))).set j (qb2 (l.getD i 0) (l.getD j 0) (l.getD k 0) (l.getD m 0))).set k (qc2 (l.getD i 0) (l.getD j 0) (l.getD k 0) (l.getD m 0))).set m (qd2 (l.getD i 0) (l.getD j 0) (l.getD k 0) (l.getD m 0))
/-- Words of 32 bits. -/
def Small (l : List Nat) : Prop := ∀ i, l.getD i 0 < 4294967296
theorem qr_length (l : List Nat) (i j k m : Nat) : (qr l i j k m).length = l.length := by simp [qr]
theorem Small.set {l : List Nat} (h : Small l) (i : Nat) {v : Nat} (hv : v < 4294967296) : Small (l.set i v) := by
  intro j
  rw [List.getD_eq_getElem?_getD, List.getElem?_set]
  split
  · split
    · simpa using hv
    · simp
  · rw [← List.getD_eq_getElem?_getD]; exact h j
theorem qr_small {l : List Nat} (h : Small l) (i j k m : Nat) : Small (qr l i j k m) := by
  obtain ⟨k1, k2, k3, k4, k5, k6, k7, k8⟩ := qbounds _ _ _ _ (h i) (h j) (h k) (h m)
  exact (((h.set i k5).set j k8).set k k7).set m k6
/-- Columns, so many. -/
def col (l : List Nat) : Nat → List Nat
  | 0 => l
  | k + 1 => qr (col l k) k (k + 4) (k + 8) (k + 12)
/-- Diagonals, so many. -/
def dia (l : List Nat) : Nat → List Nat
  | 0 => l
  | k + 1 => qr (dia l k) k (4 + (k + 1) % 4) (8 + (k + 2) % 4) (12 + (k + 3) % 4)
/-- Double rounds, so many. -/
def dbl (l : List Nat) : Nat → List Nat
  | 0 => l
  | n + 1 => dia (col (dbl l n) 4) 4
theorem col_length (l : List Nat) : ∀ k, (col l k).length = l.length
  | 0 => rfl
  | k + 1 => by rw [col, qr_length, col_length l k]
theorem dia_length (l : List Nat) : ∀ k, (dia l k).length = l.length
  | 0 => rfl
  | k + 1 => by rw [dia, qr_length, dia_length l k]
theorem dbl_length (l : List Nat) : ∀ k, (dbl l k).length = l.length
  | 0 => rfl
  | k + 1 => by rw [dbl, dia_length, col_length, dbl_length l k]
theorem col_small {l : List Nat} (h : Small l) : ∀ k, Small (col l k)
  | 0 => h
  | k + 1 => qr_small (col_small h k) _ _ _ _
theorem dia_small {l : List Nat} (h : Small l) : ∀ k, Small (dia l k)
  | 0 => h
  | k + 1 => qr_small (dia_small h k) _ _ _ _
theorem dbl_small {l : List Nat} (h : Small l) : ∀ k, Small (dbl l k)
  | 0 => h
  | k + 1 => dia_small (col_small (dbl_small h k) 4) 4
/-- A double round as the reference writes it. -/
theorem dbl_step (l : List Nat) (n : Nat) : dbl l (n + 1) =
    qr (qr (qr (qr (qr (qr (qr (qr (dbl l n) 0 4 8 12) 1 5 9 13) 2 6 10 14) 3 7 11 15) 0 5 10 15) 1 6 11 12) 2 7 8 13) 3 4 9 14 := rfl
/-- The four cells' stores. -/
theorem qr_cells (l : List Nat) (i j k m a b c d : Nat) (ha : l.getD i 0 = a) (hb : l.getD j 0 = b) (hc : l.getD k 0 = c) (hd : l.getD m 0 = d) :
    ((((u32s l).setIfInBounds i (.int .u32 (qa2 a b c d : Nat))).setIfInBounds j (.int .u32 (qb2 a b c d : Nat))).setIfInBounds k (.int .u32 (qc2 a b c d : Nat))).setIfInBounds m (.int .u32 (qd2 a b c d : Nat)) = u32s (qr l i j k m) := by
  subst ha; subst hb; subst hc; subst hd
  rw [u32s_set, u32s_set, u32s_set, u32s_set]
  rfl
/-- The four bytes of a word, the lowest first. -/
def le4 (x : Nat) : List Nat := [x % 256, x / 256 % 256, x / 65536 % 256, x / 16777216 % 256]
def lw4 (l : List Nat) (i : Nat) : Nat := l.getD i 0 + l.getD (i + 1) 0 * 256 + l.getD (i + 2) 0 * 65536 + l.getD (i + 3) 0 * 16777216
/-- The sixteen words ahead of the rounds. -/
def chaW (key nonce : List Nat) (n : Nat) : List Nat :=
  [1634760805, 857760878, 2036477234, 1797285236, lw4 key 0, lw4 key 4, lw4 key 8, lw4 key 12, lw4 key 16, lw4 key 20, lw4 key 24, lw4 key 28, n % 4294967296, lw4 nonce 0, lw4 nonce 4, lw4 nonce 8]
theorem chaW_length (key nonce : List Nat) (n : Nat) : (chaW key nonce n).length = 16 := rfl
theorem chaW_key (key nonce : List Nat) (n k : Nat) (hk : k < 8) : (chaW key nonce n).getD (4 + k) 0 = lw4 key (4 * k) := by
  have : k = 0 ∨ k = 1 ∨ k = 2 ∨ k = 3 ∨ k = 4 ∨ k = 5 ∨ k = 6 ∨ k = 7 := by omega
  unfold chaW
  rcases this with h | h | h | h | h | h | h | h <;> (rw [h]; simp only [Nat.reduceAdd, Nat.reduceMul, List.getD_cons_succ, List.getD_cons_zero])
theorem chaW_count (key nonce : List Nat) (n : Nat) : (chaW key nonce n).getD 12 0 = n % 4294967296 := by
  unfold chaW
  simp only [List.getD_cons_succ, List.getD_cons_zero]
theorem chaW_nonce (key nonce : List Nat) (n k : Nat) (hk : k < 3) : (chaW key nonce n).getD (13 + k) 0 = lw4 nonce (4 * k) := by
  have : k = 0 ∨ k = 1 ∨ k = 2 := by omega
  unfold chaW
  rcases this with h | h | h <;> (rw [h]; simp only [Nat.reduceAdd, Nat.reduceMul, List.getD_cons_succ, List.getD_cons_zero])
def headL : List Nat := [101, 120, 112, 97, 110, 100, 32, 51, 50, 45, 98, 121, 116, 101, 32, 107]
theorem headL_lw : lw4 headL 0 = 1634760805 ∧ lw4 headL 4 = 857760878 ∧ lw4 headL 8 = 2036477234 ∧ lw4 headL 12 = 1797285236 := by decide +kernel
theorem chaW_head (key nonce : List Nat) (n k : Nat) (hk : k < 4) : (chaW key nonce n).getD k 0 = lw4 headL (4 * k) := by
  have : k = 0 ∨ k = 1 ∨ k = 2 ∨ k = 3 := by omega
  obtain ⟨h0, h1, h2, h3⟩ := headL_lw
  unfold chaW
  rcases this with h | h | h | h <;> (rw [h]; simp only [Nat.reduceMul, List.getD_cons_succ, List.getD_cons_zero]; first | exact h0.symm | exact h1.symm | exact h2.symm | exact h3.symm)
theorem lw4_lt (l : List Nat) (hb : ∀ i, l.getD i 0 < 256) (i : Nat) : lw4 l i < 4294967296 := by
  unfold lw4
  have := hb i
  have := hb (i + 1)
  have := hb (i + 2)
  have := hb (i + 3)
  omega
theorem chaW_small (a b : ByteArray) (n : Nat) : Small (chaW (bys a) (bys b) n) := by
  have hk := fun i => lw4_lt (bys a) (bys_lt a) i
  have hn := fun i => lw4_lt (bys b) (bys_lt b) i
  intro i
  unfold chaW
  rcases i with _ | _ | _ | _ | _ | _ | _ | _ | _ | _ | _ | _ | _ | _ | _ | _ | i <;> simp only [List.getD_cons_succ, List.getD_cons_zero, List.getD_nil] <;> first | exact hk _ | exact hn _ | exact Nat.mod_lt _ (by decide) | decide
/-- The 64 bytes of a counter. -/
def chaL (key nonce : List Nat) (n : Nat) : List Nat :=
  (List.range 16).flatMap fun k => le4 (((chaW key nonce n).getD k 0 + (dbl (chaW key nonce n) 10).getD k 0) % 4294967296)
theorem small_f (s : ByteArray) (hs : 4 ≤ s.size) : chacha_small.f s = some (lw4 (bys s) 0 : Nat) := by
  unfold chacha_small.f
  rw [if_pos (by omega), if_pos (by omega), if_pos (by omega), if_pos (by omega)]
  have h0 := bt_nat s 0 (by omega)
  have h1 := bt_nat s 1 (by omega)
  have h2 := bt_nat s 2 (by omega)
  have h3 := bt_nat s 3 (by omega)
  rw [show bt s 0 = ((bys s).getD 0 0 : Nat) from h0, show bt s 1 = ((bys s).getD 1 0 : Nat) from h1, show bt s 2 = ((bys s).getD 2 0 : Nat) from h2, show bt s 3 = ((bys s).getD 3 0 : Nat) from h3,
    or_be4 _ _ _ _ (bys_lt s 3) (bys_lt s 2) (bys_lt s 1) (bys_lt s 0)]
  unfold lw4
  simp only [Nat.zero_add]
  congr 2
  omega
theorem small_calls (s : ByteArray) (w : World) (hs : 4 ≤ s.size) : Calls Try.prog 74 #[.string s] w fun e w' => e = .returned (.int .u32 (lw4 (bys s) 0 : Nat)) ∧ ∃ n, w' = w.drewN n :=
  (chacha_small.calls s _ w (small_f s hs)).mono fun _ _ h => ⟨h.1, h.2.out⟩
theorem lw4_drop (l : List Nat) (i : Nat) : lw4 (l.drop i) 0 = lw4 l i := by
  unfold lw4
  simp only [List.getD_eq_getElem?_getD, List.getElem?_drop, Nat.zero_add, Nat.add_zero]
end Go.Proofs.Ytmablneefndedaa.Pr

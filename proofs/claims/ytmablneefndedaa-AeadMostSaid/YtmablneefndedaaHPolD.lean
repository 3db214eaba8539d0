/- poly's number as bytes: the walk. -/
import Derived.Test.YtmablneefndedaaHPolB
import Derived.Test.YtmablneefndedaaHTxtA
namespace Go.Proofs.Ytmablneefndedaa.Pr
open Go.RowKit Go.Deep Go.Proofs.YtmablneefndedaaW.PrintWords Go.Proofs.YtmablneefndedaaW.PrintLast Go.Proofs.YtmablneefndedaaW.PrintMore
set_option maxHeartbeats 2000000
set_option linter.unusedVariables false
set_option linter.unusedSimpArgs false
def cyT (V : Nat) (S : List Nat) : Nat → Nat
  | 0 => 0
  | k + 1 => (cyT V S k + (V / 256 ^ k % 256 + S.getD k 0)) / 256
def outT (V : Nat) (S : List Nat) (k : Nat) : List Nat := (List.range 16).map fun i => if i < k then (cyT V S i + (V / 256 ^ i % 256 + S.getD i 0)) % 256 else 0
theorem cyT_le (V : Nat) (S : List Nat) (hS : ∀ i, S.getD i 0 < 256) : ∀ k, cyT V S k ≤ 1
  | 0 => by simp [cyT]
  | k + 1 => by
    have := cyT_le V S hS k
    have := hS k
    have : V / 256 ^ k % 256 < 256 := Nat.mod_lt _ (by decide)
    simp only [cyT]
    omega
theorem outT_length (V : Nat) (S : List Nat) (k : Nat) : (outT V S k).length = 16 := by simp [outT]
theorem outT_zero (V : Nat) (S : List Nat) : outT V S 0 = List.replicate 16 0 := rfl
theorem outT_lt (V : Nat) (S : List Nat) (k : Nat) : ∀ x ∈ outT V S k, x < 256 := by
  intro x hx
  unfold outT at hx
  rw [List.mem_map] at hx
  obtain ⟨i, _, rfl⟩ := hx
  split
  · exact Nat.mod_lt _ (by decide)
  · decide
theorem outT_set (V : Nat) (S : List Nat) (k : Nat) (hk : k < 16) : (outT V S k).set k ((cyT V S k + (V / 256 ^ k % 256 + S.getD k 0)) % 256) = outT V S (k + 1) := by
  apply List.ext_getElem
  · simp [outT]
  · intro j h1 h2
    rw [List.getElem_set]
    simp only [outT, List.getElem_map, List.getElem_range]
    by_cases e : k = j
    · subst e; rw [if_pos rfl, if_pos (by omega)]
    · rw [if_neg e]
      by_cases h : j < k
      · rw [if_pos h, if_pos (by omega)]
      · rw [if_neg h, if_neg (by omega)]
theorem and255_64 (a : Nat) (ha : a < 18446744073709551616) : bits .and .u64 (a : Int) 255 = ((a % 256 : Nat) : Int) := by
  have := and64 a 255 ha (by decide)
  rw [show ((255 : Nat) : Int) = 255 from rfl] at this
  rw [this, show (255 : Nat) = 2 ^ 8 - 1 from rfl, Nat.and_two_pow_sub_one_eq_mod]
/-- Two limbs' bits side by side. -/
theorem bitx (c d p q i : Nat) (hq : q = 2 ^ i) (hpq : p * q = 67108864) (hc : c < 67108864) (hd : d < 67108864) :
    bits .and .u64 (bits .or .u64 ((c : Int) / (p : Int)) (IntKind.u64.wrap ((d : Int) * (q : Int)))) 255 = (((c / p + d * q) % 256 : Nat) : Int) := by
  have hp0 : 0 < p := Nat.pos_of_ne_zero (by rintro rfl; simp at hpq)
  have hq0 : 0 < q := Nat.pos_of_ne_zero (by rintro rfl; simp at hpq)
  have h1 : c / p < q := by
    rw [Nat.div_lt_iff_lt_mul hp0, Nat.mul_comm]; omega
  have hqM : q ≤ 67108864 := by
    rw [← hpq]; exact Nat.le_mul_of_pos_left q hp0
  have h2 : d * q ≤ 67108864 * 67108864 := Nat.mul_le_mul (Nat.le_of_lt hd) hqM
  have e1 : ((c : Int) / (p : Int)) = ((c / p : Nat) : Int) := by simp
  have e2 : (d : Int) * (q : Int) = ((d * q : Nat) : Int) := by simp
  rw [e2, wraps_u64 _ (Int.natCast_nonneg _) (by omega), e1, or64 _ _ (by omega) (by omega)]
  have h3 : c / p ||| d * q = c / p + d * q := by
    rw [Nat.or_comm, Nat.mul_comm d q, hq, ← Nat.two_pow_add_eq_or_of_lt (by rw [← hq]; exact h1) d, ← hq]
    omega
  rw [h3, and255_64 _ (by omega)]
theorem bitl (c p : Nat) (hp : 0 < p) (hc : c < 67108864) : bits .and .u64 ((c : Int) / (p : Int)) 255 = (((c / p) % 256 : Nat) : Int) := by
  have e1 : ((c : Int) / (p : Int)) = ((c / p : Nat) : Int) := by simp
  have : c / p ≤ c := Nat.div_le_self _ _
  rw [e1, and255_64 _ (by omega)]
theorem sum_w (x y c_ : Nat) (hx : x < 256) (hy : y < 256) (hc : c_ ≤ 1) : IntKind.u64.wrap ((c_ : Int) + IntKind.u64.wrap ((x : Int) + IntKind.u64.wrap (y : Int))) = ((c_ + (x + y) : Nat) : Int) := by
  rw [wraps_u64 (y : Int) (by omega) (by omega), wraps_u64 ((x : Int) + (y : Int)) (by omega) (by omega), wraps_u64 _ (by omega) (by omega)]
  omega
theorem dg_0 (a b c d e : Nat) (h0 : a < 67108864) (h1 : b < 67108864) (h2 : c < 67108864) (h3 : d < 67108864) (h4 : e < 67108864) : (a / 1 + b * 67108864) % 256 = lv [a, b, c, d, e] / 256 ^ 0 % 256 := by
  rw [show (256 : Nat) ^ 0 = 1 from rfl]
  simp only [lv]
  omega
theorem dg_1 (a b c d e : Nat) (h0 : a < 67108864) (h1 : b < 67108864) (h2 : c < 67108864) (h3 : d < 67108864) (h4 : e < 67108864) : (a / 256 + b * 262144) % 256 = lv [a, b, c, d, e] / 256 ^ 1 % 256 := by
  rw [show (256 : Nat) ^ 1 = 256 from rfl]
  simp only [lv]
  omega
theorem dg_2 (a b c d e : Nat) (h0 : a < 67108864) (h1 : b < 67108864) (h2 : c < 67108864) (h3 : d < 67108864) (h4 : e < 67108864) : (a / 65536 + b * 1024) % 256 = lv [a, b, c, d, e] / 256 ^ 2 % 256 := by
  rw [show (256 : Nat) ^ 2 = 65536 from rfl]
  simp only [lv]
  omega
theorem dg_3 (a b c d e : Nat) (h0 : a < 67108864) (h1 : b < 67108864) (h2 : c < 67108864) (h3 : d < 67108864) (h4 : e < 67108864) : (a / 16777216 + b * 4) % 256 = lv [a, b, c, d, e] / 256 ^ 3 % 256 := by
  rw [show (256 : Nat) ^ 3 = 16777216 from rfl]
  simp only [lv]
  omega
theorem dg_4 (a b c d e : Nat) (h0 : a < 67108864) (h1 : b < 67108864) (h2 : c < 67108864) (h3 : d < 67108864) (h4 : e < 67108864) : (b / 64 + c * 1048576) % 256 = lv [a, b, c, d, e] / 256 ^ 4 % 256 := by
  rw [show (256 : Nat) ^ 4 = 4294967296 from rfl]
  simp only [lv]
  omega
theorem dg_5 (a b c d e : Nat) (h0 : a < 67108864) (h1 : b < 67108864) (h2 : c < 67108864) (h3 : d < 67108864) (h4 : e < 67108864) : (b / 16384 + c * 4096) % 256 = lv [a, b, c, d, e] / 256 ^ 5 % 256 := by
  rw [show (256 : Nat) ^ 5 = 1099511627776 from rfl]
  simp only [lv]
  omega
theorem dg_6 (a b c d e : Nat) (h0 : a < 67108864) (h1 : b < 67108864) (h2 : c < 67108864) (h3 : d < 67108864) (h4 : e < 67108864) : (b / 4194304 + c * 16) % 256 = lv [a, b, c, d, e] / 256 ^ 6 % 256 := by
  rw [show (256 : Nat) ^ 6 = 281474976710656 from rfl]
  simp only [lv]
  omega
theorem dg_7 (a b c d e : Nat) (h0 : a < 67108864) (h1 : b < 67108864) (h2 : c < 67108864) (h3 : d < 67108864) (h4 : e < 67108864) : (c / 16 + d * 4194304) % 256 = lv [a, b, c, d, e] / 256 ^ 7 % 256 := by
  rw [show (256 : Nat) ^ 7 = 72057594037927936 from rfl]
  simp only [lv]
  omega
theorem dg_8 (a b c d e : Nat) (h0 : a < 67108864) (h1 : b < 67108864) (h2 : c < 67108864) (h3 : d < 67108864) (h4 : e < 67108864) : (c / 4096 + d * 16384) % 256 = lv [a, b, c, d, e] / 256 ^ 8 % 256 := by
  rw [show (256 : Nat) ^ 8 = 18446744073709551616 from rfl]
  simp only [lv]
  omega
theorem dg_9 (a b c d e : Nat) (h0 : a < 67108864) (h1 : b < 67108864) (h2 : c < 67108864) (h3 : d < 67108864) (h4 : e < 67108864) : (c / 1048576 + d * 64) % 256 = lv [a, b, c, d, e] / 256 ^ 9 % 256 := by
  rw [show (256 : Nat) ^ 9 = 4722366482869645213696 from rfl]
  simp only [lv]
  omega
theorem dg_10 (a b c d e : Nat) (h0 : a < 67108864) (h1 : b < 67108864) (h2 : c < 67108864) (h3 : d < 67108864) (h4 : e < 67108864) : (d / 4 + e * 16777216) % 256 = lv [a, b, c, d, e] / 256 ^ 10 % 256 := by
  rw [show (256 : Nat) ^ 10 = 1208925819614629174706176 from rfl]
  simp only [lv]
  omega
theorem dg_11 (a b c d e : Nat) (h0 : a < 67108864) (h1 : b < 67108864) (h2 : c < 67108864) (h3 : d < 67108864) (h4 : e < 67108864) : (d / 1024 + e * 65536) % 256 = lv [a, b, c, d, e] / 256 ^ 11 % 256 := by
  rw [show (256 : Nat) ^ 11 = 309485009821345068724781056 from rfl]
  simp only [lv]
  omega
theorem dg_12 (a b c d e : Nat) (h0 : a < 67108864) (h1 : b < 67108864) (h2 : c < 67108864) (h3 : d < 67108864) (h4 : e < 67108864) : (d / 262144 + e * 256) % 256 = lv [a, b, c, d, e] / 256 ^ 12 % 256 := by
  rw [show (256 : Nat) ^ 12 = 79228162514264337593543950336 from rfl]
  simp only [lv]
  omega
theorem dg_13 (a b c d e : Nat) (h0 : a < 67108864) (h1 : b < 67108864) (h2 : c < 67108864) (h3 : d < 67108864) (h4 : e < 67108864) : e / 1 % 256 = lv [a, b, c, d, e] / 256 ^ 13 % 256 := by
  rw [show (256 : Nat) ^ 13 = 20282409603651670423947251286016 from rfl]
  simp only [lv]
  omega
theorem dg_14 (a b c d e : Nat) (h0 : a < 67108864) (h1 : b < 67108864) (h2 : c < 67108864) (h3 : d < 67108864) (h4 : e < 67108864) : e / 256 % 256 = lv [a, b, c, d, e] / 256 ^ 14 % 256 := by
  rw [show (256 : Nat) ^ 14 = 5192296858534827628530496329220096 from rfl]
  simp only [lv]
  omega
theorem dg_15 (a b c d e : Nat) (h0 : a < 67108864) (h1 : b < 67108864) (h2 : c < 67108864) (h3 : d < 67108864) (h4 : e < 67108864) : e / 65536 % 256 = lv [a, b, c, d, e] / 256 ^ 15 % 256 := by
  rw [show (256 : Nat) ^ 15 = 1329227995784915872903807060280344576 from rfl]
  simp only [lv]
  omega
/-- The memory while the bytes are put out. -/
structure ND (w : World) (l o : List Nat) (W : World) : Prop where
  below : Below w.heap.size w W
  row : W.heap[w.heap.size]? = some (.cells (u64s l) 84 (0, 0))
  out : W.heap[w.heap.size + 1]? = some (.cells (u8s o) 108 (0, 0))
theorem ND.set {w W : World} {l o : List Nat} (h : ND w l o W) (k v : Nat) : ND w l (o.set k v) (W.setCell ⟨w.heap.size + 1, k, none⟩ (.int .u8 (v : Int))) :=
  ⟨below_set h.below (by omega), blk_far h.row (by simp) _, blk_put h.out k _ (u8s_set o k v)⟩
set_option maxRecDepth 100000 in
theorem number_bytes_calls (a b c d e : Nat) (s : ByteArray) (w : World) (h : Lim 67108864 [a, b, c, d, e]) (hs : 16 ≤ s.size) :
    Calls Try.prog 81 #[.agg (u64s [a, b, c, d, e]), .string s] w fun E w' => E = .returned (.string (txt (outT (lv [a, b, c, d, e]) (bys s) 16))) ∧ Below w.heap.size w w' := by
  have l0 : a < 67108864 := h.lt 0
  have l1 : b < 67108864 := h.lt 1
  have l2 : c < 67108864 := h.lt 2
  have l3 : d < 67108864 := h.lt 3
  have l4 : e < 67108864 := h.lt 4
  have D0 := Aside0.mk (dg_0 a b c d e l0 l1 l2 l3 l4)
  have D1 := Aside0.mk (dg_1 a b c d e l0 l1 l2 l3 l4)
  have D2 := Aside0.mk (dg_2 a b c d e l0 l1 l2 l3 l4)
  have D3 := Aside0.mk (dg_3 a b c d e l0 l1 l2 l3 l4)
  have D4 := Aside0.mk (dg_4 a b c d e l0 l1 l2 l3 l4)
  have D5 := Aside0.mk (dg_5 a b c d e l0 l1 l2 l3 l4)
  have D6 := Aside0.mk (dg_6 a b c d e l0 l1 l2 l3 l4)
  have D7 := Aside0.mk (dg_7 a b c d e l0 l1 l2 l3 l4)
  have D8 := Aside0.mk (dg_8 a b c d e l0 l1 l2 l3 l4)
  have D9 := Aside0.mk (dg_9 a b c d e l0 l1 l2 l3 l4)
  have D10 := Aside0.mk (dg_10 a b c d e l0 l1 l2 l3 l4)
  have D11 := Aside0.mk (dg_11 a b c d e l0 l1 l2 l3 l4)
  have D12 := Aside0.mk (dg_12 a b c d e l0 l1 l2 l3 l4)
  have D13 := Aside0.mk (dg_13 a b c d e l0 l1 l2 l3 l4)
  have D14 := Aside0.mk (dg_14 a b c d e l0 l1 l2 l3 l4)
  have D15 := Aside0.mk (dg_15 a b c d e l0 l1 l2 l3 l4)
  have LL := Aside0.mk (And.intro l0 (And.intro l1 (And.intro l2 (And.intro l3 l4))))
  clear h l0 l1 l2 l3 l4
  generalize hV : lv [a, b, c, d, e] = V at *
  have HV := Aside0.mk hV
  clear hV
  have HB := Aside0.mk (bys_lt s)
  have HC := Aside0.mk (cyT_le V (bys s) (bys_lt s))
  have HG : Aside0 (∀ i (hi : i < s.size), (s[i]'hi).toNat = (bys s).getD i 0) := ⟨fun i hi => by
    have hl : i < s.data.toList.length := by rw [data_length]; exact hi
    simp only [bys, List.getD_eq_getElem?_getD, List.getElem?_map, List.getElem?_eq_getElem hl, Option.map_some, Option.getD_some]
    rfl⟩
  go_enter Try.func81, Try.ntmps81
  go_wp2_with (fail)
  have H : Aside0 (ND w [a, b, c, d, e] (outT V (bys s) 0) ((w.alloc (.cells (u64s [a, b, c, d, e]) 84)).alloc (.cells (u8s (List.replicate 16 0)) 108))) := ⟨⟨below_alloc (below_alloc (Below.refl _ _) _) _, blk_alloc (blk_new _ _) _, by
    have := blk_new (w.alloc (.cells (u64s [a, b, c, d, e]) 84)) (.cells (u8s (List.replicate 16 0)) 108)
    rwa [show (w.alloc (.cells (u64s [a, b, c, d, e]) 84)).heap.size = w.heap.size + 1 by simp] at this⟩⟩
  go_loopw [6, 10] (fun cy i wr => ∃ k : Nat, k ≤ 16 ∧ i = .int .i64 k ∧ cy = .int .u64 (cyT V (bys s) k : Nat) ∧ Aside0 (ND w [a, b, c, d, e] (outT V (bys s) k) wr)) (fun _ i _ => 16 - (intOf i).toNat)
  case atStart => exact ⟨0, by omega, rfl, rfl, H⟩
  case round =>
    clear H
    obtain ⟨k, hk, rfl, rfl, H⟩ := hrel
    by_cases hlt : k < 16
    · have h0 : wr.cell? ⟨w.heap.size, 0, none⟩ = some (.int .u64 (a : Int)) := blk_cell H.out.row 0
      have h1 : wr.cell? ⟨w.heap.size, 1, none⟩ = some (.int .u64 (b : Int)) := blk_cell H.out.row 1
      have h2 : wr.cell? ⟨w.heap.size, 2, none⟩ = some (.int .u64 (c : Int)) := blk_cell H.out.row 2
      have h3 : wr.cell? ⟨w.heap.size, 3, none⟩ = some (.int .u64 (d : Int)) := blk_cell H.out.row 3
      have h4 : wr.cell? ⟨w.heap.size, 4, none⟩ = some (.int .u64 (e : Int)) := blk_cell H.out.row 4
      have h5 := (blk_cell H.out.out k).trans (u8s_get _ k (by rw [outT_length]; exact hlt))
      have h6 := blk_frozen H.out.out k
      generalize (outT V (bys s) k).getD k 0 = o at h5
      have HS := Aside0.mk (outT_set V (bys s) k hlt)
      have hy := HB.out k
      have hc := HC.out k
      have hn : cyT V (bys s) (k + 1) = (cyT V (bys s) k + (V / 256 ^ k % 256 + (bys s).getD k 0)) / 256 := rfl
      have hg := HG.out k (by omega)
      have hx : V / 256 ^ k % 256 < 256 := Nat.mod_lt _ (by decide)
      generalize hX : V / 256 ^ k % 256 = X at HS hn hx
      generalize (bys s).getD k 0 = y at HS hn hy hg
      generalize cyT V (bys s) k = cy at HS hn hc ⊢
      have HSUM := Aside0.mk (sum_w X y cy hx hy hc)
      have HX := Aside0.mk hX
      have HN := Aside0.mk hn
      have HGK := Aside0.mk hg
      clear hX hn hy hc hx hg
      have HK : Aside0 (k = 0 ∨ k = 1 ∨ k = 2 ∨ k = 3 ∨ k = 4 ∨ k = 5 ∨ k = 6 ∨ k = 7 ∨ k = 8 ∨ k = 9 ∨ k = 10 ∨ k = 11 ∨ k = 12 ∨ k = 13 ∨ k = 14 ∨ k = 15) := ⟨by omega⟩
      rcases HK.out with h | h | h | h | h | h | h | h | h | h | h | h | h | h | h | h
      · subst h
        have E : bits .and .u64 (bits .or .u64 (a : Int) (IntKind.u64.wrap ((b : Int) * 67108864))) 255 = (X : Int) := by
          have := bitx a b 1 67108864 26 rfl rfl LL.out.1 LL.out.2.1
          rw [show ((1 : Nat) : Int) = 1 from rfl, Int.ediv_one] at this
          rw [← HX.out, ← D0.out]
          exact this
        have HE := Aside0.mk E
        clear E HK
        rw [show ((0 : Nat) : Int) = 0 from rfl]
        go_wp2
        simp only [HGK.out]
        rw [HE.out, HSUM.out]
        refine ⟨⟨1, by omega, rfl, ?_, ?_⟩, by simp [intOf]⟩
        · rw [HN.out]; rfl
        · rw [← HS.out]
          exact ⟨H.out.set 0 _⟩
      · subst h
        have E : bits .and .u64 (bits .or .u64 ((a : Int) / 256) (IntKind.u64.wrap ((b : Int) * 262144))) 255 = (X : Int) := by
          have := bitx a b 256 262144 18 rfl rfl LL.out.1 LL.out.2.1
          skip
          rw [← HX.out, ← D1.out]
          exact this
        have HE := Aside0.mk E
        clear E HK
        rw [show ((1 : Nat) : Int) = 1 from rfl]
        go_wp2
        simp only [HGK.out]
        rw [HE.out, HSUM.out]
        refine ⟨⟨2, by omega, rfl, ?_, ?_⟩, by simp [intOf]⟩
        · rw [HN.out]; rfl
        · rw [← HS.out]
          exact ⟨H.out.set 1 _⟩
      · subst h
        have E : bits .and .u64 (bits .or .u64 ((a : Int) / 65536) (IntKind.u64.wrap ((b : Int) * 1024))) 255 = (X : Int) := by
          have := bitx a b 65536 1024 10 rfl rfl LL.out.1 LL.out.2.1
          skip
          rw [← HX.out, ← D2.out]
          exact this
        have HE := Aside0.mk E
        clear E HK
        rw [show ((2 : Nat) : Int) = 2 from rfl]
        go_wp2
        simp only [HGK.out]
        rw [HE.out, HSUM.out]
        refine ⟨⟨3, by omega, rfl, ?_, ?_⟩, by simp [intOf]⟩
        · rw [HN.out]; rfl
        · rw [← HS.out]
          exact ⟨H.out.set 2 _⟩
      · subst h
        have E : bits .and .u64 (bits .or .u64 ((a : Int) / 16777216) (IntKind.u64.wrap ((b : Int) * 4))) 255 = (X : Int) := by
          have := bitx a b 16777216 4 2 rfl rfl LL.out.1 LL.out.2.1
          skip
          rw [← HX.out, ← D3.out]
          exact this
        have HE := Aside0.mk E
        clear E HK
        rw [show ((3 : Nat) : Int) = 3 from rfl]
        go_wp2
        simp only [HGK.out]
        rw [HE.out, HSUM.out]
        refine ⟨⟨4, by omega, rfl, ?_, ?_⟩, by simp [intOf]⟩
        · rw [HN.out]; rfl
        · rw [← HS.out]
          exact ⟨H.out.set 3 _⟩
      · subst h
        have E : bits .and .u64 (bits .or .u64 ((b : Int) / 64) (IntKind.u64.wrap ((c : Int) * 1048576))) 255 = (X : Int) := by
          have := bitx b c 64 1048576 20 rfl rfl LL.out.2.1 LL.out.2.2.1
          skip
          rw [← HX.out, ← D4.out]
          exact this
        have HE := Aside0.mk E
        clear E HK
        rw [show ((4 : Nat) : Int) = 4 from rfl]
        go_wp2
        simp only [HGK.out]
        rw [HE.out, HSUM.out]
        refine ⟨⟨5, by omega, rfl, ?_, ?_⟩, by simp [intOf]⟩
        · rw [HN.out]; rfl
        · rw [← HS.out]
          exact ⟨H.out.set 4 _⟩
      · subst h
        have E : bits .and .u64 (bits .or .u64 ((b : Int) / 16384) (IntKind.u64.wrap ((c : Int) * 4096))) 255 = (X : Int) := by
          have := bitx b c 16384 4096 12 rfl rfl LL.out.2.1 LL.out.2.2.1
          skip
          rw [← HX.out, ← D5.out]
          exact this
        have HE := Aside0.mk E
        clear E HK
        rw [show ((5 : Nat) : Int) = 5 from rfl]
        go_wp2
        simp only [HGK.out]
        rw [HE.out, HSUM.out]
        refine ⟨⟨6, by omega, rfl, ?_, ?_⟩, by simp [intOf]⟩
        · rw [HN.out]; rfl
        · rw [← HS.out]
          exact ⟨H.out.set 5 _⟩
      · subst h
        have E : bits .and .u64 (bits .or .u64 ((b : Int) / 4194304) (IntKind.u64.wrap ((c : Int) * 16))) 255 = (X : Int) := by
          have := bitx b c 4194304 16 4 rfl rfl LL.out.2.1 LL.out.2.2.1
          skip
          rw [← HX.out, ← D6.out]
          exact this
        have HE := Aside0.mk E
        clear E HK
        rw [show ((6 : Nat) : Int) = 6 from rfl]
        go_wp2
        simp only [HGK.out]
        rw [HE.out, HSUM.out]
        refine ⟨⟨7, by omega, rfl, ?_, ?_⟩, by simp [intOf]⟩
        · rw [HN.out]; rfl
        · rw [← HS.out]
          exact ⟨H.out.set 6 _⟩
      · subst h
        have E : bits .and .u64 (bits .or .u64 ((c : Int) / 16) (IntKind.u64.wrap ((d : Int) * 4194304))) 255 = (X : Int) := by
          have := bitx c d 16 4194304 22 rfl rfl LL.out.2.2.1 LL.out.2.2.2.1
          skip
          rw [← HX.out, ← D7.out]
          exact this
        have HE := Aside0.mk E
        clear E HK
        rw [show ((7 : Nat) : Int) = 7 from rfl]
        go_wp2
        simp only [HGK.out]
        rw [HE.out, HSUM.out]
        refine ⟨⟨8, by omega, rfl, ?_, ?_⟩, by simp [intOf]⟩
        · rw [HN.out]; rfl
        · rw [← HS.out]
          exact ⟨H.out.set 7 _⟩
      · subst h
        have E : bits .and .u64 (bits .or .u64 ((c : Int) / 4096) (IntKind.u64.wrap ((d : Int) * 16384))) 255 = (X : Int) := by
          have := bitx c d 4096 16384 14 rfl rfl LL.out.2.2.1 LL.out.2.2.2.1
          skip
          rw [← HX.out, ← D8.out]
          exact this
        have HE := Aside0.mk E
        clear E HK
        rw [show ((8 : Nat) : Int) = 8 from rfl]
        go_wp2
        simp only [HGK.out]
        rw [HE.out, HSUM.out]
        refine ⟨⟨9, by omega, rfl, ?_, ?_⟩, by simp [intOf]⟩
        · rw [HN.out]; rfl
        · rw [← HS.out]
          exact ⟨H.out.set 8 _⟩
      · subst h
        have E : bits .and .u64 (bits .or .u64 ((c : Int) / 1048576) (IntKind.u64.wrap ((d : Int) * 64))) 255 = (X : Int) := by
          have := bitx c d 1048576 64 6 rfl rfl LL.out.2.2.1 LL.out.2.2.2.1
          skip
          rw [← HX.out, ← D9.out]
          exact this
        have HE := Aside0.mk E
        clear E HK
        rw [show ((9 : Nat) : Int) = 9 from rfl]
        go_wp2
        simp only [HGK.out]
        rw [HE.out, HSUM.out]
        refine ⟨⟨10, by omega, rfl, ?_, ?_⟩, by simp [intOf]⟩
        · rw [HN.out]; rfl
        · rw [← HS.out]
          exact ⟨H.out.set 9 _⟩
      · subst h
        have E : bits .and .u64 (bits .or .u64 ((d : Int) / 4) (IntKind.u64.wrap ((e : Int) * 16777216))) 255 = (X : Int) := by
          have := bitx d e 4 16777216 24 rfl rfl LL.out.2.2.2.1 LL.out.2.2.2.2
          skip
          rw [← HX.out, ← D10.out]
          exact this
        have HE := Aside0.mk E
        clear E HK
        rw [show ((10 : Nat) : Int) = 10 from rfl]
        go_wp2
        simp only [HGK.out]
        rw [HE.out, HSUM.out]
        refine ⟨⟨11, by omega, rfl, ?_, ?_⟩, by simp [intOf]⟩
        · rw [HN.out]; rfl
        · rw [← HS.out]
          exact ⟨H.out.set 10 _⟩
      · subst h
        have E : bits .and .u64 (bits .or .u64 ((d : Int) / 1024) (IntKind.u64.wrap ((e : Int) * 65536))) 255 = (X : Int) := by
          have := bitx d e 1024 65536 16 rfl rfl LL.out.2.2.2.1 LL.out.2.2.2.2
          skip
          rw [← HX.out, ← D11.out]
          exact this
        have HE := Aside0.mk E
        clear E HK
        rw [show ((11 : Nat) : Int) = 11 from rfl]
        go_wp2
        simp only [HGK.out]
        rw [HE.out, HSUM.out]
        refine ⟨⟨12, by omega, rfl, ?_, ?_⟩, by simp [intOf]⟩
        · rw [HN.out]; rfl
        · rw [← HS.out]
          exact ⟨H.out.set 11 _⟩
      · subst h
        have E : bits .and .u64 (bits .or .u64 ((d : Int) / 262144) (IntKind.u64.wrap ((e : Int) * 256))) 255 = (X : Int) := by
          have := bitx d e 262144 256 8 rfl rfl LL.out.2.2.2.1 LL.out.2.2.2.2
          skip
          rw [← HX.out, ← D12.out]
          exact this
        have HE := Aside0.mk E
        clear E HK
        rw [show ((12 : Nat) : Int) = 12 from rfl]
        go_wp2
        simp only [HGK.out]
        rw [HE.out, HSUM.out]
        refine ⟨⟨13, by omega, rfl, ?_, ?_⟩, by simp [intOf]⟩
        · rw [HN.out]; rfl
        · rw [← HS.out]
          exact ⟨H.out.set 12 _⟩
      · subst h
        have E : bits .and .u64 (e : Int) 255 = (X : Int) := by
          have := bitl e 1 (by decide) LL.out.2.2.2.2
          rw [show ((1 : Nat) : Int) = 1 from rfl, Int.ediv_one] at this
          rw [← HX.out, ← D13.out]
          exact this
        have HE := Aside0.mk E
        clear E HK
        rw [show ((13 : Nat) : Int) = 13 from rfl]
        go_wp2
        simp only [HGK.out]
        rw [HE.out, HSUM.out]
        refine ⟨⟨14, by omega, rfl, ?_, ?_⟩, by simp [intOf]⟩
        · rw [HN.out]; rfl
        · rw [← HS.out]
          exact ⟨H.out.set 13 _⟩
      · subst h
        have E : bits .and .u64 ((e : Int) / 256) 255 = (X : Int) := by
          have := bitl e 256 (by decide) LL.out.2.2.2.2
          skip
          rw [← HX.out, ← D14.out]
          exact this
        have HE := Aside0.mk E
        clear E HK
        rw [show ((14 : Nat) : Int) = 14 from rfl]
        go_wp2
        simp only [HGK.out]
        rw [HE.out, HSUM.out]
        refine ⟨⟨15, by omega, rfl, ?_, ?_⟩, by simp [intOf]⟩
        · rw [HN.out]; rfl
        · rw [← HS.out]
          exact ⟨H.out.set 14 _⟩
      · subst h
        have E : bits .and .u64 ((e : Int) / 65536) 255 = (X : Int) := by
          have := bitl e 65536 (by decide) LL.out.2.2.2.2
          skip
          rw [← HX.out, ← D15.out]
          exact this
        have HE := Aside0.mk E
        clear E HK
        rw [show ((15 : Nat) : Int) = 15 from rfl]
        go_wp2
        simp only [HGK.out]
        rw [HE.out, HSUM.out]
        refine ⟨⟨16, by omega, rfl, ?_, ?_⟩, by simp [intOf]⟩
        · rw [HN.out]; rfl
        · rw [← HS.out]
          exact ⟨H.out.set 15 _⟩
    · obtain rfl : k = 16 := by omega
      clear hlt hk
      rw [show ((16 : Nat) : Int) = 16 from rfl]
      have HOl := Aside0.mk (outT_length V (bys s) 16)
      generalize hO : outT V (bys s) 16 = O at *
      have HO := Aside0.mk hO
      clear hO
      have hcv := conv_u8s wr 28 9 5 108 (w.heap.size + 1) O 16 Try.underlying28 Try.underlying5 Try.underlying9 H.out.out HOl.out 16
      go_wp2
      go_ret
      exact ⟨by first | (rw [HO.out]; done) | (rw [HO.out]; rfl), H.out.below⟩
end Go.Proofs.Ytmablneefndedaa.Pr

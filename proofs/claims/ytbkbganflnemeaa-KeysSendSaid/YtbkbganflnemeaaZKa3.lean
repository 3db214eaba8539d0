/- Joined texts (pack.py): what the statement's proof needs, part a3. No condition. -/
import Derived.Below
import Derived.Deep.Draws
import Derived.Deep.AppendLies
import Derived.Maps.AppendAt
import Derived.OwnWalk
import Derived.Laws.BytesArg
import Derived.Laws.MakeOwn
import Derived.Laws.OwnMore
import Derived.Deep.OwnRows
import Derived.Tactics
import Derived.Lib.ConvBytes
import Derived.Laws.Slices
import Derived.WalkKit
import Derived.KernelRfl
import Derived.RowKit3
import Derived.Deep.LoopGhost
import Derived.Deep.QuietTactic
import Derived.BigQuiet
import Derived.WideLaws
import Derived.Deep.DeepCutAuto
import Derived.Deep.CutBlock
import Derived.Deep.RegionHeld3
import Derived.Laws.Rows
import Derived.Lib.AppendStr
import Derived.ArgAppend
import Derived.Laws.IdiomCopy
import Derived.RowKit
import Derived.OrdersHeld
import Derived.Laws.BitsLemmas
import Derived.Laws.StructEq
import Derived.Test.YtbkbganflnemeaaProg
import Derived.Shelf.Strings.Builder1
import Derived.Shelf.Strings.Builder2
import Derived.Shelf.Strings.OnBuilder
import Derived.Shelf.Strings.BuilderF
import Derived.Shelf.Strings.Prefix
import Derived.Shelf.Bits.Mul64
import Derived.Shelf.Strings.Repeat
import Derived.Deep.RegionLaw
import Derived.StillTailTactics
import Derived.Deep.Light
import Derived.Deep.RegionHeldLaw
import Derived.Deep.DrawnRows
import Derived.IntWalk
import Derived.Deep.WholeRow
import Derived.Laws.CopyOwn
import Derived.Test.YtbkbganflnemeaaRows
import Derived.ProofKit
import Derived.OpenShut
import Derived.ShutString
import Derived.ChangeOld
import Derived.SizedLaws
import Derived.ChangeKeysEq
import Derived.Test.YtbkbganflnemeaaZKa1
import Derived.Test.YtbkbganflnemeaaZKa2
section
namespace Go.Proofs.Ytbkbganflnemeaa.Pr
open Go.RowKit Go.Deep Go.Proofs.YtbkbganflnemeaaW.PrintWords Go.Proofs.YtbkbganflnemeaaW.PrintLast Go.Proofs.YtbkbganflnemeaaW.PrintMore
set_option maxHeartbeats 2000000
set_option linter.unusedVariables false
set_option linter.unusedSimpArgs false
def cyT (V : Nat) (S : List Nat) : Nat → Nat
  | 0 => 0
  | k + 1 => (cyT V S k + (V / 256 ^ k % 256 + S.getD k 0)) / 256
def outT (V : Nat) (S : List Nat) (k : Nat) : List Nat := (List.range 16).map fun i => if i < k then (cyT V S i + (V / 256 ^ i % 256 + S.getD i 0)) % 256 else 0
theorem cyT_le (V : Nat) (S : List Nat) (hS : ∀ i, S.getD i 0 < 256) : ∀ k, cyT V S k ≤ 1
  | 0 => by simp [cyT]
  | k + 1 => by
    have := cyT_le V S hS k
    have := hS k
    have : V / 256 ^ k % 256 < 256 := Nat.mod_lt _ (by decide)
    simp only [cyT]
    omega
theorem outT_length (V : Nat) (S : List Nat) (k : Nat) : (outT V S k).length = 16 := by simp [outT]
theorem outT_lt (V : Nat) (S : List Nat) (k : Nat) : ∀ x ∈ outT V S k, x < 256 := by
  intro x hx
  unfold outT at hx
  rw [List.mem_map] at hx
  obtain ⟨i, _, rfl⟩ := hx
  split
  · exact Nat.mod_lt _ (by decide)
  · decide
theorem outT_set (V : Nat) (S : List Nat) (k : Nat) (hk : k < 16) : (outT V S k).set k ((cyT V S k + (V / 256 ^ k % 256 + S.getD k 0)) % 256) = outT V S (k + 1) := by
  apply List.ext_getElem
  · simp [outT]
  · intro j h1 h2
    rw [List.getElem_set]
    simp only [outT, List.getElem_map, List.getElem_range]
    by_cases e : k = j
    · subst e; rw [if_pos rfl, if_pos (by omega)]
    · rw [if_neg e]
      by_cases h : j < k
      · rw [if_pos h, if_pos (by omega)]
      · rw [if_neg h, if_neg (by omega)]
theorem and255_64 (a : Nat) (ha : a < 18446744073709551616) : bits .and .u64 (a : Int) 255 = ((a % 256 : Nat) : Int) := by
  have := and64 a 255 ha (by decide)
  rw [show ((255 : Nat) : Int) = 255 from rfl] at this
  rw [this, show (255 : Nat) = 2 ^ 8 - 1 from rfl, Nat.and_two_pow_sub_one_eq_mod]
theorem bitx (c d p q i : Nat) (hq : q = 2 ^ i) (hpq : p * q = 67108864) (hc : c < 67108864) (hd : d < 67108864) :
    bits .and .u64 (bits .or .u64 ((c : Int) / (p : Int)) (IntKind.u64.wrap ((d : Int) * (q : Int)))) 255 = (((c / p + d * q) % 256 : Nat) : Int) := by
  have hp0 : 0 < p := Nat.pos_of_ne_zero (by rintro rfl; simp at hpq)
  have hq0 : 0 < q := Nat.pos_of_ne_zero (by rintro rfl; simp at hpq)
  have h1 : c / p < q := by
    rw [Nat.div_lt_iff_lt_mul hp0, Nat.mul_comm]; omega
  have hqM : q ≤ 67108864 := by
    rw [← hpq]; exact Nat.le_mul_of_pos_left q hp0
  have h2 : d * q ≤ 67108864 * 67108864 := Nat.mul_le_mul (Nat.le_of_lt hd) hqM
  have e1 : ((c : Int) / (p : Int)) = ((c / p : Nat) : Int) := by simp
  have e2 : (d : Int) * (q : Int) = ((d * q : Nat) : Int) := by simp
  rw [e2, wraps_u64 _ (Int.natCast_nonneg _) (by omega), e1, or64 _ _ (by omega) (by omega)]
  have h3 : c / p ||| d * q = c / p + d * q := by
    rw [Nat.or_comm, Nat.mul_comm d q, hq, ← Nat.two_pow_add_eq_or_of_lt (by rw [← hq]; exact h1) d, ← hq]
    omega
  rw [h3, and255_64 _ (by omega)]
theorem bitl (c p : Nat) (hp : 0 < p) (hc : c < 67108864) : bits .and .u64 ((c : Int) / (p : Int)) 255 = (((c / p) % 256 : Nat) : Int) := by
  have e1 : ((c : Int) / (p : Int)) = ((c / p : Nat) : Int) := by simp
  have : c / p ≤ c := Nat.div_le_self _ _
  rw [e1, and255_64 _ (by omega)]
theorem sum_w (x y c_ : Nat) (hx : x < 256) (hy : y < 256) (hc : c_ ≤ 1) : IntKind.u64.wrap ((c_ : Int) + IntKind.u64.wrap ((x : Int) + IntKind.u64.wrap (y : Int))) = ((c_ + (x + y) : Nat) : Int) := by
  rw [wraps_u64 (y : Int) (by omega) (by omega), wraps_u64 ((x : Int) + (y : Int)) (by omega) (by omega), wraps_u64 _ (by omega) (by omega)]
  omega
theorem dg_0 (a b c d e : Nat) (h0 : a < 67108864) (h1 : b < 67108864) (h2 : c < 67108864) (h3 : d < 67108864) (h4 : e < 67108864) : (a / 1 + b * 67108864) % 256 = lv [a, b, c, d, e] / 256 ^ 0 % 256 := by
  rw [show (256 : Nat) ^ 0 = 1 from rfl]
  simp only [lv]
  omega
theorem dg_1 (a b c d e : Nat) (h0 : a < 67108864) (h1 : b < 67108864) (h2 : c < 67108864) (h3 : d < 67108864) (h4 : e < 67108864) : (a / 256 + b * 262144) % 256 = lv [a, b, c, d, e] / 256 ^ 1 % 256 := by
  rw [show (256 : Nat) ^ 1 = 256 from rfl]
  simp only [lv]
  omega
theorem dg_2 (a b c d e : Nat) (h0 : a < 67108864) (h1 : b < 67108864) (h2 : c < 67108864) (h3 : d < 67108864) (h4 : e < 67108864) : (a / 65536 + b * 1024) % 256 = lv [a, b, c, d, e] / 256 ^ 2 % 256 := by
  rw [show (256 : Nat) ^ 2 = 65536 from rfl]
  simp only [lv]
  omega
theorem dg_3 (a b c d e : Nat) (h0 : a < 67108864) (h1 : b < 67108864) (h2 : c < 67108864) (h3 : d < 67108864) (h4 : e < 67108864) : (a / 16777216 + b * 4) % 256 = lv [a, b, c, d, e] / 256 ^ 3 % 256 := by
  rw [show (256 : Nat) ^ 3 = 16777216 from rfl]
  simp only [lv]
  omega
theorem dg_4 (a b c d e : Nat) (h0 : a < 67108864) (h1 : b < 67108864) (h2 : c < 67108864) (h3 : d < 67108864) (h4 : e < 67108864) : (b / 64 + c * 1048576) % 256 = lv [a, b, c, d, e] / 256 ^ 4 % 256 := by
  rw [show (256 : Nat) ^ 4 = 4294967296 from rfl]
  simp only [lv]
  omega
theorem dg_5 (a b c d e : Nat) (h0 : a < 67108864) (h1 : b < 67108864) (h2 : c < 67108864) (h3 : d < 67108864) (h4 : e < 67108864) : (b / 16384 + c * 4096) % 256 = lv [a, b, c, d, e] / 256 ^ 5 % 256 := by
  rw [show (256 : Nat) ^ 5 = 1099511627776 from rfl]
  simp only [lv]
  omega
theorem dg_6 (a b c d e : Nat) (h0 : a < 67108864) (h1 : b < 67108864) (h2 : c < 67108864) (h3 : d < 67108864) (h4 : e < 67108864) : (b / 4194304 + c * 16) % 256 = lv [a, b, c, d, e] / 256 ^ 6 % 256 := by
  rw [show (256 : Nat) ^ 6 = 281474976710656 from rfl]
  simp only [lv]
  omega
theorem dg_7 (a b c d e : Nat) (h0 : a < 67108864) (h1 : b < 67108864) (h2 : c < 67108864) (h3 : d < 67108864) (h4 : e < 67108864) : (c / 16 + d * 4194304) % 256 = lv [a, b, c, d, e] / 256 ^ 7 % 256 := by
  rw [show (256 : Nat) ^ 7 = 72057594037927936 from rfl]
  simp only [lv]
  omega
theorem dg_8 (a b c d e : Nat) (h0 : a < 67108864) (h1 : b < 67108864) (h2 : c < 67108864) (h3 : d < 67108864) (h4 : e < 67108864) : (c / 4096 + d * 16384) % 256 = lv [a, b, c, d, e] / 256 ^ 8 % 256 := by
  rw [show (256 : Nat) ^ 8 = 18446744073709551616 from rfl]
  simp only [lv]
  omega
theorem dg_9 (a b c d e : Nat) (h0 : a < 67108864) (h1 : b < 67108864) (h2 : c < 67108864) (h3 : d < 67108864) (h4 : e < 67108864) : (c / 1048576 + d * 64) % 256 = lv [a, b, c, d, e] / 256 ^ 9 % 256 := by
  rw [show (256 : Nat) ^ 9 = 4722366482869645213696 from rfl]
  simp only [lv]
  omega
theorem dg_10 (a b c d e : Nat) (h0 : a < 67108864) (h1 : b < 67108864) (h2 : c < 67108864) (h3 : d < 67108864) (h4 : e < 67108864) : (d / 4 + e * 16777216) % 256 = lv [a, b, c, d, e] / 256 ^ 10 % 256 := by
  rw [show (256 : Nat) ^ 10 = 1208925819614629174706176 from rfl]
  simp only [lv]
  omega
theorem dg_11 (a b c d e : Nat) (h0 : a < 67108864) (h1 : b < 67108864) (h2 : c < 67108864) (h3 : d < 67108864) (h4 : e < 67108864) : (d / 1024 + e * 65536) % 256 = lv [a, b, c, d, e] / 256 ^ 11 % 256 := by
  rw [show (256 : Nat) ^ 11 = 309485009821345068724781056 from rfl]
  simp only [lv]
  omega
theorem dg_12 (a b c d e : Nat) (h0 : a < 67108864) (h1 : b < 67108864) (h2 : c < 67108864) (h3 : d < 67108864) (h4 : e < 67108864) : (d / 262144 + e * 256) % 256 = lv [a, b, c, d, e] / 256 ^ 12 % 256 := by
  rw [show (256 : Nat) ^ 12 = 79228162514264337593543950336 from rfl]
  simp only [lv]
  omega
theorem dg_13 (a b c d e : Nat) (h0 : a < 67108864) (h1 : b < 67108864) (h2 : c < 67108864) (h3 : d < 67108864) (h4 : e < 67108864) : e / 1 % 256 = lv [a, b, c, d, e] / 256 ^ 13 % 256 := by
  rw [show (256 : Nat) ^ 13 = 20282409603651670423947251286016 from rfl]
  simp only [lv]
  omega
theorem dg_14 (a b c d e : Nat) (h0 : a < 67108864) (h1 : b < 67108864) (h2 : c < 67108864) (h3 : d < 67108864) (h4 : e < 67108864) : e / 256 % 256 = lv [a, b, c, d, e] / 256 ^ 14 % 256 := by
  rw [show (256 : Nat) ^ 14 = 5192296858534827628530496329220096 from rfl]
  simp only [lv]
  omega
theorem dg_15 (a b c d e : Nat) (h0 : a < 67108864) (h1 : b < 67108864) (h2 : c < 67108864) (h3 : d < 67108864) (h4 : e < 67108864) : e / 65536 % 256 = lv [a, b, c, d, e] / 256 ^ 15 % 256 := by
  rw [show (256 : Nat) ^ 15 = 1329227995784915872903807060280344576 from rfl]
  simp only [lv]
  omega
structure ND (w : World) (l o : List Nat) (W : World) : Prop where
  below : Below w.heap.size w W
  row : W.heap[w.heap.size]? = some (.cells (u64s l) 159 (0, 0))
  out : W.heap[w.heap.size + 1]? = some (.cells (u8s o) 184 (0, 0))
theorem ND.set {w W : World} {l o : List Nat} (h : ND w l o W) (k v : Nat) : ND w l (o.set k v) (W.setCell ⟨w.heap.size + 1, k, none⟩ (.int .u8 (v : Int))) :=
  ⟨below_set h.below (by omega), blk_far h.row (by simp) _, blk_put h.out k _ (u8s_set o k v)⟩
set_option maxRecDepth 100000 in
theorem number_bytes_calls (a b c d e : Nat) (s : ByteArray) (w : World) (h : Lim 67108864 [a, b, c, d, e]) (hs : 16 ≤ s.size) :
    Calls Try.prog 135 #[.agg (u64s [a, b, c, d, e]), .string s] w fun E w' => E = .returned (.string (txt (outT (lv [a, b, c, d, e]) (bys s) 16))) ∧ Below w.heap.size w w' := by
  have l0 : a < 67108864 := h.lt 0
  have l1 : b < 67108864 := h.lt 1
  have l2 : c < 67108864 := h.lt 2
  have l3 : d < 67108864 := h.lt 3
  have l4 : e < 67108864 := h.lt 4
  have D0 := Aside0.mk (dg_0 a b c d e l0 l1 l2 l3 l4)
  have D1 := Aside0.mk (dg_1 a b c d e l0 l1 l2 l3 l4)
  have D2 := Aside0.mk (dg_2 a b c d e l0 l1 l2 l3 l4)
  have D3 := Aside0.mk (dg_3 a b c d e l0 l1 l2 l3 l4)
  have D4 := Aside0.mk (dg_4 a b c d e l0 l1 l2 l3 l4)
  have D5 := Aside0.mk (dg_5 a b c d e l0 l1 l2 l3 l4)
  have D6 := Aside0.mk (dg_6 a b c d e l0 l1 l2 l3 l4)
  have D7 := Aside0.mk (dg_7 a b c d e l0 l1 l2 l3 l4)
  have D8 := Aside0.mk (dg_8 a b c d e l0 l1 l2 l3 l4)
  have D9 := Aside0.mk (dg_9 a b c d e l0 l1 l2 l3 l4)
  have D10 := Aside0.mk (dg_10 a b c d e l0 l1 l2 l3 l4)
  have D11 := Aside0.mk (dg_11 a b c d e l0 l1 l2 l3 l4)
  have D12 := Aside0.mk (dg_12 a b c d e l0 l1 l2 l3 l4)
  have D13 := Aside0.mk (dg_13 a b c d e l0 l1 l2 l3 l4)
  have D14 := Aside0.mk (dg_14 a b c d e l0 l1 l2 l3 l4)
  have D15 := Aside0.mk (dg_15 a b c d e l0 l1 l2 l3 l4)
  have LL := Aside0.mk (And.intro l0 (And.intro l1 (And.intro l2 (And.intro l3 l4))))
  clear h l0 l1 l2 l3 l4
  generalize hV : lv [a, b, c, d, e] = V at *
  have HV := Aside0.mk hV
  clear hV
  have HB := Aside0.mk (bys_lt s)
  have HC := Aside0.mk (cyT_le V (bys s) (bys_lt s))
  have HG : Aside0 (∀ i (hi : i < s.size), (s[i]'hi).toNat = (bys s).getD i 0) := ⟨fun i hi => by
    have hl : i < s.data.toList.length := by rw [data_length]; exact hi
    simp only [bys, List.getD_eq_getElem?_getD, List.getElem?_map, List.getElem?_eq_getElem hl, Option.map_some, Option.getD_some]
    rfl⟩
  go_enter Try.func135, Try.ntmps135
  go_wp2_with (fail)
  have H : Aside0 (ND w [a, b, c, d, e] (outT V (bys s) 0) ((w.alloc (.cells (u64s [a, b, c, d, e]) 159)).alloc (.cells (u8s (List.replicate 16 0)) 184))) := ⟨⟨below_alloc (below_alloc (Below.refl _ _) _) _, blk_alloc (blk_new _ _) _, by
    have := blk_new (w.alloc (.cells (u64s [a, b, c, d, e]) 159)) (.cells (u8s (List.replicate 16 0)) 184)
    rwa [show (w.alloc (.cells (u64s [a, b, c, d, e]) 159)).heap.size = w.heap.size + 1 by simp] at this⟩⟩
  go_loopw [6, 10] (fun cy i wr => ∃ k : Nat, k ≤ 16 ∧ i = .int .i64 k ∧ cy = .int .u64 (cyT V (bys s) k : Nat) ∧ Aside0 (ND w [a, b, c, d, e] (outT V (bys s) k) wr)) (fun _ i _ => 16 - (intOf i).toNat)
  case atStart => exact ⟨0, by omega, rfl, rfl, H⟩
  case round =>
    clear H
    obtain ⟨k, hk, rfl, rfl, H⟩ := hrel
    by_cases hlt : k < 16
    · have h0 : wr.cell? ⟨w.heap.size, 0, none⟩ = some (.int .u64 (a : Int)) := blk_cell H.out.row 0
      have h1 : wr.cell? ⟨w.heap.size, 1, none⟩ = some (.int .u64 (b : Int)) := blk_cell H.out.row 1
      have h2 : wr.cell? ⟨w.heap.size, 2, none⟩ = some (.int .u64 (c : Int)) := blk_cell H.out.row 2
      have h3 : wr.cell? ⟨w.heap.size, 3, none⟩ = some (.int .u64 (d : Int)) := blk_cell H.out.row 3
      have h4 : wr.cell? ⟨w.heap.size, 4, none⟩ = some (.int .u64 (e : Int)) := blk_cell H.out.row 4
      have h5 := (blk_cell H.out.out k).trans (u8s_get _ k (by rw [outT_length]; exact hlt))
      have h6 := blk_frozen H.out.out k
      generalize (outT V (bys s) k).getD k 0 = o at h5
      have HS := Aside0.mk (outT_set V (bys s) k hlt)
      have hy := HB.out k
      have hc := HC.out k
      have hn : cyT V (bys s) (k + 1) = (cyT V (bys s) k + (V / 256 ^ k % 256 + (bys s).getD k 0)) / 256 := rfl
      have hg := HG.out k (by omega)
      have hx : V / 256 ^ k % 256 < 256 := Nat.mod_lt _ (by decide)
      generalize hX : V / 256 ^ k % 256 = X at HS hn hx
      generalize (bys s).getD k 0 = y at HS hn hy hg
      generalize cyT V (bys s) k = cy at HS hn hc ⊢
      have HSUM := Aside0.mk (sum_w X y cy hx hy hc)
      have HX := Aside0.mk hX
      have HN := Aside0.mk hn
      have HGK := Aside0.mk hg
      clear hX hn hy hc hx hg
      have HK : Aside0 (k = 0 ∨ k = 1 ∨ k = 2 ∨ k = 3 ∨ k = 4 ∨ k = 5 ∨ k = 6 ∨ k = 7 ∨ k = 8 ∨ k = 9 ∨ k = 10 ∨ k = 11 ∨ k = 12 ∨ k = 13 ∨ k = 14 ∨ k = 15) := ⟨by omega⟩
      rcases HK.out with h | h | h | h | h | h | h | h | h | h | h | h | h | h | h | h
      · subst h
        have E : bits .and .u64 (bits .or .u64 (a : Int) (IntKind.u64.wrap ((b : Int) * 67108864))) 255 = (X : Int) := by
          have := bitx a b 1 67108864 26 rfl rfl LL.out.1 LL.out.2.1
          rw [show ((1 : Nat) : Int) = 1 from rfl, Int.ediv_one] at this
          rw [← HX.out, ← D0.out]
          exact this
        have HE := Aside0.mk E
        clear E HK
        rw [show ((0 : Nat) : Int) = 0 from rfl]
        go_wp2
        simp only [HGK.out]
        rw [HE.out, HSUM.out]
        refine ⟨⟨1, by omega, rfl, ?_, ?_⟩, by simp [intOf]⟩
        · rw [HN.out]; rfl
        · rw [← HS.out]
          exact ⟨H.out.set 0 _⟩
      · subst h
        have E : bits .and .u64 (bits .or .u64 ((a : Int) / 256) (IntKind.u64.wrap ((b : Int) * 262144))) 255 = (X : Int) := by
          have := bitx a b 256 262144 18 rfl rfl LL.out.1 LL.out.2.1
          skip
          rw [← HX.out, ← D1.out]
          exact this
        have HE := Aside0.mk E
        clear E HK
        rw [show ((1 : Nat) : Int) = 1 from rfl]
        go_wp2
        simp only [HGK.out]
        rw [HE.out, HSUM.out]
        refine ⟨⟨2, by omega, rfl, ?_, ?_⟩, by simp [intOf]⟩
        · rw [HN.out]; rfl
        · rw [← HS.out]
          exact ⟨H.out.set 1 _⟩
      · subst h
        have E : bits .and .u64 (bits .or .u64 ((a : Int) / 65536) (IntKind.u64.wrap ((b : Int) * 1024))) 255 = (X : Int) := by
          have := bitx a b 65536 1024 10 rfl rfl LL.out.1 LL.out.2.1
          skip
          rw [← HX.out, ← D2.out]
          exact this
        have HE := Aside0.mk E
        clear E HK
        rw [show ((2 : Nat) : Int) = 2 from rfl]
        go_wp2
        simp only [HGK.out]
        rw [HE.out, HSUM.out]
        refine ⟨⟨3, by omega, rfl, ?_, ?_⟩, by simp [intOf]⟩
        · rw [HN.out]; rfl
        · rw [← HS.out]
          exact ⟨H.out.set 2 _⟩
      · subst h
        have E : bits .and .u64 (bits .or .u64 ((a : Int) / 16777216) (IntKind.u64.wrap ((b : Int) * 4))) 255 = (X : Int) := by
          have := bitx a b 16777216 4 2 rfl rfl LL.out.1 LL.out.2.1
          skip
          rw [← HX.out, ← D3.out]
          exact this
        have HE := Aside0.mk E
        clear E HK
        rw [show ((3 : Nat) : Int) = 3 from rfl]
        go_wp2
        simp only [HGK.out]
        rw [HE.out, HSUM.out]
        refine ⟨⟨4, by omega, rfl, ?_, ?_⟩, by simp [intOf]⟩
        · rw [HN.out]; rfl
        · rw [← HS.out]
          exact ⟨H.out.set 3 _⟩
      · subst h
        have E : bits .and .u64 (bits .or .u64 ((b : Int) / 64) (IntKind.u64.wrap ((c : Int) * 1048576))) 255 = (X : Int) := by
          have := bitx b c 64 1048576 20 rfl rfl LL.out.2.1 LL.out.2.2.1
          skip
          rw [← HX.out, ← D4.out]
          exact this
        have HE := Aside0.mk E
        clear E HK
        rw [show ((4 : Nat) : Int) = 4 from rfl]
        go_wp2
        simp only [HGK.out]
        rw [HE.out, HSUM.out]
        refine ⟨⟨5, by omega, rfl, ?_, ?_⟩, by simp [intOf]⟩
        · rw [HN.out]; rfl
        · rw [← HS.out]
          exact ⟨H.out.set 4 _⟩
      · subst h
        have E : bits .and .u64 (bits .or .u64 ((b : Int) / 16384) (IntKind.u64.wrap ((c : Int) * 4096))) 255 = (X : Int) := by
          have := bitx b c 16384 4096 12 rfl rfl LL.out.2.1 LL.out.2.2.1
          skip
          rw [← HX.out, ← D5.out]
          exact this
        have HE := Aside0.mk E
        clear E HK
        rw [show ((5 : Nat) : Int) = 5 from rfl]
        go_wp2
        simp only [HGK.out]
        rw [HE.out, HSUM.out]
        refine ⟨⟨6, by omega, rfl, ?_, ?_⟩, by simp [intOf]⟩
        · rw [HN.out]; rfl
        · rw [← HS.out]
          exact ⟨H.out.set 5 _⟩
      · subst h
        have E : bits .and .u64 (bits .or .u64 ((b : Int) / 4194304) (IntKind.u64.wrap ((c : Int) * 16))) 255 = (X : Int) := by
          have := bitx b c 4194304 16 4 rfl rfl LL.out.2.1 LL.out.2.2.1
          skip
          rw [← HX.out, ← D6.out]
          exact this
        have HE := Aside0.mk E
        clear E HK
        rw [show ((6 : Nat) : Int) = 6 from rfl]
        go_wp2
        simp only [HGK.out]
        rw [HE.out, HSUM.out]
        refine ⟨⟨7, by omega, rfl, ?_, ?_⟩, by simp [intOf]⟩
        · rw [HN.out]; rfl
        · rw [← HS.out]
          exact ⟨H.out.set 6 _⟩
      · subst h
        have E : bits .and .u64 (bits .or .u64 ((c : Int) / 16) (IntKind.u64.wrap ((d : Int) * 4194304))) 255 = (X : Int) := by
          have := bitx c d 16 4194304 22 rfl rfl LL.out.2.2.1 LL.out.2.2.2.1
          skip
          rw [← HX.out, ← D7.out]
          exact this
        have HE := Aside0.mk E
        clear E HK
        rw [show ((7 : Nat) : Int) = 7 from rfl]
        go_wp2
        simp only [HGK.out]
        rw [HE.out, HSUM.out]
        refine ⟨⟨8, by omega, rfl, ?_, ?_⟩, by simp [intOf]⟩
        · rw [HN.out]; rfl
        · rw [← HS.out]
          exact ⟨H.out.set 7 _⟩
      · subst h
        have E : bits .and .u64 (bits .or .u64 ((c : Int) / 4096) (IntKind.u64.wrap ((d : Int) * 16384))) 255 = (X : Int) := by
          have := bitx c d 4096 16384 14 rfl rfl LL.out.2.2.1 LL.out.2.2.2.1
          skip
          rw [← HX.out, ← D8.out]
          exact this
        have HE := Aside0.mk E
        clear E HK
        rw [show ((8 : Nat) : Int) = 8 from rfl]
        go_wp2
        simp only [HGK.out]
        rw [HE.out, HSUM.out]
        refine ⟨⟨9, by omega, rfl, ?_, ?_⟩, by simp [intOf]⟩
        · rw [HN.out]; rfl
        · rw [← HS.out]
          exact ⟨H.out.set 8 _⟩
      · subst h
        have E : bits .and .u64 (bits .or .u64 ((c : Int) / 1048576) (IntKind.u64.wrap ((d : Int) * 64))) 255 = (X : Int) := by
          have := bitx c d 1048576 64 6 rfl rfl LL.out.2.2.1 LL.out.2.2.2.1
          skip
          rw [← HX.out, ← D9.out]
          exact this
        have HE := Aside0.mk E
        clear E HK
        rw [show ((9 : Nat) : Int) = 9 from rfl]
        go_wp2
        simp only [HGK.out]
        rw [HE.out, HSUM.out]
        refine ⟨⟨10, by omega, rfl, ?_, ?_⟩, by simp [intOf]⟩
        · rw [HN.out]; rfl
        · rw [← HS.out]
          exact ⟨H.out.set 9 _⟩
      · subst h
        have E : bits .and .u64 (bits .or .u64 ((d : Int) / 4) (IntKind.u64.wrap ((e : Int) * 16777216))) 255 = (X : Int) := by
          have := bitx d e 4 16777216 24 rfl rfl LL.out.2.2.2.1 LL.out.2.2.2.2
          skip
          rw [← HX.out, ← D10.out]
          exact this
        have HE := Aside0.mk E
        clear E HK
        rw [show ((10 : Nat) : Int) = 10 from rfl]
        go_wp2
        simp only [HGK.out]
        rw [HE.out, HSUM.out]
        refine ⟨⟨11, by omega, rfl, ?_, ?_⟩, by simp [intOf]⟩
        · rw [HN.out]; rfl
        · rw [← HS.out]
          exact ⟨H.out.set 10 _⟩
      · subst h
        have E : bits .and .u64 (bits .or .u64 ((d : Int) / 1024) (IntKind.u64.wrap ((e : Int) * 65536))) 255 = (X : Int) := by
          have := bitx d e 1024 65536 16 rfl rfl LL.out.2.2.2.1 LL.out.2.2.2.2
          skip
          rw [← HX.out, ← D11.out]
          exact this
        have HE := Aside0.mk E
        clear E HK
        rw [show ((11 : Nat) : Int) = 11 from rfl]
        go_wp2
        simp only [HGK.out]
        rw [HE.out, HSUM.out]
        refine ⟨⟨12, by omega, rfl, ?_, ?_⟩, by simp [intOf]⟩
        · rw [HN.out]; rfl
        · rw [← HS.out]
          exact ⟨H.out.set 11 _⟩
      · subst h
        have E : bits .and .u64 (bits .or .u64 ((d : Int) / 262144) (IntKind.u64.wrap ((e : Int) * 256))) 255 = (X : Int) := by
          have := bitx d e 262144 256 8 rfl rfl LL.out.2.2.2.1 LL.out.2.2.2.2
          skip
          rw [← HX.out, ← D12.out]
          exact this
        have HE := Aside0.mk E
        clear E HK
        rw [show ((12 : Nat) : Int) = 12 from rfl]
        go_wp2
        simp only [HGK.out]
        rw [HE.out, HSUM.out]
        refine ⟨⟨13, by omega, rfl, ?_, ?_⟩, by simp [intOf]⟩
        · rw [HN.out]; rfl
        · rw [← HS.out]
          exact ⟨H.out.set 12 _⟩
      · subst h
        have E : bits .and .u64 (e : Int) 255 = (X : Int) := by
          have := bitl e 1 (by decide) LL.out.2.2.2.2
          rw [show ((1 : Nat) : Int) = 1 from rfl, Int.ediv_one] at this
          rw [← HX.out, ← D13.out]
          exact this
        have HE := Aside0.mk E
        clear E HK
        rw [show ((13 : Nat) : Int) = 13 from rfl]
        go_wp2
        simp only [HGK.out]
        rw [HE.out, HSUM.out]
        refine ⟨⟨14, by omega, rfl, ?_, ?_⟩, by simp [intOf]⟩
        · rw [HN.out]; rfl
        · rw [← HS.out]
          exact ⟨H.out.set 13 _⟩
      · subst h
        have E : bits .and .u64 ((e : Int) / 256) 255 = (X : Int) := by
          have := bitl e 256 (by decide) LL.out.2.2.2.2
          skip
          rw [← HX.out, ← D14.out]
          exact this
        have HE := Aside0.mk E
        clear E HK
        rw [show ((14 : Nat) : Int) = 14 from rfl]
        go_wp2
        simp only [HGK.out]
        rw [HE.out, HSUM.out]
        refine ⟨⟨15, by omega, rfl, ?_, ?_⟩, by simp [intOf]⟩
        · rw [HN.out]; rfl
        · rw [← HS.out]
          exact ⟨H.out.set 14 _⟩
      · subst h
        have E : bits .and .u64 ((e : Int) / 65536) 255 = (X : Int) := by
          have := bitl e 65536 (by decide) LL.out.2.2.2.2
          skip
          rw [← HX.out, ← D15.out]
          exact this
        have HE := Aside0.mk E
        clear E HK
        rw [show ((15 : Nat) : Int) = 15 from rfl]
        go_wp2
        simp only [HGK.out]
        rw [HE.out, HSUM.out]
        refine ⟨⟨16, by omega, rfl, ?_, ?_⟩, by simp [intOf]⟩
        · rw [HN.out]; rfl
        · rw [← HS.out]
          exact ⟨H.out.set 15 _⟩
    · obtain rfl : k = 16 := by omega
      clear hlt hk
      rw [show ((16 : Nat) : Int) = 16 from rfl]
      have HOl := Aside0.mk (outT_length V (bys s) 16)
      generalize hO : outT V (bys s) 16 = O at *
      have HO := Aside0.mk hO
      clear hO
      have hcv := conv_u8s wr 68 9 5 184 (w.heap.size + 1) O 16 Try.underlying68 Try.underlying5 Try.underlying9 H.out.out HOl.out 16
      go_wp2
      go_ret
      exact ⟨by first | (rw [HO.out]; done) | (rw [HO.out]; rfl), H.out.below⟩
end Go.Proofs.Ytbkbganflnemeaa.Pr
end

section
namespace Go.Proofs.Ytbkbganflnemeaa.Pr
open Go.RowKit Go.Deep Go.Proofs.YtbkbganflnemeaaW.PrintWords Go.Proofs.YtbkbganflnemeaaW.PrintLast Go.Proofs.YtbkbganflnemeaaW.PrintMore
set_option maxHeartbeats 2000000
set_option linter.unusedVariables false
set_option linter.unusedSimpArgs false
theorem or_shl (x y q i : Nat) (hq : q = 2 ^ i) (hi : q ≤ 67108864) (hx : x < q) (hy : y < 256) :
    bits .or .u64 (x : Int) (IntKind.u64.wrap (IntKind.u64.wrap (y : Int) * (q : Int))) = ((x + y * q : Nat) : Int) := by
  have h2 : y * q ≤ 256 * 67108864 := Nat.mul_le_mul (by omega) hi
  rw [wraps_u64 (y : Int) (by omega) (by omega), show (y : Int) * (q : Int) = ((y * q : Nat) : Int) by simp, wraps_u64 _ (Int.natCast_nonneg _) (by omega), or64 _ _ (by omega) (by omega)]
  have h3 : x ||| y * q = x + y * q := by
    rw [Nat.or_comm, Nat.mul_comm y q, hq, ← Nat.two_pow_add_eq_or_of_lt (by rw [← hq]; exact hx) y, ← hq]
    omega
  rw [h3]
theorem or_zero64 (x : Nat) (hx : x < 18446744073709551616) : bits .or .u64 0 (x : Int) = (x : Int) := by
  have := or64 0 x (by decide) hx
  rw [show ((0 : Nat) : Int) = 0 from rfl] at this
  rw [this]
  simp
theorem rd_0 (V y : Nat) (hV : V < 1) (hy : y < 256) : limbs (V + 1 * y) = (limbs V).set 0 (V % 67108864 + y * 1) := by
  simp only [limbs, List.set_cons_succ, List.set_cons_zero, List.cons.injEq, and_true]
  refine ⟨?_, ?_, ?_, ?_, ?_⟩ <;> omega
theorem rd_1 (V y : Nat) (hV : V < 256) (hy : y < 256) : limbs (V + 256 * y) = (limbs V).set 0 (V % 67108864 + y * 256) := by
  simp only [limbs, List.set_cons_succ, List.set_cons_zero, List.cons.injEq, and_true]
  refine ⟨?_, ?_, ?_, ?_, ?_⟩ <;> omega
theorem rd_2 (V y : Nat) (hV : V < 65536) (hy : y < 256) : limbs (V + 65536 * y) = (limbs V).set 0 (V % 67108864 + y * 65536) := by
  simp only [limbs, List.set_cons_succ, List.set_cons_zero, List.cons.injEq, and_true]
  refine ⟨?_, ?_, ?_, ?_, ?_⟩ <;> omega
theorem rd_3 (V y : Nat) (hV : V < 16777216) (hy : y < 256) : limbs (V + 16777216 * y) = ((limbs V).set 1 ((V % 67108864 + y * 16777216) / 67108864)).set 0 ((V % 67108864 + y * 16777216) % 67108864) := by
  simp only [limbs, List.set_cons_succ, List.set_cons_zero, List.cons.injEq, and_true]
  refine ⟨?_, ?_, ?_, ?_, ?_⟩ <;> omega
theorem rd_4 (V y : Nat) (hV : V < 4294967296) (hy : y < 256) : limbs (V + 4294967296 * y) = (limbs V).set 1 (V / 67108864 % 67108864 + y * 64) := by
  simp only [limbs, List.set_cons_succ, List.set_cons_zero, List.cons.injEq, and_true]
  refine ⟨?_, ?_, ?_, ?_, ?_⟩ <;> omega
theorem rd_5 (V y : Nat) (hV : V < 1099511627776) (hy : y < 256) : limbs (V + 1099511627776 * y) = (limbs V).set 1 (V / 67108864 % 67108864 + y * 16384) := by
  simp only [limbs, List.set_cons_succ, List.set_cons_zero, List.cons.injEq, and_true]
  refine ⟨?_, ?_, ?_, ?_, ?_⟩ <;> omega
theorem rd_6 (V y : Nat) (hV : V < 281474976710656) (hy : y < 256) : limbs (V + 281474976710656 * y) = ((limbs V).set 2 ((V / 67108864 % 67108864 + y * 4194304) / 67108864)).set 1 ((V / 67108864 % 67108864 + y * 4194304) % 67108864) := by
  simp only [limbs, List.set_cons_succ, List.set_cons_zero, List.cons.injEq, and_true]
  refine ⟨?_, ?_, ?_, ?_, ?_⟩ <;> omega
theorem rd_7 (V y : Nat) (hV : V < 72057594037927936) (hy : y < 256) : limbs (V + 72057594037927936 * y) = (limbs V).set 2 (V / 4503599627370496 % 67108864 + y * 16) := by
  simp only [limbs, List.set_cons_succ, List.set_cons_zero, List.cons.injEq, and_true]
  refine ⟨?_, ?_, ?_, ?_, ?_⟩ <;> omega
theorem rd_8 (V y : Nat) (hV : V < 18446744073709551616) (hy : y < 256) : limbs (V + 18446744073709551616 * y) = (limbs V).set 2 (V / 4503599627370496 % 67108864 + y * 4096) := by
  simp only [limbs, List.set_cons_succ, List.set_cons_zero, List.cons.injEq, and_true]
  refine ⟨?_, ?_, ?_, ?_, ?_⟩ <;> omega
theorem rd_9 (V y : Nat) (hV : V < 4722366482869645213696) (hy : y < 256) : limbs (V + 4722366482869645213696 * y) = ((limbs V).set 3 ((V / 4503599627370496 % 67108864 + y * 1048576) / 67108864)).set 2 ((V / 4503599627370496 % 67108864 + y * 1048576) % 67108864) := by
  simp only [limbs, List.set_cons_succ, List.set_cons_zero, List.cons.injEq, and_true]
  refine ⟨?_, ?_, ?_, ?_, ?_⟩ <;> omega
theorem rd_10 (V y : Nat) (hV : V < 1208925819614629174706176) (hy : y < 256) : limbs (V + 1208925819614629174706176 * y) = (limbs V).set 3 (V / 302231454903657293676544 % 67108864 + y * 4) := by
  simp only [limbs, List.set_cons_succ, List.set_cons_zero, List.cons.injEq, and_true]
  refine ⟨?_, ?_, ?_, ?_, ?_⟩ <;> omega
theorem rd_11 (V y : Nat) (hV : V < 309485009821345068724781056) (hy : y < 256) : limbs (V + 309485009821345068724781056 * y) = (limbs V).set 3 (V / 302231454903657293676544 % 67108864 + y * 1024) := by
  simp only [limbs, List.set_cons_succ, List.set_cons_zero, List.cons.injEq, and_true]
  refine ⟨?_, ?_, ?_, ?_, ?_⟩ <;> omega
theorem rd_12 (V y : Nat) (hV : V < 79228162514264337593543950336) (hy : y < 256) : limbs (V + 79228162514264337593543950336 * y) = (limbs V).set 3 (V / 302231454903657293676544 % 67108864 + y * 262144) := by
  simp only [limbs, List.set_cons_succ, List.set_cons_zero, List.cons.injEq, and_true]
  refine ⟨?_, ?_, ?_, ?_, ?_⟩ <;> omega
theorem rd_13 (V y : Nat) (hV : V < 20282409603651670423947251286016) (hy : y < 256) : limbs (V + 20282409603651670423947251286016 * y) = (limbs V).set 4 (V / 20282409603651670423947251286016 % 67108864 + y * 1) := by
  simp only [limbs, List.set_cons_succ, List.set_cons_zero, List.cons.injEq, and_true]
  refine ⟨?_, ?_, ?_, ?_, ?_⟩ <;> omega
theorem rd_14 (V y : Nat) (hV : V < 5192296858534827628530496329220096) (hy : y < 256) : limbs (V + 5192296858534827628530496329220096 * y) = (limbs V).set 4 (V / 20282409603651670423947251286016 % 67108864 + y * 256) := by
  simp only [limbs, List.set_cons_succ, List.set_cons_zero, List.cons.injEq, and_true]
  refine ⟨?_, ?_, ?_, ?_, ?_⟩ <;> omega
theorem rd_15 (V y : Nat) (hV : V < 1329227995784915872903807060280344576) (hy : y < 256) : limbs (V + 1329227995784915872903807060280344576 * y) = (limbs V).set 4 (V / 20282409603651670423947251286016 % 67108864 + y * 65536) := by
  simp only [limbs, List.set_cons_succ, List.set_cons_zero, List.cons.injEq, and_true]
  refine ⟨?_, ?_, ?_, ?_, ?_⟩ <;> omega
theorem rd_16 (V y : Nat) (hV : V < 340282366920938463463374607431768211456) (hy : y < 4) : limbs (V + 340282366920938463463374607431768211456 * y) = (limbs V).set 4 (V / 20282409603651670423947251286016 % 67108864 + y * 16777216) := by
  simp only [limbs, List.set_cons_succ, List.set_cons_zero, List.cons.injEq, and_true]
  refine ⟨?_, ?_, ?_, ?_, ?_⟩ <;> omega
set_option maxRecDepth 100000 in
theorem poly_read_calls (s : ByteArray) (w : World) (hs : s.size ≤ 17) (h17 : (bys s).getD 16 0 < 4) :
    Calls Try.prog 131 #[.string s] w fun E w' => E = .returned (.agg (u64s (limbs (dv (bys s))))) ∧ Below w.heap.size w w' := by
  have hi : (Try.prog.info? 159).map (·.size) = some 5 := by kernel_rfl
  have HI := Aside0.mk hi
  have HB := Aside0.mk (bys_lt s)
  have H17 := Aside0.mk h17
  have HLn := Aside0.mk (bys_length s)
  have HG : Aside0 (∀ i (hi : i < s.size), (s[i]'hi).toNat = (bys s).getD i 0) := ⟨fun i hi => by
    have hl : i < s.data.toList.length := by rw [data_length]; exact hi
    simp only [bys, List.getD_eq_getElem?_getD, List.getElem?_map, List.getElem?_eq_getElem hl, Option.map_some, Option.getD_some]
    rfl⟩
  have HDL : Aside0 (∀ k, k ≤ s.size → dv ((bys s).take k) < 256 ^ k) := ⟨fun k hk => by
    have := dv_lt ((bys s).take k) (fun i => by
      rw [List.getD_eq_getElem?_getD, List.getElem?_take]
      split
      · have := bys_lt s i; rwa [List.getD_eq_getElem?_getD] at this
      · simp)
    rwa [List.length_take, Nat.min_eq_left (by rw [bys_length]; exact hk)] at this⟩
  have HDS : Aside0 (∀ k, dv ((bys s).take (k + 1)) = dv ((bys s).take k) + 256 ^ k * (bys s).getD k 0) := ⟨fun k => dv_take_succ _ k⟩
  clear hi h17
  go_enter Try.func131, Try.ntmps131
  go_wp2_with (fail)
  have H : Aside0 (PN w [List.replicate 5 0, limbs (dv ((bys s).take 0))] ((w.alloc (.cells (u64s (List.replicate 5 0)) 159)).alloc (.cells (u64s (List.replicate 5 0)) 159))) := ⟨by rw [show limbs (dv ((bys s).take 0)) = List.replicate 5 0 by simp [limbs, dv]]; exact ((PN.nil w).push _).push _⟩
  go_loopw [9] (fun i wr => ∃ k : Nat, k ≤ s.size ∧ i = .int .i64 k ∧ Aside0 (PN w [List.replicate 5 0, limbs (dv ((bys s).take k))] wr)) (fun i _ => s.size - (intOf i).toNat)
  case atStart => exact ⟨0, by omega, rfl, H⟩
  case round =>
    clear H
    obtain ⟨k, hk, rfl, H⟩ := hrel
    by_cases hlt : k < s.size
    · have HK : Aside0 (k = 0 ∨ k = 1 ∨ k = 2 ∨ k = 3 ∨ k = 4 ∨ k = 5 ∨ k = 6 ∨ k = 7 ∨ k = 8 ∨ k = 9 ∨ k = 10 ∨ k = 11 ∨ k = 12 ∨ k = 13 ∨ k = 14 ∨ k = 15 ∨ k = 16) := ⟨by omega⟩
      have hy := HB.out k
      have hV := HDL.out k hk
      have hg := HG.out k hlt
      have hds := HDS.out k
      have h16 : k = 16 → (bys s).getD k 0 < 4 := fun e => e ▸ H17.out
      generalize (bys s).getD k 0 = y at hy hg hds h16
      generalize dv ((bys s).take k) = V at H hV hds
      have HDSk := Aside0.mk hds
      clear hds
      rcases HK.out with h | h | h | h | h | h | h | h | h | h | h | h | h | h | h | h | h
      · as_aux_lemma =>
        subst h
        clear HK
        have hV2 : V < 1 := hV
        have hy2 : y < 256 := hy
        have hR := rd_0 V y hV2 hy2
        have hx0 : V % 67108864 < 1 := by omega
        have hc := (H.out.cell 1 0 rfl (by show _ < 5; decide)).1
        have hf := (H.out.cell 1 0 rfl (by show _ < 5; decide)).2
        have hcv : (limbs V).getD 0 0 = V % 67108864 := rfl
        rw [hcv] at hc
        clear hcv
        generalize V % 67108864 = X0 at hR hx0 hc
        have E : bits .or .u64 (X0 : Int) (IntKind.u64.wrap (IntKind.u64.wrap (y : Int))) = ((X0 + y * 1 : Nat) : Int) := by
          have := or_shl X0 y 1 0 rfl (by decide) hx0 hy
          rw [show ((1 : Nat) : Int) = 1 from rfl, Int.mul_one, wraps_u64 (y : Int) (by omega) (by omega), wraps_u64 (y : Int) (by omega) (by omega)] at this
          rw [wraps_u64 (y : Int) (by omega) (by omega), wraps_u64 (y : Int) (by omega) (by omega), this, Nat.mul_one]
        have hXb : X0 + y * 1 < 67108864 := by omega
        generalize X0 + y * 1 = X at E hR hXb
        have HR := Aside0.mk hR
        have HV' : Aside0 (dv (List.take (0 + 1) (bys s)) = V + 1 * y) := ⟨HDSk.out⟩
        have t0 : decide ((0 : Int) < (s.size : Int)) = true := decide_eq_true (by omega)
        have hle : 0 < s.size := hlt
        have t00 : (0 : Int) < (s.size : Int) := by omega
        clear hV hV2 hR hx0 hy hy2 h16 HDSk
        simp only [adr] at hc hf
        rw [show ((0 : Nat) : Int) = 0 from rfl]
        have t1 : decide (0 < (X : Int) / 67108864) = false := decide_eq_false (by omega)
        have t2 : decide (0 < X / 67108864) = false := decide_eq_false (by omega)
        clear hXb
        go_wp2_with (fail)
        refine wp_still_tail 13 (by kernel_rfl) (by kernel_rfl) ?_
        intro W hW
        have g1 : W.cell? ⟨w.heap.size + 1, 0, none⟩ = some (.int .u64 (X0 : Int)) := by rw [hW]; exact hc
        have gf : W.frozen? ⟨w.heap.size + 1, 0, none⟩ = false := by rw [hW]; exact hf
        have HW : Aside0 (PN w [List.replicate 5 0, limbs V] W) := ⟨by rw [hW]; exact H.out.drew⟩
        have wj : IntKind.i64.wrap 0 = 0 := by decide +kernel
        have wr_ : IntKind.i64.wrap 0 = 0 := by decide +kernel
        clear hW hc hf
        simp only [List.take_succ_cons, List.take_zero, List.drop_succ_cons, List.drop_zero]
        repeat still_step
        refine wpStill_nil ?_
        clear wj wr_
        go_wp2
        refine ⟨⟨1, by omega, rfl, ?_⟩, by simp [intOf]; omega⟩
        rw [HV'.out, HR.out]
        exact ⟨HW.out.set 1 0 X rfl⟩
      · as_aux_lemma =>
        subst h
        clear HK
        have hV2 : V < 256 := hV
        have hy2 : y < 256 := hy
        have hR := rd_1 V y hV2 hy2
        have hx0 : V % 67108864 < 256 := by omega
        have hc := (H.out.cell 1 0 rfl (by show _ < 5; decide)).1
        have hf := (H.out.cell 1 0 rfl (by show _ < 5; decide)).2
        have hcv : (limbs V).getD 0 0 = V % 67108864 := rfl
        rw [hcv] at hc
        clear hcv
        generalize V % 67108864 = X0 at hR hx0 hc
        have E : bits .or .u64 (X0 : Int) (IntKind.u64.wrap (IntKind.u64.wrap (y : Int) * 256)) = ((X0 + y * 256 : Nat) : Int) := by
          have := or_shl X0 y 256 8 rfl (by decide) hx0 hy
          exact this
        have hXb : X0 + y * 256 < 67108864 := by omega
        generalize X0 + y * 256 = X at E hR hXb
        have HR := Aside0.mk hR
        have HV' : Aside0 (dv (List.take (1 + 1) (bys s)) = V + 256 * y) := ⟨HDSk.out⟩
        have t0 : decide ((1 : Int) < (s.size : Int)) = true := decide_eq_true (by omega)
        have hle : 1 < s.size := hlt
        have t00 : (1 : Int) < (s.size : Int) := by omega
        clear hV hV2 hR hx0 hy hy2 h16 HDSk
        simp only [adr] at hc hf
        rw [show ((1 : Nat) : Int) = 1 from rfl]
        have t1 : decide (0 < (X : Int) / 67108864) = false := decide_eq_false (by omega)
        have t2 : decide (0 < X / 67108864) = false := decide_eq_false (by omega)
        clear hXb
        go_wp2_with (fail)
        refine wp_still_tail 13 (by kernel_rfl) (by kernel_rfl) ?_
        intro W hW
        have g1 : W.cell? ⟨w.heap.size + 1, 0, none⟩ = some (.int .u64 (X0 : Int)) := by rw [hW]; exact hc
        have gf : W.frozen? ⟨w.heap.size + 1, 0, none⟩ = false := by rw [hW]; exact hf
        have HW : Aside0 (PN w [List.replicate 5 0, limbs V] W) := ⟨by rw [hW]; exact H.out.drew⟩
        have wj : IntKind.i64.wrap 0 = 0 := by decide +kernel
        have wr_ : IntKind.i64.wrap 8 = 8 := by decide +kernel
        clear hW hc hf
        simp only [List.take_succ_cons, List.take_zero, List.drop_succ_cons, List.drop_zero]
        repeat still_step
        refine wpStill_nil ?_
        clear wj wr_
        go_wp2
        refine ⟨⟨2, by omega, rfl, ?_⟩, by simp [intOf]; omega⟩
        rw [HV'.out, HR.out]
        exact ⟨HW.out.set 1 0 X rfl⟩
      · as_aux_lemma =>
        subst h
        clear HK
        have hV2 : V < 65536 := hV
        have hy2 : y < 256 := hy
        have hR := rd_2 V y hV2 hy2
        have hx0 : V % 67108864 < 65536 := by omega
        have hc := (H.out.cell 1 0 rfl (by show _ < 5; decide)).1
        have hf := (H.out.cell 1 0 rfl (by show _ < 5; decide)).2
        have hcv : (limbs V).getD 0 0 = V % 67108864 := rfl
        rw [hcv] at hc
        clear hcv
        generalize V % 67108864 = X0 at hR hx0 hc
        have E : bits .or .u64 (X0 : Int) (IntKind.u64.wrap (IntKind.u64.wrap (y : Int) * 65536)) = ((X0 + y * 65536 : Nat) : Int) := by
          have := or_shl X0 y 65536 16 rfl (by decide) hx0 hy
          exact this
        have hXb : X0 + y * 65536 < 67108864 := by omega
        generalize X0 + y * 65536 = X at E hR hXb
        have HR := Aside0.mk hR
        have HV' : Aside0 (dv (List.take (2 + 1) (bys s)) = V + 65536 * y) := ⟨HDSk.out⟩
        have t0 : decide ((2 : Int) < (s.size : Int)) = true := decide_eq_true (by omega)
        have hle : 2 < s.size := hlt
        have t00 : (2 : Int) < (s.size : Int) := by omega
        clear hV hV2 hR hx0 hy hy2 h16 HDSk
        simp only [adr] at hc hf
        rw [show ((2 : Nat) : Int) = 2 from rfl]
        have t1 : decide (0 < (X : Int) / 67108864) = false := decide_eq_false (by omega)
        have t2 : decide (0 < X / 67108864) = false := decide_eq_false (by omega)
        clear hXb
        go_wp2_with (fail)
        refine wp_still_tail 13 (by kernel_rfl) (by kernel_rfl) ?_
        intro W hW
        have g1 : W.cell? ⟨w.heap.size + 1, 0, none⟩ = some (.int .u64 (X0 : Int)) := by rw [hW]; exact hc
        have gf : W.frozen? ⟨w.heap.size + 1, 0, none⟩ = false := by rw [hW]; exact hf
        have HW : Aside0 (PN w [List.replicate 5 0, limbs V] W) := ⟨by rw [hW]; exact H.out.drew⟩
        have wj : IntKind.i64.wrap 0 = 0 := by decide +kernel
        have wr_ : IntKind.i64.wrap 16 = 16 := by decide +kernel
        clear hW hc hf
        simp only [List.take_succ_cons, List.take_zero, List.drop_succ_cons, List.drop_zero]
        repeat still_step
        refine wpStill_nil ?_
        clear wj wr_
        go_wp2
        refine ⟨⟨3, by omega, rfl, ?_⟩, by simp [intOf]; omega⟩
        rw [HV'.out, HR.out]
        exact ⟨HW.out.set 1 0 X rfl⟩
      · as_aux_lemma =>
        subst h
        clear HK
        have hV2 : V < 16777216 := hV
        have hy2 : y < 256 := hy
        have hR := rd_3 V y hV2 hy2
        have hx0 : V % 67108864 < 16777216 := by omega
        have hc := (H.out.cell 1 0 rfl (by show _ < 5; decide)).1
        have hf := (H.out.cell 1 0 rfl (by show _ < 5; decide)).2
        have hcv : (limbs V).getD 0 0 = V % 67108864 := rfl
        rw [hcv] at hc
        clear hcv
        have hc1 := (H.out.cell 1 1 rfl (by show _ < 5; decide)).1
        have hf1 := (H.out.cell 1 1 rfl (by show _ < 5; decide)).2
        have hcv1 : (limbs V).getD 1 0 = V / 67108864 % 67108864 := rfl
        have hz1 : V / 67108864 % 67108864 = 0 := by omega
        rw [hcv1, hz1] at hc1
        clear hcv1
        generalize V % 67108864 = X0 at hR hx0 hc
        have E : bits .or .u64 (X0 : Int) (IntKind.u64.wrap (IntKind.u64.wrap (y : Int) * 16777216)) = ((X0 + y * 16777216 : Nat) : Int) := by
          have := or_shl X0 y 16777216 24 rfl (by decide) hx0 hy
          exact this
        have hXb : X0 + y * 16777216 < 17179869184 := by omega
        generalize X0 + y * 16777216 = X at E hR hXb
        have HR := Aside0.mk hR
        have HV' : Aside0 (dv (List.take (3 + 1) (bys s)) = V + 16777216 * y) := ⟨HDSk.out⟩
        have t0 : decide ((3 : Int) < (s.size : Int)) = true := decide_eq_true (by omega)
        have hle : 3 < s.size := hlt
        have t00 : (3 : Int) < (s.size : Int) := by omega
        clear hV hV2 hR hx0 hy hy2 h16 HDSk
        simp only [adr] at hc hf hc1 hf1
        rw [show ((3 : Nat) : Int) = 3 from rfl]
        by_cases hov : 67108864 ≤ X
        · as_aux_lemma =>
          have t1 : decide (0 < (X : Int) / 67108864) = true := decide_eq_true (by omega)
          have t2 : decide (0 < X / 67108864) = true := decide_eq_true (by omega)
          have hm := mask26 X (by omega)
          have ho := or_zero64 (X / 67108864) (by omega)
          rw [show ((X / 67108864 : Nat) : Int) = (X : Int) / 67108864 by simp] at ho
          clear hXb hz1
          go_wp2_with (fail)
          refine wp_still_tail 13 (by kernel_rfl) (by kernel_rfl) ?_
          intro W hW
          have g1 : W.cell? ⟨w.heap.size + 1, 0, none⟩ = some (.int .u64 (X0 : Int)) := by rw [hW]; exact hc
          have gf : W.frozen? ⟨w.heap.size + 1, 0, none⟩ = false := by rw [hW]; exact hf
          have HW : Aside0 (PN w [List.replicate 5 0, limbs V] W) := ⟨by rw [hW]; exact H.out.drew⟩
          have wj : IntKind.i64.wrap 0 = 0 := by decide +kernel
          have wr_ : IntKind.i64.wrap 24 = 24 := by decide +kernel
          have g3 : W.cell? ⟨w.heap.size + 1, 1, none⟩ = some (.int .u64 0) := by rw [hW]; exact hc1
          have gf3 : W.frozen? ⟨w.heap.size + 1, 1, none⟩ = false := by rw [hW]; exact hf1
          clear hW hc hf hc1 hf1
          simp only [List.take_succ_cons, List.take_zero, List.drop_succ_cons, List.drop_zero]
          repeat still_step
          refine wpStill_nil ?_
          clear wj wr_
          go_wp2
          refine ⟨⟨4, by omega, rfl, ?_⟩, by simp [intOf]; omega⟩
          rw [HV'.out, HR.out]
          have h1 := (HW.out.set 1 0 X rfl)
          have h2 := (h1.set 1 1 (X / 67108864) (l := (limbs V).set 0 X) rfl)
          have h3 := (h2.set 1 0 (X % 67108864) (l := ((limbs V).set 0 X).set 1 (X / 67108864)) rfl)
          exact ⟨h3⟩
        · as_aux_lemma =>
          have t1 : decide (0 < (X : Int) / 67108864) = false := decide_eq_false (by omega)
          have t2 : decide (0 < X / 67108864) = false := decide_eq_false (by omega)
          have hX0 : X / 67108864 = 0 := by omega
          have hX1 : X % 67108864 = X := by omega
          have HX0 := Aside0.mk hX0
          have HX1 := Aside0.mk hX1
          have hlz : (limbs V).set 1 0 = limbs V := by rw [← hz1]; rfl
          have HLZ := Aside0.mk hlz
          clear hXb hX0 hX1 hlz hz1
          go_wp2_with (fail)
          refine wp_still_tail 13 (by kernel_rfl) (by kernel_rfl) ?_
          intro W hW
          have g1 : W.cell? ⟨w.heap.size + 1, 0, none⟩ = some (.int .u64 (X0 : Int)) := by rw [hW]; exact hc
          have gf : W.frozen? ⟨w.heap.size + 1, 0, none⟩ = false := by rw [hW]; exact hf
          have HW : Aside0 (PN w [List.replicate 5 0, limbs V] W) := ⟨by rw [hW]; exact H.out.drew⟩
          have wj : IntKind.i64.wrap 0 = 0 := by decide +kernel
          have wr_ : IntKind.i64.wrap 24 = 24 := by decide +kernel
          have g3 : W.cell? ⟨w.heap.size + 1, 1, none⟩ = some (.int .u64 0) := by rw [hW]; exact hc1
          have gf3 : W.frozen? ⟨w.heap.size + 1, 1, none⟩ = false := by rw [hW]; exact hf1
          clear hW hc hf hc1 hf1
          simp only [List.take_succ_cons, List.take_zero, List.drop_succ_cons, List.drop_zero]
          repeat still_step
          refine wpStill_nil ?_
          clear wj wr_
          go_wp2
          refine ⟨⟨4, by omega, rfl, ?_⟩, by simp [intOf]; omega⟩
          rw [HV'.out, HR.out]
          rw [HX0.out, HX1.out, HLZ.out]
          exact ⟨HW.out.set 1 0 X rfl⟩
      · as_aux_lemma =>
        subst h
        clear HK
        have hV2 : V < 4294967296 := hV
        have hy2 : y < 256 := hy
        have hR := rd_4 V y hV2 hy2
        have hx0 : V / 67108864 % 67108864 < 64 := by omega
        have hc := (H.out.cell 1 1 rfl (by show _ < 5; decide)).1
        have hf := (H.out.cell 1 1 rfl (by show _ < 5; decide)).2
        have hcv : (limbs V).getD 1 0 = V / 67108864 % 67108864 := rfl
        rw [hcv] at hc
        clear hcv
        generalize V / 67108864 % 67108864 = X0 at hR hx0 hc
        have E : bits .or .u64 (X0 : Int) (IntKind.u64.wrap (IntKind.u64.wrap (y : Int) * 64)) = ((X0 + y * 64 : Nat) : Int) := by
          have := or_shl X0 y 64 6 rfl (by decide) hx0 hy
          exact this
        have hXb : X0 + y * 64 < 67108864 := by omega
        generalize X0 + y * 64 = X at E hR hXb
        have HR := Aside0.mk hR
        have HV' : Aside0 (dv (List.take (4 + 1) (bys s)) = V + 4294967296 * y) := ⟨HDSk.out⟩
        have t0 : decide ((4 : Int) < (s.size : Int)) = true := decide_eq_true (by omega)
        have hle : 4 < s.size := hlt
        have t00 : (4 : Int) < (s.size : Int) := by omega
        clear hV hV2 hR hx0 hy hy2 h16 HDSk
        simp only [adr] at hc hf
        rw [show ((4 : Nat) : Int) = 4 from rfl]
        have t1 : decide (0 < (X : Int) / 67108864) = false := decide_eq_false (by omega)
        have t2 : decide (0 < X / 67108864) = false := decide_eq_false (by omega)
        clear hXb
        go_wp2_with (fail)
        refine wp_still_tail 13 (by kernel_rfl) (by kernel_rfl) ?_
        intro W hW
        have g1 : W.cell? ⟨w.heap.size + 1, 1, none⟩ = some (.int .u64 (X0 : Int)) := by rw [hW]; exact hc
        have gf : W.frozen? ⟨w.heap.size + 1, 1, none⟩ = false := by rw [hW]; exact hf
        have HW : Aside0 (PN w [List.replicate 5 0, limbs V] W) := ⟨by rw [hW]; exact H.out.drew⟩
        have wj : IntKind.i64.wrap 1 = 1 := by decide +kernel
        have wr_ : IntKind.i64.wrap 6 = 6 := by decide +kernel
        clear hW hc hf
        simp only [List.take_succ_cons, List.take_zero, List.drop_succ_cons, List.drop_zero]
        repeat still_step
        refine wpStill_nil ?_
        clear wj wr_
        go_wp2
        refine ⟨⟨5, by omega, rfl, ?_⟩, by simp [intOf]; omega⟩
        rw [HV'.out, HR.out]
        exact ⟨HW.out.set 1 1 X rfl⟩
      · as_aux_lemma =>
        subst h
        clear HK
        have hV2 : V < 1099511627776 := hV
        have hy2 : y < 256 := hy
        have hR := rd_5 V y hV2 hy2
        have hx0 : V / 67108864 % 67108864 < 16384 := by omega
        have hc := (H.out.cell 1 1 rfl (by show _ < 5; decide)).1
        have hf := (H.out.cell 1 1 rfl (by show _ < 5; decide)).2
        have hcv : (limbs V).getD 1 0 = V / 67108864 % 67108864 := rfl
        rw [hcv] at hc
        clear hcv
        generalize V / 67108864 % 67108864 = X0 at hR hx0 hc
        have E : bits .or .u64 (X0 : Int) (IntKind.u64.wrap (IntKind.u64.wrap (y : Int) * 16384)) = ((X0 + y * 16384 : Nat) : Int) := by
          have := or_shl X0 y 16384 14 rfl (by decide) hx0 hy
          exact this
        have hXb : X0 + y * 16384 < 67108864 := by omega
        generalize X0 + y * 16384 = X at E hR hXb
        have HR := Aside0.mk hR
        have HV' : Aside0 (dv (List.take (5 + 1) (bys s)) = V + 1099511627776 * y) := ⟨HDSk.out⟩
        have t0 : decide ((5 : Int) < (s.size : Int)) = true := decide_eq_true (by omega)
        have hle : 5 < s.size := hlt
        have t00 : (5 : Int) < (s.size : Int) := by omega
        clear hV hV2 hR hx0 hy hy2 h16 HDSk
        simp only [adr] at hc hf
        rw [show ((5 : Nat) : Int) = 5 from rfl]
        have t1 : decide (0 < (X : Int) / 67108864) = false := decide_eq_false (by omega)
        have t2 : decide (0 < X / 67108864) = false := decide_eq_false (by omega)
        clear hXb
        go_wp2_with (fail)
        refine wp_still_tail 13 (by kernel_rfl) (by kernel_rfl) ?_
        intro W hW
        have g1 : W.cell? ⟨w.heap.size + 1, 1, none⟩ = some (.int .u64 (X0 : Int)) := by rw [hW]; exact hc
        have gf : W.frozen? ⟨w.heap.size + 1, 1, none⟩ = false := by rw [hW]; exact hf
        have HW : Aside0 (PN w [List.replicate 5 0, limbs V] W) := ⟨by rw [hW]; exact H.out.drew⟩
        have wj : IntKind.i64.wrap 1 = 1 := by decide +kernel
        have wr_ : IntKind.i64.wrap 14 = 14 := by decide +kernel
        clear hW hc hf
        simp only [List.take_succ_cons, List.take_zero, List.drop_succ_cons, List.drop_zero]
        repeat still_step
        refine wpStill_nil ?_
        clear wj wr_
        go_wp2
        refine ⟨⟨6, by omega, rfl, ?_⟩, by simp [intOf]; omega⟩
        rw [HV'.out, HR.out]
        exact ⟨HW.out.set 1 1 X rfl⟩
      · as_aux_lemma =>
        subst h
        clear HK
        have hV2 : V < 281474976710656 := hV
        have hy2 : y < 256 := hy
        have hR := rd_6 V y hV2 hy2
        have hx0 : V / 67108864 % 67108864 < 4194304 := by omega
        have hc := (H.out.cell 1 1 rfl (by show _ < 5; decide)).1
        have hf := (H.out.cell 1 1 rfl (by show _ < 5; decide)).2
        have hcv : (limbs V).getD 1 0 = V / 67108864 % 67108864 := rfl
        rw [hcv] at hc
        clear hcv
        have hc1 := (H.out.cell 1 2 rfl (by show _ < 5; decide)).1
        have hf1 := (H.out.cell 1 2 rfl (by show _ < 5; decide)).2
        have hcv1 : (limbs V).getD 2 0 = V / 4503599627370496 % 67108864 := rfl
        have hz1 : V / 4503599627370496 % 67108864 = 0 := by omega
        rw [hcv1, hz1] at hc1
        clear hcv1
        generalize V / 67108864 % 67108864 = X0 at hR hx0 hc
        have E : bits .or .u64 (X0 : Int) (IntKind.u64.wrap (IntKind.u64.wrap (y : Int) * 4194304)) = ((X0 + y * 4194304 : Nat) : Int) := by
          have := or_shl X0 y 4194304 22 rfl (by decide) hx0 hy
          exact this
        have hXb : X0 + y * 4194304 < 17179869184 := by omega
        generalize X0 + y * 4194304 = X at E hR hXb
        have HR := Aside0.mk hR
        have HV' : Aside0 (dv (List.take (6 + 1) (bys s)) = V + 281474976710656 * y) := ⟨HDSk.out⟩
        have t0 : decide ((6 : Int) < (s.size : Int)) = true := decide_eq_true (by omega)
        have hle : 6 < s.size := hlt
        have t00 : (6 : Int) < (s.size : Int) := by omega
        clear hV hV2 hR hx0 hy hy2 h16 HDSk
        simp only [adr] at hc hf hc1 hf1
        rw [show ((6 : Nat) : Int) = 6 from rfl]
        by_cases hov : 67108864 ≤ X
        · as_aux_lemma =>
          have t1 : decide (0 < (X : Int) / 67108864) = true := decide_eq_true (by omega)
          have t2 : decide (0 < X / 67108864) = true := decide_eq_true (by omega)
          have hm := mask26 X (by omega)
          have ho := or_zero64 (X / 67108864) (by omega)
          rw [show ((X / 67108864 : Nat) : Int) = (X : Int) / 67108864 by simp] at ho
          clear hXb hz1
          go_wp2_with (fail)
          refine wp_still_tail 13 (by kernel_rfl) (by kernel_rfl) ?_
          intro W hW
          have g1 : W.cell? ⟨w.heap.size + 1, 1, none⟩ = some (.int .u64 (X0 : Int)) := by rw [hW]; exact hc
          have gf : W.frozen? ⟨w.heap.size + 1, 1, none⟩ = false := by rw [hW]; exact hf
          have HW : Aside0 (PN w [List.replicate 5 0, limbs V] W) := ⟨by rw [hW]; exact H.out.drew⟩
          have wj : IntKind.i64.wrap 1 = 1 := by decide +kernel
          have wr_ : IntKind.i64.wrap 22 = 22 := by decide +kernel
          have g3 : W.cell? ⟨w.heap.size + 1, 2, none⟩ = some (.int .u64 0) := by rw [hW]; exact hc1
          have gf3 : W.frozen? ⟨w.heap.size + 1, 2, none⟩ = false := by rw [hW]; exact hf1
          clear hW hc hf hc1 hf1
          simp only [List.take_succ_cons, List.take_zero, List.drop_succ_cons, List.drop_zero]
          repeat still_step
          refine wpStill_nil ?_
          clear wj wr_
          go_wp2
          refine ⟨⟨7, by omega, rfl, ?_⟩, by simp [intOf]; omega⟩
          rw [HV'.out, HR.out]
          have h1 := (HW.out.set 1 1 X rfl)
          have h2 := (h1.set 1 2 (X / 67108864) (l := (limbs V).set 1 X) rfl)
          have h3 := (h2.set 1 1 (X % 67108864) (l := ((limbs V).set 1 X).set 2 (X / 67108864)) rfl)
          exact ⟨h3⟩
        · as_aux_lemma =>
          have t1 : decide (0 < (X : Int) / 67108864) = false := decide_eq_false (by omega)
          have t2 : decide (0 < X / 67108864) = false := decide_eq_false (by omega)
          have hX0 : X / 67108864 = 0 := by omega
          have hX1 : X % 67108864 = X := by omega
          have HX0 := Aside0.mk hX0
          have HX1 := Aside0.mk hX1
          have hlz : (limbs V).set 2 0 = limbs V := by rw [← hz1]; rfl
          have HLZ := Aside0.mk hlz
          clear hXb hX0 hX1 hlz hz1
          go_wp2_with (fail)
          refine wp_still_tail 13 (by kernel_rfl) (by kernel_rfl) ?_
          intro W hW
          have g1 : W.cell? ⟨w.heap.size + 1, 1, none⟩ = some (.int .u64 (X0 : Int)) := by rw [hW]; exact hc
          have gf : W.frozen? ⟨w.heap.size + 1, 1, none⟩ = false := by rw [hW]; exact hf
          have HW : Aside0 (PN w [List.replicate 5 0, limbs V] W) := ⟨by rw [hW]; exact H.out.drew⟩
          have wj : IntKind.i64.wrap 1 = 1 := by decide +kernel
          have wr_ : IntKind.i64.wrap 22 = 22 := by decide +kernel
          have g3 : W.cell? ⟨w.heap.size + 1, 2, none⟩ = some (.int .u64 0) := by rw [hW]; exact hc1
          have gf3 : W.frozen? ⟨w.heap.size + 1, 2, none⟩ = false := by rw [hW]; exact hf1
          clear hW hc hf hc1 hf1
          simp only [List.take_succ_cons, List.take_zero, List.drop_succ_cons, List.drop_zero]
          repeat still_step
          refine wpStill_nil ?_
          clear wj wr_
          go_wp2
          refine ⟨⟨7, by omega, rfl, ?_⟩, by simp [intOf]; omega⟩
          rw [HV'.out, HR.out]
          rw [HX0.out, HX1.out, HLZ.out]
          exact ⟨HW.out.set 1 1 X rfl⟩
      · as_aux_lemma =>
        subst h
        clear HK
        have hV2 : V < 72057594037927936 := hV
        have hy2 : y < 256 := hy
        have hR := rd_7 V y hV2 hy2
        have hx0 : V / 4503599627370496 % 67108864 < 16 := by omega
        have hc := (H.out.cell 1 2 rfl (by show _ < 5; decide)).1
        have hf := (H.out.cell 1 2 rfl (by show _ < 5; decide)).2
        have hcv : (limbs V).getD 2 0 = V / 4503599627370496 % 67108864 := rfl
        rw [hcv] at hc
        clear hcv
        generalize V / 4503599627370496 % 67108864 = X0 at hR hx0 hc
        have E : bits .or .u64 (X0 : Int) (IntKind.u64.wrap (IntKind.u64.wrap (y : Int) * 16)) = ((X0 + y * 16 : Nat) : Int) := by
          have := or_shl X0 y 16 4 rfl (by decide) hx0 hy
          exact this
        have hXb : X0 + y * 16 < 67108864 := by omega
        generalize X0 + y * 16 = X at E hR hXb
        have HR := Aside0.mk hR
        have HV' : Aside0 (dv (List.take (7 + 1) (bys s)) = V + 72057594037927936 * y) := ⟨HDSk.out⟩
        have t0 : decide ((7 : Int) < (s.size : Int)) = true := decide_eq_true (by omega)
        have hle : 7 < s.size := hlt
        have t00 : (7 : Int) < (s.size : Int) := by omega
        clear hV hV2 hR hx0 hy hy2 h16 HDSk
        simp only [adr] at hc hf
        rw [show ((7 : Nat) : Int) = 7 from rfl]
        have t1 : decide (0 < (X : Int) / 67108864) = false := decide_eq_false (by omega)
        have t2 : decide (0 < X / 67108864) = false := decide_eq_false (by omega)
        clear hXb
        go_wp2_with (fail)
        refine wp_still_tail 13 (by kernel_rfl) (by kernel_rfl) ?_
        intro W hW
        have g1 : W.cell? ⟨w.heap.size + 1, 2, none⟩ = some (.int .u64 (X0 : Int)) := by rw [hW]; exact hc
        have gf : W.frozen? ⟨w.heap.size + 1, 2, none⟩ = false := by rw [hW]; exact hf
        have HW : Aside0 (PN w [List.replicate 5 0, limbs V] W) := ⟨by rw [hW]; exact H.out.drew⟩
        have wj : IntKind.i64.wrap 2 = 2 := by decide +kernel
        have wr_ : IntKind.i64.wrap 4 = 4 := by decide +kernel
        clear hW hc hf
        simp only [List.take_succ_cons, List.take_zero, List.drop_succ_cons, List.drop_zero]
        repeat still_step
        refine wpStill_nil ?_
        clear wj wr_
        go_wp2
        refine ⟨⟨8, by omega, rfl, ?_⟩, by simp [intOf]; omega⟩
        rw [HV'.out, HR.out]
        exact ⟨HW.out.set 1 2 X rfl⟩
      · as_aux_lemma =>
        subst h
        clear HK
        have hV2 : V < 18446744073709551616 := hV
        have hy2 : y < 256 := hy
        have hR := rd_8 V y hV2 hy2
        have hx0 : V / 4503599627370496 % 67108864 < 4096 := by omega
        have hc := (H.out.cell 1 2 rfl (by show _ < 5; decide)).1
        have hf := (H.out.cell 1 2 rfl (by show _ < 5; decide)).2
        have hcv : (limbs V).getD 2 0 = V / 4503599627370496 % 67108864 := rfl
        rw [hcv] at hc
        clear hcv
        generalize V / 4503599627370496 % 67108864 = X0 at hR hx0 hc
        have E : bits .or .u64 (X0 : Int) (IntKind.u64.wrap (IntKind.u64.wrap (y : Int) * 4096)) = ((X0 + y * 4096 : Nat) : Int) := by
          have := or_shl X0 y 4096 12 rfl (by decide) hx0 hy
          exact this
        have hXb : X0 + y * 4096 < 67108864 := by omega
        generalize X0 + y * 4096 = X at E hR hXb
        have HR := Aside0.mk hR
        have HV' : Aside0 (dv (List.take (8 + 1) (bys s)) = V + 18446744073709551616 * y) := ⟨HDSk.out⟩
        have t0 : decide ((8 : Int) < (s.size : Int)) = true := decide_eq_true (by omega)
        have hle : 8 < s.size := hlt
        have t00 : (8 : Int) < (s.size : Int) := by omega
        clear hV hV2 hR hx0 hy hy2 h16 HDSk
        simp only [adr] at hc hf
        rw [show ((8 : Nat) : Int) = 8 from rfl]
        have t1 : decide (0 < (X : Int) / 67108864) = false := decide_eq_false (by omega)
        have t2 : decide (0 < X / 67108864) = false := decide_eq_false (by omega)
        clear hXb
        go_wp2_with (fail)
        refine wp_still_tail 13 (by kernel_rfl) (by kernel_rfl) ?_
        intro W hW
        have g1 : W.cell? ⟨w.heap.size + 1, 2, none⟩ = some (.int .u64 (X0 : Int)) := by rw [hW]; exact hc
        have gf : W.frozen? ⟨w.heap.size + 1, 2, none⟩ = false := by rw [hW]; exact hf
        have HW : Aside0 (PN w [List.replicate 5 0, limbs V] W) := ⟨by rw [hW]; exact H.out.drew⟩
        have wj : IntKind.i64.wrap 2 = 2 := by decide +kernel
        have wr_ : IntKind.i64.wrap 12 = 12 := by decide +kernel
        clear hW hc hf
        simp only [List.take_succ_cons, List.take_zero, List.drop_succ_cons, List.drop_zero]
        repeat still_step
        refine wpStill_nil ?_
        clear wj wr_
        go_wp2
        refine ⟨⟨9, by omega, rfl, ?_⟩, by simp [intOf]; omega⟩
        rw [HV'.out, HR.out]
        exact ⟨HW.out.set 1 2 X rfl⟩
      · as_aux_lemma =>
        subst h
        clear HK
        have hV2 : V < 4722366482869645213696 := hV
        have hy2 : y < 256 := hy
        have hR := rd_9 V y hV2 hy2
        have hx0 : V / 4503599627370496 % 67108864 < 1048576 := by omega
        have hc := (H.out.cell 1 2 rfl (by show _ < 5; decide)).1
        have hf := (H.out.cell 1 2 rfl (by show _ < 5; decide)).2
        have hcv : (limbs V).getD 2 0 = V / 4503599627370496 % 67108864 := rfl
        rw [hcv] at hc
        clear hcv
        have hc1 := (H.out.cell 1 3 rfl (by show _ < 5; decide)).1
        have hf1 := (H.out.cell 1 3 rfl (by show _ < 5; decide)).2
        have hcv1 : (limbs V).getD 3 0 = V / 302231454903657293676544 % 67108864 := rfl
        have hz1 : V / 302231454903657293676544 % 67108864 = 0 := by omega
        rw [hcv1, hz1] at hc1
        clear hcv1
        generalize V / 4503599627370496 % 67108864 = X0 at hR hx0 hc
        have E : bits .or .u64 (X0 : Int) (IntKind.u64.wrap (IntKind.u64.wrap (y : Int) * 1048576)) = ((X0 + y * 1048576 : Nat) : Int) := by
          have := or_shl X0 y 1048576 20 rfl (by decide) hx0 hy
          exact this
        have hXb : X0 + y * 1048576 < 17179869184 := by omega
        generalize X0 + y * 1048576 = X at E hR hXb
        have HR := Aside0.mk hR
        have HV' : Aside0 (dv (List.take (9 + 1) (bys s)) = V + 4722366482869645213696 * y) := ⟨HDSk.out⟩
        have t0 : decide ((9 : Int) < (s.size : Int)) = true := decide_eq_true (by omega)
        have hle : 9 < s.size := hlt
        have t00 : (9 : Int) < (s.size : Int) := by omega
        clear hV hV2 hR hx0 hy hy2 h16 HDSk
        simp only [adr] at hc hf hc1 hf1
        rw [show ((9 : Nat) : Int) = 9 from rfl]
        by_cases hov : 67108864 ≤ X
        · as_aux_lemma =>
          have t1 : decide (0 < (X : Int) / 67108864) = true := decide_eq_true (by omega)
          have t2 : decide (0 < X / 67108864) = true := decide_eq_true (by omega)
          have hm := mask26 X (by omega)
          have ho := or_zero64 (X / 67108864) (by omega)
          rw [show ((X / 67108864 : Nat) : Int) = (X : Int) / 67108864 by simp] at ho
          clear hXb hz1
          go_wp2_with (fail)
          refine wp_still_tail 13 (by kernel_rfl) (by kernel_rfl) ?_
          intro W hW
          have g1 : W.cell? ⟨w.heap.size + 1, 2, none⟩ = some (.int .u64 (X0 : Int)) := by rw [hW]; exact hc
          have gf : W.frozen? ⟨w.heap.size + 1, 2, none⟩ = false := by rw [hW]; exact hf
          have HW : Aside0 (PN w [List.replicate 5 0, limbs V] W) := ⟨by rw [hW]; exact H.out.drew⟩
          have wj : IntKind.i64.wrap 2 = 2 := by decide +kernel
          have wr_ : IntKind.i64.wrap 20 = 20 := by decide +kernel
          have g3 : W.cell? ⟨w.heap.size + 1, 3, none⟩ = some (.int .u64 0) := by rw [hW]; exact hc1
          have gf3 : W.frozen? ⟨w.heap.size + 1, 3, none⟩ = false := by rw [hW]; exact hf1
          clear hW hc hf hc1 hf1
          simp only [List.take_succ_cons, List.take_zero, List.drop_succ_cons, List.drop_zero]
          repeat still_step
          refine wpStill_nil ?_
          clear wj wr_
          go_wp2
          refine ⟨⟨10, by omega, rfl, ?_⟩, by simp [intOf]; omega⟩
          rw [HV'.out, HR.out]
          have h1 := (HW.out.set 1 2 X rfl)
          have h2 := (h1.set 1 3 (X / 67108864) (l := (limbs V).set 2 X) rfl)
          have h3 := (h2.set 1 2 (X % 67108864) (l := ((limbs V).set 2 X).set 3 (X / 67108864)) rfl)
          exact ⟨h3⟩
        · as_aux_lemma =>
          have t1 : decide (0 < (X : Int) / 67108864) = false := decide_eq_false (by omega)
          have t2 : decide (0 < X / 67108864) = false := decide_eq_false (by omega)
          have hX0 : X / 67108864 = 0 := by omega
          have hX1 : X % 67108864 = X := by omega
          have HX0 := Aside0.mk hX0
          have HX1 := Aside0.mk hX1
          have hlz : (limbs V).set 3 0 = limbs V := by rw [← hz1]; rfl
          have HLZ := Aside0.mk hlz
          clear hXb hX0 hX1 hlz hz1
          go_wp2_with (fail)
          refine wp_still_tail 13 (by kernel_rfl) (by kernel_rfl) ?_
          intro W hW
          have g1 : W.cell? ⟨w.heap.size + 1, 2, none⟩ = some (.int .u64 (X0 : Int)) := by rw [hW]; exact hc
          have gf : W.frozen? ⟨w.heap.size + 1, 2, none⟩ = false := by rw [hW]; exact hf
          have HW : Aside0 (PN w [List.replicate 5 0, limbs V] W) := ⟨by rw [hW]; exact H.out.drew⟩
          have wj : IntKind.i64.wrap 2 = 2 := by decide +kernel
          have wr_ : IntKind.i64.wrap 20 = 20 := by decide +kernel
          have g3 : W.cell? ⟨w.heap.size + 1, 3, none⟩ = some (.int .u64 0) := by rw [hW]; exact hc1
          have gf3 : W.frozen? ⟨w.heap.size + 1, 3, none⟩ = false := by rw [hW]; exact hf1
          clear hW hc hf hc1 hf1
          simp only [List.take_succ_cons, List.take_zero, List.drop_succ_cons, List.drop_zero]
          repeat still_step
          refine wpStill_nil ?_
          clear wj wr_
          go_wp2
          refine ⟨⟨10, by omega, rfl, ?_⟩, by simp [intOf]; omega⟩
          rw [HV'.out, HR.out]
          rw [HX0.out, HX1.out, HLZ.out]
          exact ⟨HW.out.set 1 2 X rfl⟩
      · as_aux_lemma =>
        subst h
        clear HK
        have hV2 : V < 1208925819614629174706176 := hV
        have hy2 : y < 256 := hy
        have hR := rd_10 V y hV2 hy2
        have hx0 : V / 302231454903657293676544 % 67108864 < 4 := by omega
        have hc := (H.out.cell 1 3 rfl (by show _ < 5; decide)).1
        have hf := (H.out.cell 1 3 rfl (by show _ < 5; decide)).2
        have hcv : (limbs V).getD 3 0 = V / 302231454903657293676544 % 67108864 := rfl
        rw [hcv] at hc
        clear hcv
        generalize V / 302231454903657293676544 % 67108864 = X0 at hR hx0 hc
        have E : bits .or .u64 (X0 : Int) (IntKind.u64.wrap (IntKind.u64.wrap (y : Int) * 4)) = ((X0 + y * 4 : Nat) : Int) := by
          have := or_shl X0 y 4 2 rfl (by decide) hx0 hy
          exact this
        have hXb : X0 + y * 4 < 67108864 := by omega
        generalize X0 + y * 4 = X at E hR hXb
        have HR := Aside0.mk hR
        have HV' : Aside0 (dv (List.take (10 + 1) (bys s)) = V + 1208925819614629174706176 * y) := ⟨HDSk.out⟩
        have t0 : decide ((10 : Int) < (s.size : Int)) = true := decide_eq_true (by omega)
        have hle : 10 < s.size := hlt
        have t00 : (10 : Int) < (s.size : Int) := by omega
        clear hV hV2 hR hx0 hy hy2 h16 HDSk
        simp only [adr] at hc hf
        rw [show ((10 : Nat) : Int) = 10 from rfl]
        have t1 : decide (0 < (X : Int) / 67108864) = false := decide_eq_false (by omega)
        have t2 : decide (0 < X / 67108864) = false := decide_eq_false (by omega)
        clear hXb
        go_wp2_with (fail)
        refine wp_still_tail 13 (by kernel_rfl) (by kernel_rfl) ?_
        intro W hW
        have g1 : W.cell? ⟨w.heap.size + 1, 3, none⟩ = some (.int .u64 (X0 : Int)) := by rw [hW]; exact hc
        have gf : W.frozen? ⟨w.heap.size + 1, 3, none⟩ = false := by rw [hW]; exact hf
        have HW : Aside0 (PN w [List.replicate 5 0, limbs V] W) := ⟨by rw [hW]; exact H.out.drew⟩
        have wj : IntKind.i64.wrap 3 = 3 := by decide +kernel
        have wr_ : IntKind.i64.wrap 2 = 2 := by decide +kernel
        clear hW hc hf
        simp only [List.take_succ_cons, List.take_zero, List.drop_succ_cons, List.drop_zero]
        repeat still_step
        refine wpStill_nil ?_
        clear wj wr_
        go_wp2
        refine ⟨⟨11, by omega, rfl, ?_⟩, by simp [intOf]; omega⟩
        rw [HV'.out, HR.out]
        exact ⟨HW.out.set 1 3 X rfl⟩
      · as_aux_lemma =>
        subst h
        clear HK
        have hV2 : V < 309485009821345068724781056 := hV
        have hy2 : y < 256 := hy
        have hR := rd_11 V y hV2 hy2
        have hx0 : V / 302231454903657293676544 % 67108864 < 1024 := by omega
        have hc := (H.out.cell 1 3 rfl (by show _ < 5; decide)).1
        have hf := (H.out.cell 1 3 rfl (by show _ < 5; decide)).2
        have hcv : (limbs V).getD 3 0 = V / 302231454903657293676544 % 67108864 := rfl
        rw [hcv] at hc
        clear hcv
        generalize V / 302231454903657293676544 % 67108864 = X0 at hR hx0 hc
        have E : bits .or .u64 (X0 : Int) (IntKind.u64.wrap (IntKind.u64.wrap (y : Int) * 1024)) = ((X0 + y * 1024 : Nat) : Int) := by
          have := or_shl X0 y 1024 10 rfl (by decide) hx0 hy
          exact this
        have hXb : X0 + y * 1024 < 67108864 := by omega
        generalize X0 + y * 1024 = X at E hR hXb
        have HR := Aside0.mk hR
        have HV' : Aside0 (dv (List.take (11 + 1) (bys s)) = V + 309485009821345068724781056 * y) := ⟨HDSk.out⟩
        have t0 : decide ((11 : Int) < (s.size : Int)) = true := decide_eq_true (by omega)
        have hle : 11 < s.size := hlt
        have t00 : (11 : Int) < (s.size : Int) := by omega
        clear hV hV2 hR hx0 hy hy2 h16 HDSk
        simp only [adr] at hc hf
        rw [show ((11 : Nat) : Int) = 11 from rfl]
        have t1 : decide (0 < (X : Int) / 67108864) = false := decide_eq_false (by omega)
        have t2 : decide (0 < X / 67108864) = false := decide_eq_false (by omega)
        clear hXb
        go_wp2_with (fail)
        refine wp_still_tail 13 (by kernel_rfl) (by kernel_rfl) ?_
        intro W hW
        have g1 : W.cell? ⟨w.heap.size + 1, 3, none⟩ = some (.int .u64 (X0 : Int)) := by rw [hW]; exact hc
        have gf : W.frozen? ⟨w.heap.size + 1, 3, none⟩ = false := by rw [hW]; exact hf
        have HW : Aside0 (PN w [List.replicate 5 0, limbs V] W) := ⟨by rw [hW]; exact H.out.drew⟩
        have wj : IntKind.i64.wrap 3 = 3 := by decide +kernel
        have wr_ : IntKind.i64.wrap 10 = 10 := by decide +kernel
        clear hW hc hf
        simp only [List.take_succ_cons, List.take_zero, List.drop_succ_cons, List.drop_zero]
        repeat still_step
        refine wpStill_nil ?_
        clear wj wr_
        go_wp2
        refine ⟨⟨12, by omega, rfl, ?_⟩, by simp [intOf]; omega⟩
        rw [HV'.out, HR.out]
        exact ⟨HW.out.set 1 3 X rfl⟩
      · as_aux_lemma =>
        subst h
        clear HK
        have hV2 : V < 79228162514264337593543950336 := hV
        have hy2 : y < 256 := hy
        have hR := rd_12 V y hV2 hy2
        have hx0 : V / 302231454903657293676544 % 67108864 < 262144 := by omega
        have hc := (H.out.cell 1 3 rfl (by show _ < 5; decide)).1
        have hf := (H.out.cell 1 3 rfl (by show _ < 5; decide)).2
        have hcv : (limbs V).getD 3 0 = V / 302231454903657293676544 % 67108864 := rfl
        rw [hcv] at hc
        clear hcv
        generalize V / 302231454903657293676544 % 67108864 = X0 at hR hx0 hc
        have E : bits .or .u64 (X0 : Int) (IntKind.u64.wrap (IntKind.u64.wrap (y : Int) * 262144)) = ((X0 + y * 262144 : Nat) : Int) := by
          have := or_shl X0 y 262144 18 rfl (by decide) hx0 hy
          exact this
        have hXb : X0 + y * 262144 < 67108864 := by omega
        generalize X0 + y * 262144 = X at E hR hXb
        have HR := Aside0.mk hR
        have HV' : Aside0 (dv (List.take (12 + 1) (bys s)) = V + 79228162514264337593543950336 * y) := ⟨HDSk.out⟩
        have t0 : decide ((12 : Int) < (s.size : Int)) = true := decide_eq_true (by omega)
        have hle : 12 < s.size := hlt
        have t00 : (12 : Int) < (s.size : Int) := by omega
        clear hV hV2 hR hx0 hy hy2 h16 HDSk
        simp only [adr] at hc hf
        rw [show ((12 : Nat) : Int) = 12 from rfl]
        have t1 : decide (0 < (X : Int) / 67108864) = false := decide_eq_false (by omega)
        have t2 : decide (0 < X / 67108864) = false := decide_eq_false (by omega)
        clear hXb
        go_wp2_with (fail)
        refine wp_still_tail 13 (by kernel_rfl) (by kernel_rfl) ?_
        intro W hW
        have g1 : W.cell? ⟨w.heap.size + 1, 3, none⟩ = some (.int .u64 (X0 : Int)) := by rw [hW]; exact hc
        have gf : W.frozen? ⟨w.heap.size + 1, 3, none⟩ = false := by rw [hW]; exact hf
        have HW : Aside0 (PN w [List.replicate 5 0, limbs V] W) := ⟨by rw [hW]; exact H.out.drew⟩
        have wj : IntKind.i64.wrap 3 = 3 := by decide +kernel
        have wr_ : IntKind.i64.wrap 18 = 18 := by decide +kernel
        clear hW hc hf
        simp only [List.take_succ_cons, List.take_zero, List.drop_succ_cons, List.drop_zero]
        repeat still_step
        refine wpStill_nil ?_
        clear wj wr_
        go_wp2
        refine ⟨⟨13, by omega, rfl, ?_⟩, by simp [intOf]; omega⟩
        rw [HV'.out, HR.out]
        exact ⟨HW.out.set 1 3 X rfl⟩
      · as_aux_lemma =>
        subst h
        clear HK
        have hV2 : V < 20282409603651670423947251286016 := hV
        have hy2 : y < 256 := hy
        have hR := rd_13 V y hV2 hy2
        have hx0 : V / 20282409603651670423947251286016 % 67108864 < 1 := by omega
        have hc := (H.out.cell 1 4 rfl (by show _ < 5; decide)).1
        have hf := (H.out.cell 1 4 rfl (by show _ < 5; decide)).2
        have hcv : (limbs V).getD 4 0 = V / 20282409603651670423947251286016 % 67108864 := rfl
        rw [hcv] at hc
        clear hcv
        generalize V / 20282409603651670423947251286016 % 67108864 = X0 at hR hx0 hc
        have E : bits .or .u64 (X0 : Int) (IntKind.u64.wrap (IntKind.u64.wrap (y : Int))) = ((X0 + y * 1 : Nat) : Int) := by
          have := or_shl X0 y 1 0 rfl (by decide) hx0 hy
          rw [show ((1 : Nat) : Int) = 1 from rfl, Int.mul_one, wraps_u64 (y : Int) (by omega) (by omega), wraps_u64 (y : Int) (by omega) (by omega)] at this
          rw [wraps_u64 (y : Int) (by omega) (by omega), wraps_u64 (y : Int) (by omega) (by omega), this, Nat.mul_one]
        have hXb : X0 + y * 1 < 67108864 := by omega
        generalize X0 + y * 1 = X at E hR hXb
        have HR := Aside0.mk hR
        have HV' : Aside0 (dv (List.take (13 + 1) (bys s)) = V + 20282409603651670423947251286016 * y) := ⟨HDSk.out⟩
        have t0 : decide ((13 : Int) < (s.size : Int)) = true := decide_eq_true (by omega)
        have hle : 13 < s.size := hlt
        have t00 : (13 : Int) < (s.size : Int) := by omega
        clear hV hV2 hR hx0 hy hy2 h16 HDSk
        simp only [adr] at hc hf
        rw [show ((13 : Nat) : Int) = 13 from rfl]
        have t1 : decide (0 < (X : Int) / 67108864) = false := decide_eq_false (by omega)
        have t2 : decide (0 < X / 67108864) = false := decide_eq_false (by omega)
        clear hXb
        go_wp2_with (fail)
        refine wp_still_tail 13 (by kernel_rfl) (by kernel_rfl) ?_
        intro W hW
        have g1 : W.cell? ⟨w.heap.size + 1, 4, none⟩ = some (.int .u64 (X0 : Int)) := by rw [hW]; exact hc
        have gf : W.frozen? ⟨w.heap.size + 1, 4, none⟩ = false := by rw [hW]; exact hf
        have HW : Aside0 (PN w [List.replicate 5 0, limbs V] W) := ⟨by rw [hW]; exact H.out.drew⟩
        have wj : IntKind.i64.wrap 4 = 4 := by decide +kernel
        have wr_ : IntKind.i64.wrap 0 = 0 := by decide +kernel
        clear hW hc hf
        simp only [List.take_succ_cons, List.take_zero, List.drop_succ_cons, List.drop_zero]
        repeat still_step
        refine wpStill_nil ?_
        clear wj wr_
        go_wp2
        refine ⟨⟨14, by omega, rfl, ?_⟩, by simp [intOf]; omega⟩
        rw [HV'.out, HR.out]
        exact ⟨HW.out.set 1 4 X rfl⟩
      · as_aux_lemma =>
        subst h
        clear HK
        have hV2 : V < 5192296858534827628530496329220096 := hV
        have hy2 : y < 256 := hy
        have hR := rd_14 V y hV2 hy2
        have hx0 : V / 20282409603651670423947251286016 % 67108864 < 256 := by omega
        have hc := (H.out.cell 1 4 rfl (by show _ < 5; decide)).1
        have hf := (H.out.cell 1 4 rfl (by show _ < 5; decide)).2
        have hcv : (limbs V).getD 4 0 = V / 20282409603651670423947251286016 % 67108864 := rfl
        rw [hcv] at hc
        clear hcv
        generalize V / 20282409603651670423947251286016 % 67108864 = X0 at hR hx0 hc
        have E : bits .or .u64 (X0 : Int) (IntKind.u64.wrap (IntKind.u64.wrap (y : Int) * 256)) = ((X0 + y * 256 : Nat) : Int) := by
          have := or_shl X0 y 256 8 rfl (by decide) hx0 hy
          exact this
        have hXb : X0 + y * 256 < 67108864 := by omega
        generalize X0 + y * 256 = X at E hR hXb
        have HR := Aside0.mk hR
        have HV' : Aside0 (dv (List.take (14 + 1) (bys s)) = V + 5192296858534827628530496329220096 * y) := ⟨HDSk.out⟩
        have t0 : decide ((14 : Int) < (s.size : Int)) = true := decide_eq_true (by omega)
        have hle : 14 < s.size := hlt
        have t00 : (14 : Int) < (s.size : Int) := by omega
        clear hV hV2 hR hx0 hy hy2 h16 HDSk
        simp only [adr] at hc hf
        rw [show ((14 : Nat) : Int) = 14 from rfl]
        have t1 : decide (0 < (X : Int) / 67108864) = false := decide_eq_false (by omega)
        have t2 : decide (0 < X / 67108864) = false := decide_eq_false (by omega)
        clear hXb
        go_wp2_with (fail)
        refine wp_still_tail 13 (by kernel_rfl) (by kernel_rfl) ?_
        intro W hW
        have g1 : W.cell? ⟨w.heap.size + 1, 4, none⟩ = some (.int .u64 (X0 : Int)) := by rw [hW]; exact hc
        have gf : W.frozen? ⟨w.heap.size + 1, 4, none⟩ = false := by rw [hW]; exact hf
        have HW : Aside0 (PN w [List.replicate 5 0, limbs V] W) := ⟨by rw [hW]; exact H.out.drew⟩
        have wj : IntKind.i64.wrap 4 = 4 := by decide +kernel
        have wr_ : IntKind.i64.wrap 8 = 8 := by decide +kernel
        clear hW hc hf
        simp only [List.take_succ_cons, List.take_zero, List.drop_succ_cons, List.drop_zero]
        repeat still_step
        refine wpStill_nil ?_
        clear wj wr_
        go_wp2
        refine ⟨⟨15, by omega, rfl, ?_⟩, by simp [intOf]; omega⟩
        rw [HV'.out, HR.out]
        exact ⟨HW.out.set 1 4 X rfl⟩
      · as_aux_lemma =>
        subst h
        clear HK
        have hV2 : V < 1329227995784915872903807060280344576 := hV
        have hy2 : y < 256 := hy
        have hR := rd_15 V y hV2 hy2
        have hx0 : V / 20282409603651670423947251286016 % 67108864 < 65536 := by omega
        have hc := (H.out.cell 1 4 rfl (by show _ < 5; decide)).1
        have hf := (H.out.cell 1 4 rfl (by show _ < 5; decide)).2
        have hcv : (limbs V).getD 4 0 = V / 20282409603651670423947251286016 % 67108864 := rfl
        rw [hcv] at hc
        clear hcv
        generalize V / 20282409603651670423947251286016 % 67108864 = X0 at hR hx0 hc
        have E : bits .or .u64 (X0 : Int) (IntKind.u64.wrap (IntKind.u64.wrap (y : Int) * 65536)) = ((X0 + y * 65536 : Nat) : Int) := by
          have := or_shl X0 y 65536 16 rfl (by decide) hx0 hy
          exact this
        have hXb : X0 + y * 65536 < 67108864 := by omega
        generalize X0 + y * 65536 = X at E hR hXb
        have HR := Aside0.mk hR
        have HV' : Aside0 (dv (List.take (15 + 1) (bys s)) = V + 1329227995784915872903807060280344576 * y) := ⟨HDSk.out⟩
        have t0 : decide ((15 : Int) < (s.size : Int)) = true := decide_eq_true (by omega)
        have hle : 15 < s.size := hlt
        have t00 : (15 : Int) < (s.size : Int) := by omega
        clear hV hV2 hR hx0 hy hy2 h16 HDSk
        simp only [adr] at hc hf
        rw [show ((15 : Nat) : Int) = 15 from rfl]
        have t1 : decide (0 < (X : Int) / 67108864) = false := decide_eq_false (by omega)
        have t2 : decide (0 < X / 67108864) = false := decide_eq_false (by omega)
        clear hXb
        go_wp2_with (fail)
        refine wp_still_tail 13 (by kernel_rfl) (by kernel_rfl) ?_
        intro W hW
        have g1 : W.cell? ⟨w.heap.size + 1, 4, none⟩ = some (.int .u64 (X0 : Int)) := by rw [hW]; exact hc
        have gf : W.frozen? ⟨w.heap.size + 1, 4, none⟩ = false := by rw [hW]; exact hf
        have HW : Aside0 (PN w [List.replicate 5 0, limbs V] W) := ⟨by rw [hW]; exact H.out.drew⟩
        have wj : IntKind.i64.wrap 4 = 4 := by decide +kernel
        have wr_ : IntKind.i64.wrap 16 = 16 := by decide +kernel
        clear hW hc hf
        simp only [List.take_succ_cons, List.take_zero, List.drop_succ_cons, List.drop_zero]
        repeat still_step
        refine wpStill_nil ?_
        clear wj wr_
        go_wp2
        refine ⟨⟨16, by omega, rfl, ?_⟩, by simp [intOf]; omega⟩
        rw [HV'.out, HR.out]
        exact ⟨HW.out.set 1 4 X rfl⟩
      · as_aux_lemma =>
        subst h
        clear HK
        have hV2 : V < 340282366920938463463374607431768211456 := hV
        have hy2 : y < 4 := h16 rfl
        have hR := rd_16 V y hV2 hy2
        have hx0 : V / 20282409603651670423947251286016 % 67108864 < 16777216 := by omega
        have hc := (H.out.cell 1 4 rfl (by show _ < 5; decide)).1
        have hf := (H.out.cell 1 4 rfl (by show _ < 5; decide)).2
        have hcv : (limbs V).getD 4 0 = V / 20282409603651670423947251286016 % 67108864 := rfl
        rw [hcv] at hc
        clear hcv
        generalize V / 20282409603651670423947251286016 % 67108864 = X0 at hR hx0 hc
        have E : bits .or .u64 (X0 : Int) (IntKind.u64.wrap (IntKind.u64.wrap (y : Int) * 16777216)) = ((X0 + y * 16777216 : Nat) : Int) := by
          have := or_shl X0 y 16777216 24 rfl (by decide) hx0 hy
          exact this
        have hXb : X0 + y * 16777216 < 67108864 := by omega
        generalize X0 + y * 16777216 = X at E hR hXb
        have HR := Aside0.mk hR
        have HV' : Aside0 (dv (List.take (16 + 1) (bys s)) = V + 340282366920938463463374607431768211456 * y) := ⟨HDSk.out⟩
        have t0 : decide ((16 : Int) < (s.size : Int)) = true := decide_eq_true (by omega)
        have hle : 16 < s.size := hlt
        have t00 : (16 : Int) < (s.size : Int) := by omega
        clear hV hV2 hR hx0 hy hy2 h16 HDSk
        simp only [adr] at hc hf
        rw [show ((16 : Nat) : Int) = 16 from rfl]
        have t1 : decide (0 < (X : Int) / 67108864) = false := decide_eq_false (by omega)
        have t2 : decide (0 < X / 67108864) = false := decide_eq_false (by omega)
        clear hXb
        go_wp2_with (fail)
        refine wp_still_tail 13 (by kernel_rfl) (by kernel_rfl) ?_
        intro W hW
        have g1 : W.cell? ⟨w.heap.size + 1, 4, none⟩ = some (.int .u64 (X0 : Int)) := by rw [hW]; exact hc
        have gf : W.frozen? ⟨w.heap.size + 1, 4, none⟩ = false := by rw [hW]; exact hf
        have HW : Aside0 (PN w [List.replicate 5 0, limbs V] W) := ⟨by rw [hW]; exact H.out.drew⟩
        have wj : IntKind.i64.wrap 4 = 4 := by decide +kernel
        have wr_ : IntKind.i64.wrap 24 = 24 := by decide +kernel
        clear hW hc hf
        simp only [List.take_succ_cons, List.take_zero, List.drop_succ_cons, List.drop_zero]
        repeat still_step
        refine wpStill_nil ?_
        clear wj wr_
        go_wp2
        refine ⟨⟨17, by omega, rfl, ?_⟩, by simp [intOf]; omega⟩
        rw [HV'.out, HR.out]
        exact ⟨HW.out.set 1 4 X rfl⟩
    · obtain rfl : k = s.size := by omega
      clear hlt hk
      have hr : dv ((bys s).take s.size) = dv (bys s) := by rw [← bys_length, List.take_length]
      rw [hr] at H
      have HCL := Aside0.mk (show (limbs (dv (bys s))).length = 5 from rfl)
      generalize hR : limbs (dv (bys s)) = r at *
      have HRe := Aside0.mk hR
      clear hR hr
      go_upto_region 12 with (fail)
      have hrow := H.out.rows 1 r rfl
      have hout := H.out.rows 0 _ rfl
      simp only [adr] at hrow hout
      have hsz : (Try.prog.info? 159).map (·.size) = some (u64s r).size := by rw [u64s_size, HCL.out]; exact HI.out
      have hsz2 : (u64s (List.replicate 5 0)).size = (u64s r).size := by rw [u64s_size, u64s_size, HCL.out]; rfl
      have HROW := Aside0.mk hrow
      have HOUT := Aside0.mk hout
      have HSZ := Aside0.mk hsz
      have HSZ2 := Aside0.mk hsz2
      clear hrow hout hsz hsz2
      go_wp2_with (first | (with_reducible refine wpList_load_row rfl 159 (.tmp 3) rfl (w.heap.size + 1) rfl 159 (u64s r) (0, 0) _ HROW.out Try.underlying159 rfl HSZ.out ?_) | (refine wpList_store_row rfl 159 (.tmp 2) (.tmp 49) rfl (w.heap.size) (u64s r) rfl rfl 159 _ HOUT.out HSZ.out HSZ2.out (u64s_one _) ?_))
      exact bodyPost_ret (results_cell_row Try.results131 _ _ (w.heap.size) 159 (u64s r) (0, 0) _ rfl (setRow_heap _ _ _ _ _ _ HOUT.out) Try.underlying159 rfl HSZ.out) rfl ⟨by first | (rw [HRe.out]; done) | (rw [HRe.out]; rfl) | rfl, below_setRow H.out.below (by omega) _⟩
end Go.Proofs.Ytbkbganflnemeaa.Pr
end

section
namespace Go.Proofs.Ytbkbganflnemeaa.Pr
open Go.RowKit Go.Deep Go.Proofs.YtbkbganflnemeaaW.PrintWords Go.Proofs.YtbkbganflnemeaaW.PrintLast Go.Proofs.YtbkbganflnemeaaW.PrintMore
set_option maxHeartbeats 2000000
set_option linter.unusedVariables false
set_option linter.unusedSimpArgs false
def blkN (s : List Nat) (j : Nat) : Nat := dv ((s.drop (16 * j)).take 16 ++ [1])
def accL (r s : List Nat) : Nat → List Nat
  | 0 => List.replicate 5 0
  | j + 1 => car (mulL (addL (accL r s j) (limbs (blkN s j))) r)
def pmacL (key s : List Nat) : List Nat := outT (lv (whole (accL (limbs (dv (clampL (key.take 16)))) s ((s.length + 15) / 16)))) (key.drop 16) 16
theorem accL_lim {r : List Nat} (hr : Lim 67108864 r) (s : List Nat) : ∀ j, Lim 67141632 (accL r s j)
  | 0 => by
    have : accL r s 0 = [0, 0, 0, 0, 0] := rfl
    rw [this]; apply Lim.mk5 <;> decide
  | j + 1 => car_lim (mulL_lim ((addL_lim (accL_lim hr s j) (limbs_lim _)).mono (by decide)) hr)
def PN5 (r : List Nat) (a b c d e : Nat) : Prop := r = [a, b, c, d, e]
structure MA (w : World) (gr ga : Nat) (r a : List Nat) (W : World) : Prop where
  below : Below w.heap.size w W
  rrow : W.heap[gr]? = some (.cells (u64s r) 159 (0, 0))
  arow : W.heap[ga]? = some (.cells (u64s a) 159 (0, 0))
  ne : gr ≠ ga
  ge : w.heap.size ≤ ga
theorem MA.put5 {w W : World} {gr ga : Nat} {r a : List Nat} (h : MA w gr ga r a W) {x0 x1 x2 x3 x4 : Nat} (y0 y1 y2 y3 y4 : Nat) (ha : a = [x0, x1, x2, x3, x4] := by rfl) : MA w gr ga r [y0, y1, y2, y3, y4] (((((W.setCell ⟨ga, 0, none⟩ (.int .u64 (y0 : Int))).setCell ⟨ga, 1, none⟩ (.int .u64 (y1 : Int))).setCell ⟨ga, 2, none⟩ (.int .u64 (y2 : Int))).setCell ⟨ga, 3, none⟩ (.int .u64 (y3 : Int))).setCell ⟨ga, 4, none⟩ (.int .u64 (y4 : Int))) := by
  subst ha
  have hn := h.ne
  have hg := h.ge
  refine ⟨?_, ?_, ?_, hn, hg⟩
  · exact below_set (below_set (below_set (below_set (below_set h.below hg) hg) hg) hg) hg
  · exact blk_far (blk_far (blk_far (blk_far (blk_far h.rrow hn _) hn _) hn _) hn _) hn _
  · exact blk_put (blk_put (blk_put (blk_put (blk_put h.arow 0 _ rfl) 1 _ rfl) 2 _ rfl) 3 _ rfl) 4 _ rfl
set_option maxRecDepth 100000 in
theorem poly_Mac.yes (a0 a1 : ByteArray) (w : World) (h0 : a0.size = 32) (h1 : a1.size ≤ 65536) :
    Calls Try.prog 101 #[.string a0, .string a1] w fun E w' => E = .returned (.tuple #[.string (txt (pmacL (bys a0) (bys a1))), .int .i64 0]) ∧ Below w.heap.size w w' := by
  have hcl := poly_Clamp.yes (a0.extract 0 16)
  have hks : (a0.extract 0 16).size = 16 := by rw [ByteArray.size_extract]; omega
  have HCL := Aside0.mk (fun W => hcl W hks)
  clear hcl hks
  have hsz : (txt (clampL (bys (a0.extract 0 16)))).size = 16 := by rw [txt_size, clampL_length, bys_length, ByteArray.size_extract]; omega
  have hb : bys (txt (clampL (bys (a0.extract 0 16)))) = clampL (bys (a0.extract 0 16)) := bys_txt (clampL_lt _ (bys_lt _))
  have hrd := fun W => poly_read_calls (txt (clampL (bys (a0.extract 0 16)))) W (by omega) (by rw [List.getD_eq_getElem?_getD, List.getElem?_eq_none (by rw [bys_length]; omega)]; decide)
  rw [hb] at hrd
  have HRD := Aside0.mk hrd
  clear hrd hb hsz
  have t1 : ((a0.size : Int) != 32) = false := by rw [bne_eq_false_iff_eq]; omega
  have t2 : decide (65536 < (a1.size : Int)) = false := decide_eq_false (by omega)
  go_enter Try.func101, Try.ntmps101
  go_wp2_with (fail)
  refine (HCL.out _).mono ?_
  rintro e w1 ⟨rfl, hb1⟩
  have HKe : Aside0 (clampL (bys (a0.extract 0 16)) = clampL ((bys a0).take 16)) := ⟨by rw [bys_extract]; rfl⟩
  have hrl := limbs_lim (dv (clampL (bys (a0.extract 0 16))))
  have HRe : Aside0 (limbs (dv (clampL (bys (a0.extract 0 16)))) = limbs (dv (clampL ((bys a0).take 16)))) := ⟨by rw [HKe.out]⟩
  have hi : ∀ m : List Nat, m.length = 5 → (Try.prog.info? 159).map (·.size) = some (u64s m).size := by intro m hm; rw [u64s_size, hm]; kernel_rfl
  have HI := Aside0.mk hi
  clear hi
  go_wp2_with (fail)
  refine (HRD.out _).mono ?_
  generalize limbs (dv (clampL (bys (a0.extract 0 16)))) = r at hrl HRe ⊢
  have HRL := Aside0.mk hrl
  clear hrl HRD
  rintro e w2 ⟨rfl, hb2⟩
  go_upto_region 5 with (refine wpList_store_row rfl 159 (.tmp 8) (.tmp 26) rfl _ (u64s r) rfl rfl 159 _ (heap_alloc_last _ _) (HI.out r HRL.out.len) (by rw [u64s_size, HRL.out.len]; rfl) (u64s_one _) ?_; rw [World.setRow_alloc_new])
  go_wp2_with (fail)
  have HS : Aside0 (a1 = a1.extract (min (16 * 0) a1.size) a1.size) := ⟨by simp⟩
  have H : Aside0 (MA w w2.heap.size (w2.heap.size + 1) r (accL r (bys a1) 0) ((w2.alloc (.cells (u64s r) 159)).alloc (.cells (u64s (List.replicate 5 0)) 159))) := ⟨⟨below_alloc (below_alloc (below_then hb1 hb1.size hb2) _) _, blk_alloc (blk_new _ _) _, by
    have := blk_new (w2.alloc (.cells (u64s r) 159)) (.cells (u64s (List.replicate 5 0)) 159)
    rwa [show (w2.alloc (.cells (u64s r) 159)).heap.size = w2.heap.size + 1 by simp] at this, by omega, Nat.le_succ_of_le (Nat.le_trans hb1.size hb2.size)⟩⟩
  have e5 : #[Value.int IntKind.u64 0, Value.int IntKind.u64 0, Value.int IntKind.u64 0, Value.int IntKind.u64 0, Value.int IntKind.u64 0] = u64s (List.replicate 5 0) := rfl
  rw [e5]
  clear e5 hb1 hb2
  generalize (w2.alloc (.cells (u64s r) 159)).alloc (.cells (u64s (List.replicate 5 0)) 159) = W0 at H ⊢
  generalize w2.heap.size + 1 = ga at H ⊢
  generalize w2.heap.size = gr at H ⊢
  go_loopw [1] (fun s wr => ∃ j : Nat, 16 * j < a1.size + 16 ∧ s = .string (a1.extract (min (16 * j) a1.size) a1.size) ∧ Aside0 (MA w gr ga r (accL r (bys a1) j) wr)) (fun s _ => (match s with | .string t => t.size | _ => 0))
  case atStart => exact ⟨0, by omega, by rw [← HS.out], H⟩
  case round =>
    clear H
    obtain ⟨j, hj, rfl, H⟩ := hrel
    have hts : (a1.extract (min (16 * j) a1.size) a1.size).size = a1.size - 16 * j := by rw [ByteArray.size_extract]; omega
    have htb : bys (a1.extract (min (16 * j) a1.size) a1.size) = (bys a1).drop (16 * j) := by
      rw [bys_extract]
      by_cases hc : 16 * j ≤ a1.size
      · rw [Nat.min_eq_left hc, List.take_of_length_le (by rw [List.length_drop, bys_length]; omega)]
      · rw [Nat.min_eq_right (by omega), List.drop_of_length_le (by rw [bys_length]; omega), List.drop_of_length_le (by rw [bys_length]; omega)]; simp
    have hte : ∀ q, q ≤ a1.size - 16 * j → (a1.extract (min (16 * j) a1.size) a1.size).extract q (a1.size - 16 * j) = a1.extract (min (16 * j) a1.size + q) a1.size := by
      intro q hq
      rw [ByteArray.extract_extract]
      congr 1
      omega
    by_cases hlt : 16 * j < a1.size
    · generalize a1.extract (min (16 * j) a1.size) a1.size = τ at hts htb hte ⊢
      have hne : τ.toList.isEmpty = false := by
        rw [ByteArray.toList_eq]
        cases hl : τ.data.toList with
        | nil => have := data_length τ; rw [hl] at this; simp at this; omega
        | cons x l => rfl
      have HTB := Aside0.mk htb
      have HTE := Aside0.mk hte
      have HTS := Aside0.mk hts
      have hpos : 0 < τ.size := by omega
      have hle : τ.size ≤ 65536 := by omega
      clear htb hte hts
      go_upto_region 8 with (fail)
      rw [show min 16 (τ.size : Int) = ((min 16 τ.size : Nat) : Int) by omega]
      have hq1 : min 16 τ.size ≤ τ.size := by omega
      have hq2 : min 16 τ.size ≤ 16 := by omega
      have hq3 : 0 < min 16 τ.size := by omega
      have HQ : Aside0 (min 16 τ.size = 16 ∨ min 16 τ.size = τ.size) := ⟨by omega⟩
      generalize min 16 τ.size = q at hq1 hq2 hq3 HQ ⊢
      have hT : bys (τ.extract 0 q ++ ⟨#[1]⟩) = ((bys a1).drop (16 * j)).take 16 ++ [1] := by
        rw [bys_append, bys_extract, HTB.out, List.drop_zero, Nat.sub_zero]
        congr 1
        rcases HQ.out with h | h
        · rw [h]
        · rw [h, HTS.out, List.take_of_length_le (by rw [List.length_drop, bys_length]; omega), List.take_of_length_le (by rw [List.length_drop, bys_length]; have := HTS.out; omega)]
      have hTs : (τ.extract 0 q ++ (⟨#[1]⟩ : ByteArray)).size ≤ 17 := by
        rw [ByteArray.size_append, ByteArray.size_extract]; show min q τ.size - 0 + 1 ≤ 17; omega
      have h16 : (bys (τ.extract 0 q ++ ⟨#[1]⟩)).getD 16 0 < 4 := by
        rw [hT, List.getD_eq_getElem?_getD]
        generalize hB : ((bys a1).drop (16 * j)).take 16 = B
        have hBl : B.length ≤ 16 := by rw [← hB, List.length_take]; omega
        by_cases hB16 : B.length = 16
        · rw [List.getElem?_append_right (by omega), hB16]; decide
        · rw [List.getElem?_eq_none (by rw [List.length_append]; simp; omega)]; decide
      have HRT : Aside0 (∀ W, Calls Try.prog 131 #[.string (τ.extract 0 q ++ ⟨#[1]⟩)] W fun E w' => E = .returned (.agg (u64s (limbs (blkN (bys a1) j)))) ∧ Below W.heap.size W w') := ⟨fun W => by
        have := poly_read_calls _ W hTs h16
        rw [hT] at this
        exact this⟩
      have hNl := limbs_lim (blkN (bys a1) j)
      have hacc : accL r (bys a1) (j + 1) = car (mulL (addL (accL r (bys a1) j) (limbs (blkN (bys a1) j))) r) := rfl
      have hAl := accL_lim HRL.out (bys a1) j
      generalize limbs (blkN (bys a1) j) = N at HRT hNl hacc
      have hAD := fun W => number_add_calls (accL r (bys a1) j) N W (hAl.mono (by decide)) (hNl.mono (by decide))
      have hDl : Lim 268435456 (addL (accL r (bys a1) j) N) := (addL_lim hAl hNl).mono (by decide)
      generalize addL (accL r (bys a1) j) N = D at hacc hAD hDl
      have hTM := fun W => number_times_calls D r W hDl HRL.out
      have hCl : (car (mulL D r)).length = 5 := by rw [car_length]; simp [mulL]
      rw [← hacc] at hTM hCl
      obtain ⟨y0, y1, y2, y3, y4, hy⟩ := five hCl
      obtain ⟨x0, x1, x2, x3, x4, hx⟩ := five hAl.len
      obtain ⟨r0, r1, r2, r3, r4, hr⟩ := five HRL.out.len
      have HY := Aside0.mk hy
      rw [hy] at hTM
      rw [hx] at hAD H
      rw [hr] at hTM
      have HRr : Aside0 (PN5 r r0 r1 r2 r3 r4) := ⟨hr⟩
      have hrr := H.out.rrow
      rw [hr] at hrr
      have HAD : Aside0 (∀ W, Calls Try.prog 132 #[.agg #[.int .u64 (x0 : Int), .int .u64 (x1 : Int), .int .u64 (x2 : Int), .int .u64 (x3 : Int), .int .u64 (x4 : Int)], .agg (u64s N)] W fun e w' => e = .returned (.agg (u64s D)) ∧ Below W.heap.size W w') := ⟨hAD⟩
      have HTM : Aside0 (∀ W, Calls Try.prog 133 #[.agg (u64s D), .agg #[.int .u64 (r0 : Int), .int .u64 (r1 : Int), .int .u64 (r2 : Int), .int .u64 (r3 : Int), .int .u64 (r4 : Int)]] W fun e w' => e = .returned (.agg #[.int .u64 (y0 : Int), .int .u64 (y1 : Int), .int .u64 (y2 : Int), .int .u64 (y3 : Int), .int .u64 (y4 : Int)]) ∧ Below W.heap.size W w') := ⟨hTM⟩
      have ca0 : wr.cell? ⟨ga, 0, none⟩ = some (.int .u64 (x0 : Int)) := blk_cell H.out.arow 0
      have ca1 : wr.cell? ⟨ga, 1, none⟩ = some (.int .u64 (x1 : Int)) := blk_cell H.out.arow 1
      have ca2 : wr.cell? ⟨ga, 2, none⟩ = some (.int .u64 (x2 : Int)) := blk_cell H.out.arow 2
      have ca3 : wr.cell? ⟨ga, 3, none⟩ = some (.int .u64 (x3 : Int)) := blk_cell H.out.arow 3
      have ca4 : wr.cell? ⟨ga, 4, none⟩ = some (.int .u64 (x4 : Int)) := blk_cell H.out.arow 4
      have cr0 : wr.cell? ⟨gr, 0, none⟩ = some (.int .u64 (r0 : Int)) := blk_cell hrr 0
      have cr1 : wr.cell? ⟨gr, 1, none⟩ = some (.int .u64 (r1 : Int)) := blk_cell hrr 1
      have cr2 : wr.cell? ⟨gr, 2, none⟩ = some (.int .u64 (r2 : Int)) := blk_cell hrr 2
      have cr3 : wr.cell? ⟨gr, 3, none⟩ = some (.int .u64 (r3 : Int)) := blk_cell hrr 3
      have cr4 : wr.cell? ⟨gr, 4, none⟩ = some (.int .u64 (r4 : Int)) := blk_cell hrr 4
      have k3 : (9223372036854775807 < q + 1) = False := eq_false (by omega)
      have kq : (q : Int) ≤ (τ.size : Int) := by omega
      clear hT hTs h16 hNl hacc hAl hAD hDl hTM hCl hy hx hr hrr
      refine start_ (n := 10) (S := fun w' => w'.cell? ⟨ga, 0, none⟩ = some (.int .u64 (x0 : Int)) ∧ w'.cell? ⟨ga, 1, none⟩ = some (.int .u64 (x1 : Int)) ∧ w'.cell? ⟨ga, 2, none⟩ = some (.int .u64 (x2 : Int)) ∧ w'.cell? ⟨ga, 3, none⟩ = some (.int .u64 (x3 : Int)) ∧ w'.cell? ⟨ga, 4, none⟩ = some (.int .u64 (x4 : Int)) ∧ w'.cell? ⟨gr, 0, none⟩ = some (.int .u64 (r0 : Int)) ∧ w'.cell? ⟨gr, 1, none⟩ = some (.int .u64 (r1 : Int)) ∧ w'.cell? ⟨gr, 2, none⟩ = some (.int .u64 (r2 : Int)) ∧ w'.cell? ⟨gr, 3, none⟩ = some (.int .u64 (r3 : Int)) ∧ w'.cell? ⟨gr, 4, none⟩ = some (.int .u64 (r4 : Int))) (ds := [9]) #[false, false, false, false, false, false, false, false, false, false] (by kernel_rfl) rfl rfl ⟨(show _ from ca0), (show _ from ca1), (show _ from ca2), (show _ from ca3), (show _ from ca4), (show _ from cr0), (show _ from cr1), (show _ from cr2), (show _ from cr3), (show _ from cr4)⟩ (fun hHeld => ?_)
      refine pure_ (i := 1) (N := some 33) (v := ?_) (a' := ?_) #[false, true, false, false, false, false, false, false, false, false] rfl rfl (by kernel_rfl) (fun _ _ _ h => h) (Or.inl ⟨by rfl, ?_⟩) ?_ ?_
      rotate_left
      · intro w'
        go_simp
        with_reducible rfl
      rotate_left
      · simp only [Act.put, List.setIfInBounds_toArray, List.set_cons_zero, List.set_cons_succ, i64_w, i32_w]
        rfl
      refine pure_ (i := 2) (N := some 34) (v := ?_) (a' := ?_) #[false, true, true, false, false, false, false, false, false, false] rfl rfl (by kernel_rfl) (fun _ _ _ h => h) (Or.inl ⟨by rfl, ?_⟩) ?_ ?_
      rotate_left
      · intro w'
        go_simp
        with_reducible rfl
      rotate_left
      · simp only [Act.put, List.setIfInBounds_toArray, List.set_cons_zero, List.set_cons_succ, i64_w, i32_w]
        rfl
      refine pure_ (i := 3) (N := some 35) (v := ?_) (a' := ?_) #[false, true, true, true, false, false, false, false, false, false] rfl rfl (by kernel_rfl) (fun _ _ _ h => h) (Or.inl ⟨by rfl, ?_⟩) ?_ ?_
      rotate_left
      · intro w'
        go_simp
        with_reducible rfl
      rotate_left
      · simp only [Act.put, List.setIfInBounds_toArray, List.set_cons_zero, List.set_cons_succ, i64_w, i32_w]
        rfl
      refine pure_ (i := 4) (N := some 36) (v := ?_) (a' := ?_) #[false, true, true, true, true, false, false, false, false, false] rfl rfl (by kernel_rfl) (fun _ _ _ h => h) (Or.inl ⟨by rfl, ?_⟩) ?_ ?_
      rotate_left
      · intro w'
        go_simp
        with_reducible rfl
      rotate_left
      · simp only [Act.put, List.setIfInBounds_toArray, List.set_cons_zero, List.set_cons_succ, i64_w, i32_w]
        rfl
      refine take_ (i := 0) (N := some 32) (v := ?_) (a' := ?_) #[true, true, true, true, true, false, false, false, false, false] rfl rfl (by kernel_rfl) (fun _ _ _ h => h) (Or.inl ⟨by rfl, ?_⟩) hHeld ?_ ?_
      rotate_left
      · rintro w' ⟨s0, s1, s2, s3, s4, s5, s6, s7, s8, s9⟩
        go_simp
        with_reducible rfl
      rotate_left
      · simp only [Act.put, List.setIfInBounds_toArray, List.set_cons_zero, List.set_cons_succ, i64_w, i32_w]
        rfl
      refine take_ (i := 7) (N := some 39) (v := ?_) (a' := ?_) #[true, true, true, true, true, false, false, true, false, false] rfl rfl (by kernel_rfl) (fun _ _ _ h => h) (Or.inl ⟨by rfl, ?_⟩) hHeld ?_ ?_
      rotate_left
      · rintro w' ⟨s0, s1, s2, s3, s4, s5, s6, s7, s8, s9⟩
        go_simp
        with_reducible rfl
      rotate_left
      · simp only [Act.put, List.setIfInBounds_toArray, List.set_cons_zero, List.set_cons_succ, i64_w, i32_w]
        rfl
      refine one_ (i := 5) (N := some 37) #[true, true, true, true, true, true, false, true, false, false] rfl rfl (by kernel_rfl) (by decide) (fun K hK => ?_)
      refine goes_ Try.func131 (by kernel_rfl) rfl #[.string (τ.extract 0 q ++ ⟨#[1]⟩)] (by rfl) rfl rfl (by simp only [List.map_toArray, List.map_cons, List.map_nil]; rfl) ?_
      with_reducible refine (HRT.out _).mono ?_
      rintro e w3 ⟨rfl, hb3⟩
      refine ⟨_, rfl, ?_⟩
      refine hK.out _ _ ⟨(pw_cell_below hb3 (show _ from ca0)), (pw_cell_below hb3 (show _ from ca1)), (pw_cell_below hb3 (show _ from ca2)), (pw_cell_below hb3 (show _ from ca3)), (pw_cell_below hb3 (show _ from ca4)), (pw_cell_below hb3 (show _ from cr0)), (pw_cell_below hb3 (show _ from cr1)), (pw_cell_below hb3 (show _ from cr2)), (pw_cell_below hb3 (show _ from cr3)), (pw_cell_below hb3 (show _ from cr4))⟩ (fun hHeld => ?_)
      clear hK K
      refine norm_ (a' := ?_) ?_ ?_
      rotate_left
      · show Act.put _ (some 37) _ = _
        simp only [Act.put, List.setIfInBounds_toArray, List.set_cons_zero, List.set_cons_succ, i64_w, i32_w]
        rfl
      refine one_ (i := 6) (N := some 38) #[true, true, true, true, true, true, true, true, false, false] rfl rfl (by kernel_rfl) (by decide) (fun K hK => ?_)
      refine goes_ Try.func132 (by kernel_rfl) rfl #[.agg #[.int .u64 (x0 : Int), .int .u64 (x1 : Int), .int .u64 (x2 : Int), .int .u64 (x3 : Int), .int .u64 (x4 : Int)], .agg (u64s N)] (by rfl) rfl rfl (by simp only [List.map_toArray, List.map_cons, List.map_nil]; rfl) ?_
      with_reducible refine (HAD.out _).mono ?_
      rintro e w4 ⟨rfl, hb4⟩
      refine ⟨_, rfl, ?_⟩
      refine hK.out _ _ ⟨(pw_cell_below hb4 (pw_cell_below hb3 (show _ from ca0))), (pw_cell_below hb4 (pw_cell_below hb3 (show _ from ca1))), (pw_cell_below hb4 (pw_cell_below hb3 (show _ from ca2))), (pw_cell_below hb4 (pw_cell_below hb3 (show _ from ca3))), (pw_cell_below hb4 (pw_cell_below hb3 (show _ from ca4))), (pw_cell_below hb4 (pw_cell_below hb3 (show _ from cr0))), (pw_cell_below hb4 (pw_cell_below hb3 (show _ from cr1))), (pw_cell_below hb4 (pw_cell_below hb3 (show _ from cr2))), (pw_cell_below hb4 (pw_cell_below hb3 (show _ from cr3))), (pw_cell_below hb4 (pw_cell_below hb3 (show _ from cr4)))⟩ (fun hHeld => ?_)
      clear hK K
      refine norm_ (a' := ?_) ?_ ?_
      rotate_left
      · show Act.put _ (some 38) _ = _
        simp only [Act.put, List.setIfInBounds_toArray, List.set_cons_zero, List.set_cons_succ, i64_w, i32_w]
        rfl
      refine one_ (i := 8) (N := some 40) #[true, true, true, true, true, true, true, true, true, false] rfl rfl (by kernel_rfl) (by decide) (fun K hK => ?_)
      refine goes_ Try.func133 (by kernel_rfl) rfl #[.agg (u64s D), .agg #[.int .u64 (r0 : Int), .int .u64 (r1 : Int), .int .u64 (r2 : Int), .int .u64 (r3 : Int), .int .u64 (r4 : Int)]] (by rfl) rfl rfl (by simp only [List.map_toArray, List.map_cons, List.map_nil]; rfl) ?_
      with_reducible refine (HTM.out _).mono ?_
      rintro e w5 ⟨rfl, hb5⟩
      refine ⟨_, rfl, ?_⟩
      have hrow5 := blk_below (blk_below (blk_below (blk_drew H.out.arow) hb3) hb4) hb5
      have hbel5 := below_then (below_then (below_then (below_drew H.out.below) H.out.below.size hb3) (Nat.le_trans H.out.below.size hb3.size) hb4) (Nat.le_trans (Nat.le_trans H.out.below.size hb3.size) hb4.size) hb5
      have hrr5 := blk_below (blk_below (blk_below (blk_drew H.out.rrow) hb3) hb4) hb5
      have kf : ∀ i, w5.frozen? ⟨ga, i, none⟩ = false := fun i => blk_frozen hrow5 i
      refine hK.out _ _ ⟨(pw_cell_below hb5 (pw_cell_below hb4 (pw_cell_below hb3 (show _ from ca0)))), (pw_cell_below hb5 (pw_cell_below hb4 (pw_cell_below hb3 (show _ from ca1)))), (pw_cell_below hb5 (pw_cell_below hb4 (pw_cell_below hb3 (show _ from ca2)))), (pw_cell_below hb5 (pw_cell_below hb4 (pw_cell_below hb3 (show _ from ca3)))), (pw_cell_below hb5 (pw_cell_below hb4 (pw_cell_below hb3 (show _ from ca4)))), (pw_cell_below hb5 (pw_cell_below hb4 (pw_cell_below hb3 (show _ from cr0)))), (pw_cell_below hb5 (pw_cell_below hb4 (pw_cell_below hb3 (show _ from cr1)))), (pw_cell_below hb5 (pw_cell_below hb4 (pw_cell_below hb3 (show _ from cr2)))), (pw_cell_below hb5 (pw_cell_below hb4 (pw_cell_below hb3 (show _ from cr3)))), (pw_cell_below hb5 (pw_cell_below hb4 (pw_cell_below hb3 (show _ from cr4))))⟩ (fun hHeld => ?_)
      clear hK K
      refine norm_ (a' := ?_) ?_ ?_
      rotate_left
      · show Act.put _ (some 40) _ = _
        simp only [Act.put, List.setIfInBounds_toArray, List.set_cons_zero, List.set_cons_succ, i64_w, i32_w]
        rfl
      refine last_ (i := 9) (N := none) #[true, true, true, true, true, true, true, true, true, true] rfl rfl (by kernel_rfl) (by decide) (fun K hK => ?_)
      refine skip_ (w1 := ?_) (by rfl) rfl ?_ ?_
      rotate_left
      · go_simp
        rfl
      refine hK.out _ _ ?_
      clear hK K
      refine done_ (by kernel_rfl) ?_
      have HN : Aside0 (MA w gr ga r (accL r (bys a1) (j + 1)) (((((w5.setCell ⟨ga, 0, none⟩ (.int .u64 (y0 : Int))).setCell ⟨ga, 1, none⟩ (.int .u64 (y1 : Int))).setCell ⟨ga, 2, none⟩ (.int .u64 (y2 : Int))).setCell ⟨ga, 3, none⟩ (.int .u64 (y3 : Int))).setCell ⟨ga, 4, none⟩ (.int .u64 (y4 : Int)))) := ⟨by
        rw [HY.out]
        exact MA.put5 ⟨hbel5, hrr5, hrow5, H.out.ne, H.out.ge⟩ y0 y1 y2 y3 y4⟩
      clear ca0 ca1 ca2 ca3 ca4 cr0 cr1 cr2 cr3 cr4 hHeld kf k3 hrow5 hbel5 hrr5 hb3 hb4 hb5 H
      generalize (((((w5.setCell ⟨ga, 0, none⟩ (.int .u64 (y0 : Int))).setCell ⟨ga, 1, none⟩ (.int .u64 (y1 : Int))).setCell ⟨ga, 2, none⟩ (.int .u64 (y2 : Int))).setCell ⟨ga, 3, none⟩ (.int .u64 (y3 : Int))).setCell ⟨ga, 4, none⟩ (.int .u64 (y4 : Int))) = W6 at HN ⊢
      go_wp2
      rw [show τ.extract q τ.size = a1.extract (min (16 * (j + 1)) a1.size) a1.size by
        have := HTE.out q (by have := HTS.out; omega)
        rw [← HTS.out] at this
        rw [this]
        congr 1
        have := HTS.out
        rcases HQ.out with h | h <;> omega]
      refine ⟨⟨j + 1, by omega, rfl, HN⟩, ?_⟩
      show (a1.extract (min (16 * (j + 1)) a1.size) a1.size).size < τ.size
      rw [ByteArray.size_extract, HTS.out]
      omega
    · have he : a1.extract (min (16 * j) a1.size) a1.size = ⟨#[]⟩ := by
        apply ByteArray.ext
        apply Array.eq_empty_of_size_eq_zero
        show (a1.extract (min (16 * j) a1.size) a1.size).size = 0
        omega
      have hjn : (a1.size + 15) / 16 = j := by omega
      rw [he]
      clear hts htb hte he
      have HM : Aside0 (pmacL (bys a0) (bys a1) = outT (lv (whole (accL r (bys a1) j))) ((bys a0).drop 16) 16) := ⟨by
        unfold pmacL
        rw [bys_length, hjn, ← HRe.out]⟩
      have hAl := accL_lim HRL.out (bys a1) j
      generalize accL r (bys a1) j = A at H HM hAl
      have hWl : Lim 67108864 (whole A) := whole_lim (hAl.mono (by decide))
      have hWH := fun W => number_whole_calls A W (hAl.mono (by decide))
      obtain ⟨x0, x1, x2, x3, x4, hx⟩ := five hAl.len
      obtain ⟨z0, z1, z2, z3, z4, hz⟩ := five hWl.len
      rw [hz] at hWH HM hWl
      rw [hx] at hWH H
      have hBY := fun W => number_bytes_calls z0 z1 z2 z3 z4 (a0.extract 16 32) W hWl (by rw [ByteArray.size_extract]; omega)
      have hbk : bys (a0.extract 16 32) = (bys a0).drop 16 := by
        rw [bys_extract, List.take_of_length_le (by rw [List.length_drop, bys_length]; omega)]
      rw [hbk] at hBY
      have HWH : Aside0 (∀ W, Calls Try.prog 134 #[.agg #[.int .u64 (x0 : Int), .int .u64 (x1 : Int), .int .u64 (x2 : Int), .int .u64 (x3 : Int), .int .u64 (x4 : Int)]] W fun e w' => e = .returned (.agg #[.int .u64 (z0 : Int), .int .u64 (z1 : Int), .int .u64 (z2 : Int), .int .u64 (z3 : Int), .int .u64 (z4 : Int)]) ∧ Below W.heap.size W w') := ⟨hWH⟩
      have HBY : Aside0 (∀ W, Calls Try.prog 135 #[.agg #[.int .u64 (z0 : Int), .int .u64 (z1 : Int), .int .u64 (z2 : Int), .int .u64 (z3 : Int), .int .u64 (z4 : Int)], .string (a0.extract 16 32)] W fun e w' => e = .returned (.string (txt (outT (lv [z0, z1, z2, z3, z4]) ((bys a0).drop 16) 16))) ∧ Below W.heap.size W w') := ⟨hBY⟩
      have HHM := HM
      generalize outT (lv [z0, z1, z2, z3, z4]) ((bys a0).drop 16) 16 = M at HHM HBY
      have ca0 : wr.cell? ⟨ga, 0, none⟩ = some (.int .u64 (x0 : Int)) := blk_cell H.out.arow 0
      have ca1 : wr.cell? ⟨ga, 1, none⟩ = some (.int .u64 (x1 : Int)) := blk_cell H.out.arow 1
      have ca2 : wr.cell? ⟨ga, 2, none⟩ = some (.int .u64 (x2 : Int)) := blk_cell H.out.arow 2
      have ca3 : wr.cell? ⟨ga, 3, none⟩ = some (.int .u64 (x3 : Int)) := blk_cell H.out.arow 3
      have ca4 : wr.cell? ⟨ga, 4, none⟩ = some (.int .u64 (x4 : Int)) := blk_cell H.out.arow 4
      have HBE := Aside0.mk H.out.below
      have k32 : (16 : Int) ≤ (a0.size : Int) := by omega
      clear hjn hAl hWl hWH hBY hx hz hbk HM hlt hj t1 t2
      go_upto_region 10 with (fail)
      refine start_ (n := 7) (S := fun w' => w'.cell? ⟨ga, 0, none⟩ = some (.int .u64 (x0 : Int)) ∧ w'.cell? ⟨ga, 1, none⟩ = some (.int .u64 (x1 : Int)) ∧ w'.cell? ⟨ga, 2, none⟩ = some (.int .u64 (x2 : Int)) ∧ w'.cell? ⟨ga, 3, none⟩ = some (.int .u64 (x3 : Int)) ∧ w'.cell? ⟨ga, 4, none⟩ = some (.int .u64 (x4 : Int))) (ds := []) #[false, false, false, false, false, false, false] (by kernel_rfl) rfl rfl ⟨(show _ from ca0), (show _ from ca1), (show _ from ca2), (show _ from ca3), (show _ from ca4)⟩ (fun hHeld => ?_)
      refine pure_ (i := 2) (N := some 46) (v := ?_) (a' := ?_) #[false, false, true, false, false, false, false] rfl rfl (by kernel_rfl) (fun _ _ _ h => h) (Or.inl ⟨by rfl, ?_⟩) ?_ ?_
      rotate_left
      · intro w'
        go_simp
        with_reducible rfl
      rotate_left
      · simp only [Act.put, List.setIfInBounds_toArray, List.set_cons_zero, List.set_cons_succ, i64_w, i32_w]
        rfl
      refine pure_ (i := 3) (N := some 47) (v := ?_) (a' := ?_) #[false, false, true, true, false, false, false] rfl rfl (by kernel_rfl) (fun _ _ _ h => h) (Or.inl ⟨by rfl, ?_⟩) ?_ ?_
      rotate_left
      · intro w'
        go_simp
        with_reducible rfl
      rotate_left
      · simp only [Act.put, List.setIfInBounds_toArray, List.set_cons_zero, List.set_cons_succ, i64_w, i32_w]
        rfl
      refine take_ (i := 0) (N := some 44) (v := ?_) (a' := ?_) #[true, false, true, true, false, false, false] rfl rfl (by kernel_rfl) (fun _ _ _ h => h) (Or.inl ⟨by rfl, ?_⟩) hHeld ?_ ?_
      rotate_left
      · rintro w' ⟨s0, s1, s2, s3, s4⟩
        go_simp
        with_reducible rfl
      rotate_left
      · simp only [Act.put, List.setIfInBounds_toArray, List.set_cons_zero, List.set_cons_succ, i64_w, i32_w]
        rfl
      refine one_ (i := 1) (N := some 45) #[true, true, true, true, false, false, false] rfl rfl (by kernel_rfl) (by decide) (fun K hK => ?_)
      refine goes_ Try.func134 (by kernel_rfl) rfl #[.agg #[.int .u64 (x0 : Int), .int .u64 (x1 : Int), .int .u64 (x2 : Int), .int .u64 (x3 : Int), .int .u64 (x4 : Int)]] (by rfl) rfl rfl (by simp only [List.map_toArray, List.map_cons, List.map_nil]; rfl) ?_
      with_reducible refine (HWH.out _).mono ?_
      rintro e w3 ⟨rfl, hb3⟩
      refine ⟨_, rfl, ?_⟩
      refine hK.out _ _ ⟨(pw_cell_below hb3 (show _ from ca0)), (pw_cell_below hb3 (show _ from ca1)), (pw_cell_below hb3 (show _ from ca2)), (pw_cell_below hb3 (show _ from ca3)), (pw_cell_below hb3 (show _ from ca4))⟩ (fun hHeld => ?_)
      clear hK K
      refine norm_ (a' := ?_) ?_ ?_
      rotate_left
      · show Act.put _ (some 45) _ = _
        simp only [Act.put, List.setIfInBounds_toArray, List.set_cons_zero, List.set_cons_succ, i64_w, i32_w]
        rfl
      refine one_ (i := 4) (N := some 48) #[true, true, true, true, true, false, false] rfl rfl (by kernel_rfl) (by decide) (fun K hK => ?_)
      refine goes_ Try.func135 (by kernel_rfl) rfl #[.agg #[.int .u64 (z0 : Int), .int .u64 (z1 : Int), .int .u64 (z2 : Int), .int .u64 (z3 : Int), .int .u64 (z4 : Int)], .string (a0.extract 16 32)] (by rfl) rfl rfl (by simp only [List.map_toArray, List.map_cons, List.map_nil]; rfl) ?_
      with_reducible refine (HBY.out _).mono ?_
      rintro e w4 ⟨rfl, hb4⟩
      refine ⟨_, rfl, ?_⟩
      refine hK.out _ _ ⟨(pw_cell_below hb4 (pw_cell_below hb3 (show _ from ca0))), (pw_cell_below hb4 (pw_cell_below hb3 (show _ from ca1))), (pw_cell_below hb4 (pw_cell_below hb3 (show _ from ca2))), (pw_cell_below hb4 (pw_cell_below hb3 (show _ from ca3))), (pw_cell_below hb4 (pw_cell_below hb3 (show _ from ca4)))⟩ (fun hHeld => ?_)
      clear hK K
      refine norm_ (a' := ?_) ?_ ?_
      rotate_left
      · show Act.put _ (some 48) _ = _
        simp only [Act.put, List.setIfInBounds_toArray, List.set_cons_zero, List.set_cons_succ, i64_w, i32_w]
        rfl
      refine pure_ (i := 5) (N := some 4) (v := ?_) (a' := ?_) #[true, true, true, true, true, true, false] rfl rfl (by kernel_rfl) (fun _ _ _ h => h) (Or.inl ⟨by rfl, ?_⟩) ?_ ?_
      rotate_left
      · intro w'
        go_simp
        with_reducible rfl
      rotate_left
      · simp only [Act.put, List.setIfInBounds_toArray, List.set_cons_zero, List.set_cons_succ, i64_w, i32_w]
        rfl
      refine pure_ (i := 6) (N := some 5) (v := ?_) (a' := ?_) #[true, true, true, true, true, true, true] rfl rfl (by kernel_rfl) (fun _ _ _ h => h) (Or.inl ⟨by rfl, ?_⟩) ?_ ?_
      rotate_left
      · intro w'
        go_simp
        with_reducible rfl
      rotate_left
      · simp only [Act.put, List.setIfInBounds_toArray, List.set_cons_zero, List.set_cons_succ, i64_w, i32_w]
        rfl
      refine done_ (by kernel_rfl) ?_
      have hbel := below_then (below_then (below_drew HBE.out) HBE.out.size hb3) (Nat.le_trans HBE.out.size hb3.size) hb4
      have HBL := Aside0.mk hbel
      clear hbel hb3 hb4 hHeld ca0 ca1 ca2 ca3 ca4 k32
      go_wp2
      go_ret2
      exact ⟨by first | (rw [HHM.out]; done) | (rw [HHM.out]; rfl), HBL.out⟩
end Go.Proofs.Ytbkbganflnemeaa.Pr
end

section
namespace Go.Proofs.Ytbkbganflnemeaa.Pr
open Go.RowKit Go.Proofs.YtbkbganflnemeaaW.PrintWords Go.Proofs.YtbkbganflnemeaaW.PrintLast Go.Proofs.YtbkbganflnemeaaW.PrintMore
attribute [local go_sem] max2_int min2_int max_two min_two max_three min_three max_four min_four   -- for this text's walks alone
set_option linter.unusedVariables false
set_option linter.unusedSimpArgs false
def word_PutSmall.f (l0 : List Int) : Option (ByteArray) := (word_put.f l0 true).bind fun t135 => (some t135)
set_option maxHeartbeats 8000000 in
set_option maxRecDepth 100000 in
theorem word_PutSmall.calls (A0 : Option Addr) (c0 : Nat) (l0 : List Int) (r : ByteArray) (w : World) (hr0 : Kd.C (Kd.int .i64) w A0 l0.length l0) (hc0 : l0.length ≤ c0) (h : word_PutSmall.f l0 = some r) :
    Calls Try.prog 103 #[.slice A0 l0.length c0] w fun e w' => e = .returned (.string r) ∧ Below w.heap.size w w' := by
  have HR0 := Aside0.mk hr0
  have HC0 := Aside0.mk hc0
  clear hr0 hc0
  have HB := Aside0.mk (Below.refl w.heap.size w)
  have H : ((word_put.f l0 true).bind fun t135 => (some t135)) = some r := h
  clear h
  replace H := Option.bind_eq_some_iff.mp H
  obtain ⟨t135, A20, H⟩ := H
  replace H : (some t135) = some r := H
  have A2 := Aside0.mk A20
  clear A20
  obtain rfl := Option.some.inj H
  go_enter Try.func103, Try.ntmps103
  go_wp2_with (first | ((with_reducible refine gate_callee (f := 127) rfl ?_); refine goesL_ (some 4) rfl rfl Try.func127 (by kernel_rfl) rfl #[.slice A0 l0.length c0, .bool true] rfl (by (try simp only [List.map_toArray, List.map_cons, List.map_nil]); first | done | rfl | (simp only [List.length_drop, List.length_take]; rfl)) ?_; (with_reducible refine (word_put.calls _ _ l0 true t135 _ ?side1 ?side2 A2.out).mono ?_); (case side1 => repeat (first | exact HR0.out | (with_reducible refine Kd.C_alloc ?_ _) | (with_reducible refine Kd.C_drewN ?_ _) | (with_reducible refine Kd.C_drew ?_))); (case side2 => exact HC0.out); rintro e w3 ⟨rfl, hb⟩; refine ⟨_, rfl, ?_⟩; have n0_ := Aside0.mk (below_step (by repeat (first | (with_reducible first | exact HB.out | apply below_alloc | apply pw_below_drewN | apply below_drew1) | exact HB.out)) hb); clear HB; have HB := n0_; clear n0_; (try clear hb); (try clear hb2); (try clear hk); (try clear hi)))
  go_ret
  exact ⟨by first | rfl | (simp [errW_none, errW_some] <;> rfl) | (simp [*, errW_none, errW_some] <;> rfl), by repeat (first | (with_reducible first | exact HB.out | apply below_alloc | apply pw_below_drewN | apply below_drew1) | exact HB.out)⟩
end Go.Proofs.Ytbkbganflnemeaa.Pr
end

section
namespace Go.Proofs.Ytbkbganflnemeaa.Pr
open Go.RowKit Go.Deep Go.Proofs.YtbkbganflnemeaaW.PrintWords Go.Proofs.YtbkbganflnemeaaW.PrintLast Go.Proofs.YtbkbganflnemeaaW.PrintMore
set_option maxHeartbeats 2000000
set_option linter.unusedVariables false
set_option linter.unusedSimpArgs false
def lenL (x y : Nat) : List Nat := [x, 0, y, 0].flatMap le4
theorem lenL_lt (x y : Nat) : ∀ z ∈ lenL x y, z < 256 := by
  intro z hz
  unfold lenL at hz
  rw [List.mem_flatMap] at hz
  obtain ⟨k, _, h⟩ := hz
  simp only [le4, List.mem_cons, List.not_mem_nil, or_false] at h
  rcases h with h | h | h | h <;> rw [h] <;> exact Nat.mod_lt _ (by decide)
theorem lenL_length (x y : Nat) : (lenL x y).length = 16 := rfl
theorem ps4 (g : Nat) (W : World) (x y : Nat) (hg : W.heap[g]? = some (.cells #[.int .i64 (x : Int), .int .i64 0, .int .i64 (y : Int), .int .i64 0] 3 (0, 0))) :
    Calls Try.prog 103 #[.slice (some ⟨g, 0, none⟩) 4 4] W fun e w' => e = .returned (.string (txt (lenL x y))) ∧ Below W.heap.size W w' := by
  have hC : (Kd.int .i64).C W (some ⟨g, 0, none⟩) [(x : Int), 0, (y : Int), 0].length [(x : Int), 0, (y : Int), 0] := by
    refine Kd.C_of_reads (enc := Value.int .i64) (d := (0 : Int)) (h1 := fun _ => rfl) ⟨rfl, by simp, fun _ => ⟨_, rfl, fun j hj => ?_⟩⟩
    rw [add_plain, blk_cell hg]
    have : j = 0 ∨ j = 1 ∨ j = 2 ∨ j = 3 := by simp at hj; omega
    rcases this with rfl | rfl | rfl | rfl <;> rfl
  have := word_PutSmall.calls (some ⟨g, 0, none⟩) 4 [(x : Int), 0, (y : Int), 0] (txt (lenL x y)) W hC (by simp) (by
    unfold word_PutSmall.f word_put.f
    rw [if_pos (by simp)]
    simp only [Option.bind_some, Option.some.injEq]
    rw [← str_nats]
    congr 1)
  exact this
theorem filled3 (g : Nat) (a b c : ByteArray) (W : World) (hg : W.heap[g]? = some (.cells #[.string a, .string b, .string c] 9 (0, 0))) (ha : a.size ≤ 1000000) (hb : b.size ≤ 1000000) (hc : c.size ≤ 1000000) :
    Calls Try.prog 102 #[.slice (some ⟨g, 0, none⟩) 3 3] W fun e w' => e = .returned (.string (txt (fill16 (bys a) ++ fill16 (bys b) ++ fill16 (bys c)))) ∧ Below W.heap.size W w' := by
  have := filled_calls g 3 [a, b, c] W hg (by
    intro t ht
    simp only [List.mem_cons, List.not_mem_nil, or_false] at ht
    rcases ht with rfl | rfl | rfl <;> assumption) (by simp) (by simp)
  have e : fillT [a, b, c] [a, b, c].length = fill16 (bys a) ++ fill16 (bys b) ++ fill16 (bys c) := by
    simp [fillT]
  rw [e] at this
  exact this
def tagL (key nonce bound c : List Nat) : List Nat := pmacL ((chaL key nonce 0).take 32) (fill16 bound ++ fill16 c ++ fill16 (lenL bound.length c.length))
def aead_tag.f (a0 a1 a2 a3 : ByteArray) : Option ByteArray :=
  if a0.size = 32 ∧ a1.size = 12 ∧ a2.size + a3.size ≤ 32768 then some (txt (tagL (bys a0) (bys a1) (bys a2) (bys a3))) else none
set_option maxRecDepth 100000 in
theorem aead_tag.yes (a0 a1 a2 a3 : ByteArray) (w : World) (h0 : a0.size = 32) (h1 : a1.size = 12) (h23 : a2.size + a3.size ≤ 32768) :
    Calls Try.prog 67 #[.string a0, .string a1, .string a2, .string a3] w fun e w' => e = .returned (.string (txt (tagL (bys a0) (bys a1) (bys a2) (bys a3)))) ∧ Below w.heap.size w w' := by
  have HBK := Aside0.mk (fun W => chacha_Block.calls a0 a1 0 (txt (chaL (bys a0) (bys a1) 0)) 0 W (by unfold chacha_Block.f; rw [if_pos ⟨h0, h1, by decide, by decide⟩]; rfl))
  have hks : (txt (chaL (bys a0) (bys a1) 0)).size = 64 := by rw [txt_size, chaL_length]
  have hkx : (txt (chaL (bys a0) (bys a1) 0)).extract 0 32 = txt ((chaL (bys a0) (bys a1) 0).take 32) := by rw [txt_extract]; rfl
  have hkb : bys (txt ((chaL (bys a0) (bys a1) 0).take 32)) = (chaL (bys a0) (bys a1) 0).take 32 := bys_txt (fun n hn => chaL_lt _ _ _ n (List.mem_of_mem_take hn))
  have hkl : (txt ((chaL (bys a0) (bys a1) 0).take 32)).size = 32 := by rw [txt_size, List.length_take, chaL_length]; rfl
  have hpl : bys (txt (lenL a2.size a3.size)) = lenL a2.size a3.size := bys_txt (lenL_lt _ _)
  have HPL : Aside0 ((txt (lenL a2.size a3.size)).size ≤ 1000000) := ⟨by rw [txt_size, lenL_length]; decide⟩
  have htag : tagL (bys a0) (bys a1) (bys a2) (bys a3) = pmacL ((chaL (bys a0) (bys a1) 0).take 32) (fill16 (bys a2) ++ fill16 (bys a3) ++ fill16 (lenL a2.size a3.size)) := by
    unfold tagL; rw [bys_length, bys_length]
  generalize chaL (bys a0) (bys a1) 0 = C at HBK hks hkx hkb hkl htag
  generalize hT : txt C = T at HBK hks hkx
  have HTX := Aside0.mk hkx
  have hlt : ∀ x ∈ fill16 (bys a2) ++ fill16 (bys a3) ++ fill16 (bys (txt (lenL a2.size a3.size))), x < 256 := by
    intro x hx
    have hz : ∀ l : List Nat, (∀ y ∈ l, y < 256) → ∀ y ∈ fill16 l, y < 256 := by
      intro l hl y hy
      unfold fill16 at hy
      rw [List.mem_append, List.mem_replicate] at hy
      rcases hy with h | h
      · exact hl y h
      · omega
    rw [List.mem_append, List.mem_append] at hx
    rcases hx with (h | h) | h
    · exact hz _ (bys_lt' _) x h
    · exact hz _ (bys_lt' _) x h
    · exact hz _ (bys_lt' _) x h
  have hmb : bys (txt (fill16 (bys a2) ++ fill16 (bys a3) ++ fill16 (bys (txt (lenL a2.size a3.size))))) = fill16 (bys a2) ++ fill16 (bys a3) ++ fill16 (lenL a2.size a3.size) := by
    rw [bys_txt hlt, hpl]
  have hml : (txt (fill16 (bys a2) ++ fill16 (bys a3) ++ fill16 (bys (txt (lenL a2.size a3.size))))).size ≤ 65536 := by
    rw [txt_size, List.length_append, List.length_append]
    have e1 := fill16_length (bys a2)
    have e2 := fill16_length (bys a3)
    have e3 := fill16_length (bys (txt (lenL a2.size a3.size)))
    rw [bys_length] at e1 e2
    rw [hpl, lenL_length] at e3
    rw [hpl]
    omega
  have hMC := fun W => poly_Mac.yes (txt (C.take 32)) _ W hkl hml
  rw [hkb, hmb, ← htag, ← hkx] at hMC
  have HMC := Aside0.mk hMC
  have h2 : a2.size ≤ 1000000 := by omega
  have h3 : a3.size ≤ 1000000 := by omega
  clear hkb hkl hpl htag hT hlt hmb hml hMC hkx
  generalize txt (tagL (bys a0) (bys a1) (bys a2) (bys a3)) = R at HMC ⊢
  have k32 : (32 : Int) ≤ (T.size : Int) := by omega
  clear hks
  go_enter Try.func67, Try.ntmps67
  go_upto_region 2 with (go_at_call 100; refine (HBK.out _).mono ?_; rintro e w1 ⟨rfl, hb1⟩)
  refine start_ (n := 18) (S := fun w' => True) (ds := []) #[false, false, false, false, false, false, false, false, false, false, false, false, false, false, false, false, false, false] (by kernel_rfl) rfl rfl trivial (fun hHeld => ?_)
  refine pure_ (i := 0) (N := some 20) (v := ?_) (a' := ?_) #[true, false, false, false, false, false, false, false, false, false, false, false, false, false, false, false, false, false] rfl rfl (by kernel_rfl) (fun _ _ _ h => h) (Or.inl ⟨by rfl, ?_⟩) ?_ ?_
  rotate_left
  · intro w'
    go_simp
    with_reducible rfl
  rotate_left
  · simp only [Act.put, List.setIfInBounds_toArray, List.set_cons_zero, List.set_cons_succ, i64_w, i32_w]
    rfl
  refine pure_ (i := 1) (N := some 21) (v := ?_) (a' := ?_) #[true, true, false, false, false, false, false, false, false, false, false, false, false, false, false, false, false, false] rfl rfl (by kernel_rfl) (fun _ _ _ h => h) (Or.inl ⟨by rfl, ?_⟩) ?_ ?_
  rotate_left
  · intro w'
    go_simp
    with_reducible rfl
  rotate_left
  · simp only [Act.put, List.setIfInBounds_toArray, List.set_cons_zero, List.set_cons_succ, i64_w, i32_w]
    rfl
  refine pure_ (i := 2) (N := some 22) (v := ?_) (a' := ?_) #[true, true, true, false, false, false, false, false, false, false, false, false, false, false, false, false, false, false] rfl rfl (by kernel_rfl) (fun _ _ _ h => h) (Or.inl ⟨by rfl, ?_⟩) ?_ ?_
  rotate_left
  · intro w'
    go_simp
    with_reducible rfl
  rotate_left
  · simp only [Act.put, List.setIfInBounds_toArray, List.set_cons_zero, List.set_cons_succ, i64_w, i32_w]
    rfl
  refine pure_ (i := 3) (N := some 23) (v := ?_) (a' := ?_) #[true, true, true, true, false, false, false, false, false, false, false, false, false, false, false, false, false, false] rfl rfl (by kernel_rfl) (fun _ _ _ h => h) (Or.inl ⟨by rfl, ?_⟩) ?_ ?_
  rotate_left
  · intro w'
    go_simp
    with_reducible rfl
  rotate_left
  · simp only [Act.put, List.setIfInBounds_toArray, List.set_cons_zero, List.set_cons_succ, i64_w, i32_w]
    rfl
  refine pure_ (i := 4) (N := some 24) (v := ?_) (a' := ?_) #[true, true, true, true, true, false, false, false, false, false, false, false, false, false, false, false, false, false] rfl rfl (by kernel_rfl) (fun _ _ _ h => h) (Or.inl ⟨by rfl, ?_⟩) ?_ ?_
  rotate_left
  · intro w'
    go_simp
    with_reducible rfl
  rotate_left
  · simp only [Act.put, List.setIfInBounds_toArray, List.set_cons_zero, List.set_cons_succ, i64_w, i32_w]
    rfl
  refine pure_ (i := 5) (N := some 25) (v := ?_) (a' := ?_) #[true, true, true, true, true, true, false, false, false, false, false, false, false, false, false, false, false, false] rfl rfl (by kernel_rfl) (fun _ _ _ h => h) (Or.inl ⟨by rfl, ?_⟩) ?_ ?_
  rotate_left
  · intro w'
    go_simp
    with_reducible rfl
  rotate_left
  · simp only [Act.put, List.setIfInBounds_toArray, List.set_cons_zero, List.set_cons_succ, i64_w, i32_w]
    rfl
  refine pure_ (i := 6) (N := some 26) (v := ?_) (a' := ?_) #[true, true, true, true, true, true, true, false, false, false, false, false, false, false, false, false, false, false] rfl rfl (by kernel_rfl) (fun _ _ _ h => h) (Or.inl ⟨by rfl, ?_⟩) ?_ ?_
  rotate_left
  · intro w'
    go_simp
    with_reducible rfl
  rotate_left
  · simp only [Act.put, List.setIfInBounds_toArray, List.set_cons_zero, List.set_cons_succ, i64_w, i32_w]
    rfl
  refine pure_ (i := 7) (N := some 27) (v := ?_) (a' := ?_) #[true, true, true, true, true, true, true, true, false, false, false, false, false, false, false, false, false, false] rfl rfl (by kernel_rfl) (fun _ _ _ h => h) (Or.inl ⟨by rfl, ?_⟩) ?_ ?_
  rotate_left
  · intro w'
    go_simp
    with_reducible rfl
  rotate_left
  · simp only [Act.put, List.setIfInBounds_toArray, List.set_cons_zero, List.set_cons_succ, i64_w, i32_w]
    rfl
  refine one_ (i := 8) (N := some 28) #[true, true, true, true, true, true, true, true, true, false, false, false, false, false, false, false, false, false] rfl rfl (by kernel_rfl) (by decide) (fun K hK => ?_)
  refine value_ (w1 := ?_) (v := ?_) (by rfl) rfl ?_ ?_
  rotate_left 2
  · go_simp
    constructor
    · rfl
    · rfl
  refine hK.out _ _ trivial (fun hHeld => ?_)
  clear hK K
  refine norm_ (a' := ?_) ?_ ?_
  rotate_left
  · show Act.put _ (some 28) _ = _
    simp only [Act.put, List.setIfInBounds_toArray, List.set_cons_zero, List.set_cons_succ, i64_w, i32_w]
    rfl
  refine one_ (i := 9) (N := some 29) #[true, true, true, true, true, true, true, true, true, true, false, false, false, false, false, false, false, false] rfl rfl (by kernel_rfl) (by decide) (fun K hK => ?_)
  refine goes_ Try.func103 (by kernel_rfl) rfl #[.slice (some ⟨w1.heap.size, 0, none⟩) 4 4] (by rfl) rfl rfl (by simp only [List.map_toArray, List.map_cons, List.map_nil]; rfl) ?_
  with_reducible refine (ps4 w1.heap.size _ a2.size a3.size (blk_drew (blk_new w1 _))).mono ?_
  rintro e w3 ⟨rfl, hb3⟩
  refine ⟨_, rfl, ?_⟩
  refine hK.out _ _ trivial (fun hHeld => ?_)
  clear hK K
  refine norm_ (a' := ?_) ?_ ?_
  rotate_left
  · show Act.put _ (some 29) _ = _
    simp only [Act.put, List.setIfInBounds_toArray, List.set_cons_zero, List.set_cons_succ, i64_w, i32_w]
    rfl
  refine one_ (i := 10) (N := some 30) #[true, true, true, true, true, true, true, true, true, true, true, false, false, false, false, false, false, false] rfl rfl (by kernel_rfl) (by decide) (fun K hK => ?_)
  refine value_ (w1 := ?_) (v := ?_) (by rfl) rfl ?_ ?_
  rotate_left 2
  · go_simp
    constructor
    · rfl
    · rfl
  refine hK.out _ _ trivial (fun hHeld => ?_)
  clear hK K
  refine norm_ (a' := ?_) ?_ ?_
  rotate_left
  · show Act.put _ (some 30) _ = _
    simp only [Act.put, List.setIfInBounds_toArray, List.set_cons_zero, List.set_cons_succ, i64_w, i32_w]
    rfl
  refine one_ (i := 11) (N := some 31) #[true, true, true, true, true, true, true, true, true, true, true, true, false, false, false, false, false, false] rfl rfl (by kernel_rfl) (by decide) (fun K hK => ?_)
  refine goes_ Try.func102 (by kernel_rfl) rfl #[.slice (some ⟨w3.heap.size, 0, none⟩) 3 3] (by rfl) rfl rfl (by simp only [List.map_toArray, List.map_cons, List.map_nil]; rfl) ?_
  with_reducible refine (filled3 w3.heap.size a2 a3 _ _ (blk_new w3 _) h2 h3 HPL.out).mono ?_
  rintro e w4 ⟨rfl, hb4⟩
  refine ⟨_, rfl, ?_⟩
  refine hK.out _ _ trivial (fun hHeld => ?_)
  clear hK K
  refine norm_ (a' := ?_) ?_ ?_
  rotate_left
  · show Act.put _ (some 31) _ = _
    simp only [Act.put, List.setIfInBounds_toArray, List.set_cons_zero, List.set_cons_succ, i64_w, i32_w]
    rfl
  refine one_ (i := 12) (N := some 32) #[true, true, true, true, true, true, true, true, true, true, true, true, true, false, false, false, false, false] rfl rfl (by kernel_rfl) (by decide) (fun K hK => ?_)
  refine goes_ Try.func101 (by kernel_rfl) rfl #[.string (T.extract 0 32), .string (txt (fill16 (bys a2) ++ fill16 (bys a3) ++ fill16 (bys (txt (lenL a2.size a3.size)))))] (by rfl) rfl rfl (by simp only [List.map_toArray, List.map_cons, List.map_nil]; rfl) ?_
  with_reducible refine (HMC.out _).mono ?_
  rintro e w5 ⟨rfl, hb5⟩
  refine ⟨_, rfl, ?_⟩
  refine hK.out _ _ trivial (fun hHeld => ?_)
  clear hK K
  refine norm_ (a' := ?_) ?_ ?_
  rotate_left
  · show Act.put _ (some 32) _ = _
    simp only [Act.put, List.setIfInBounds_toArray, List.set_cons_zero, List.set_cons_succ, i64_w, i32_w]
    rfl
  refine pure_ (i := 13) (N := some 19) (v := ?_) (a' := ?_) #[true, true, true, true, true, true, true, true, true, true, true, true, true, true, false, false, false, false] rfl rfl (by kernel_rfl) (fun _ _ _ h => h) (Or.inl ⟨by rfl, ?_⟩) ?_ ?_
  rotate_left
  · intro w'
    go_simp
    with_reducible rfl
  rotate_left
  · simp only [Act.put, List.setIfInBounds_toArray, List.set_cons_zero, List.set_cons_succ, i64_w, i32_w]
    rfl
  refine pure_ (i := 14) (N := some 33) (v := ?_) (a' := ?_) #[true, true, true, true, true, true, true, true, true, true, true, true, true, true, true, false, false, false] rfl rfl (by kernel_rfl) (fun _ _ _ h => h) (Or.inl ⟨by rfl, ?_⟩) ?_ ?_
  rotate_left
  · intro w'
    go_simp
    with_reducible rfl
  rotate_left
  · simp only [Act.put, List.setIfInBounds_toArray, List.set_cons_zero, List.set_cons_succ, i64_w, i32_w]
    rfl
  refine pure_ (i := 15) (N := some 34) (v := ?_) (a' := ?_) #[true, true, true, true, true, true, true, true, true, true, true, true, true, true, true, true, false, false] rfl rfl (by kernel_rfl) (fun _ _ _ h => h) (Or.inl ⟨by rfl, ?_⟩) ?_ ?_
  rotate_left
  · intro w'
    go_simp
    with_reducible rfl
  rotate_left
  · simp only [Act.put, List.setIfInBounds_toArray, List.set_cons_zero, List.set_cons_succ, i64_w, i32_w]
    rfl
  refine pure_ (i := 16) (N := some 11) (v := ?_) (a' := ?_) #[true, true, true, true, true, true, true, true, true, true, true, true, true, true, true, true, true, false] rfl rfl (by kernel_rfl) (fun _ _ _ h => h) (Or.inl ⟨by rfl, ?_⟩) ?_ ?_
  rotate_left
  · intro w'
    go_simp
    with_reducible rfl
  rotate_left
  · simp only [Act.put, List.setIfInBounds_toArray, List.set_cons_zero, List.set_cons_succ, i64_w, i32_w]
    rfl
  refine pure_ (i := 17) (N := some 12) (v := ?_) (a' := ?_) #[true, true, true, true, true, true, true, true, true, true, true, true, true, true, true, true, true, true] rfl rfl (by kernel_rfl) (fun _ _ _ h => h) (Or.inl ⟨by rfl, ?_⟩) ?_ ?_
  rotate_left
  · intro w'
    go_simp
    with_reducible rfl
  rotate_left
  · simp only [Act.put, List.setIfInBounds_toArray, List.set_cons_zero, List.set_cons_succ, i64_w, i32_w]
    rfl
  refine done_ (by kernel_rfl) ?_
  have hbel : Below w.heap.size w w5 := by
    have q1 := below_drew (below_alloc hb1 (.cells #[.int .i64 (a2.size : Int), .int .i64 0, .int .i64 (a3.size : Int), .int .i64 0] 3))
    have q2 := below_then q1 q1.size hb3
    have q3 := below_alloc q2 (.cells #[.string a2, .string a3, .string (txt (lenL a2.size a3.size))] 9)
    have q4 := below_then q3 q3.size hb4
    exact below_then q4 q4.size hb5
  have HBL := Aside0.mk hbel
  clear hbel hb5 hb4 hb3 hb1 hHeld
  go_wp2
  go_ret
  exact ⟨rfl, HBL.out⟩
theorem aead_tag.calls (a0 a1 a2 a3 : ByteArray) (r : ByteArray) (w : World) (h : aead_tag.f a0 a1 a2 a3 = some r) :
    Calls Try.prog 67 #[.string a0, .string a1, .string a2, .string a3] w fun e w' => e = .returned (.string r) ∧ Below w.heap.size w w' := by
  unfold aead_tag.f at h
  by_cases hc : a0.size = 32 ∧ a1.size = 12 ∧ a2.size + a3.size ≤ 32768
  · rw [if_pos hc] at h
    obtain rfl := Option.some.inj h
    exact aead_tag.yes a0 a1 a2 a3 w hc.1 hc.2.1 hc.2.2
  · rw [if_neg hc] at h
    cases h
end Go.Proofs.Ytbkbganflnemeaa.Pr
end

section
namespace Go.Proofs.Ytbkbganflnemeaa.Pr
open Go.RowKit Go.Proofs.YtbkbganflnemeaaW.PrintWords Go.Proofs.YtbkbganflnemeaaW.PrintLast Go.Proofs.YtbkbganflnemeaaW.PrintMore
attribute [local go_sem] max2_int min2_int max_two min_two max_three min_three max_four min_four   -- for this text's walks alone
set_option linter.unusedVariables false
set_option linter.unusedSimpArgs false
def aead_may.f (a0 : ByteArray) (a1 : ByteArray) (a2 : Int) (a3 : Int) : Option (Bool) := if (a0.size : Int) = 32 then (if (a1.size : Int) = 12 then (if a2 ≤ 32768 then (some (decide (a3 ≤ (wrap64 (32768 - a2))))) else (some false)) else (some false)) else (some false)
set_option maxHeartbeats 8000000 in
set_option maxRecDepth 100000 in
theorem aead_may.calls (a0 : ByteArray) (a1 : ByteArray) (a2 : Int) (a3 : Int) (r : Bool) (w : World) (h : aead_may.f a0 a1 a2 a3 = some r) :
    Calls Try.prog 65 #[.string a0, .string a1, .int .i64 a2, .int .i64 a3] w fun e w' => e = .returned (.bool r) ∧ Drawn0 w w' := by
  have H : (if (a0.size : Int) = 32 then (if (a1.size : Int) = 12 then (if a2 ≤ 32768 then (some (decide (a3 ≤ (wrap64 (32768 - a2))))) else (some false)) else (some false)) else (some false)) = some r := h
  clear h
  by_cases c5 : (a0.size : Int) = 32
  · rw [if_pos c5] at H
    have c5b0 : ((a0.size : Int) == 32) = true := beq_iff_eq.mpr c5
    have c5b1 : ((a0.size : Int) != 32) = false := bne_eq_false_iff_eq.mpr c5
    clear c5
    by_cases c6 : (a1.size : Int) = 12
    · rw [if_pos c6] at H
      have c6b0 : ((a1.size : Int) == 12) = true := beq_iff_eq.mpr c6
      have c6b1 : ((a1.size : Int) != 12) = false := bne_eq_false_iff_eq.mpr c6
      clear c6
      by_cases c7 : a2 ≤ 32768
      · rw [if_pos c7] at H
        have c7b0 : decide (a2 ≤ 32768) = true := decide_eq_true c7
        clear c7
        obtain rfl := Option.some.inj H
        go_enter Try.func65, Try.ntmps65
        go_wp2
        go_ret
        exact ⟨by first | rfl | (simp; done) | (simp [*]; done), by repeat (first | exact Drawn0.refl _ | apply Drawn0.step)⟩
      · rw [if_neg c7] at H
        have c7b0 : decide (a2 ≤ 32768) = false := decide_eq_false c7
        clear c7
        obtain rfl := Option.some.inj H
        go_enter Try.func65, Try.ntmps65
        go_wp2
        go_ret
        exact ⟨by first | rfl | (simp; done) | (simp [*]; done), by repeat (first | exact Drawn0.refl _ | apply Drawn0.step)⟩
    · rw [if_neg c6] at H
      have c6b0 : ((a1.size : Int) == 12) = false := beq_eq_false_iff_ne.mpr c6
      have c6b1 : ((a1.size : Int) != 12) = true := bne_iff_ne.mpr c6
      obtain rfl := Option.some.inj H
      go_enter Try.func65, Try.ntmps65
      go_wp2
      go_ret
      exact ⟨by first | rfl | (simp; done) | (simp [*]; done), by repeat (first | exact Drawn0.refl _ | apply Drawn0.step)⟩
  · rw [if_neg c5] at H
    have c5b0 : ((a0.size : Int) == 32) = false := beq_eq_false_iff_ne.mpr c5
    have c5b1 : ((a0.size : Int) != 32) = true := bne_iff_ne.mpr c5
    obtain rfl := Option.some.inj H
    go_enter Try.func65, Try.ntmps65
    go_wp2
    go_ret
    exact ⟨by first | rfl | (simp; done) | (simp [*]; done), by repeat (first | exact Drawn0.refl _ | apply Drawn0.step)⟩
end Go.Proofs.Ytbkbganflnemeaa.Pr
end

section
namespace Go.Proofs.Ytbkbganflnemeaa.Pr
open Go.RowKit Go.Proofs.YtbkbganflnemeaaW.PrintWords Go.Proofs.YtbkbganflnemeaaW.PrintLast Go.Proofs.YtbkbganflnemeaaW.PrintMore
attribute [local go_sem] max2_int min2_int max_two min_two max_three min_three max_four min_four   -- for this text's walks alone
set_option linter.unusedVariables false
set_option linter.unusedSimpArgs false
def aead_Seal.f (a0 : ByteArray) (a1 : ByteArray) (a2 : ByteArray) (a3 : ByteArray) : Option (ByteArray × Int) := (aead_may.f a0 a1 (a2.size : Int) (a3.size : Int)).bind fun t136 => (if t136 = true then ((chacha_Stream.f a0 a1 1 a3).bind fun bt137 => ((aead_tag.f a0 a1 a2 bt137.1).bind fun t139 => (if bt137.1.size + t139.size ≤ 9223372036854775807 then (some (bt137.1 ++ t139, 0)) else (none)))) else (some ((⟨#[]⟩ : ByteArray), 1)))
set_option maxHeartbeats 8000000 in
set_option maxRecDepth 100000 in
theorem aead_Seal.calls (a0 : ByteArray) (a1 : ByteArray) (a2 : ByteArray) (a3 : ByteArray) (r1 : ByteArray) (r2 : Int) (w : World) (h : aead_Seal.f a0 a1 a2 a3 = some (r1, r2)) :
    Calls Try.prog 29 #[.string a0, .string a1, .string a2, .string a3] w fun e w' => e = .returned (.tuple #[.string r1, .int .i64 r2]) ∧ Below w.heap.size w w' := by
  have HB := Aside0.mk (Below.refl w.heap.size w)
  have H : ((aead_may.f a0 a1 (a2.size : Int) (a3.size : Int)).bind fun t136 => (if t136 = true then ((chacha_Stream.f a0 a1 1 a3).bind fun bt137 => ((aead_tag.f a0 a1 a2 bt137.1).bind fun t139 => (if bt137.1.size + t139.size ≤ 9223372036854775807 then (some (bt137.1 ++ t139, 0)) else (none)))) else (some ((⟨#[]⟩ : ByteArray), 1)))) = some (r1, r2) := h
  clear h
  replace H := Option.bind_eq_some_iff.mp H
  obtain ⟨t136, A50, H⟩ := H
  replace H : (if t136 = true then ((chacha_Stream.f a0 a1 1 a3).bind fun bt137 => ((aead_tag.f a0 a1 a2 bt137.1).bind fun t139 => (if bt137.1.size + t139.size ≤ 9223372036854775807 then (some (bt137.1 ++ t139, 0)) else (none)))) else (some ((⟨#[]⟩ : ByteArray), 1))) = some (r1, r2) := H
  have A5 := Aside0.mk A50
  clear A50
  by_cases c6 : t136 = true
  · subst c6
    have H1 : ((chacha_Stream.f a0 a1 1 a3).bind fun bt137 => ((aead_tag.f a0 a1 a2 bt137.1).bind fun t139 => (if bt137.1.size + t139.size ≤ 9223372036854775807 then (some (bt137.1 ++ t139, 0)) else (none)))) = some (r1, r2) := by rw [if_pos rfl] at H; exact H
    clear H
    have H := H1
    clear H1
    replace H := Option.bind_eq_some_iff.mp H
    obtain ⟨⟨t137, t138⟩, A70, H⟩ := H
    replace H : ((aead_tag.f a0 a1 a2 t137).bind fun t139 => (if t137.size + t139.size ≤ 9223372036854775807 then (some (t137 ++ t139, 0)) else (none))) = some (r1, r2) := H
    have A7 := Aside0.mk A70
    clear A70
    replace H := Option.bind_eq_some_iff.mp H
    obtain ⟨t139, A80, H⟩ := H
    replace H : (if t137.size + t139.size ≤ 9223372036854775807 then (some (t137 ++ t139, 0)) else (none)) = some (r1, r2) := H
    have A8 := Aside0.mk A80
    clear A80
    by_cases c9 : t137.size + t139.size ≤ 9223372036854775807
    · rw [if_pos c9] at H
      have c9b0 := eq_true c9
      have c9b1 : decide (t137.size + t139.size ≤ 9223372036854775807) = true := decide_eq_true c9
      try have c9b2 : (9223372036854775807 < t137.size + t139.size) = False := eq_false (Nat.not_lt.2 c9)
      simp only [Option.some.injEq, Prod.mk.injEq] at H
      obtain ⟨rfl, rfl⟩ := H
      go_enter Try.func29, Try.ntmps29
      go_wp2_with (first | ((with_reducible refine gate_callee (f := 65) rfl ?_); refine goesL_ (some 18) rfl rfl Try.func65 (by kernel_rfl) rfl #[.string a0, .string a1, .int .i64 (a2.size : Int), .int .i64 (a3.size : Int)] rfl (by (try simp only [List.map_toArray, List.map_cons, List.map_nil]); first | done | rfl | (simp only [List.length_drop, List.length_take]; rfl)) ?_; (with_reducible refine (aead_may.calls a0 a1 (a2.size : Int) (a3.size : Int) true _ A5.out).mono ?_); rintro e w' ⟨rfl, ⟨nd, rfl⟩⟩; refine ⟨_, rfl, ?_⟩) | ((with_reducible refine gate_callee (f := 66) rfl ?_); refine goesL_ (some 24) rfl rfl Try.func66 (by kernel_rfl) rfl #[.string a0, .string a1, .int .i64 1, .string a3] rfl (by (try simp only [List.map_toArray, List.map_cons, List.map_nil]); first | done | rfl | (simp only [List.length_drop, List.length_take]; rfl)) ?_; (with_reducible refine (chacha_Stream.calls a0 a1 1 a3 t137 t138 _ A7.out).mono ?_); rintro e w10 ⟨rfl, hb⟩; refine ⟨_, rfl, ?_⟩; have n0_ := Aside0.mk (below_step (by repeat (first | (with_reducible first | exact HB.out | apply below_alloc | apply pw_below_drewN | apply below_drew1) | exact HB.out)) hb); clear HB; have HB := n0_; clear n0_; (try clear hb); (try clear hb2); (try clear hk); (try clear hi)) | ((with_reducible refine gate_callee (f := 67) rfl ?_); refine goesL_ (some 32) rfl rfl Try.func67 (by kernel_rfl) rfl #[.string a0, .string a1, .string a2, .string t137] rfl (by (try simp only [List.map_toArray, List.map_cons, List.map_nil]); first | done | rfl | (simp only [List.length_drop, List.length_take]; rfl)) ?_; (with_reducible refine (aead_tag.calls a0 a1 a2 t137 t139 _ A8.out).mono ?_); rintro e w11 ⟨rfl, hb⟩; refine ⟨_, rfl, ?_⟩; have n0_ := Aside0.mk (below_step (by repeat (first | (with_reducible first | exact HB.out | apply below_alloc | apply pw_below_drewN | apply below_drew1) | exact HB.out)) hb); clear HB; have HB := n0_; clear n0_; (try clear hb); (try clear hb2); (try clear hk); (try clear hi)))
      go_ret2
      exact ⟨by first | rfl | (simp [errW_none, errW_some] <;> rfl) | (simp [*, errW_none, errW_some] <;> rfl), by repeat (first | (with_reducible first | exact HB.out | apply below_alloc | apply pw_below_drewN | apply below_drew1) | exact HB.out)⟩
    · rw [if_neg c9] at H
      exact absurd H (by simp)
  · replace c6 := Bool.eq_false_iff.mpr c6
    subst c6
    have H1 : (some ((⟨#[]⟩ : ByteArray), 1)) = some (r1, r2) := by rw [if_neg (show ¬ (false = true) by decide)] at H; exact H
    clear H
    have H := H1
    clear H1
    simp only [Option.some.injEq, Prod.mk.injEq] at H
    obtain ⟨rfl, rfl⟩ := H
    go_enter Try.func29, Try.ntmps29
    go_wp2_with (first | ((with_reducible refine gate_callee (f := 65) rfl ?_); refine goesL_ (some 18) rfl rfl Try.func65 (by kernel_rfl) rfl #[.string a0, .string a1, .int .i64 (a2.size : Int), .int .i64 (a3.size : Int)] rfl (by (try simp only [List.map_toArray, List.map_cons, List.map_nil]); first | done | rfl | (simp only [List.length_drop, List.length_take]; rfl)) ?_; (with_reducible refine (aead_may.calls a0 a1 (a2.size : Int) (a3.size : Int) false _ A5.out).mono ?_); rintro e w' ⟨rfl, ⟨nd, rfl⟩⟩; refine ⟨_, rfl, ?_⟩))
    go_ret2
    exact ⟨by first | rfl | (simp [errW_none, errW_some] <;> rfl) | (simp [*, errW_none, errW_some] <;> rfl), by repeat (first | (with_reducible first | exact HB.out | apply below_alloc | apply pw_below_drewN | apply below_drew1) | exact HB.out)⟩
end Go.Proofs.Ytbkbganflnemeaa.Pr
end

section
namespace Go.Proofs.Ytbkbganflnemeaa.Pr
open Go.RowKit Go.Proofs.YtbkbganflnemeaaW.PrintWords Go.Proofs.YtbkbganflnemeaaW.PrintLast Go.Proofs.YtbkbganflnemeaaW.PrintMore
attribute [local go_sem] max2_int min2_int max_two min_two max_three min_three max_four min_four   -- for this text's walks alone
set_option linter.unusedVariables false
set_option linter.unusedSimpArgs false
def samphireref01_PutBig.l0 : Nat → List Int → List Int → Int → Option (ByteArray)
  | 0, _, _, _ => none
  | k + 1, x0, x3, x4 => if x4 < (x0.length : Int) then (if 0 ≤ x4 then ((samphireref01_Word.f (rd x0 x4)).bind fun t141 => (if x3.length < 140737488355328 then ((some (x3 ++ [(t141 / 16777216) % 256] : List Int)).bind fun y142 => (if y142.length < 140737488355328 then ((some (y142 ++ [(Go.bits .and .i64 (t141 / 65536) 255) % 256] : List Int)).bind fun y145 => (if y145.length < 140737488355328 then ((some (y145 ++ [(Go.bits .and .i64 (t141 / 256) 255) % 256] : List Int)).bind fun y148 => (if y148.length < 140737488355328 then (samphireref01_PutBig.l0 k x0 (y148 ++ [(Go.bits .and .i64 t141 255) % 256]) (wrap64 (x4 + 1))) else (none))) else (none))) else (none))) else (none))) else (none)) else (some (strOfNums x3))
def samphireref01_PutBig.f (k : Nat) (l0 : List Int) : Option (ByteArray) := samphireref01_PutBig.l0 k l0 ([] : List Int) 0
set_option maxHeartbeats 8000000 in
set_option maxRecDepth 100000 in
theorem samphireref01_PutBig.calls (k : Nat) (A0 : Option Addr) (c0 : Nat) (l0 : List Int) (r : ByteArray) (w : World) (hr0 : Kd.C (Kd.int .i64) w A0 l0.length l0) (hc0 : l0.length ≤ c0) (h : samphireref01_PutBig.f k l0 = some r) :
    Calls Try.prog 162 #[.slice A0 l0.length c0] w fun e w' => e = .returned (.string r) ∧ Below w.heap.size w w' := by
  have HR0 := Aside0.mk hr0
  have HC0 := Aside0.mk hc0
  clear hr0 hc0
  have HB := Aside0.mk (Below.refl w.heap.size w)
  have H : (samphireref01_PutBig.l0 k l0 ([] : List Int) 0) = some r := h
  clear h
  have H' := Aside0.mk H
  clear H
  go_enter Try.func162, Try.ntmps162
  go_wp2
  go_loopg [3, 4] k (fun kq v3 v4 w' => ∃ (x3_1 : List Int) (x4_1 : Int), v4 = .int .i64 x4_1 ∧ Aside0 (samphireref01_PutBig.l0 kq l0 x3_1 x4_1 = some r) ∧ Aside0 (kq ≤ k) ∧ Aside0 (Kd.R (Kd.int .u8) 5 w' w.heap.size (fun _ => True) v3 x3_1) ∧ Aside0 (Below w.heap.size w w'))
  case atStart => exact ⟨(([] : List Int)), (0), (by first | rfl | (simp; done) | (simp [*]; done)), H', ⟨Nat.le_refl _⟩, ⟨by first | exact Kd.R_nil _ _ _ _ _ | exact Kd.N_nil _ _ _ _ _ | exact Kd.V_nil _ _ _ _ _ | exact Kd.Q_nil _ _ _ _ _ | exact Kd.S_nil _ _ _ _ _⟩, ⟨by repeat (first | (with_reducible first | exact HB.out | apply below_alloc | apply pw_below_drewN | apply below_drew1) | exact HB.out)⟩⟩
  case round =>
    clear H'
    try clear c1
    obtain ⟨x3_1, x4_1, rfl, HA, HK1, HO_3, HB⟩ := hrel
    cases gk with
    | zero => exact absurd HA.out (by simp [samphireref01_PutBig.l0])
    | succ k1 =>
      have H := HA.out
      clear HA
      simp only [samphireref01_PutBig.l0] at H
      by_cases c2 : x4_1 < (l0.length : Int)
      · rw [if_pos c2] at H
        have c2b0 : decide (x4_1 < (l0.length : Int)) = true := decide_eq_true c2
        clear c2
        by_cases c3 : 0 ≤ x4_1
        · rw [if_pos c3] at H
          have c3b0 : decide (0 ≤ x4_1) = true := decide_eq_true c3
          clear c3
          replace H := Option.bind_eq_some_iff.mp H
          obtain ⟨t141, A40, H⟩ := H
          replace H : (if x3_1.length < 140737488355328 then ((some (x3_1 ++ [(t141 / 16777216) % 256] : List Int)).bind fun y142 => (if y142.length < 140737488355328 then ((some (y142 ++ [(Go.bits .and .i64 (t141 / 65536) 255) % 256] : List Int)).bind fun y145 => (if y145.length < 140737488355328 then ((some (y145 ++ [(Go.bits .and .i64 (t141 / 256) 255) % 256] : List Int)).bind fun y148 => (if y148.length < 140737488355328 then (samphireref01_PutBig.l0 k1 l0 (y148 ++ [(Go.bits .and .i64 t141 255) % 256]) (wrap64 (x4_1 + 1))) else (none))) else (none))) else (none))) else (none)) = some r := H
          have A4 := Aside0.mk A40
          clear A40
          by_cases c5 : x3_1.length < 140737488355328
          · rw [if_pos c5] at H
            have LMc5 := Aside0.mk c5
            clear c5
            obtain ⟨y142, hy142⟩ : ∃ y_ : List Int, y_ = (x3_1 ++ [(t141 / 16777216) % 256]) := ⟨_, rfl⟩
            replace H : (if y142.length < 140737488355328 then ((some (y142 ++ [(Go.bits .and .i64 (t141 / 65536) 255) % 256] : List Int)).bind fun y145 => (if y145.length < 140737488355328 then ((some (y145 ++ [(Go.bits .and .i64 (t141 / 256) 255) % 256] : List Int)).bind fun y148 => (if y148.length < 140737488355328 then (samphireref01_PutBig.l0 k1 l0 (y148 ++ [(Go.bits .and .i64 t141 255) % 256]) (wrap64 (x4_1 + 1))) else (none))) else (none))) else (none)) = some r := by first | (rw [hy142]; with_reducible exact H) | (have H2_ := (Option.bind_some _ _).symm.trans H; rw [hy142]; with_reducible exact H2_) | (have H2_ := (Option.bind_some _ _).symm.trans H; with_reducible exact H2_) | with_reducible exact H | (rw [hy142]; exact H) | exact H
            have Ny142 := Aside0.mk hy142
            clear hy142
            by_cases c6 : y142.length < 140737488355328
            · rw [if_pos c6] at H
              have LMc6 := Aside0.mk c6
              clear c6
              obtain ⟨y145, hy145⟩ : ∃ y_ : List Int, y_ = (y142 ++ [(Go.bits .and .i64 (t141 / 65536) 255) % 256]) := ⟨_, rfl⟩
              replace H : (if y145.length < 140737488355328 then ((some (y145 ++ [(Go.bits .and .i64 (t141 / 256) 255) % 256] : List Int)).bind fun y148 => (if y148.length < 140737488355328 then (samphireref01_PutBig.l0 k1 l0 (y148 ++ [(Go.bits .and .i64 t141 255) % 256]) (wrap64 (x4_1 + 1))) else (none))) else (none)) = some r := by first | (rw [hy145]; with_reducible exact H) | (have H2_ := (Option.bind_some _ _).symm.trans H; rw [hy145]; with_reducible exact H2_) | (have H2_ := (Option.bind_some _ _).symm.trans H; with_reducible exact H2_) | with_reducible exact H | (rw [hy145]; exact H) | exact H
              have Ny145 := Aside0.mk hy145
              clear hy145
              by_cases c7 : y145.length < 140737488355328
              · rw [if_pos c7] at H
                have LMc7 := Aside0.mk c7
                clear c7
                obtain ⟨y148, hy148⟩ : ∃ y_ : List Int, y_ = (y145 ++ [(Go.bits .and .i64 (t141 / 256) 255) % 256]) := ⟨_, rfl⟩
                replace H : (if y148.length < 140737488355328 then (samphireref01_PutBig.l0 k1 l0 (y148 ++ [(Go.bits .and .i64 t141 255) % 256]) (wrap64 (x4_1 + 1))) else (none)) = some r := by first | (rw [hy148]; with_reducible exact H) | (have H2_ := (Option.bind_some _ _).symm.trans H; rw [hy148]; with_reducible exact H2_) | (have H2_ := (Option.bind_some _ _).symm.trans H; with_reducible exact H2_) | with_reducible exact H | (rw [hy148]; exact H) | exact H
                have Ny148 := Aside0.mk hy148
                clear hy148
                by_cases c8 : y148.length < 140737488355328
                · rw [if_pos c8] at H
                  have LMc8 := Aside0.mk c8
                  clear c8
                  obtain ⟨y151, hy151⟩ : ∃ y_ : List Int, y_ = (y148 ++ [(Go.bits .and .i64 t141 255) % 256]) := ⟨_, rfl⟩
                  replace H : (samphireref01_PutBig.l0 k1 l0 y151 (wrap64 (x4_1 + 1))) = some r := by first | (rw [hy151]; with_reducible exact H) | (have H2_ := (Option.bind_some _ _).symm.trans H; rw [hy151]; with_reducible exact H2_) | (have H2_ := (Option.bind_some _ _).symm.trans H; with_reducible exact H2_) | with_reducible exact H | (rw [hy151]; exact H) | exact H
                  have Ny151 := Aside0.mk hy151
                  clear hy151
                  have H' := Aside0.mk H
                  clear H
                  have p140 : 0 ≤ (x4_1 : Int) := of_decide_eq_true (by first | (with_reducible assumption) | assumption)
                  have q140 : x4_1 < (l0.length : Int) := of_decide_eq_true (by first | (with_reducible assumption) | assumption)
                  obtain ⟨ad140, e140, hx140_0⟩ := Kd.at_int HR0.out x4_1 p140 q140
                  cases e140
                  replace hx140_0 := (HB.out.cell (World.block_lt_of_cell? w _ hx140_0)).trans hx140_0
                  replace p140 := eq_true p140
                  replace q140 := eq_true q140
                  go_wp2_with (first | ((with_reducible refine gate_callee (f := 166) rfl ?_); refine goesL_ (some 16) rfl rfl Try.func166 (by kernel_rfl) rfl #[.int .i64 (rd l0 x4_1)] rfl (by (try simp only [List.map_toArray, List.map_cons, List.map_nil]); first | done | rfl | (simp only [List.length_drop, List.length_take]; rfl)) ?_; (with_reducible refine (samphireref01_Word.calls (rd l0 x4_1) t141 _ A4.out).mono ?_); rintro e w' ⟨rfl, ⟨nd, rfl⟩⟩; refine ⟨_, rfl, ?_⟩) | ((with_reducible refine gate_builtin (b := .append) (xs := #[.tmp 17, .tmp 21]) rfl ?_); at_builtin; refine Kd.R_append (Kd.int .u8) (w0 := w) w.heap.size rfl (.tmp 17) (.tmp 21) 68 5 (.int .u8 0) 1 rfl Try.underlying68 info5 rfl (by decide) (by omega) u3 x3_1 ((t141 / 16777216) % 256) [.int .u8 ((t141 / 16777216) % 256)] (fun _ => True) (fun _ => False) rfl rfl ?aP (fun _ hk => hk.elim) ?aF ?aO ?aB ?aS ?aL ?_; (case aP => exact rfl); (case aB => exact (by repeat (first | (with_reducible first | exact HB.out | apply below_alloc | apply pw_below_drewN | apply below_drew1) | exact HB.out))); (case aF => exact (fun _ _ => trivial)); (case aO => exact (by (with_reducible repeat (first | apply Kd.R_alloc | apply Kd.R_drewN | apply Kd.R_drew)); exact HO_3.out)); (case aS => exact (below_size (by repeat (first | (with_reducible first | exact HB.out | apply below_alloc | apply pw_below_drewN | apply below_drew1) | exact HB.out)))); (case aL => have := LMc5.out; omega); intro v143 w9 ho hb hg hat; rw [← Ny142.out] at ho; have n0_ := Aside0.mk (hb); have n1_ := Aside0.mk (ho); clear HB; clear HO_3; have HB := n0_; have HO144 := n1_; clear n0_ n1_; clear ho hb hg hat) | ((with_reducible refine gate_builtin (b := .append) (xs := #[.tmp 23, .tmp 28]) rfl ?_); at_builtin; refine Kd.R_append (Kd.int .u8) (w0 := w) w.heap.size rfl (.tmp 23) (.tmp 28) 68 5 (.int .u8 0) 1 rfl Try.underlying68 info5 rfl (by decide) (by omega) v143 y142 ((Go.bits .and .i64 (t141 / 65536) 255) % 256) [.int .u8 ((Go.bits .and .i64 (t141 / 65536) 255) % 256)] (fun _ => True) (fun _ => False) rfl rfl ?aP (fun _ hk => hk.elim) ?aF ?aO ?aB ?aS ?aL ?_; (case aP => exact rfl); (case aB => exact (by repeat (first | (with_reducible first | exact HB.out | apply below_alloc | apply pw_below_drewN | apply below_drew1) | exact HB.out))); (case aF => exact (fun _ _ => trivial)); (case aO => exact (by (with_reducible repeat (first | apply Kd.R_alloc | apply Kd.R_drewN | apply Kd.R_drew)); exact HO144.out)); (case aS => exact (below_size (by repeat (first | (with_reducible first | exact HB.out | apply below_alloc | apply pw_below_drewN | apply below_drew1) | exact HB.out)))); (case aL => have := LMc6.out; omega); intro v146 w10 ho hb hg hat; rw [← Ny145.out] at ho; have n0_ := Aside0.mk (hb); have n1_ := Aside0.mk (ho); clear HB; clear HO144; have HB := n0_; have HO147 := n1_; clear n0_ n1_; clear ho hb hg hat) | ((with_reducible refine gate_builtin (b := .append) (xs := #[.tmp 30, .tmp 35]) rfl ?_); at_builtin; refine Kd.R_append (Kd.int .u8) (w0 := w) w.heap.size rfl (.tmp 30) (.tmp 35) 68 5 (.int .u8 0) 1 rfl Try.underlying68 info5 rfl (by decide) (by omega) v146 y145 ((Go.bits .and .i64 (t141 / 256) 255) % 256) [.int .u8 ((Go.bits .and .i64 (t141 / 256) 255) % 256)] (fun _ => True) (fun _ => False) rfl rfl ?aP (fun _ hk => hk.elim) ?aF ?aO ?aB ?aS ?aL ?_; (case aP => exact rfl); (case aB => exact (by repeat (first | (with_reducible first | exact HB.out | apply below_alloc | apply pw_below_drewN | apply below_drew1) | exact HB.out))); (case aF => exact (fun _ _ => trivial)); (case aO => exact (by (with_reducible repeat (first | apply Kd.R_alloc | apply Kd.R_drewN | apply Kd.R_drew)); exact HO147.out)); (case aS => exact (below_size (by repeat (first | (with_reducible first | exact HB.out | apply below_alloc | apply pw_below_drewN | apply below_drew1) | exact HB.out)))); (case aL => have := LMc7.out; omega); intro v149 w11 ho hb hg hat; rw [← Ny148.out] at ho; have n0_ := Aside0.mk (hb); have n1_ := Aside0.mk (ho); clear HB; clear HO147; have HB := n0_; have HO150 := n1_; clear n0_ n1_; clear ho hb hg hat) | ((with_reducible refine gate_builtin (b := .append) (xs := #[.tmp 37, .tmp 41]) rfl ?_); at_builtin; refine Kd.R_append (Kd.int .u8) (w0 := w) w.heap.size rfl (.tmp 37) (.tmp 41) 68 5 (.int .u8 0) 1 rfl Try.underlying68 info5 rfl (by decide) (by omega) v149 y148 ((Go.bits .and .i64 t141 255) % 256) [.int .u8 ((Go.bits .and .i64 t141 255) % 256)] (fun _ => True) (fun _ => False) rfl rfl ?aP (fun _ hk => hk.elim) ?aF ?aO ?aB ?aS ?aL ?_; (case aP => exact rfl); (case aB => exact (by repeat (first | (with_reducible first | exact HB.out | apply below_alloc | apply pw_below_drewN | apply below_drew1) | exact HB.out))); (case aF => exact (fun _ _ => trivial)); (case aO => exact (by (with_reducible repeat (first | apply Kd.R_alloc | apply Kd.R_drewN | apply Kd.R_drew)); exact HO150.out)); (case aS => exact (below_size (by repeat (first | (with_reducible first | exact HB.out | apply below_alloc | apply pw_below_drewN | apply below_drew1) | exact HB.out)))); (case aL => have := LMc8.out; omega); intro v152 w12 ho hb hg hat; rw [← Ny151.out] at ho; have n0_ := Aside0.mk (hb); have n1_ := Aside0.mk (ho); clear HB; clear HO150; have HB := n0_; have HO153 := n1_; clear n0_ n1_; clear ho hb hg hat))
                  go_roundg k1
                  case measure => have := HK1.out; omega
                  case rel => exact ⟨(y151), (wrap64 (x4_1 + 1)), (by first | rfl | (simp; done) | (simp [*]; done)), H', ⟨by have := HK1.out; omega⟩, ⟨by (with_reducible repeat (first | apply Kd.R_alloc | apply Kd.R_drewN | apply Kd.R_drew)); exact HO153.out⟩, ⟨by repeat (first | (with_reducible first | exact HB.out | apply below_alloc | apply pw_below_drewN | apply below_drew1) | exact HB.out)⟩⟩
                · rw [if_neg c8] at H
                  exact absurd H (by simp)
              · rw [if_neg c7] at H
                exact absurd H (by simp)
            · rw [if_neg c6] at H
              exact absurd H (by simp)
          · rw [if_neg c5] at H
            exact absurd H (by simp)
        · rw [if_neg c3] at H
          exact absurd H (by simp)
      · rw [if_neg c2] at H
        have c2b0 : decide (x4_1 < (l0.length : Int)) = false := decide_eq_false c2
        clear c2
        obtain rfl := Option.some.inj H
        have hcv13 := own_string (P := Try.prog) Try.underlying68 Try.underlying5 Try.underlying9 (Kd.own_of_R HO_3.out)
        go_wp2
        go_ret
        exact ⟨by first | rfl | (simp [errW_none, errW_some] <;> rfl) | (simp [*, errW_none, errW_some] <;> rfl), by repeat (first | (with_reducible first | exact HB.out | apply below_alloc | apply pw_below_drewN | apply below_drew1) | exact HB.out)⟩
end Go.Proofs.Ytbkbganflnemeaa.Pr
end

section
namespace Go.Proofs.Ytbkbganflnemeaa.Pr
open Go.RowKit Go.Proofs.YtbkbganflnemeaaW.PrintWords Go.Proofs.YtbkbganflnemeaaW.PrintLast Go.Proofs.YtbkbganflnemeaaW.PrintMore
attribute [local go_sem] max2_int min2_int max_two min_two max_three min_three max_four min_four   -- for this text's walks alone
set_option linter.unusedVariables false
set_option linter.unusedSimpArgs false
def samphireref01_Big.l0 : Nat → ByteArray → List Int → Int → Option (List Int × Int)
  | 0, _, _, _ => none
  | k + 1, x0, x4, x5 => if x5 < (x0.size : Int) then (if 0 ≤ x5 then (if 0 ≤ (wrap64 (x5 + 1)) then (if (wrap64 (x5 + 1)) < (x0.size : Int) then (if 0 ≤ (wrap64 (x5 + 2)) then (if (wrap64 (x5 + 2)) < (x0.size : Int) then (if 0 ≤ (wrap64 (x5 + 3)) then (if (wrap64 (x5 + 3)) < (x0.size : Int) then (if x4.length < 17592186044416 then (samphireref01_Big.l0 k x0 (x4 ++ [Go.bits .or .i64 (Go.bits .or .i64 (Go.bits .or .i64 (wrap64 ((wrap64 (bt x0 x5)) * 16777216)) (wrap64 ((wrap64 (bt x0 (wrap64 (x5 + 1)))) * 65536))) (wrap64 ((wrap64 (bt x0 (wrap64 (x5 + 2)))) * 256))) (wrap64 (bt x0 (wrap64 (x5 + 3))))]) (wrap64 (x5 + 4))) else (none)) else (none)) else (none)) else (none)) else (none)) else (none)) else (none)) else (none)) else (some (x4, 0))
def samphireref01_Big.f (k : Nat) (a0 : ByteArray) : Option (List Int × Int) := if ((a0.size : Int) % 4) = 0 then (samphireref01_Big.l0 k a0 ([] : List Int) 0) else (some (([] : List Int), 1))
def samphireref01_Big.T7 : Bool × List (List Nat × List Nat) := (true, [([], []), ([], []), ([], []), ([1, 2], [1, 2]), ([3], [3]), ([4], [4]), ([], []), ([], []), ([7], [7]), ([6, 8], [6, 8]), ([9], [9]), ([10], [10]), ([5, 11], [5, 11]), ([], []), ([], []), ([14], [14]), ([13, 15], [13, 15]), ([16], [16]), ([17], [17]), ([12, 18], [12, 18]), ([], []), ([], []), ([21], [21]), ([20, 22], [20, 22]), ([23], [23]), ([19, 24], [19, 24]), ([25], [25]), ([0, 26], [0, 26]), ([27, 27, 0, 1, 2, 3, 4, 5, 6, 7, 8, 9, 10, 11, 12, 13, 14, 15, 16, 17, 18, 19, 20, 21, 22, 23, 24, 25, 26, 27], [0, 27])])
def samphireref01_Big.B7 : List Nat := [0, 0, 0, 6, 14, 30, 0, 0, 128, 448, 960, 1984, 4094, 0, 0, 16384, 57344, 122880, 253952, 524286, 0, 0, 2097152, 7340032, 15728640, 33554430, 67108862, 134217727, 268435455]
theorem samphireref01_Big.tab7 : rtab .any (opsOf Try.f165 7) = samphireref01_Big.T7 := by kernel_rfl
theorem samphireref01_Big.bits7 : waitsOk samphireref01_Big.T7.2 samphireref01_Big.B7 = true := by kernel_rfl
set_option maxHeartbeats 8000000 in
set_option maxRecDepth 100000 in
theorem samphireref01_Big.calls (k : Nat) (a0 : ByteArray) (r1 : List Int) (r2 : Int) (w : World) (h : samphireref01_Big.f k a0 = some (r1, r2)) :
    Calls Try.prog 165 #[.string a0] w fun e w' => ∃ v0_ : Value, e = .returned (.tuple #[v0_, .int .i64 r2]) ∧ Kd.R (Kd.int .i64) 3 w' w.heap.size (fun _ => True) v0_ r1 ∧ Below w.heap.size w w' := by
  have HB := Aside0.mk (Below.refl w.heap.size w)
  have H : (if ((a0.size : Int) % 4) = 0 then (samphireref01_Big.l0 k a0 ([] : List Int) 0) else (some (([] : List Int), 1))) = some (r1, r2) := h
  clear h
  by_cases c2 : ((a0.size : Int) % 4) = 0
  · rw [if_pos c2] at H
    have c2b0 : (((a0.size : Int) % 4) == 0) = true := beq_iff_eq.mpr c2
    have c2b1 : (((a0.size : Int) % 4) != 0) = false := bne_eq_false_iff_eq.mpr c2
    clear c2
    have H' := Aside0.mk H
    clear H
    go_enter Try.func165, Try.ntmps165
    go_wp2
    go_loopg [4, 5] k (fun kq v4 v5 w' => ∃ (x4_1 : List Int) (x5_1 : Int), v5 = .int .i64 x5_1 ∧ Aside0 (samphireref01_Big.l0 kq a0 x4_1 x5_1 = some (r1, r2)) ∧ Aside0 (kq ≤ k) ∧ Aside0 (Kd.R (Kd.int .i64) 3 w' w.heap.size (fun _ => True) v4 x4_1) ∧ Aside0 (Below w.heap.size w w'))
    case atStart => exact ⟨(([] : List Int)), (0), (by first | rfl | (simp; done) | (simp [*]; done)), H', ⟨Nat.le_refl _⟩, ⟨by first | exact Kd.R_nil _ _ _ _ _ | exact Kd.N_nil _ _ _ _ _ | exact Kd.V_nil _ _ _ _ _ | exact Kd.Q_nil _ _ _ _ _ | exact Kd.S_nil _ _ _ _ _⟩, ⟨by repeat (first | (with_reducible first | exact HB.out | apply below_alloc | apply pw_below_drewN | apply below_drew1) | exact HB.out)⟩⟩
    case round =>
      clear H'
      try clear c1
      try clear c2
      try clear c2b0
      try clear c2b1
      try clear p2
      obtain ⟨x4_1, x5_1, rfl, HA, HK1, HO_4, HB⟩ := hrel
      cases gk with
      | zero => exact absurd HA.out (by simp [samphireref01_Big.l0])
      | succ k1 =>
        have H := HA.out
        clear HA
        simp only [samphireref01_Big.l0] at H
        by_cases c3 : x5_1 < (a0.size : Int)
        · rw [if_pos c3] at H
          have c3b0 : decide (x5_1 < (a0.size : Int)) = true := decide_eq_true c3
          clear c3
          by_cases c4 : 0 ≤ x5_1
          · rw [if_pos c4] at H
            have c4b0 : decide (0 ≤ x5_1) = true := decide_eq_true c4
            clear c4
            obtain ⟨ji6, hji6⟩ : ∃ j_ : Int, (wrap64 (x5_1 + 1)) = j_ := ⟨_, rfl⟩
            replace H : (if 0 ≤ (ji6) then (if (ji6) < (a0.size : Int) then (if 0 ≤ (wrap64 (x5_1 + 2)) then (if (wrap64 (x5_1 + 2)) < (a0.size : Int) then (if 0 ≤ (wrap64 (x5_1 + 3)) then (if (wrap64 (x5_1 + 3)) < (a0.size : Int) then (if x4_1.length < 17592186044416 then (samphireref01_Big.l0 k1 a0 (x4_1 ++ [Go.bits .or .i64 (Go.bits .or .i64 (Go.bits .or .i64 (wrap64 ((wrap64 (bt a0 x5_1)) * 16777216)) (wrap64 ((wrap64 (bt a0 (ji6))) * 65536))) (wrap64 ((wrap64 (bt a0 (wrap64 (x5_1 + 2)))) * 256))) (wrap64 (bt a0 (wrap64 (x5_1 + 3))))]) (wrap64 (x5_1 + 4))) else (none)) else (none)) else (none)) else (none)) else (none)) else (none)) else (none)) = some (r1, r2) := by first | (rw [hji6] at H; exact H) | (simp only [hji6] at H ⊢; exact H)
            have hji6w : (IntKind.i64.wrap (x5_1 + 1)) = ji6 := (i64_w _).trans hji6
            by_cases c7 : 0 ≤ (ji6)
            · rw [if_pos c7] at H
              have c7b0 : decide (0 ≤ (ji6)) = true := decide_eq_true c7
              clear c7
              by_cases c8 : (ji6) < (a0.size : Int)
              · rw [if_pos c8] at H
                have c8b0 : decide ((ji6) < (a0.size : Int)) = true := decide_eq_true c8
                clear c8
                obtain ⟨ji10, hji10⟩ : ∃ j_ : Int, (wrap64 (x5_1 + 2)) = j_ := ⟨_, rfl⟩
                replace H : (if 0 ≤ (ji10) then (if (ji10) < (a0.size : Int) then (if 0 ≤ (wrap64 (x5_1 + 3)) then (if (wrap64 (x5_1 + 3)) < (a0.size : Int) then (if x4_1.length < 17592186044416 then (samphireref01_Big.l0 k1 a0 (x4_1 ++ [Go.bits .or .i64 (Go.bits .or .i64 (Go.bits .or .i64 (wrap64 ((wrap64 (bt a0 x5_1)) * 16777216)) (wrap64 ((wrap64 (bt a0 (ji6))) * 65536))) (wrap64 ((wrap64 (bt a0 (ji10))) * 256))) (wrap64 (bt a0 (wrap64 (x5_1 + 3))))]) (wrap64 (x5_1 + 4))) else (none)) else (none)) else (none)) else (none)) else (none)) = some (r1, r2) := by first | (rw [hji10] at H; exact H) | (simp only [hji10] at H ⊢; exact H)
                have hji10w : (IntKind.i64.wrap (x5_1 + 2)) = ji10 := (i64_w _).trans hji10
                by_cases c11 : 0 ≤ (ji10)
                · rw [if_pos c11] at H
                  have c11b0 : decide (0 ≤ (ji10)) = true := decide_eq_true c11
                  clear c11
                  by_cases c12 : (ji10) < (a0.size : Int)
                  · rw [if_pos c12] at H
                    have c12b0 : decide ((ji10) < (a0.size : Int)) = true := decide_eq_true c12
                    clear c12
                    obtain ⟨ji14, hji14⟩ : ∃ j_ : Int, (wrap64 (x5_1 + 3)) = j_ := ⟨_, rfl⟩
                    replace H : (if 0 ≤ (ji14) then (if (ji14) < (a0.size : Int) then (if x4_1.length < 17592186044416 then (samphireref01_Big.l0 k1 a0 (x4_1 ++ [Go.bits .or .i64 (Go.bits .or .i64 (Go.bits .or .i64 (wrap64 ((wrap64 (bt a0 x5_1)) * 16777216)) (wrap64 ((wrap64 (bt a0 (ji6))) * 65536))) (wrap64 ((wrap64 (bt a0 (ji10))) * 256))) (wrap64 (bt a0 (ji14)))]) (wrap64 (x5_1 + 4))) else (none)) else (none)) else (none)) = some (r1, r2) := by first | (rw [hji14] at H; exact H) | (simp only [hji14] at H ⊢; exact H)
                    have hji14w : (IntKind.i64.wrap (x5_1 + 3)) = ji14 := (i64_w _).trans hji14
                    by_cases c15 : 0 ≤ (ji14)
                    · rw [if_pos c15] at H
                      have c15b0 : decide (0 ≤ (ji14)) = true := decide_eq_true c15
                      clear c15
                      by_cases c16 : (ji14) < (a0.size : Int)
                      · rw [if_pos c16] at H
                        have c16b0 : decide ((ji14) < (a0.size : Int)) = true := decide_eq_true c16
                        clear c16
                        by_cases c18 : x4_1.length < 17592186044416
                        · rw [if_pos c18] at H
                          have LMc18 := Aside0.mk c18
                          clear c18
                          obtain ⟨y158, hy158⟩ : ∃ y_ : List Int, y_ = (x4_1 ++ [Go.bits .or .i64 (Go.bits .or .i64 (Go.bits .or .i64 (wrap64 ((wrap64 (bt a0 x5_1)) * 16777216)) (wrap64 ((wrap64 (bt a0 (ji6))) * 65536))) (wrap64 ((wrap64 (bt a0 (ji10))) * 256))) (wrap64 (bt a0 (ji14)))]) := ⟨_, rfl⟩
                          replace H : (samphireref01_Big.l0 k1 a0 y158 (wrap64 (x5_1 + 4))) = some (r1, r2) := by first | (rw [hy158]; with_reducible exact H) | (have H2_ := (Option.bind_some _ _).symm.trans H; rw [hy158]; with_reducible exact H2_) | (have H2_ := (Option.bind_some _ _).symm.trans H; with_reducible exact H2_) | with_reducible exact H | (rw [hy158]; exact H) | exact H
                          have Ny158 := Aside0.mk hy158
                          clear hy158
                          have H' := Aside0.mk H
                          clear H
                          try go_wp2
                          have n0_ := Aside0.mk (Kd.R_drew HO_4.out)
                          have n1_ := Aside0.mk (below_drew1 HB.out)
                          clear HO_4
                          clear HB
                          have HO_4 := n0_
                          have HB := n1_
                          clear n0_ n1_
                          have p5 : 0 ≤ (x5_1 : Int) := of_decide_eq_true (by first | (with_reducible assumption) | assumption)
                          have q5 : x5_1 < (a0.size : Int) := of_decide_eq_true (by first | (with_reducible assumption) | assumption)
                          have hx5 := bt_at a0 x5_1
                          replace p5 := eq_true p5
                          replace q5 := eq_true q5
                          have p9 : 0 ≤ ((ji6) : Int) := of_decide_eq_true (by first | (with_reducible assumption) | assumption)
                          have q9 : (ji6) < (a0.size : Int) := of_decide_eq_true (by first | (with_reducible assumption) | assumption)
                          have hx9 := bt_at a0 (ji6)
                          replace p9 := eq_true p9
                          replace q9 := eq_true q9
                          have p13 : 0 ≤ ((ji10) : Int) := of_decide_eq_true (by first | (with_reducible assumption) | assumption)
                          have q13 : (ji10) < (a0.size : Int) := of_decide_eq_true (by first | (with_reducible assumption) | assumption)
                          have hx13 := bt_at a0 (ji10)
                          replace p13 := eq_true p13
                          replace q13 := eq_true q13
                          have p17 : 0 ≤ ((ji14) : Int) := of_decide_eq_true (by first | (with_reducible assumption) | assumption)
                          have q17 : (ji14) < (a0.size : Int) := of_decide_eq_true (by first | (with_reducible assumption) | assumption)
                          have hx17 := bt_at a0 (ji14)
                          replace p17 := eq_true p17
                          replace q17 := eq_true q17
                          refine start_ (n := 29) (S := fun w' => True) (ds := []) #[false, false, false, false, false, false, false, false, false, false, false, false, false, false, false, false, false, false, false, false, false, false, false, false, false, false, false, false, false] (by kernel_rfl) rfl rfl trivial (fun hHeld => ?_); refine with_tabW samphireref01_Big.tab7 samphireref01_Big.bits7 (fun HT_ HW_ => ?_)
                          generalize wr.drew = w19 at HO_4 HB hHeld ⊢
                          refine pure_ (i := 0) (N := some 16) (v := ?_) (a' := ?_) #[true, false, false, false, false, false, false, false, false, false, false, false, false, false, false, false, false, false, false, false, false, false, false, false, false, false, false, false, false] rfl rfl (any_of HT_.out (by kernel_rfl)) (fun _ _ _ h => h) (Or.inl ⟨by rfl, ?_⟩) ?_ ?_
                          rotate_left
                          · intro w'
                            go_simp
                            with_reducible rfl
                          rotate_left
                          · simp only [Act.put, List.setIfInBounds_toArray, List.set_cons_zero, List.set_cons_succ, i64_w, i32_w]
                            rfl
                          refine pure_ (i := 1) (N := some 17) (v := ?_) (a' := ?_) #[true, true, false, false, false, false, false, false, false, false, false, false, false, false, false, false, false, false, false, false, false, false, false, false, false, false, false, false, false] rfl rfl (any_of HT_.out (by kernel_rfl)) (fun _ _ _ h => h) (Or.inl ⟨by rfl, ?_⟩) ?_ ?_
                          rotate_left
                          · intro w'
                            go_simp
                            with_reducible rfl
                          rotate_left
                          · simp only [Act.put, List.setIfInBounds_toArray, List.set_cons_zero, List.set_cons_succ, i64_w, i32_w]
                            rfl
                          refine pure_ (i := 2) (N := some 18) (v := ?_) (a' := ?_) #[true, true, true, false, false, false, false, false, false, false, false, false, false, false, false, false, false, false, false, false, false, false, false, false, false, false, false, false, false] rfl rfl (any_of HT_.out (by kernel_rfl)) (fun _ _ _ h => h) (Or.inl ⟨by rfl, ?_⟩) ?_ ?_
                          rotate_left
                          · intro w'
                            go_simp
                            with_reducible rfl
                          rotate_left
                          · simp only [Act.put, List.setIfInBounds_toArray, List.set_cons_zero, List.set_cons_succ, i64_w, i32_w]
                            rfl
                          refine pure_ (i := 6) (N := some 22) (v := ?_) (a' := ?_) #[true, true, true, false, false, false, true, false, false, false, false, false, false, false, false, false, false, false, false, false, false, false, false, false, false, false, false, false, false] rfl rfl (any_of HT_.out (by kernel_rfl)) (fun _ _ _ h => h) (Or.inl ⟨by rfl, ?_⟩) ?_ ?_
                          rotate_left
                          · intro w'
                            go_simp
                            with_reducible rfl
                          rotate_left
                          · simp only [Act.put, List.setIfInBounds_toArray, List.set_cons_zero, List.set_cons_succ, i64_w, i32_w]
                            rfl
                          refine pure_ (i := 7) (N := some 23) (v := ?_) (a' := ?_) #[true, true, true, false, false, false, true, true, false, false, false, false, false, false, false, false, false, false, false, false, false, false, false, false, false, false, false, false, false] rfl rfl (any_of HT_.out (by kernel_rfl)) (fun _ _ _ h => h) (Or.inl ⟨by rfl, ?_⟩) ?_ ?_
                          rotate_left
                          · intro w'
                            go_simp
                            with_reducible rfl
                          rotate_left
                          · simp only [Act.put, List.setIfInBounds_toArray, List.set_cons_zero, List.set_cons_succ, i64_w, i32_w]
                            rfl
                          refine pure_ (i := 8) (N := some 24) (v := ?_) (a' := ?_) #[true, true, true, false, false, false, true, true, true, false, false, false, false, false, false, false, false, false, false, false, false, false, false, false, false, false, false, false, false] rfl rfl (any_of HT_.out (by kernel_rfl)) (fun _ _ _ h => h) (Or.inl ⟨by rfl, ?_⟩) ?_ ?_
                          rotate_left
                          · intro w'
                            go_simp
                            with_reducible rfl
                          rotate_left
                          · simp only [Act.put, List.setIfInBounds_toArray, List.set_cons_zero, List.set_cons_succ, i64_w, i32_w]
                            rfl
                          refine pure_ (i := 13) (N := some 29) (v := ?_) (a' := ?_) #[true, true, true, false, false, false, true, true, true, false, false, false, false, true, false, false, false, false, false, false, false, false, false, false, false, false, false, false, false] rfl rfl (any_of HT_.out (by kernel_rfl)) (fun _ _ _ h => h) (Or.inl ⟨by rfl, ?_⟩) ?_ ?_
                          rotate_left
                          · intro w'
                            go_simp
                            with_reducible rfl
                          rotate_left
                          · simp only [Act.put, List.setIfInBounds_toArray, List.set_cons_zero, List.set_cons_succ, i64_w, i32_w]
                            rfl
                          refine pure_ (i := 14) (N := some 30) (v := ?_) (a' := ?_) #[true, true, true, false, false, false, true, true, true, false, false, false, false, true, true, false, false, false, false, false, false, false, false, false, false, false, false, false, false] rfl rfl (any_of HT_.out (by kernel_rfl)) (fun _ _ _ h => h) (Or.inl ⟨by rfl, ?_⟩) ?_ ?_
                          rotate_left
                          · intro w'
                            go_simp
                            with_reducible rfl
                          rotate_left
                          · simp only [Act.put, List.setIfInBounds_toArray, List.set_cons_zero, List.set_cons_succ, i64_w, i32_w]
                            rfl
                          refine pure_ (i := 15) (N := some 31) (v := ?_) (a' := ?_) #[true, true, true, false, false, false, true, true, true, false, false, false, false, true, true, true, false, false, false, false, false, false, false, false, false, false, false, false, false] rfl rfl (any_of HT_.out (by kernel_rfl)) (fun _ _ _ h => h) (Or.inl ⟨by rfl, ?_⟩) ?_ ?_
                          rotate_left
                          · intro w'
                            go_simp
                            with_reducible rfl
                          rotate_left
                          · simp only [Act.put, List.setIfInBounds_toArray, List.set_cons_zero, List.set_cons_succ, i64_w, i32_w]
                            rfl
                          refine pure_ (i := 20) (N := some 36) (v := ?_) (a' := ?_) #[true, true, true, false, false, false, true, true, true, false, false, false, false, true, true, true, false, false, false, false, true, false, false, false, false, false, false, false, false] rfl rfl (any_of HT_.out (by kernel_rfl)) (fun _ _ _ h => h) (Or.inl ⟨by rfl, ?_⟩) ?_ ?_
                          rotate_left
                          · intro w'
                            go_simp
                            with_reducible rfl
                          rotate_left
                          · simp only [Act.put, List.setIfInBounds_toArray, List.set_cons_zero, List.set_cons_succ, i64_w, i32_w]
                            rfl
                          refine pure_ (i := 21) (N := some 37) (v := ?_) (a' := ?_) #[true, true, true, false, false, false, true, true, true, false, false, false, false, true, true, true, false, false, false, false, true, true, false, false, false, false, false, false, false] rfl rfl (any_of HT_.out (by kernel_rfl)) (fun _ _ _ h => h) (Or.inl ⟨by rfl, ?_⟩) ?_ ?_
                          rotate_left
                          · intro w'
                            go_simp
                            with_reducible rfl
                          rotate_left
                          · simp only [Act.put, List.setIfInBounds_toArray, List.set_cons_zero, List.set_cons_succ, i64_w, i32_w]
                            rfl
                          refine pure_ (i := 22) (N := some 38) (v := ?_) (a' := ?_) #[true, true, true, false, false, false, true, true, true, false, false, false, false, true, true, true, false, false, false, false, true, true, true, false, false, false, false, false, false] rfl rfl (any_of HT_.out (by kernel_rfl)) (fun _ _ _ h => h) (Or.inl ⟨by rfl, ?_⟩) ?_ ?_
                          rotate_left
                          · intro w'
                            go_simp
                            with_reducible rfl
                          rotate_left
                          · simp only [Act.put, List.setIfInBounds_toArray, List.set_cons_zero, List.set_cons_succ, i64_w, i32_w]
                            rfl
                          refine take_ (i := 3) (N := some 19) (v := ?_) (a' := ?_) #[true, true, true, true, false, false, true, true, true, false, false, false, false, true, true, true, false, false, false, false, true, true, true, false, false, false, false, false, false] rfl rfl (take_ofW HT_.out HW_.out (by kernel_rfl)) (fun _ _ _ h => h) (Or.inl ⟨by rfl, ?_⟩) hHeld ?_ ?_
                          rotate_left
                          · intro w' _
                            go_simp
                            with_reducible rfl
                          rotate_left
                          · simp only [Act.put, List.setIfInBounds_toArray, List.set_cons_zero, List.set_cons_succ, i64_w, i32_w]
                            rfl
                          refine pure_ (i := 4) (N := some 20) (v := ?_) (a' := ?_) #[true, true, true, true, true, false, true, true, true, false, false, false, false, true, true, true, false, false, false, false, true, true, true, false, false, false, false, false, false] rfl rfl (any_of HT_.out (by kernel_rfl)) (fun _ _ _ h => h) (Or.inl ⟨by rfl, ?_⟩) ?_ ?_
                          rotate_left
                          · intro w'
                            go_simp
                            with_reducible rfl
                          rotate_left
                          · simp only [Act.put, List.setIfInBounds_toArray, List.set_cons_zero, List.set_cons_succ, i64_w, i32_w]
                            rfl
                          refine pure_ (i := 5) (N := some 21) (v := ?_) (a' := ?_) #[true, true, true, true, true, true, true, true, true, false, false, false, false, true, true, true, false, false, false, false, true, true, true, false, false, false, false, false, false] rfl rfl (any_of HT_.out (by kernel_rfl)) (fun _ _ _ h => h) (Or.inl ⟨by rfl, ?_⟩) ?_ ?_
                          rotate_left
                          · intro w'
                            go_simp
                            with_reducible rfl
                          rotate_left
                          · simp only [Act.put, List.setIfInBounds_toArray, List.set_cons_zero, List.set_cons_succ, i64_w, i32_w]
                            rfl
                          refine take_ (i := 9) (N := some 25) (v := ?_) (a' := ?_) #[true, true, true, true, true, true, true, true, true, true, false, false, false, true, true, true, false, false, false, false, true, true, true, false, false, false, false, false, false] rfl rfl (take_ofW HT_.out HW_.out (by kernel_rfl)) (fun _ _ _ h => h) (Or.inl ⟨by rfl, ?_⟩) hHeld ?_ ?_
                          rotate_left
                          · intro w' _
                            go_simp
                            with_reducible rfl
                          rotate_left
                          · simp only [Act.put, List.setIfInBounds_toArray, List.set_cons_zero, List.set_cons_succ, i64_w, i32_w]
                            rfl
                          refine pure_ (i := 10) (N := some 26) (v := ?_) (a' := ?_) #[true, true, true, true, true, true, true, true, true, true, true, false, false, true, true, true, false, false, false, false, true, true, true, false, false, false, false, false, false] rfl rfl (any_of HT_.out (by kernel_rfl)) (fun _ _ _ h => h) (Or.inl ⟨by rfl, ?_⟩) ?_ ?_
                          rotate_left
                          · intro w'
                            go_simp
                            with_reducible rfl
                          rotate_left
                          · simp only [Act.put, List.setIfInBounds_toArray, List.set_cons_zero, List.set_cons_succ, i64_w, i32_w]
                            rfl
                          refine pure_ (i := 11) (N := some 27) (v := ?_) (a' := ?_) #[true, true, true, true, true, true, true, true, true, true, true, true, false, true, true, true, false, false, false, false, true, true, true, false, false, false, false, false, false] rfl rfl (any_of HT_.out (by kernel_rfl)) (fun _ _ _ h => h) (Or.inl ⟨by rfl, ?_⟩) ?_ ?_
                          rotate_left
                          · intro w'
                            go_simp
                            with_reducible rfl
                          rotate_left
                          · simp only [Act.put, List.setIfInBounds_toArray, List.set_cons_zero, List.set_cons_succ, i64_w, i32_w]
                            rfl
                          refine pure_ (i := 12) (N := some 28) (v := ?_) (a' := ?_) #[true, true, true, true, true, true, true, true, true, true, true, true, true, true, true, true, false, false, false, false, true, true, true, false, false, false, false, false, false] rfl rfl (any_of HT_.out (by kernel_rfl)) (fun _ _ _ h => h) (Or.inl ⟨by rfl, ?_⟩) ?_ ?_
                          rotate_left
                          · intro w'
                            go_simp
                            with_reducible rfl
                          rotate_left
                          · simp only [Act.put, List.setIfInBounds_toArray, List.set_cons_zero, List.set_cons_succ, i64_w, i32_w]
                            rfl
                          refine take_ (i := 16) (N := some 32) (v := ?_) (a' := ?_) #[true, true, true, true, true, true, true, true, true, true, true, true, true, true, true, true, true, false, false, false, true, true, true, false, false, false, false, false, false] rfl rfl (take_ofW HT_.out HW_.out (by kernel_rfl)) (fun _ _ _ h => h) (Or.inl ⟨by rfl, ?_⟩) hHeld ?_ ?_
                          rotate_left
                          · intro w' _
                            go_simp
                            with_reducible rfl
                          rotate_left
                          · simp only [Act.put, List.setIfInBounds_toArray, List.set_cons_zero, List.set_cons_succ, i64_w, i32_w]
                            rfl
                          refine pure_ (i := 17) (N := some 33) (v := ?_) (a' := ?_) #[true, true, true, true, true, true, true, true, true, true, true, true, true, true, true, true, true, true, false, false, true, true, true, false, false, false, false, false, false] rfl rfl (any_of HT_.out (by kernel_rfl)) (fun _ _ _ h => h) (Or.inl ⟨by rfl, ?_⟩) ?_ ?_
                          rotate_left
                          · intro w'
                            go_simp
                            with_reducible rfl
                          rotate_left
                          · simp only [Act.put, List.setIfInBounds_toArray, List.set_cons_zero, List.set_cons_succ, i64_w, i32_w]
                            rfl
                          refine pure_ (i := 18) (N := some 34) (v := ?_) (a' := ?_) #[true, true, true, true, true, true, true, true, true, true, true, true, true, true, true, true, true, true, true, false, true, true, true, false, false, false, false, false, false] rfl rfl (any_of HT_.out (by kernel_rfl)) (fun _ _ _ h => h) (Or.inl ⟨by rfl, ?_⟩) ?_ ?_
                          rotate_left
                          · intro w'
                            go_simp
                            with_reducible rfl
                          rotate_left
                          · simp only [Act.put, List.setIfInBounds_toArray, List.set_cons_zero, List.set_cons_succ, i64_w, i32_w]
                            rfl
                          refine pure_ (i := 19) (N := some 35) (v := ?_) (a' := ?_) #[true, true, true, true, true, true, true, true, true, true, true, true, true, true, true, true, true, true, true, true, true, true, true, false, false, false, false, false, false] rfl rfl (any_of HT_.out (by kernel_rfl)) (fun _ _ _ h => h) (Or.inl ⟨by rfl, ?_⟩) ?_ ?_
                          rotate_left
                          · intro w'
                            go_simp
                            with_reducible rfl
                          rotate_left
                          · simp only [Act.put, List.setIfInBounds_toArray, List.set_cons_zero, List.set_cons_succ, i64_w, i32_w]
                            rfl
                          refine take_ (i := 23) (N := some 39) (v := ?_) (a' := ?_) #[true, true, true, true, true, true, true, true, true, true, true, true, true, true, true, true, true, true, true, true, true, true, true, true, false, false, false, false, false] rfl rfl (take_ofW HT_.out HW_.out (by kernel_rfl)) (fun _ _ _ h => h) (Or.inl ⟨by rfl, ?_⟩) hHeld ?_ ?_
                          rotate_left
                          · intro w' _
                            go_simp
                            with_reducible rfl
                          rotate_left
                          · simp only [Act.put, List.setIfInBounds_toArray, List.set_cons_zero, List.set_cons_succ, i64_w, i32_w]
                            rfl
                          refine pure_ (i := 24) (N := some 40) (v := ?_) (a' := ?_) #[true, true, true, true, true, true, true, true, true, true, true, true, true, true, true, true, true, true, true, true, true, true, true, true, true, false, false, false, false] rfl rfl (any_of HT_.out (by kernel_rfl)) (fun _ _ _ h => h) (Or.inl ⟨by rfl, ?_⟩) ?_ ?_
                          rotate_left
                          · intro w'
                            go_simp
                            with_reducible rfl
                          rotate_left
                          · simp only [Act.put, List.setIfInBounds_toArray, List.set_cons_zero, List.set_cons_succ, i64_w, i32_w]
                            rfl
                          refine pure_ (i := 25) (N := some 41) (v := ?_) (a' := ?_) #[true, true, true, true, true, true, true, true, true, true, true, true, true, true, true, true, true, true, true, true, true, true, true, true, true, true, false, false, false] rfl rfl (any_of HT_.out (by kernel_rfl)) (fun _ _ _ h => h) (Or.inl ⟨by rfl, ?_⟩) ?_ ?_
                          rotate_left
                          · intro w'
                            go_simp
                            with_reducible rfl
                          rotate_left
                          · simp only [Act.put, List.setIfInBounds_toArray, List.set_cons_zero, List.set_cons_succ, i64_w, i32_w]
                            rfl
                          refine one_ (i := 26) (N := some 42) #[true, true, true, true, true, true, true, true, true, true, true, true, true, true, true, true, true, true, true, true, true, true, true, true, true, true, true, false, false] rfl rfl (one_of HT_.out (by kernel_rfl)) (by decide) (fun K hK => ?_)
                          refine value_ (w1 := ?_) (v := ?_) (by rfl) rfl ?_ ?_
                          rotate_left 2
                          · go_simp
                            constructor
                            · rfl
                            · rfl
                          refine hK.out _ _ trivial (fun hHeld => ?_)
                          clear hK K
                          refine norm_ (a' := ?_) ?_ ?_
                          rotate_left
                          · show Act.put _ (some 42) _ = _
                            simp only [Act.put, List.setIfInBounds_toArray, List.set_cons_zero, List.set_cons_succ, i64_w, i32_w]
                            rfl
                          refine one_ (i := 27) (N := some 43) #[true, true, true, true, true, true, true, true, true, true, true, true, true, true, true, true, true, true, true, true, true, true, true, true, true, true, true, true, false] rfl rfl (one_of HT_.out (by kernel_rfl)) (by decide) (fun K hK => ?_)
                          refine Kd.R_append_step (Kd.int .i64) (w0 := w) w.heap.size (by rfl) (.tmp 16) (.tmp 42) 78 3 (.int .i64 0) 8 rfl Try.underlying78 info3 rfl (by decide) (by omega) u4 x4_1 (Go.bits .or .i64 (Go.bits .or .i64 (Go.bits .or .i64 (wrap64 ((wrap64 (bt a0 x5_1)) * 16777216)) (wrap64 ((wrap64 (bt a0 (ji6))) * 65536))) (wrap64 ((wrap64 (bt a0 (ji10))) * 256))) (wrap64 (bt a0 (ji14)))) [.int .i64 (Go.bits .or .i64 (Go.bits .or .i64 (Go.bits .or .i64 (wrap64 ((wrap64 (bt a0 x5_1)) * 16777216)) (wrap64 ((wrap64 (bt a0 (ji6))) * 65536))) (wrap64 ((wrap64 (bt a0 (ji10))) * 256))) (wrap64 (bt a0 (ji14))))] (fun _ => True) (fun _ => False) rfl rfl ?aP (fun _ hk => hk.elim) ?aF ?aO ?aB ?aS ?aL ?_
                          (case aP => exact rfl)
                          (case aB => exact (by repeat (first | (with_reducible first | exact HB.out | apply below_alloc | apply pw_below_drewN | apply below_drew1) | exact HB.out)))
                          (case aF => exact (fun _ _ => trivial))
                          (case aO => exact (by (with_reducible repeat (first | apply Kd.R_alloc | apply Kd.R_drewN | apply Kd.R_drew)); exact HO_4.out))
                          (case aS => exact (below_size (by repeat (first | (with_reducible first | exact HB.out | apply below_alloc | apply pw_below_drewN | apply below_drew1) | exact HB.out))))
                          (case aL => have := LMc18.out; omega)
                          intro v159 w20 ho hb hg hat
                          rw [← Ny158.out] at ho
                          have n0_ := Aside0.mk (hb)
                          have n1_ := Aside0.mk (ho)
                          clear HB
                          clear HO_4
                          have HB := n0_
                          have HO160 := n1_
                          clear n0_ n1_
                          clear ho hb hg hat
                          refine hK.out _ _ trivial (fun hHeld => ?_)
                          clear hK K
                          refine norm_ (a' := ?_) ?_ ?_
                          rotate_left
                          · show Act.put _ (some 43) _ = _
                            simp only [Act.put, List.setIfInBounds_toArray, List.set_cons_zero, List.set_cons_succ, i64_w, i32_w]
                            rfl
                          refine pure_ (i := 28) (N := some 4) (v := ?_) (a' := ?_) #[true, true, true, true, true, true, true, true, true, true, true, true, true, true, true, true, true, true, true, true, true, true, true, true, true, true, true, true, true] rfl rfl (any_of HT_.out (by kernel_rfl)) (fun _ _ _ h => h) (Or.inl ⟨by rfl, ?_⟩) ?_ ?_
                          rotate_left
                          · intro w'
                            go_simp
                            with_reducible rfl
                          rotate_left
                          · simp only [Act.put, List.setIfInBounds_toArray, List.set_cons_zero, List.set_cons_succ, i64_w, i32_w]
                            rfl
                          refine done_ (done_of HT_.out (by kernel_rfl)) ?_
                          try go_wp2
                          go_roundg k1
                          case measure => have := HK1.out; omega
                          case rel => exact ⟨(y158), (wrap64 (x5_1 + 4)), (by first | rfl | (simp; done) | (simp [*]; done)), H', ⟨by have := HK1.out; omega⟩, ⟨by (with_reducible repeat (first | apply Kd.R_alloc | apply Kd.R_drewN | apply Kd.R_drew)); exact HO160.out⟩, ⟨by repeat (first | (with_reducible first | exact HB.out | apply below_alloc | apply pw_below_drewN | apply below_drew1) | exact HB.out)⟩⟩
                        · rw [if_neg c18] at H
                          exact absurd H (by simp)
                      · rw [if_neg c16] at H
                        exact absurd H (by simp)
                    · rw [if_neg c15] at H
                      exact absurd H (by simp)
                  · rw [if_neg c12] at H
                    exact absurd H (by simp)
                · rw [if_neg c11] at H
                  exact absurd H (by simp)
              · rw [if_neg c8] at H
                exact absurd H (by simp)
            · rw [if_neg c7] at H
              exact absurd H (by simp)
          · rw [if_neg c4] at H
            exact absurd H (by simp)
        · rw [if_neg c3] at H
          have c3b0 : decide (x5_1 < (a0.size : Int)) = false := decide_eq_false c3
          clear c3
          simp only [Option.some.injEq, Prod.mk.injEq] at H
          obtain ⟨rfl, rfl⟩ := H
          go_wp2
          go_ret2
          exact ⟨_, by first | rfl | (simp [errW_none, errW_some] <;> rfl) | (simp [*, errW_none, errW_some] <;> rfl), by (with_reducible repeat (first | apply Kd.R_alloc | apply Kd.R_drewN | apply Kd.R_drew)); exact HO_4.out, by repeat (first | (with_reducible first | exact HB.out | apply below_alloc | apply pw_below_drewN | apply below_drew1) | exact HB.out)⟩
  · rw [if_neg c2] at H
    have c2b0 : (((a0.size : Int) % 4) == 0) = false := beq_eq_false_iff_ne.mpr c2
    have c2b1 : (((a0.size : Int) % 4) != 0) = true := bne_iff_ne.mpr c2
    simp only [Option.some.injEq, Prod.mk.injEq] at H
    obtain ⟨rfl, rfl⟩ := H
    go_enter Try.func165, Try.ntmps165
    go_wp2
    go_ret2
    exact ⟨_, by first | rfl | (simp [errW_none, errW_some] <;> rfl) | (simp [*, errW_none, errW_some] <;> rfl), by first | exact Kd.R_nil _ _ _ _ _ | exact Kd.N_nil _ _ _ _ _ | exact Kd.V_nil _ _ _ _ _ | exact Kd.Q_nil _ _ _ _ _ | exact Kd.S_nil _ _ _ _ _, by repeat (first | (with_reducible first | exact HB.out | apply below_alloc | apply pw_below_drewN | apply below_drew1) | exact HB.out)⟩
end Go.Proofs.Ytbkbganflnemeaa.Pr
end

section
namespace Go.Proofs.Ytbkbganflnemeaa.Pr
open Go.RowKit Go.Proofs.YtbkbganflnemeaaW.PrintWords Go.Proofs.YtbkbganflnemeaaW.PrintLast Go.Proofs.YtbkbganflnemeaaW.PrintMore
attribute [local go_sem] max2_int min2_int max_two min_two max_three min_three max_four min_four   -- for this text's walks alone
set_option linter.unusedVariables false
set_option linter.unusedSimpArgs false
def samphireref02_schedule.l0 : Nat → List Int → Int → Option (List Int)
  | 0, _, _ => none
  | k + 1, x3, x5 => if x5 < 64 then (if 0 ≤ (wrap64 (x5 - 15)) then (if (wrap64 (x5 - 15)) < (x3.length : Int) then (if 0 ≤ (wrap64 (x5 - 2)) then (if (wrap64 (x5 - 2)) < (x3.length : Int) then ((samphireref02_right.f (rd x3 (wrap64 (x5 - 15))) 7).bind fun t167 => ((samphireref02_right.f (rd x3 (wrap64 (x5 - 15))) 18).bind fun t168 => ((samphireref02_right.f (rd x3 (wrap64 (x5 - 2))) 17).bind fun t169 => ((samphireref02_right.f (rd x3 (wrap64 (x5 - 2))) 19).bind fun t170 => (if 0 ≤ (wrap64 (x5 - 16)) then (if (wrap64 (x5 - 16)) < (x3.length : Int) then (if 0 ≤ (wrap64 (x5 - 7)) then (if (wrap64 (x5 - 7)) < (x3.length : Int) then ((samphireref01_Word.f (wrap64 ((wrap64 ((wrap64 ((rd x3 (wrap64 (x5 - 16))) + (Go.bits .xor .i64 (Go.bits .xor .i64 t167 t168) ((rd x3 (wrap64 (x5 - 15))) / 8)))) + (rd x3 (wrap64 (x5 - 7))))) + (Go.bits .xor .i64 (Go.bits .xor .i64 t169 t170) ((rd x3 (wrap64 (x5 - 2))) / 1024))))).bind fun t173 => (if x3.length < 17592186044416 then (samphireref02_schedule.l0 k (x3 ++ [t173]) (wrap64 (x5 + 1))) else (none))) else (none)) else (none)) else (none)) else (none)))))) else (none)) else (none)) else (none)) else (none)) else (some x3)
def samphireref02_schedule.f (k : Nat) (a0 : ByteArray) : Option (List Int) := (samphireref01_Big.f k a0).bind fun bt161 => (samphireref02_schedule.l0 k bt161.1 16)
def samphireref02_schedule.T5 : Bool × List (List Nat × List Nat) := (true, [([], []), ([], []), ([1], [1]), ([0, 2], [0, 2]), ([3], [3]), ([], []), ([], []), ([6], [6]), ([5, 7], [5, 7]), ([8], [8]), ([4, 0, 1, 2, 3, 4], [4]), ([9, 10, 0, 1, 2, 3, 4, 5, 6, 7, 8, 9, 10], [9])])
def samphireref02_schedule.B5 : List Nat := [0, 0, 2, 7, 15, 0, 0, 64, 224, 480, 31, 2047]
theorem samphireref02_schedule.tab5 : rtab .any (opsOf Try.f163 5) = samphireref02_schedule.T5 := by kernel_rfl
theorem samphireref02_schedule.bits5 : waitsOk samphireref02_schedule.T5.2 samphireref02_schedule.B5 = true := by kernel_rfl
def samphireref02_schedule.T8 : Bool × List (List Nat × List Nat) := (true, [([], []), ([], []), ([], []), ([2], [2]), ([1, 3], [1, 3]), ([4], [4]), ([], []), ([5, 6], [5, 6]), ([], []), ([], []), ([9], [9]), ([8, 10], [8, 10]), ([11], [11]), ([7, 12], [7, 12]), ([], []), ([13, 14], [13, 14]), ([15], [15]), ([16], [16]), ([0, 17, 16], [0, 17]), ([18, 18, 0, 1, 2, 3, 4, 5, 6, 7, 8, 9, 10, 11, 12, 13, 14, 15, 16, 17, 18], [0, 1, 8, 18])])
def samphireref02_schedule.B8 : List Nat := [0, 0, 0, 4, 14, 30, 0, 126, 0, 0, 512, 1792, 3840, 8190, 0, 32766, 65534, 131070, 262143, 524287]
theorem samphireref02_schedule.tab8 : rtab .any (opsOf Try.f163 8) = samphireref02_schedule.T8 := by kernel_rfl
theorem samphireref02_schedule.bits8 : waitsOk samphireref02_schedule.T8.2 samphireref02_schedule.B8 = true := by kernel_rfl
set_option maxHeartbeats 8000000 in
set_option maxRecDepth 100000 in
theorem samphireref02_schedule.calls (k : Nat) (a0 : ByteArray) (r : List Int) (w : World) (h : samphireref02_schedule.f k a0 = some r) :
    Calls Try.prog 163 #[.string a0] w fun e w' => ∃ v0_ : Value, e = .returned (v0_) ∧ Kd.R (Kd.int .i64) 3 w' w.heap.size (fun _ => True) v0_ r ∧ Below w.heap.size w w' := by
  have HB := Aside0.mk (Below.refl w.heap.size w)
  have H : ((samphireref01_Big.f k a0).bind fun bt161 => (samphireref02_schedule.l0 k bt161.1 16)) = some r := h
  clear h
  replace H := Option.bind_eq_some_iff.mp H
  obtain ⟨⟨t161, t162⟩, A20, H⟩ := H
  replace H : (samphireref02_schedule.l0 k t161 16) = some r := H
  have A2 := Aside0.mk A20
  clear A20
  have H' := Aside0.mk H
  clear H
  go_enter Try.func163, Try.ntmps163
  go_wp2_with (first | ((with_reducible refine gate_callee (f := 165) rfl ?_); refine goesL_ (some 12) rfl rfl Try.func165 (by kernel_rfl) rfl #[.string a0] rfl (by (try simp only [List.map_toArray, List.map_cons, List.map_nil]); first | done | rfl | (simp only [List.length_drop, List.length_take]; rfl)) ?_; (with_reducible refine (samphireref01_Big.calls k a0 t161 t162 _ A2.out).mono ?_); rintro e w3 ⟨v163, rfl, ho0, hb⟩; refine ⟨_, rfl, ?_⟩; have n0_ := Aside0.mk (Kd.R_lower ho0 (below_size (by repeat (first | (with_reducible first | exact HB.out | apply below_alloc | apply pw_below_drewN | apply below_drew1) | exact HB.out)))); have n1_ := Aside0.mk (below_step (by repeat (first | (with_reducible first | exact HB.out | apply below_alloc | apply pw_below_drewN | apply below_drew1) | exact HB.out)) hb); clear HB; have HO164 := n0_; have HB := n1_; clear n0_ n1_; (try clear hb); (try clear hb2); (try clear hk); (try clear hi); (try clear ho0)))
  go_loopg [3, 5] k (fun kq v3 v5 w' => ∃ (x3_1 : List Int) (x5_1 : Int), v5 = .int .i64 x5_1 ∧ Aside0 (samphireref02_schedule.l0 kq x3_1 x5_1 = some r) ∧ Aside0 (kq ≤ k) ∧ Aside0 (Kd.R (Kd.int .i64) 3 w' w.heap.size (fun _ => True) v3 x3_1) ∧ Aside0 (Below w.heap.size w w'))
  case atStart => exact ⟨(t161), (16), (by first | rfl | (simp; done) | (simp [*]; done)), H', ⟨Nat.le_refl _⟩, ⟨by (with_reducible repeat (first | apply Kd.R_alloc | apply Kd.R_drewN | apply Kd.R_drew)); exact HO164.out⟩, ⟨by repeat (first | (with_reducible first | exact HB.out | apply below_alloc | apply pw_below_drewN | apply below_drew1) | exact HB.out)⟩⟩
  case round =>
    clear H'
    try clear c1
    try clear p2
    obtain ⟨x3_1, x5_1, rfl, HA, HK1, HO_3, HB⟩ := hrel
    cases gk with
    | zero => exact absurd HA.out (by simp [samphireref02_schedule.l0])
    | succ k1 =>
      have H := HA.out
      clear HA
      simp only [samphireref02_schedule.l0] at H
      by_cases c4 : x5_1 < 64
      · rw [if_pos c4] at H
        have c4b0 : decide (x5_1 < 64) = true := decide_eq_true c4
        clear c4
        obtain ⟨ji5, hji5⟩ : ∃ j_ : Int, (wrap64 (x5_1 - 15)) = j_ := ⟨_, rfl⟩
        replace H : (if 0 ≤ (ji5) then (if (ji5) < (x3_1.length : Int) then (if 0 ≤ (wrap64 (x5_1 - 2)) then (if (wrap64 (x5_1 - 2)) < (x3_1.length : Int) then ((samphireref02_right.f (rd x3_1 (ji5)) 7).bind fun t167 => ((samphireref02_right.f (rd x3_1 (ji5)) 18).bind fun t168 => ((samphireref02_right.f (rd x3_1 (wrap64 (x5_1 - 2))) 17).bind fun t169 => ((samphireref02_right.f (rd x3_1 (wrap64 (x5_1 - 2))) 19).bind fun t170 => (if 0 ≤ (wrap64 (x5_1 - 16)) then (if (wrap64 (x5_1 - 16)) < (x3_1.length : Int) then (if 0 ≤ (wrap64 (x5_1 - 7)) then (if (wrap64 (x5_1 - 7)) < (x3_1.length : Int) then ((samphireref01_Word.f (wrap64 ((wrap64 ((wrap64 ((rd x3_1 (wrap64 (x5_1 - 16))) + (Go.bits .xor .i64 (Go.bits .xor .i64 t167 t168) ((rd x3_1 (ji5)) / 8)))) + (rd x3_1 (wrap64 (x5_1 - 7))))) + (Go.bits .xor .i64 (Go.bits .xor .i64 t169 t170) ((rd x3_1 (wrap64 (x5_1 - 2))) / 1024))))).bind fun t173 => (if x3_1.length < 17592186044416 then (samphireref02_schedule.l0 k1 (x3_1 ++ [t173]) (wrap64 (x5_1 + 1))) else (none))) else (none)) else (none)) else (none)) else (none)))))) else (none)) else (none)) else (none)) else (none)) = some r := by first | (rw [hji5] at H; exact H) | (simp only [hji5] at H ⊢; exact H)
        have hji5w : (IntKind.i64.wrap (x5_1 - 15)) = ji5 := (i64_w _).trans hji5
        by_cases c6 : 0 ≤ (ji5)
        · rw [if_pos c6] at H
          have c6b0 : decide (0 ≤ (ji5)) = true := decide_eq_true c6
          clear c6
          by_cases c7 : (ji5) < (x3_1.length : Int)
          · rw [if_pos c7] at H
            have c7b0 : decide ((ji5) < (x3_1.length : Int)) = true := decide_eq_true c7
            clear c7
            obtain ⟨ji8, hji8⟩ : ∃ j_ : Int, (wrap64 (x5_1 - 2)) = j_ := ⟨_, rfl⟩
            replace H : (if 0 ≤ (ji8) then (if (ji8) < (x3_1.length : Int) then ((samphireref02_right.f (rd x3_1 (ji5)) 7).bind fun t167 => ((samphireref02_right.f (rd x3_1 (ji5)) 18).bind fun t168 => ((samphireref02_right.f (rd x3_1 (ji8)) 17).bind fun t169 => ((samphireref02_right.f (rd x3_1 (ji8)) 19).bind fun t170 => (if 0 ≤ (wrap64 (x5_1 - 16)) then (if (wrap64 (x5_1 - 16)) < (x3_1.length : Int) then (if 0 ≤ (wrap64 (x5_1 - 7)) then (if (wrap64 (x5_1 - 7)) < (x3_1.length : Int) then ((samphireref01_Word.f (wrap64 ((wrap64 ((wrap64 ((rd x3_1 (wrap64 (x5_1 - 16))) + (Go.bits .xor .i64 (Go.bits .xor .i64 t167 t168) ((rd x3_1 (ji5)) / 8)))) + (rd x3_1 (wrap64 (x5_1 - 7))))) + (Go.bits .xor .i64 (Go.bits .xor .i64 t169 t170) ((rd x3_1 (ji8)) / 1024))))).bind fun t173 => (if x3_1.length < 17592186044416 then (samphireref02_schedule.l0 k1 (x3_1 ++ [t173]) (wrap64 (x5_1 + 1))) else (none))) else (none)) else (none)) else (none)) else (none)))))) else (none)) else (none)) = some r := by first | (rw [hji8] at H; exact H) | (simp only [hji8] at H ⊢; exact H)
            have hji8w : (IntKind.i64.wrap (x5_1 - 2)) = ji8 := (i64_w _).trans hji8
            by_cases c9 : 0 ≤ (ji8)
            · rw [if_pos c9] at H
              have c9b0 : decide (0 ≤ (ji8)) = true := decide_eq_true c9
              clear c9
              by_cases c10 : (ji8) < (x3_1.length : Int)
              · rw [if_pos c10] at H
                have c10b0 : decide ((ji8) < (x3_1.length : Int)) = true := decide_eq_true c10
                clear c10
                replace H := Option.bind_eq_some_iff.mp H
                obtain ⟨t167, A110, H⟩ := H
                replace H : ((samphireref02_right.f (rd x3_1 (ji5)) 18).bind fun t168 => ((samphireref02_right.f (rd x3_1 (ji8)) 17).bind fun t169 => ((samphireref02_right.f (rd x3_1 (ji8)) 19).bind fun t170 => (if 0 ≤ (wrap64 (x5_1 - 16)) then (if (wrap64 (x5_1 - 16)) < (x3_1.length : Int) then (if 0 ≤ (wrap64 (x5_1 - 7)) then (if (wrap64 (x5_1 - 7)) < (x3_1.length : Int) then ((samphireref01_Word.f (wrap64 ((wrap64 ((wrap64 ((rd x3_1 (wrap64 (x5_1 - 16))) + (Go.bits .xor .i64 (Go.bits .xor .i64 t167 t168) ((rd x3_1 (ji5)) / 8)))) + (rd x3_1 (wrap64 (x5_1 - 7))))) + (Go.bits .xor .i64 (Go.bits .xor .i64 t169 t170) ((rd x3_1 (ji8)) / 1024))))).bind fun t173 => (if x3_1.length < 17592186044416 then (samphireref02_schedule.l0 k1 (x3_1 ++ [t173]) (wrap64 (x5_1 + 1))) else (none))) else (none)) else (none)) else (none)) else (none))))) = some r := H
                have A11 := Aside0.mk A110
                clear A110
                replace H := Option.bind_eq_some_iff.mp H
                obtain ⟨t168, A120, H⟩ := H
                replace H : ((samphireref02_right.f (rd x3_1 (ji8)) 17).bind fun t169 => ((samphireref02_right.f (rd x3_1 (ji8)) 19).bind fun t170 => (if 0 ≤ (wrap64 (x5_1 - 16)) then (if (wrap64 (x5_1 - 16)) < (x3_1.length : Int) then (if 0 ≤ (wrap64 (x5_1 - 7)) then (if (wrap64 (x5_1 - 7)) < (x3_1.length : Int) then ((samphireref01_Word.f (wrap64 ((wrap64 ((wrap64 ((rd x3_1 (wrap64 (x5_1 - 16))) + (Go.bits .xor .i64 (Go.bits .xor .i64 t167 t168) ((rd x3_1 (ji5)) / 8)))) + (rd x3_1 (wrap64 (x5_1 - 7))))) + (Go.bits .xor .i64 (Go.bits .xor .i64 t169 t170) ((rd x3_1 (ji8)) / 1024))))).bind fun t173 => (if x3_1.length < 17592186044416 then (samphireref02_schedule.l0 k1 (x3_1 ++ [t173]) (wrap64 (x5_1 + 1))) else (none))) else (none)) else (none)) else (none)) else (none)))) = some r := H
                have A12 := Aside0.mk A120
                clear A120
                replace H := Option.bind_eq_some_iff.mp H
                obtain ⟨t169, A130, H⟩ := H
                replace H : ((samphireref02_right.f (rd x3_1 (ji8)) 19).bind fun t170 => (if 0 ≤ (wrap64 (x5_1 - 16)) then (if (wrap64 (x5_1 - 16)) < (x3_1.length : Int) then (if 0 ≤ (wrap64 (x5_1 - 7)) then (if (wrap64 (x5_1 - 7)) < (x3_1.length : Int) then ((samphireref01_Word.f (wrap64 ((wrap64 ((wrap64 ((rd x3_1 (wrap64 (x5_1 - 16))) + (Go.bits .xor .i64 (Go.bits .xor .i64 t167 t168) ((rd x3_1 (ji5)) / 8)))) + (rd x3_1 (wrap64 (x5_1 - 7))))) + (Go.bits .xor .i64 (Go.bits .xor .i64 t169 t170) ((rd x3_1 (ji8)) / 1024))))).bind fun t173 => (if x3_1.length < 17592186044416 then (samphireref02_schedule.l0 k1 (x3_1 ++ [t173]) (wrap64 (x5_1 + 1))) else (none))) else (none)) else (none)) else (none)) else (none))) = some r := H
                have A13 := Aside0.mk A130
                clear A130
                replace H := Option.bind_eq_some_iff.mp H
                obtain ⟨t170, A140, H⟩ := H
                replace H : (if 0 ≤ (wrap64 (x5_1 - 16)) then (if (wrap64 (x5_1 - 16)) < (x3_1.length : Int) then (if 0 ≤ (wrap64 (x5_1 - 7)) then (if (wrap64 (x5_1 - 7)) < (x3_1.length : Int) then ((samphireref01_Word.f (wrap64 ((wrap64 ((wrap64 ((rd x3_1 (wrap64 (x5_1 - 16))) + (Go.bits .xor .i64 (Go.bits .xor .i64 t167 t168) ((rd x3_1 (ji5)) / 8)))) + (rd x3_1 (wrap64 (x5_1 - 7))))) + (Go.bits .xor .i64 (Go.bits .xor .i64 t169 t170) ((rd x3_1 (ji8)) / 1024))))).bind fun t173 => (if x3_1.length < 17592186044416 then (samphireref02_schedule.l0 k1 (x3_1 ++ [t173]) (wrap64 (x5_1 + 1))) else (none))) else (none)) else (none)) else (none)) else (none)) = some r := H
                have A14 := Aside0.mk A140
                clear A140
                obtain ⟨ji15, hji15⟩ : ∃ j_ : Int, (wrap64 (x5_1 - 16)) = j_ := ⟨_, rfl⟩
                replace H : (if 0 ≤ (ji15) then (if (ji15) < (x3_1.length : Int) then (if 0 ≤ (wrap64 (x5_1 - 7)) then (if (wrap64 (x5_1 - 7)) < (x3_1.length : Int) then ((samphireref01_Word.f (wrap64 ((wrap64 ((wrap64 ((rd x3_1 (ji15)) + (Go.bits .xor .i64 (Go.bits .xor .i64 t167 t168) ((rd x3_1 (ji5)) / 8)))) + (rd x3_1 (wrap64 (x5_1 - 7))))) + (Go.bits .xor .i64 (Go.bits .xor .i64 t169 t170) ((rd x3_1 (ji8)) / 1024))))).bind fun t173 => (if x3_1.length < 17592186044416 then (samphireref02_schedule.l0 k1 (x3_1 ++ [t173]) (wrap64 (x5_1 + 1))) else (none))) else (none)) else (none)) else (none)) else (none)) = some r := by first | (rw [hji15] at H; exact H) | (simp only [hji15] at H ⊢; exact H)
                (try rw [hji15] at A11)
                (try rw [hji15] at A12)
                (try rw [hji15] at A13)
                (try rw [hji15] at A14)
                have hji15w : (IntKind.i64.wrap (x5_1 - 16)) = ji15 := (i64_w _).trans hji15
                by_cases c16 : 0 ≤ (ji15)
                · rw [if_pos c16] at H
                  have c16b0 : decide (0 ≤ (ji15)) = true := decide_eq_true c16
                  clear c16
                  by_cases c17 : (ji15) < (x3_1.length : Int)
                  · rw [if_pos c17] at H
                    have c17b0 : decide ((ji15) < (x3_1.length : Int)) = true := decide_eq_true c17
                    clear c17
                    obtain ⟨ji18, hji18⟩ : ∃ j_ : Int, (wrap64 (x5_1 - 7)) = j_ := ⟨_, rfl⟩
                    replace H : (if 0 ≤ (ji18) then (if (ji18) < (x3_1.length : Int) then ((samphireref01_Word.f (wrap64 ((wrap64 ((wrap64 ((rd x3_1 (ji15)) + (Go.bits .xor .i64 (Go.bits .xor .i64 t167 t168) ((rd x3_1 (ji5)) / 8)))) + (rd x3_1 (ji18)))) + (Go.bits .xor .i64 (Go.bits .xor .i64 t169 t170) ((rd x3_1 (ji8)) / 1024))))).bind fun t173 => (if x3_1.length < 17592186044416 then (samphireref02_schedule.l0 k1 (x3_1 ++ [t173]) (wrap64 (x5_1 + 1))) else (none))) else (none)) else (none)) = some r := by first | (rw [hji18] at H; exact H) | (simp only [hji18] at H ⊢; exact H)
                    (try rw [hji18] at A11)
                    (try rw [hji18] at A12)
                    (try rw [hji18] at A13)
                    (try rw [hji18] at A14)
                    have hji18w : (IntKind.i64.wrap (x5_1 - 7)) = ji18 := (i64_w _).trans hji18
                    by_cases c19 : 0 ≤ (ji18)
                    · rw [if_pos c19] at H
                      have c19b0 : decide (0 ≤ (ji18)) = true := decide_eq_true c19
                      clear c19
                      by_cases c20 : (ji18) < (x3_1.length : Int)
                      · rw [if_pos c20] at H
                        have c20b0 : decide ((ji18) < (x3_1.length : Int)) = true := decide_eq_true c20
                        clear c20
                        replace H := Option.bind_eq_some_iff.mp H
                        obtain ⟨t173, A210, H⟩ := H
                        replace H : (if x3_1.length < 17592186044416 then (samphireref02_schedule.l0 k1 (x3_1 ++ [t173]) (wrap64 (x5_1 + 1))) else (none)) = some r := H
                        have A21 := Aside0.mk A210
                        clear A210
                        by_cases c22 : x3_1.length < 17592186044416
                        · rw [if_pos c22] at H
                          have LMc22 := Aside0.mk c22
                          clear c22
                          obtain ⟨y174, hy174⟩ : ∃ y_ : List Int, y_ = (x3_1 ++ [t173]) := ⟨_, rfl⟩
                          replace H : (samphireref02_schedule.l0 k1 y174 (wrap64 (x5_1 + 1))) = some r := by first | (rw [hy174]; with_reducible exact H) | (have H2_ := (Option.bind_some _ _).symm.trans H; rw [hy174]; with_reducible exact H2_) | (have H2_ := (Option.bind_some _ _).symm.trans H; with_reducible exact H2_) | with_reducible exact H | (rw [hy174]; exact H) | exact H
                          have Ny174 := Aside0.mk hy174
                          clear hy174
                          have H' := Aside0.mk H
                          clear H
                          try go_wp2
                          have n0_ := Aside0.mk (Kd.R_drew HO_3.out)
                          have n1_ := Aside0.mk (below_drew1 HB.out)
                          clear HO_3
                          clear HB
                          have HO_3 := n0_
                          have HB := n1_
                          clear n0_ n1_
                          obtain ⟨Ao24, co24, eo24⟩ := Kd.R_slice HO_3.out
                          (first | subst eo24 | (injection eo24 with f1_ f2_ f3_; have f4_ := f1_.symm; have f5_ := f3_.symm; clear f1_ f2_ f3_; subst f4_; subst f5_))
                          have p165 : 0 ≤ ((ji5) : Int) := of_decide_eq_true (by first | (with_reducible assumption) | assumption)
                          have q165 : (ji5) < (x3_1.length : Int) := of_decide_eq_true (by first | (with_reducible assumption) | assumption)
                          obtain ⟨ad165, e165, hx165_0⟩ := Kd.at_int (Kd.R_reads' HO_3.out).2.2 (ji5) p165 q165
                          cases e165
                          replace p165 := eq_true p165
                          replace q165 := eq_true q165
                          have p166 : 0 ≤ ((ji8) : Int) := of_decide_eq_true (by first | (with_reducible assumption) | assumption)
                          have q166 : (ji8) < (x3_1.length : Int) := of_decide_eq_true (by first | (with_reducible assumption) | assumption)
                          obtain ⟨ad166, e166, hx166_0⟩ := Kd.at_int (Kd.R_reads' HO_3.out).2.2 (ji8) p166 q166
                          obtain rfl : ad165 = ad166 := (by injection e166)
                          replace p166 := eq_true p166
                          replace q166 := eq_true q166
                          refine start_ (n := 12) (S := fun w' => w'.cell? (ad165.add ((ji5)).toNat) = some (.int .i64 (rd x3_1 (ji5))) ∧ w'.cell? (ad165.add ((ji8)).toNat) = some (.int .i64 (rd x3_1 (ji8)))) (ds := []) #[false, false, false, false, false, false, false, false, false, false, false, false] (by kernel_rfl) rfl rfl ⟨hx165_0, hx166_0⟩ (fun hHeld => ?_); refine with_tabW samphireref02_schedule.tab5 samphireref02_schedule.bits5 (fun HT_ HW_ => ?_)
                          generalize wr.drew = w23 at HO_3 HB hx165_0 hx166_0 hHeld ⊢
                          refine pure_ (i := 0) (N := some 19) (v := ?_) (a' := ?_) #[true, false, false, false, false, false, false, false, false, false, false, false] rfl rfl (any_of HT_.out (by kernel_rfl)) (fun _ _ _ h => h) (Or.inl ⟨by rfl, ?_⟩) ?_ ?_
                          rotate_left
                          · intro w'
                            go_simp
                            with_reducible rfl
                          rotate_left
                          · simp only [Act.put, List.setIfInBounds_toArray, List.set_cons_zero, List.set_cons_succ, i64_w, i32_w]
                            rfl
                          refine pure_ (i := 1) (N := some 20) (v := ?_) (a' := ?_) #[true, true, false, false, false, false, false, false, false, false, false, false] rfl rfl (any_of HT_.out (by kernel_rfl)) (fun _ _ _ h => h) (Or.inl ⟨by rfl, ?_⟩) ?_ ?_
                          rotate_left
                          · intro w'
                            go_simp
                            with_reducible rfl
                          rotate_left
                          · simp only [Act.put, List.setIfInBounds_toArray, List.set_cons_zero, List.set_cons_succ, i64_w, i32_w]
                            rfl
                          refine pure_ (i := 2) (N := some 21) (v := ?_) (a' := ?_) #[true, true, true, false, false, false, false, false, false, false, false, false] rfl rfl (any_of HT_.out (by kernel_rfl)) (fun _ _ _ h => h) (Or.inl ⟨by rfl, ?_⟩) ?_ ?_
                          rotate_left
                          · intro w'
                            go_simp
                            with_reducible rfl
                          rotate_left
                          · simp only [Act.put, List.setIfInBounds_toArray, List.set_cons_zero, List.set_cons_succ, i64_w, i32_w]
                            rfl
                          refine pure_ (i := 3) (N := some 22) (v := ?_) (a' := ?_) #[true, true, true, true, false, false, false, false, false, false, false, false] rfl rfl (any_of HT_.out (by kernel_rfl)) (fun _ _ _ h => h) (Or.inl ⟨by rfl, ?_⟩) ?_ ?_
                          rotate_left
                          · intro w'
                            go_simp
                            with_reducible rfl
                          rotate_left
                          · simp only [Act.put, List.setIfInBounds_toArray, List.set_cons_zero, List.set_cons_succ, i64_w, i32_w]
                            rfl
                          refine pure_ (i := 5) (N := some 24) (v := ?_) (a' := ?_) #[true, true, true, true, false, true, false, false, false, false, false, false] rfl rfl (any_of HT_.out (by kernel_rfl)) (fun _ _ _ h => h) (Or.inl ⟨by rfl, ?_⟩) ?_ ?_
                          rotate_left
                          · intro w'
                            go_simp
                            with_reducible rfl
                          rotate_left
                          · simp only [Act.put, List.setIfInBounds_toArray, List.set_cons_zero, List.set_cons_succ, i64_w, i32_w]
                            rfl
                          refine pure_ (i := 6) (N := some 25) (v := ?_) (a' := ?_) #[true, true, true, true, false, true, true, false, false, false, false, false] rfl rfl (any_of HT_.out (by kernel_rfl)) (fun _ _ _ h => h) (Or.inl ⟨by rfl, ?_⟩) ?_ ?_
                          rotate_left
                          · intro w'
                            go_simp
                            with_reducible rfl
                          rotate_left
                          · simp only [Act.put, List.setIfInBounds_toArray, List.set_cons_zero, List.set_cons_succ, i64_w, i32_w]
                            rfl
                          refine pure_ (i := 7) (N := some 26) (v := ?_) (a' := ?_) #[true, true, true, true, false, true, true, true, false, false, false, false] rfl rfl (any_of HT_.out (by kernel_rfl)) (fun _ _ _ h => h) (Or.inl ⟨by rfl, ?_⟩) ?_ ?_
                          rotate_left
                          · intro w'
                            go_simp
                            with_reducible rfl
                          rotate_left
                          · simp only [Act.put, List.setIfInBounds_toArray, List.set_cons_zero, List.set_cons_succ, i64_w, i32_w]
                            rfl
                          refine pure_ (i := 8) (N := some 27) (v := ?_) (a' := ?_) #[true, true, true, true, false, true, true, true, true, false, false, false] rfl rfl (any_of HT_.out (by kernel_rfl)) (fun _ _ _ h => h) (Or.inl ⟨by rfl, ?_⟩) ?_ ?_
                          rotate_left
                          · intro w'
                            go_simp
                            with_reducible rfl
                          rotate_left
                          · simp only [Act.put, List.setIfInBounds_toArray, List.set_cons_zero, List.set_cons_succ, i64_w, i32_w]
                            rfl
                          refine take_ (i := 4) (N := some 23) (v := ?_) (a' := ?_) #[true, true, true, true, true, true, true, true, true, false, false, false] rfl rfl (take_ofW HT_.out HW_.out (by kernel_rfl)) (fun _ _ _ h => h) (Or.inl ⟨by rfl, ?_⟩) hHeld ?_ ?_
                          rotate_left
                          · rintro w' ⟨s0, s1⟩
                            go_simp
                            with_reducible rfl
                          rotate_left
                          · simp only [Act.put, List.setIfInBounds_toArray, List.set_cons_zero, List.set_cons_succ, i64_w, i32_w]
                            rfl
                          refine pure_ (i := 10) (N := some 6) (v := ?_) (a' := ?_) #[true, true, true, true, true, true, true, true, true, false, true, false] rfl rfl (any_of HT_.out (by kernel_rfl)) (fun _ _ _ h => h) (Or.inl ⟨by rfl, ?_⟩) ?_ ?_
                          rotate_left
                          · intro w'
                            go_simp
                            with_reducible rfl
                          rotate_left
                          · simp only [Act.put, List.setIfInBounds_toArray, List.set_cons_zero, List.set_cons_succ, i64_w, i32_w]
                            rfl
                          refine take_ (i := 9) (N := some 28) (v := ?_) (a' := ?_) #[true, true, true, true, true, true, true, true, true, true, true, false] rfl rfl (take_ofW HT_.out HW_.out (by kernel_rfl)) (fun _ _ _ h => h) (Or.inl ⟨by rfl, ?_⟩) hHeld ?_ ?_
                          rotate_left
                          · rintro w' ⟨s0, s1⟩
                            go_simp
                            with_reducible rfl
                          rotate_left
                          · simp only [Act.put, List.setIfInBounds_toArray, List.set_cons_zero, List.set_cons_succ, i64_w, i32_w]
                            rfl
                          refine pure_ (i := 11) (N := some 7) (v := ?_) (a' := ?_) #[true, true, true, true, true, true, true, true, true, true, true, true] rfl rfl (any_of HT_.out (by kernel_rfl)) (fun _ _ _ h => h) (Or.inl ⟨by rfl, ?_⟩) ?_ ?_
                          rotate_left
                          · intro w'
                            go_simp
                            with_reducible rfl
                          rotate_left
                          · simp only [Act.put, List.setIfInBounds_toArray, List.set_cons_zero, List.set_cons_succ, i64_w, i32_w]
                            rfl
                          refine done_ (done_of HT_.out (by kernel_rfl)) ?_
                          try go_wp2_with (first | ((with_reducible refine gate_callee (f := 167) rfl ?_); refine goesL_ (some 30) rfl rfl Try.func167 (by kernel_rfl) rfl #[.int .i64 (rd x3_1 (ji5)), .int .i64 7] rfl (by (try simp only [List.map_toArray, List.map_cons, List.map_nil]); first | done | (simp only [hji5]; rfl) | rfl | (simp only [List.length_drop, List.length_take]; rfl)) ?_; (with_reducible refine (samphireref02_right.calls (rd x3_1 (ji5)) 7 t167 _ A11.out).mono ?_); rintro e w' ⟨rfl, ⟨nd, rfl⟩⟩; refine ⟨_, rfl, ?_⟩) | ((with_reducible refine gate_callee (f := 167) rfl ?_); refine goesL_ (some 32) rfl rfl Try.func167 (by kernel_rfl) rfl #[.int .i64 (rd x3_1 (ji5)), .int .i64 18] rfl (by (try simp only [List.map_toArray, List.map_cons, List.map_nil]); first | done | (simp only [hji5]; rfl) | rfl | (simp only [List.length_drop, List.length_take]; rfl)) ?_; (with_reducible refine (samphireref02_right.calls (rd x3_1 (ji5)) 18 t168 _ A12.out).mono ?_); rintro e w' ⟨rfl, ⟨nd, rfl⟩⟩; refine ⟨_, rfl, ?_⟩) | ((with_reducible refine gate_callee (f := 167) rfl ?_); refine goesL_ (some 38) rfl rfl Try.func167 (by kernel_rfl) rfl #[.int .i64 (rd x3_1 (ji8)), .int .i64 17] rfl (by (try simp only [List.map_toArray, List.map_cons, List.map_nil]); first | done | (simp only [hji8]; rfl) | rfl | (simp only [List.length_drop, List.length_take]; rfl)) ?_; (with_reducible refine (samphireref02_right.calls (rd x3_1 (ji8)) 17 t169 _ A13.out).mono ?_); rintro e w' ⟨rfl, ⟨nd, rfl⟩⟩; refine ⟨_, rfl, ?_⟩) | ((with_reducible refine gate_callee (f := 167) rfl ?_); refine goesL_ (some 40) rfl rfl Try.func167 (by kernel_rfl) rfl #[.int .i64 (rd x3_1 (ji8)), .int .i64 19] rfl (by (try simp only [List.map_toArray, List.map_cons, List.map_nil]); first | done | (simp only [hji8]; rfl) | rfl | (simp only [List.length_drop, List.length_take]; rfl)) ?_; (with_reducible refine (samphireref02_right.calls (rd x3_1 (ji8)) 19 t170 _ A14.out).mono ?_); rintro e w' ⟨rfl, ⟨nd, rfl⟩⟩; refine ⟨_, rfl, ?_⟩))
                          (try (rw [drewN_self w23]; generalize hq_ : World.drewN w23 _ = w23; have n0_ : Aside0 (Kd.R (Kd.int .i64) 3 w23 w.heap.size (fun _ => True) (.slice (some ad165) x3_1.length co24) x3_1) := ⟨by rw [← hq_]; exact (by (with_reducible repeat (first | apply Kd.R_alloc | apply Kd.R_drewN | apply Kd.R_drew)); exact HO_3.out)⟩; have n1_ : Aside0 (Below w.heap.size w w23) := ⟨by rw [← hq_]; exact (by repeat (first | (with_reducible first | exact HB.out | apply below_alloc | apply pw_below_drewN | apply below_drew1) | exact HB.out))⟩; clear HO_3 HB hq_; have HO_3 := n0_; have HB := n1_; clear n0_ n1_))
                          have n0_ := Aside0.mk (Kd.R_drew HO_3.out)
                          have n1_ := Aside0.mk (below_drew1 HB.out)
                          clear HO_3
                          clear HB
                          have HO_3 := n0_
                          have HB := n1_
                          clear n0_ n1_
                          have p171 : 0 ≤ ((ji15) : Int) := of_decide_eq_true (by first | (with_reducible assumption) | assumption)
                          have q171 : (ji15) < (x3_1.length : Int) := of_decide_eq_true (by first | (with_reducible assumption) | assumption)
                          obtain ⟨ad171, e171, hx171_0⟩ := Kd.at_int (Kd.R_reads' HO_3.out).2.2 (ji15) p171 q171
                          obtain rfl : ad165 = ad171 := (by injection e171)
                          replace p171 := eq_true p171
                          replace q171 := eq_true q171
                          have p172 : 0 ≤ ((ji18) : Int) := of_decide_eq_true (by first | (with_reducible assumption) | assumption)
                          have q172 : (ji18) < (x3_1.length : Int) := of_decide_eq_true (by first | (with_reducible assumption) | assumption)
                          obtain ⟨ad172, e172, hx172_0⟩ := Kd.at_int (Kd.R_reads' HO_3.out).2.2 (ji18) p172 q172
                          obtain rfl : ad165 = ad172 := (by injection e172)
                          replace p172 := eq_true p172
                          replace q172 := eq_true q172
                          refine start_ (n := 20) (S := fun w' => w'.cell? (ad165.add ((ji15)).toNat) = some (.int .i64 (rd x3_1 (ji15))) ∧ w'.cell? (ad165.add ((ji18)).toNat) = some (.int .i64 (rd x3_1 (ji18)))) (ds := [17, 18]) #[false, false, false, false, false, false, false, false, false, false, false, false, false, false, false, false, false, false, false, false] (by kernel_rfl) rfl rfl ⟨hx171_0, hx172_0⟩ (fun hHeld => ?_); refine with_tabW samphireref02_schedule.tab8 samphireref02_schedule.bits8 (fun HT_ HW_ => ?_)
                          generalize w23.drew = w25 at HO_3 HB hx171_0 hx172_0 hHeld ⊢
                          refine pure_ (i := 0) (N := some 45) (v := ?_) (a' := ?_) #[true, false, false, false, false, false, false, false, false, false, false, false, false, false, false, false, false, false, false, false] rfl rfl (any_of HT_.out (by kernel_rfl)) (fun _ _ _ h => h) (Or.inl ⟨by rfl, ?_⟩) ?_ ?_
                          rotate_left
                          · intro w'
                            go_simp
                            with_reducible rfl
                          rotate_left
                          · simp only [Act.put, List.setIfInBounds_toArray, List.set_cons_zero, List.set_cons_succ, i64_w, i32_w]
                            rfl
                          refine pure_ (i := 1) (N := some 46) (v := ?_) (a' := ?_) #[true, true, false, false, false, false, false, false, false, false, false, false, false, false, false, false, false, false, false, false] rfl rfl (any_of HT_.out (by kernel_rfl)) (fun _ _ _ h => h) (Or.inl ⟨by rfl, ?_⟩) ?_ ?_
                          rotate_left
                          · intro w'
                            go_simp
                            with_reducible rfl
                          rotate_left
                          · simp only [Act.put, List.setIfInBounds_toArray, List.set_cons_zero, List.set_cons_succ, i64_w, i32_w]
                            rfl
                          refine pure_ (i := 2) (N := some 47) (v := ?_) (a' := ?_) #[true, true, true, false, false, false, false, false, false, false, false, false, false, false, false, false, false, false, false, false] rfl rfl (any_of HT_.out (by kernel_rfl)) (fun _ _ _ h => h) (Or.inl ⟨by rfl, ?_⟩) ?_ ?_
                          rotate_left
                          · intro w'
                            go_simp
                            with_reducible rfl
                          rotate_left
                          · simp only [Act.put, List.setIfInBounds_toArray, List.set_cons_zero, List.set_cons_succ, i64_w, i32_w]
                            rfl
                          refine pure_ (i := 3) (N := some 48) (v := ?_) (a' := ?_) #[true, true, true, true, false, false, false, false, false, false, false, false, false, false, false, false, false, false, false, false] rfl rfl (any_of HT_.out (by kernel_rfl)) (fun _ _ _ h => h) (Or.inl ⟨by rfl, ?_⟩) ?_ ?_
                          rotate_left
                          · intro w'
                            go_simp
                            with_reducible rfl
                          rotate_left
                          · simp only [Act.put, List.setIfInBounds_toArray, List.set_cons_zero, List.set_cons_succ, i64_w, i32_w]
                            rfl
                          refine pure_ (i := 4) (N := some 49) (v := ?_) (a' := ?_) #[true, true, true, true, true, false, false, false, false, false, false, false, false, false, false, false, false, false, false, false] rfl rfl (any_of HT_.out (by kernel_rfl)) (fun _ _ _ h => h) (Or.inl ⟨by rfl, ?_⟩) ?_ ?_
                          rotate_left
                          · intro w'
                            go_simp
                            with_reducible rfl
                          rotate_left
                          · simp only [Act.put, List.setIfInBounds_toArray, List.set_cons_zero, List.set_cons_succ, i64_w, i32_w]
                            rfl
                          refine pure_ (i := 6) (N := some 51) (v := ?_) (a' := ?_) #[true, true, true, true, true, false, true, false, false, false, false, false, false, false, false, false, false, false, false, false] rfl rfl (any_of HT_.out (by kernel_rfl)) (fun _ _ _ h => h) (Or.inl ⟨by rfl, ?_⟩) ?_ ?_
                          rotate_left
                          · intro w'
                            go_simp
                            with_reducible rfl
                          rotate_left
                          · simp only [Act.put, List.setIfInBounds_toArray, List.set_cons_zero, List.set_cons_succ, i64_w, i32_w]
                            rfl
                          refine pure_ (i := 8) (N := some 53) (v := ?_) (a' := ?_) #[true, true, true, true, true, false, true, false, true, false, false, false, false, false, false, false, false, false, false, false] rfl rfl (any_of HT_.out (by kernel_rfl)) (fun _ _ _ h => h) (Or.inl ⟨by rfl, ?_⟩) ?_ ?_
                          rotate_left
                          · intro w'
                            go_simp
                            with_reducible rfl
                          rotate_left
                          · simp only [Act.put, List.setIfInBounds_toArray, List.set_cons_zero, List.set_cons_succ, i64_w, i32_w]
                            rfl
                          refine pure_ (i := 9) (N := some 54) (v := ?_) (a' := ?_) #[true, true, true, true, true, false, true, false, true, true, false, false, false, false, false, false, false, false, false, false] rfl rfl (any_of HT_.out (by kernel_rfl)) (fun _ _ _ h => h) (Or.inl ⟨by rfl, ?_⟩) ?_ ?_
                          rotate_left
                          · intro w'
                            go_simp
                            with_reducible rfl
                          rotate_left
                          · simp only [Act.put, List.setIfInBounds_toArray, List.set_cons_zero, List.set_cons_succ, i64_w, i32_w]
                            rfl
                          refine pure_ (i := 10) (N := some 55) (v := ?_) (a' := ?_) #[true, true, true, true, true, false, true, false, true, true, true, false, false, false, false, false, false, false, false, false] rfl rfl (any_of HT_.out (by kernel_rfl)) (fun _ _ _ h => h) (Or.inl ⟨by rfl, ?_⟩) ?_ ?_
                          rotate_left
                          · intro w'
                            go_simp
                            with_reducible rfl
                          rotate_left
                          · simp only [Act.put, List.setIfInBounds_toArray, List.set_cons_zero, List.set_cons_succ, i64_w, i32_w]
                            rfl
                          refine pure_ (i := 11) (N := some 56) (v := ?_) (a' := ?_) #[true, true, true, true, true, false, true, false, true, true, true, true, false, false, false, false, false, false, false, false] rfl rfl (any_of HT_.out (by kernel_rfl)) (fun _ _ _ h => h) (Or.inl ⟨by rfl, ?_⟩) ?_ ?_
                          rotate_left
                          · intro w'
                            go_simp
                            with_reducible rfl
                          rotate_left
                          · simp only [Act.put, List.setIfInBounds_toArray, List.set_cons_zero, List.set_cons_succ, i64_w, i32_w]
                            rfl
                          refine pure_ (i := 14) (N := some 59) (v := ?_) (a' := ?_) #[true, true, true, true, true, false, true, false, true, true, true, true, false, false, true, false, false, false, false, false] rfl rfl (any_of HT_.out (by kernel_rfl)) (fun _ _ _ h => h) (Or.inl ⟨by rfl, ?_⟩) ?_ ?_
                          rotate_left
                          · intro w'
                            go_simp
                            with_reducible rfl
                          rotate_left
                          · simp only [Act.put, List.setIfInBounds_toArray, List.set_cons_zero, List.set_cons_succ, i64_w, i32_w]
                            rfl
                          refine take_ (i := 5) (N := some 50) (v := ?_) (a' := ?_) #[true, true, true, true, true, true, true, false, true, true, true, true, false, false, true, false, false, false, false, false] rfl rfl (take_ofW HT_.out HW_.out (by kernel_rfl)) (fun _ _ _ h => h) (Or.inl ⟨by rfl, ?_⟩) hHeld ?_ ?_
                          rotate_left
                          · rintro w' ⟨s0, s1⟩
                            go_simp
                            with_reducible rfl
                          rotate_left
                          · simp only [Act.put, List.setIfInBounds_toArray, List.set_cons_zero, List.set_cons_succ, i64_w, i32_w]
                            rfl
                          refine pure_ (i := 7) (N := some 52) (v := ?_) (a' := ?_) #[true, true, true, true, true, true, true, true, true, true, true, true, false, false, true, false, false, false, false, false] rfl rfl (any_of HT_.out (by kernel_rfl)) (fun _ _ _ h => h) (Or.inl ⟨by rfl, ?_⟩) ?_ ?_
                          rotate_left
                          · intro w'
                            go_simp
                            with_reducible rfl
                          rotate_left
                          · simp only [Act.put, List.setIfInBounds_toArray, List.set_cons_zero, List.set_cons_succ, i64_w, i32_w]
                            rfl
                          refine take_ (i := 12) (N := some 57) (v := ?_) (a' := ?_) #[true, true, true, true, true, true, true, true, true, true, true, true, true, false, true, false, false, false, false, false] rfl rfl (take_ofW HT_.out HW_.out (by kernel_rfl)) (fun _ _ _ h => h) (Or.inl ⟨by rfl, ?_⟩) hHeld ?_ ?_
                          rotate_left
                          · rintro w' ⟨s0, s1⟩
                            go_simp
                            with_reducible rfl
                          rotate_left
                          · simp only [Act.put, List.setIfInBounds_toArray, List.set_cons_zero, List.set_cons_succ, i64_w, i32_w]
                            rfl
                          refine pure_ (i := 13) (N := some 58) (v := ?_) (a' := ?_) #[true, true, true, true, true, true, true, true, true, true, true, true, true, true, true, false, false, false, false, false] rfl rfl (any_of HT_.out (by kernel_rfl)) (fun _ _ _ h => h) (Or.inl ⟨by rfl, ?_⟩) ?_ ?_
                          rotate_left
                          · intro w'
                            go_simp
                            with_reducible rfl
                          rotate_left
                          · simp only [Act.put, List.setIfInBounds_toArray, List.set_cons_zero, List.set_cons_succ, i64_w, i32_w]
                            rfl
                          refine pure_ (i := 15) (N := some 60) (v := ?_) (a' := ?_) #[true, true, true, true, true, true, true, true, true, true, true, true, true, true, true, true, false, false, false, false] rfl rfl (any_of HT_.out (by kernel_rfl)) (fun _ _ _ h => h) (Or.inl ⟨by rfl, ?_⟩) ?_ ?_
                          rotate_left
                          · intro w'
                            go_simp
                            with_reducible rfl
                          rotate_left
                          · simp only [Act.put, List.setIfInBounds_toArray, List.set_cons_zero, List.set_cons_succ, i64_w, i32_w]
                            rfl
                          refine one_ (i := 16) (N := some 61) #[true, true, true, true, true, true, true, true, true, true, true, true, true, true, true, true, true, false, false, false] rfl rfl (one_of HT_.out (by kernel_rfl)) (by decide) (fun K hK => ?_)
                          refine goes_ Try.func166 (by kernel_rfl) rfl #[.int .i64 (wrap64 ((wrap64 ((wrap64 ((rd x3_1 (ji15)) + (Go.bits .xor .i64 (Go.bits .xor .i64 t167 t168) ((rd x3_1 (ji5)) / 8)))) + (rd x3_1 (ji18)))) + (Go.bits .xor .i64 (Go.bits .xor .i64 t169 t170) ((rd x3_1 (ji8)) / 1024))))] (by rfl) rfl rfl (by (try simp only [List.map_toArray, List.map_cons, List.map_nil]); first | done | (simp only [hji15, hji18, hji5, hji8]; rfl) | rfl | (simp only [List.length_drop, List.length_take]; rfl)) ?_
                          with_reducible refine (samphireref01_Word.calls (wrap64 ((wrap64 ((wrap64 ((rd x3_1 (ji15)) + (Go.bits .xor .i64 (Go.bits .xor .i64 t167 t168) ((rd x3_1 (ji5)) / 8)))) + (rd x3_1 (ji18)))) + (Go.bits .xor .i64 (Go.bits .xor .i64 t169 t170) ((rd x3_1 (ji8)) / 1024)))) t173 _ A21.out).mono ?_
                          rintro e w' ⟨rfl, ⟨nd, rfl⟩⟩
                          refine ⟨_, rfl, ?_⟩
                          refine hK.out _ _ ⟨hHeld.1, hHeld.2⟩ (fun hHeld => ?_)
                          clear hK K
                          refine norm_ (a' := ?_) ?_ ?_
                          rotate_left
                          · show Act.put _ (some 61) _ = _
                            simp only [Act.put, List.setIfInBounds_toArray, List.set_cons_zero, List.set_cons_succ, i64_w, i32_w]
                            rfl
                          refine last_ (i := 17) (N := some 62) #[true, true, true, true, true, true, true, true, true, true, true, true, true, true, true, true, true, true, false, false] rfl rfl (one_of HT_.out (by kernel_rfl)) (by decide) (fun K hK => ?_)
                          refine value_ (w1 := ?_) (v := ?_) (by rfl) rfl ?_ ?_
                          rotate_left 2
                          · go_simp
                            constructor
                            · rfl
                            · rfl
                          refine hK.out _ _ ?_
                          clear hK K
                          refine norm_ (a' := ?_) ?_ ?_
                          rotate_left
                          · show Act.put _ (some 62) _ = _
                            simp only [Act.put, List.setIfInBounds_toArray, List.set_cons_zero, List.set_cons_succ, i64_w, i32_w]
                            rfl
                          refine last_ (i := 18) (N := some 63) #[true, true, true, true, true, true, true, true, true, true, true, true, true, true, true, true, true, true, true, false] rfl rfl (one_of HT_.out (by kernel_rfl)) (by decide) (fun K hK => ?_)
                          refine Kd.R_append_step (Kd.int .i64) (w0 := w) w.heap.size (by rfl) (.tmp 45) (.tmp 62) 78 3 (.int .i64 0) 8 rfl Try.underlying78 info3 rfl (by decide) (by omega) (.slice (some ad165) x3_1.length co24) x3_1 t173 [.int .i64 t173] (fun _ => True) (fun _ => False) rfl rfl ?aP (fun _ hk => hk.elim) ?aF ?aO ?aB ?aS ?aL ?_
                          (case aP => exact rfl)
                          (case aB => exact (by repeat (first | (with_reducible first | exact HB.out | apply below_alloc | apply pw_below_drewN | apply below_drew1) | exact HB.out)))
                          (case aF => exact (fun _ _ => trivial))
                          (case aO => exact (by (with_reducible repeat (first | apply Kd.R_alloc | apply Kd.R_drewN | apply Kd.R_drew)); exact HO_3.out))
                          (case aS => exact (below_size (by repeat (first | (with_reducible first | exact HB.out | apply below_alloc | apply pw_below_drewN | apply below_drew1) | exact HB.out))))
                          (case aL => have := LMc22.out; omega)
                          intro v175 w26 ho hb hg hat
                          rw [← Ny174.out] at ho
                          have n0_ := Aside0.mk (hb)
                          have n1_ := Aside0.mk (ho)
                          clear HB
                          clear HO_3
                          have HB := n0_
                          have HO176 := n1_
                          clear n0_ n1_
                          clear ho hb hg hat
                          refine hK.out _ _ ?_
                          clear hK K
                          refine norm_ (a' := ?_) ?_ ?_
                          rotate_left
                          · show Act.put _ (some 63) _ = _
                            simp only [Act.put, List.setIfInBounds_toArray, List.set_cons_zero, List.set_cons_succ, i64_w, i32_w]
                            rfl
                          refine pure_ (i := 19) (N := some 3) (v := ?_) (a' := ?_) #[true, true, true, true, true, true, true, true, true, true, true, true, true, true, true, true, true, true, true, true] rfl rfl (any_of HT_.out (by kernel_rfl)) (fun _ _ _ h => h) (Or.inl ⟨by rfl, ?_⟩) ?_ ?_
                          rotate_left
                          · intro w'
                            go_simp
                            with_reducible rfl
                          rotate_left
                          · simp only [Act.put, List.setIfInBounds_toArray, List.set_cons_zero, List.set_cons_succ, i64_w, i32_w]
                            rfl
                          refine done_ (done_of HT_.out (by kernel_rfl)) ?_
                          try go_wp2
                          go_roundg k1
                          case measure => have := HK1.out; omega
                          case rel => exact ⟨(y174), (wrap64 (x5_1 + 1)), (by first | rfl | (simp; done) | (simp [*]; done)), H', ⟨by have := HK1.out; omega⟩, ⟨by (with_reducible repeat (first | apply Kd.R_alloc | apply Kd.R_drewN | apply Kd.R_drew)); exact HO176.out⟩, ⟨by repeat (first | (with_reducible first | exact HB.out | apply below_alloc | apply pw_below_drewN | apply below_drew1) | exact HB.out)⟩⟩
                        · rw [if_neg c22] at H
                          exact absurd H (by simp)
                      · rw [if_neg c20] at H
                        exact absurd H (by simp)
                    · rw [if_neg c19] at H
                      exact absurd H (by simp)
                  · rw [if_neg c17] at H
                    exact absurd H (by simp)
                · rw [if_neg c16] at H
                  exact absurd H (by simp)
              · rw [if_neg c10] at H
                exact absurd H (by simp)
            · rw [if_neg c9] at H
              exact absurd H (by simp)
          · rw [if_neg c7] at H
            exact absurd H (by simp)
        · rw [if_neg c6] at H
          exact absurd H (by simp)
      · rw [if_neg c4] at H
        have c4b0 : decide (x5_1 < 64) = false := decide_eq_false c4
        clear c4
        obtain rfl := Option.some.inj H
        go_wp2
        go_ret
        exact ⟨_, by first | rfl | (simp [errW_none, errW_some] <;> rfl) | (simp [*, errW_none, errW_some] <;> rfl), by (with_reducible repeat (first | apply Kd.R_alloc | apply Kd.R_drewN | apply Kd.R_drew)); exact HO_3.out, by repeat (first | (with_reducible first | exact HB.out | apply below_alloc | apply pw_below_drewN | apply below_drew1) | exact HB.out)⟩
end Go.Proofs.Ytbkbganflnemeaa.Pr
end

section
namespace Go.Proofs.Ytbkbganflnemeaa.Pr
open Go.RowKit Go.Proofs.YtbkbganflnemeaaW.PrintWords Go.Proofs.YtbkbganflnemeaaW.PrintLast Go.Proofs.YtbkbganflnemeaaW.PrintMore
attribute [local go_sem] max2_int min2_int max_two min_two max_three min_three max_four min_four   -- for this text's walks alone
set_option linter.unusedVariables false
set_option linter.unusedSimpArgs false
def samphireref02_constants.f  : Option (List Int) := some (([1116352408, 1899447441, 3049323471, 3921009573, 961987163, 1508970993, 2453635748, 2870763221, 3624381080, 310598401, 607225278, 1426881987, 1925078388, 2162078206, 2614888103, 3248222580, 3835390401, 4022224774, 264347078, 604807628, 770255983, 1249150122, 1555081692, 1996064986, 2554220882, 2821834349, 2952996808, 3210313671, 3336571891, 3584528711, 113926993, 338241895, 666307205, 773529912, 1294757372, 1396182291, 1695183700, 1986661051, 2177026350, 2456956037, 2730485921, 2820302411, 3259730800, 3345764771, 3516065817, 3600352804, 4094571909, 275423344, 430227734, 506948616, 659060556, 883997877, 958139571, 1322822218, 1537002063, 1747873779, 1955562222, 2024104815, 2227730452, 2361852424, 2428436474, 2756734187, 3204031479, 3329325298] : List Int))
set_option maxHeartbeats 8000000 in
set_option maxRecDepth 100000 in
theorem samphireref02_constants.calls  (r : List Int) (w : World) (h : samphireref02_constants.f  = some r) :
    Calls Try.prog 164 #[] w fun e w' => ∃ v0_ : Value, e = .returned (v0_) ∧ Kd.R (Kd.int .i64) 3 w' w.heap.size (fun _ => True) v0_ r ∧ Below w.heap.size w w' := by
  have HB := Aside0.mk (Below.refl w.heap.size w)
  have H : (some (([1116352408, 1899447441, 3049323471, 3921009573, 961987163, 1508970993, 2453635748, 2870763221, 3624381080, 310598401, 607225278, 1426881987, 1925078388, 2162078206, 2614888103, 3248222580, 3835390401, 4022224774, 264347078, 604807628, 770255983, 1249150122, 1555081692, 1996064986, 2554220882, 2821834349, 2952996808, 3210313671, 3336571891, 3584528711, 113926993, 338241895, 666307205, 773529912, 1294757372, 1396182291, 1695183700, 1986661051, 2177026350, 2456956037, 2730485921, 2820302411, 3259730800, 3345764771, 3516065817, 3600352804, 4094571909, 275423344, 430227734, 506948616, 659060556, 883997877, 958139571, 1322822218, 1537002063, 1747873779, 1955562222, 2024104815, 2227730452, 2361852424, 2428436474, 2756734187, 3204031479, 3329325298] : List Int))) = some r := h
  clear h
  obtain ⟨y177, hy177⟩ : ∃ y_ : List Int, y_ = (([1116352408, 1899447441, 3049323471, 3921009573, 961987163, 1508970993, 2453635748, 2870763221, 3624381080, 310598401, 607225278, 1426881987, 1925078388, 2162078206, 2614888103, 3248222580, 3835390401, 4022224774, 264347078, 604807628, 770255983, 1249150122, 1555081692, 1996064986, 2554220882, 2821834349, 2952996808, 3210313671, 3336571891, 3584528711, 113926993, 338241895, 666307205, 773529912, 1294757372, 1396182291, 1695183700, 1986661051, 2177026350, 2456956037, 2730485921, 2820302411, 3259730800, 3345764771, 3516065817, 3600352804, 4094571909, 275423344, 430227734, 506948616, 659060556, 883997877, 958139571, 1322822218, 1537002063, 1747873779, 1955562222, 2024104815, 2227730452, 2361852424, 2428436474, 2756734187, 3204031479, 3329325298] : List Int)) := ⟨_, rfl⟩
  replace H : (some y177) = some r := by first | (rw [hy177]; with_reducible exact H) | (have H2_ := (Option.bind_some _ _).symm.trans H; rw [hy177]; with_reducible exact H2_) | (have H2_ := (Option.bind_some _ _).symm.trans H; with_reducible exact H2_) | with_reducible exact H | (rw [hy177]; exact H) | exact H
  have Ny177 := Aside0.mk hy177
  clear hy177
  obtain rfl := Option.some.inj H
  go_enter Try.func164, Try.ntmps164
  go_wp2_with (first | ((with_reducible refine gate_dst (N := 1) rfl ?_); refine Kd.R_lit (Kd.int .i64) _ 3 ?hg (N := 1) ?hd (xs := ([1116352408, 1899447441, 3049323471, 3921009573, 961987163, 1508970993, 2453635748, 2870763221, 3624381080, 310598401, 607225278, 1426881987, 1925078388, 2162078206, 2614888103, 3248222580, 3835390401, 4022224774, 264347078, 604807628, 770255983, 1249150122, 1555081692, 1996064986, 2554220882, 2821834349, 2952996808, 3210313671, 3336571891, 3584528711, 113926993, 338241895, 666307205, 773529912, 1294757372, 1396182291, 1695183700, 1986661051, 2177026350, 2456956037, 2730485921, 2820302411, 3259730800, 3345764771, 3516065817, 3600352804, 4094571909, 275423344, 430227734, 506948616, 659060556, 883997877, 958139571, 1322822218, 1537002063, 1747873779, 1955562222, 2024104815, 2227730452, 2361852424, 2428436474, 2756734187, 3204031479, 3329325298] : List Int)) (inner := [.int .i64 1116352408, .int .i64 1899447441, .int .i64 3049323471, .int .i64 3921009573, .int .i64 961987163, .int .i64 1508970993, .int .i64 2453635748, .int .i64 2870763221, .int .i64 3624381080, .int .i64 310598401, .int .i64 607225278, .int .i64 1426881987, .int .i64 1925078388, .int .i64 2162078206, .int .i64 2614888103, .int .i64 3248222580, .int .i64 3835390401, .int .i64 4022224774, .int .i64 264347078, .int .i64 604807628, .int .i64 770255983, .int .i64 1249150122, .int .i64 1555081692, .int .i64 1996064986, .int .i64 2554220882, .int .i64 2821834349, .int .i64 2952996808, .int .i64 3210313671, .int .i64 3336571891, .int .i64 3584528711, .int .i64 113926993, .int .i64 338241895, .int .i64 666307205, .int .i64 773529912, .int .i64 1294757372, .int .i64 1396182291, .int .i64 1695183700, .int .i64 1986661051, .int .i64 2177026350, .int .i64 2456956037, .int .i64 2730485921, .int .i64 2820302411, .int .i64 3259730800, .int .i64 3345764771, .int .i64 3516065817, .int .i64 3600352804, .int .i64 4094571909, .int .i64 275423344, .int .i64 430227734, .int .i64 506948616, .int .i64 659060556, .int .i64 883997877, .int .i64 958139571, .int .i64 1322822218, .int .i64 1537002063, .int .i64 1747873779, .int .i64 1955562222, .int .i64 2024104815, .int .i64 2227730452, .int .i64 2361852424, .int .i64 2428436474, .int .i64 2756734187, .int .i64 3204031479, .int .i64 3329325298]) (ok := fun _ => True) (okp := fun _ => True) ?hr ?hp (fun _ hk => hk) trivial (Below.refl _ _) (Nat.le_refl _) (by simp) ?_; (case hd => rfl); (case hg => rfl); (case hr => first | (go_simp; done) | (go_simp; rfl)); (case hp => exact (Reps.one (show Kd.M (Kd.int .i64) _ _ _ 1116352408 [.int .i64 1116352408] from rfl) (Reps.one (show Kd.M (Kd.int .i64) _ _ _ 1899447441 [.int .i64 1899447441] from rfl) (Reps.one (show Kd.M (Kd.int .i64) _ _ _ 3049323471 [.int .i64 3049323471] from rfl) (Reps.one (show Kd.M (Kd.int .i64) _ _ _ 3921009573 [.int .i64 3921009573] from rfl) (Reps.one (show Kd.M (Kd.int .i64) _ _ _ 961987163 [.int .i64 961987163] from rfl) (Reps.one (show Kd.M (Kd.int .i64) _ _ _ 1508970993 [.int .i64 1508970993] from rfl) (Reps.one (show Kd.M (Kd.int .i64) _ _ _ 2453635748 [.int .i64 2453635748] from rfl) (Reps.one (show Kd.M (Kd.int .i64) _ _ _ 2870763221 [.int .i64 2870763221] from rfl) (Reps.one (show Kd.M (Kd.int .i64) _ _ _ 3624381080 [.int .i64 3624381080] from rfl) (Reps.one (show Kd.M (Kd.int .i64) _ _ _ 310598401 [.int .i64 310598401] from rfl) (Reps.one (show Kd.M (Kd.int .i64) _ _ _ 607225278 [.int .i64 607225278] from rfl) (Reps.one (show Kd.M (Kd.int .i64) _ _ _ 1426881987 [.int .i64 1426881987] from rfl) (Reps.one (show Kd.M (Kd.int .i64) _ _ _ 1925078388 [.int .i64 1925078388] from rfl) (Reps.one (show Kd.M (Kd.int .i64) _ _ _ 2162078206 [.int .i64 2162078206] from rfl) (Reps.one (show Kd.M (Kd.int .i64) _ _ _ 2614888103 [.int .i64 2614888103] from rfl) (Reps.one (show Kd.M (Kd.int .i64) _ _ _ 3248222580 [.int .i64 3248222580] from rfl) (Reps.one (show Kd.M (Kd.int .i64) _ _ _ 3835390401 [.int .i64 3835390401] from rfl) (Reps.one (show Kd.M (Kd.int .i64) _ _ _ 4022224774 [.int .i64 4022224774] from rfl) (Reps.one (show Kd.M (Kd.int .i64) _ _ _ 264347078 [.int .i64 264347078] from rfl) (Reps.one (show Kd.M (Kd.int .i64) _ _ _ 604807628 [.int .i64 604807628] from rfl) (Reps.one (show Kd.M (Kd.int .i64) _ _ _ 770255983 [.int .i64 770255983] from rfl) (Reps.one (show Kd.M (Kd.int .i64) _ _ _ 1249150122 [.int .i64 1249150122] from rfl) (Reps.one (show Kd.M (Kd.int .i64) _ _ _ 1555081692 [.int .i64 1555081692] from rfl) (Reps.one (show Kd.M (Kd.int .i64) _ _ _ 1996064986 [.int .i64 1996064986] from rfl) (Reps.one (show Kd.M (Kd.int .i64) _ _ _ 2554220882 [.int .i64 2554220882] from rfl) (Reps.one (show Kd.M (Kd.int .i64) _ _ _ 2821834349 [.int .i64 2821834349] from rfl) (Reps.one (show Kd.M (Kd.int .i64) _ _ _ 2952996808 [.int .i64 2952996808] from rfl) (Reps.one (show Kd.M (Kd.int .i64) _ _ _ 3210313671 [.int .i64 3210313671] from rfl) (Reps.one (show Kd.M (Kd.int .i64) _ _ _ 3336571891 [.int .i64 3336571891] from rfl) (Reps.one (show Kd.M (Kd.int .i64) _ _ _ 3584528711 [.int .i64 3584528711] from rfl) (Reps.one (show Kd.M (Kd.int .i64) _ _ _ 113926993 [.int .i64 113926993] from rfl) (Reps.one (show Kd.M (Kd.int .i64) _ _ _ 338241895 [.int .i64 338241895] from rfl) (Reps.one (show Kd.M (Kd.int .i64) _ _ _ 666307205 [.int .i64 666307205] from rfl) (Reps.one (show Kd.M (Kd.int .i64) _ _ _ 773529912 [.int .i64 773529912] from rfl) (Reps.one (show Kd.M (Kd.int .i64) _ _ _ 1294757372 [.int .i64 1294757372] from rfl) (Reps.one (show Kd.M (Kd.int .i64) _ _ _ 1396182291 [.int .i64 1396182291] from rfl) (Reps.one (show Kd.M (Kd.int .i64) _ _ _ 1695183700 [.int .i64 1695183700] from rfl) (Reps.one (show Kd.M (Kd.int .i64) _ _ _ 1986661051 [.int .i64 1986661051] from rfl) (Reps.one (show Kd.M (Kd.int .i64) _ _ _ 2177026350 [.int .i64 2177026350] from rfl) (Reps.one (show Kd.M (Kd.int .i64) _ _ _ 2456956037 [.int .i64 2456956037] from rfl) (Reps.one (show Kd.M (Kd.int .i64) _ _ _ 2730485921 [.int .i64 2730485921] from rfl) (Reps.one (show Kd.M (Kd.int .i64) _ _ _ 2820302411 [.int .i64 2820302411] from rfl) (Reps.one (show Kd.M (Kd.int .i64) _ _ _ 3259730800 [.int .i64 3259730800] from rfl) (Reps.one (show Kd.M (Kd.int .i64) _ _ _ 3345764771 [.int .i64 3345764771] from rfl) (Reps.one (show Kd.M (Kd.int .i64) _ _ _ 3516065817 [.int .i64 3516065817] from rfl) (Reps.one (show Kd.M (Kd.int .i64) _ _ _ 3600352804 [.int .i64 3600352804] from rfl) (Reps.one (show Kd.M (Kd.int .i64) _ _ _ 4094571909 [.int .i64 4094571909] from rfl) (Reps.one (show Kd.M (Kd.int .i64) _ _ _ 275423344 [.int .i64 275423344] from rfl) (Reps.one (show Kd.M (Kd.int .i64) _ _ _ 430227734 [.int .i64 430227734] from rfl) (Reps.one (show Kd.M (Kd.int .i64) _ _ _ 506948616 [.int .i64 506948616] from rfl) (Reps.one (show Kd.M (Kd.int .i64) _ _ _ 659060556 [.int .i64 659060556] from rfl) (Reps.one (show Kd.M (Kd.int .i64) _ _ _ 883997877 [.int .i64 883997877] from rfl) (Reps.one (show Kd.M (Kd.int .i64) _ _ _ 958139571 [.int .i64 958139571] from rfl) (Reps.one (show Kd.M (Kd.int .i64) _ _ _ 1322822218 [.int .i64 1322822218] from rfl) (Reps.one (show Kd.M (Kd.int .i64) _ _ _ 1537002063 [.int .i64 1537002063] from rfl) (Reps.one (show Kd.M (Kd.int .i64) _ _ _ 1747873779 [.int .i64 1747873779] from rfl) (Reps.one (show Kd.M (Kd.int .i64) _ _ _ 1955562222 [.int .i64 1955562222] from rfl) (Reps.one (show Kd.M (Kd.int .i64) _ _ _ 2024104815 [.int .i64 2024104815] from rfl) (Reps.one (show Kd.M (Kd.int .i64) _ _ _ 2227730452 [.int .i64 2227730452] from rfl) (Reps.one (show Kd.M (Kd.int .i64) _ _ _ 2361852424 [.int .i64 2361852424] from rfl) (Reps.one (show Kd.M (Kd.int .i64) _ _ _ 2428436474 [.int .i64 2428436474] from rfl) (Reps.one (show Kd.M (Kd.int .i64) _ _ _ 2756734187 [.int .i64 2756734187] from rfl) (Reps.one (show Kd.M (Kd.int .i64) _ _ _ 3204031479 [.int .i64 3204031479] from rfl) (Reps.one (show Kd.M (Kd.int .i64) _ _ _ 3329325298 [.int .i64 3329325298] from rfl) (Reps.none _ _)))))))))))))))))))))))))))))))))))))))))))))))))))))))))))))))))); intro v178 w1 ho2 hb hg_ hnew_; clear hg_ hnew_; (first | rw [← Ny177.out] at ho2 | (simp only [Int.reduceToNat] at ho2; rw [← Ny177.out] at ho2)); have n0_ := Aside0.mk (Kd.R_lower ho2 (below_size (by repeat (first | (with_reducible first | exact HB.out | apply below_alloc | apply pw_below_drewN | apply below_drew1) | exact HB.out)))); have n1_ := Aside0.mk (below_step (by repeat (first | (with_reducible first | exact HB.out | apply below_alloc | apply pw_below_drewN | apply below_drew1) | exact HB.out)) hb); clear HB; have HO179 := n0_; have HB := n1_; clear n0_ n1_; clear hb ho2))
  go_ret
  exact ⟨_, by first | rfl | (simp [errW_none, errW_some] <;> rfl) | (simp [*, errW_none, errW_some] <;> rfl), by (with_reducible repeat (first | apply Kd.R_alloc | apply Kd.R_drewN | apply Kd.R_drew)); exact HO179.out, by repeat (first | (with_reducible first | exact HB.out | apply below_alloc | apply pw_below_drewN | apply below_drew1) | exact HB.out)⟩
end Go.Proofs.Ytbkbganflnemeaa.Pr
end

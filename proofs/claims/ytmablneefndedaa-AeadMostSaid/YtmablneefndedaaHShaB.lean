/- sha's step: the walk of one block. -/
-- HAND samphire/sha.Block sha_Block 0 1
-- NEEDS samphire/sha.big
import Derived.Test.YtmablneefndedaaHShaA
import Derived.BigQuiet
import Derived.StillTailTactics
import Derived.IntWalk
import Derived.Deep.Light
import Derived.Test.YtmablneefndedaaPrxf132
import Derived.Deep.WholeRow
namespace Go.Proofs.Ytmablneefndedaa.Pr
open Go.RowKit Go.Proofs.YtmablneefndedaaW.PrintWords
set_option maxHeartbeats 400000
set_option linter.unusedVariables false
set_option linter.unusedSimpArgs false
theorem bt_nat (s : ByteArray) (i : Nat) (h : i < s.size) : bt s (i : Int) = ((bys s).getD i 0 : Nat) := by
  unfold bt
  rw [dif_pos (by simpa using h)]
  have hl : i < s.data.toList.length := by rw [data_length]; exact h
  simp only [bys, List.getD_eq_getElem?_getD, List.getElem?_map, List.getElem?_eq_getElem hl, Option.map_some, Option.getD_some]
  rfl
theorem bys_lt (s : ByteArray) (i : Nat) : (bys s).getD i 0 < 256 := by
  rw [List.getD_eq_getElem?_getD]
  unfold bys
  rw [List.getElem?_map]
  cases h : s.data.toList[i]? with
  | none => simp
  | some x => simpa using x.toNat_lt
theorem or_be4 (x y z v : Nat) (hx : x < 256) (hy : y < 256) (hz : z < 256) (hv : v < 256) : bits .or .u32 (bits .or .u32 (bits .or .u32 ((((x : Int) % 4294967296) * 16777216) % 4294967296) ((((y : Int) % 4294967296) * 65536) % 4294967296)) ((((z : Int) % 4294967296) * 256) % 4294967296)) ((v : Int) % 4294967296) = ((x * 16777216 + y * 65536 + z * 256 + v : Nat) : Int) := by
  rw [show ((((x : Int) % 4294967296) * 16777216) % 4294967296) = ((x * 16777216 : Nat) : Int) by omega, show ((((y : Int) % 4294967296) * 65536) % 4294967296) = ((y * 65536 : Nat) : Int) by omega,
    show ((((z : Int) % 4294967296) * 256) % 4294967296) = ((z * 256 : Nat) : Int) by omega, show ((v : Int) % 4294967296) = (v : Int) by omega]
  have h1 : x * 16777216 ||| y * 65536 = x * 16777216 + y * 65536 := by
    have := Nat.two_pow_add_eq_or_of_lt (i := 24) (b := y * 65536) (by omega) x
    rw [Nat.mul_comm x]; exact this.symm
  have h2 : (x * 16777216 + y * 65536) ||| z * 256 = x * 16777216 + y * 65536 + z * 256 := by
    have := Nat.two_pow_add_eq_or_of_lt (i := 16) (b := z * 256) (by omega) (x * 256 + y)
    rw [show x * 16777216 + y * 65536 = 2 ^ 16 * (x * 256 + y) by omega]; exact this.symm
  have h3 : (x * 16777216 + y * 65536 + z * 256) ||| v = x * 16777216 + y * 65536 + z * 256 + v := by
    have := Nat.two_pow_add_eq_or_of_lt (i := 8) (b := v) (by omega) (x * 65536 + y * 256 + z)
    rw [show x * 16777216 + y * 65536 + z * 256 = 2 ^ 8 * (x * 65536 + y * 256 + z) by omega]; exact this.symm
  rw [or32 _ _ (by omega) (by omega), h1, or32 _ _ (by omega) (by omega), h2, or32 _ _ (by omega) (by omega), h3]
theorem sha_big_f (s : ByteArray) (hs : 4 ≤ s.size) : sha_big.f s = some (be4 (bys s) 0 : Nat) := by
  unfold sha_big.f
  rw [if_pos (by omega), if_pos (by omega), if_pos (by omega), if_pos (by omega)]
  have h0 := bt_nat s 0 (by omega)
  have h1 := bt_nat s 1 (by omega)
  have h2 := bt_nat s 2 (by omega)
  have h3 := bt_nat s 3 (by omega)
  rw [show bt s 0 = ((bys s).getD 0 0 : Nat) from h0, show bt s 1 = ((bys s).getD 1 0 : Nat) from h1, show bt s 2 = ((bys s).getD 2 0 : Nat) from h2, show bt s 3 = ((bys s).getD 3 0 : Nat) from h3,
    or_be4 _ _ _ _ (bys_lt s 0) (bys_lt s 1) (bys_lt s 2) (bys_lt s 3)]
  rfl
theorem big_calls (s : ByteArray) (w : World) (hs : 4 ≤ s.size) : Calls Try.prog 132 #[.string s] w fun e w' => e = .returned (.int .u32 (be4 (bys s) 0 : Nat)) ∧ ∃ n, w' = w.drewN n :=
  (sha_big.calls s _ w (sha_big_f s hs)).mono fun _ _ h => ⟨h.1, h.2.out⟩
theorem be4_drop (l : List Nat) (i n : Nat) (hn : 4 ≤ n) : be4 ((l.drop i).take n) 0 = be4 l i := by
  unfold be4
  simp only [List.getD_eq_getElem?_getD, List.getElem?_take, List.getElem?_drop, Nat.zero_add, Nat.add_zero]
  rw [if_pos (by omega), if_pos (by omega), if_pos (by omega), if_pos (by omega)]
theorem not32 (e : Nat) (he : e < 4294967296) : bits .xor .u32 IntKind.u32.max (e : Int) = ((4294967295 - e : Nat) : Int) := by
  rw [show IntKind.u32.max = ((4294967295 : Nat) : Int) from rfl, xor32 _ _ (by decide) he]
  congr 1
  apply Nat.eq_of_testBit_eq
  intro i
  have h := Nat.testBit_two_pow_sub_succ (x := e) (n := 32) (by simpa using he) i
  rw [show (4294967295 - e : Nat) = 2 ^ 32 - (e + 1) by omega, h, Nat.testBit_xor, show (4294967295 : Nat) = 2 ^ 32 - 1 from rfl, Nat.testBit_two_pow_sub_one]
  by_cases hi : i < 32
  · simp [hi]
  · have : e.testBit i = false := Nat.testBit_lt_two_pow (Nat.lt_of_lt_of_le he (by rw [show (4294967296 : Nat) = 2 ^ 32 from rfl]; exact Nat.pow_le_pow_right (by decide) (by omega)))
    simp [hi, this]
theorem xor_lt32 {a b : Nat} (ha : a < 4294967296) (hb : b < 4294967296) : a ^^^ b < 4294967296 := Nat.xor_lt_two_pow (n := 32) ha hb
theorem and_lt32 {a b : Nat} (hb : b < 4294967296) : a &&& b < 4294967296 := Nat.and_lt_two_pow (n := 32) a hb
theorem bs1_int (e : Nat) (he : e < 4294967296) : bits .xor .u32 (bits .xor .u32 ((rotr e 6 : Nat) : Int) ((rotr e 11 : Nat) : Int)) ((rotr e 25 : Nat) : Int) = ((bs1 e : Nat) : Int) := by
  rw [xor32 _ _ (rotr_lt e 6 he) (rotr_lt e 11 he), xor32 _ _ (xor_lt32 (rotr_lt e 6 he) (rotr_lt e 11 he)) (rotr_lt e 25 he)]
  rfl
theorem bs0_int (e : Nat) (he : e < 4294967296) : bits .xor .u32 (bits .xor .u32 ((rotr e 2 : Nat) : Int) ((rotr e 13 : Nat) : Int)) ((rotr e 22 : Nat) : Int) = ((bs0 e : Nat) : Int) := by
  rw [xor32 _ _ (rotr_lt e 2 he) (rotr_lt e 13 he), xor32 _ _ (xor_lt32 (rotr_lt e 2 he) (rotr_lt e 13 he)) (rotr_lt e 22 he)]
  rfl
theorem sg0_int (x : Nat) (hx : x < 4294967296) : bits .xor .u32 (bits .xor .u32 ((rotr x 7 : Nat) : Int) ((rotr x 18 : Nat) : Int)) ((x : Int) / 8) = ((sg0 x : Nat) : Int) := by
  rw [show ((x : Int) / 8) = ((x / 8 : Nat) : Int) by simp, xor32 _ _ (rotr_lt x 7 hx) (rotr_lt x 18 hx), xor32 _ _ (xor_lt32 (rotr_lt x 7 hx) (rotr_lt x 18 hx)) (by omega)]
  unfold sg0
  rw [Nat.shiftRight_eq_div_pow]
theorem sg1_int (x : Nat) (hx : x < 4294967296) : bits .xor .u32 (bits .xor .u32 ((rotr x 17 : Nat) : Int) ((rotr x 19 : Nat) : Int)) ((x : Int) / 1024) = ((sg1 x : Nat) : Int) := by
  rw [show ((x : Int) / 1024) = ((x / 1024 : Nat) : Int) by simp, xor32 _ _ (rotr_lt x 17 hx) (rotr_lt x 19 hx), xor32 _ _ (xor_lt32 (rotr_lt x 17 hx) (rotr_lt x 19 hx)) (by omega)]
  unfold sg1
  rw [Nat.shiftRight_eq_div_pow]
theorem chs_int (e f g : Nat) (he : e < 4294967296) (hf : f < 4294967296) (hg : g < 4294967296) :
    bits .xor .u32 (bits .and .u32 (e : Int) (f : Int)) (bits .and .u32 (bits .xor .u32 IntKind.u32.max (e : Int)) (g : Int)) = ((chs e f g : Nat) : Int) := by
  rw [not32 e he, and32 _ _ he hf, and32 _ _ (by omega) hg, xor32 _ _ (and_lt32 hf) (and_lt32 hg)]
  rfl
theorem maj_int (a b c : Nat) (ha : a < 4294967296) (hb : b < 4294967296) (hc : c < 4294967296) :
    bits .xor .u32 (bits .xor .u32 (bits .and .u32 (a : Int) (b : Int)) (bits .and .u32 (a : Int) (c : Int))) (bits .and .u32 (b : Int) (c : Int)) = ((maj a b c : Nat) : Int) := by
  rw [and32 _ _ ha hb, and32 _ _ ha hc, and32 _ _ hb hc, xor32 _ _ (and_lt32 hb) (and_lt32 hc), xor32 _ _ (xor_lt32 (and_lt32 hb) (and_lt32 hc)) (and_lt32 hc)]
  rfl
/-- The walk's spelling of a round's two new words. -/
theorem rnd_a (s : St) (hs : s.ok) (k w : Nat) : (((s.h : Int) + bits .xor .u32 (bits .xor .u32 ((rotr s.e 6 : Nat) : Int) ((rotr s.e 11 : Nat) : Int)) ((rotr s.e 25 : Nat) : Int) + bits .xor .u32 (bits .and .u32 (s.e : Int) (s.f : Int)) (bits .and .u32 (bits .xor .u32 IntKind.u32.max (s.e : Int)) (s.g : Int)) + (k : Int) + (w : Int) +
      (bits .xor .u32 (bits .xor .u32 ((rotr s.a 2 : Nat) : Int) ((rotr s.a 13 : Nat) : Int)) ((rotr s.a 22 : Nat) : Int) + bits .xor .u32 (bits .xor .u32 (bits .and .u32 (s.a : Int) (s.b : Int)) (bits .and .u32 (s.a : Int) (s.c : Int))) (bits .and .u32 (s.b : Int) (s.c : Int)))) % 4294967296) = (((rnd s k w).a : Nat) : Int) := by
  obtain ⟨h1, h2, h3, h4, h5, h6, h7, h8⟩ := hs
  rw [bs1_int _ h5, chs_int _ _ _ h5 h6 h7, bs0_int _ h1, maj_int _ _ _ h1 h2 h3]
  simp only [rnd, t1, t2]
  omega
theorem rnd_e (s : St) (hs : s.ok) (k w : Nat) : (((s.d : Int) + ((s.h : Int) + bits .xor .u32 (bits .xor .u32 ((rotr s.e 6 : Nat) : Int) ((rotr s.e 11 : Nat) : Int)) ((rotr s.e 25 : Nat) : Int) + bits .xor .u32 (bits .and .u32 (s.e : Int) (s.f : Int)) (bits .and .u32 (bits .xor .u32 IntKind.u32.max (s.e : Int)) (s.g : Int)) + (k : Int) + (w : Int))) % 4294967296) = (((rnd s k w).e : Nat) : Int) := by
  obtain ⟨h1, h2, h3, h4, h5, h6, h7, h8⟩ := hs
  rw [bs1_int _ h5, chs_int _ _ _ h5 h6 h7]
  simp only [rnd, t1]
  omega
theorem sched_val (x16 x15 x7 x2 : Nat) (h15 : x15 < 4294967296) (h2 : x2 < 4294967296) : (((x16 : Int) + bits .xor .u32 (bits .xor .u32 ((rotr x15 7 : Nat) : Int) ((rotr x15 18 : Nat) : Int)) ((x15 : Int) / 8) + (x7 : Int) + bits .xor .u32 (bits .xor .u32 ((rotr x2 17 : Nat) : Int) ((rotr x2 19 : Nat) : Int)) ((x2 : Int) / 1024)) % 4294967296) = (((x16 + sg0 x15 + x7 + sg1 x2) % 4294967296 : Nat) : Int) := by
  rw [sg0_int _ h15, sg1_int _ h2]
  omega
theorem set8 (V : World) (t : TypeId) (N g : Nat) (x0 x1 x2 x3 x4 x5 x6 x7 y0 y1 y2 y3 y4 y5 y6 y7 : Value) (hg : g = V.heap.size) :
    (((((((((V.alloc (.cells #[x0, x1, x2, x3, x4, x5, x6, x7] t)).drewN N).setCell ⟨g, 0, none⟩ y0).setCell ⟨g, 1, none⟩ y1).setCell ⟨g, 2, none⟩ y2).setCell ⟨g, 3, none⟩ y3).setCell ⟨g, 4, none⟩ y4).setCell ⟨g, 5, none⟩ y5).setCell ⟨g, 6, none⟩ y6).setCell ⟨g, 7, none⟩ y7 =
      (V.alloc (.cells #[y0, y1, y2, y3, y4, y5, y6, y7] t)).drewN N := by
  have h : ∀ (W : World) i v, (W.drewN N).setCell ⟨g, i, none⟩ v = (W.setCell ⟨g, i, none⟩ v).drewN N := fun _ _ _ => rfl
  have e : ∀ c i v, (V.alloc (.cells c t)).setCell ⟨g, i, none⟩ v = V.alloc (.cells (c.setIfInBounds i v) t) := fun c i v => World.setCell_alloc_at c t g i v hg
  simp only [h, e]
  exact congrArg (fun c => (V.alloc (.cells c t)).drewN N) (by simp)
theorem set_last (V : World) (t : TypeId) (N g i : Nat) (l : List Nat) (v : Nat) (hg : g = V.heap.size) : (((V.alloc (.cells (u32s l) t)).drewN N).drew).setCell ⟨g, i, none⟩ (.int .u32 (v : Int)) = (V.alloc (.cells (u32s (l.set i v)) t)).drewN (N + 1) := by
  have h : (((V.alloc (.cells (u32s l) t)).drewN N).drew).setCell ⟨g, i, none⟩ (.int .u32 (v : Int)) = ((V.alloc (.cells (u32s l) t)).setCell ⟨g, i, none⟩ (.int .u32 (v : Int))).drewN (N + 1) := rfl
  rw [h, World.setCell_alloc_at _ _ _ _ _ hg, u32s_set]
theorem setN_last (V : World) (t : TypeId) (N g i : Nat) (l : List Nat) (v : Nat) (hg : g = V.heap.size) : ((V.alloc (.cells (u32s l) t)).drewN N).setCell ⟨g, i, none⟩ (.int .u32 (v : Int)) = (V.alloc (.cells (u32s (l.set i v)) t)).drewN N := by
  have h : ((V.alloc (.cells (u32s l) t)).drewN N).setCell ⟨g, i, none⟩ (.int .u32 (v : Int)) = ((V.alloc (.cells (u32s l) t)).setCell ⟨g, i, none⟩ (.int .u32 (v : Int))).drewN N := rfl
  rw [h, World.setCell_alloc_at _ _ _ _ _ hg, u32s_set]
theorem set_first (w : World) (t : TypeId) (N i : Nat) (l : List Nat) (v : Nat) (B C D : Obj) : (((((w.alloc (.cells (u32s l) t)).alloc B).alloc C).alloc D).drewN N).drew.setCell ⟨w.heap.size, i, none⟩ (.int .u32 (v : Int)) = ((((w.alloc (.cells (u32s (l.set i v)) t)).alloc B).alloc C).alloc D).drewN (N + 1) := by
  have h : (((((w.alloc (.cells (u32s l) t)).alloc B).alloc C).alloc D).drewN N).drew.setCell ⟨w.heap.size, i, none⟩ (.int .u32 (v : Int)) = (((((w.alloc (.cells (u32s l) t)).alloc B).alloc C).alloc D).setCell ⟨w.heap.size, i, none⟩ (.int .u32 (v : Int))).drewN (N + 1) := rfl
  rw [h, World.setCell_alloc_past _ _ _ _ (by simp; omega), World.setCell_alloc_past _ _ _ _ (by simp; omega), World.setCell_alloc_past _ _ _ _ (by simp), World.setCell_alloc_at _ _ _ _ _ rfl, u32s_set]
/-- The sum of two states, as far as it has come. -/
def hAt (s v : List Nat) (k : Nat) : List Nat := (List.range 8).map fun i => if i < k then (s.getD i 0 + v.getD i 0) % 4294967296 else s.getD i 0
theorem hAt_get (s v : List Nat) (k : Nat) (hk : k < 8) : (u32s (hAt s v k))[k]? = some (.int .u32 (s.getD k 0 : Nat)) := by
  rw [u32s_get _ _ (by simp [hAt]; omega)]
  simp [hAt, hk]
theorem hAt_set (s v : List Nat) (k : Nat) (hk : k < 8) : (hAt s v k).set k ((s.getD k 0 + v.getD k 0) % 4294967296) = hAt s v (k + 1) := by
  apply List.ext_getElem
  · simp [hAt]
  · intro i h1 h2
    rw [List.getElem_set]
    simp only [hAt, List.getElem_map, List.getElem_range]
    by_cases e : k = i
    · subst e; simp
    · rw [if_neg e]
      by_cases h : i < k
      · rw [if_pos h, if_pos (by omega)]
      · rw [if_neg h, if_neg (by omega)]
theorem sched_lt (b : List Nat) (hb : ∀ i, b.getD i 0 < 256) : ∀ k i, (sched b k).getD i 0 < 4294967296
  | 0, i => by simp [sched]
  | k + 1, i => by
    rw [sched, List.getD_eq_getElem?_getD]
    by_cases h : i < k
    · rw [List.getElem?_append_left (by rw [sched_length]; exact h), ← List.getD_eq_getElem?_getD]
      exact sched_lt b hb k i
    · rw [List.getElem?_append_right (by rw [sched_length]; omega), sched_length]
      rcases Nat.eq_zero_or_pos (i - k) with h0 | h0
      · rw [h0]
        simp only [List.getElem?_cons_zero, Option.getD_some, wordAt]
        split
        · unfold be4
          have := hb (4 * k)
          have := hb (4 * k + 1)
          have := hb (4 * k + 2)
          have := hb (4 * k + 3)
          omega
        · exact Nat.mod_lt _ (by decide)
      · rw [List.getElem?_eq_none (by simp; omega)]
        simp
def wAt (b : List Nat) (k : Nat) : List Nat := sched b k ++ List.replicate (64 - k) 0
theorem wAt_length (b : List Nat) (k : Nat) (hk : k ≤ 64) : (wAt b k).length = 64 := by
  unfold wAt; rw [List.length_append, sched_length, List.length_replicate]; omega
theorem wAt_get (b : List Nat) (k i : Nat) (hk : k ≤ 64) (hi : i < k) : (u32s (wAt b k))[i]? = some (.int .u32 ((sched b k).getD i 0 : Nat)) := by
  rw [u32s_get _ _ (by rw [wAt_length b k hk]; omega)]
  unfold wAt
  rw [List.getD_eq_getElem?_getD, List.getElem?_append_left (by rw [sched_length]; exact hi), ← List.getD_eq_getElem?_getD]
theorem wAt_next (b : List Nat) (k : Nat) (hk : k < 64) : (wAt b k).set k (wordAt b (sched b k) k) = wAt b (k + 1) := by
  unfold wAt
  rw [List.set_append_right _ _ (by rw [sched_length]; omega), sched_length, Nat.sub_self, show 64 - k = (64 - (k + 1)) + 1 by omega, List.replicate_succ, List.set_cons_zero]
  simp [sched]
theorem wp_still_tail {P : Program} {id : Nat} {Q : Exit → Act → World → Prop} {a : Act} {w : World} {l : List Oper} (n : Nat) (hm : P.follows .mixedOrders = true) (hB : Region.lexTailB .any l.toArray n = true)
    (h : ∀ W, W = w.drew → wpStill P l.toArray W (fun a' => wpList P l.toArray Q (l.drop n) a' W) (l.take n) a) : (Code.region id l.toArray true).wp P Q a w :=
  wp_region_still_tail n hm hB (h _ rfl)
set_option maxRecDepth 100000 in
set_option maxHeartbeats 8000000 in
theorem sums_step.calls (a b c d e f g hh gc : Nat) (s : ByteArray) (w : World) (hok : (St.mk a b c d e f g hh).ok) (hs : s.size = 64) (hc : w.heap[gc]? = some (.cells (u32s shaK) 123 (0, 0)))
   : Calls Try.prog 126 #[.agg #[.int .u32 a, .int .u32 b, .int .u32 c, .int .u32 d, .int .u32 e, .int .u32 f, .int .u32 g, .int .u32 hh], .pointer (some ⟨gc, 0, none⟩), .string s] w fun E w' => (∃ s' : St, s' = stp (St.mk a b c d e f g hh) (bys s) ∧ E = .returned (.agg #[.int .u32 (s'.a : Int), .int .u32 (s'.b : Int), .int .u32 (s'.c : Int), .int .u32 (s'.d : Int), .int .u32 (s'.e : Int), .int .u32 (s'.f : Int), .int .u32 (s'.g : Int), .int .u32 (s'.h : Int)])) ∧ Below w.heap.size w w' := by
  have hbl := sched_lt (bys s) (bys_lt s)
  have HBL := Aside0.mk hbl
  have HOK := Aside0.mk hok
  clear hbl hok
  go_enter Try.func126, Try.ntmps126
  go_wp2
  go_loopw [18] (fun i wr => ∃ (k n : Nat), k ≤ 64 ∧ i = .int .i64 k ∧ wr = (((w.alloc (.cells #[.int .u32 a, .int .u32 b, .int .u32 c, .int .u32 d, .int .u32 e, .int .u32 f, .int .u32 g, .int .u32 hh] 126)).alloc (.cells (u32s [0,0,0,0,0,0,0,0]) 126)).alloc (.cells (u32s (wAt (bys s) k)) 123)).drewN n) (fun i _ => 64 - (intOf i).toNat)
  case atStart => exact ⟨0, 0, by omega, rfl, rfl⟩
  case round =>
    obtain ⟨k, n, hk, rfl, rfl⟩ := hrel
    by_cases hlt : k < 64
    · by_cases h16 : k < 16
      · obtain ⟨v0, hw⟩ : ∃ v : Nat, (u32s (wAt (bys s) k))[k]? = some (.int .u32 (v : Int)) := ⟨_, u32s_get _ _ (by rw [wAt_length _ _ hk]; omega)⟩
        have hle : 4 * k + 4 ≤ s.size := by omega
        have hle2 : 4 * k ≤ 64 := by omega
        go_wp2_with (go_at_call 132; refine (big_calls _ _ ?_).mono ?_)
        · have e1 : (s.extract (4 * k) 64).size = 64 - 4 * k := by simp [hs]
          omega
        · rintro e1 w1 ⟨rfl, n1, rfl⟩
          have HB4 := Aside0.mk (show be4 (bys (s.extract (4 * k) 64)) 0 = wordAt (bys s) (sched (bys s) k) k by rw [bys_extract, be4_drop _ _ _ (by omega), wordAt, if_pos h16])
          generalize be4 (bys (s.extract (4 * k) 64)) 0 = xb at *
          go_wp2
          go_light
          refine ⟨⟨k + 1, n + n1, by omega, by go_num, ?_⟩, by simp [intOf]; omega⟩
          rw [setN_last _ _ _ _ _ _ _ (by simp), HB4.out, wAt_next _ _ hlt]
      · obtain ⟨v0, hw⟩ : ∃ v : Nat, (u32s (wAt (bys s) k))[k]? = some (.int .u32 (v : Int)) := ⟨_, u32s_get _ _ (by rw [wAt_length _ _ hk]; omega)⟩
        have hw2 := wAt_get (bys s) k (k - 2) hk (by omega)
        have hw7 := wAt_get (bys s) k (k - 7) hk (by omega)
        have hw15 := wAt_get (bys s) k (k - 15) hk (by omega)
        have hw16 := wAt_get (bys s) k (k - 16) hk (by omega)
        generalize hx2 : (sched (bys s) k).getD (k - 2) 0 = x2 at hw2
        generalize hx7 : (sched (bys s) k).getD (k - 7) 0 = x7 at hw7
        generalize hx15 : (sched (bys s) k).getD (k - 15) 0 = x15 at hw15
        generalize hx16 : (sched (bys s) k).getD (k - 16) 0 = x16 at hw16
        have HX2 := Aside0.mk hx2
        have HX7 := Aside0.mk hx7
        have HX15 := Aside0.mk hx15
        have HX16 := Aside0.mk hx16
        clear hx2 hx7 hx15 hx16
        have b2 : x2 < 4294967296 := by rw [← HX2.out]; exact HBL.out _ _
        have b15 : x15 < 4294967296 := by rw [← HX15.out]; exact HBL.out _ _
        go_wp2
        go_quiet (fail)
        go_wp2
        refine wp_still_tail 29 (by kernel_rfl) (by kernel_rfl) ?_
        intro W hW
        have g2 : W.cell? ⟨w.heap.size + 1 + 1, k - 2, none⟩ = some (.int .u32 (x2 : Int)) := by rw [hW]; go_simp
        have g7 : W.cell? ⟨w.heap.size + 1 + 1, k - 7, none⟩ = some (.int .u32 (x7 : Int)) := by rw [hW]; go_simp
        have g15 : W.cell? ⟨w.heap.size + 1 + 1, k - 15, none⟩ = some (.int .u32 (x15 : Int)) := by rw [hW]; go_simp
        have g16 : W.cell? ⟨w.heap.size + 1 + 1, k - 16, none⟩ = some (.int .u32 (x16 : Int)) := by rw [hW]; go_simp
        have g0 : W.cell? ⟨w.heap.size + 1 + 1, k, none⟩ = some (.int .u32 (v0 : Int)) := by rw [hW]; go_simp
        have gf : W.frozen? ⟨w.heap.size + 1 + 1, k, none⟩ = false := by rw [hW]; go_simp
        have HW := Aside0.mk hW
        have i16 : IntKind.i64.wrap (↑k - 16) = ↑k - 16 := IntWalk.i64_in _ (by omega)
        have i7 : IntKind.i64.wrap (↑k - 7) = ↑k - 7 := IntWalk.i64_in _ (by omega)
        have n16 : ((k : Int) - 16).toNat = k - 16 := by omega
        have n7 : ((k : Int) - 7).toNat = k - 7 := by omega
        have p16 : 16 ≤ (k : Int) := by omega
        have p7 : 7 ≤ (k : Int) := by omega
        have q16 : (k : Int) - 16 < 64 := by omega
        have q7 : (k : Int) - 7 < 64 := by omega
        clear hw hw2 hw7 hw15 hw16 hW
        simp only [List.take_succ_cons, List.take_zero, List.drop_succ_cons, List.drop_zero]
        repeat still_step
        still_call (right_7 x15 _ b15)
        repeat still_step
        still_call (right_18 x15 _ b15)
        repeat still_step
        still_call (right_17 x2 _ b2)
        repeat still_step
        still_call (right_19 x2 _ b2)
        repeat still_step
        refine wpStill_nil ?_
        go_wp2
        go_light
        refine ⟨⟨k + 1, n + nq + 1, by omega, by go_num, ?_⟩, by simp [intOf]; omega⟩
        have HV : (x16 + sg0 x15 + x7 + sg1 x2) % 4294967296 = wordAt (bys s) (sched (bys s) k) k := by
          unfold wordAt
          rw [if_neg h16, HX16.out, HX15.out, HX7.out, HX2.out]
        rw [sched_val _ _ _ _ b15 b2, HV, HW.out, World.drewN_drewN, set_last _ _ _ _ _ _ _ (by simp), wAt_next _ _ hlt]
    · have hk64 : k = 64 := by omega
      subst hk64
      clear hlt hk
      have hW64 : wAt (bys s) 64 = sched (bys s) 64 := by simp [wAt]
      rw [hW64]
      clear hW64
      have hLl := sched_length (bys s) 64
      generalize hL : sched (bys s) 64 = L at hLl
      have HL := Aside0.mk hL
      have HLl := Aside0.mk hLl
      clear hL hLl
      have hgc : gc < w.heap.size := blk_lt hc
      have hcc : ∀ i, w.cell? ⟨gc, i, none⟩ = (u32s shaK)[i]? := fun i => blk_cell hc i
      have HC := Aside0.mk hcc
      clear hc hcc
      go_wp2
      go_loopw [69] (fun i wr => ∃ (k m a' b' c' d' e' f' g' h' : Nat), k ≤ 64 ∧ i = .int .i64 k ∧ Aside0 (St.mk a' b' c' d' e' f' g' h' = rds (L) ⟨a, b, c, d, e, f, g, hh⟩ k) ∧ wr = ((((w.alloc (.cells #[.int .u32 a, .int .u32 b, .int .u32 c, .int .u32 d, .int .u32 e, .int .u32 f, .int .u32 g, .int .u32 hh] 126)).alloc (.cells (u32s [0,0,0,0,0,0,0,0]) 126)).alloc (.cells (u32s (L)) 123)).alloc (.cells #[.int .u32 a', .int .u32 b', .int .u32 c', .int .u32 d', .int .u32 e', .int .u32 f', .int .u32 g', .int .u32 h'] 126)).drewN m) (fun i _ => 64 - (intOf i).toNat)
      case atStart => exact ⟨0, n, a, b, c, d, e, f, g, hh, by omega, rfl, ⟨rfl⟩, rfl⟩
      case round =>
        obtain ⟨k, m, a', b', c', d', e', f', g', h', hk, rfl, HS, rfl⟩ := hrel
        by_cases hlt : k < 64
        · have hkk : w.cell? ⟨gc, k, none⟩ = some (.int .u32 (shaK.getD k 0 : Nat)) := by rw [HC.out, u32s_get _ _ (by rw [shaK_length]; exact hlt)]
          have hww : (u32s (L))[k]? = some (.int .u32 ((L).getD k 0 : Nat)) := u32s_get _ _ (by rw [HLl.out]; exact hlt)
          generalize hxk : shaK.getD k 0 = xk at hkk
          generalize hxw : (L).getD k 0 = xw at hww
          have HXK := Aside0.mk hxk
          have HXW := Aside0.mk hxw
          clear hxk hxw HC
          have g1 : gc < w.heap.size + 1 := by omega
          have g2 : gc < w.heap.size + 1 + 1 := by omega
          have g3 : gc < w.heap.size + 1 + 1 + 1 := by omega
          have hok' : (St.mk a' b' c' d' e' f' g' h').ok := by rw [HS.out]; exact rds_ok HOK.out _
          have la : a' < 4294967296 := hok'.1
          have le : e' < 4294967296 := hok'.2.2.2.2.1
          have HOK' := Aside0.mk hok'
          clear hok'
          go_wp2
          go_quiet (fail)
          revert nq
          intro p1
          go_wp2
          go_quiet ((first | (go_at_call 133; (with_reducible refine (right_6 e' _ le).mono ?_); rintro e w' ⟨rfl, rfl⟩; first | exact ⟨rfl, _, rfl⟩ | exact ⟨rfl, _, World.drewN_drewN _ _ _⟩) | (go_at_call 133; (with_reducible refine (right_11 e' _ le).mono ?_); rintro e w' ⟨rfl, rfl⟩; first | exact ⟨rfl, _, rfl⟩ | exact ⟨rfl, _, World.drewN_drewN _ _ _⟩) | (go_at_call 133; (with_reducible refine (right_25 e' _ le).mono ?_); rintro e w' ⟨rfl, rfl⟩; first | exact ⟨rfl, _, rfl⟩ | exact ⟨rfl, _, World.drewN_drewN _ _ _⟩)))
          revert nq
          intro p2
          go_wp2
          go_quiet ((first | (go_at_call 133; (with_reducible refine (right_2 a' _ la).mono ?_); rintro e w' ⟨rfl, rfl⟩; first | exact ⟨rfl, _, rfl⟩ | exact ⟨rfl, _, World.drewN_drewN _ _ _⟩) | (go_at_call 133; (with_reducible refine (right_13 a' _ la).mono ?_); rintro e w' ⟨rfl, rfl⟩; first | exact ⟨rfl, _, rfl⟩ | exact ⟨rfl, _, World.drewN_drewN _ _ _⟩) | (go_at_call 133; (with_reducible refine (right_22 a' _ la).mono ?_); rintro e w' ⟨rfl, rfl⟩; first | exact ⟨rfl, _, rfl⟩ | exact ⟨rfl, _, World.drewN_drewN _ _ _⟩)))
          revert nq
          intro p3
          go_wp2
          go_roundw
          case rel =>
            go_light
            repeat apply Exists.intro
            refine ⟨⟨k + 1, m + p1 + p2 + p3, (rnd ⟨a', b', c', d', e', f', g', h'⟩ xk xw).a, a', b', c', (rnd ⟨a', b', c', d', e', f', g', h'⟩ xk xw).e, e', f', g', by omega, ?_, ⟨?_⟩, ?_⟩, rfl⟩
            · go_num
            · rw [rds, ← HS.out, HXK.out, HXW.out]; rfl
            · rw [← rnd_a _ HOK'.out, ← rnd_e _ HOK'.out]
              exact set8 _ _ _ _ _ _ _ _ _ _ _ _ _ _ _ _ _ _ _ _ (by simp)
          case measure => simp [intOf]; omega
        · have hk64 : k = 64 := by omega
          subst hk64
          clear hlt
          go_wp2
          go_loopw [151] (fun i wr => ∃ (k m : Nat), k ≤ 8 ∧ i = .int .i64 k ∧ wr = ((((w.alloc (.cells (u32s (hAt [a, b, c, d, e, f, g, hh] [a', b', c', d', e', f', g', h'] k)) 126)).alloc (.cells (u32s [0,0,0,0,0,0,0,0]) 126)).alloc (.cells (u32s L) 123)).alloc (.cells (u32s [a', b', c', d', e', f', g', h']) 126)).drewN m) (fun i _ => 8 - (intOf i).toNat)
          case atStart => exact ⟨0, m, by omega, rfl, rfl⟩
          case round =>
            obtain ⟨k, m2, hk, rfl, rfl⟩ := hrel
            by_cases hlt : k < 8
            · have hx := hAt_get [a, b, c, d, e, f, g, hh] [a', b', c', d', e', f', g', h'] k hlt
              have hy : (u32s [a', b', c', d', e', f', g', h'])[k]? = some (.int .u32 (([a', b', c', d', e', f', g', h'] : List Nat).getD k 0 : Nat)) := u32s_get _ _ (by simpa using hlt)
              generalize hxv : ([a, b, c, d, e, f, g, hh] : List Nat).getD k 0 = x at hx
              generalize hyv : ([a', b', c', d', e', f', g', h'] : List Nat).getD k 0 = y at hy
              have HX := Aside0.mk hxv
              have HY := Aside0.mk hyv
              clear hxv hyv
              go_wp2
              refine wp_still_tail 8 (by kernel_rfl) (by kernel_rfl) ?_
              intro W hW
              have g1 : W.cell? ⟨w.heap.size, k, none⟩ = some (.int .u32 (x : Int)) := by rw [hW]; go_simp
              have g2 : W.cell? ⟨w.heap.size + 1 + 1 + 1, k, none⟩ = some (.int .u32 (y : Int)) := by rw [hW]; go_simp
              have gf : W.frozen? ⟨w.heap.size, k, none⟩ = false := by rw [hW]; go_simp
              have HW := Aside0.mk hW
              clear hW hx hy
              simp only [List.take_succ_cons, List.take_zero, List.drop_succ_cons, List.drop_zero]
              repeat still_step
              refine wpStill_nil ?_
              go_wp2
              go_roundw
              case rel =>
                go_light
                repeat apply Exists.intro
                refine ⟨⟨k + 1, m2 + 1, by omega, ?_, ?_⟩, rfl⟩
                · go_num
                · rw [show (((x : Int) + (y : Int)) % 4294967296) = (((x + y) % 4294967296 : Nat) : Int) by omega, HW.out, set_first, ← HX.out, ← HY.out, hAt_set _ _ _ hlt]
              case measure => simp [intOf]; omega
            · have hk8 : k = 8 := by omega
              subst hk8
              clear hlt
              have e1 : u32s (hAt [a, b, c, d, e, f, g, hh] [a', b', c', d', e', f', g', h'] 8) = #[.int .u32 (((St.mk a b c d e f g hh).add ⟨a', b', c', d', e', f', g', h'⟩).a : Int), .int .u32 (((St.mk a b c d e f g hh).add ⟨a', b', c', d', e', f', g', h'⟩).b : Int), .int .u32 (((St.mk a b c d e f g hh).add ⟨a', b', c', d', e', f', g', h'⟩).c : Int), .int .u32 (((St.mk a b c d e f g hh).add ⟨a', b', c', d', e', f', g', h'⟩).d : Int), .int .u32 (((St.mk a b c d e f g hh).add ⟨a', b', c', d', e', f', g', h'⟩).e : Int), .int .u32 (((St.mk a b c d e f g hh).add ⟨a', b', c', d', e', f', g', h'⟩).f : Int), .int .u32 (((St.mk a b c d e f g hh).add ⟨a', b', c', d', e', f', g', h'⟩).g : Int), .int .u32 (((St.mk a b c d e f g hh).add ⟨a', b', c', d', e', f', g', h'⟩).h : Int)] := rfl
              rw [e1]
              have e2 : (St.mk a b c d e f g hh).add ⟨a', b', c', d', e', f', g', h'⟩ = stp ⟨a, b, c, d, e, f, g, hh⟩ (bys s) := by rw [stp, HL.out, ← HS.out]
              generalize (St.mk a b c d e f g hh).add ⟨a', b', c', d', e', f', g', h'⟩ = s' at *
              have E2 := Aside0.mk e2
              clear e1 e2
              have e3 : u32s [0, 0, 0, 0, 0, 0, 0, 0] = #[.int .u32 0, .int .u32 0, .int .u32 0, .int .u32 0, .int .u32 0, .int .u32 0, .int .u32 0, .int .u32 0] := rfl
              rw [e3]
              clear e3
              go_wp2
              refine bodyPost_ret (v := .agg #[.int .u32 (s'.a : Int), .int .u32 (s'.b : Int), .int .u32 (s'.c : Int), .int .u32 (s'.d : Int), .int .u32 (s'.e : Int), .int .u32 (s'.f : Int), .int .u32 (s'.g : Int), .int .u32 (s'.h : Int)]) (by simp [results, Try.results126, go_sem]) rfl ⟨⟨s', E2.out, rfl⟩, ?_⟩
              iterate 8 (refine Below.setCell ?_ (show w.heap.size ≤ w.heap.size + 1 by omega) _)
              exact pw_below_drewN (below_alloc (below_alloc (below_alloc (below_alloc (Below.refl _ _) _) _) _) _) _
end Go.Proofs.Ytmablneefndedaa.Pr

namespace Go.Proofs.Ytmablneefndedaa.Pr
open Go.RowKit Go.Deep Go.Proofs.YtmablneefndedaaW.PrintWords
set_option maxHeartbeats 2000000
set_option linter.unusedVariables false
set_option linter.unusedSimpArgs false
theorem u32s_one (l : List Nat) : (u32s l).all (·.oneCell') = true := by
  simp [u32s, Value.oneCell']
set_option maxRecDepth 100000 in
theorem constants.calls (w : World) : Calls Try.prog 124 #[] w fun e w' => e = .returned (.agg (u32s shaK)) ∧ Below w.heap.size w w' := by
  have hinf : (Try.prog.info? 123).map (·.size) = some 64 := by kernel_rfl
  go_enter Try.func124, Try.ntmps124
  go_wp2_with (refine wpList_store_row rfl 123 (.tmp 0) (.tmp 1) rfl _ (u32s shaK) rfl rfl 123 _ (heap_alloc_last _ _) hinf (by rfl) (u32s_one _) ?_; rw [World.setRow_alloc_new])
  exact bodyPost_ret (results_cell_row Try.results124 _ _ w.heap.size 123 (u32s shaK) (0, 0) _ rfl (heap_alloc_last _ _) Try.underlying123 rfl hinf) rfl ⟨rfl, (Below.refl _ _).alloc (Nat.le_refl _) _⟩
/-- The state's words, as far as they are read. -/
def bAt (l : List Nat) (k : Nat) : List Nat := (List.range 8).map fun i => if i < k then be4 l (4 * i) else 0
theorem bAt_get (l : List Nat) (k : Nat) (hk : k < 8) : (u32s (bAt l k))[k]? = some (.int .u32 0) := by
  rw [u32s_get _ _ (by simp [bAt]; omega)]
  simp [bAt, hk]
theorem bAt_set (l : List Nat) (k : Nat) (hk : k < 8) : (bAt l k).set k (be4 l (4 * k)) = bAt l (k + 1) := by
  apply List.ext_getElem
  · simp [bAt]
  · intro i h1 h2
    rw [List.getElem_set]
    simp only [bAt, List.getElem_map, List.getElem_range]
    by_cases e : k = i
    · subst e; simp
    · rw [if_neg e]
      by_cases h : i < k
      · rw [if_pos h, if_pos (by omega)]
      · rw [if_neg h, if_neg (by omega)]
theorem be4_lt (l : List Nat) (hb : ∀ i, l.getD i 0 < 256) (i : Nat) : be4 l i < 4294967296 := by
  unfold be4
  have := hb i
  have := hb (i + 1)
  have := hb (i + 2)
  have := hb (i + 3)
  omega
theorem stOf_ok (s : ByteArray) : (stOf (bys s)).ok :=
  ⟨be4_lt _ (bys_lt s) _, be4_lt _ (bys_lt s) _, be4_lt _ (bys_lt s) _, be4_lt _ (bys_lt s) _, be4_lt _ (bys_lt s) _, be4_lt _ (bys_lt s) _, be4_lt _ (bys_lt s) _, be4_lt _ (bys_lt s) _⟩
theorem cell_row8 {w : World} {g : Nat} {t : TypeId} {x0 x1 x2 x3 x4 x5 x6 x7 : Value} (h : w.heap[g]? = some (.cells #[x0, x1, x2, x3, x4, x5, x6, x7] t (0, 0))) :
    w.cell? ⟨g, 0, none⟩ = some x0 ∧ w.cell? ⟨g, 1, none⟩ = some x1 ∧ w.cell? ⟨g, 2, none⟩ = some x2 ∧ w.cell? ⟨g, 3, none⟩ = some x3 ∧ w.cell? ⟨g, 4, none⟩ = some x4 ∧ w.cell? ⟨g, 5, none⟩ = some x5 ∧ w.cell? ⟨g, 6, none⟩ = some x6 ∧ w.cell? ⟨g, 7, none⟩ = some x7 := by
  have h' := fun i => blk_cell h i
  exact ⟨(h' 0).trans rfl, (h' 1).trans rfl, (h' 2).trans rfl, (h' 3).trans rfl, (h' 4).trans rfl, (h' 5).trans rfl, (h' 6).trans rfl, (h' 7).trans rfl⟩
def sha_Block.f (a0 a1 : ByteArray) : Option (ByteArray × Int) :=
  if a0.size = 32 ∧ a1.size = 64 then some (txt (stp (stOf (bys a0)) (bys a1)).bytes, 0) else some (⟨#[]⟩, 1)
end Go.Proofs.Ytmablneefndedaa.Pr

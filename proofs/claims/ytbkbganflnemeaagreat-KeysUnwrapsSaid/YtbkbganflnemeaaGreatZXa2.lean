/- Joined texts (pack.py): what the statement's proof needs, part a2. No condition. -/
import Derived.Below
import Derived.Deep.Draws
import Derived.Deep.AppendLies
import Derived.Maps.AppendAt
import Derived.OwnWalk
import Derived.Laws.BytesArg
import Derived.Laws.MakeOwn
import Derived.Laws.OwnMore
import Derived.Deep.OwnRows
import Derived.Tactics
import Derived.Lib.ConvBytes
import Derived.Laws.Slices
import Derived.WalkKit
import Derived.KernelRfl
import Derived.RowKit3
import Derived.Deep.LoopGhost
import Derived.Deep.QuietTactic
import Derived.BigQuiet
import Derived.WideLaws
import Derived.Deep.DeepCutAuto
import Derived.Deep.CutBlock
import Derived.Deep.RegionHeld3
import Derived.Laws.Rows
import Derived.Lib.AppendStr
import Derived.ArgAppend
import Derived.Laws.IdiomCopy
import Derived.RowKit
import Derived.OrdersHeld
import Derived.Laws.BitsLemmas
import Derived.Laws.StructEq
import Derived.Test.YtbkbganflnemeaaGreatRows
import Derived.ProofKit
import Derived.OpenShut
import Derived.ShutString
import Derived.ChangeOld
import Derived.Shelf.Strings.Builder1
import Derived.Shelf.Strings.Builder2
import Derived.Shelf.Strings.OnBuilder
import Derived.Shelf.Strings.BuilderF
import Derived.Shelf.Strings.Prefix
import Derived.Shelf.Bits.Mul64
import Derived.Shelf.Strings.Repeat
import Derived.Test.YtbkbganflnemeaaGreatProg
import Derived.Deep.RegionLaw
import Derived.StillTailTactics
import Derived.Deep.Light
import Derived.Deep.RegionHeldLaw
import Derived.Deep.DrawnRows
import Derived.IntWalk
import Derived.Deep.WholeRow
import Derived.Laws.CopyOwn
import Derived.SizedLaws
import Derived.Test.YtbkbganflnemeaaGreatZXa1
set_option linter.unusedVariables false
set_option linter.unusedSimpArgs false
section
namespace Go.Proofs.YtbkbganflnemeaaGreat.Pr
open Go.RowKit Go.Proofs.YtbkbganflnemeaaGreatW.PrintWords
set_option maxHeartbeats 400000
theorem bt_nat (s : ByteArray) (i : Nat) (h : i < s.size) : bt s (i : Int) = ((bys s).getD i 0 : Nat) := by
 unfold bt
 rw [dif_pos (by simpa using h)]
 have hl : i < s.data.toList.length := by rw [data_length]; exact h
 simp only [bys, List.getD_eq_getElem?_getD, List.getElem?_map, List.getElem?_eq_getElem hl, Option.map_some, Option.getD_some]
 rfl
theorem bys_lt (s : ByteArray) (i : Nat) : (bys s).getD i 0 < 256 := by
 rw [List.getD_eq_getElem?_getD]
 unfold bys
 rw [List.getElem?_map]
 cases h : s.data.toList[i]? with
 | none => simp
 | some x => simpa using x.toNat_lt
theorem or_be4 (x y z v : Nat) (hx : x < 256) (hy : y < 256) (hz : z < 256) (hv : v < 256) : bits .or .u32 (bits .or .u32 (bits .or .u32 ((((x : Int) % 4294967296) * 16777216) % 4294967296) ((((y : Int) % 4294967296) * 65536) % 4294967296)) ((((z : Int) % 4294967296) * 256) % 4294967296)) ((v : Int) % 4294967296) = ((x * 16777216 + y * 65536 + z * 256 + v : Nat) : Int) := by
 rw [show ((((x : Int) % 4294967296) * 16777216) % 4294967296) = ((x * 16777216 : Nat) : Int) by omega, show ((((y : Int) % 4294967296) * 65536) % 4294967296) = ((y * 65536 : Nat) : Int) by omega,
  show ((((z : Int) % 4294967296) * 256) % 4294967296) = ((z * 256 : Nat) : Int) by omega, show ((v : Int) % 4294967296) = (v : Int) by omega]
 have h1 : x * 16777216 ||| y * 65536 = x * 16777216 + y * 65536 := by
  have := Nat.two_pow_add_eq_or_of_lt (i := 24) (b := y * 65536) (by omega) x
  rw [Nat.mul_comm x]; exact this.symm
 have h2 : (x * 16777216 + y * 65536) ||| z * 256 = x * 16777216 + y * 65536 + z * 256 := by
  have := Nat.two_pow_add_eq_or_of_lt (i := 16) (b := z * 256) (by omega) (x * 256 + y)
  rw [show x * 16777216 + y * 65536 = 2 ^ 16 * (x * 256 + y) by omega]; exact this.symm
 have h3 : (x * 16777216 + y * 65536 + z * 256) ||| v = x * 16777216 + y * 65536 + z * 256 + v := by
  have := Nat.two_pow_add_eq_or_of_lt (i := 8) (b := v) (by omega) (x * 65536 + y * 256 + z)
  rw [show x * 16777216 + y * 65536 + z * 256 = 2 ^ 8 * (x * 65536 + y * 256 + z) by omega]; exact this.symm
 rw [or32 _ _ (by omega) (by omega), h1, or32 _ _ (by omega) (by omega), h2, or32 _ _ (by omega) (by omega), h3]
theorem sha_big_f (s : ByteArray) (hs : 4 ≤ s.size) : sha_big.f s = some (be4 (bys s) 0 : Nat) := by
 unfold sha_big.f
 rw [if_pos (by omega), if_pos (by omega), if_pos (by omega), if_pos (by omega)]
 have h0 := bt_nat s 0 (by omega)
 have h1 := bt_nat s 1 (by omega)
 have h2 := bt_nat s 2 (by omega)
 have h3 := bt_nat s 3 (by omega)
 rw [show bt s 0 = ((bys s).getD 0 0 : Nat) from h0, show bt s 1 = ((bys s).getD 1 0 : Nat) from h1, show bt s 2 = ((bys s).getD 2 0 : Nat) from h2, show bt s 3 = ((bys s).getD 3 0 : Nat) from h3,
  or_be4 _ _ _ _ (bys_lt s 0) (bys_lt s 1) (bys_lt s 2) (bys_lt s 3)]
 rfl
theorem big_calls (s : ByteArray) (w : World) (hs : 4 ≤ s.size) : Calls Tryz.prog 194 #[.string s] w fun e w' => e = .returned (.int .u32 (be4 (bys s) 0 : Nat)) ∧ ∃ n, w' = w.drewN n :=
 (sha_big.calls s _ w (sha_big_f s hs)).mono fun _ _ h => ⟨h.1, h.2.out⟩
theorem be4_drop (l : List Nat) (i n : Nat) (hn : 4 ≤ n) : be4 ((l.drop i).take n) 0 = be4 l i := by
 unfold be4
 simp only [List.getD_eq_getElem?_getD, List.getElem?_take, List.getElem?_drop, Nat.zero_add, Nat.add_zero]
 rw [if_pos (by omega), if_pos (by omega), if_pos (by omega), if_pos (by omega)]
theorem not32 (e : Nat) (he : e < 4294967296) : bits .xor .u32 IntKind.u32.max (e : Int) = ((4294967295 - e : Nat) : Int) := by
 rw [show IntKind.u32.max = ((4294967295 : Nat) : Int) from rfl, xor32 _ _ (by decide) he]
 congr 1
 apply Nat.eq_of_testBit_eq
 intro i
 have h := Nat.testBit_two_pow_sub_succ (x := e) (n := 32) (by simpa using he) i
 rw [show (4294967295 - e : Nat) = 2 ^ 32 - (e + 1) by omega, h, Nat.testBit_xor, show (4294967295 : Nat) = 2 ^ 32 - 1 from rfl, Nat.testBit_two_pow_sub_one]
 by_cases hi : i < 32
 ·simp [hi]
 ·have : e.testBit i = false := Nat.testBit_lt_two_pow (Nat.lt_of_lt_of_le he (by rw [show (4294967296 : Nat) = 2 ^ 32 from rfl]; exact Nat.pow_le_pow_right (by decide) (by omega)))
  simp [hi, this]
theorem xor_lt32 {a b : Nat} (ha : a < 4294967296) (hb : b < 4294967296) : a ^^^ b < 4294967296 := Nat.xor_lt_two_pow (n := 32) ha hb
theorem and_lt32 {a b : Nat} (hb : b < 4294967296) : a &&& b < 4294967296 := Nat.and_lt_two_pow (n := 32) a hb
theorem bs1_int (e : Nat) (he : e < 4294967296) : bits .xor .u32 (bits .xor .u32 ((rotr e 6 : Nat) : Int) ((rotr e 11 : Nat) : Int)) ((rotr e 25 : Nat) : Int) = ((bs1 e : Nat) : Int) := by
 rw [xor32 _ _ (rotr_lt e 6 he) (rotr_lt e 11 he), xor32 _ _ (xor_lt32 (rotr_lt e 6 he) (rotr_lt e 11 he)) (rotr_lt e 25 he)]
 rfl
theorem bs0_int (e : Nat) (he : e < 4294967296) : bits .xor .u32 (bits .xor .u32 ((rotr e 2 : Nat) : Int) ((rotr e 13 : Nat) : Int)) ((rotr e 22 : Nat) : Int) = ((bs0 e : Nat) : Int) := by
 rw [xor32 _ _ (rotr_lt e 2 he) (rotr_lt e 13 he), xor32 _ _ (xor_lt32 (rotr_lt e 2 he) (rotr_lt e 13 he)) (rotr_lt e 22 he)]
 rfl
theorem sg0_int (x : Nat) (hx : x < 4294967296) : bits .xor .u32 (bits .xor .u32 ((rotr x 7 : Nat) : Int) ((rotr x 18 : Nat) : Int)) ((x : Int) / 8) = ((sg0 x : Nat) : Int) := by
 rw [show ((x : Int) / 8) = ((x / 8 : Nat) : Int) by simp, xor32 _ _ (rotr_lt x 7 hx) (rotr_lt x 18 hx), xor32 _ _ (xor_lt32 (rotr_lt x 7 hx) (rotr_lt x 18 hx)) (by omega)]
 unfold sg0
 rw [Nat.shiftRight_eq_div_pow]
theorem sg1_int (x : Nat) (hx : x < 4294967296) : bits .xor .u32 (bits .xor .u32 ((rotr x 17 : Nat) : Int) ((rotr x 19 : Nat) : Int)) ((x : Int) / 1024) = ((sg1 x : Nat) : Int) := by
 rw [show ((x : Int) / 1024) = ((x / 1024 : Nat) : Int) by simp, xor32 _ _ (rotr_lt x 17 hx) (rotr_lt x 19 hx), xor32 _ _ (xor_lt32 (rotr_lt x 17 hx) (rotr_lt x 19 hx)) (by omega)]
 unfold sg1
 rw [Nat.shiftRight_eq_div_pow]
theorem chs_int (e f g : Nat) (he : e < 4294967296) (hf : f < 4294967296) (hg : g < 4294967296) :
  bits .xor .u32 (bits .and .u32 (e : Int) (f : Int)) (bits .and .u32 (bits .xor .u32 IntKind.u32.max (e : Int)) (g : Int)) = ((chs e f g : Nat) : Int) := by
 rw [not32 e he, and32 _ _ he hf, and32 _ _ (by omega) hg, xor32 _ _ (and_lt32 hf) (and_lt32 hg)]
 rfl
theorem maj_int (a b c : Nat) (ha : a < 4294967296) (hb : b < 4294967296) (hc : c < 4294967296) :
  bits .xor .u32 (bits .xor .u32 (bits .and .u32 (a : Int) (b : Int)) (bits .and .u32 (a : Int) (c : Int))) (bits .and .u32 (b : Int) (c : Int)) = ((maj a b c : Nat) : Int) := by
 rw [and32 _ _ ha hb, and32 _ _ ha hc, and32 _ _ hb hc, xor32 _ _ (and_lt32 hb) (and_lt32 hc), xor32 _ _ (xor_lt32 (and_lt32 hb) (and_lt32 hc)) (and_lt32 hc)]
 rfl
theorem rnd_a (s : St) (hs : s.ok) (k w : Nat) : (((s.h : Int) + bits .xor .u32 (bits .xor .u32 ((rotr s.e 6 : Nat) : Int) ((rotr s.e 11 : Nat) : Int)) ((rotr s.e 25 : Nat) : Int) + bits .xor .u32 (bits .and .u32 (s.e : Int) (s.f : Int)) (bits .and .u32 (bits .xor .u32 IntKind.u32.max (s.e : Int)) (s.g : Int)) + (k : Int) + (w : Int) +
   (bits .xor .u32 (bits .xor .u32 ((rotr s.a 2 : Nat) : Int) ((rotr s.a 13 : Nat) : Int)) ((rotr s.a 22 : Nat) : Int) + bits .xor .u32 (bits .xor .u32 (bits .and .u32 (s.a : Int) (s.b : Int)) (bits .and .u32 (s.a : Int) (s.c : Int))) (bits .and .u32 (s.b : Int) (s.c : Int)))) % 4294967296) = (((rnd s k w).a : Nat) : Int) := by
 obtain ⟨h1, h2, h3, h4, h5, h6, h7, h8⟩ := hs
 rw [bs1_int _ h5, chs_int _ _ _ h5 h6 h7, bs0_int _ h1, maj_int _ _ _ h1 h2 h3]
 simp only [rnd, t1, t2]
 omega
theorem rnd_e (s : St) (hs : s.ok) (k w : Nat) : (((s.d : Int) + ((s.h : Int) + bits .xor .u32 (bits .xor .u32 ((rotr s.e 6 : Nat) : Int) ((rotr s.e 11 : Nat) : Int)) ((rotr s.e 25 : Nat) : Int) + bits .xor .u32 (bits .and .u32 (s.e : Int) (s.f : Int)) (bits .and .u32 (bits .xor .u32 IntKind.u32.max (s.e : Int)) (s.g : Int)) + (k : Int) + (w : Int))) % 4294967296) = (((rnd s k w).e : Nat) : Int) := by
 obtain ⟨h1, h2, h3, h4, h5, h6, h7, h8⟩ := hs
 rw [bs1_int _ h5, chs_int _ _ _ h5 h6 h7]
 simp only [rnd, t1]
 omega
theorem sched_val (x16 x15 x7 x2 : Nat) (h15 : x15 < 4294967296) (h2 : x2 < 4294967296) : (((x16 : Int) + bits .xor .u32 (bits .xor .u32 ((rotr x15 7 : Nat) : Int) ((rotr x15 18 : Nat) : Int)) ((x15 : Int) / 8) + (x7 : Int) + bits .xor .u32 (bits .xor .u32 ((rotr x2 17 : Nat) : Int) ((rotr x2 19 : Nat) : Int)) ((x2 : Int) / 1024)) % 4294967296) = (((x16 + sg0 x15 + x7 + sg1 x2) % 4294967296 : Nat) : Int) := by
 rw [sg0_int _ h15, sg1_int _ h2]
 omega
theorem set8 (V : World) (t : TypeId) (N g : Nat) (x0 x1 x2 x3 x4 x5 x6 x7 y0 y1 y2 y3 y4 y5 y6 y7 : Value) (hg : g = V.heap.size) :
    (((((((((V.alloc (.cells #[x0, x1, x2, x3, x4, x5, x6, x7] t)).drewN N).setCell ⟨g, 0, none⟩ y0).setCell ⟨g, 1, none⟩ y1).setCell ⟨g, 2, none⟩ y2).setCell ⟨g, 3, none⟩ y3).setCell ⟨g, 4, none⟩ y4).setCell ⟨g, 5, none⟩ y5).setCell ⟨g, 6, none⟩ y6).setCell ⟨g, 7, none⟩ y7 =
      (V.alloc (.cells #[y0, y1, y2, y3, y4, y5, y6, y7] t)).drewN N := by
  have h : ∀ (W : World) i v, (W.drewN N).setCell ⟨g, i, none⟩ v = (W.setCell ⟨g, i, none⟩ v).drewN N := fun _ _ _ => rfl
  have e : ∀ c i v, (V.alloc (.cells c t)).setCell ⟨g, i, none⟩ v = V.alloc (.cells (c.setIfInBounds i v) t) := fun c i v => World.setCell_alloc_at c t g i v hg
  simp only [h, e]
  exact congrArg (fun c => (V.alloc (.cells c t)).drewN N) (by simp)
theorem set_last (V : World) (t : TypeId) (N g i : Nat) (l : List Nat) (v : Nat) (hg : g = V.heap.size) : (((V.alloc (.cells (u32s l) t)).drewN N).drew).setCell ⟨g, i, none⟩ (.int .u32 (v : Int)) = (V.alloc (.cells (u32s (l.set i v)) t)).drewN (N + 1) := by
 have h : (((V.alloc (.cells (u32s l) t)).drewN N).drew).setCell ⟨g, i, none⟩ (.int .u32 (v : Int)) = ((V.alloc (.cells (u32s l) t)).setCell ⟨g, i, none⟩ (.int .u32 (v : Int))).drewN (N + 1) := rfl
 rw [h, World.setCell_alloc_at _ _ _ _ _ hg, u32s_set]
theorem setN_last (V : World) (t : TypeId) (N g i : Nat) (l : List Nat) (v : Nat) (hg : g = V.heap.size) : ((V.alloc (.cells (u32s l) t)).drewN N).setCell ⟨g, i, none⟩ (.int .u32 (v : Int)) = (V.alloc (.cells (u32s (l.set i v)) t)).drewN N := by
 have h : ((V.alloc (.cells (u32s l) t)).drewN N).setCell ⟨g, i, none⟩ (.int .u32 (v : Int)) = ((V.alloc (.cells (u32s l) t)).setCell ⟨g, i, none⟩ (.int .u32 (v : Int))).drewN N := rfl
 rw [h, World.setCell_alloc_at _ _ _ _ _ hg, u32s_set]
theorem set_first (w : World) (t : TypeId) (N i : Nat) (l : List Nat) (v : Nat) (B C D : Obj) : (((((w.alloc (.cells (u32s l) t)).alloc B).alloc C).alloc D).drewN N).drew.setCell ⟨w.heap.size, i, none⟩ (.int .u32 (v : Int)) = ((((w.alloc (.cells (u32s (l.set i v)) t)).alloc B).alloc C).alloc D).drewN (N + 1) := by
 have h : (((((w.alloc (.cells (u32s l) t)).alloc B).alloc C).alloc D).drewN N).drew.setCell ⟨w.heap.size, i, none⟩ (.int .u32 (v : Int)) = (((((w.alloc (.cells (u32s l) t)).alloc B).alloc C).alloc D).setCell ⟨w.heap.size, i, none⟩ (.int .u32 (v : Int))).drewN (N + 1) := rfl
 rw [h, World.setCell_alloc_past _ _ _ _ (by simp; omega), World.setCell_alloc_past _ _ _ _ (by simp; omega), World.setCell_alloc_past _ _ _ _ (by simp), World.setCell_alloc_at _ _ _ _ _ rfl, u32s_set]
def hAt (s v : List Nat) (k : Nat) : List Nat := (List.range 8).map fun i => if i < k then (s.getD i 0 + v.getD i 0) % 4294967296 else s.getD i 0
theorem hAt_get (s v : List Nat) (k : Nat) (hk : k < 8) : (u32s (hAt s v k))[k]? = some (.int .u32 (s.getD k 0 : Nat)) := by
 rw [u32s_get _ _ (by simp [hAt]; omega)]
 simp [hAt, hk]
theorem hAt_set (s v : List Nat) (k : Nat) (hk : k < 8) : (hAt s v k).set k ((s.getD k 0 + v.getD k 0) % 4294967296) = hAt s v (k + 1) := by
 apply List.ext_getElem
 ·simp [hAt]
 ·intro i h1 h2
  rw [List.getElem_set]
  simp only [hAt, List.getElem_map, List.getElem_range]
  by_cases e : k = i
  ·subst e; simp
  ·rw [if_neg e]
   by_cases h : i < k
   ·rw [if_pos h, if_pos (by omega)]
   ·rw [if_neg h, if_neg (by omega)]
theorem sched_lt (b : List Nat) (hb : ∀ i, b.getD i 0 < 256) : ∀ k i, (sched b k).getD i 0 < 4294967296
  | 0, i => by simp [sched]
  | k + 1, i => by
    rw [sched, List.getD_eq_getElem?_getD]
    by_cases h : i < k
    · rw [List.getElem?_append_left (by rw [sched_length]; exact h), ← List.getD_eq_getElem?_getD]
      exact sched_lt b hb k i
    · rw [List.getElem?_append_right (by rw [sched_length]; omega), sched_length]
      rcases Nat.eq_zero_or_pos (i - k) with h0 | h0
      · rw [h0]
        simp only [List.getElem?_cons_zero, Option.getD_some, wordAt]
        split
        · unfold be4
          have := hb (4 * k)
          have := hb (4 * k + 1)
          have := hb (4 * k + 2)
          have := hb (4 * k + 3)
          omega
        · exact Nat.mod_lt _ (by decide)
      · rw [List.getElem?_eq_none (by simp; omega)]
        simp
def wAt (b : List Nat) (k : Nat) : List Nat := sched b k ++ List.replicate (64 - k) 0
theorem wAt_length (b : List Nat) (k : Nat) (hk : k ≤ 64) : (wAt b k).length = 64 := by
 unfold wAt; rw [List.length_append, sched_length, List.length_replicate]; omega
theorem wAt_get (b : List Nat) (k i : Nat) (hk : k ≤ 64) (hi : i < k) : (u32s (wAt b k))[i]? = some (.int .u32 ((sched b k).getD i 0 : Nat)) := by
 rw [u32s_get _ _ (by rw [wAt_length b k hk]; omega)]
 unfold wAt
 rw [List.getD_eq_getElem?_getD, List.getElem?_append_left (by rw [sched_length]; exact hi), ← List.getD_eq_getElem?_getD]
theorem wAt_next (b : List Nat) (k : Nat) (hk : k < 64) : (wAt b k).set k (wordAt b (sched b k) k) = wAt b (k + 1) := by
 unfold wAt
 rw [List.set_append_right _ _ (by rw [sched_length]; omega), sched_length, Nat.sub_self, show 64 - k = (64 - (k + 1)) + 1 by omega, List.replicate_succ, List.set_cons_zero]
 simp [sched]
theorem wp_still_tail {P : Program} {id : Nat} {Q : Exit → Act → World → Prop} {a : Act} {w : World} {l : List Oper} (n : Nat) (hm : P.follows .mixedOrders = true) (hB : Region.lexTailB .any l.toArray n = true)
  (h : ∀ W, W = w.drew → wpStill P l.toArray W (fun a' => wpList P l.toArray Q (l.drop n) a' W) (l.take n) a) : (Code.region id l.toArray true).wp P Q a w :=
 wp_region_still_tail n hm hB (h _ rfl)
set_option maxRecDepth 100000 in
set_option maxHeartbeats 8000000 in
theorem sums_step.calls (a b c d e f g hh gc : Nat) (s : ByteArray) (w : World) (hok : (St.mk a b c d e f g hh).ok) (hs : s.size = 64) (hc : w.heap[gc]? = some (.cells (u32s shaK) 212 (0, 0)))
  : Calls Tryz.prog 181 #[.agg #[.int .u32 a, .int .u32 b, .int .u32 c, .int .u32 d, .int .u32 e, .int .u32 f, .int .u32 g, .int .u32 hh], .pointer (some ⟨gc, 0, none⟩), .string s] w fun E w' => (∃ s' : St, s' = stp (St.mk a b c d e f g hh) (bys s) ∧ E = .returned (.agg #[.int .u32 (s'.a : Int), .int .u32 (s'.b : Int), .int .u32 (s'.c : Int), .int .u32 (s'.d : Int), .int .u32 (s'.e : Int), .int .u32 (s'.f : Int), .int .u32 (s'.g : Int), .int .u32 (s'.h : Int)])) ∧ Below w.heap.size w w' := by
 have hbl := sched_lt (bys s) (bys_lt s)
 have HBL := Aside0.mk hbl
 have HOK := Aside0.mk hok
 clear hbl hok
 go_enter Tryz.func181, Tryz.ntmps181
 go_wp2
 go_loopw [18] (fun i wr => ∃ (k n : Nat), k ≤ 64 ∧ i = .int .i64 k ∧ wr = (((w.alloc (.cells #[.int .u32 a, .int .u32 b, .int .u32 c, .int .u32 d, .int .u32 e, .int .u32 f, .int .u32 g, .int .u32 hh] 215)).alloc (.cells (u32s [0,0,0,0,0,0,0,0]) 215)).alloc (.cells (u32s (wAt (bys s) k)) 212)).drewN n) (fun i _ => 64 - (intOf i).toNat)
 case atStart => exact ⟨0, 0, by omega, rfl, rfl⟩
 case round =>
  obtain ⟨k, n, hk, rfl, rfl⟩ := hrel
  by_cases hlt : k < 64
  ·by_cases h16 : k < 16
   ·obtain ⟨v0, hw⟩ : ∃ v : Nat, (u32s (wAt (bys s) k))[k]? = some (.int .u32 (v : Int)) := ⟨_, u32s_get _ _ (by rw [wAt_length _ _ hk]; omega)⟩
    have hle : 4 * k + 4 ≤ s.size := by omega
    have hle2 : 4 * k ≤ 64 := by omega
    go_wp2_with (go_at_call 194; refine (big_calls _ _ ?_).mono ?_)
    ·have e1 : (s.extract (4 * k) 64).size = 64 - 4 * k := by simp [hs]
     omega
    ·rintro e1 w1 ⟨rfl, n1, rfl⟩
     have HB4 := Aside0.mk (show be4 (bys (s.extract (4 * k) 64)) 0 = wordAt (bys s) (sched (bys s) k) k by rw [bys_extract, be4_drop _ _ _ (by omega), wordAt, if_pos h16])
     generalize be4 (bys (s.extract (4 * k) 64)) 0 = xb at *
     go_wp2
     go_light
     refine ⟨⟨k + 1, n + n1, by omega, by go_num, ?_⟩, by simp [intOf]; omega⟩
     rw [setN_last _ _ _ _ _ _ _ (by simp), HB4.out, wAt_next _ _ hlt]
   ·obtain ⟨v0, hw⟩ : ∃ v : Nat, (u32s (wAt (bys s) k))[k]? = some (.int .u32 (v : Int)) := ⟨_, u32s_get _ _ (by rw [wAt_length _ _ hk]; omega)⟩
    have hw2 := wAt_get (bys s) k (k - 2) hk (by omega)
    have hw7 := wAt_get (bys s) k (k - 7) hk (by omega)
    have hw15 := wAt_get (bys s) k (k - 15) hk (by omega)
    have hw16 := wAt_get (bys s) k (k - 16) hk (by omega)
    generalize hx2 : (sched (bys s) k).getD (k - 2) 0 = x2 at hw2
    generalize hx7 : (sched (bys s) k).getD (k - 7) 0 = x7 at hw7
    generalize hx15 : (sched (bys s) k).getD (k - 15) 0 = x15 at hw15
    generalize hx16 : (sched (bys s) k).getD (k - 16) 0 = x16 at hw16
    have HX2 := Aside0.mk hx2
    have HX7 := Aside0.mk hx7
    have HX15 := Aside0.mk hx15
    have HX16 := Aside0.mk hx16
    clear hx2 hx7 hx15 hx16
    have b2 : x2 < 4294967296 := by rw [← HX2.out]; exact HBL.out _ _
    have b15 : x15 < 4294967296 := by rw [← HX15.out]; exact HBL.out _ _
    go_wp2
    go_quiet (fail)
    go_wp2
    refine wp_still_tail 29 (by kernel_rfl) (by kernel_rfl) ?_
    intro W hW
    have g2 : W.cell? ⟨w.heap.size + 1 + 1, k - 2, none⟩ = some (.int .u32 (x2 : Int)) := by rw [hW]; go_simp
    have g7 : W.cell? ⟨w.heap.size + 1 + 1, k - 7, none⟩ = some (.int .u32 (x7 : Int)) := by rw [hW]; go_simp
    have g15 : W.cell? ⟨w.heap.size + 1 + 1, k - 15, none⟩ = some (.int .u32 (x15 : Int)) := by rw [hW]; go_simp
    have g16 : W.cell? ⟨w.heap.size + 1 + 1, k - 16, none⟩ = some (.int .u32 (x16 : Int)) := by rw [hW]; go_simp
    have g0 : W.cell? ⟨w.heap.size + 1 + 1, k, none⟩ = some (.int .u32 (v0 : Int)) := by rw [hW]; go_simp
    have gf : W.frozen? ⟨w.heap.size + 1 + 1, k, none⟩ = false := by rw [hW]; go_simp
    have HW := Aside0.mk hW
    have i16 : IntKind.i64.wrap (↑k - 16) = ↑k - 16 := IntWalk.i64_in _ (by omega)
    have i7 : IntKind.i64.wrap (↑k - 7) = ↑k - 7 := IntWalk.i64_in _ (by omega)
    have n16 : ((k : Int) - 16).toNat = k - 16 := by omega
    have n7 : ((k : Int) - 7).toNat = k - 7 := by omega
    have p16 : 16 ≤ (k : Int) := by omega
    have p7 : 7 ≤ (k : Int) := by omega
    have q16 : (k : Int) - 16 < 64 := by omega
    have q7 : (k : Int) - 7 < 64 := by omega
    clear hw hw2 hw7 hw15 hw16 hW
    simp only [List.take_succ_cons, List.take_zero, List.drop_succ_cons, List.drop_zero]
    repeat still_step
    still_call (right_7 x15 _ b15)
    repeat still_step
    still_call (right_18 x15 _ b15)
    repeat still_step
    still_call (right_17 x2 _ b2)
    repeat still_step
    still_call (right_19 x2 _ b2)
    repeat still_step
    refine wpStill_nil ?_
    go_wp2
    go_light
    refine ⟨⟨k + 1, n + nq + 1, by omega, by go_num, ?_⟩, by simp [intOf]; omega⟩
    have HV : (x16 + sg0 x15 + x7 + sg1 x2) % 4294967296 = wordAt (bys s) (sched (bys s) k) k := by
     unfold wordAt
     rw [if_neg h16, HX16.out, HX15.out, HX7.out, HX2.out]
    rw [sched_val _ _ _ _ b15 b2, HV, HW.out, World.drewN_drewN, set_last _ _ _ _ _ _ _ (by simp), wAt_next _ _ hlt]
  ·have hk64 : k = 64 := by omega
   subst hk64
   clear hlt hk
   have hW64 : wAt (bys s) 64 = sched (bys s) 64 := by simp [wAt]
   rw [hW64]
   clear hW64
   have hLl := sched_length (bys s) 64
   generalize hL : sched (bys s) 64 = L at hLl
   have HL := Aside0.mk hL
   have HLl := Aside0.mk hLl
   clear hL hLl
   have hgc : gc < w.heap.size := blk_lt hc
   have hcc : ∀ i, w.cell? ⟨gc, i, none⟩ = (u32s shaK)[i]? := fun i => blk_cell hc i
   have HC := Aside0.mk hcc
   clear hc hcc
   go_wp2
   go_loopw [69] (fun i wr => ∃ (k m a' b' c' d' e' f' g' h' : Nat), k ≤ 64 ∧ i = .int .i64 k ∧ Aside0 (St.mk a' b' c' d' e' f' g' h' = rds (L) ⟨a, b, c, d, e, f, g, hh⟩ k) ∧ wr = ((((w.alloc (.cells #[.int .u32 a, .int .u32 b, .int .u32 c, .int .u32 d, .int .u32 e, .int .u32 f, .int .u32 g, .int .u32 hh] 215)).alloc (.cells (u32s [0,0,0,0,0,0,0,0]) 215)).alloc (.cells (u32s (L)) 212)).alloc (.cells #[.int .u32 a', .int .u32 b', .int .u32 c', .int .u32 d', .int .u32 e', .int .u32 f', .int .u32 g', .int .u32 h'] 215)).drewN m) (fun i _ => 64 - (intOf i).toNat)
   case atStart => exact ⟨0, n, a, b, c, d, e, f, g, hh, by omega, rfl, ⟨rfl⟩, rfl⟩
   case round =>
    obtain ⟨k, m, a', b', c', d', e', f', g', h', hk, rfl, HS, rfl⟩ := hrel
    by_cases hlt : k < 64
    ·have hkk : w.cell? ⟨gc, k, none⟩ = some (.int .u32 (shaK.getD k 0 : Nat)) := by rw [HC.out, u32s_get _ _ (by rw [shaK_length]; exact hlt)]
     have hww : (u32s (L))[k]? = some (.int .u32 ((L).getD k 0 : Nat)) := u32s_get _ _ (by rw [HLl.out]; exact hlt)
     generalize hxk : shaK.getD k 0 = xk at hkk
     generalize hxw : (L).getD k 0 = xw at hww
     have HXK := Aside0.mk hxk
     have HXW := Aside0.mk hxw
     clear hxk hxw HC
     have g1 : gc < w.heap.size + 1 := by omega
     have g2 : gc < w.heap.size + 1 + 1 := by omega
     have g3 : gc < w.heap.size + 1 + 1 + 1 := by omega
     have hok' : (St.mk a' b' c' d' e' f' g' h').ok := by rw [HS.out]; exact rds_ok HOK.out _
     have la : a' < 4294967296 := hok'.1
     have le : e' < 4294967296 := hok'.2.2.2.2.1
     have HOK' := Aside0.mk hok'
     clear hok'
     go_wp2
     go_quiet (fail)
     revert nq
     intro p1
     go_wp2
     go_quiet ((first | (go_at_call 195; (with_reducible refine (right_6 e' _ le).mono ?_); rintro e w' ⟨rfl, rfl⟩; first | exact ⟨rfl, _, rfl⟩ | exact ⟨rfl, _, World.drewN_drewN _ _ _⟩) | (go_at_call 195; (with_reducible refine (right_11 e' _ le).mono ?_); rintro e w' ⟨rfl, rfl⟩; first | exact ⟨rfl, _, rfl⟩ | exact ⟨rfl, _, World.drewN_drewN _ _ _⟩) | (go_at_call 195; (with_reducible refine (right_25 e' _ le).mono ?_); rintro e w' ⟨rfl, rfl⟩; first | exact ⟨rfl, _, rfl⟩ | exact ⟨rfl, _, World.drewN_drewN _ _ _⟩)))
     revert nq
     intro p2
     go_wp2
     go_quiet ((first | (go_at_call 195; (with_reducible refine (right_2 a' _ la).mono ?_); rintro e w' ⟨rfl, rfl⟩; first | exact ⟨rfl, _, rfl⟩ | exact ⟨rfl, _, World.drewN_drewN _ _ _⟩) | (go_at_call 195; (with_reducible refine (right_13 a' _ la).mono ?_); rintro e w' ⟨rfl, rfl⟩; first | exact ⟨rfl, _, rfl⟩ | exact ⟨rfl, _, World.drewN_drewN _ _ _⟩) | (go_at_call 195; (with_reducible refine (right_22 a' _ la).mono ?_); rintro e w' ⟨rfl, rfl⟩; first | exact ⟨rfl, _, rfl⟩ | exact ⟨rfl, _, World.drewN_drewN _ _ _⟩)))
     revert nq
     intro p3
     go_wp2
     go_roundw
     case rel =>
      go_light
      repeat apply Exists.intro
      refine ⟨⟨k + 1, m + p1 + p2 + p3, (rnd ⟨a', b', c', d', e', f', g', h'⟩ xk xw).a, a', b', c', (rnd ⟨a', b', c', d', e', f', g', h'⟩ xk xw).e, e', f', g', by omega, ?_, ⟨?_⟩, ?_⟩, rfl⟩
      ·go_num
      ·rw [rds, ← HS.out, HXK.out, HXW.out]; rfl
      ·rw [← rnd_a _ HOK'.out, ← rnd_e _ HOK'.out]
       exact set8 _ _ _ _ _ _ _ _ _ _ _ _ _ _ _ _ _ _ _ _ (by simp)
     case measure => simp [intOf]; omega
    ·have hk64 : k = 64 := by omega
     subst hk64
     clear hlt
     go_wp2
     go_loopw [151] (fun i wr => ∃ (k m : Nat), k ≤ 8 ∧ i = .int .i64 k ∧ wr = ((((w.alloc (.cells (u32s (hAt [a, b, c, d, e, f, g, hh] [a', b', c', d', e', f', g', h'] k)) 215)).alloc (.cells (u32s [0,0,0,0,0,0,0,0]) 215)).alloc (.cells (u32s L) 212)).alloc (.cells (u32s [a', b', c', d', e', f', g', h']) 215)).drewN m) (fun i _ => 8 - (intOf i).toNat)
     case atStart => exact ⟨0, m, by omega, rfl, rfl⟩
     case round =>
      obtain ⟨k, m2, hk, rfl, rfl⟩ := hrel
      by_cases hlt : k < 8
      ·have hx := hAt_get [a, b, c, d, e, f, g, hh] [a', b', c', d', e', f', g', h'] k hlt
       have hy : (u32s [a', b', c', d', e', f', g', h'])[k]? = some (.int .u32 (([a', b', c', d', e', f', g', h'] : List Nat).getD k 0 : Nat)) := u32s_get _ _ (by simpa using hlt)
       generalize hxv : ([a, b, c, d, e, f, g, hh] : List Nat).getD k 0 = x at hx
       generalize hyv : ([a', b', c', d', e', f', g', h'] : List Nat).getD k 0 = y at hy
       have HX := Aside0.mk hxv
       have HY := Aside0.mk hyv
       clear hxv hyv
       go_wp2
       refine wp_still_tail 8 (by kernel_rfl) (by kernel_rfl) ?_
       intro W hW
       have g1 : W.cell? ⟨w.heap.size, k, none⟩ = some (.int .u32 (x : Int)) := by rw [hW]; go_simp
       have g2 : W.cell? ⟨w.heap.size + 1 + 1 + 1, k, none⟩ = some (.int .u32 (y : Int)) := by rw [hW]; go_simp
       have gf : W.frozen? ⟨w.heap.size, k, none⟩ = false := by rw [hW]; go_simp
       have HW := Aside0.mk hW
       clear hW hx hy
       simp only [List.take_succ_cons, List.take_zero, List.drop_succ_cons, List.drop_zero]
       repeat still_step
       refine wpStill_nil ?_
       go_wp2
       go_roundw
       case rel =>
        go_light
        repeat apply Exists.intro
        refine ⟨⟨k + 1, m2 + 1, by omega, ?_, ?_⟩, rfl⟩
        ·go_num
        ·rw [show (((x : Int) + (y : Int)) % 4294967296) = (((x + y) % 4294967296 : Nat) : Int) by omega, HW.out, set_first, ← HX.out, ← HY.out, hAt_set _ _ _ hlt]
       case measure => simp [intOf]; omega
      ·have hk8 : k = 8 := by omega
       subst hk8
       clear hlt
       have e1 : u32s (hAt [a, b, c, d, e, f, g, hh] [a', b', c', d', e', f', g', h'] 8) = #[.int .u32 (((St.mk a b c d e f g hh).add ⟨a', b', c', d', e', f', g', h'⟩).a : Int), .int .u32 (((St.mk a b c d e f g hh).add ⟨a', b', c', d', e', f', g', h'⟩).b : Int), .int .u32 (((St.mk a b c d e f g hh).add ⟨a', b', c', d', e', f', g', h'⟩).c : Int), .int .u32 (((St.mk a b c d e f g hh).add ⟨a', b', c', d', e', f', g', h'⟩).d : Int), .int .u32 (((St.mk a b c d e f g hh).add ⟨a', b', c', d', e', f', g', h'⟩).e : Int), .int .u32 (((St.mk a b c d e f g hh).add ⟨a', b', c', d', e', f', g', h'⟩).f : Int), .int .u32 (((St.mk a b c d e f g hh).add ⟨a', b', c', d', e', f', g', h'⟩).g : Int), .int .u32 (((St.mk a b c d e f g hh).add ⟨a', b', c', d', e', f', g', h'⟩).h : Int)] := rfl
       rw [e1]
       have e2 : (St.mk a b c d e f g hh).add ⟨a', b', c', d', e', f', g', h'⟩ = stp ⟨a, b, c, d, e, f, g, hh⟩ (bys s) := by rw [stp, HL.out, ← HS.out]
       generalize (St.mk a b c d e f g hh).add ⟨a', b', c', d', e', f', g', h'⟩ = s' at *
       have E2 := Aside0.mk e2
       clear e1 e2
       have e3 : u32s [0, 0, 0, 0, 0, 0, 0, 0] = #[.int .u32 0, .int .u32 0, .int .u32 0, .int .u32 0, .int .u32 0, .int .u32 0, .int .u32 0, .int .u32 0] := rfl
       rw [e3]
       clear e3
       go_wp2
       refine bodyPost_ret (v := .agg #[.int .u32 (s'.a : Int), .int .u32 (s'.b : Int), .int .u32 (s'.c : Int), .int .u32 (s'.d : Int), .int .u32 (s'.e : Int), .int .u32 (s'.f : Int), .int .u32 (s'.g : Int), .int .u32 (s'.h : Int)]) (by simp [results, Tryz.results181, go_sem]) rfl ⟨⟨s', E2.out, rfl⟩, ?_⟩
       iterate 8 (refine Below.setCell ?_ (show w.heap.size ≤ w.heap.size + 1 by omega) _)
       exact pw_below_drewN (below_alloc (below_alloc (below_alloc (below_alloc (Below.refl _ _) _) _) _) _) _
end Go.Proofs.YtbkbganflnemeaaGreat.Pr
namespace Go.Proofs.YtbkbganflnemeaaGreat.Pr
open Go.RowKit Go.Deep Go.Proofs.YtbkbganflnemeaaGreatW.PrintWords
set_option maxHeartbeats 2000000
theorem u32s_one (l : List Nat) : (u32s l).all (·.oneCell') = true := by
 simp [u32s, Value.oneCell']
set_option maxRecDepth 100000 in
theorem constants.calls (w : World) : Calls Tryz.prog 179 #[] w fun e w' => e = .returned (.agg (u32s shaK)) ∧ Below w.heap.size w w' := by
 have hinf : (Tryz.prog.info? 212).map (·.size) = some 64 := by kernel_rfl
 go_enter Tryz.func179, Tryz.ntmps179
 go_wp2_with (refine wpList_store_row rfl 212 (.tmp 0) (.tmp 1) rfl _ (u32s shaK) rfl rfl 212 _ (heap_alloc_last _ _) hinf (by rfl) (u32s_one _) ?_; rw [World.setRow_alloc_new])
 exact bodyPost_ret (results_cell_row Tryz.results179 _ _ w.heap.size 212 (u32s shaK) (0, 0) _ rfl (heap_alloc_last _ _) Tryz.underlying212 rfl hinf) rfl ⟨rfl, (Below.refl _ _).alloc (Nat.le_refl _) _⟩
theorem be4_lt (l : List Nat) (hb : ∀ i, l.getD i 0 < 256) (i : Nat) : be4 l i < 4294967296 := by
 unfold be4
 have := hb i
 have := hb (i + 1)
 have := hb (i + 2)
 have := hb (i + 3)
 omega
theorem stOf_ok (s : ByteArray) : (stOf (bys s)).ok :=
 ⟨be4_lt _ (bys_lt s) _, be4_lt _ (bys_lt s) _, be4_lt _ (bys_lt s) _, be4_lt _ (bys_lt s) _, be4_lt _ (bys_lt s) _, be4_lt _ (bys_lt s) _, be4_lt _ (bys_lt s) _, be4_lt _ (bys_lt s) _⟩
theorem cell_row8 {w : World} {g : Nat} {t : TypeId} {x0 x1 x2 x3 x4 x5 x6 x7 : Value} (h : w.heap[g]? = some (.cells #[x0, x1, x2, x3, x4, x5, x6, x7] t (0, 0))) :
  w.cell? ⟨g, 0, none⟩ = some x0 ∧ w.cell? ⟨g, 1, none⟩ = some x1 ∧ w.cell? ⟨g, 2, none⟩ = some x2 ∧ w.cell? ⟨g, 3, none⟩ = some x3 ∧ w.cell? ⟨g, 4, none⟩ = some x4 ∧ w.cell? ⟨g, 5, none⟩ = some x5 ∧ w.cell? ⟨g, 6, none⟩ = some x6 ∧ w.cell? ⟨g, 7, none⟩ = some x7 := by
 have h' := fun i => blk_cell h i
 exact ⟨(h' 0).trans rfl, (h' 1).trans rfl, (h' 2).trans rfl, (h' 3).trans rfl, (h' 4).trans rfl, (h' 5).trans rfl, (h' 6).trans rfl, (h' 7).trans rfl⟩
end Go.Proofs.YtbkbganflnemeaaGreat.Pr
end

section
namespace Go.Proofs.YtbkbganflnemeaaGreat.Pr
open Go.RowKit Go.Proofs.YtbkbganflnemeaaGreatW.PrintWords Go.Proofs.YtbkbganflnemeaaGreatW.PrintLast Go.Proofs.YtbkbganflnemeaaGreatW.PrintMore
attribute [local go_sem] max2_int min2_int max_two min_two max_three min_three max_four min_four
def samphireref01_Word.f (a0 : Int) : Option (Int) := some (Go.bits .and .i64 a0 4294967295)
set_option maxHeartbeats 8000000 in
set_option maxRecDepth 100000 in
theorem samphireref01_Word.calls (a0 : Int) (r : Int) (w : World) (h : samphireref01_Word.f a0 = some r) :
  Calls Tryz.prog 120 #[.int .i64 a0] w fun e w' => e = .returned (.int .i64 r) ∧ Drawn0 w w' := by
 have H : (some (Go.bits .and .i64 a0 4294967295)) = some r := h; clear h; obtain rfl := Option.some.inj H; go_enter Tryz.func120, Tryz.ntmps120
 go_wp2; go_ret
 exact ⟨rz_, dz_⟩
def samphireref01_Big.l0 : Nat → ByteArray → List Int → Int → Option (List Int × Int)
 | 0, _, _, _ => none
 | k + 1, x0, x4, x5 => if x5 < (x0.size : Int) then (if 0 ≤ x5 then (if 0 ≤ (wrap64 (x5 + 1)) then (if (wrap64 (x5 + 1)) < (x0.size : Int) then (if 0 ≤ (wrap64 (x5 + 2)) then (if (wrap64 (x5 + 2)) < (x0.size : Int) then (if 0 ≤ (wrap64 (x5 + 3)) then (if (wrap64 (x5 + 3)) < (x0.size : Int) then (if x4.length < 17592186044416 then (samphireref01_Big.l0 k x0 (x4 ++ [Go.bits .or .i64 (Go.bits .or .i64 (Go.bits .or .i64 (wrap64 ((wrap64 (bt x0 x5)) * 16777216)) (wrap64 ((wrap64 (bt x0 (wrap64 (x5 + 1)))) * 65536))) (wrap64 ((wrap64 (bt x0 (wrap64 (x5 + 2)))) * 256))) (wrap64 (bt x0 (wrap64 (x5 + 3))))]) (wrap64 (x5 + 4))) else (none)) else (none)) else (none)) else (none)) else (none)) else (none)) else (none)) else (none)) else (some (x4, 0))
def samphireref01_Big.f (k : Nat) (a0 : ByteArray) : Option (List Int × Int) := if ((a0.size : Int) % 4) = 0 then (samphireref01_Big.l0 k a0 ([] : List Int) 0) else (some (([] : List Int), 1))
def samphireref01_Big.T7 : Bool × List (List Nat × List Nat) := (true, [([], []), ([], []), ([], []), ([1, 2], [1, 2]), ([3], [3]), ([4], [4]), ([], []), ([], []), ([7], [7]), ([6, 8], [6, 8]), ([9], [9]), ([10], [10]), ([5, 11], [5, 11]), ([], []), ([], []), ([14], [14]), ([13, 15], [13, 15]), ([16], [16]), ([17], [17]), ([12, 18], [12, 18]), ([], []), ([], []), ([21], [21]), ([20, 22], [20, 22]), ([23], [23]), ([19, 24], [19, 24]), ([25], [25]), ([0, 26], [0, 26]), ([27, 27, 0, 1, 2, 3, 4, 5, 6, 7, 8, 9, 10, 11, 12, 13, 14, 15, 16, 17, 18, 19, 20, 21, 22, 23, 24, 25, 26, 27], [0, 27])])
def samphireref01_Big.B7 : List Nat := [0, 0, 0, 6, 14, 30, 0, 0, 128, 448, 960, 1984, 4094, 0, 0, 16384, 57344, 122880, 253952, 524286, 0, 0, 2097152, 7340032, 15728640, 33554430, 67108862, 134217727, 268435455]
theorem samphireref01_Big.tab7 : rtab .any (opsOf Tryz.f187 7) = samphireref01_Big.T7 := by kernel_rfl
theorem samphireref01_Big.bits7 : waitsOk samphireref01_Big.T7.2 samphireref01_Big.B7 = true := by kernel_rfl
set_option maxHeartbeats 8000000 in
set_option maxRecDepth 100000 in
theorem samphireref01_Big.calls (k : Nat) (a0 : ByteArray) (r1 : List Int) (r2 : Int) (w : World) (h : samphireref01_Big.f k a0 = some (r1, r2)) :
    Calls Tryz.prog 187 #[.string a0] w fun e w' => ∃ v0_ : Value, e = .returned (.tuple #[v0_, .int .i64 r2]) ∧ Kd.R (Kd.int .i64) 3 w' w.heap.size (fun _ => True) v0_ r1 ∧ Below w.heap.size w w' := by
  have HB := Aside0.mk (Below.refl w.heap.size w); have H : (if ((a0.size : Int) % 4) = 0 then (samphireref01_Big.l0 k a0 ([] : List Int) 0) else (some (([] : List Int), 1))) = some (r1, r2) := h; clear h; by_cases c2 : ((a0.size : Int) % 4) = 0
  · rw [if_pos c2] at H; have c2b0 : (((a0.size : Int) % 4) == 0) = true := beq_iff_eq.mpr c2; have c2b1 : (((a0.size : Int) % 4) != 0) = false := bne_eq_false_iff_eq.mpr c2; clear c2; have H' := Aside0.mk H; clear H; go_enter Tryz.func187, Tryz.ntmps187
    go_wp2; go_loopg [4, 5] k (fun kq v4 v5 w' => ∃ (x4_1 : List Int) (x5_1 : Int), v5 = .int .i64 x5_1 ∧ Aside0 (samphireref01_Big.l0 kq a0 x4_1 x5_1 = some (r1, r2)) ∧ Aside0 (kq ≤ k) ∧ Aside0 (Kd.R (Kd.int .i64) 3 w' w.heap.size (fun _ => True) v4 x4_1) ∧ Aside0 (Below w.heap.size w w'))
    case atStart => exact ⟨(([] : List Int)), (0), rz_, H', ⟨Nat.le_refl _⟩, ⟨by first | exact Kd.R_nil _ _ _ _ _ | exact Kd.N_nil _ _ _ _ _ | exact Kd.V_nil _ _ _ _ _ | exact Kd.Q_nil _ _ _ _ _ | exact Kd.S_nil _ _ _ _ _⟩, ⟨hb_⟩⟩
    case round =>
      clear H'; obtain ⟨x4_1, x5_1, rfl, HA, HK1, HO_4, HB⟩ := hrel; cases gk with
      | zero => exact absurd HA.out (by simp [samphireref01_Big.l0])
      | succ k1 =>
        have H := HA.out; clear HA; simp only [samphireref01_Big.l0] at H; by_cases c3 : x5_1 < (a0.size : Int)
        · rw [if_pos c3] at H; have c3b0 : decide (x5_1 < (a0.size : Int)) = true := decide_eq_true c3; clear c3; by_cases c4 : 0 ≤ x5_1
          · rw [if_pos c4] at H; have c4b0 : decide (0 ≤ x5_1) = true := decide_eq_true c4; clear c4; obtain ⟨ji6, hji6⟩ : ∃ j_ : Int, (wrap64 (x5_1 + 1)) = j_ := ⟨_, rfl⟩; replace H : (if 0 ≤ (ji6) then (if (ji6) < (a0.size : Int) then (if 0 ≤ (wrap64 (x5_1 + 2)) then (if (wrap64 (x5_1 + 2)) < (a0.size : Int) then (if 0 ≤ (wrap64 (x5_1 + 3)) then (if (wrap64 (x5_1 + 3)) < (a0.size : Int) then (if x4_1.length < 17592186044416 then (samphireref01_Big.l0 k1 a0 (x4_1 ++ [Go.bits .or .i64 (Go.bits .or .i64 (Go.bits .or .i64 (wrap64 ((wrap64 (bt a0 x5_1)) * 16777216)) (wrap64 ((wrap64 (bt a0 (ji6))) * 65536))) (wrap64 ((wrap64 (bt a0 (wrap64 (x5_1 + 2)))) * 256))) (wrap64 (bt a0 (wrap64 (x5_1 + 3))))]) (wrap64 (x5_1 + 4))) else (none)) else (none)) else (none)) else (none)) else (none)) else (none)) else (none)) = some (r1, r2) := by first | (rw [hji6] at H; exact H) | (simp only [hji6] at H ⊢; exact H)
            have hji6w : (IntKind.i64.wrap (x5_1 + 1)) = ji6 := (i64_w _).trans hji6; by_cases c7 : 0 ≤ (ji6)
            · rw [if_pos c7] at H; have c7b0 : decide (0 ≤ (ji6)) = true := decide_eq_true c7; clear c7; by_cases c8 : (ji6) < (a0.size : Int)
              · rw [if_pos c8] at H; have c8b0 : decide ((ji6) < (a0.size : Int)) = true := decide_eq_true c8; clear c8; obtain ⟨ji10, hji10⟩ : ∃ j_ : Int, (wrap64 (x5_1 + 2)) = j_ := ⟨_, rfl⟩; replace H : (if 0 ≤ (ji10) then (if (ji10) < (a0.size : Int) then (if 0 ≤ (wrap64 (x5_1 + 3)) then (if (wrap64 (x5_1 + 3)) < (a0.size : Int) then (if x4_1.length < 17592186044416 then (samphireref01_Big.l0 k1 a0 (x4_1 ++ [Go.bits .or .i64 (Go.bits .or .i64 (Go.bits .or .i64 (wrap64 ((wrap64 (bt a0 x5_1)) * 16777216)) (wrap64 ((wrap64 (bt a0 (ji6))) * 65536))) (wrap64 ((wrap64 (bt a0 (ji10))) * 256))) (wrap64 (bt a0 (wrap64 (x5_1 + 3))))]) (wrap64 (x5_1 + 4))) else (none)) else (none)) else (none)) else (none)) else (none)) = some (r1, r2) := by first | (rw [hji10] at H; exact H) | (simp only [hji10] at H ⊢; exact H)
                have hji10w : (IntKind.i64.wrap (x5_1 + 2)) = ji10 := (i64_w _).trans hji10; by_cases c11 : 0 ≤ (ji10)
                · rw [if_pos c11] at H; have c11b0 : decide (0 ≤ (ji10)) = true := decide_eq_true c11; clear c11; by_cases c12 : (ji10) < (a0.size : Int)
                  · rw [if_pos c12] at H; have c12b0 : decide ((ji10) < (a0.size : Int)) = true := decide_eq_true c12; clear c12; obtain ⟨ji14, hji14⟩ : ∃ j_ : Int, (wrap64 (x5_1 + 3)) = j_ := ⟨_, rfl⟩; replace H : (if 0 ≤ (ji14) then (if (ji14) < (a0.size : Int) then (if x4_1.length < 17592186044416 then (samphireref01_Big.l0 k1 a0 (x4_1 ++ [Go.bits .or .i64 (Go.bits .or .i64 (Go.bits .or .i64 (wrap64 ((wrap64 (bt a0 x5_1)) * 16777216)) (wrap64 ((wrap64 (bt a0 (ji6))) * 65536))) (wrap64 ((wrap64 (bt a0 (ji10))) * 256))) (wrap64 (bt a0 (ji14)))]) (wrap64 (x5_1 + 4))) else (none)) else (none)) else (none)) = some (r1, r2) := by first | (rw [hji14] at H; exact H) | (simp only [hji14] at H ⊢; exact H)
                    have hji14w : (IntKind.i64.wrap (x5_1 + 3)) = ji14 := (i64_w _).trans hji14; by_cases c15 : 0 ≤ (ji14)
                    · rw [if_pos c15] at H; have c15b0 : decide (0 ≤ (ji14)) = true := decide_eq_true c15; clear c15; by_cases c16 : (ji14) < (a0.size : Int)
                      · rw [if_pos c16] at H; have c16b0 : decide ((ji14) < (a0.size : Int)) = true := decide_eq_true c16; clear c16; by_cases c18 : x4_1.length < 17592186044416
                        · rw [if_pos c18] at H; have LMc18 := Aside0.mk c18; clear c18; obtain ⟨y131, hy131⟩ : ∃ y_ : List Int, y_ = (x4_1 ++ [Go.bits .or .i64 (Go.bits .or .i64 (Go.bits .or .i64 (wrap64 ((wrap64 (bt a0 x5_1)) * 16777216)) (wrap64 ((wrap64 (bt a0 (ji6))) * 65536))) (wrap64 ((wrap64 (bt a0 (ji10))) * 256))) (wrap64 (bt a0 (ji14)))]) := ⟨_, rfl⟩; replace H : (samphireref01_Big.l0 k1 a0 y131 (wrap64 (x5_1 + 4))) = some (r1, r2) := by first | (rw [hy131]; with_reducible exact H) | (have H2_ := (Option.bind_some _ _).symm.trans H; rw [hy131]; with_reducible exact H2_) | (have H2_ := (Option.bind_some _ _).symm.trans H; with_reducible exact H2_) | with_reducible exact H | (rw [hy131]; exact H) | exact H
                          have Ny131 := Aside0.mk hy131; clear hy131; have H' := Aside0.mk H; clear H; try go_wp2
                          replace HO_4 := Aside0.mk (Kd.R_drew HO_4.out); replace HB := Aside0.mk (below_drew1 HB.out); have p5 : 0 ≤ (x5_1 : Int) := of_decide_eq_true as_'; have q5 : x5_1 < (a0.size : Int) := of_decide_eq_true as_'; have hx5 := bt_at a0 x5_1; replace p5 := eq_true p5; replace q5 := eq_true q5; have p9 : 0 ≤ ((ji6) : Int) := of_decide_eq_true as_'; have q9 : (ji6) < (a0.size : Int) := of_decide_eq_true as_'; have hx9 := bt_at a0 (ji6); replace p9 := eq_true p9; replace q9 := eq_true q9; have p13 : 0 ≤ ((ji10) : Int) := of_decide_eq_true as_'; have q13 : (ji10) < (a0.size : Int) := of_decide_eq_true as_'; have hx13 := bt_at a0 (ji10); replace p13 := eq_true p13; replace q13 := eq_true q13; have p17 : 0 ≤ ((ji14) : Int) := of_decide_eq_true as_'; have q17 : (ji14) < (a0.size : Int) := of_decide_eq_true as_'; have hx17 := bt_at a0 (ji14); replace p17 := eq_true p17; replace q17 := eq_true q17; refine start_ (n := 29) (S := fun w' => True) (ds := []) #[false, false, false, false, false, false, false, false, false, false, false, false, false, false, false, false, false, false, false, false, false, false, false, false, false, false, false, false, false] (by kernel_rfl) rfl rfl trivial (fun hHeld => ?_); refine with_tabW samphireref01_Big.tab7 samphireref01_Big.bits7 (fun HT_ HW_ => ?_); generalize wr.drew = w19 at HO_4 HB hHeld ⊢; refine pz_ 0 16 rfl rfl (any_of HT_.out (by kernel_rfl)) ?_; refine pz_ 1 17 rfl rfl (any_of HT_.out (by kernel_rfl)) ?_; refine pz_ 2 18 rfl rfl (any_of HT_.out (by kernel_rfl)) ?_; refine pz_ 6 22 rfl rfl (any_of HT_.out (by kernel_rfl)) ?_; refine pz_ 7 23 rfl rfl (any_of HT_.out (by kernel_rfl)) ?_; refine pz_ 8 24 rfl rfl (any_of HT_.out (by kernel_rfl)) ?_; refine pz_ 13 29 rfl rfl (any_of HT_.out (by kernel_rfl)) ?_; refine pz_ 14 30 rfl rfl (any_of HT_.out (by kernel_rfl)) ?_; refine pz_ 15 31 rfl rfl (any_of HT_.out (by kernel_rfl)) ?_; refine pz_ 20 36 rfl rfl (any_of HT_.out (by kernel_rfl)) ?_; refine pz_ 21 37 rfl rfl (any_of HT_.out (by kernel_rfl)) ?_; refine pz_ 22 38 rfl rfl (any_of HT_.out (by kernel_rfl)) ?_; refine take_ (i := 3) (N := some 19) (v := ?_) (a' := ?_) #[true, true, true, true, false, false, true, true, true, false, false, false, false, true, true, true, false, false, false, false, true, true, true, false, false, false, false, false, false] rfl rfl (take_ofW HT_.out HW_.out (by kernel_rfl)) (fun _ _ _ h => h) (Or.inl ⟨by rfl, ?_⟩) hHeld ?_ ?_; rotate_left
                          · intro w' _; go_simp
                            with_reducible rfl
                          rotate_left
                          · simp only [Act.put, List.setIfInBounds_toArray, List.set_cons_zero, List.set_cons_succ, i64_w, i32_w]; rfl
                          refine pz_ 4 20 rfl rfl (any_of HT_.out (by kernel_rfl)) ?_; refine pz_ 5 21 rfl rfl (any_of HT_.out (by kernel_rfl)) ?_; refine take_ (i := 9) (N := some 25) (v := ?_) (a' := ?_) #[true, true, true, true, true, true, true, true, true, true, false, false, false, true, true, true, false, false, false, false, true, true, true, false, false, false, false, false, false] rfl rfl (take_ofW HT_.out HW_.out (by kernel_rfl)) (fun _ _ _ h => h) (Or.inl ⟨by rfl, ?_⟩) hHeld ?_ ?_; rotate_left
                          · intro w' _; go_simp
                            with_reducible rfl
                          rotate_left
                          · simp only [Act.put, List.setIfInBounds_toArray, List.set_cons_zero, List.set_cons_succ, i64_w, i32_w]; rfl
                          refine pz_ 10 26 rfl rfl (any_of HT_.out (by kernel_rfl)) ?_; refine pz_ 11 27 rfl rfl (any_of HT_.out (by kernel_rfl)) ?_; refine pz_ 12 28 rfl rfl (any_of HT_.out (by kernel_rfl)) ?_; refine take_ (i := 16) (N := some 32) (v := ?_) (a' := ?_) #[true, true, true, true, true, true, true, true, true, true, true, true, true, true, true, true, true, false, false, false, true, true, true, false, false, false, false, false, false] rfl rfl (take_ofW HT_.out HW_.out (by kernel_rfl)) (fun _ _ _ h => h) (Or.inl ⟨by rfl, ?_⟩) hHeld ?_ ?_; rotate_left
                          · intro w' _; go_simp
                            with_reducible rfl
                          rotate_left
                          · simp only [Act.put, List.setIfInBounds_toArray, List.set_cons_zero, List.set_cons_succ, i64_w, i32_w]; rfl
                          refine pz_ 17 33 rfl rfl (any_of HT_.out (by kernel_rfl)) ?_; refine pz_ 18 34 rfl rfl (any_of HT_.out (by kernel_rfl)) ?_; refine pz_ 19 35 rfl rfl (any_of HT_.out (by kernel_rfl)) ?_; refine take_ (i := 23) (N := some 39) (v := ?_) (a' := ?_) #[true, true, true, true, true, true, true, true, true, true, true, true, true, true, true, true, true, true, true, true, true, true, true, true, false, false, false, false, false] rfl rfl (take_ofW HT_.out HW_.out (by kernel_rfl)) (fun _ _ _ h => h) (Or.inl ⟨by rfl, ?_⟩) hHeld ?_ ?_; rotate_left
                          · intro w' _; go_simp
                            with_reducible rfl
                          rotate_left
                          · simp only [Act.put, List.setIfInBounds_toArray, List.set_cons_zero, List.set_cons_succ, i64_w, i32_w]; rfl
                          refine pz_ 24 40 rfl rfl (any_of HT_.out (by kernel_rfl)) ?_; refine pz_ 25 41 rfl rfl (any_of HT_.out (by kernel_rfl)) ?_; refine one_ (i := 26) (N := some 42) #[true, true, true, true, true, true, true, true, true, true, true, true, true, true, true, true, true, true, true, true, true, true, true, true, true, true, true, false, false] rfl rfl (one_of HT_.out (by kernel_rfl)) (by decide) (fun K hK => ?_); refine value_ (w1 := ?_) (v := ?_) (by rfl) rfl ?_ ?_; rotate_left 2
                          · go_simp
                            constructor
                            · rfl
                            · rfl
                          refine hK.out _ _ trivial (fun hHeld => ?_); clear hK K; refine norm_ sa_ ?_; refine one_ (i := 27) (N := some 43) #[true, true, true, true, true, true, true, true, true, true, true, true, true, true, true, true, true, true, true, true, true, true, true, true, true, true, true, true, false] rfl rfl (one_of HT_.out (by kernel_rfl)) (by decide) (fun K hK => ?_); refine Kd.R_append_step (Kd.int .i64) (w0 := w) w.heap.size (by rfl) (.tmp 16) (.tmp 42) 116 3 (.int .i64 0) 8 rfl Tryz.underlying116 info3 rfl (by decide) (by omega) u4 x4_1 (Go.bits .or .i64 (Go.bits .or .i64 (Go.bits .or .i64 (wrap64 ((wrap64 (bt a0 x5_1)) * 16777216)) (wrap64 ((wrap64 (bt a0 (ji6))) * 65536))) (wrap64 ((wrap64 (bt a0 (ji10))) * 256))) (wrap64 (bt a0 (ji14)))) [.int .i64 (Go.bits .or .i64 (Go.bits .or .i64 (Go.bits .or .i64 (wrap64 ((wrap64 (bt a0 x5_1)) * 16777216)) (wrap64 ((wrap64 (bt a0 (ji6))) * 65536))) (wrap64 ((wrap64 (bt a0 (ji10))) * 256))) (wrap64 (bt a0 (ji14))))] (fun _ => True) (fun _ => False) rfl rfl ?aP (fun _ hk => hk.elim) ?aF ?aO ?aB ?aS ?aL ?_
                          (case aP => exact rfl)
                          (case aB => exact hb_)
                          (case aF => exact (fun _ _ => trivial))
                          (case aO => exact (ra_ HO_4.out))
                          (case aS => exact (below_size hb_))
                          (case aL => have := LMc18.out; omega)
                          intro v132 w20 ho hb hg hat; rw [← Ny131.out] at ho; replace HB := Aside0.mk (hb); have HO133 := Aside0.mk (ho); clear HO_4 ho hb hg hat; refine hK.out _ _ trivial (fun hHeld => ?_); clear hK K; refine norm_ sa_ ?_; refine pz_ 28 4 rfl rfl (any_of HT_.out (by kernel_rfl)) ?_; refine done_ (done_of HT_.out (by kernel_rfl)) ?_; try go_wp2
                          go_roundg k1
                          case measure => have := HK1.out; omega
                          case rel => exact ⟨(y131), (wrap64 (x5_1 + 4)), rz_, H', ⟨by have := HK1.out; omega⟩, ⟨ra_ HO133.out⟩, ⟨hb_⟩⟩
                        · rw [if_neg c18] at H; exact absurd H (by simp)
                      · rw [if_neg c16] at H; exact absurd H (by simp)
                    · rw [if_neg c15] at H; exact absurd H (by simp)
                  · rw [if_neg c12] at H; exact absurd H (by simp)
                · rw [if_neg c11] at H; exact absurd H (by simp)
              · rw [if_neg c8] at H; exact absurd H (by simp)
            · rw [if_neg c7] at H; exact absurd H (by simp)
          · rw [if_neg c4] at H; exact absurd H (by simp)
        · rw [if_neg c3] at H; have c3b0 : decide (x5_1 < (a0.size : Int)) = false := decide_eq_false c3; clear c3; simp only [Option.some.injEq, Prod.mk.injEq] at H; obtain ⟨rfl, rfl⟩ := H; go_wp2; go_ret2
          exact ⟨_, ew_, ra_ HO_4.out, hb_⟩
  · rw [if_neg c2] at H; have c2b0 : (((a0.size : Int) % 4) == 0) = false := beq_eq_false_iff_ne.mpr c2; have c2b1 : (((a0.size : Int) % 4) != 0) = true := bne_iff_ne.mpr c2; simp only [Option.some.injEq, Prod.mk.injEq] at H; obtain ⟨rfl, rfl⟩ := H; go_enter Tryz.func187, Tryz.ntmps187
    go_wp2; go_ret2
    exact ⟨_, ew_, by first | exact Kd.R_nil _ _ _ _ _ | exact Kd.N_nil _ _ _ _ _ | exact Kd.V_nil _ _ _ _ _ | exact Kd.Q_nil _ _ _ _ _ | exact Kd.S_nil _ _ _ _ _, hb_⟩
def samphireref02_schedule.l0 : Nat → List Int → Int → Option (List Int)
 | 0, _, _ => none
 | k + 1, x3, x5 => if x5 < 64 then (if 0 ≤ (wrap64 (x5 - 15)) then (if (wrap64 (x5 - 15)) < (x3.length : Int) then (if 0 ≤ (wrap64 (x5 - 2)) then (if (wrap64 (x5 - 2)) < (x3.length : Int) then ((samphireref02_right.f (rd x3 (wrap64 (x5 - 15))) 7).bind fun t140 => ((samphireref02_right.f (rd x3 (wrap64 (x5 - 15))) 18).bind fun t141 => ((samphireref02_right.f (rd x3 (wrap64 (x5 - 2))) 17).bind fun t142 => ((samphireref02_right.f (rd x3 (wrap64 (x5 - 2))) 19).bind fun t143 => (if 0 ≤ (wrap64 (x5 - 16)) then (if (wrap64 (x5 - 16)) < (x3.length : Int) then (if 0 ≤ (wrap64 (x5 - 7)) then (if (wrap64 (x5 - 7)) < (x3.length : Int) then ((samphireref01_Word.f (wrap64 ((wrap64 ((wrap64 ((rd x3 (wrap64 (x5 - 16))) + (Go.bits .xor .i64 (Go.bits .xor .i64 t140 t141) ((rd x3 (wrap64 (x5 - 15))) / 8)))) + (rd x3 (wrap64 (x5 - 7))))) + (Go.bits .xor .i64 (Go.bits .xor .i64 t142 t143) ((rd x3 (wrap64 (x5 - 2))) / 1024))))).bind fun t146 => (if x3.length < 17592186044416 then (samphireref02_schedule.l0 k (x3 ++ [t146]) (wrap64 (x5 + 1))) else (none))) else (none)) else (none)) else (none)) else (none)))))) else (none)) else (none)) else (none)) else (none)) else (some x3)
def samphireref02_schedule.f (k : Nat) (a0 : ByteArray) : Option (List Int) := (samphireref01_Big.f k a0).bind fun bt134 => (samphireref02_schedule.l0 k bt134.1 16)
def samphireref02_schedule.T5 : Bool × List (List Nat × List Nat) := (true, [([], []), ([], []), ([1], [1]), ([0, 2], [0, 2]), ([3], [3]), ([], []), ([], []), ([6], [6]), ([5, 7], [5, 7]), ([8], [8]), ([4, 0, 1, 2, 3, 4], [4]), ([9, 10, 0, 1, 2, 3, 4, 5, 6, 7, 8, 9, 10], [9])])
def samphireref02_schedule.B5 : List Nat := [0, 0, 2, 7, 15, 0, 0, 64, 224, 480, 31, 2047]
theorem samphireref02_schedule.tab5 : rtab .any (opsOf Tryz.f185 5) = samphireref02_schedule.T5 := by kernel_rfl
theorem samphireref02_schedule.bits5 : waitsOk samphireref02_schedule.T5.2 samphireref02_schedule.B5 = true := by kernel_rfl
def samphireref02_schedule.T8 : Bool × List (List Nat × List Nat) := (true, [([], []), ([], []), ([], []), ([2], [2]), ([1, 3], [1, 3]), ([4], [4]), ([], []), ([5, 6], [5, 6]), ([], []), ([], []), ([9], [9]), ([8, 10], [8, 10]), ([11], [11]), ([7, 12], [7, 12]), ([], []), ([13, 14], [13, 14]), ([15], [15]), ([16], [16]), ([0, 17, 16], [0, 17]), ([18, 18, 0, 1, 2, 3, 4, 5, 6, 7, 8, 9, 10, 11, 12, 13, 14, 15, 16, 17, 18], [0, 1, 8, 18])])
def samphireref02_schedule.B8 : List Nat := [0, 0, 0, 4, 14, 30, 0, 126, 0, 0, 512, 1792, 3840, 8190, 0, 32766, 65534, 131070, 262143, 524287]
theorem samphireref02_schedule.tab8 : rtab .any (opsOf Tryz.f185 8) = samphireref02_schedule.T8 := by kernel_rfl
theorem samphireref02_schedule.bits8 : waitsOk samphireref02_schedule.T8.2 samphireref02_schedule.B8 = true := by kernel_rfl
set_option maxHeartbeats 8000000 in
set_option maxRecDepth 100000 in
theorem samphireref02_schedule.calls (k : Nat) (a0 : ByteArray) (r : List Int) (w : World) (h : samphireref02_schedule.f k a0 = some r) :
    Calls Tryz.prog 185 #[.string a0] w fun e w' => ∃ v0_ : Value, e = .returned (v0_) ∧ Kd.R (Kd.int .i64) 3 w' w.heap.size (fun _ => True) v0_ r ∧ Below w.heap.size w w' := by
  have HB := Aside0.mk (Below.refl w.heap.size w); have H : ((samphireref01_Big.f k a0).bind fun bt134 => (samphireref02_schedule.l0 k bt134.1 16)) = some r := h; clear h; replace H := Option.bind_eq_some_iff.mp H; obtain ⟨⟨t134, t135⟩, A20, H⟩ := H; try dsimp only at H
  have A2 := Aside0.mk A20; clear A20; have H' := Aside0.mk H; clear H; go_enter Tryz.func185, Tryz.ntmps185
  go_wp2_with (first | ((with_reducible refine gate_callee (f := 187) rfl ?_); refine gl_ 12 Tryz.func187 #[.string a0] ?_; (with_reducible refine (samphireref01_Big.calls k a0 t134 t135 _ A2.out).mono ?_); rintro e w3 ⟨v136, rfl, ho0, hb⟩; refine ⟨_, rfl, ?_⟩; have HO137 := Aside0.mk (Kd.R_lower ho0 (below_size hb_)); replace HB := Aside0.mk (below_step hb_ hb); (try clear ho0)))
  go_loopg [3, 5] k (fun kq v3 v5 w' => ∃ (x3_1 : List Int) (x5_1 : Int), v5 = .int .i64 x5_1 ∧ Aside0 (samphireref02_schedule.l0 kq x3_1 x5_1 = some r) ∧ Aside0 (kq ≤ k) ∧ Aside0 (Kd.R (Kd.int .i64) 3 w' w.heap.size (fun _ => True) v3 x3_1) ∧ Aside0 (Below w.heap.size w w'))
  case atStart => exact ⟨(t134), (16), rz_, H', ⟨Nat.le_refl _⟩, ⟨ra_ HO137.out⟩, ⟨hb_⟩⟩
  case round =>
    clear H'; obtain ⟨x3_1, x5_1, rfl, HA, HK1, HO_3, HB⟩ := hrel; cases gk with
    | zero => exact absurd HA.out (by simp [samphireref02_schedule.l0])
    | succ k1 =>
      have H := HA.out; clear HA; simp only [samphireref02_schedule.l0] at H; by_cases c4 : x5_1 < 64
      · rw [if_pos c4] at H; have c4b0 : decide (x5_1 < 64) = true := decide_eq_true c4; clear c4; obtain ⟨ji5, hji5⟩ : ∃ j_ : Int, (wrap64 (x5_1 - 15)) = j_ := ⟨_, rfl⟩; replace H : (if 0 ≤ (ji5) then (if (ji5) < (x3_1.length : Int) then (if 0 ≤ (wrap64 (x5_1 - 2)) then (if (wrap64 (x5_1 - 2)) < (x3_1.length : Int) then ((samphireref02_right.f (rd x3_1 (ji5)) 7).bind fun t140 => ((samphireref02_right.f (rd x3_1 (ji5)) 18).bind fun t141 => ((samphireref02_right.f (rd x3_1 (wrap64 (x5_1 - 2))) 17).bind fun t142 => ((samphireref02_right.f (rd x3_1 (wrap64 (x5_1 - 2))) 19).bind fun t143 => (if 0 ≤ (wrap64 (x5_1 - 16)) then (if (wrap64 (x5_1 - 16)) < (x3_1.length : Int) then (if 0 ≤ (wrap64 (x5_1 - 7)) then (if (wrap64 (x5_1 - 7)) < (x3_1.length : Int) then ((samphireref01_Word.f (wrap64 ((wrap64 ((wrap64 ((rd x3_1 (wrap64 (x5_1 - 16))) + (Go.bits .xor .i64 (Go.bits .xor .i64 t140 t141) ((rd x3_1 (ji5)) / 8)))) + (rd x3_1 (wrap64 (x5_1 - 7))))) + (Go.bits .xor .i64 (Go.bits .xor .i64 t142 t143) ((rd x3_1 (wrap64 (x5_1 - 2))) / 1024))))).bind fun t146 => (if x3_1.length < 17592186044416 then (samphireref02_schedule.l0 k1 (x3_1 ++ [t146]) (wrap64 (x5_1 + 1))) else (none))) else (none)) else (none)) else (none)) else (none)))))) else (none)) else (none)) else (none)) else (none)) = some r := by first | (rw [hji5] at H; exact H) | (simp only [hji5] at H ⊢; exact H)
        have hji5w : (IntKind.i64.wrap (x5_1 - 15)) = ji5 := (i64_w _).trans hji5; by_cases c6 : 0 ≤ (ji5)
        · rw [if_pos c6] at H; have c6b0 : decide (0 ≤ (ji5)) = true := decide_eq_true c6; clear c6; by_cases c7 : (ji5) < (x3_1.length : Int)
          · rw [if_pos c7] at H; have c7b0 : decide ((ji5) < (x3_1.length : Int)) = true := decide_eq_true c7; clear c7; obtain ⟨ji8, hji8⟩ : ∃ j_ : Int, (wrap64 (x5_1 - 2)) = j_ := ⟨_, rfl⟩; replace H : (if 0 ≤ (ji8) then (if (ji8) < (x3_1.length : Int) then ((samphireref02_right.f (rd x3_1 (ji5)) 7).bind fun t140 => ((samphireref02_right.f (rd x3_1 (ji5)) 18).bind fun t141 => ((samphireref02_right.f (rd x3_1 (ji8)) 17).bind fun t142 => ((samphireref02_right.f (rd x3_1 (ji8)) 19).bind fun t143 => (if 0 ≤ (wrap64 (x5_1 - 16)) then (if (wrap64 (x5_1 - 16)) < (x3_1.length : Int) then (if 0 ≤ (wrap64 (x5_1 - 7)) then (if (wrap64 (x5_1 - 7)) < (x3_1.length : Int) then ((samphireref01_Word.f (wrap64 ((wrap64 ((wrap64 ((rd x3_1 (wrap64 (x5_1 - 16))) + (Go.bits .xor .i64 (Go.bits .xor .i64 t140 t141) ((rd x3_1 (ji5)) / 8)))) + (rd x3_1 (wrap64 (x5_1 - 7))))) + (Go.bits .xor .i64 (Go.bits .xor .i64 t142 t143) ((rd x3_1 (ji8)) / 1024))))).bind fun t146 => (if x3_1.length < 17592186044416 then (samphireref02_schedule.l0 k1 (x3_1 ++ [t146]) (wrap64 (x5_1 + 1))) else (none))) else (none)) else (none)) else (none)) else (none)))))) else (none)) else (none)) = some r := by first | (rw [hji8] at H; exact H) | (simp only [hji8] at H ⊢; exact H)
            have hji8w : (IntKind.i64.wrap (x5_1 - 2)) = ji8 := (i64_w _).trans hji8; by_cases c9 : 0 ≤ (ji8)
            · rw [if_pos c9] at H; have c9b0 : decide (0 ≤ (ji8)) = true := decide_eq_true c9; clear c9; by_cases c10 : (ji8) < (x3_1.length : Int)
              · rw [if_pos c10] at H; have c10b0 : decide ((ji8) < (x3_1.length : Int)) = true := decide_eq_true c10; clear c10; replace H := Option.bind_eq_some_iff.mp H; obtain ⟨t140, A110, H⟩ := H; have A11 := Aside0.mk A110; clear A110; replace H := Option.bind_eq_some_iff.mp H; obtain ⟨t141, A120, H⟩ := H; have A12 := Aside0.mk A120; clear A120; replace H := Option.bind_eq_some_iff.mp H; obtain ⟨t142, A130, H⟩ := H; have A13 := Aside0.mk A130; clear A130; replace H := Option.bind_eq_some_iff.mp H; obtain ⟨t143, A140, H⟩ := H; have A14 := Aside0.mk A140; clear A140; obtain ⟨ji15, hji15⟩ : ∃ j_ : Int, (wrap64 (x5_1 - 16)) = j_ := ⟨_, rfl⟩; replace H : (if 0 ≤ (ji15) then (if (ji15) < (x3_1.length : Int) then (if 0 ≤ (wrap64 (x5_1 - 7)) then (if (wrap64 (x5_1 - 7)) < (x3_1.length : Int) then ((samphireref01_Word.f (wrap64 ((wrap64 ((wrap64 ((rd x3_1 (ji15)) + (Go.bits .xor .i64 (Go.bits .xor .i64 t140 t141) ((rd x3_1 (ji5)) / 8)))) + (rd x3_1 (wrap64 (x5_1 - 7))))) + (Go.bits .xor .i64 (Go.bits .xor .i64 t142 t143) ((rd x3_1 (ji8)) / 1024))))).bind fun t146 => (if x3_1.length < 17592186044416 then (samphireref02_schedule.l0 k1 (x3_1 ++ [t146]) (wrap64 (x5_1 + 1))) else (none))) else (none)) else (none)) else (none)) else (none)) = some r := by first | (rw [hji15] at H; exact H) | (simp only [hji15] at H ⊢; exact H)
                (try rw [hji15] at A11)
                (try rw [hji15] at A12)
                (try rw [hji15] at A13)
                (try rw [hji15] at A14)
                have hji15w : (IntKind.i64.wrap (x5_1 - 16)) = ji15 := (i64_w _).trans hji15; by_cases c16 : 0 ≤ (ji15)
                · rw [if_pos c16] at H; have c16b0 : decide (0 ≤ (ji15)) = true := decide_eq_true c16; clear c16; by_cases c17 : (ji15) < (x3_1.length : Int)
                  · rw [if_pos c17] at H; have c17b0 : decide ((ji15) < (x3_1.length : Int)) = true := decide_eq_true c17; clear c17; obtain ⟨ji18, hji18⟩ : ∃ j_ : Int, (wrap64 (x5_1 - 7)) = j_ := ⟨_, rfl⟩; replace H : (if 0 ≤ (ji18) then (if (ji18) < (x3_1.length : Int) then ((samphireref01_Word.f (wrap64 ((wrap64 ((wrap64 ((rd x3_1 (ji15)) + (Go.bits .xor .i64 (Go.bits .xor .i64 t140 t141) ((rd x3_1 (ji5)) / 8)))) + (rd x3_1 (ji18)))) + (Go.bits .xor .i64 (Go.bits .xor .i64 t142 t143) ((rd x3_1 (ji8)) / 1024))))).bind fun t146 => (if x3_1.length < 17592186044416 then (samphireref02_schedule.l0 k1 (x3_1 ++ [t146]) (wrap64 (x5_1 + 1))) else (none))) else (none)) else (none)) = some r := by first | (rw [hji18] at H; exact H) | (simp only [hji18] at H ⊢; exact H)
                    (try rw [hji18] at A11)
                    (try rw [hji18] at A12)
                    (try rw [hji18] at A13)
                    (try rw [hji18] at A14)
                    have hji18w : (IntKind.i64.wrap (x5_1 - 7)) = ji18 := (i64_w _).trans hji18; by_cases c19 : 0 ≤ (ji18)
                    · rw [if_pos c19] at H; have c19b0 : decide (0 ≤ (ji18)) = true := decide_eq_true c19; clear c19; by_cases c20 : (ji18) < (x3_1.length : Int)
                      · rw [if_pos c20] at H; have c20b0 : decide ((ji18) < (x3_1.length : Int)) = true := decide_eq_true c20; clear c20; replace H := Option.bind_eq_some_iff.mp H; obtain ⟨t146, A210, H⟩ := H; have A21 := Aside0.mk A210; clear A210; by_cases c22 : x3_1.length < 17592186044416
                        · rw [if_pos c22] at H; have LMc22 := Aside0.mk c22; clear c22; obtain ⟨y147, hy147⟩ : ∃ y_ : List Int, y_ = (x3_1 ++ [t146]) := ⟨_, rfl⟩; replace H : (samphireref02_schedule.l0 k1 y147 (wrap64 (x5_1 + 1))) = some r := by first | (rw [hy147]; with_reducible exact H) | (have H2_ := (Option.bind_some _ _).symm.trans H; rw [hy147]; with_reducible exact H2_) | (have H2_ := (Option.bind_some _ _).symm.trans H; with_reducible exact H2_) | with_reducible exact H | (rw [hy147]; exact H) | exact H
                          have Ny147 := Aside0.mk hy147; clear hy147; have H' := Aside0.mk H; clear H; try go_wp2
                          replace HO_3 := Aside0.mk (Kd.R_drew HO_3.out); replace HB := Aside0.mk (below_drew1 HB.out); obtain ⟨Ao24, co24, eo24⟩ := Kd.R_slice HO_3.out
                          (first | subst eo24 | (injection eo24 with f1_ f2_ f3_; have f4_ := f1_.symm; have f5_ := f3_.symm; clear f1_ f2_ f3_; subst f4_; subst f5_))
                          have p138 : 0 ≤ ((ji5) : Int) := of_decide_eq_true as_'; have q138 : (ji5) < (x3_1.length : Int) := of_decide_eq_true as_'; obtain ⟨ad138, e138, hx138_0⟩ := Kd.at_int (Kd.R_reads' HO_3.out).2.2 (ji5) p138 q138; cases e138; replace p138 := eq_true p138; replace q138 := eq_true q138; have p139 : 0 ≤ ((ji8) : Int) := of_decide_eq_true as_'; have q139 : (ji8) < (x3_1.length : Int) := of_decide_eq_true as_'; obtain ⟨ad139, e139, hx139_0⟩ := Kd.at_int (Kd.R_reads' HO_3.out).2.2 (ji8) p139 q139; obtain rfl : ad138 = ad139 := (by injection e139); replace p139 := eq_true p139; replace q139 := eq_true q139; refine start_ (n := 12) (S := fun w' => w'.cell? (ad138.add ((ji5)).toNat) = some (.int .i64 (rd x3_1 (ji5))) ∧ w'.cell? (ad138.add ((ji8)).toNat) = some (.int .i64 (rd x3_1 (ji8)))) (ds := []) #[false, false, false, false, false, false, false, false, false, false, false, false] (by kernel_rfl) rfl rfl ⟨hx138_0, hx139_0⟩ (fun hHeld => ?_); refine with_tabW samphireref02_schedule.tab5 samphireref02_schedule.bits5 (fun HT_ HW_ => ?_); generalize wr.drew = w23 at HO_3 HB hx138_0 hx139_0 hHeld ⊢; refine pz_ 0 19 rfl rfl (any_of HT_.out (by kernel_rfl)) ?_; refine pz_ 1 20 rfl rfl (any_of HT_.out (by kernel_rfl)) ?_; refine pz_ 2 21 rfl rfl (any_of HT_.out (by kernel_rfl)) ?_; refine pz_ 3 22 rfl rfl (any_of HT_.out (by kernel_rfl)) ?_; refine pz_ 5 24 rfl rfl (any_of HT_.out (by kernel_rfl)) ?_; refine pz_ 6 25 rfl rfl (any_of HT_.out (by kernel_rfl)) ?_; refine pz_ 7 26 rfl rfl (any_of HT_.out (by kernel_rfl)) ?_; refine pz_ 8 27 rfl rfl (any_of HT_.out (by kernel_rfl)) ?_; refine take_ (i := 4) (N := some 23) (v := ?_) (a' := ?_) #[true, true, true, true, true, true, true, true, true, false, false, false] rfl rfl (take_ofW HT_.out HW_.out (by kernel_rfl)) (fun _ _ _ h => h) (Or.inl ⟨by rfl, ?_⟩) hHeld ?_ ?_; rotate_left
                          · rintro w' ⟨s0, s1⟩; go_simp
                            with_reducible rfl
                          rotate_left
                          · simp only [Act.put, List.setIfInBounds_toArray, List.set_cons_zero, List.set_cons_succ, i64_w, i32_w]; rfl
                          refine pz_ 10 6 rfl rfl (any_of HT_.out (by kernel_rfl)) ?_; refine take_ (i := 9) (N := some 28) (v := ?_) (a' := ?_) #[true, true, true, true, true, true, true, true, true, true, true, false] rfl rfl (take_ofW HT_.out HW_.out (by kernel_rfl)) (fun _ _ _ h => h) (Or.inl ⟨by rfl, ?_⟩) hHeld ?_ ?_; rotate_left
                          · rintro w' ⟨s0, s1⟩; go_simp
                            with_reducible rfl
                          rotate_left
                          · simp only [Act.put, List.setIfInBounds_toArray, List.set_cons_zero, List.set_cons_succ, i64_w, i32_w]; rfl
                          refine pz_ 11 7 rfl rfl (any_of HT_.out (by kernel_rfl)) ?_; refine done_ (done_of HT_.out (by kernel_rfl)) ?_; try go_wp2_with (first | ((with_reducible refine gate_callee (f := 188) rfl ?_); refine goesL_ (some 30) rfl rfl Tryz.func188 (by kernel_rfl) rfl #[.int .i64 (rd x3_1 (ji5)), .int .i64 7] rfl (by (try simp only [List.map_toArray, List.map_cons, List.map_nil]); first | done | (simp only [hji5]; rfl) | rfl | (simp only [List.length_drop, List.length_take]; rfl)) ?_; (with_reducible refine (samphireref02_right.calls (rd x3_1 (ji5)) 7 t140 _ A11.out).mono ?_); rintro e w' ⟨rfl, ⟨nd, rfl⟩⟩; refine ⟨_, rfl, ?_⟩) | ((with_reducible refine gate_callee (f := 188) rfl ?_); refine goesL_ (some 32) rfl rfl Tryz.func188 (by kernel_rfl) rfl #[.int .i64 (rd x3_1 (ji5)), .int .i64 18] rfl (by (try simp only [List.map_toArray, List.map_cons, List.map_nil]); first | done | (simp only [hji5]; rfl) | rfl | (simp only [List.length_drop, List.length_take]; rfl)) ?_; (with_reducible refine (samphireref02_right.calls (rd x3_1 (ji5)) 18 t141 _ A12.out).mono ?_); rintro e w' ⟨rfl, ⟨nd, rfl⟩⟩; refine ⟨_, rfl, ?_⟩) | ((with_reducible refine gate_callee (f := 188) rfl ?_); refine goesL_ (some 38) rfl rfl Tryz.func188 (by kernel_rfl) rfl #[.int .i64 (rd x3_1 (ji8)), .int .i64 17] rfl (by (try simp only [List.map_toArray, List.map_cons, List.map_nil]); first | done | (simp only [hji8]; rfl) | rfl | (simp only [List.length_drop, List.length_take]; rfl)) ?_; (with_reducible refine (samphireref02_right.calls (rd x3_1 (ji8)) 17 t142 _ A13.out).mono ?_); rintro e w' ⟨rfl, ⟨nd, rfl⟩⟩; refine ⟨_, rfl, ?_⟩) | ((with_reducible refine gate_callee (f := 188) rfl ?_); refine goesL_ (some 40) rfl rfl Tryz.func188 (by kernel_rfl) rfl #[.int .i64 (rd x3_1 (ji8)), .int .i64 19] rfl (by (try simp only [List.map_toArray, List.map_cons, List.map_nil]); first | done | (simp only [hji8]; rfl) | rfl | (simp only [List.length_drop, List.length_take]; rfl)) ?_; (with_reducible refine (samphireref02_right.calls (rd x3_1 (ji8)) 19 t143 _ A14.out).mono ?_); rintro e w' ⟨rfl, ⟨nd, rfl⟩⟩; refine ⟨_, rfl, ?_⟩))
                          (try (rw [drewN_self w23]; generalize hq_ : World.drewN w23 _ = w23; have n0_ : Aside0 (Kd.R (Kd.int .i64) 3 w23 w.heap.size (fun _ => True) (.slice (some ad138) x3_1.length co24) x3_1) := ⟨by rw [← hq_]; exact (ra_ HO_3.out)⟩; have n1_ : Aside0 (Below w.heap.size w w23) := ⟨by rw [← hq_]; exact hb_⟩; clear HO_3 HB hq_; have HO_3 := n0_; have HB := n1_; clear n0_ n1_))
                          replace HO_3 := Aside0.mk (Kd.R_drew HO_3.out); replace HB := Aside0.mk (below_drew1 HB.out); have p144 : 0 ≤ ((ji15) : Int) := of_decide_eq_true as_'; have q144 : (ji15) < (x3_1.length : Int) := of_decide_eq_true as_'; obtain ⟨ad144, e144, hx144_0⟩ := Kd.at_int (Kd.R_reads' HO_3.out).2.2 (ji15) p144 q144; obtain rfl : ad138 = ad144 := (by injection e144); replace p144 := eq_true p144; replace q144 := eq_true q144; have p145 : 0 ≤ ((ji18) : Int) := of_decide_eq_true as_'; have q145 : (ji18) < (x3_1.length : Int) := of_decide_eq_true as_'; obtain ⟨ad145, e145, hx145_0⟩ := Kd.at_int (Kd.R_reads' HO_3.out).2.2 (ji18) p145 q145; obtain rfl : ad138 = ad145 := (by injection e145); replace p145 := eq_true p145; replace q145 := eq_true q145; refine start_ (n := 20) (S := fun w' => w'.cell? (ad138.add ((ji15)).toNat) = some (.int .i64 (rd x3_1 (ji15))) ∧ w'.cell? (ad138.add ((ji18)).toNat) = some (.int .i64 (rd x3_1 (ji18)))) (ds := [17, 18]) #[false, false, false, false, false, false, false, false, false, false, false, false, false, false, false, false, false, false, false, false] (by kernel_rfl) rfl rfl ⟨hx144_0, hx145_0⟩ (fun hHeld => ?_); refine with_tabW samphireref02_schedule.tab8 samphireref02_schedule.bits8 (fun HT_ HW_ => ?_); generalize w23.drew = w25 at HO_3 HB hx144_0 hx145_0 hHeld ⊢; refine pz_ 0 45 rfl rfl (any_of HT_.out (by kernel_rfl)) ?_; refine pz_ 1 46 rfl rfl (any_of HT_.out (by kernel_rfl)) ?_; refine pz_ 2 47 rfl rfl (any_of HT_.out (by kernel_rfl)) ?_; refine pz_ 3 48 rfl rfl (any_of HT_.out (by kernel_rfl)) ?_; refine pz_ 4 49 rfl rfl (any_of HT_.out (by kernel_rfl)) ?_; refine pz_ 6 51 rfl rfl (any_of HT_.out (by kernel_rfl)) ?_; refine pz_ 8 53 rfl rfl (any_of HT_.out (by kernel_rfl)) ?_; refine pz_ 9 54 rfl rfl (any_of HT_.out (by kernel_rfl)) ?_; refine pz_ 10 55 rfl rfl (any_of HT_.out (by kernel_rfl)) ?_; refine pz_ 11 56 rfl rfl (any_of HT_.out (by kernel_rfl)) ?_; refine pz_ 14 59 rfl rfl (any_of HT_.out (by kernel_rfl)) ?_; refine take_ (i := 5) (N := some 50) (v := ?_) (a' := ?_) #[true, true, true, true, true, true, true, false, true, true, true, true, false, false, true, false, false, false, false, false] rfl rfl (take_ofW HT_.out HW_.out (by kernel_rfl)) (fun _ _ _ h => h) (Or.inl ⟨by rfl, ?_⟩) hHeld ?_ ?_; rotate_left
                          · rintro w' ⟨s0, s1⟩; go_simp
                            with_reducible rfl
                          rotate_left
                          · simp only [Act.put, List.setIfInBounds_toArray, List.set_cons_zero, List.set_cons_succ, i64_w, i32_w]; rfl
                          refine pz_ 7 52 rfl rfl (any_of HT_.out (by kernel_rfl)) ?_; refine take_ (i := 12) (N := some 57) (v := ?_) (a' := ?_) #[true, true, true, true, true, true, true, true, true, true, true, true, true, false, true, false, false, false, false, false] rfl rfl (take_ofW HT_.out HW_.out (by kernel_rfl)) (fun _ _ _ h => h) (Or.inl ⟨by rfl, ?_⟩) hHeld ?_ ?_; rotate_left
                          · rintro w' ⟨s0, s1⟩; go_simp
                            with_reducible rfl
                          rotate_left
                          · simp only [Act.put, List.setIfInBounds_toArray, List.set_cons_zero, List.set_cons_succ, i64_w, i32_w]; rfl
                          refine pz_ 13 58 rfl rfl (any_of HT_.out (by kernel_rfl)) ?_; refine pz_ 15 60 rfl rfl (any_of HT_.out (by kernel_rfl)) ?_; refine one_ (i := 16) (N := some 61) #[true, true, true, true, true, true, true, true, true, true, true, true, true, true, true, true, true, false, false, false] rfl rfl (one_of HT_.out (by kernel_rfl)) (by decide) (fun K hK => ?_); refine goes_ Tryz.func120 (by kernel_rfl) rfl #[.int .i64 (wrap64 ((wrap64 ((wrap64 ((rd x3_1 (ji15)) + (Go.bits .xor .i64 (Go.bits .xor .i64 t140 t141) ((rd x3_1 (ji5)) / 8)))) + (rd x3_1 (ji18)))) + (Go.bits .xor .i64 (Go.bits .xor .i64 t142 t143) ((rd x3_1 (ji8)) / 1024))))] (by rfl) rfl rfl (by (try simp only [List.map_toArray, List.map_cons, List.map_nil]); first | done | (simp only [hji15, hji18, hji5, hji8]; rfl) | rfl | (simp only [List.length_drop, List.length_take]; rfl)) ?_; with_reducible refine (samphireref01_Word.calls (wrap64 ((wrap64 ((wrap64 ((rd x3_1 (ji15)) + (Go.bits .xor .i64 (Go.bits .xor .i64 t140 t141) ((rd x3_1 (ji5)) / 8)))) + (rd x3_1 (ji18)))) + (Go.bits .xor .i64 (Go.bits .xor .i64 t142 t143) ((rd x3_1 (ji8)) / 1024)))) t146 _ A21.out).mono ?_
                          rintro e w' ⟨rfl, ⟨nd, rfl⟩⟩; refine ⟨_, rfl, ?_⟩; refine hK.out _ _ ⟨hHeld.1, hHeld.2⟩ (fun hHeld => ?_); clear hK K; refine norm_ sa_ ?_; refine last_ (i := 17) (N := some 62) #[true, true, true, true, true, true, true, true, true, true, true, true, true, true, true, true, true, true, false, false] rfl rfl (one_of HT_.out (by kernel_rfl)) (by decide) (fun K hK => ?_); refine value_ (w1 := ?_) (v := ?_) (by rfl) rfl ?_ ?_; rotate_left 2
                          · go_simp
                            constructor
                            · rfl
                            · rfl
                          refine hK.out _ _ ?_; clear hK K; refine norm_ sa_ ?_; refine last_ (i := 18) (N := some 63) #[true, true, true, true, true, true, true, true, true, true, true, true, true, true, true, true, true, true, true, false] rfl rfl (one_of HT_.out (by kernel_rfl)) (by decide) (fun K hK => ?_); refine Kd.R_append_step (Kd.int .i64) (w0 := w) w.heap.size (by rfl) (.tmp 45) (.tmp 62) 116 3 (.int .i64 0) 8 rfl Tryz.underlying116 info3 rfl (by decide) (by omega) (.slice (some ad138) x3_1.length co24) x3_1 t146 [.int .i64 t146] (fun _ => True) (fun _ => False) rfl rfl ?aP (fun _ hk => hk.elim) ?aF ?aO ?aB ?aS ?aL ?_
                          (case aP => exact rfl)
                          (case aB => exact hb_)
                          (case aF => exact (fun _ _ => trivial))
                          (case aO => exact (ra_ HO_3.out))
                          (case aS => exact (below_size hb_))
                          (case aL => have := LMc22.out; omega)
                          intro v148 w26 ho hb hg hat; rw [← Ny147.out] at ho; replace HB := Aside0.mk (hb); have HO149 := Aside0.mk (ho); clear HO_3 ho hb hg hat; refine hK.out _ _ ?_; clear hK K; refine norm_ sa_ ?_; refine pz_ 19 3 rfl rfl (any_of HT_.out (by kernel_rfl)) ?_; refine done_ (done_of HT_.out (by kernel_rfl)) ?_; try go_wp2
                          go_roundg k1
                          case measure => have := HK1.out; omega
                          case rel => exact ⟨(y147), (wrap64 (x5_1 + 1)), rz_, H', ⟨by have := HK1.out; omega⟩, ⟨ra_ HO149.out⟩, ⟨hb_⟩⟩
                        · rw [if_neg c22] at H; exact absurd H (by simp)
                      · rw [if_neg c20] at H; exact absurd H (by simp)
                    · rw [if_neg c19] at H; exact absurd H (by simp)
                  · rw [if_neg c17] at H; exact absurd H (by simp)
                · rw [if_neg c16] at H; exact absurd H (by simp)
              · rw [if_neg c10] at H; exact absurd H (by simp)
            · rw [if_neg c9] at H; exact absurd H (by simp)
          · rw [if_neg c7] at H; exact absurd H (by simp)
        · rw [if_neg c6] at H; exact absurd H (by simp)
      · rw [if_neg c4] at H; have c4b0 : decide (x5_1 < 64) = false := decide_eq_false c4; clear c4; obtain rfl := Option.some.inj H; go_wp2; go_ret
        exact ⟨_, ew_, ra_ HO_3.out, hb_⟩
def samphireref02_constants.f  : Option (List Int) := some (([1116352408, 1899447441, 3049323471, 3921009573, 961987163, 1508970993, 2453635748, 2870763221, 3624381080, 310598401, 607225278, 1426881987, 1925078388, 2162078206, 2614888103, 3248222580, 3835390401, 4022224774, 264347078, 604807628, 770255983, 1249150122, 1555081692, 1996064986, 2554220882, 2821834349, 2952996808, 3210313671, 3336571891, 3584528711, 113926993, 338241895, 666307205, 773529912, 1294757372, 1396182291, 1695183700, 1986661051, 2177026350, 2456956037, 2730485921, 2820302411, 3259730800, 3345764771, 3516065817, 3600352804, 4094571909, 275423344, 430227734, 506948616, 659060556, 883997877, 958139571, 1322822218, 1537002063, 1747873779, 1955562222, 2024104815, 2227730452, 2361852424, 2428436474, 2756734187, 3204031479, 3329325298] : List Int))
set_option maxHeartbeats 8000000 in
set_option maxRecDepth 100000 in
theorem samphireref02_constants.calls  (r : List Int) (w : World) (h : samphireref02_constants.f  = some r) :
  Calls Tryz.prog 186 #[] w fun e w' => ∃ v0_ : Value, e = .returned (v0_) ∧ Kd.R (Kd.int .i64) 3 w' w.heap.size (fun _ => True) v0_ r ∧ Below w.heap.size w w' := by
 have HB := Aside0.mk (Below.refl w.heap.size w); have H : (some (([1116352408, 1899447441, 3049323471, 3921009573, 961987163, 1508970993, 2453635748, 2870763221, 3624381080, 310598401, 607225278, 1426881987, 1925078388, 2162078206, 2614888103, 3248222580, 3835390401, 4022224774, 264347078, 604807628, 770255983, 1249150122, 1555081692, 1996064986, 2554220882, 2821834349, 2952996808, 3210313671, 3336571891, 3584528711, 113926993, 338241895, 666307205, 773529912, 1294757372, 1396182291, 1695183700, 1986661051, 2177026350, 2456956037, 2730485921, 2820302411, 3259730800, 3345764771, 3516065817, 3600352804, 4094571909, 275423344, 430227734, 506948616, 659060556, 883997877, 958139571, 1322822218, 1537002063, 1747873779, 1955562222, 2024104815, 2227730452, 2361852424, 2428436474, 2756734187, 3204031479, 3329325298] : List Int))) = some r := h; clear h; obtain ⟨y150, hy150⟩ : ∃ y_ : List Int, y_ = (([1116352408, 1899447441, 3049323471, 3921009573, 961987163, 1508970993, 2453635748, 2870763221, 3624381080, 310598401, 607225278, 1426881987, 1925078388, 2162078206, 2614888103, 3248222580, 3835390401, 4022224774, 264347078, 604807628, 770255983, 1249150122, 1555081692, 1996064986, 2554220882, 2821834349, 2952996808, 3210313671, 3336571891, 3584528711, 113926993, 338241895, 666307205, 773529912, 1294757372, 1396182291, 1695183700, 1986661051, 2177026350, 2456956037, 2730485921, 2820302411, 3259730800, 3345764771, 3516065817, 3600352804, 4094571909, 275423344, 430227734, 506948616, 659060556, 883997877, 958139571, 1322822218, 1537002063, 1747873779, 1955562222, 2024104815, 2227730452, 2361852424, 2428436474, 2756734187, 3204031479, 3329325298] : List Int)) := ⟨_, rfl⟩; replace H : (some y150) = some r := by first | (rw [hy150]; with_reducible exact H) | (have H2_ := (Option.bind_some _ _).symm.trans H; rw [hy150]; with_reducible exact H2_) | (have H2_ := (Option.bind_some _ _).symm.trans H; with_reducible exact H2_) | with_reducible exact H | (rw [hy150]; exact H) | exact H
 have Ny150 := Aside0.mk hy150; clear hy150; obtain rfl := Option.some.inj H; go_enter Tryz.func186, Tryz.ntmps186
 go_wp2_with (first | ((with_reducible refine gate_dst (N := 1) rfl ?_); refine Kd.R_lit (Kd.int .i64) _ 3 ?hg (N := 1) ?hd (xs := ([1116352408, 1899447441, 3049323471, 3921009573, 961987163, 1508970993, 2453635748, 2870763221, 3624381080, 310598401, 607225278, 1426881987, 1925078388, 2162078206, 2614888103, 3248222580, 3835390401, 4022224774, 264347078, 604807628, 770255983, 1249150122, 1555081692, 1996064986, 2554220882, 2821834349, 2952996808, 3210313671, 3336571891, 3584528711, 113926993, 338241895, 666307205, 773529912, 1294757372, 1396182291, 1695183700, 1986661051, 2177026350, 2456956037, 2730485921, 2820302411, 3259730800, 3345764771, 3516065817, 3600352804, 4094571909, 275423344, 430227734, 506948616, 659060556, 883997877, 958139571, 1322822218, 1537002063, 1747873779, 1955562222, 2024104815, 2227730452, 2361852424, 2428436474, 2756734187, 3204031479, 3329325298] : List Int)) (inner := [.int .i64 1116352408, .int .i64 1899447441, .int .i64 3049323471, .int .i64 3921009573, .int .i64 961987163, .int .i64 1508970993, .int .i64 2453635748, .int .i64 2870763221, .int .i64 3624381080, .int .i64 310598401, .int .i64 607225278, .int .i64 1426881987, .int .i64 1925078388, .int .i64 2162078206, .int .i64 2614888103, .int .i64 3248222580, .int .i64 3835390401, .int .i64 4022224774, .int .i64 264347078, .int .i64 604807628, .int .i64 770255983, .int .i64 1249150122, .int .i64 1555081692, .int .i64 1996064986, .int .i64 2554220882, .int .i64 2821834349, .int .i64 2952996808, .int .i64 3210313671, .int .i64 3336571891, .int .i64 3584528711, .int .i64 113926993, .int .i64 338241895, .int .i64 666307205, .int .i64 773529912, .int .i64 1294757372, .int .i64 1396182291, .int .i64 1695183700, .int .i64 1986661051, .int .i64 2177026350, .int .i64 2456956037, .int .i64 2730485921, .int .i64 2820302411, .int .i64 3259730800, .int .i64 3345764771, .int .i64 3516065817, .int .i64 3600352804, .int .i64 4094571909, .int .i64 275423344, .int .i64 430227734, .int .i64 506948616, .int .i64 659060556, .int .i64 883997877, .int .i64 958139571, .int .i64 1322822218, .int .i64 1537002063, .int .i64 1747873779, .int .i64 1955562222, .int .i64 2024104815, .int .i64 2227730452, .int .i64 2361852424, .int .i64 2428436474, .int .i64 2756734187, .int .i64 3204031479, .int .i64 3329325298]) (ok := fun _ => True) (okp := fun _ => True) ?hr ?hp (fun _ hk => hk) trivial (Below.refl _ _) (Nat.le_refl _) (by simp) ?_; (case hd => rfl); (case hg => rfl); (case hr => first | (go_simp; done) | (go_simp; rfl)); (case hp => exact (ro_ (ro_ (ro_ (ro_ (ro_ (ro_ (ro_ (ro_ (ro_ (ro_ (ro_ (ro_ (ro_ (ro_ (ro_ (ro_ (ro_ (ro_ (ro_ (ro_ (ro_ (ro_ (ro_ (ro_ (ro_ (ro_ (ro_ (ro_ (ro_ (ro_ (ro_ (ro_ (ro_ (ro_ (ro_ (ro_ (ro_ (ro_ (ro_ (ro_ (ro_ (ro_ (ro_ (ro_ (ro_ (ro_ (ro_ (ro_ (ro_ (ro_ (ro_ (ro_ (ro_ (ro_ (ro_ (ro_ (ro_ (ro_ (ro_ (ro_ (ro_ (ro_ (ro_ (ro_ (Reps.none _ _)))))))))))))))))))))))))))))))))))))))))))))))))))))))))))))))))); intro v151 w1 ho2 hb hg_ hnew_; clear hg_ hnew_; (first | rw [← Ny150.out] at ho2 | (simp only [Int.reduceToNat] at ho2; rw [← Ny150.out] at ho2)); have HO152 := Aside0.mk (Kd.R_lower ho2 (below_size hb_)); replace HB := Aside0.mk (below_step hb_ hb); clear hb ho2))
 go_ret
 exact ⟨_, ew_, ra_ HO152.out, hb_⟩
def samphireref01_PutBig.l0 : Nat → List Int → List Int → Int → Option (ByteArray)
 | 0, _, _, _ => none
 | k + 1, x0, x3, x4 => if x4 < (x0.length : Int) then (if 0 ≤ x4 then ((samphireref01_Word.f (rd x0 x4)).bind fun t114 => (if x3.length < 140737488355328 then ((some (x3 ++ [(t114 / 16777216) % 256] : List Int)).bind fun y115 => (if y115.length < 140737488355328 then ((some (y115 ++ [(Go.bits .and .i64 (t114 / 65536) 255) % 256] : List Int)).bind fun y118 => (if y118.length < 140737488355328 then ((some (y118 ++ [(Go.bits .and .i64 (t114 / 256) 255) % 256] : List Int)).bind fun y121 => (if y121.length < 140737488355328 then (samphireref01_PutBig.l0 k x0 (y121 ++ [(Go.bits .and .i64 t114 255) % 256]) (wrap64 (x4 + 1))) else (none))) else (none))) else (none))) else (none))) else (none)) else (some (strOfNums x3))
def samphireref01_PutBig.f (k : Nat) (l0 : List Int) : Option (ByteArray) := samphireref01_PutBig.l0 k l0 ([] : List Int) 0
set_option maxHeartbeats 8000000 in
set_option maxRecDepth 100000 in
theorem samphireref01_PutBig.calls (k : Nat) (A0 : Option Addr) (c0 : Nat) (l0 : List Int) (r : ByteArray) (w : World) (hr0 : Kd.C (Kd.int .i64) w A0 l0.length l0) (hc0 : l0.length ≤ c0) (h : samphireref01_PutBig.f k l0 = some r) :
    Calls Tryz.prog 80 #[.slice A0 l0.length c0] w fun e w' => e = .returned (.string r) ∧ Below w.heap.size w w' := by
  have HR0 := Aside0.mk hr0; have HC0 := Aside0.mk hc0; clear hr0 hc0; have HB := Aside0.mk (Below.refl w.heap.size w); have H : (samphireref01_PutBig.l0 k l0 ([] : List Int) 0) = some r := h; clear h; have H' := Aside0.mk H; clear H; go_enter Tryz.func80, Tryz.ntmps80
  go_wp2; go_loopg [3, 4] k (fun kq v3 v4 w' => ∃ (x3_1 : List Int) (x4_1 : Int), v4 = .int .i64 x4_1 ∧ Aside0 (samphireref01_PutBig.l0 kq l0 x3_1 x4_1 = some r) ∧ Aside0 (kq ≤ k) ∧ Aside0 (Kd.R (Kd.int .u8) 5 w' w.heap.size (fun _ => True) v3 x3_1) ∧ Aside0 (Below w.heap.size w w'))
  case atStart => exact ⟨(([] : List Int)), (0), rz_, H', ⟨Nat.le_refl _⟩, ⟨by first | exact Kd.R_nil _ _ _ _ _ | exact Kd.N_nil _ _ _ _ _ | exact Kd.V_nil _ _ _ _ _ | exact Kd.Q_nil _ _ _ _ _ | exact Kd.S_nil _ _ _ _ _⟩, ⟨hb_⟩⟩
  case round =>
    clear H'; obtain ⟨x3_1, x4_1, rfl, HA, HK1, HO_3, HB⟩ := hrel; cases gk with
    | zero => exact absurd HA.out (by simp [samphireref01_PutBig.l0])
    | succ k1 =>
      have H := HA.out; clear HA; simp only [samphireref01_PutBig.l0] at H; by_cases c2 : x4_1 < (l0.length : Int)
      · rw [if_pos c2] at H; have c2b0 : decide (x4_1 < (l0.length : Int)) = true := decide_eq_true c2; clear c2; by_cases c3 : 0 ≤ x4_1
        · rw [if_pos c3] at H; have c3b0 : decide (0 ≤ x4_1) = true := decide_eq_true c3; clear c3; replace H := Option.bind_eq_some_iff.mp H; obtain ⟨t114, A40, H⟩ := H; have A4 := Aside0.mk A40; clear A40; by_cases c5 : x3_1.length < 140737488355328
          · rw [if_pos c5] at H; have LMc5 := Aside0.mk c5; clear c5; obtain ⟨y115, hy115⟩ : ∃ y_ : List Int, y_ = (x3_1 ++ [(t114 / 16777216) % 256]) := ⟨_, rfl⟩; replace H : (if y115.length < 140737488355328 then ((some (y115 ++ [(Go.bits .and .i64 (t114 / 65536) 255) % 256] : List Int)).bind fun y118 => (if y118.length < 140737488355328 then ((some (y118 ++ [(Go.bits .and .i64 (t114 / 256) 255) % 256] : List Int)).bind fun y121 => (if y121.length < 140737488355328 then (samphireref01_PutBig.l0 k1 l0 (y121 ++ [(Go.bits .and .i64 t114 255) % 256]) (wrap64 (x4_1 + 1))) else (none))) else (none))) else (none)) = some r := by first | (rw [hy115]; with_reducible exact H) | (have H2_ := (Option.bind_some _ _).symm.trans H; rw [hy115]; with_reducible exact H2_) | (have H2_ := (Option.bind_some _ _).symm.trans H; with_reducible exact H2_) | with_reducible exact H | (rw [hy115]; exact H) | exact H
            have Ny115 := Aside0.mk hy115; clear hy115; by_cases c6 : y115.length < 140737488355328
            · rw [if_pos c6] at H; have LMc6 := Aside0.mk c6; clear c6; obtain ⟨y118, hy118⟩ : ∃ y_ : List Int, y_ = (y115 ++ [(Go.bits .and .i64 (t114 / 65536) 255) % 256]) := ⟨_, rfl⟩; replace H : (if y118.length < 140737488355328 then ((some (y118 ++ [(Go.bits .and .i64 (t114 / 256) 255) % 256] : List Int)).bind fun y121 => (if y121.length < 140737488355328 then (samphireref01_PutBig.l0 k1 l0 (y121 ++ [(Go.bits .and .i64 t114 255) % 256]) (wrap64 (x4_1 + 1))) else (none))) else (none)) = some r := by first | (rw [hy118]; with_reducible exact H) | (have H2_ := (Option.bind_some _ _).symm.trans H; rw [hy118]; with_reducible exact H2_) | (have H2_ := (Option.bind_some _ _).symm.trans H; with_reducible exact H2_) | with_reducible exact H | (rw [hy118]; exact H) | exact H
              have Ny118 := Aside0.mk hy118; clear hy118; by_cases c7 : y118.length < 140737488355328
              · rw [if_pos c7] at H; have LMc7 := Aside0.mk c7; clear c7; obtain ⟨y121, hy121⟩ : ∃ y_ : List Int, y_ = (y118 ++ [(Go.bits .and .i64 (t114 / 256) 255) % 256]) := ⟨_, rfl⟩; replace H : (if y121.length < 140737488355328 then (samphireref01_PutBig.l0 k1 l0 (y121 ++ [(Go.bits .and .i64 t114 255) % 256]) (wrap64 (x4_1 + 1))) else (none)) = some r := by first | (rw [hy121]; with_reducible exact H) | (have H2_ := (Option.bind_some _ _).symm.trans H; rw [hy121]; with_reducible exact H2_) | (have H2_ := (Option.bind_some _ _).symm.trans H; with_reducible exact H2_) | with_reducible exact H | (rw [hy121]; exact H) | exact H
                have Ny121 := Aside0.mk hy121; clear hy121; by_cases c8 : y121.length < 140737488355328
                · rw [if_pos c8] at H; have LMc8 := Aside0.mk c8; clear c8; obtain ⟨y124, hy124⟩ : ∃ y_ : List Int, y_ = (y121 ++ [(Go.bits .and .i64 t114 255) % 256]) := ⟨_, rfl⟩; replace H : (samphireref01_PutBig.l0 k1 l0 y124 (wrap64 (x4_1 + 1))) = some r := by first | (rw [hy124]; with_reducible exact H) | (have H2_ := (Option.bind_some _ _).symm.trans H; rw [hy124]; with_reducible exact H2_) | (have H2_ := (Option.bind_some _ _).symm.trans H; with_reducible exact H2_) | with_reducible exact H | (rw [hy124]; exact H) | exact H
                  have Ny124 := Aside0.mk hy124; clear hy124; have H' := Aside0.mk H; clear H; have p113 : 0 ≤ (x4_1 : Int) := of_decide_eq_true as_'; have q113 : x4_1 < (l0.length : Int) := of_decide_eq_true as_'; obtain ⟨ad113, e113, hx113_0⟩ := Kd.at_int HR0.out x4_1 p113 q113; cases e113; replace hx113_0 := (HB.out.cell (World.block_lt_of_cell? w _ hx113_0)).trans hx113_0; replace p113 := eq_true p113; replace q113 := eq_true q113; go_wp2_with (first | ((with_reducible refine gate_callee (f := 120) rfl ?_); refine gl_ 16 Tryz.func120 #[.int .i64 (rd l0 x4_1)] ?_; (with_reducible refine (samphireref01_Word.calls (rd l0 x4_1) t114 _ A4.out).mono ?_); rintro e w' ⟨rfl, ⟨nd, rfl⟩⟩; refine ⟨_, rfl, ?_⟩) | ((with_reducible refine gate_builtin (b := .append) (xs := #[.tmp 17, .tmp 21]) rfl ?_); at_builtin; refine Kd.R_append (Kd.int .u8) (w0 := w) w.heap.size rfl (.tmp 17) (.tmp 21) 68 5 (.int .u8 0) 1 rfl Tryz.underlying68 info5 rfl (by decide) (by omega) u3 x3_1 ((t114 / 16777216) % 256) [.int .u8 ((t114 / 16777216) % 256)] (fun _ => True) (fun _ => False) rfl rfl ?aP (fun _ hk => hk.elim) ?aF ?aO ?aB ?aS ?aL ?_; (case aP => exact rfl); (case aB => exact hb_); (case aF => exact (fun _ _ => trivial)); (case aO => exact (ra_ HO_3.out)); (case aS => exact (below_size hb_)); (case aL => have := LMc5.out; omega); intro v116 w9 ho hb hg hat; rw [← Ny115.out] at ho; replace HB := Aside0.mk (hb); have HO117 := Aside0.mk (ho); clear HO_3; clear ho hb hg hat) | ((with_reducible refine gate_builtin (b := .append) (xs := #[.tmp 23, .tmp 28]) rfl ?_); at_builtin; refine Kd.R_append (Kd.int .u8) (w0 := w) w.heap.size rfl (.tmp 23) (.tmp 28) 68 5 (.int .u8 0) 1 rfl Tryz.underlying68 info5 rfl (by decide) (by omega) v116 y115 ((Go.bits .and .i64 (t114 / 65536) 255) % 256) [.int .u8 ((Go.bits .and .i64 (t114 / 65536) 255) % 256)] (fun _ => True) (fun _ => False) rfl rfl ?aP (fun _ hk => hk.elim) ?aF ?aO ?aB ?aS ?aL ?_; (case aP => exact rfl); (case aB => exact hb_); (case aF => exact (fun _ _ => trivial)); (case aO => exact (ra_ HO117.out)); (case aS => exact (below_size hb_)); (case aL => have := LMc6.out; omega); intro v119 w10 ho hb hg hat; rw [← Ny118.out] at ho; replace HB := Aside0.mk (hb); have HO120 := Aside0.mk (ho); clear HO117; clear ho hb hg hat) | ((with_reducible refine gate_builtin (b := .append) (xs := #[.tmp 30, .tmp 35]) rfl ?_); at_builtin; refine Kd.R_append (Kd.int .u8) (w0 := w) w.heap.size rfl (.tmp 30) (.tmp 35) 68 5 (.int .u8 0) 1 rfl Tryz.underlying68 info5 rfl (by decide) (by omega) v119 y118 ((Go.bits .and .i64 (t114 / 256) 255) % 256) [.int .u8 ((Go.bits .and .i64 (t114 / 256) 255) % 256)] (fun _ => True) (fun _ => False) rfl rfl ?aP (fun _ hk => hk.elim) ?aF ?aO ?aB ?aS ?aL ?_; (case aP => exact rfl); (case aB => exact hb_); (case aF => exact (fun _ _ => trivial)); (case aO => exact (ra_ HO120.out)); (case aS => exact (below_size hb_)); (case aL => have := LMc7.out; omega); intro v122 w11 ho hb hg hat; rw [← Ny121.out] at ho; replace HB := Aside0.mk (hb); have HO123 := Aside0.mk (ho); clear HO120; clear ho hb hg hat) | ((with_reducible refine gate_builtin (b := .append) (xs := #[.tmp 37, .tmp 41]) rfl ?_); at_builtin; refine Kd.R_append (Kd.int .u8) (w0 := w) w.heap.size rfl (.tmp 37) (.tmp 41) 68 5 (.int .u8 0) 1 rfl Tryz.underlying68 info5 rfl (by decide) (by omega) v122 y121 ((Go.bits .and .i64 t114 255) % 256) [.int .u8 ((Go.bits .and .i64 t114 255) % 256)] (fun _ => True) (fun _ => False) rfl rfl ?aP (fun _ hk => hk.elim) ?aF ?aO ?aB ?aS ?aL ?_; (case aP => exact rfl); (case aB => exact hb_); (case aF => exact (fun _ _ => trivial)); (case aO => exact (ra_ HO123.out)); (case aS => exact (below_size hb_)); (case aL => have := LMc8.out; omega); intro v125 w12 ho hb hg hat; rw [← Ny124.out] at ho; replace HB := Aside0.mk (hb); have HO126 := Aside0.mk (ho); clear HO123; clear ho hb hg hat))
                  go_roundg k1
                  case measure => have := HK1.out; omega
                  case rel => exact ⟨(y124), (wrap64 (x4_1 + 1)), rz_, H', ⟨by have := HK1.out; omega⟩, ⟨ra_ HO126.out⟩, ⟨hb_⟩⟩
                · rw [if_neg c8] at H; exact absurd H (by simp)
              · rw [if_neg c7] at H; exact absurd H (by simp)
            · rw [if_neg c6] at H; exact absurd H (by simp)
          · rw [if_neg c5] at H; exact absurd H (by simp)
        · rw [if_neg c3] at H; exact absurd H (by simp)
      · rw [if_neg c2] at H; have c2b0 : decide (x4_1 < (l0.length : Int)) = false := decide_eq_false c2; clear c2; obtain rfl := Option.some.inj H; have hcv13 := own_string (P := Tryz.prog) Tryz.underlying68 Tryz.underlying5 Tryz.underlying9 (Kd.own_of_R HO_3.out); go_wp2; go_ret
        exact ⟨ew_, hb_⟩
end Go.Proofs.YtbkbganflnemeaaGreat.Pr
end

section
namespace Go.Proofs.YtbkbganflnemeaaGreat.Pr
open Go.RowKit Go.Proofs.YtbkbganflnemeaaGreatW.PrintWords Go.Proofs.YtbkbganflnemeaaGreatW.PrintLast Go.Proofs.YtbkbganflnemeaaGreatW.PrintMore
attribute [local go_sem] max2_int min2_int max_two min_two max_three min_three max_four min_four
mutual
def samphireref02_Block.j0 : Nat → ByteArray → ByteArray → Bool → Option (ByteArray × Int)
 | 0, _, _, _ => none
 | k + 1, x0, x1, x30 => if x30 = true then (some ((⟨#[]⟩ : ByteArray), 1)) else ((samphireref02_schedule.f k x1).bind fun t153 => ((samphireref02_constants.f).bind fun t156 => ((samphireref01_Big.f k x0).bind fun bt159 => ((samphireref01_Big.f k x0).bind fun bt163 => (samphireref02_Block.l0 k t153 t156 bt159.1 bt163.1 0)))))
def samphireref02_Block.l0 : Nat → List Int → List Int → List Int → List Int → Int → Option (ByteArray × Int)
 | 0, _, _, _, _, _ => none
 | k + 1, x6, x7, x8, x10, x12 => if x12 < 64 then (if 0 < (x10.length : Int) then (if 1 < (x10.length : Int) then (if 2 < (x10.length : Int) then (if 4 < (x10.length : Int) then (if 5 < (x10.length : Int) then (if 6 < (x10.length : Int) then (if 7 < (x10.length : Int) then ((samphireref02_right.f (rd x10 4) 6).bind fun t174 => ((samphireref02_right.f (rd x10 4) 11).bind fun t175 => ((samphireref02_right.f (rd x10 4) 25).bind fun t176 => ((samphireref01_Word.f (Go.bits .xor .i64 (-1) (rd x10 4))).bind fun t177 => (if 0 ≤ x12 then (if x12 < (x7.length : Int) then (if x12 < (x6.length : Int) then ((samphireref01_Word.f (wrap64 ((wrap64 ((wrap64 ((wrap64 ((rd x10 7) + (Go.bits .xor .i64 (Go.bits .xor .i64 t174 t175) t176))) + (Go.bits .xor .i64 (Go.bits .and .i64 (rd x10 4) (rd x10 5)) (Go.bits .and .i64 t177 (rd x10 6))))) + (rd x7 x12))) + (rd x6 x12)))).bind fun t180 => ((samphireref02_right.f (rd x10 0) 2).bind fun t181 => ((samphireref02_right.f (rd x10 0) 13).bind fun t182 => ((samphireref02_right.f (rd x10 0) 22).bind fun t183 => ((samphireref01_Word.f (wrap64 ((Go.bits .xor .i64 (Go.bits .xor .i64 t181 t182) t183) + (Go.bits .xor .i64 (Go.bits .xor .i64 (Go.bits .and .i64 (rd x10 0) (rd x10 1)) (Go.bits .and .i64 (rd x10 0) (rd x10 2))) (Go.bits .and .i64 (rd x10 1) (rd x10 2)))))).bind fun t184 => ((samphireref01_Word.f (wrap64 (t180 + t184))).bind fun t185 => (if 3 < (x10.length : Int) then ((samphireref01_Word.f (wrap64 ((rd x10 3) + t180))).bind fun t187 => (samphireref02_Block.l0 k x6 x7 x8 (([t185, rd x10 0, rd x10 1, rd x10 2, t187, rd x10 4, rd x10 5, rd x10 6] : List Int)) (wrap64 (x12 + 1)))) else (none)))))))) else (none)) else (none)) else (none)))))) else (none)) else (none)) else (none)) else (none)) else (none)) else (none)) else (none)) else (samphireref02_Block.l1 k x8 x10 ([] : List Int) 0)
def samphireref02_Block.l1 : Nat → List Int → List Int → List Int → Int → Option (ByteArray × Int)
 | 0, _, _, _, _ => none
 | k + 1, x8, x10, x21, x22 => if x22 < 8 then (if 0 ≤ x22 then (if x22 < (x8.length : Int) then (if x22 < (x10.length : Int) then ((samphireref01_Word.f (wrap64 ((rd x8 x22) + (rd x10 x22)))).bind fun t193 => (if x21.length < 17592186044416 then (samphireref02_Block.l1 k x8 x10 (x21 ++ [t193]) (wrap64 (x22 + 1))) else (none))) else (none)) else (none)) else (none)) else ((samphireref01_PutBig.f k x21).bind fun t197 => (some (t197, 0)))
end
def samphireref02_Block.f (k : Nat) (a0 : ByteArray) (a1 : ByteArray) : Option (ByteArray × Int) := if (a0.size : Int) = 32 then (samphireref02_Block.j0 k a0 a1 ((a1.size : Int) != 64)) else (samphireref02_Block.j0 k a0 a1 true)
def samphireref02_Block.T10 : Bool × List (List Nat × List Nat) := (true, [([], []), ([0], [0]), ([1], [1]), ([], []), ([3], [3]), ([4], [4]), ([], []), ([6], [6]), ([7], [7]), ([2, 0, 1, 2], [2]), ([5, 9, 0, 1, 2, 3, 4, 5, 9], [5]), ([8, 10, 0, 1, 2, 3, 4, 5, 6, 7, 8, 9, 10], [8])])
def samphireref02_Block.B10 : List Nat := [0, 1, 3, 0, 8, 24, 0, 64, 192, 7, 575, 2047]
theorem samphireref02_Block.tab10 : rtab .any (opsOf Tryz.f157 10) = samphireref02_Block.T10 := by kernel_rfl
theorem samphireref02_Block.bits10 : waitsOk samphireref02_Block.T10.2 samphireref02_Block.B10 = true := by kernel_rfl
def samphireref02_Block.T11 : Bool × List (List Nat × List Nat) := (true, [([], []), ([0], [0]), ([1], [1]), ([], []), ([3], [3]), ([4], [4]), ([], []), ([6], [6]), ([7], [7]), ([2, 0, 1, 2], [2]), ([5, 9, 0, 1, 2, 3, 4, 5, 9], [5]), ([8, 10, 0, 1, 2, 3, 4, 5, 6, 7, 8, 9, 10], [8])])
def samphireref02_Block.B11 : List Nat := [0, 1, 3, 0, 8, 24, 0, 64, 192, 7, 575, 2047]
theorem samphireref02_Block.tab11 : rtab .any (opsOf Tryz.f157 11) = samphireref02_Block.T11 := by kernel_rfl
theorem samphireref02_Block.bits11 : waitsOk samphireref02_Block.T11.2 samphireref02_Block.B11 = true := by kernel_rfl
def samphireref02_Block.T12 : Bool × List (List Nat × List Nat) := (true, [([], []), ([0], [0]), ([1], [1]), ([], []), ([3], [3]), ([], []), ([5, 4], [5]), ([4, 6], [4, 6]), ([], []), ([8, 6], [8]), ([7, 9], [7, 9]), ([2, 10], [2, 10]), ([], []), ([], []), ([12, 13], [12, 13]), ([], []), ([15], [15]), ([16, 9], [16]), ([], []), ([17, 18], [17, 18]), ([14, 19], [14, 19]), ([11, 20], [11, 20]), ([], []), ([], []), ([22, 23], [22, 23]), ([24], [24]), ([21, 25], [21, 25]), ([], []), ([], []), ([27, 28], [27, 28]), ([29], [29]), ([26, 30], [26, 30]), ([31, 17], [31]), ([32, 32, 0, 1, 2, 3, 4, 5, 6, 7, 8, 9, 10, 11, 12, 13, 14, 15, 16, 17, 18, 19, 20, 21, 22, 23, 24, 25, 26, 27, 28, 29, 30, 31, 32], [32])])
def samphireref02_Block.B12 : List Nat := [0, 1, 3, 0, 8, 0, 56, 120, 0, 376, 1016, 2047, 0, 0, 12288, 0, 32768, 99192, 0, 492408, 1045368, 2097151, 0, 0, 12582912, 29360128, 67108863, 0, 0, 402653184, 939524096, 2147483647, 4294967295, 8589934591]
theorem samphireref02_Block.tab12 : rtab .any (opsOf Tryz.f157 12) = samphireref02_Block.T12 := by kernel_rfl
theorem samphireref02_Block.bits12 : waitsOk samphireref02_Block.T12.2 samphireref02_Block.B12 = true := by kernel_rfl
def samphireref02_Block.T14 : Bool × List (List Nat × List Nat) := (true, [([], []), ([], []), ([0, 1], [0, 1]), ([2], [2]), ([], []), ([], []), ([], []), ([], []), ([7], [7]), ([8], [8]), ([], []), ([9, 10], [9, 10]), ([11, 3], [11]), ([], []), ([], []), ([], []), ([3, 4, 5, 6, 12, 13, 14, 15], [3, 4, 5, 6, 12, 13, 14, 15]), ([16, 12, 0, 1, 2, 3, 4, 5, 6, 7, 8, 9, 10, 11, 12, 13, 14, 15, 16], [7, 16])])
def samphireref02_Block.B14 : List Nat := [0, 0, 3, 7, 0, 0, 0, 0, 128, 384, 0, 1920, 3983, 0, 0, 0, 65535, 131071]
theorem samphireref02_Block.tab14 : rtab .any (opsOf Tryz.f157 14) = samphireref02_Block.T14 := by kernel_rfl
theorem samphireref02_Block.bits14 : waitsOk samphireref02_Block.T14.2 samphireref02_Block.B14 = true := by kernel_rfl
def samphireref02_Block.T19 : Bool × List (List Nat × List Nat) := (true, [([], []), ([], []), ([], []), ([1, 2], [1, 2]), ([3], [3]), ([], []), ([], []), ([5, 6], [5, 6]), ([7], [7]), ([4, 8], [4, 8]), ([9], [9]), ([10], [10]), ([0, 11, 10], [0, 11]), ([12, 12, 0, 1, 2, 3, 4, 5, 6, 7, 8, 9, 10, 11, 12], [0, 12])])
def samphireref02_Block.B19 : List Nat := [0, 0, 0, 6, 14, 0, 0, 96, 224, 510, 1022, 2046, 4095, 8191]
theorem samphireref02_Block.tab19 : rtab .any (opsOf Tryz.f157 19) = samphireref02_Block.T19 := by kernel_rfl
theorem samphireref02_Block.bits19 : waitsOk samphireref02_Block.T19.2 samphireref02_Block.B19 = true := by kernel_rfl
set_option maxHeartbeats 8000000 in
set_option maxRecDepth 100000 in
theorem samphireref02_Block.calls (k : Nat) (a0 : ByteArray) (a1 : ByteArray) (r1 : ByteArray) (r2 : Int) (w : World) (h : samphireref02_Block.f k a0 a1 = some (r1, r2)) :
    Calls Tryz.prog 157 #[.string a0, .string a1] w fun e w' => e = .returned (.tuple #[.string r1, .int .i64 r2]) ∧ Below w.heap.size w w' := by
  have HB := Aside0.mk (Below.refl w.heap.size w); have H : (if (a0.size : Int) = 32 then (samphireref02_Block.j0 k a0 a1 ((a1.size : Int) != 64)) else (samphireref02_Block.j0 k a0 a1 true)) = some (r1, r2) := h; clear h; have HC3 := Aside0.mk H; clear H; go_enter Tryz.func157, Tryz.ntmps157
  go_upto_region 1 with (fail)
  go_cut [30] (fun v30 wc => ∃ (kq : Nat) (x30_2 : Bool), v30 = .bool x30_2 ∧ Aside0 (samphireref02_Block.j0 kq a0 a1 x30_2 = some (r1, r2)) ∧ Aside0 (kq ≤ k) ∧ Aside0 (Below w.heap.size w wc))
  case first =>
    have H := HC3.out; clear HC3; by_cases c4 : (a0.size : Int) = 32
    · rw [if_pos c4] at H; have c4b0 : ((a0.size : Int) == 32) = true := beq_iff_eq.mpr c4; have c4b1 : ((a0.size : Int) != 32) = false := bne_eq_false_iff_eq.mpr c4; clear c4
      (first | rw [c4b0] | (simp only [i64_w, i32_w]; rw [c4b0]) | skip)
      have H' := Aside0.mk H; clear H; go_wp2; go_meet
      case rel => exact ⟨_, (((a1.size : Int) != 64)), rz_, H', ⟨by first | omega | exact Nat.le_refl _⟩, ⟨hb_⟩⟩
    · rw [if_neg c4] at H; have c4b0 : ((a0.size : Int) == 32) = false := beq_eq_false_iff_ne.mpr c4; have c4b1 : ((a0.size : Int) != 32) = true := bne_iff_ne.mpr c4
      (first | rw [c4b0] | (simp only [i64_w, i32_w]; rw [c4b0]) | skip)
      have H' := Aside0.mk H; clear H; go_wp2; go_meet
      case rel => exact ⟨_, (true), rz_, H', ⟨by first | omega | exact Nat.le_refl _⟩, ⟨hb_⟩⟩
  case rest =>
    clear HC3; obtain ⟨kq, x30_2, rfl, HA, HJ2, HB⟩ := hcut; cases kq with
    | zero => exact absurd HA.out (by simp [samphireref02_Block.j0])
    | succ kj2 =>
      have H := HA.out; clear HA; simp only [samphireref02_Block.j0] at H; by_cases c5 : x30_2 = true
      · subst c5; have H1 : (some ((⟨#[]⟩ : ByteArray), 1)) = some (r1, r2) := by rw [if_pos rfl] at H; exact H
        clear H; have H := H1; clear H1; simp only [Option.some.injEq, Prod.mk.injEq] at H; obtain ⟨rfl, rfl⟩ := H; go_wp2; go_ret2
        exact ⟨ew_, hb_⟩
      · replace c5 := Bool.eq_false_iff.mpr c5; subst c5; have H1 : ((samphireref02_schedule.f kj2 a1).bind fun t153 => ((samphireref02_constants.f).bind fun t156 => ((samphireref01_Big.f kj2 a0).bind fun bt159 => ((samphireref01_Big.f kj2 a0).bind fun bt163 => (samphireref02_Block.l0 kj2 t153 t156 bt159.1 bt163.1 0))))) = some (r1, r2) := by rw [if_neg (show ¬ (false = true) by decide)] at H; exact H
        clear H; have H := H1; clear H1; replace H := Option.bind_eq_some_iff.mp H; obtain ⟨t153, A60, H⟩ := H; have A6 := Aside0.mk A60; clear A60; replace H := Option.bind_eq_some_iff.mp H; obtain ⟨t156, A70, H⟩ := H; have A7 := Aside0.mk A70; clear A70; replace H := Option.bind_eq_some_iff.mp H; obtain ⟨⟨t159, t160⟩, A80, H⟩ := H; try dsimp only at H
        have A8 := Aside0.mk A80; clear A80; replace H := Option.bind_eq_some_iff.mp H; obtain ⟨⟨t163, t164⟩, A90, H⟩ := H; try dsimp only at H
        have A9 := Aside0.mk A90; clear A90; have H' := Aside0.mk H; clear H; go_wp2_with (first | ((with_reducible refine gate_callee (f := 185) rfl ?_); refine gl_ 32 Tryz.func185 #[.string a1] ?_; (with_reducible refine (samphireref02_schedule.calls kj2 a1 t153 _ A6.out).mono ?_); rintro e w10 ⟨v154, rfl, ho0, hb⟩; refine ⟨_, rfl, ?_⟩; have HO155 := Aside0.mk (Kd.R_lower ho0 (below_size hb_)); replace HB := Aside0.mk (below_step hb_ hb); (try clear ho0)) | ((with_reducible refine gate_callee (f := 186) rfl ?_); refine gl_ 33 Tryz.func186 #[] ?_; (with_reducible refine (samphireref02_constants.calls  t156 _ A7.out).mono ?_); rintro e w11 ⟨v157, rfl, ho0, hb⟩; refine ⟨_, rfl, ?_⟩; have HO158 := Aside0.mk (Kd.R_lower (Kd.R_new' ho0 (Kd.R_lt (ra_ HO155.out))) (below_size hb_)); replace HO155 := Aside0.mk (Kd.R_elder' (ra_ HO155.out) (Kd.R_base ho0) hb); replace HB := Aside0.mk (below_step hb_ hb); (try clear ho0)) | ((with_reducible refine gate_callee (f := 187) rfl ?_); refine gl_ 36 Tryz.func187 #[.string a0] ?_; (with_reducible refine (samphireref01_Big.calls kj2 a0 t159 t160 _ A8.out).mono ?_); rintro e w12 ⟨v161, rfl, ho0, hb⟩; refine ⟨_, rfl, ?_⟩; have HO162 := Aside0.mk (Kd.R_lower (Kd.R_new' (Kd.R_new' ho0 (Kd.R_lt (ra_ HO155.out))) (Kd.R_lt (ra_ HO158.out))) (below_size hb_)); replace HO155 := Aside0.mk (Kd.R_elder' (ra_ HO155.out) (Kd.R_base ho0) hb); replace HO158 := Aside0.mk (Kd.R_elder' (ra_ HO158.out) (Kd.R_base ho0) hb); replace HB := Aside0.mk (below_step hb_ hb); (try clear ho0)) | ((with_reducible refine gate_callee (f := 187) rfl ?_); refine gl_ 41 Tryz.func187 #[.string a0] ?_; (with_reducible refine (samphireref01_Big.calls kj2 a0 t163 t164 _ A9.out).mono ?_); rintro e w13 ⟨v165, rfl, ho0, hb⟩; refine ⟨_, rfl, ?_⟩; have HO166 := Aside0.mk (Kd.R_lower (Kd.R_new' (Kd.R_new' (Kd.R_new' ho0 (Kd.R_lt (ra_ HO155.out))) (Kd.R_lt (ra_ HO158.out))) (Kd.R_lt (ra_ HO162.out))) (below_size hb_)); replace HO155 := Aside0.mk (Kd.R_elder' (ra_ HO155.out) (Kd.R_base ho0) hb); replace HO158 := Aside0.mk (Kd.R_elder' (ra_ HO158.out) (Kd.R_base ho0) hb); replace HO162 := Aside0.mk (Kd.R_elder' (ra_ HO162.out) (Kd.R_base ho0) hb); replace HB := Aside0.mk (below_step hb_ hb); (try clear ho0)))
        go_loopg [10, 12] kj2 (fun kq v10 v12 w' => ∃ (x10_2 : List Int) (x12_2 : Int), v12 = .int .i64 x12_2 ∧ Aside0 (samphireref02_Block.l0 kq t153 t156 t159 x10_2 x12_2 = some (r1, r2)) ∧ Aside0 (kq ≤ kj2) ∧ Aside0 (Kd.R (Kd.int .i64) 3 w' w.heap.size (fun k_ => some k_ ≠ (v157 : Value).ownBlock ∧ some k_ ≠ (v161 : Value).ownBlock ∧ some k_ ≠ (v10 : Value).ownBlock) v154 t153) ∧ Aside0 (Kd.R (Kd.int .i64) 3 w' w.heap.size (fun k_ => some k_ ≠ (v154 : Value).ownBlock ∧ some k_ ≠ (v161 : Value).ownBlock ∧ some k_ ≠ (v10 : Value).ownBlock) v157 t156) ∧ Aside0 (Kd.R (Kd.int .i64) 3 w' w.heap.size (fun k_ => some k_ ≠ (v154 : Value).ownBlock ∧ some k_ ≠ (v157 : Value).ownBlock ∧ some k_ ≠ (v10 : Value).ownBlock) v161 t159) ∧ Aside0 (Kd.R (Kd.int .i64) 3 w' w.heap.size (fun k_ => some k_ ≠ (v154 : Value).ownBlock ∧ some k_ ≠ (v157 : Value).ownBlock ∧ some k_ ≠ (v161 : Value).ownBlock) v10 x10_2) ∧ Aside0 (Below w.heap.size w w'))
        case atStart => exact ⟨(t163), (0), rz_, H', ⟨Nat.le_refl _⟩, ⟨by (with_reducible repeat (first | apply Kd.R_alloc | apply Kd.R_drewN | apply Kd.R_drew)); exact Kd.R_mono HO155.out (fun _ hk => by first | exact ⟨hk.1.1.2, ⟨hk.1.2, hk.2⟩⟩ | exact gk_)⟩, ⟨by (with_reducible repeat (first | apply Kd.R_alloc | apply Kd.R_drewN | apply Kd.R_drew)); exact Kd.R_mono HO158.out (fun _ hk => by first | exact ⟨hk.1.1.2, ⟨hk.1.2, hk.2⟩⟩ | exact gk_)⟩, ⟨by (with_reducible repeat (first | apply Kd.R_alloc | apply Kd.R_drewN | apply Kd.R_drew)); exact Kd.R_mono HO162.out (fun _ hk => by first | exact ⟨hk.1.1.2, ⟨hk.1.2, hk.2⟩⟩ | exact gk_)⟩, ⟨by (with_reducible repeat (first | apply Kd.R_alloc | apply Kd.R_drewN | apply Kd.R_drew)); exact Kd.R_mono HO166.out (fun _ hk => by first | exact ⟨hk.1.1.2, ⟨hk.1.2, hk.2⟩⟩ | exact gk_)⟩, ⟨hb_⟩⟩
        case round =>
          clear H'; obtain ⟨x10_2, x12_2, rfl, HA, HK2, HO_6, HO_7, HO_8, HO_10, HB⟩ := hrel; cases gk with
          | zero => exact absurd HA.out (by simp [samphireref02_Block.l0])
          | succ k2 =>
            have H := HA.out; clear HA; simp only [samphireref02_Block.l0] at H; by_cases c14 : x12_2 < 64
            · rw [if_pos c14] at H; have c14b0 : decide (x12_2 < 64) = true := decide_eq_true c14; clear c14; by_cases c15 : 0 < (x10_2.length : Int)
              · rw [if_pos c15] at H; have c15b0 : decide (0 < (x10_2.length : Int)) = true := decide_eq_true c15; have c15b1 : decide (0 < x10_2.length) = true := decide_eq_true (by omega); clear c15; by_cases c16 : 1 < (x10_2.length : Int)
                · rw [if_pos c16] at H; have c16b0 : decide (1 < (x10_2.length : Int)) = true := decide_eq_true c16; have c16b1 : decide (1 < x10_2.length) = true := decide_eq_true (by omega); clear c16; by_cases c17 : 2 < (x10_2.length : Int)
                  · rw [if_pos c17] at H; have c17b0 : decide (2 < (x10_2.length : Int)) = true := decide_eq_true c17; have c17b1 : decide (2 < x10_2.length) = true := decide_eq_true (by omega); clear c17; by_cases c18 : 4 < (x10_2.length : Int)
                    · rw [if_pos c18] at H; have c18b0 : decide (4 < (x10_2.length : Int)) = true := decide_eq_true c18; have c18b1 : decide (4 < x10_2.length) = true := decide_eq_true (by omega); clear c18; by_cases c19 : 5 < (x10_2.length : Int)
                      · rw [if_pos c19] at H; have c19b0 : decide (5 < (x10_2.length : Int)) = true := decide_eq_true c19; have c19b1 : decide (5 < x10_2.length) = true := decide_eq_true (by omega); clear c19; by_cases c20 : 6 < (x10_2.length : Int)
                        · rw [if_pos c20] at H; have c20b0 : decide (6 < (x10_2.length : Int)) = true := decide_eq_true c20; have c20b1 : decide (6 < x10_2.length) = true := decide_eq_true (by omega); clear c20; by_cases c21 : 7 < (x10_2.length : Int)
                          · rw [if_pos c21] at H; have c21b0 : decide (7 < (x10_2.length : Int)) = true := decide_eq_true c21; have c21b1 : decide (7 < x10_2.length) = true := decide_eq_true (by omega); clear c21; replace H := Option.bind_eq_some_iff.mp H; obtain ⟨t174, A220, H⟩ := H; have A22 := Aside0.mk A220; clear A220; replace H := Option.bind_eq_some_iff.mp H; obtain ⟨t175, A230, H⟩ := H; have A23 := Aside0.mk A230; clear A230; replace H := Option.bind_eq_some_iff.mp H; obtain ⟨t176, A240, H⟩ := H; have A24 := Aside0.mk A240; clear A240; replace H := Option.bind_eq_some_iff.mp H; obtain ⟨t177, A250, H⟩ := H; have A25 := Aside0.mk A250; clear A250; by_cases c26 : 0 ≤ x12_2
                            · rw [if_pos c26] at H; have c26b0 : decide (0 ≤ x12_2) = true := decide_eq_true c26; clear c26; by_cases c27 : x12_2 < (t156.length : Int)
                              · rw [if_pos c27] at H; have c27b0 : decide (x12_2 < (t156.length : Int)) = true := decide_eq_true c27; clear c27; by_cases c28 : x12_2 < (t153.length : Int)
                                · rw [if_pos c28] at H; have c28b0 : decide (x12_2 < (t153.length : Int)) = true := decide_eq_true c28; clear c28; replace H := Option.bind_eq_some_iff.mp H; obtain ⟨t180, A290, H⟩ := H; have A29 := Aside0.mk A290; clear A290; replace H := Option.bind_eq_some_iff.mp H; obtain ⟨t181, A300, H⟩ := H; have A30 := Aside0.mk A300; clear A300; replace H := Option.bind_eq_some_iff.mp H; obtain ⟨t182, A310, H⟩ := H; have A31 := Aside0.mk A310; clear A310; replace H := Option.bind_eq_some_iff.mp H; obtain ⟨t183, A320, H⟩ := H; have A32 := Aside0.mk A320; clear A320; replace H := Option.bind_eq_some_iff.mp H; obtain ⟨t184, A330, H⟩ := H; have A33 := Aside0.mk A330; clear A330; replace H := Option.bind_eq_some_iff.mp H; obtain ⟨t185, A340, H⟩ := H; have A34 := Aside0.mk A340; clear A340; by_cases c35 : 3 < (x10_2.length : Int)
                                  · rw [if_pos c35] at H; have c35b0 : decide (3 < (x10_2.length : Int)) = true := decide_eq_true c35; have c35b1 : decide (3 < x10_2.length) = true := decide_eq_true (by omega); clear c35; replace H := Option.bind_eq_some_iff.mp H; obtain ⟨t187, A360, H⟩ := H; have A36 := Aside0.mk A360; clear A360; obtain ⟨y188, hy188⟩ : ∃ y_ : List Int, y_ = (([t185, rd x10_2 0, rd x10_2 1, rd x10_2 2, t187, rd x10_2 4, rd x10_2 5, rd x10_2 6] : List Int)) := ⟨_, rfl⟩; replace H : (samphireref02_Block.l0 k2 t153 t156 t159 y188 (wrap64 (x12_2 + 1))) = some (r1, r2) := by first | (rw [hy188]; with_reducible exact H) | (have H2_ := (Option.bind_some _ _).symm.trans H; rw [hy188]; with_reducible exact H2_) | (have H2_ := (Option.bind_some _ _).symm.trans H; with_reducible exact H2_) | with_reducible exact H | (rw [hy188]; exact H) | exact H
                                    have Ny188 := Aside0.mk hy188; clear hy188; have H' := Aside0.mk H; clear H; try go_wp2
                                    replace HO_6 := Aside0.mk (Kd.R_drew HO_6.out); replace HO_7 := Aside0.mk (Kd.R_drew HO_7.out); replace HO_8 := Aside0.mk (Kd.R_drew HO_8.out); replace HO_10 := Aside0.mk (Kd.R_drew HO_10.out); replace HB := Aside0.mk (below_drew1 HB.out); obtain ⟨Ao38, co38, eo38⟩ := Kd.R_slice HO_10.out
                                    (first | subst eo38 | (injection eo38 with f1_ f2_ f3_; have f4_ := f1_.symm; have f5_ := f3_.symm; clear f1_ f2_ f3_; subst f4_; subst f5_))
                                    have p167 : 0 ≤ (0 : Int) := (by omega); have q167 : 0 < (x10_2.length : Int) := of_decide_eq_true as_'; obtain ⟨ad167, e167, hx167_0⟩ := Kd.at_int (Kd.R_reads' HO_10.out).2.2 0 p167 q167; cases e167; have qi167 : (0 < x10_2.length) = True := eq_true (by omega)
                                    (try rw [show ((0 : Int)).toNat = 0 from rfl] at hx167_0)
                                    (try rw [Addr.add_zero'] at hx167_0)
                                    replace p167 := eq_true p167; replace q167 := eq_true q167; have p168 : 0 ≤ (1 : Int) := (by omega); have q168 : 1 < (x10_2.length : Int) := of_decide_eq_true as_'; obtain ⟨ad168, e168, hx168_0⟩ := Kd.at_int (Kd.R_reads' HO_10.out).2.2 1 p168 q168; obtain rfl : ad167 = ad168 := (by injection e168)
                                    (try simp only [show (1 : Int).toNat = 1 from rfl, Nat.reduceMul, Nat.reduceEqDiff, Go.Addr.add, ↓reduceIte] at hx168_0)
                                    have qi168 : (1 < x10_2.length) = True := eq_true (by omega)
                                    (try rw [show ((1 : Int)).toNat = 1 from rfl] at hx168_0)
                                    replace p168 := eq_true p168; replace q168 := eq_true q168; have p169 : 0 ≤ (2 : Int) := (by omega); have q169 : 2 < (x10_2.length : Int) := of_decide_eq_true as_'; obtain ⟨ad169, e169, hx169_0⟩ := Kd.at_int (Kd.R_reads' HO_10.out).2.2 2 p169 q169; obtain rfl : ad167 = ad169 := (by injection e169)
                                    (try simp only [show (2 : Int).toNat = 2 from rfl, Nat.reduceMul, Nat.reduceEqDiff, Go.Addr.add, ↓reduceIte] at hx169_0)
                                    have qi169 : (2 < x10_2.length) = True := eq_true (by omega)
                                    (try rw [show ((2 : Int)).toNat = 2 from rfl] at hx169_0)
                                    replace p169 := eq_true p169; replace q169 := eq_true q169; refine start_ (n := 12) (S := fun w' => w'.cell? ad167 = some (.int .i64 (rd x10_2 0)) ∧ w'.cell? ⟨ad167.block, ad167.off + 1, none⟩ = some (.int .i64 (rd x10_2 1)) ∧ w'.cell? ⟨ad167.block, ad167.off + 2, none⟩ = some (.int .i64 (rd x10_2 2))) (ds := []) #[false, false, false, false, false, false, false, false, false, false, false, false] (by kernel_rfl) rfl rfl ⟨hx167_0, hx168_0, hx169_0⟩ (fun hHeld => ?_); refine with_tabW samphireref02_Block.tab10 samphireref02_Block.bits10 (fun HT_ HW_ => ?_); generalize wr.drew = w37 at HO_6 HO_7 HO_8 HO_10 HB hx167_0 hx168_0 hx169_0 hHeld ⊢; refine pz_ 0 48 rfl rfl (any_of HT_.out (by kernel_rfl)) ?_; refine pz_ 1 49 rfl rfl (any_of HT_.out (by kernel_rfl)) ?_; refine pz_ 3 51 rfl rfl (any_of HT_.out (by kernel_rfl)) ?_; refine pz_ 4 52 rfl rfl (any_of HT_.out (by kernel_rfl)) ?_; refine pz_ 6 54 rfl rfl (any_of HT_.out (by kernel_rfl)) ?_; refine pz_ 7 55 rfl rfl (any_of HT_.out (by kernel_rfl)) ?_; refine take_ (i := 2) (N := some 50) (v := ?_) (a' := ?_) #[true, true, true, true, true, false, true, true, false, false, false, false] rfl rfl (take_ofW HT_.out HW_.out (by kernel_rfl)) (fun _ _ _ h => h) (Or.inl ⟨by rfl, ?_⟩) hHeld ?_ ?_; rotate_left
                                    · rintro w' ⟨s0, s1, s2⟩; go_simp
                                      with_reducible rfl
                                    rotate_left
                                    · simp only [Act.put, List.setIfInBounds_toArray, List.set_cons_zero, List.set_cons_succ, i64_w, i32_w]; rfl
                                    refine pz_ 9 13 rfl rfl (any_of HT_.out (by kernel_rfl)) ?_; refine take_ (i := 5) (N := some 53) (v := ?_) (a' := ?_) #[true, true, true, true, true, true, true, true, false, true, false, false] rfl rfl (take_ofW HT_.out HW_.out (by kernel_rfl)) (fun _ _ _ h => h) (Or.inl ⟨by rfl, ?_⟩) hHeld ?_ ?_; rotate_left
                                    · rintro w' ⟨s0, s1, s2⟩; go_simp
                                      with_reducible rfl
                                    rotate_left
                                    · simp only [Act.put, List.setIfInBounds_toArray, List.set_cons_zero, List.set_cons_succ, i64_w, i32_w]; rfl
                                    refine pz_ 10 14 rfl rfl (any_of HT_.out (by kernel_rfl)) ?_; refine take_ (i := 8) (N := some 56) (v := ?_) (a' := ?_) #[true, true, true, true, true, true, true, true, true, true, true, false] rfl rfl (take_ofW HT_.out HW_.out (by kernel_rfl)) (fun _ _ _ h => h) (Or.inl ⟨by rfl, ?_⟩) hHeld ?_ ?_; rotate_left
                                    · rintro w' ⟨s0, s1, s2⟩; go_simp
                                      with_reducible rfl
                                    rotate_left
                                    · simp only [Act.put, List.setIfInBounds_toArray, List.set_cons_zero, List.set_cons_succ, i64_w, i32_w]; rfl
                                    refine pz_ 11 15 rfl rfl (any_of HT_.out (by kernel_rfl)) ?_; refine done_ (done_of HT_.out (by kernel_rfl)) ?_; try go_wp2
                                    replace HO_6 := Aside0.mk (Kd.R_drew HO_6.out); replace HO_7 := Aside0.mk (Kd.R_drew HO_7.out); replace HO_8 := Aside0.mk (Kd.R_drew HO_8.out); replace HO_10 := Aside0.mk (Kd.R_drew HO_10.out); replace HB := Aside0.mk (below_drew1 HB.out); have p170 : 0 ≤ (4 : Int) := (by omega); have q170 : 4 < (x10_2.length : Int) := of_decide_eq_true as_'; obtain ⟨ad170, e170, hx170_0⟩ := Kd.at_int (Kd.R_reads' HO_10.out).2.2 4 p170 q170; obtain rfl : ad167 = ad170 := (by injection e170)
                                    (try simp only [show (4 : Int).toNat = 4 from rfl, Nat.reduceMul, Nat.reduceEqDiff, Go.Addr.add, ↓reduceIte] at hx170_0)
                                    have qi170 : (4 < x10_2.length) = True := eq_true (by omega)
                                    (try rw [show ((4 : Int)).toNat = 4 from rfl] at hx170_0)
                                    replace p170 := eq_true p170; replace q170 := eq_true q170; have p171 : 0 ≤ (5 : Int) := (by omega); have q171 : 5 < (x10_2.length : Int) := of_decide_eq_true as_'; obtain ⟨ad171, e171, hx171_0⟩ := Kd.at_int (Kd.R_reads' HO_10.out).2.2 5 p171 q171; obtain rfl : ad167 = ad171 := (by injection e171)
                                    (try simp only [show (5 : Int).toNat = 5 from rfl, Nat.reduceMul, Nat.reduceEqDiff, Go.Addr.add, ↓reduceIte] at hx171_0)
                                    have qi171 : (5 < x10_2.length) = True := eq_true (by omega)
                                    (try rw [show ((5 : Int)).toNat = 5 from rfl] at hx171_0)
                                    replace p171 := eq_true p171; replace q171 := eq_true q171; have p172 : 0 ≤ (6 : Int) := (by omega); have q172 : 6 < (x10_2.length : Int) := of_decide_eq_true as_'; obtain ⟨ad172, e172, hx172_0⟩ := Kd.at_int (Kd.R_reads' HO_10.out).2.2 6 p172 q172; obtain rfl : ad167 = ad172 := (by injection e172)
                                    (try simp only [show (6 : Int).toNat = 6 from rfl, Nat.reduceMul, Nat.reduceEqDiff, Go.Addr.add, ↓reduceIte] at hx172_0)
                                    have qi172 : (6 < x10_2.length) = True := eq_true (by omega)
                                    (try rw [show ((6 : Int)).toNat = 6 from rfl] at hx172_0)
                                    replace p172 := eq_true p172; replace q172 := eq_true q172; refine start_ (n := 12) (S := fun w' => w'.cell? ⟨ad167.block, ad167.off + 4, none⟩ = some (.int .i64 (rd x10_2 4)) ∧ w'.cell? ⟨ad167.block, ad167.off + 5, none⟩ = some (.int .i64 (rd x10_2 5)) ∧ w'.cell? ⟨ad167.block, ad167.off + 6, none⟩ = some (.int .i64 (rd x10_2 6))) (ds := []) #[false, false, false, false, false, false, false, false, false, false, false, false] (by kernel_rfl) rfl rfl ⟨hx170_0, hx171_0, hx172_0⟩ (fun hHeld => ?_); refine with_tabW samphireref02_Block.tab11 samphireref02_Block.bits11 (fun HT_ HW_ => ?_); generalize w37.drew = w39 at HO_6 HO_7 HO_8 HO_10 HB hx170_0 hx171_0 hx172_0 hHeld ⊢; refine pz_ 0 57 rfl rfl (any_of HT_.out (by kernel_rfl)) ?_; refine pz_ 1 58 rfl rfl (any_of HT_.out (by kernel_rfl)) ?_; refine pz_ 3 60 rfl rfl (any_of HT_.out (by kernel_rfl)) ?_; refine pz_ 4 61 rfl rfl (any_of HT_.out (by kernel_rfl)) ?_; refine pz_ 6 63 rfl rfl (any_of HT_.out (by kernel_rfl)) ?_; refine pz_ 7 64 rfl rfl (any_of HT_.out (by kernel_rfl)) ?_; refine take_ (i := 2) (N := some 59) (v := ?_) (a' := ?_) #[true, true, true, true, true, false, true, true, false, false, false, false] rfl rfl (take_ofW HT_.out HW_.out (by kernel_rfl)) (fun _ _ _ h => h) (Or.inl ⟨by rfl, ?_⟩) hHeld ?_ ?_; rotate_left
                                    · rintro w' ⟨s0, s1, s2⟩; go_simp
                                      with_reducible rfl
                                    rotate_left
                                    · simp only [Act.put, List.setIfInBounds_toArray, List.set_cons_zero, List.set_cons_succ, i64_w, i32_w]; rfl
                                    refine pz_ 9 16 rfl rfl (any_of HT_.out (by kernel_rfl)) ?_; refine take_ (i := 5) (N := some 62) (v := ?_) (a' := ?_) #[true, true, true, true, true, true, true, true, false, true, false, false] rfl rfl (take_ofW HT_.out HW_.out (by kernel_rfl)) (fun _ _ _ h => h) (Or.inl ⟨by rfl, ?_⟩) hHeld ?_ ?_; rotate_left
                                    · rintro w' ⟨s0, s1, s2⟩; go_simp
                                      with_reducible rfl
                                    rotate_left
                                    · simp only [Act.put, List.setIfInBounds_toArray, List.set_cons_zero, List.set_cons_succ, i64_w, i32_w]; rfl
                                    refine pz_ 10 17 rfl rfl (any_of HT_.out (by kernel_rfl)) ?_; refine take_ (i := 8) (N := some 65) (v := ?_) (a' := ?_) #[true, true, true, true, true, true, true, true, true, true, true, false] rfl rfl (take_ofW HT_.out HW_.out (by kernel_rfl)) (fun _ _ _ h => h) (Or.inl ⟨by rfl, ?_⟩) hHeld ?_ ?_; rotate_left
                                    · rintro w' ⟨s0, s1, s2⟩; go_simp
                                      with_reducible rfl
                                    rotate_left
                                    · simp only [Act.put, List.setIfInBounds_toArray, List.set_cons_zero, List.set_cons_succ, i64_w, i32_w]; rfl
                                    refine pz_ 11 18 rfl rfl (any_of HT_.out (by kernel_rfl)) ?_; refine done_ (done_of HT_.out (by kernel_rfl)) ?_; try go_wp2
                                    replace HO_6 := Aside0.mk (Kd.R_drew HO_6.out); replace HO_7 := Aside0.mk (Kd.R_drew HO_7.out); replace HO_8 := Aside0.mk (Kd.R_drew HO_8.out); replace HO_10 := Aside0.mk (Kd.R_drew HO_10.out); replace HB := Aside0.mk (below_drew1 HB.out); have p173 : 0 ≤ (7 : Int) := (by omega); have q173 : 7 < (x10_2.length : Int) := of_decide_eq_true as_'; obtain ⟨ad173, e173, hx173_0⟩ := Kd.at_int (Kd.R_reads' HO_10.out).2.2 7 p173 q173; obtain rfl : ad167 = ad173 := (by injection e173)
                                    (try simp only [show (7 : Int).toNat = 7 from rfl, Nat.reduceMul, Nat.reduceEqDiff, Go.Addr.add, ↓reduceIte] at hx173_0)
                                    have qi173 : (7 < x10_2.length) = True := eq_true (by omega)
                                    (try rw [show ((7 : Int)).toNat = 7 from rfl] at hx173_0)
                                    replace p173 := eq_true p173; replace q173 := eq_true q173; obtain ⟨Ao41, co41, eo41⟩ := Kd.R_slice HO_7.out
                                    (first | subst eo41 | (injection eo41 with f1_ f2_ f3_; have f4_ := f1_.symm; have f5_ := f3_.symm; clear f1_ f2_ f3_; subst f4_; subst f5_))
                                    have p178 : 0 ≤ (x12_2 : Int) := of_decide_eq_true as_'; have q178 : x12_2 < (t156.length : Int) := of_decide_eq_true as_'; obtain ⟨ad178, e178, hx178_0⟩ := Kd.at_int (Kd.R_reads' HO_7.out).2.2 x12_2 p178 q178; cases e178; replace p178 := eq_true p178; replace q178 := eq_true q178; obtain ⟨Ao42, co42, eo42⟩ := Kd.R_slice HO_6.out
                                    (first | subst eo42 | (injection eo42 with f1_ f2_ f3_; have f4_ := f1_.symm; have f5_ := f3_.symm; clear f1_ f2_ f3_; subst f4_; subst f5_))
                                    have p179 : 0 ≤ (x12_2 : Int) := of_decide_eq_true as_'; have q179 : x12_2 < (t153.length : Int) := of_decide_eq_true as_'; obtain ⟨ad179, e179, hx179_0⟩ := Kd.at_int (Kd.R_reads' HO_6.out).2.2 x12_2 p179 q179; cases e179; replace p179 := eq_true p179; replace q179 := eq_true q179; refine start_ (n := 34) (S := fun w' => w'.cell? ⟨ad167.block, ad167.off + 7, none⟩ = some (.int .i64 (rd x10_2 7)) ∧ w'.cell? (ad178.add (x12_2).toNat) = some (.int .i64 (rd t156 x12_2)) ∧ w'.cell? (ad179.add (x12_2).toNat) = some (.int .i64 (rd t153 x12_2))) (ds := []) #[false, false, false, false, false, false, false, false, false, false, false, false, false, false, false, false, false, false, false, false, false, false, false, false, false, false, false, false, false, false, false, false, false, false] (by kernel_rfl) rfl rfl ⟨hx173_0, hx178_0, hx179_0⟩ (fun hHeld => ?_); refine with_tabW samphireref02_Block.tab12 samphireref02_Block.bits12 (fun HT_ HW_ => ?_); generalize w39.drew = w40 at HO_6 HO_7 HO_8 HO_10 HB hx173_0 hx178_0 hx179_0 hHeld ⊢; refine pz_ 0 66 rfl rfl (any_of HT_.out (by kernel_rfl)) ?_; refine pz_ 1 67 rfl rfl (any_of HT_.out (by kernel_rfl)) ?_; refine pz_ 3 69 rfl rfl (any_of HT_.out (by kernel_rfl)) ?_; refine pz_ 5 71 rfl rfl (any_of HT_.out (by kernel_rfl)) ?_; refine pz_ 8 74 rfl rfl (any_of HT_.out (by kernel_rfl)) ?_; refine pz_ 12 78 rfl rfl (any_of HT_.out (by kernel_rfl)) ?_; refine pz_ 13 79 rfl rfl (any_of HT_.out (by kernel_rfl)) ?_; refine pz_ 14 80 rfl rfl (any_of HT_.out (by kernel_rfl)) ?_; refine pz_ 15 81 rfl rfl (any_of HT_.out (by kernel_rfl)) ?_; refine pz_ 16 82 rfl rfl (any_of HT_.out (by kernel_rfl)) ?_; refine pz_ 18 84 rfl rfl (any_of HT_.out (by kernel_rfl)) ?_; refine pz_ 22 88 rfl rfl (any_of HT_.out (by kernel_rfl)) ?_; refine pz_ 23 89 rfl rfl (any_of HT_.out (by kernel_rfl)) ?_; refine pz_ 24 90 rfl rfl (any_of HT_.out (by kernel_rfl)) ?_; refine pz_ 27 93 rfl rfl (any_of HT_.out (by kernel_rfl)) ?_; refine pz_ 28 94 rfl rfl (any_of HT_.out (by kernel_rfl)) ?_; refine pz_ 29 95 rfl rfl (any_of HT_.out (by kernel_rfl)) ?_; refine take_ (i := 2) (N := some 68) (v := ?_) (a' := ?_) #[true, true, true, true, false, true, false, false, true, false, false, false, true, true, true, true, true, false, true, false, false, false, true, true, true, false, false, true, true, true, false, false, false, false] rfl rfl (take_ofW HT_.out HW_.out (by kernel_rfl)) (fun _ _ _ h => h) (Or.inl ⟨by rfl, ?_⟩) hHeld ?_ ?_; rotate_left
                                    · rintro w' ⟨s0, s1, s2⟩; go_simp
                                      with_reducible rfl
                                    rotate_left
                                    · simp only [Act.put, List.setIfInBounds_toArray, List.set_cons_zero, List.set_cons_succ, i64_w, i32_w]; rfl
                                    refine take_ (i := 25) (N := some 91) (v := ?_) (a' := ?_) #[true, true, true, true, false, true, false, false, true, false, false, false, true, true, true, true, true, false, true, false, false, false, true, true, true, true, false, true, true, true, false, false, false, false] rfl rfl (take_ofW HT_.out HW_.out (by kernel_rfl)) (fun _ _ _ h => h) (Or.inl ⟨by rfl, ?_⟩) hHeld ?_ ?_; rotate_left
                                    · rintro w' ⟨s0, s1, s2⟩; go_simp
                                      with_reducible rfl
                                    rotate_left
                                    · simp only [Act.put, List.setIfInBounds_toArray, List.set_cons_zero, List.set_cons_succ, i64_w, i32_w]; rfl
                                    refine take_ (i := 30) (N := some 96) (v := ?_) (a' := ?_) #[true, true, true, true, false, true, false, false, true, false, false, false, true, true, true, true, true, false, true, false, false, false, true, true, true, true, false, true, true, true, true, false, false, false] rfl rfl (take_ofW HT_.out HW_.out (by kernel_rfl)) (fun _ _ _ h => h) (Or.inl ⟨by rfl, ?_⟩) hHeld ?_ ?_; rotate_left
                                    · rintro w' ⟨s0, s1, s2⟩; go_simp
                                      with_reducible rfl
                                    rotate_left
                                    · simp only [Act.put, List.setIfInBounds_toArray, List.set_cons_zero, List.set_cons_succ, i64_w, i32_w]; rfl
                                    refine one_ (i := 4) (N := some 70) #[true, true, true, true, true, true, false, false, true, false, false, false, true, true, true, true, true, false, true, false, false, false, true, true, true, true, false, true, true, true, true, false, false, false] rfl rfl (one_of HT_.out (by kernel_rfl)) (by decide) (fun K hK => ?_); refine goes_ Tryz.func188 (by kernel_rfl) rfl #[.int .i64 (rd x10_2 4), .int .i64 6] (by rfl) rfl rfl la_ ?_; with_reducible refine (samphireref02_right.calls (rd x10_2 4) 6 t174 _ A22.out).mono ?_
                                    rintro e w' ⟨rfl, ⟨nd, rfl⟩⟩; refine ⟨_, rfl, ?_⟩; refine hK.out _ _ ⟨hHeld.1, hHeld.2.1, hHeld.2.2⟩ (fun hHeld => ?_); clear hK K; refine norm_ sa_ ?_; refine one_ (i := 6) (N := some 72) #[true, true, true, true, true, true, true, false, true, false, false, false, true, true, true, true, true, false, true, false, false, false, true, true, true, true, false, true, true, true, true, false, false, false] rfl rfl (one_of HT_.out (by kernel_rfl)) (by decide) (fun K hK => ?_); refine goes_ Tryz.func188 (by kernel_rfl) rfl #[.int .i64 (rd x10_2 4), .int .i64 11] (by rfl) rfl rfl la_ ?_; with_reducible refine (samphireref02_right.calls (rd x10_2 4) 11 t175 _ A23.out).mono ?_
                                    rintro e w' ⟨rfl, ⟨nd, rfl⟩⟩; refine ⟨_, rfl, ?_⟩; refine hK.out _ _ ⟨hHeld.1, hHeld.2.1, hHeld.2.2⟩ (fun hHeld => ?_); clear hK K; refine norm_ sa_ ?_; refine pz_ 7 73 rfl rfl (any_of HT_.out (by kernel_rfl)) ?_; refine one_ (i := 9) (N := some 75) #[true, true, true, true, true, true, true, true, true, true, false, false, true, true, true, true, true, false, true, false, false, false, true, true, true, true, false, true, true, true, true, false, false, false] rfl rfl (one_of HT_.out (by kernel_rfl)) (by decide) (fun K hK => ?_); refine goes_ Tryz.func188 (by kernel_rfl) rfl #[.int .i64 (rd x10_2 4), .int .i64 25] (by rfl) rfl rfl la_ ?_; with_reducible refine (samphireref02_right.calls (rd x10_2 4) 25 t176 _ A24.out).mono ?_
                                    rintro e w' ⟨rfl, ⟨nd, rfl⟩⟩; refine ⟨_, rfl, ?_⟩; refine hK.out _ _ ⟨hHeld.1, hHeld.2.1, hHeld.2.2⟩ (fun hHeld => ?_); clear hK K; refine norm_ sa_ ?_; refine pz_ 10 76 rfl rfl (any_of HT_.out (by kernel_rfl)) ?_; refine pz_ 11 77 rfl rfl (any_of HT_.out (by kernel_rfl)) ?_; refine one_ (i := 17) (N := some 83) #[true, true, true, true, true, true, true, true, true, true, true, true, true, true, true, true, true, true, true, false, false, false, true, true, true, true, false, true, true, true, true, false, false, false] rfl rfl (one_of HT_.out (by kernel_rfl)) (by decide) (fun K hK => ?_); refine goes_ Tryz.func120 (by kernel_rfl) rfl #[.int .i64 (Go.bits .xor .i64 (-1) (rd x10_2 4))] (by rfl) rfl rfl la_ ?_; with_reducible refine (samphireref01_Word.calls (Go.bits .xor .i64 (-1) (rd x10_2 4)) t177 _ A25.out).mono ?_
                                    rintro e w' ⟨rfl, ⟨nd, rfl⟩⟩; refine ⟨_, rfl, ?_⟩; refine hK.out _ _ ⟨hHeld.1, hHeld.2.1, hHeld.2.2⟩ (fun hHeld => ?_); clear hK K; refine norm_ sa_ ?_; refine pz_ 19 85 rfl rfl (any_of HT_.out (by kernel_rfl)) ?_; refine pz_ 20 86 rfl rfl (any_of HT_.out (by kernel_rfl)) ?_; refine pz_ 21 87 rfl rfl (any_of HT_.out (by kernel_rfl)) ?_; refine pz_ 26 92 rfl rfl (any_of HT_.out (by kernel_rfl)) ?_; refine pz_ 31 97 rfl rfl (any_of HT_.out (by kernel_rfl)) ?_; refine one_ (i := 32) (N := some 98) #[true, true, true, true, true, true, true, true, true, true, true, true, true, true, true, true, true, true, true, true, true, true, true, true, true, true, true, true, true, true, true, true, true, false] rfl rfl (one_of HT_.out (by kernel_rfl)) (by decide) (fun K hK => ?_); refine goes_ Tryz.func120 (by kernel_rfl) rfl #[.int .i64 (wrap64 ((wrap64 ((wrap64 ((wrap64 ((rd x10_2 7) + (Go.bits .xor .i64 (Go.bits .xor .i64 t174 t175) t176))) + (Go.bits .xor .i64 (Go.bits .and .i64 (rd x10_2 4) (rd x10_2 5)) (Go.bits .and .i64 t177 (rd x10_2 6))))) + (rd t156 x12_2))) + (rd t153 x12_2)))] (by rfl) rfl rfl la_ ?_; with_reducible refine (samphireref01_Word.calls (wrap64 ((wrap64 ((wrap64 ((wrap64 ((rd x10_2 7) + (Go.bits .xor .i64 (Go.bits .xor .i64 t174 t175) t176))) + (Go.bits .xor .i64 (Go.bits .and .i64 (rd x10_2 4) (rd x10_2 5)) (Go.bits .and .i64 t177 (rd x10_2 6))))) + (rd t156 x12_2))) + (rd t153 x12_2))) t180 _ A29.out).mono ?_
                                    rintro e w' ⟨rfl, ⟨nd, rfl⟩⟩; refine ⟨_, rfl, ?_⟩; refine hK.out _ _ ⟨hHeld.1, hHeld.2.1, hHeld.2.2⟩ (fun hHeld => ?_); clear hK K; refine norm_ sa_ ?_; refine pz_ 33 19 rfl rfl (any_of HT_.out (by kernel_rfl)) ?_; refine done_ (done_of HT_.out (by kernel_rfl)) ?_; try go_wp2_with (first | ((with_reducible refine gate_callee (f := 188) rfl ?_); refine gl_ 100 Tryz.func188 #[.int .i64 (rd x10_2 0), .int .i64 2] ?_; (with_reducible refine (samphireref02_right.calls (rd x10_2 0) 2 t181 _ A30.out).mono ?_); rintro e w' ⟨rfl, ⟨nd, rfl⟩⟩; refine ⟨_, rfl, ?_⟩) | ((with_reducible refine gate_callee (f := 188) rfl ?_); refine gl_ 102 Tryz.func188 #[.int .i64 (rd x10_2 0), .int .i64 13] ?_; (with_reducible refine (samphireref02_right.calls (rd x10_2 0) 13 t182 _ A31.out).mono ?_); rintro e w' ⟨rfl, ⟨nd, rfl⟩⟩; refine ⟨_, rfl, ?_⟩) | ((with_reducible refine gate_callee (f := 188) rfl ?_); refine gl_ 105 Tryz.func188 #[.int .i64 (rd x10_2 0), .int .i64 22] ?_; (with_reducible refine (samphireref02_right.calls (rd x10_2 0) 22 t183 _ A32.out).mono ?_); rintro e w' ⟨rfl, ⟨nd, rfl⟩⟩; refine ⟨_, rfl, ?_⟩) | ((with_reducible refine gate_callee (f := 120) rfl ?_); refine gl_ 119 Tryz.func120 #[.int .i64 (wrap64 ((Go.bits .xor .i64 (Go.bits .xor .i64 t181 t182) t183) + (Go.bits .xor .i64 (Go.bits .xor .i64 (Go.bits .and .i64 (rd x10_2 0) (rd x10_2 1)) (Go.bits .and .i64 (rd x10_2 0) (rd x10_2 2))) (Go.bits .and .i64 (rd x10_2 1) (rd x10_2 2)))))] ?_; (with_reducible refine (samphireref01_Word.calls (wrap64 ((Go.bits .xor .i64 (Go.bits .xor .i64 t181 t182) t183) + (Go.bits .xor .i64 (Go.bits .xor .i64 (Go.bits .and .i64 (rd x10_2 0) (rd x10_2 1)) (Go.bits .and .i64 (rd x10_2 0) (rd x10_2 2))) (Go.bits .and .i64 (rd x10_2 1) (rd x10_2 2))))) t184 _ A33.out).mono ?_); rintro e w' ⟨rfl, ⟨nd, rfl⟩⟩; refine ⟨_, rfl, ?_⟩))
                                    (try (rw [drewN_self w40]; generalize hq_ : World.drewN w40 _ = w40; have n0_ : Aside0 (Kd.R (Kd.int .i64) 3 w40 w.heap.size (fun k_ => some k_ ≠ (.slice (some ad179) t153.length co42 : Value).ownBlock ∧ some k_ ≠ (.slice (some ad178) t156.length co41 : Value).ownBlock ∧ some k_ ≠ (v161 : Value).ownBlock) (.slice (some ad167) x10_2.length co38) x10_2) := ⟨by rw [← hq_]; exact (ra_ HO_10.out)⟩; have n1_ : Aside0 (Kd.R (Kd.int .i64) 3 w40 w.heap.size (fun k_ => some k_ ≠ (.slice (some ad167) x10_2.length co38 : Value).ownBlock ∧ some k_ ≠ (.slice (some ad178) t156.length co41 : Value).ownBlock ∧ some k_ ≠ (v161 : Value).ownBlock) (.slice (some ad179) t153.length co42) t153) := ⟨by rw [← hq_]; exact (by (with_reducible repeat (first | apply Kd.R_alloc | apply Kd.R_drewN | apply Kd.R_drew)); exact Kd.R_mono HO_6.out (fun _ hk => by first | exact ⟨hk.2.2, ⟨hk.1, hk.2.1⟩⟩ | exact gk_))⟩; have n2_ : Aside0 (Kd.R (Kd.int .i64) 3 w40 w.heap.size (fun k_ => some k_ ≠ (.slice (some ad167) x10_2.length co38 : Value).ownBlock ∧ some k_ ≠ (.slice (some ad179) t153.length co42 : Value).ownBlock ∧ some k_ ≠ (v161 : Value).ownBlock) (.slice (some ad178) t156.length co41) t156) := ⟨by rw [← hq_]; exact (by (with_reducible repeat (first | apply Kd.R_alloc | apply Kd.R_drewN | apply Kd.R_drew)); exact Kd.R_mono HO_7.out (fun _ hk => by first | exact ⟨hk.2.2, ⟨hk.1, hk.2.1⟩⟩ | exact gk_))⟩; have n3_ : Aside0 (Kd.R (Kd.int .i64) 3 w40 w.heap.size (fun k_ => some k_ ≠ (.slice (some ad167) x10_2.length co38 : Value).ownBlock ∧ some k_ ≠ (.slice (some ad179) t153.length co42 : Value).ownBlock ∧ some k_ ≠ (.slice (some ad178) t156.length co41 : Value).ownBlock) v161 t159) := ⟨by rw [← hq_]; exact (by (with_reducible repeat (first | apply Kd.R_alloc | apply Kd.R_drewN | apply Kd.R_drew)); exact Kd.R_mono HO_8.out (fun _ hk => by first | exact ⟨hk.2.2, ⟨hk.1, hk.2.1⟩⟩ | exact gk_))⟩; have n4_ : Aside0 (Below w.heap.size w w40) := ⟨by rw [← hq_]; exact hb_⟩; clear HO_10 HO_6 HO_7 HO_8 HB hq_; have HO_10 := n0_; have HO_6 := n1_; have HO_7 := n2_; have HO_8 := n3_; have HB := n4_; clear n0_ n1_ n2_ n3_ n4_))
                                    replace HO_6 := Aside0.mk (Kd.R_drew HO_6.out); replace HO_7 := Aside0.mk (Kd.R_drew HO_7.out); replace HO_8 := Aside0.mk (Kd.R_drew HO_8.out); replace HO_10 := Aside0.mk (Kd.R_drew HO_10.out); replace HB := Aside0.mk (below_drew1 HB.out); have p186 : 0 ≤ (3 : Int) := (by omega); have q186 : 3 < (x10_2.length : Int) := of_decide_eq_true as_'; obtain ⟨ad186, e186, hx186_0⟩ := Kd.at_int (Kd.R_reads' HO_10.out).2.2 3 p186 q186; obtain rfl : ad167 = ad186 := (by injection e186)
                                    (try simp only [show (3 : Int).toNat = 3 from rfl, Nat.reduceMul, Nat.reduceEqDiff, Go.Addr.add, ↓reduceIte] at hx186_0)
                                    have qi186 : (3 < x10_2.length) = True := eq_true (by omega)
                                    (try rw [show ((3 : Int)).toNat = 3 from rfl] at hx186_0)
                                    replace p186 := eq_true p186; replace q186 := eq_true q186; refine start_ (n := 18) (S := fun w' => w'.cell? ⟨ad167.block, ad167.off + 3, none⟩ = some (.int .i64 (rd x10_2 3))) (ds := []) #[false, false, false, false, false, false, false, false, false, false, false, false, false, false, false, false, false, false] (by kernel_rfl) rfl rfl (hx186_0) (fun hHeld => ?_); refine with_tabW samphireref02_Block.tab14 samphireref02_Block.bits14 (fun HT_ HW_ => ?_); generalize w40.drew = w43 at HO_6 HO_7 HO_8 HO_10 HB hx186_0 hHeld ⊢; refine pz_ 0 120 rfl rfl (any_of HT_.out (by kernel_rfl)) ?_; refine pz_ 1 121 rfl rfl (any_of HT_.out (by kernel_rfl)) ?_; refine pz_ 2 122 rfl rfl (any_of HT_.out (by kernel_rfl)) ?_; refine pz_ 4 124 rfl rfl (any_of HT_.out (by kernel_rfl)) ?_; refine pz_ 5 125 rfl rfl (any_of HT_.out (by kernel_rfl)) ?_; refine pz_ 6 126 rfl rfl (any_of HT_.out (by kernel_rfl)) ?_; refine pz_ 7 127 rfl rfl (any_of HT_.out (by kernel_rfl)) ?_; refine pz_ 8 128 rfl rfl (any_of HT_.out (by kernel_rfl)) ?_; refine pz_ 10 130 rfl rfl (any_of HT_.out (by kernel_rfl)) ?_; refine pz_ 13 133 rfl rfl (any_of HT_.out (by kernel_rfl)) ?_; refine pz_ 14 134 rfl rfl (any_of HT_.out (by kernel_rfl)) ?_; refine pz_ 15 135 rfl rfl (any_of HT_.out (by kernel_rfl)) ?_; refine take_ (i := 9) (N := some 129) (v := ?_) (a' := ?_) #[true, true, true, false, true, true, true, true, true, true, true, false, false, true, true, true, false, false] rfl rfl (take_ofW HT_.out HW_.out (by kernel_rfl)) (fun _ _ _ h => h) (Or.inl ⟨by rfl, ?_⟩) hHeld ?_ ?_; rotate_left
                                    · intro w' s0; go_simp
                                      with_reducible rfl
                                    rotate_left
                                    · simp only [Act.put, List.setIfInBounds_toArray, List.set_cons_zero, List.set_cons_succ, i64_w, i32_w]; rfl
                                    refine pz_ 11 131 rfl rfl (any_of HT_.out (by kernel_rfl)) ?_; refine one_ (i := 3) (N := some 123) #[true, true, true, true, true, true, true, true, true, true, true, true, false, true, true, true, false, false] rfl rfl (one_of HT_.out (by kernel_rfl)) (by decide) (fun K hK => ?_); refine goes_ Tryz.func120 (by kernel_rfl) rfl #[.int .i64 (wrap64 (t180 + t184))] (by rfl) rfl rfl la_ ?_; with_reducible refine (samphireref01_Word.calls (wrap64 (t180 + t184)) t185 _ A34.out).mono ?_
                                    rintro e w' ⟨rfl, ⟨nd, rfl⟩⟩; refine ⟨_, rfl, ?_⟩; refine hK.out _ _ (hHeld) (fun hHeld => ?_); clear hK K; refine norm_ sa_ ?_; refine one_ (i := 12) (N := some 132) #[true, true, true, true, true, true, true, true, true, true, true, true, true, true, true, true, false, false] rfl rfl (one_of HT_.out (by kernel_rfl)) (by decide) (fun K hK => ?_); refine goes_ Tryz.func120 (by kernel_rfl) rfl #[.int .i64 (wrap64 ((rd x10_2 3) + t180))] (by rfl) rfl rfl la_ ?_; with_reducible refine (samphireref01_Word.calls (wrap64 ((rd x10_2 3) + t180)) t187 _ A36.out).mono ?_
                                    rintro e w' ⟨rfl, ⟨nd, rfl⟩⟩; refine ⟨_, rfl, ?_⟩; refine hK.out _ _ (hHeld) (fun hHeld => ?_); clear hK K; refine norm_ sa_ ?_; refine one_ (i := 16) (N := some 136) #[true, true, true, true, true, true, true, true, true, true, true, true, true, true, true, true, true, false] rfl rfl (one_of HT_.out (by kernel_rfl)) (by decide) (fun K hK => ?_); refine Kd.R_lit_step (Kd.int .i64) _ 3 ?hg (N := 136) ?hd (xs := ([t185, rd x10_2 0, rd x10_2 1, rd x10_2 2, t187, rd x10_2 4, rd x10_2 5, rd x10_2 6] : List Int)) (inner := [.int .i64 t185, .int .i64 (rd x10_2 0), .int .i64 (rd x10_2 1), .int .i64 (rd x10_2 2), .int .i64 t187, .int .i64 (rd x10_2 4), .int .i64 (rd x10_2 5), .int .i64 (rd x10_2 6)]) (ok := fun _ => True) (okp := fun _ => True) ?hr ?hp (fun _ hk => hk) trivial (Below.refl _ _) (Nat.le_refl _) (by simp) ?_; (case hd => rfl); (case hg => rfl); (case hr => first | (go_simp; done) | (go_simp; rfl)); (case hp => exact (ro_ (Reps.one (show Kd.M (Kd.int .i64) _ _ _ (rd x10_2 0) [.int .i64 (rd x10_2 0)] from rfl) (Reps.one (show Kd.M (Kd.int .i64) _ _ _ (rd x10_2 1) [.int .i64 (rd x10_2 1)] from rfl) (Reps.one (show Kd.M (Kd.int .i64) _ _ _ (rd x10_2 2) [.int .i64 (rd x10_2 2)] from rfl) (ro_ (Reps.one (show Kd.M (Kd.int .i64) _ _ _ (rd x10_2 4) [.int .i64 (rd x10_2 4)] from rfl) (Reps.one (show Kd.M (Kd.int .i64) _ _ _ (rd x10_2 5) [.int .i64 (rd x10_2 5)] from rfl) (Reps.one (show Kd.M (Kd.int .i64) _ _ _ (rd x10_2 6) [.int .i64 (rd x10_2 6)] from rfl) (Reps.none _ _)))))))))); intro v189 w44 ho45 hb hg_ hnew_; have HS0_ := (hb.cell (World.block_lt_of_cell? _ _ (hHeld))).trans (hHeld); clear hg_ hnew_
                                    (first | rw [← Ny188.out] at ho45 | (simp only [Int.reduceToNat] at ho45; rw [← Ny188.out] at ho45))
                                    have HO190 := Aside0.mk (Kd.R_lower (Kd.R_new' (Kd.R_new' (Kd.R_new' (Kd.R_new' ho45 (Kd.R_lt (ra_ HO_6.out))) (Kd.R_lt (ra_ HO_7.out))) (Kd.R_lt (ra_ HO_8.out))) (Kd.R_lt (ra_ HO_10.out))) (below_size hb_)); replace HO_6 := Aside0.mk (Kd.R_elder' (ra_ HO_6.out) (Kd.R_base ho45) hb); replace HO_7 := Aside0.mk (Kd.R_elder' (ra_ HO_7.out) (Kd.R_base ho45) hb); replace HO_8 := Aside0.mk (Kd.R_elder' (ra_ HO_8.out) (Kd.R_base ho45) hb); replace HO_10 := Aside0.mk (Kd.R_elder' (ra_ HO_10.out) (Kd.R_base ho45) hb); replace HB := Aside0.mk (below_step hb_ hb); clear hb ho45; refine hK.out _ _ (HS0_) (fun hHeld => ?_); clear hK K; refine norm_ sa_ ?_; refine pz_ 17 10 rfl rfl (any_of HT_.out (by kernel_rfl)) ?_; refine done_ (done_of HT_.out (by kernel_rfl)) ?_; try go_wp2
                                    go_roundg k2
                                    case measure => have := HJ2.out; have := HK2.out; omega
                                    case rel => exact ⟨(y188), (wrap64 (x12_2 + 1)), rz_, H', ⟨by have := HJ2.out; have := HK2.out; omega⟩, ⟨by (with_reducible repeat (first | apply Kd.R_alloc | apply Kd.R_drewN | apply Kd.R_drew)); exact Kd.R_mono HO_6.out (fun _ hk => by first | exact ⟨hk.1.1, ⟨hk.1.2.1, hk.2⟩⟩ | exact gk_)⟩, ⟨by (with_reducible repeat (first | apply Kd.R_alloc | apply Kd.R_drewN | apply Kd.R_drew)); exact Kd.R_mono HO_7.out (fun _ hk => by first | exact ⟨hk.1.1, ⟨hk.1.2.1, hk.2⟩⟩ | exact gk_)⟩, ⟨by (with_reducible repeat (first | apply Kd.R_alloc | apply Kd.R_drewN | apply Kd.R_drew)); exact Kd.R_mono HO_8.out (fun _ hk => by first | exact ⟨hk.1.1, ⟨hk.1.2.1, hk.2⟩⟩ | exact gk_)⟩, ⟨by (with_reducible repeat (first | apply Kd.R_alloc | apply Kd.R_drewN | apply Kd.R_drew)); exact Kd.R_mono HO190.out (fun _ hk => by first | exact ⟨hk.1.1.1.2, ⟨hk.1.1.2, hk.1.2⟩⟩ | exact gk_)⟩, ⟨hb_⟩⟩
                                  · rw [if_neg c35] at H; exact absurd H (by simp)
                                · rw [if_neg c28] at H; exact absurd H (by simp)
                              · rw [if_neg c27] at H; exact absurd H (by simp)
                            · rw [if_neg c26] at H; exact absurd H (by simp)
                          · rw [if_neg c21] at H; exact absurd H (by simp)
                        · rw [if_neg c20] at H; exact absurd H (by simp)
                      · rw [if_neg c19] at H; exact absurd H (by simp)
                    · rw [if_neg c18] at H; exact absurd H (by simp)
                  · rw [if_neg c17] at H; exact absurd H (by simp)
                · rw [if_neg c16] at H; exact absurd H (by simp)
              · rw [if_neg c15] at H; exact absurd H (by simp)
            · rw [if_neg c14] at H; have c14b0 : decide (x12_2 < 64) = false := decide_eq_false c14; clear c14; have H' := Aside0.mk H; clear H; go_wp2; go_loopg [21, 22] k2 (fun kq v21 v22 w' => ∃ (x21_3 : List Int) (x22_3 : Int), v22 = .int .i64 x22_3 ∧ Aside0 (samphireref02_Block.l1 kq t159 x10_2 x21_3 x22_3 = some (r1, r2)) ∧ Aside0 (kq ≤ k2) ∧ Aside0 (Kd.R (Kd.int .i64) 3 w' w.heap.size (fun k_ => some k_ ≠ (u10 : Value).ownBlock ∧ some k_ ≠ (v21 : Value).ownBlock) v161 t159) ∧ Aside0 (Kd.R (Kd.int .i64) 3 w' w.heap.size (fun k_ => some k_ ≠ (v161 : Value).ownBlock ∧ some k_ ≠ (v21 : Value).ownBlock) u10 x10_2) ∧ Aside0 (Kd.R (Kd.int .i64) 3 w' w.heap.size (fun k_ => some k_ ≠ (v161 : Value).ownBlock ∧ some k_ ≠ (u10 : Value).ownBlock) v21 x21_3) ∧ Aside0 (Below w.heap.size w w'))
              case atStart => exact ⟨(([] : List Int)), (0), rz_, H', ⟨Nat.le_refl _⟩, ⟨by (with_reducible repeat (first | apply Kd.R_alloc | apply Kd.R_drewN | apply Kd.R_drew)); exact Kd.R_mono HO_8.out (fun _ hk => ⟨hk.2.2, (by simp [Value.ownBlock])⟩)⟩, ⟨by (with_reducible repeat (first | apply Kd.R_alloc | apply Kd.R_drewN | apply Kd.R_drew)); exact Kd.R_mono HO_10.out (fun _ hk => ⟨hk.2.2, (by simp [Value.ownBlock])⟩)⟩, ⟨by first | exact Kd.R_nil _ _ _ _ _ | exact Kd.N_nil _ _ _ _ _ | exact Kd.V_nil _ _ _ _ _ | exact Kd.Q_nil _ _ _ _ _ | exact Kd.S_nil _ _ _ _ _⟩, ⟨hb_⟩⟩
              case round =>
                clear H'; obtain ⟨x21_3, x22_3, rfl, HA, HK3, HO_8, HO_10, HO_21, HB⟩ := hrel; cases gk with
                | zero => exact absurd HA.out (by simp [samphireref02_Block.l1])
                | succ k3 =>
                  have H := HA.out; clear HA; simp only [samphireref02_Block.l1] at H; by_cases c46 : x22_3 < 8
                  · rw [if_pos c46] at H; have c46b0 : decide (x22_3 < 8) = true := decide_eq_true c46; clear c46; by_cases c47 : 0 ≤ x22_3
                    · rw [if_pos c47] at H; have c47b0 : decide (0 ≤ x22_3) = true := decide_eq_true c47; clear c47; by_cases c48 : x22_3 < (t159.length : Int)
                      · rw [if_pos c48] at H; have c48b0 : decide (x22_3 < (t159.length : Int)) = true := decide_eq_true c48; clear c48; by_cases c49 : x22_3 < (x10_2.length : Int)
                        · rw [if_pos c49] at H; have c49b0 : decide (x22_3 < (x10_2.length : Int)) = true := decide_eq_true c49; clear c49; replace H := Option.bind_eq_some_iff.mp H; obtain ⟨t193, A500, H⟩ := H; have A50 := Aside0.mk A500; clear A500; by_cases c51 : x21_3.length < 17592186044416
                          · rw [if_pos c51] at H; have LMc51 := Aside0.mk c51; clear c51; obtain ⟨y194, hy194⟩ : ∃ y_ : List Int, y_ = (x21_3 ++ [t193]) := ⟨_, rfl⟩; replace H : (samphireref02_Block.l1 k3 t159 x10_2 y194 (wrap64 (x22_3 + 1))) = some (r1, r2) := by first | (rw [hy194]; with_reducible exact H) | (have H2_ := (Option.bind_some _ _).symm.trans H; rw [hy194]; with_reducible exact H2_) | (have H2_ := (Option.bind_some _ _).symm.trans H; with_reducible exact H2_) | with_reducible exact H | (rw [hy194]; exact H) | exact H
                            have Ny194 := Aside0.mk hy194; clear hy194; have H' := Aside0.mk H; clear H; try go_wp2
                            replace HO_8 := Aside0.mk (Kd.R_drew HO_8.out); replace HO_10 := Aside0.mk (Kd.R_drew HO_10.out); replace HO_21 := Aside0.mk (Kd.R_drew HO_21.out); replace HB := Aside0.mk (below_drew1 HB.out); obtain ⟨Ao53, co53, eo53⟩ := Kd.R_slice HO_8.out
                            (first | subst eo53 | (injection eo53 with f1_ f2_ f3_; have f4_ := f1_.symm; have f5_ := f3_.symm; clear f1_ f2_ f3_; subst f4_; subst f5_))
                            have p191 : 0 ≤ (x22_3 : Int) := of_decide_eq_true as_'; have q191 : x22_3 < (t159.length : Int) := of_decide_eq_true as_'; obtain ⟨ad191, e191, hx191_0⟩ := Kd.at_int (Kd.R_reads' HO_8.out).2.2 x22_3 p191 q191; cases e191; replace p191 := eq_true p191; replace q191 := eq_true q191; obtain ⟨Ao54, co54, eo54⟩ := Kd.R_slice HO_10.out
                            (first | subst eo54 | (injection eo54 with f1_ f2_ f3_; have f4_ := f1_.symm; have f5_ := f3_.symm; clear f1_ f2_ f3_; subst f4_; subst f5_))
                            have p192 : 0 ≤ (x22_3 : Int) := of_decide_eq_true as_'; have q192 : x22_3 < (x10_2.length : Int) := of_decide_eq_true as_'; obtain ⟨ad192, e192, hx192_0⟩ := Kd.at_int (Kd.R_reads' HO_10.out).2.2 x22_3 p192 q192; cases e192; replace p192 := eq_true p192; replace q192 := eq_true q192; refine start_ (n := 14) (S := fun w' => w'.cell? (ad191.add (x22_3).toNat) = some (.int .i64 (rd t159 x22_3)) ∧ w'.cell? (ad192.add (x22_3).toNat) = some (.int .i64 (rd x10_2 x22_3))) (ds := [11, 12]) #[false, false, false, false, false, false, false, false, false, false, false, false, false, false] (by kernel_rfl) rfl rfl ⟨hx191_0, hx192_0⟩ (fun hHeld => ?_); refine with_tabW samphireref02_Block.tab19 samphireref02_Block.bits19 (fun HT_ HW_ => ?_); generalize wr.drew = w52 at HO_8 HO_10 HO_21 HB hx191_0 hx192_0 hHeld ⊢; refine pz_ 0 141 rfl rfl (any_of HT_.out (by kernel_rfl)) ?_; refine pz_ 1 142 rfl rfl (any_of HT_.out (by kernel_rfl)) ?_; refine pz_ 2 143 rfl rfl (any_of HT_.out (by kernel_rfl)) ?_; refine pz_ 3 144 rfl rfl (any_of HT_.out (by kernel_rfl)) ?_; refine pz_ 5 146 rfl rfl (any_of HT_.out (by kernel_rfl)) ?_; refine pz_ 6 147 rfl rfl (any_of HT_.out (by kernel_rfl)) ?_; refine pz_ 7 148 rfl rfl (any_of HT_.out (by kernel_rfl)) ?_; refine take_ (i := 4) (N := some 145) (v := ?_) (a' := ?_) #[true, true, true, true, true, true, true, true, false, false, false, false, false, false] rfl rfl (take_ofW HT_.out HW_.out (by kernel_rfl)) (fun _ _ _ h => h) (Or.inl ⟨by rfl, ?_⟩) hHeld ?_ ?_; rotate_left
                            · rintro w' ⟨s0, s1⟩; go_simp
                              with_reducible rfl
                            rotate_left
                            · simp only [Act.put, List.setIfInBounds_toArray, List.set_cons_zero, List.set_cons_succ, i64_w, i32_w]; rfl
                            refine take_ (i := 8) (N := some 149) (v := ?_) (a' := ?_) #[true, true, true, true, true, true, true, true, true, false, false, false, false, false] rfl rfl (take_ofW HT_.out HW_.out (by kernel_rfl)) (fun _ _ _ h => h) (Or.inl ⟨by rfl, ?_⟩) hHeld ?_ ?_; rotate_left
                            · rintro w' ⟨s0, s1⟩; go_simp
                              with_reducible rfl
                            rotate_left
                            · simp only [Act.put, List.setIfInBounds_toArray, List.set_cons_zero, List.set_cons_succ, i64_w, i32_w]; rfl
                            refine pz_ 9 150 rfl rfl (any_of HT_.out (by kernel_rfl)) ?_; refine one_ (i := 10) (N := some 151) #[true, true, true, true, true, true, true, true, true, true, true, false, false, false] rfl rfl (one_of HT_.out (by kernel_rfl)) (by decide) (fun K hK => ?_); refine goes_ Tryz.func120 (by kernel_rfl) rfl #[.int .i64 (wrap64 ((rd t159 x22_3) + (rd x10_2 x22_3)))] (by rfl) rfl rfl la_ ?_; with_reducible refine (samphireref01_Word.calls (wrap64 ((rd t159 x22_3) + (rd x10_2 x22_3))) t193 _ A50.out).mono ?_
                            rintro e w' ⟨rfl, ⟨nd, rfl⟩⟩; refine ⟨_, rfl, ?_⟩; refine hK.out _ _ ⟨hHeld.1, hHeld.2⟩ (fun hHeld => ?_); clear hK K; refine norm_ sa_ ?_; refine last_ (i := 11) (N := some 152) #[true, true, true, true, true, true, true, true, true, true, true, true, false, false] rfl rfl (one_of HT_.out (by kernel_rfl)) (by decide) (fun K hK => ?_); refine value_ (w1 := ?_) (v := ?_) (by rfl) rfl ?_ ?_; rotate_left 2
                            · go_simp
                              constructor
                              · rfl
                              · rfl
                            refine hK.out _ _ ?_; clear hK K; refine norm_ sa_ ?_; refine last_ (i := 12) (N := some 153) #[true, true, true, true, true, true, true, true, true, true, true, true, true, false] rfl rfl (one_of HT_.out (by kernel_rfl)) (by decide) (fun K hK => ?_); refine Kd.R_append_step (Kd.int .i64) (w0 := w) w.heap.size (by rfl) (.tmp 141) (.tmp 152) 116 3 (.int .i64 0) 8 rfl Tryz.underlying116 info3 rfl (by decide) (by omega) u21 x21_3 t193 [.int .i64 t193] (fun k_ => some k_ ≠ (.slice (some ad191) t159.length co53 : Value).ownBlock ∧ some k_ ≠ (.slice (some ad192) x10_2.length co54 : Value).ownBlock) (fun _ => False) rfl rfl ?aP (fun _ hk => hk.elim) ?aF ?aO ?aB ?aS ?aL ?_
                            (case aP => exact rfl)
                            (case aB => exact hb_)
                            (case aF => exact (fun k_ hk => ⟨Kd.fresh' (Kd.R_lt (ra_ HO_8.out)) k_ hk, Kd.fresh' (Kd.R_lt (ra_ HO_10.out)) k_ hk⟩))
                            (case aO => exact (ra_ HO_21.out))
                            (case aS => exact (below_size hb_))
                            (case aL => have := LMc51.out; omega)
                            intro v195 w55 ho hb hg hat; rw [← Ny194.out] at ho; replace HO_8 := Aside0.mk (Kd.R_after (ok := (fun k_ => some k_ ≠ (.slice (some ad192) x10_2.length co54 : Value).ownBlock)) (ra_ HO_8.out) hg hat); replace HO_10 := Aside0.mk (Kd.R_after (ok := (fun k_ => some k_ ≠ (.slice (some ad191) t159.length co53 : Value).ownBlock)) (ra_ HO_10.out) hg hat); replace HB := Aside0.mk (hb); have HO196 := Aside0.mk (ho); clear HO_21 ho hb hg hat; refine hK.out _ _ ?_; clear hK K; refine norm_ sa_ ?_; refine pz_ 13 21 rfl rfl (any_of HT_.out (by kernel_rfl)) ?_; refine done_ (done_of HT_.out (by kernel_rfl)) ?_; try go_wp2
                            go_roundg k3
                            case measure => have := HJ2.out; have := HK2.out; have := HK3.out; omega
                            case rel => exact ⟨(y194), (wrap64 (x22_3 + 1)), rz_, H', ⟨by have := HJ2.out; have := HK2.out; have := HK3.out; omega⟩, ⟨ra_ HO_8.out⟩, ⟨ra_ HO_10.out⟩, ⟨ra_ HO196.out⟩, ⟨hb_⟩⟩
                          · rw [if_neg c51] at H; exact absurd H (by simp)
                        · rw [if_neg c49] at H; exact absurd H (by simp)
                      · rw [if_neg c48] at H; exact absurd H (by simp)
                    · rw [if_neg c47] at H; exact absurd H (by simp)
                  · rw [if_neg c46] at H; have c46b0 : decide (x22_3 < 8) = false := decide_eq_false c46; clear c46; replace H := Option.bind_eq_some_iff.mp H; obtain ⟨t197, A560, H⟩ := H; have A56 := Aside0.mk A560; clear A560; simp only [Option.some.injEq, Prod.mk.injEq] at H; obtain ⟨rfl, rfl⟩ := H; obtain ⟨Ao57, co57, eo57⟩ := Kd.R_slice HO_21.out; subst eo57; go_wp2_with (first | ((with_reducible refine gate_callee (f := 80) rfl ?_); refine gl_ 155 Tryz.func80 #[.slice Ao57 x21_3.length co57] ?_; (with_reducible refine (samphireref01_PutBig.calls k3 _ _ x21_3 t197 _ ?side1 ?side2 A56.out).mono ?_); (case side1 => exact ca_ (Kd.R_reads' HO_21.out).2.2); (case side2 => exact (Kd.R_reads' HO_21.out).2.1); rintro e w58 ⟨rfl, hb⟩; refine ⟨_, rfl, ?_⟩; replace HO_8 := Aside0.mk (Kd.R_below (ra_ HO_8.out) hb); replace HO_10 := Aside0.mk (Kd.R_below (ra_ HO_10.out) hb); replace HO_21 := Aside0.mk (Kd.R_below (ra_ HO_21.out) hb); replace HB := Aside0.mk (below_step hb_ hb)))
                    go_ret2
                    exact ⟨ew_, hb_⟩
end Go.Proofs.YtbkbganflnemeaaGreat.Pr
end

section
namespace Go.Proofs.YtbkbganflnemeaaGreat.Pr
open Go.RowKit Go.Proofs.YtbkbganflnemeaaGreatW.PrintWords Go.Proofs.YtbkbganflnemeaaGreatW.PrintLast Go.Proofs.YtbkbganflnemeaaGreatW.PrintMore
attribute [local go_sem] max2_int min2_int max_two min_two max_three min_three max_four min_four
def samphireref02_Begin.f (k : Nat)  : Option (ByteArray) := (samphireref01_PutBig.f k (([1779033703, 3144134277, 1013904242, 2773480762, 1359893119, 2600822924, 528734635, 1541459225] : List Int))).bind fun t130 => (some t130)
set_option maxHeartbeats 8000000 in
set_option maxRecDepth 100000 in
theorem samphireref02_Begin.calls (k : Nat)  (r : ByteArray) (w : World) (h : samphireref02_Begin.f k  = some r) :
  Calls Tryz.prog 156 #[] w fun e w' => e = .returned (.string r) ∧ Below w.heap.size w w' := by
 have HB := Aside0.mk (Below.refl w.heap.size w); have H : ((samphireref01_PutBig.f k (([1779033703, 3144134277, 1013904242, 2773480762, 1359893119, 2600822924, 528734635, 1541459225] : List Int))).bind fun t130 => (some t130)) = some r := h; clear h; obtain ⟨y127, hy127⟩ : ∃ y_ : List Int, y_ = (([1779033703, 3144134277, 1013904242, 2773480762, 1359893119, 2600822924, 528734635, 1541459225] : List Int)) := ⟨_, rfl⟩; replace H : ((samphireref01_PutBig.f k y127).bind fun t130 => (some t130)) = some r := by first | (rw [hy127]; with_reducible exact H) | (have H2_ := (Option.bind_some _ _).symm.trans H; rw [hy127]; with_reducible exact H2_) | (have H2_ := (Option.bind_some _ _).symm.trans H; with_reducible exact H2_) | with_reducible exact H | (rw [hy127]; exact H) | exact H
 have Ny127 := Aside0.mk hy127; clear hy127; replace H := Option.bind_eq_some_iff.mp H; obtain ⟨t130, A10, H⟩ := H; have A1 := Aside0.mk A10; clear A10; obtain rfl := Option.some.inj H; go_enter Tryz.func156, Tryz.ntmps156
 go_wp2_with (first | ((with_reducible refine gate_dst (N := 1) rfl ?_); refine Kd.R_lit (Kd.int .i64) _ 3 ?hg (N := 1) ?hd (xs := ([1779033703, 3144134277, 1013904242, 2773480762, 1359893119, 2600822924, 528734635, 1541459225] : List Int)) (inner := [.int .i64 1779033703, .int .i64 3144134277, .int .i64 1013904242, .int .i64 2773480762, .int .i64 1359893119, .int .i64 2600822924, .int .i64 528734635, .int .i64 1541459225]) (ok := fun _ => True) (okp := fun _ => True) ?hr ?hp (fun _ hk => hk) trivial (Below.refl _ _) (Nat.le_refl _) (by simp) ?_; (case hd => rfl); (case hg => rfl); (case hr => first | (go_simp; done) | (go_simp; rfl)); (case hp => exact (ro_ (ro_ (ro_ (ro_ (ro_ (ro_ (ro_ (ro_ (Reps.none _ _)))))))))); intro v128 w2 ho3 hb hg_ hnew_; clear hg_ hnew_; (first | rw [← Ny127.out] at ho3 | (simp only [Int.reduceToNat] at ho3; rw [← Ny127.out] at ho3)); have HO129 := Aside0.mk (Kd.R_lower ho3 (below_size hb_)); replace HB := Aside0.mk (below_step hb_ hb); clear hb ho3; obtain ⟨Ao4, co4, eo4⟩ := Kd.R_slice HO129.out; subst eo4) | ((with_reducible refine gate_callee (f := 80) rfl ?_); refine gl_ 2 Tryz.func80 #[.slice Ao4 y127.length co4] ?_; (with_reducible refine (samphireref01_PutBig.calls k _ _ y127 t130 _ ?side1 ?side2 A1.out).mono ?_); (case side1 => exact ca_ (Kd.R_reads' HO129.out).2.2); (case side2 => exact (Kd.R_reads' HO129.out).2.1); rintro e w5 ⟨rfl, hb⟩; refine ⟨_, rfl, ?_⟩; replace HO129 := Aside0.mk (Kd.R_below (ra_ HO129.out) hb); replace HB := Aside0.mk (below_step hb_ hb)))
 go_ret
 exact ⟨ew_, hb_⟩
end Go.Proofs.YtbkbganflnemeaaGreat.Pr
end

section
namespace Go.Proofs.YtbkbganflnemeaaGreat.Pr
open Go.RowKit Go.Proofs.YtbkbganflnemeaaGreatW.PrintWords
set_option maxHeartbeats 1000000
theorem wr (x : Int) (h0 : 0 ≤ x) (h1 : x < 4611686018427387904) : wrap64 x = x := by unfold wrap64; omega
theorem word_f (a : Nat) (h : a < 4611686018427387904) : samphireref01_Word.f (a : Int) = some ((a % 4294967296 : Nat) : Int) := by
 unfold samphireref01_Word.f
 rw [mask62 a h]
def ints (l : List Nat) : List Int := l.map fun (n : Nat) => (n : Int)
theorem ints_length (l : List Nat) : (ints l).length = l.length := by simp [ints]
theorem ints_append (a b : List Nat) : ints (a ++ b) = ints a ++ ints b := by simp [ints]
theorem rd_ints (l : List Nat) (i : Nat) : rd (ints l) (i : Int) = (l.getD i 0 : Nat) := by
 unfold rd ints
 rw [Int.toNat_natCast, List.getD_eq_getElem?_getD, List.getD_eq_getElem?_getD, List.getElem?_map]
 cases l[i]? <;> simp
theorem str_ints (l : List Nat) : strOfNums (ints l) = txt l := str_nats l
theorem and255 (n : Nat) (h : n < 4611686018427387904) : bits .and .i64 (n : Int) 255 = ((n % 256 : Nat) : Int) := by
 have := and62 n 255 h (by decide)
 rw [show ((255 : Nat) : Int) = 255 from rfl] at this
 rw [this, show (255 : Nat) = 2 ^ 8 - 1 from rfl, Nat.and_two_pow_sub_one_eq_mod]
theorem putBig_l0 (l : List Nat) (hl : ∀ i, l.getD i 0 < 4294967296) (hs : l.length ≤ 1000000) : ∀ (d k i : Nat) (acc : List Nat), i + d = l.length → d < k → acc.length + 4 * d ≤ 100000000 →
    samphireref01_PutBig.l0 k (ints l) (ints acc) (i : Int) = some (txt (acc ++ (l.drop i).flatMap by4)) := by
  intro d
  induction d with
  | zero =>
    intro k i acc hi hk ha
    obtain ⟨k, rfl⟩ : ∃ m, k = m + 1 := ⟨k - 1, by omega⟩
    simp only [samphireref01_PutBig.l0, ints_length]
    rw [if_neg (by omega), str_ints, List.drop_eq_nil_of_le (by omega)]
    simp
  | succ d ih =>
    intro k i acc hi hk ha
    obtain ⟨k, rfl⟩ : ∃ m, k = m + 1 := ⟨k - 1, by omega⟩
    simp only [samphireref01_PutBig.l0, ints_length]
    rw [if_pos (by omega), if_pos (by omega), rd_ints]
    have hx := hl i
    generalize hxe : l.getD i 0 = x at hx
    rw [word_f x (by omega)]
    have hm : x % 4294967296 = x := Nat.mod_eq_of_lt hx
    rw [hm]
    simp only [Option.bind_some, List.length_append, ints_length, List.length_cons, List.length_nil]
    rw [if_pos (by omega), if_pos (by omega), if_pos (by omega), if_pos (by omega)]
    have e1 : ((x : Int) / 65536) = ((x / 65536 : Nat) : Int) := by simp
    have e2 : ((x : Int) / 256) = ((x / 256 : Nat) : Int) := by simp
    rw [e1, e2, and255 _ (by omega), and255 _ (by omega), and255 _ (by omega), wr _ (by omega) (by omega)]
    have e3 : ((((ints acc ++ [(x : Int) / 16777216 % 256]) ++ [((x / 65536 % 256 : Nat) : Int) % 256]) ++ [((x / 256 % 256 : Nat) : Int) % 256]) ++ [((x % 256 : Nat) : Int) % 256]) = ints (acc ++ by4 x) := by
      rw [ints_append]
      simp only [List.append_assoc, List.cons_append, List.nil_append, ints, by4, List.map_cons, List.map_nil]
      rw [show ((x : Int) / 16777216 % 256) = ((x / 16777216 % 256 : Nat) : Int) by omega, show (((x / 65536 % 256 : Nat) : Int) % 256) = ((x / 65536 % 256 : Nat) : Int) by omega, show (((x / 256 % 256 : Nat) : Int) % 256) = ((x / 256 % 256 : Nat) : Int) by omega, show (((x % 256 : Nat) : Int) % 256) = ((x % 256 : Nat) : Int) by omega]
    rw [e3]
    have := ih k (i + 1) (acc ++ by4 x) (by omega) (by omega) (by rw [List.length_append, by4_length]; omega)
    rw [show ((i : Int) + 1) = ((i + 1 : Nat) : Int) by omega, this]
    have hd : l.drop i = x :: l.drop (i + 1) := by
      rw [List.drop_eq_getElem_cons (by omega), ← hxe]
      simp [show i < l.length by omega]
    rw [hd, List.flatMap_cons, List.append_assoc]
theorem putBig_ev (l : List Nat) (hl : ∀ i, l.getD i 0 < 4294967296) (hs : l.length ≤ 1000000) : Ev (fun k => samphireref01_PutBig.f k (ints l)) (txt (l.flatMap by4)) :=
  ⟨l.length + 1, fun k hk => by
    have := putBig_l0 l hl hs l.length k 0 [] (by omega) (by omega) (by simp; omega)
    simpa [samphireref01_PutBig.f, ints] using this⟩
theorem or_be62 (x y z v : Nat) (hx : x < 256) (hy : y < 256) (hz : z < 256) (hv : v < 256) : bits .or .i64 (bits .or .i64 (bits .or .i64 (wrap64 (wrap64 (x : Int) * 16777216)) (wrap64 (wrap64 (y : Int) * 65536))) (wrap64 (wrap64 (z : Int) * 256))) (wrap64 (v : Int)) = ((x * 16777216 + y * 65536 + z * 256 + v : Nat) : Int) := by
 rw [wr (x : Int) (by omega) (by omega), wr (y : Int) (by omega) (by omega), wr (z : Int) (by omega) (by omega), wr (v : Int) (by omega) (by omega), wr _ (by omega) (by omega), wr _ (by omega) (by omega), wr _ (by omega) (by omega)]
 rw [show ((x : Int) * 16777216) = ((x * 16777216 : Nat) : Int) by omega, show ((y : Int) * 65536) = ((y * 65536 : Nat) : Int) by omega, show ((z : Int) * 256) = ((z * 256 : Nat) : Int) by omega]
 have h1 : x * 16777216 ||| y * 65536 = x * 16777216 + y * 65536 := by
  have := Nat.two_pow_add_eq_or_of_lt (i := 24) (b := y * 65536) (by omega) x
  rw [Nat.mul_comm x]; exact this.symm
 have h2 : (x * 16777216 + y * 65536) ||| z * 256 = x * 16777216 + y * 65536 + z * 256 := by
  have := Nat.two_pow_add_eq_or_of_lt (i := 16) (b := z * 256) (by omega) (x * 256 + y)
  rw [show x * 16777216 + y * 65536 = 2 ^ 16 * (x * 256 + y) by omega]; exact this.symm
 have h3 : (x * 16777216 + y * 65536 + z * 256) ||| v = x * 16777216 + y * 65536 + z * 256 + v := by
  have := Nat.two_pow_add_eq_or_of_lt (i := 8) (b := v) (by omega) (x * 65536 + y * 256 + z)
  rw [show x * 16777216 + y * 65536 + z * 256 = 2 ^ 8 * (x * 65536 + y * 256 + z) by omega]; exact this.symm
 rw [or62 _ _ (by omega) (by omega), h1, or62 _ _ (by omega) (by omega), h2, or62 _ _ (by omega) (by omega), h3]
def wordsL (l : List Nat) (n : Nat) : List Nat := (List.range n).map fun j => be4 l (4 * j)
theorem wordsL_succ (l : List Nat) (n : Nat) : wordsL l (n + 1) = wordsL l n ++ [be4 l (4 * n)] := by simp [wordsL, List.range_succ]
theorem wordsL_length (l : List Nat) (n : Nat) : (wordsL l n).length = n := by simp [wordsL]
theorem big_l0 (s : ByteArray) (m : Nat) (hm : s.size = 4 * m) (hs : m ≤ 1000000) : ∀ (d k j : Nat), j + d = m → d < k →
    samphireref01_Big.l0 k s (ints (wordsL (bys s) j)) ((4 * j : Nat) : Int) = some (ints (wordsL (bys s) m), 0) := by
  intro d
  induction d with
  | zero =>
    intro k j hj hk
    obtain ⟨k, rfl⟩ : ∃ m, k = m + 1 := ⟨k - 1, by omega⟩
    simp only [samphireref01_Big.l0]
    rw [if_neg (by omega)]
    obtain rfl : j = m := by omega
    rfl
  | succ d ih =>
    intro k j hj hk
    obtain ⟨k, rfl⟩ : ∃ m, k = m + 1 := ⟨k - 1, by omega⟩
    simp only [samphireref01_Big.l0]
    rw [wr (((4 * j : Nat) : Int) + 1) (by omega) (by omega), wr (((4 * j : Nat) : Int) + 2) (by omega) (by omega), wr (((4 * j : Nat) : Int) + 3) (by omega) (by omega), wr (((4 * j : Nat) : Int) + 4) (by omega) (by omega)]
    rw [if_pos (by omega), if_pos (by omega), if_pos (by omega), if_pos (by omega), if_pos (by omega), if_pos (by omega), if_pos (by omega), if_pos (by omega), if_pos (by rw [ints_length, wordsL_length]; omega)]
    rw [show (((4 * j : Nat) : Int) + 1) = ((4 * j + 1 : Nat) : Int) by omega, show (((4 * j : Nat) : Int) + 2) = ((4 * j + 2 : Nat) : Int) by omega, show (((4 * j : Nat) : Int) + 3) = ((4 * j + 3 : Nat) : Int) by omega, show (((4 * j : Nat) : Int) + 4) = ((4 * (j + 1) : Nat) : Int) by omega]
    rw [bt_nat s _ (by omega), bt_nat s _ (by omega), bt_nat s _ (by omega), bt_nat s _ (by omega), or_be62 _ _ _ _ (bys_lt s _) (bys_lt s _) (bys_lt s _) (bys_lt s _)]
    have := ih k (j + 1) (by omega) (by omega)
    rw [wordsL_succ, ints_append] at this
    exact this
theorem big_ev (s : ByteArray) (m : Nat) (hm : s.size = 4 * m) (hs : m ≤ 1000000) : Ev (fun k => samphireref01_Big.f k s) (ints (wordsL (bys s) m), 0) :=
  ⟨m + 1, fun k hk => by
    show samphireref01_Big.f k s = _
    unfold samphireref01_Big.f
    rw [if_pos (by omega)]
    exact big_l0 s m hm hs m k 0 (by omega) (by omega)⟩
theorem begin_ev : Ev (fun k => samphireref02_Begin.f k) (txt St0.bytes) := by
 have h := putBig_ev shaH (by intro i; rcases i with _ | _ | _ | _ | _ | _ | _ | _ | i <;> simp [shaH]) (by decide)
 obtain ⟨K, hK⟩ := h
 refine ⟨K, fun k hk => ?_⟩
 have : samphireref01_PutBig.f k (ints shaH) = some (txt (shaH.flatMap by4)) := hK k hk
 show samphireref02_Begin.f k = _
 unfold samphireref02_Begin.f
 rw [show ([1779033703, 3144134277, 1013904242, 2773480762, 1359893119, 2600822924, 528734635, 1541459225] : List Int) = ints shaH from rfl, this]
 rfl
theorem sched_words (b : List Nat) : ∀ n, n ≤ 16 → sched b n = wordsL b n
  | 0, _ => rfl
  | n + 1, h => by
    rw [sched, sched_words b n (by omega), wordsL_succ, wordAt, if_pos (by omega)]
theorem sg0_62 (x : Nat) (hx : x < 4294967296) : bits .xor .i64 (bits .xor .i64 ((rotr x 7 : Nat) : Int) ((rotr x 18 : Nat) : Int)) ((x : Int) / 8) = ((sg0 x : Nat) : Int) := by
 have h1 := rotr_lt x 7 hx
 have h2 := rotr_lt x 18 hx
 have h3 := xor_lt32 h1 h2
 rw [show ((x : Int) / 8) = ((x / 8 : Nat) : Int) by simp, xor62 _ _ (by omega) (by omega), xor62 _ _ (by omega) (by omega)]
 unfold sg0
 rw [Nat.shiftRight_eq_div_pow]
theorem sg1_62 (x : Nat) (hx : x < 4294967296) : bits .xor .i64 (bits .xor .i64 ((rotr x 17 : Nat) : Int) ((rotr x 19 : Nat) : Int)) ((x : Int) / 1024) = ((sg1 x : Nat) : Int) := by
 have h1 := rotr_lt x 17 hx
 have h2 := rotr_lt x 19 hx
 have h3 := xor_lt32 h1 h2
 rw [show ((x : Int) / 1024) = ((x / 1024 : Nat) : Int) by simp, xor62 _ _ (by omega) (by omega), xor62 _ _ (by omega) (by omega)]
 unfold sg1
 rw [Nat.shiftRight_eq_div_pow]
theorem sg0_lt (x : Nat) (hx : x < 4294967296) : sg0 x < 4294967296 := xor_lt32 (xor_lt32 (rotr_lt x 7 hx) (rotr_lt x 18 hx)) (by rw [Nat.shiftRight_eq_div_pow]; omega)
theorem sg1_lt (x : Nat) (hx : x < 4294967296) : sg1 x < 4294967296 := xor_lt32 (xor_lt32 (rotr_lt x 17 hx) (rotr_lt x 19 hx)) (by rw [Nat.shiftRight_eq_div_pow]; omega)
theorem bs0_lt (x : Nat) (hx : x < 4294967296) : bs0 x < 4294967296 := xor_lt32 (xor_lt32 (rotr_lt x 2 hx) (rotr_lt x 13 hx)) (rotr_lt x 22 hx)
theorem bs1_lt (x : Nat) (hx : x < 4294967296) : bs1 x < 4294967296 := xor_lt32 (xor_lt32 (rotr_lt x 6 hx) (rotr_lt x 11 hx)) (rotr_lt x 25 hx)
theorem sched_l0 (s : ByteArray) : ∀ (d k j : Nat), 16 ≤ j → j + d = 64 → d < k →
    samphireref02_schedule.l0 k (ints (sched (bys s) j)) (j : Int) = some (ints (sched (bys s) 64)) := by
  intro d
  induction d with
  | zero =>
    intro k j h16 hj hk
    obtain ⟨k, rfl⟩ : ∃ m, k = m + 1 := ⟨k - 1, by omega⟩
    simp only [samphireref02_schedule.l0]
    rw [if_neg (by omega)]
    obtain rfl : j = 64 := by omega
    rfl
  | succ d ih =>
    intro k j h16 hj hk
    obtain ⟨k, rfl⟩ : ∃ m, k = m + 1 := ⟨k - 1, by omega⟩
    simp only [samphireref02_schedule.l0, ints_length, sched_length]
    rw [wr ((j : Int) - 15) (by omega) (by omega), wr ((j : Int) - 2) (by omega) (by omega), wr ((j : Int) - 16) (by omega) (by omega), wr ((j : Int) - 7) (by omega) (by omega), wr ((j : Int) + 1) (by omega) (by omega)]
    rw [if_pos (by omega), if_pos (by omega), if_pos (by omega), if_pos (by omega), if_pos (by omega)]
    rw [show ((j : Int) - 15) = ((j - 15 : Nat) : Int) by omega, show ((j : Int) - 2) = ((j - 2 : Nat) : Int) by omega, show ((j : Int) - 16) = ((j - 16 : Nat) : Int) by omega, show ((j : Int) - 7) = ((j - 7 : Nat) : Int) by omega, show ((j : Int) + 1) = ((j + 1 : Nat) : Int) by omega]
    rw [rd_ints, rd_ints, rd_ints, rd_ints]
    have hb := sched_lt (bys s) (bys_lt s) j
    have b15 := hb (j - 15)
    have b2 := hb (j - 2)
    have b16 := hb (j - 16)
    have b7 := hb (j - 7)
    have hn : sched (bys s) (j + 1) = sched (bys s) j ++ [wordAt (bys s) (sched (bys s) j) j] := rfl
    have hv : wordAt (bys s) (sched (bys s) j) j = ((sched (bys s) j).getD (j - 16) 0 + sg0 ((sched (bys s) j).getD (j - 15) 0) + (sched (bys s) j).getD (j - 7) 0 + sg1 ((sched (bys s) j).getD (j - 2) 0)) % 4294967296 := by
      rw [wordAt, if_neg (by omega)]
    generalize (sched (bys s) j).getD (j - 15) 0 = x15 at *
    generalize (sched (bys s) j).getD (j - 2) 0 = x2 at *
    generalize (sched (bys s) j).getD (j - 16) 0 = x16 at *
    generalize (sched (bys s) j).getD (j - 7) 0 = x7 at *
    have r7 := samphireref02_right.at_ x15 7 b15 rfl
    have r18 := samphireref02_right.at_ x15 18 b15 rfl
    have r17 := samphireref02_right.at_ x2 17 b2 rfl
    have r19 := samphireref02_right.at_ x2 19 b2 rfl
    rw [show (((7 : Nat)) : Int) = 7 from rfl] at r7
    rw [show (((18 : Nat)) : Int) = 18 from rfl] at r18
    rw [show (((17 : Nat)) : Int) = 17 from rfl] at r17
    rw [show (((19 : Nat)) : Int) = 19 from rfl] at r19
    rw [r7, r18, r17, r19]
    simp only [Option.bind_some]
    rw [if_pos (by omega), if_pos (by omega), if_pos (by omega), if_pos (by omega), sg0_62 _ b15, sg1_62 _ b2]
    have q0 := sg0_lt x15 b15
    have q1 := sg1_lt x2 b2
    rw [wr ((x16 : Int) + (sg0 x15 : Int)) (by omega) (by omega), wr ((x16 : Int) + (sg0 x15 : Int) + (x7 : Int)) (by omega) (by omega), wr ((x16 : Int) + (sg0 x15 : Int) + (x7 : Int) + (sg1 x2 : Int)) (by omega) (by omega)]
    rw [show ((x16 : Int) + (sg0 x15 : Int) + (x7 : Int) + (sg1 x2 : Int)) = ((x16 + sg0 x15 + x7 + sg1 x2 : Nat) : Int) by omega, word_f _ (by omega)]
    simp only [Option.bind_some]
    rw [if_pos (by omega), ← hv]
    have := ih k (j + 1) (by omega) (by omega) (by omega)
    rw [hn, ints_append] at this
    exact this
theorem sched_ev (s : ByteArray) (hs : s.size = 64) : Ev (fun k => samphireref02_schedule.f k s) (ints (sched (bys s) 64)) := by
 obtain ⟨K, hK⟩ := big_ev s 16 (by omega) (by omega)
 refine ⟨max K 100, fun k hk => ?_⟩
 show samphireref02_schedule.f k s = _
 unfold samphireref02_schedule.f
 rw [show samphireref01_Big.f k s = some (ints (wordsL (bys s) 16), 0) from hK k (by omega)]
 simp only [Option.bind_some]
 rw [← sched_words _ 16 (by omega)]
 exact sched_l0 s 48 k 16 (by omega) (by omega) (by omega)
theorem chs62 (e f g : Nat) (he : e < 4294967296) (hf : f < 4294967296) (hg : g < 4294967296) :
  bits .xor .i64 (bits .and .i64 (e : Int) (f : Int)) (bits .and .i64 ((4294967295 - e : Nat) : Int) (g : Int)) = ((chs e f g : Nat) : Int) := by
 have h1 : e &&& f < 4294967296 := and_lt32 hf
 have h2 : (4294967295 - e) &&& g < 4294967296 := and_lt32 hg
 rw [and62 _ _ (by omega) (by omega), and62 _ _ (by omega) (by omega), xor62 _ _ (by omega) (by omega)]
 rfl
theorem maj62 (a b c : Nat) (ha : a < 4294967296) (hb : b < 4294967296) (hc : c < 4294967296) :
  bits .xor .i64 (bits .xor .i64 (bits .and .i64 (a : Int) (b : Int)) (bits .and .i64 (a : Int) (c : Int))) (bits .and .i64 (b : Int) (c : Int)) = ((maj a b c : Nat) : Int) := by
 have h1 : a &&& b < 4294967296 := and_lt32 hb
 have h2 : a &&& c < 4294967296 := and_lt32 hc
 have h3 : b &&& c < 4294967296 := and_lt32 hc
 have h4 := xor_lt32 h1 h2
 rw [and62 _ _ (by omega) (by omega), and62 _ _ (by omega) (by omega), and62 _ _ (by omega) (by omega), xor62 _ _ (by omega) (by omega), xor62 _ _ (by omega) (by omega)]
 rfl
theorem bs1_62 (e : Nat) (he : e < 4294967296) : bits .xor .i64 (bits .xor .i64 ((rotr e 6 : Nat) : Int) ((rotr e 11 : Nat) : Int)) ((rotr e 25 : Nat) : Int) = ((bs1 e : Nat) : Int) := by
 have h1 := rotr_lt e 6 he
 have h2 := rotr_lt e 11 he
 have h3 := rotr_lt e 25 he
 have h4 := xor_lt32 h1 h2
 rw [xor62 _ _ (by omega) (by omega), xor62 _ _ (by omega) (by omega)]
 rfl
theorem bs0_62 (e : Nat) (he : e < 4294967296) : bits .xor .i64 (bits .xor .i64 ((rotr e 2 : Nat) : Int) ((rotr e 13 : Nat) : Int)) ((rotr e 22 : Nat) : Int) = ((bs0 e : Nat) : Int) := by
 have h1 := rotr_lt e 2 he
 have h2 := rotr_lt e 13 he
 have h3 := rotr_lt e 22 he
 have h4 := xor_lt32 h1 h2
 rw [xor62 _ _ (by omega) (by omega), xor62 _ _ (by omega) (by omega)]
 rfl
theorem not_word (e : Nat) (he : e < 4294967296) : samphireref01_Word.f (bits .xor .i64 (-1) (e : Int)) = some ((4294967295 - e : Nat) : Int) := by
 unfold samphireref01_Word.f
 have h1 : bits .and .i64 (bits .xor .i64 (-1) (e : Int)) 4294967295 = ((4294967295 - e : Nat) : Int) := by
  have hx : bits .xor .i64 (-1) (e : Int) = -1 - (e : Int) := by
   have h64 : (4294967296 : Nat) < 2 ^ 64 := by decide
   have he64 : e % 2 ^ 64 = e := Nat.mod_eq_of_lt (by omega)
   have e1 : bits .xor .i64 (-1) (e : Int) = IntKind.i64.wrap (((2 ^ 64 - 1) ^^^ e : Nat) : Int) := by
    simp only [bits, BitVec.toNat_xor, BitVec.ofInt_natCast, BitVec.toNat_ofNat]
    rw [show (IntKind.i64.bits) = 64 from rfl, he64]
    rfl
   have e2 : (2 ^ 64 - 1) ^^^ e = 2 ^ 64 - 1 - e := by
    apply Nat.eq_of_testBit_eq
    intro i
    have h := Nat.testBit_two_pow_sub_succ (x := e) (n := 64) (by omega) i
    rw [show (2 ^ 64 - 1 - e : Nat) = 2 ^ 64 - (e + 1) by omega, h, Nat.testBit_xor, Nat.testBit_two_pow_sub_one]
    by_cases hi : i < 64
    ·simp [hi]
    ·have : e.testBit i = false := Nat.testBit_lt_two_pow (Nat.lt_of_lt_of_le (show e < 2 ^ 64 by omega) (Nat.pow_le_pow_right (by decide) (by omega)))
     simp [hi, this]
   rw [e1, e2, IntKind.wrap_i64]
   omega
  rw [hx]
  have e3 : bits .and .i64 (-1 - (e : Int)) 4294967295 = IntKind.i64.wrap (((2 ^ 64 - 1 - e) &&& 4294967295 : Nat) : Int) := by
   simp only [bits, BitVec.toNat_and]
   rw [show (IntKind.i64.bits) = 64 from rfl]
   have e4 : (BitVec.ofInt 64 (-1 - (e : Int))).toNat = 2 ^ 64 - 1 - e := by
    rw [BitVec.toNat_ofInt]
    omega
   rw [e4]
   rfl
  rw [e3, show (4294967295 : Nat) = 2 ^ 32 - 1 from rfl, Nat.and_two_pow_sub_one_eq_mod, IntKind.wrap_i64]
  omega
 rw [h1]
theorem block_round (k : Nat) (w kk v : List Int) (s : St) (hs : s.ok) (i xw xk : Nat) (hi : i < 64) (hw : w.length = 64) (hkk : kk.length = 64) (hxw : rd w (i : Int) = (xw : Int)) (hxk : rd kk (i : Int) = (xk : Int)) (bw : xw < 4294967296) (bk : xk < 4294967296) :
  samphireref02_Block.l0 (k + 1) w kk v (ints s.list) (i : Int) = samphireref02_Block.l0 k w kk v (ints (rnd s xk xw).list) ((i + 1 : Nat) : Int) := by
 obtain ⟨a, b, c, d, e, f, g, h⟩ := s
 obtain ⟨h1, h2, h3, h4, h5, h6, h7, h8⟩ := hs
 simp only at h1 h2 h3 h4 h5 h6 h7 h8
 have hl : (ints (St.mk a b c d e f g h).list).length = 8 := rfl
 simp only [samphireref02_Block.l0, hl, hw, hkk]
 rw [show rd (ints (St.mk a b c d e f g h).list) 0 = (a : Int) from rfl, show rd (ints (St.mk a b c d e f g h).list) 1 = (b : Int) from rfl, show rd (ints (St.mk a b c d e f g h).list) 2 = (c : Int) from rfl, show rd (ints (St.mk a b c d e f g h).list) 3 = (d : Int) from rfl, show rd (ints (St.mk a b c d e f g h).list) 4 = (e : Int) from rfl, show rd (ints (St.mk a b c d e f g h).list) 5 = (f : Int) from rfl, show rd (ints (St.mk a b c d e f g h).list) 6 = (g : Int) from rfl, show rd (ints (St.mk a b c d e f g h).list) 7 = (h : Int) from rfl, hxw, hxk]
 rw [if_pos (by omega), if_pos (by decide), if_pos (by decide), if_pos (by decide), if_pos (by decide), if_pos (by decide), if_pos (by decide), if_pos (by decide)]
 have r6 := samphireref02_right.at_ e 6 h5 rfl
 have r11 := samphireref02_right.at_ e 11 h5 rfl
 have r25 := samphireref02_right.at_ e 25 h5 rfl
 have r2 := samphireref02_right.at_ a 2 h1 rfl
 have r13 := samphireref02_right.at_ a 13 h1 rfl
 have r22 := samphireref02_right.at_ a 22 h1 rfl
 rw [show (((6 : Nat)) : Int) = 6 from rfl] at r6
 rw [show (((11 : Nat)) : Int) = 11 from rfl] at r11
 rw [show (((25 : Nat)) : Int) = 25 from rfl] at r25
 rw [show (((2 : Nat)) : Int) = 2 from rfl] at r2
 rw [show (((13 : Nat)) : Int) = 13 from rfl] at r13
 rw [show (((22 : Nat)) : Int) = 22 from rfl] at r22
 have q1 := bs1_lt e h5
 have q2 := bs0_lt a h1
 have q3 : chs e f g < 4294967296 := xor_lt32 (and_lt32 h6) (and_lt32 h7)
 have q4 : maj a b c < 4294967296 := xor_lt32 (xor_lt32 (and_lt32 h2) (and_lt32 h3)) (and_lt32 h3)
 have p1 : (h + bs1 e + chs e f g + xk + xw) % 4294967296 = t1 ⟨a, b, c, d, e, f, g, h⟩ xk xw := by simp only [t1]
 have p2 : (bs0 a + maj a b c) % 4294967296 = t2 ⟨a, b, c, d, e, f, g, h⟩ := by simp only [t2]
 have p3 : t1 ⟨a, b, c, d, e, f, g, h⟩ xk xw < 4294967296 := Nat.mod_lt _ (by decide)
 have p4 : t2 ⟨a, b, c, d, e, f, g, h⟩ < 4294967296 := Nat.mod_lt _ (by decide)
 have p5 : rnd ⟨a, b, c, d, e, f, g, h⟩ xk xw = ⟨(t1 ⟨a, b, c, d, e, f, g, h⟩ xk xw + t2 ⟨a, b, c, d, e, f, g, h⟩) % 4294967296, a, b, c, (d + t1 ⟨a, b, c, d, e, f, g, h⟩ xk xw) % 4294967296, e, f, g⟩ := by simp only [rnd]
 have W1 : samphireref01_Word.f (wrap64 (wrap64 (wrap64 (wrap64 ((h : Int) + (bs1 e : Int)) + (chs e f g : Int)) + (xk : Int)) + (xw : Int))) = some ((t1 ⟨a, b, c, d, e, f, g, h⟩ xk xw : Nat) : Int) := by
  rw [wr ((h : Int) + (bs1 e : Int)) (by omega) (by omega), wr ((h : Int) + (bs1 e : Int) + (chs e f g : Int)) (by omega) (by omega), wr ((h : Int) + (bs1 e : Int) + (chs e f g : Int) + (xk : Int)) (by omega) (by omega), wr ((h : Int) + (bs1 e : Int) + (chs e f g : Int) + (xk : Int) + (xw : Int)) (by omega) (by omega),
   show ((h : Int) + (bs1 e : Int) + (chs e f g : Int) + (xk : Int) + (xw : Int)) = ((h + bs1 e + chs e f g + xk + xw : Nat) : Int) by omega, word_f _ (by omega), p1]
 have W2 : samphireref01_Word.f (wrap64 ((bs0 a : Int) + (maj a b c : Int))) = some ((t2 ⟨a, b, c, d, e, f, g, h⟩ : Nat) : Int) := by
  rw [wr ((bs0 a : Int) + (maj a b c : Int)) (by omega) (by omega), show ((bs0 a : Int) + (maj a b c : Int)) = ((bs0 a + maj a b c : Nat) : Int) by omega, word_f _ (by omega), p2]
 rw [p5]
 clear p1 p2 p5
 generalize t1 ⟨a, b, c, d, e, f, g, h⟩ xk xw = T1 at *
 generalize t2 ⟨a, b, c, d, e, f, g, h⟩ = T2 at *
 have W3 : samphireref01_Word.f (wrap64 ((T1 : Int) + (T2 : Int))) = some (((T1 + T2) % 4294967296 : Nat) : Int) := by
  rw [wr ((T1 : Int) + (T2 : Int)) (by omega) (by omega), show ((T1 : Int) + (T2 : Int)) = ((T1 + T2 : Nat) : Int) by omega, word_f _ (by omega)]
 have W4 : samphireref01_Word.f (wrap64 ((d : Int) + (T1 : Int))) = some (((d + T1) % 4294967296 : Nat) : Int) := by
  rw [wr ((d : Int) + (T1 : Int)) (by omega) (by omega), show ((d : Int) + (T1 : Int)) = ((d + T1 : Nat) : Int) by omega, word_f _ (by omega)]
 rw [r6, Option.bind_some, r11, Option.bind_some, r25, Option.bind_some, not_word e h5, Option.bind_some, if_pos (by omega), if_pos (by omega), if_pos (by omega), bs1_62 e h5, chs62 e f g h5 h6 h7, W1, Option.bind_some]
 rw [r2, Option.bind_some, r13, Option.bind_some, r22, Option.bind_some, bs0_62 a h1, maj62 a b c h1 h2 h3, W2, Option.bind_some, W3, Option.bind_some, if_pos (by decide), W4, Option.bind_some, wr ((i : Int) + 1) (by omega) (by omega), show ((i : Int) + 1) = ((i + 1 : Nat) : Int) by omega]
 simp only [ints, St.list, List.map_cons, List.map_nil]
theorem shaK_lt (i : Nat) : shaK.getD i 0 < 4294967296 := by
 rcases Nat.lt_or_ge i 64 with h | h
 ·have : ∀ i, i < 64 → shaK.getD i 0 < 4294967296 := by decide +kernel
  exact this i h
 ·rw [List.getD_eq_getElem?_getD, List.getElem?_eq_none (by rw [shaK_length]; exact h)]
  decide
theorem St.list_get (s : St) (hs : s.ok) (i : Nat) : s.list.getD i 0 < 4294967296 := by
 obtain ⟨h1, h2, h3, h4, h5, h6, h7, h8⟩ := hs
 rcases i with _ | _ | _ | _ | _ | _ | _ | _ | i <;> simp [St.list] <;> assumption
theorem block_l1 (v x : St) (hv : v.ok) (hx : x.ok) : ∀ (d k j : Nat), j + d = 8 → d < k →
    ∀ K, (∀ n, K ≤ n → samphireref01_PutBig.f n (ints (v.add x).list) = some (txt (v.add x).bytes)) → K + d < k →
    samphireref02_Block.l1 k (ints v.list) (ints x.list) (ints ((v.add x).list.take j)) (j : Int) = some (txt (v.add x).bytes, 0) := by
  intro d
  induction d with
  | zero =>
    intro k j hj hk K hK hKk
    obtain ⟨k, rfl⟩ : ∃ m, k = m + 1 := ⟨k - 1, by omega⟩
    simp only [samphireref02_Block.l1]
    rw [if_neg (by omega)]
    obtain rfl : j = 8 := by omega
    rw [show (v.add x).list.take 8 = (v.add x).list from rfl, hK k (by omega)]
    rfl
  | succ d ih =>
    intro k j hj hk K hK hKk
    obtain ⟨k, rfl⟩ : ∃ m, k = m + 1 := ⟨k - 1, by omega⟩
    have l1 : (ints v.list).length = 8 := rfl
    have l2 : (ints x.list).length = 8 := rfl
    have l3 : (ints ((v.add x).list.take j)).length = j := by
      rw [ints_length, List.length_take, show (v.add x).list.length = 8 from rfl]
      omega
    simp only [samphireref02_Block.l1, l1, l2, l3]
    rw [if_pos (by omega), if_pos (by omega), if_pos (by omega), if_pos (by omega), rd_ints, rd_ints]
    have b1 := v.list_get hv j
    have b2 := x.list_get hx j
    have hn : (v.add x).list.take (j + 1) = (v.add x).list.take j ++ [(v.list.getD j 0 + x.list.getD j 0) % 4294967296] := by
      obtain ⟨va, vb, vc, vd, ve, vf, vg, vh⟩ := v
      obtain ⟨xa, xb, xc, xd, xe, xf, xg, xh⟩ := x
      rcases j with _ | _ | _ | _ | _ | _ | _ | _ | j <;> first | rfl | omega
    rw [wr ((v.list.getD j 0 : Nat) + (x.list.getD j 0 : Nat) : Int) (by omega) (by omega), show ((v.list.getD j 0 : Nat) + (x.list.getD j 0 : Nat) : Int) = ((v.list.getD j 0 + x.list.getD j 0 : Nat) : Int) by omega, word_f _ (by omega), Option.bind_some, if_pos (by omega), wr ((j : Int) + 1) (by omega) (by omega), show ((j : Int) + 1) = ((j + 1 : Nat) : Int) by omega]
    have := ih k (j + 1) (by omega) (by omega) K hK (by omega)
    rw [hn, ints_append] at this
    exact this
theorem block_l0 (s : St) (hs : s.ok) (b : ByteArray) (K : Nat) (hK : ∀ n, K ≤ n → samphireref01_PutBig.f n (ints (stp s (bys b)).list) = some (txt (stp s (bys b)).bytes)) : ∀ (d k j : Nat), j + d = 64 → K + d + 20 < k →
    samphireref02_Block.l0 k (ints (sched (bys b) 64)) (ints shaK) (ints s.list) (ints (rds (sched (bys b) 64) s j).list) (j : Int) = some (txt (stp s (bys b)).bytes, 0) := by
  intro d
  induction d with
  | zero =>
    intro k j hj hk
    obtain ⟨k, rfl⟩ : ∃ m, k = m + 1 := ⟨k - 1, by omega⟩
    simp only [samphireref02_Block.l0]
    rw [if_neg (by omega)]
    obtain rfl : j = 64 := by omega
    have := block_l1 s (rds (sched (bys b) 64) s 64) hs (rds_ok hs _) 8 k 0 (by omega) (by omega) K hK (by omega)
    exact this
  | succ d ih =>
    intro k j hj hk
    obtain ⟨k, rfl⟩ : ∃ m, k = m + 1 := ⟨k - 1, by omega⟩
    rw [block_round k _ _ _ _ (rds_ok hs _) j _ _ (by omega) (by rw [ints_length, sched_length]) (by rw [ints_length, shaK_length]) (rd_ints _ j) (rd_ints _ j) (sched_lt (bys b) (bys_lt b) 64 j) (shaK_lt j)]
    exact ih k (j + 1) (by omega) (by omega)
theorem block_ev (a0 a1 : ByteArray) : Ev (fun k => samphireref02_Block.f k a0 a1) (if a0.size = 32 ∧ a1.size = 64 then (txt (stp (stOf (bys a0)) (bys a1)).bytes, 0) else (⟨#[]⟩, 1)) := by
 by_cases hc : a0.size = 32 ∧ a1.size = 64
 ·rw [if_pos hc]
  obtain ⟨h0, h1⟩ := hc
  obtain ⟨K1, hK1⟩ := putBig_ev (stp (stOf (bys a0)) (bys a1)).list (St.list_get _ (St.add_ok _ _)) (by simp [St.list])
  obtain ⟨K2, hK2⟩ := sched_ev a1 h1
  obtain ⟨K3, hK3⟩ := big_ev a0 8 (by omega) (by omega)
  refine ⟨K1 + K2 + K3 + 1000, fun k hk => ?_⟩
  show samphireref02_Block.f k a0 a1 = _
  obtain ⟨k, rfl⟩ : ∃ m, k = m + 1 := ⟨k - 1, by omega⟩
  unfold samphireref02_Block.f
  have e1 : ((a1.size : Int) != 64) = false := by rw [bne_eq_false_iff_eq]; omega
  rw [if_pos (by omega), e1]
  simp only [samphireref02_Block.j0]
  rw [if_neg (by decide)]
  rw [show samphireref02_schedule.f k a1 = _ from hK2 k (by omega), show samphireref01_Big.f k a0 = _ from hK3 k (by omega)]
  simp only [Option.bind_some, samphireref02_constants.f]
  have := block_l0 (stOf (bys a0)) (stOf_ok a0) a1 K1 (fun n hn => hK1 n hn) 64 k 0 (by omega) (by omega)
  exact this
 ·rw [if_neg hc]
  refine ⟨1, fun k hk => ?_⟩
  show samphireref02_Block.f k a0 a1 = _
  obtain ⟨k, rfl⟩ : ∃ m, k = m + 1 := ⟨k - 1, by omega⟩
  unfold samphireref02_Block.f
  by_cases h0 : a0.size = 32
  ·have e1 : ((a1.size : Int) != 64) = true := by
    rw [bne_iff_ne]
    omega
   rw [if_pos (by omega), e1]
   simp only [samphireref02_Block.j0]
   rw [if_pos trivial]
  ·rw [if_neg (by omega)]
   simp only [samphireref02_Block.j0]
   rw [if_pos trivial]
end Go.Proofs.YtbkbganflnemeaaGreat.Pr
end

section
namespace Go.Proofs.YtbkbganflnemeaaGreat.Pr
open Go.RowKit Go.Proofs.YtbkbganflnemeaaGreatW.PrintWords Go.Proofs.YtbkbganflnemeaaGreatW.PrintLast Go.Proofs.YtbkbganflnemeaaGreatW.PrintMore
set_option maxHeartbeats 1000000
structure RV (w : World) (g : Nat) (a b c d : Int) (W : World) : Prop where
 grown : w.grownBy W (some g)
 row : W.heap[g]? = some (.cells #[.int .u8 a, .int .u8 b, .int .u8 c, .int .u8 d] 5 (0, 0))
theorem grownBy_set {w W : World} {g : Nat} (h : w.grownBy W (some g)) (i : Nat) (v : Value) : w.grownBy (W.setCell ⟨g, i, none⟩ v) (some g) := by
 refine ⟨h.os, h.tape, h.output, by simpa using h.size, fun k hk hne => ?_⟩
 rw [Below.heap_setCell W ⟨g, i, none⟩ v k (by intro e; exact hne (by rw [e]))]
 exact h.block k hk hne
theorem grownBy_drewN {w W : World} {row : Option Nat} (h : w.grownBy W row) (n : Nat) : w.grownBy (W.drewN n) row := ⟨h.os, h.tape, h.output, h.size, h.block⟩
theorem grownBy_self (w : World) (row : Option Nat) : w.grownBy w row := ⟨rfl, rfl, rfl, Nat.le_refl _, fun _ _ _ => rfl⟩
set_option maxRecDepth 100000 in
theorem reverse4_calls (g : Nat) (a b c d : Int) (w : World) (h : w.heap[g]? = some (.cells #[.int .u8 a, .int .u8 b, .int .u8 c, .int .u8 d] 5 (0, 0))) :
  Calls Tryz.prog 168 #[.slice (some ⟨g, 0, none⟩) 4 4] w fun e w' => e = .returned (.tuple #[]) ∧ RV w g d c b a w' := by
 have H : Aside0 (RV w g a b c d w) := ⟨⟨grownBy_self _ _, h⟩⟩
 clear h
 go_enter Tryz.func168, Tryz.ntmps168
 go_wp2_with (fail)
 go_loopw [2, 3] (fun i j wr => (i = .int .i64 0 ∧ j = .int .i64 3 ∧ Aside0 (RV w g a b c d wr)) ∨ (i = .int .i64 1 ∧ j = .int .i64 2 ∧ Aside0 (RV w g d b c a wr)) ∨ (i = .int .i64 2 ∧ j = .int .i64 1 ∧ Aside0 (RV w g d c b a wr))) (fun i _ _ => 3 - (intOf i).toNat)
 case atStart => exact Or.inl ⟨rfl, rfl, H⟩
 case round =>
  clear H
  rcases hrel with ⟨rfl, rfl, H⟩ | ⟨rfl, rfl, H⟩ | ⟨rfl, rfl, H⟩
  ·have c0 : wr.cell? ⟨g, 0, none⟩ = some (.int .u8 a) := blk_cell H.out.row 0
   have c3 : wr.cell? ⟨g, 3, none⟩ = some (.int .u8 d) := blk_cell H.out.row 3
   have f0 := blk_frozen H.out.row 0
   have f3 := blk_frozen H.out.row 3
   go_wp2_with (fail)
   refine start_ (n := 16) (S := fun w' => w'.cell? ⟨g, 3, none⟩ = some (.int .u8 (d : Int)) ∧ w'.cell? ⟨g, 0, none⟩ = some (.int .u8 (a : Int))) (ds := [13, 15]) #[false, false, false, false, false, false, false, false, false, false, false, false, false, false, false, false] (by kernel_rfl) rfl rfl ⟨(show _ from c3), (show _ from c0)⟩ (fun hHeld => ?_)
   refine pz_ 0 14 rfl rfl (by kernel_rfl) ?_
   refine pz_ 1 15 rfl rfl (by kernel_rfl) ?_
   refine pz_ 2 16 rfl rfl (by kernel_rfl) ?_
   refine pz_ 3 17 rfl rfl (by kernel_rfl) ?_
   refine pz_ 4 18 rfl rfl (by kernel_rfl) ?_
   refine pz_ 5 19 rfl rfl (by kernel_rfl) ?_
   refine pz_ 6 20 rfl rfl (by kernel_rfl) ?_
   refine pz_ 8 22 rfl rfl (by kernel_rfl) ?_
   refine pz_ 9 23 rfl rfl (by kernel_rfl) ?_
   refine pz_ 10 24 rfl rfl (by kernel_rfl) ?_
   refine take_ (i := 7) (N := some 21) (v := ?_) (a' := ?_) #[true, true, true, true, true, true, true, true, true, true, true, false, false, false, false, false] rfl rfl (by kernel_rfl) (fun _ _ _ h => h) (Or.inl ⟨by rfl, ?_⟩) hHeld ?_ ?_
   rotate_left
   ·rintro w' ⟨s0, s1⟩
    go_simp
    with_reducible rfl
   rotate_left
   ·simp only [Act.put, List.setIfInBounds_toArray, List.set_cons_zero, List.set_cons_succ, i64_w, i32_w]
    rfl
   refine take_ (i := 11) (N := some 25) (v := ?_) (a' := ?_) #[true, true, true, true, true, true, true, true, true, true, true, true, false, false, false, false] rfl rfl (by kernel_rfl) (fun _ _ _ h => h) (Or.inl ⟨by rfl, ?_⟩) hHeld ?_ ?_
   rotate_left
   ·rintro w' ⟨s0, s1⟩
    go_simp
    with_reducible rfl
   rotate_left
   ·simp only [Act.put, List.setIfInBounds_toArray, List.set_cons_zero, List.set_cons_succ, i64_w, i32_w]
    rfl
   refine pz_ 12 26 rfl rfl (by kernel_rfl) ?_
   refine last_ (i := 13) (N := none) #[true, true, true, true, true, true, true, true, true, true, true, true, true, true, false, false] rfl rfl (by kernel_rfl) (by decide) (fun K hK => ?_)
   refine skip_ (w1 := ?_) (by rfl) rfl ?_ ?_
   rotate_left
   ·go_simp
    rfl
   refine hK.out _ _ ?_
   clear hK K
   refine pz_ 14 27 rfl rfl (by kernel_rfl) ?_
   refine last_ (i := 15) (N := none) #[true, true, true, true, true, true, true, true, true, true, true, true, true, true, true, true] rfl rfl (by kernel_rfl) (by decide) (fun K hK => ?_)
   refine skip_ (w1 := ?_) (by rfl) rfl ?_ ?_
   rotate_left
   ·go_simp
    rfl
   refine hK.out _ _ ?_
   clear hK K
   refine done_ (by kernel_rfl) ?_
   go_wp2
   refine ⟨Or.inr (Or.inl ⟨rfl, rfl, ⟨⟨grownBy_set (grownBy_set (grownBy_drewN H.out.grown 1) 0 _) 3 _, ?_⟩⟩⟩), by simp [intOf]⟩
   exact blk_put (blk_put (blk_drewN H.out.row 1) 0 _ rfl) 3 _ rfl
  ·have c1 : wr.cell? ⟨g, 1, none⟩ = some (.int .u8 b) := blk_cell H.out.row 1
   have c2 : wr.cell? ⟨g, 2, none⟩ = some (.int .u8 c) := blk_cell H.out.row 2
   have f1 := blk_frozen H.out.row 1
   have f2 := blk_frozen H.out.row 2
   go_wp2_with (fail)
   refine start_ (n := 16) (S := fun w' => w'.cell? ⟨g, 2, none⟩ = some (.int .u8 (c : Int)) ∧ w'.cell? ⟨g, 1, none⟩ = some (.int .u8 (b : Int))) (ds := [13, 15]) #[false, false, false, false, false, false, false, false, false, false, false, false, false, false, false, false] (by kernel_rfl) rfl rfl ⟨(show _ from c2), (show _ from c1)⟩ (fun hHeld => ?_)
   refine pz_ 0 14 rfl rfl (by kernel_rfl) ?_
   refine pz_ 1 15 rfl rfl (by kernel_rfl) ?_
   refine pz_ 2 16 rfl rfl (by kernel_rfl) ?_
   refine pz_ 3 17 rfl rfl (by kernel_rfl) ?_
   refine pz_ 4 18 rfl rfl (by kernel_rfl) ?_
   refine pz_ 5 19 rfl rfl (by kernel_rfl) ?_
   refine pz_ 6 20 rfl rfl (by kernel_rfl) ?_
   refine pz_ 8 22 rfl rfl (by kernel_rfl) ?_
   refine pz_ 9 23 rfl rfl (by kernel_rfl) ?_
   refine pz_ 10 24 rfl rfl (by kernel_rfl) ?_
   refine take_ (i := 7) (N := some 21) (v := ?_) (a' := ?_) #[true, true, true, true, true, true, true, true, true, true, true, false, false, false, false, false] rfl rfl (by kernel_rfl) (fun _ _ _ h => h) (Or.inl ⟨by rfl, ?_⟩) hHeld ?_ ?_
   rotate_left
   ·rintro w' ⟨s0, s1⟩
    go_simp
    with_reducible rfl
   rotate_left
   ·simp only [Act.put, List.setIfInBounds_toArray, List.set_cons_zero, List.set_cons_succ, i64_w, i32_w]
    rfl
   refine take_ (i := 11) (N := some 25) (v := ?_) (a' := ?_) #[true, true, true, true, true, true, true, true, true, true, true, true, false, false, false, false] rfl rfl (by kernel_rfl) (fun _ _ _ h => h) (Or.inl ⟨by rfl, ?_⟩) hHeld ?_ ?_
   rotate_left
   ·rintro w' ⟨s0, s1⟩
    go_simp
    with_reducible rfl
   rotate_left
   ·simp only [Act.put, List.setIfInBounds_toArray, List.set_cons_zero, List.set_cons_succ, i64_w, i32_w]
    rfl
   refine pz_ 12 26 rfl rfl (by kernel_rfl) ?_
   refine last_ (i := 13) (N := none) #[true, true, true, true, true, true, true, true, true, true, true, true, true, true, false, false] rfl rfl (by kernel_rfl) (by decide) (fun K hK => ?_)
   refine skip_ (w1 := ?_) (by rfl) rfl ?_ ?_
   rotate_left
   ·go_simp
    rfl
   refine hK.out _ _ ?_
   clear hK K
   refine pz_ 14 27 rfl rfl (by kernel_rfl) ?_
   refine last_ (i := 15) (N := none) #[true, true, true, true, true, true, true, true, true, true, true, true, true, true, true, true] rfl rfl (by kernel_rfl) (by decide) (fun K hK => ?_)
   refine skip_ (w1 := ?_) (by rfl) rfl ?_ ?_
   rotate_left
   ·go_simp
    rfl
   refine hK.out _ _ ?_
   clear hK K
   refine done_ (by kernel_rfl) ?_
   go_wp2
   refine ⟨Or.inr (Or.inr ⟨rfl, rfl, ⟨⟨grownBy_set (grownBy_set (grownBy_drewN H.out.grown 1) 1 _) 2 _, ?_⟩⟩⟩), by simp [intOf]⟩
   exact blk_put (blk_put (blk_drewN H.out.row 1) 1 _ rfl) 2 _ rfl
  ·go_wp2
   go_end0
   exact ⟨rfl, H.out⟩
def strings_Repeat.f (a0 : ByteArray) (a1 : Int) : Option ByteArray :=
 if 0 ≤ a1 ∧ a1 ≤ 1000000000 ∧ a0.size ≤ 100000 then some ⟨(Lib.repeatL a0.data.toList a1.toNat).toArray⟩ else none
theorem strings_Repeat.calls (a0 : ByteArray) (a1 : Int) (r : ByteArray) (w : World) (h : strings_Repeat.f a0 a1 = some r) :
  Calls Tryz.prog 62 #[.string a0, .int .i64 a1] w fun e w' => e = .returned (.string r) ∧ Below w.heap.size w w' := by
 unfold strings_Repeat.f at h
 by_cases hc : 0 ≤ a1 ∧ a1 ≤ 1000000000 ∧ a0.size ≤ 100000
 ·rw [if_pos hc] at h
  obtain rfl := Option.some.inj h
  obtain ⟨h0, h1, h2⟩ := hc
  obtain ⟨n, rfl⟩ := Int.eq_ofNat_of_zero_le h0
  have hn : n ≤ 1000000000 := by omega
  have hm : a0.size * n ≤ 100000 * 1000000000 := Nat.mul_le_mul h2 hn
  exact Tryz.strings_Repeat a0 n w (by omega) (by omega)
 ·rw [if_neg hc] at h
  cases h
theorem copyCheck_exact (B b : Nat) (bs : List Value) (w : World) (h : Lib.IsBuilder 113 5 B b bs w) :
  Calls Tryz.prog 118 #[.pointer (some ⟨b, 0, none⟩)] w fun e w' => e = .returned (.tuple #[]) ∧ (w' = w ∨ w' = w.setCell ⟨b, 0, none⟩ (.pointer (some ⟨b, 0, none⟩))) ∧ Lib.BuilderAt 113 5 B b (.pointer (some ⟨b, 0, none⟩)) bs w' := by
 rcases h with h | h
 ·refine (Any.Builder_copyCheck_fresh Tryz.lays240 Tryz.Builder_X72_240 b w h.cell0 h.shape h.frozen0).mono ?_
  rintro e w' ⟨rfl, rfl⟩
  exact ⟨rfl, .inr rfl, h.used _⟩
 ·refine (Any.Builder_copyCheck_used Tryz.lays240 Tryz.Builder_X72_240 b w h.cell0).mono ?_
  rintro e w' ⟨rfl, rfl⟩
  exact ⟨rfl, .inl rfl, h⟩
set_option maxRecDepth 100000 in
theorem builder_write (B b : Nat) (bs : List Value) (g m c : Nat) (news : List Value) (w : World) (h : Lib.IsBuilder 113 5 B b bs w)
  (hl : news.length = m) (hnews : ∀ j u, news[j]? = some u → w.cell? ⟨g, j, none⟩ = some u) (hgb : g ≠ b) (h1 : ∀ u ∈ news, u.oneCell' = true) (hlen : bs.length + m ≤ 140737488355328) (hBw : B ≤ w.heap.size) :
  Calls Tryz.prog 169 #[.pointer (some ⟨b, 0, none⟩), .slice (some ⟨g, 0, none⟩) m c] w fun e w' => e = .returned (.tuple #[.int .i64 m, .nilIface]) ∧ (Lib.BuilderAt 113 5 B b (.pointer (some ⟨b, 0, none⟩)) (bs ++ news) w' ∧ Below B w w') := by
 obtain ⟨i0, hi, hz0, hz1, hz2⟩ := info_parts Tryz.Builder_Extra_105.infoByte
 go_enter Tryz.func169, Tryz.ntmps169
 go_wp2_with (go_at_call 118; refine (copyCheck_exact B b bs _ h).mono ?_)
 rintro e w1 ⟨rfl, hw1, h1'⟩
 have hb1 : Below B w w1 := by
  rcases hw1 with rfl | rfl
  ·exact Below.refl _ _
  ·exact (Below.refl B w).setCell (p := ⟨b, 0, none⟩) h1'.1 _
 have hnews1 : ∀ j u, news[j]? = some u → w1.cell? ((⟨g, 0, none⟩ : Addr).add j) = some u := by
  intro j u hj
  rw [add_plain]
  rcases hw1 with rfl | rfl
  ·exact hnews j u hj
  ·rw [World.cell?_setCell_other _ _ _ _ (by intro e; injection e with e _ _; exact hgb e.symm)]
   exact hnews j u hj
 clear hw1 hnews
 obtain ⟨hB, v, hbk, hown, hne⟩ := h1'
 have c0 : w1.cell? ⟨b, 0, none⟩ = some (.pointer (some ⟨b, 0, none⟩)) := by rw [Lib.cell_of_heap hbk]; rfl
 have c1 : w1.cell? ⟨b, 1, none⟩ = some v := by rw [Lib.cell_of_heap hbk]; rfl
 go_wp2_with (at_builtin; refine wpList_append_own _ rfl _ _ 68 rfl B 5 i0 (.int .u8 0) 1 1 Tryz.underlying68 hi hz0 hz1 hz2 rfl (by decide) _ _ _ rfl hown ⟨g, 0, none⟩ m c news rfl (by omega) hnews1 h1 ?c3 ?c4 ?c5 ?_)
 case c3 => unfold maxLen; omega
 case c4 => omega
 case c5 => have := hb1.size; omega
 intro v' w2 hown' hgrow _
 have hlt : b < w1.heap.size := blk_lt hbk
 have hb2 : w2.heap[b]? = some (.cells #[.pointer (some ⟨b, 0, none⟩), v] 113 (0, 0)) := by
  rw [hgrow.block b hlt (fun e => hne e.symm)]
  exact hbk
 have d0 : w2.cell? ⟨b, 0, none⟩ = some (.pointer (some ⟨b, 0, none⟩)) := by rw [Lib.cell_of_heap hb2]; rfl
 have d1 : w2.cell? ⟨b, 1, none⟩ = some v := by rw [Lib.cell_of_heap hb2]; rfl
 have f1 : w2.frozen? ⟨b, 1, none⟩ = false := Lib.frozen_of_heap hb2 1
 obtain ⟨ao, n', cap, rfl⟩ : ∃ ao n' cap, v' = .slice ao n' cap := by
  rcases hown'.2 with ⟨hv, _⟩ | ⟨g, cap, cur, hv, _⟩
  ·exact ⟨_, _, _, hv⟩
  ·exact ⟨_, _, _, hv⟩
 go_wp2
 go_ret2
 refine ⟨rfl, ?_, ?_⟩
 ·exact Lib.BuilderAt.put (T := 113) (e := 5) hB hb2 (bs' := bs ++ news) (by simpa [hl] using hown') (by decide)
 ·exact (hb1.grown hgrow (by have := hb1.size; omega) (fun k hk => (hown.lt k hk).1)).setCell (p := ⟨b, 1, none⟩) hB _
def by4i (x : Int) : List Int := [x / 16777216 % 256, x / 65536 % 256, x / 256 % 256, x % 256]
theorem by4i_length (x : Int) : (by4i x).length = 4 := rfl
theorem flat4i_length (l : List Int) : (l.flatMap by4i).length = 4 * l.length := by
 induction l with
 | nil => rfl
 | cons x l ih => rw [List.flatMap_cons, List.length_append, by4i_length, ih, List.length_cons]; omega
def le4i (x : Int) : List Int := [x % 256, x / 256 % 256, x / 65536 % 256, x / 16777216 % 256]
theorem le4i_length (x : Int) : (le4i x).length = 4 := rfl
theorem flat4r_length (l : List Int) : (l.flatMap le4i).length = 4 * l.length := by
 induction l with
 | nil => rfl
 | cons x l ih => rw [List.flatMap_cons, List.length_append, le4i_length, ih, List.length_cons]; omega
def word_put.f (l0 : List Int) (a1 : Bool) : Option ByteArray := if l0.length ≤ 1000000 then some (strOfNums (l0.flatMap (if a1 then le4i else by4i))) else none
theorem cells_of_nums (xs : List Int) (hx : ∀ x ∈ xs, 0 ≤ x ∧ x < 256) : Lib.byteCells (xs.map fun n => UInt8.ofNat n.toNat) = nums .u8 xs := by
 unfold Lib.byteCells nums
 rw [List.map_map]
 refine List.map_congr_left fun n hn => ?_
 obtain ⟨h0, h1⟩ := hx n hn
 simp
 omega
theorem by4i_range (l : List Int) : ∀ x ∈ l.flatMap by4i, 0 ≤ x ∧ x < 256 := by
 intro x hx
 rw [List.mem_flatMap] at hx
 obtain ⟨y, _, hy⟩ := hx
 simp only [by4i, List.mem_cons, List.not_mem_nil, or_false] at hy
 rcases hy with rfl | rfl | rfl | rfl <;> omega
theorem le4i_range (l : List Int) : ∀ x ∈ l.flatMap le4i, 0 ≤ x ∧ x < 256 := by
 intro x hx
 rw [List.mem_flatMap] at hx
 obtain ⟨y, _, hy⟩ := hx
 simp only [le4i, List.mem_cons, List.not_mem_nil, or_false] at hy
 rcases hy with rfl | rfl | rfl | rfl <;> omega
set_option maxRecDepth 100000 in
theorem word_put.plain (A0 : Option Addr) (c0 : Nat) (l0 : List Int) (w : World) (hr0 : Kd.C (Kd.int .i64) w A0 l0.length l0) (hc0 : l0.length ≤ c0) (hlen : l0.length ≤ 1000000) :
  Calls Tryz.prog 117 #[.slice A0 l0.length c0, .bool false] w fun e w' => e = .returned (.string (strOfNums (l0.flatMap by4i))) ∧ Below w.heap.size w w' := by
 have hr := Aside0.mk (Kd.reads_of_C (enc := Value.int .i64) (d := (0 : Int)) (h1 := fun _ => rfl) hr0)
 clear hr0
 go_enter Tryz.func117, Tryz.ntmps117
 go_wp2
 go_loopw [11] (fun i wr => ∃ k : Nat, k ≤ l0.length ∧ i = .int .i64 k ∧ Aside0 (Lib.IsBuilder 113 5 w.heap.size w.heap.size (nums .u8 ((l0.take k).flatMap by4i)) wr) ∧ Aside0 (Below w.heap.size w wr)) (fun i _ => l0.length - (intOf i).toNat)
 case atStart => exact ⟨0, by omega, rfl, ⟨Lib.fresh_isBuilder _ _ w⟩, ⟨below_alloc (Below.refl _ _) _⟩⟩
 case round =>
  obtain ⟨k, hk, rfl, HI, HB⟩ := hrel
  by_cases hlt : k < l0.length
  ·obtain ⟨ad, hA, hcell⟩ := (hr.out.below HB.out).at_ (k : Int) (by omega) (by omega)
   subst hA
   rw [Int.toNat_natCast] at hcell
   generalize hx : rdOf (0 : Int) l0 (k : Int) = x at hcell
   have HX := Aside0.mk hx
   clear hx
   have hlt1 : w.heap.size < wr.heap.size := by
    rcases HI.out with h | h
    ·exact h.lt
    ·exact h.lt
   have hne : wr.heap.size ≠ w.heap.size := by omega
   have hbw : w.heap.size ≤ wr.heap.size := by omega
   have hlen4 : (nums .u8 ((l0.take k).flatMap by4i)).length ≤ 4000000 := by
    rw [nums_length, flat4i_length, List.length_take]
    omega
   have HI2 : Aside0 (Lib.IsBuilder 113 5 w.heap.size w.heap.size (nums .u8 ((l0.take k).flatMap by4i)) (wr.alloc (.cells #[.int .u8 (x / 16777216 % 256), .int .u8 (x / 65536 % 256), .int .u8 (x / 256 % 256), .int .u8 (x % 256)] 5))) := by
    refine ⟨?_⟩
    rcases HI.out with ⟨h1, v, h2, h3, h4⟩ | ⟨h1, v, h2, h3, h4⟩
    ·exact .inl ⟨h1, v, blk_alloc h2 _, h3.alloc _, h4⟩
    ·exact .inr ⟨h1, v, blk_alloc h2 _, h3.alloc _, h4⟩
   have HE := Aside0.mk hne
   have HL := Aside0.mk hlen4
   clear hne hlen4
   go_wp2_with (go_at_call 169; refine (builder_write w.heap.size w.heap.size (nums .u8 ((l0.take k).flatMap by4i)) wr.heap.size 4 4 (nums .u8 (by4i x)) _ HI2.out rfl (fun j u hj => ?_) HE.out (fun u hu => ?_) (by have := HL.out; omega) (by simp; omega)).mono ?_)
   ·rw [cell_of_row _ _ _ _ _ _ (heap_alloc_new wr _)]
    simpa [nums, by4i] using hj
   ·simp only [nums, by4i, List.map_cons, List.map_nil, List.mem_cons, List.not_mem_nil, or_false] at hu
    rcases hu with rfl | rfl | rfl | rfl <;> rfl
   ·rintro e w2 ⟨rfl, hb2, hbel⟩
    have HB2 := Aside0.mk (show Lib.IsBuilder 113 5 w.heap.size w.heap.size (nums .u8 ((l0.take (k + 1)).flatMap by4i)) w2 from .inr (by
     have e1 : l0.take (k + 1) = l0.take k ++ [x] := by
      rw [List.take_succ_eq_append_getElem hlt, ← HX.out]
      simp [rdOf, hlt]
     rw [e1, List.flatMap_append, nums_append]
     simpa using hb2))
    have HL2 := Aside0.mk (show Below w.heap.size w w2 from (below_alloc HB.out _).trans hbel)
    clear hb2 hbel
    go_wp2
    refine ⟨⟨k + 1, by omega, by go_num, HB2, HL2⟩, by simp [intOf]; omega⟩
  ·obtain rfl : k = l0.length := by omega
   have HI2 := HI.out
   rw [List.take_length, ← cells_of_nums _ (by4i_range l0)] at HI2
   have HI3 := Aside0.mk HI2
   clear HI2 hlt hk
   go_wp2_with (go_at_call 78; refine (Tryz.Builder_String_any w.heap.size w.heap.size _ _ HI3.out HB.out.size).mono ?_; rintro e w2 ⟨rfl, hb2⟩)
   go_ret
   exact ⟨rfl, HB.out.trans hb2⟩
set_option maxRecDepth 100000 in
theorem word_put.turned (A0 : Option Addr) (c0 : Nat) (l0 : List Int) (w : World) (hr0 : Kd.C (Kd.int .i64) w A0 l0.length l0) (hc0 : l0.length ≤ c0) (hlen : l0.length ≤ 1000000) :
  Calls Tryz.prog 117 #[.slice A0 l0.length c0, .bool true] w fun e w' => e = .returned (.string (strOfNums (l0.flatMap le4i))) ∧ Below w.heap.size w w' := by
 have hr := Aside0.mk (Kd.reads_of_C (enc := Value.int .i64) (d := (0 : Int)) (h1 := fun _ => rfl) hr0)
 clear hr0
 go_enter Tryz.func117, Tryz.ntmps117
 go_wp2
 go_loopw [11] (fun i wr => ∃ k : Nat, k ≤ l0.length ∧ i = .int .i64 k ∧ Aside0 (Lib.IsBuilder 113 5 w.heap.size w.heap.size (nums .u8 ((l0.take k).flatMap le4i)) wr) ∧ Aside0 (Below w.heap.size w wr)) (fun i _ => l0.length - (intOf i).toNat)
 case atStart => exact ⟨0, by omega, rfl, ⟨Lib.fresh_isBuilder _ _ w⟩, ⟨below_alloc (Below.refl _ _) _⟩⟩
 case round =>
  obtain ⟨k, hk, rfl, HI, HB⟩ := hrel
  by_cases hlt : k < l0.length
  ·obtain ⟨ad, hA, hcell⟩ := (hr.out.below HB.out).at_ (k : Int) (by omega) (by omega)
   subst hA
   rw [Int.toNat_natCast] at hcell
   generalize hx : rdOf (0 : Int) l0 (k : Int) = x at hcell
   have HX := Aside0.mk hx
   clear hx
   have hlt1 : w.heap.size < wr.heap.size := by
    rcases HI.out with h | h
    ·exact h.lt
    ·exact h.lt
   have hne : wr.heap.size ≠ w.heap.size := by omega
   have hbw : w.heap.size ≤ wr.heap.size := by omega
   have hlen4 : (nums .u8 ((l0.take k).flatMap le4i)).length ≤ 4000000 := by
    rw [nums_length, flat4r_length, List.length_take]
    omega
   have HI2 : Aside0 (Lib.IsBuilder 113 5 w.heap.size w.heap.size (nums .u8 ((l0.take k).flatMap le4i)) (wr.alloc (.cells #[.int .u8 (x / 16777216 % 256), .int .u8 (x / 65536 % 256), .int .u8 (x / 256 % 256), .int .u8 (x % 256)] 5))) := by
    refine ⟨?_⟩
    rcases HI.out with ⟨h1, v, h2, h3, h4⟩ | ⟨h1, v, h2, h3, h4⟩
    ·exact .inl ⟨h1, v, blk_alloc h2 _, h3.alloc _, h4⟩
    ·exact .inr ⟨h1, v, blk_alloc h2 _, h3.alloc _, h4⟩
   have HE := Aside0.mk hne
   have HL := Aside0.mk hlen4
   clear hne hlen4
   go_wp2_with (go_at_call 168; refine (reverse4_calls wr.heap.size _ _ _ _ _ (heap_alloc_new wr _)).mono ?_)
   rintro e w9 ⟨rfl, hrv⟩
   have hb9 : w.heap.size ≤ w9.heap.size := Nat.le_trans (by simp; omega) hrv.grown.size
   have HI3 : Aside0 (Lib.IsBuilder 113 5 w.heap.size w.heap.size (nums .u8 ((l0.take k).flatMap le4i)) w9) := by
    refine ⟨?_⟩
    have hown : ∀ v : Value, ∀ n, wr.ownsRow w.heap.size 5 1 v n (nums .u8 ((l0.take k).flatMap le4i)) → v.ownBlock ≠ some wr.heap.size := fun v n ho he => absurd ((ho.lt _ he).2) (by omega)
    rcases HI.out with ⟨h1, v, h2, h3, h4⟩ | ⟨h1, v, h2, h3, h4⟩
    ·exact .inl ⟨h1, v, blk_grown (blk_alloc h2 _) hrv.grown (by intro e; injection e with e; omega), (h3.alloc _).kept hrv.grown (.inr (hown v _ h3)), h4⟩
    ·exact .inr ⟨h1, v, blk_grown (blk_alloc h2 _) hrv.grown (by intro e; injection e with e; omega), (h3.alloc _).kept hrv.grown (.inr (hown v _ h3)), h4⟩
   have HB9 : Aside0 (Below w.heap.size w w9) := ⟨pw_below_grown (below_alloc HB.out _) (some wr.heap.size) (by simp; omega) hrv.grown (fun k e => by injection e with e; omega)⟩
   have HRV := Aside0.mk hrv.row
   clear hrv
   go_wp2_with (go_at_call 169; refine (builder_write w.heap.size w.heap.size (nums .u8 ((l0.take k).flatMap le4i)) wr.heap.size 4 4 (nums .u8 (le4i x)) _ HI3.out rfl (fun j u hj => ?_) HE.out (fun u hu => ?_) (by have := HL.out; omega) hb9).mono ?_)
   ·rw [cell_of_row _ _ _ _ _ _ HRV.out]
    simpa [nums, le4i] using hj
   ·simp only [nums, le4i, List.map_cons, List.map_nil, List.mem_cons, List.not_mem_nil, or_false] at hu
    rcases hu with rfl | rfl | rfl | rfl <;> rfl
   ·rintro e w2 ⟨rfl, hb2, hbel⟩
    have HB2 := Aside0.mk (show Lib.IsBuilder 113 5 w.heap.size w.heap.size (nums .u8 ((l0.take (k + 1)).flatMap le4i)) w2 from .inr (by
     have e1 : l0.take (k + 1) = l0.take k ++ [x] := by
      rw [List.take_succ_eq_append_getElem hlt, ← HX.out]
      simp [rdOf, hlt]
     rw [e1, List.flatMap_append, nums_append]
     simpa using hb2))
    have HL2 := Aside0.mk (show Below w.heap.size w w2 from HB9.out.trans hbel)
    clear hb2 hbel
    go_wp2
    refine ⟨⟨k + 1, by omega, by go_num, HB2, HL2⟩, by simp [intOf]; omega⟩
  ·obtain rfl : k = l0.length := by omega
   have HI2 := HI.out
   rw [List.take_length, ← cells_of_nums _ (le4i_range l0)] at HI2
   have HI3 := Aside0.mk HI2
   clear HI2 hlt hk
   go_wp2_with (go_at_call 78; refine (Tryz.Builder_String_any w.heap.size w.heap.size _ _ HI3.out HB.out.size).mono ?_; rintro e w2 ⟨rfl, hb2⟩)
   go_ret
   exact ⟨rfl, HB.out.trans hb2⟩
theorem word_put.calls (A0 : Option Addr) (c0 : Nat) (l0 : List Int) (a1 : Bool) (r : ByteArray) (w : World) (hr0 : Kd.C (Kd.int .i64) w A0 l0.length l0) (hc0 : l0.length ≤ c0) (h : word_put.f l0 a1 = some r) :
  Calls Tryz.prog 117 #[.slice A0 l0.length c0, .bool a1] w fun e w' => e = .returned (.string r) ∧ Below w.heap.size w w' := by
 unfold word_put.f at h
 by_cases hc : l0.length ≤ 1000000
 ·rw [if_pos hc] at h
  obtain rfl := Option.some.inj h
  cases a1
  ·exact word_put.plain A0 c0 l0 w hr0 hc0 hc
  ·exact word_put.turned A0 c0 l0 w hr0 hc0 hc
 ·rw [if_neg hc] at h
  cases h
end Go.Proofs.YtbkbganflnemeaaGreat.Pr
end

section
namespace Go.Proofs.YtbkbganflnemeaaGreat.Pr
open Go.RowKit Go.Deep Go.Proofs.YtbkbganflnemeaaGreatW.PrintWords Go.Proofs.YtbkbganflnemeaaGreatW.PrintLast Go.Proofs.YtbkbganflnemeaaGreatW.PrintMore
set_option maxHeartbeats 1000000
theorem txt_repeat (n : Nat) : (⟨(Lib.repeatL (⟨#[0]⟩ : ByteArray).data.toList n).toArray⟩ : ByteArray) = txt (List.replicate n 0) := by
 have h := Lib.repeatL_replicate 0 1 n
 rw [show ((⟨#[0]⟩ : ByteArray).data.toList) = List.replicate 1 0 from rfl, h, Nat.mul_one]
 simp [txt]
def BAt (g : Nat) (l : List Nat) (rest : Array Value) (w : World) : Prop := w.heap[g]? = some (.cells (u8s l ++ rest) 5 ((u8s l ++ rest).size, (u8s l ++ rest).size + 1))
theorem u8s_bys (s : ByteArray) : (s.data.map fun b => Value.int .u8 b.toNat) = u8s (bys s) := by
 unfold u8s bys
 apply Array.ext'
 simp
theorem bytes_row (w : World) (s : ByteArray) : ∃ rest, BAt w.heap.size (bys s) rest (Lib.bytesWorld w 5 s) := by
 refine ⟨Array.replicate (grownCap w s.size 0 5 - s.size) (.int .u8 0), ?_⟩
 unfold BAt
 rw [← u8s_bys]
 exact Lib.bytesWorld_at_new w 5 s
theorem BAt.lt {g : Nat} {l : List Nat} {rest : Array Value} {w : World} {k x : Nat} (hx : l[k]? = some x) : k < (u8s l ++ rest).size := by
 have hk : k < l.length := (List.getElem?_eq_some_iff.1 hx).1
 rw [Array.size_append, u8s_size]
 omega
theorem BAt.cell {g : Nat} {l : List Nat} {rest : Array Value} {w : World} (h : BAt g l rest w) {k x : Nat} (hx : l[k]? = some x) : w.cell? ⟨g, k, none⟩ = some (.int .u8 (x : Int)) := by
 have hk : k < l.length := (List.getElem?_eq_some_iff.1 hx).1
 rw [cell_of_row w g k _ _ _ h, Array.getElem?_append_left (by rw [u8s_size]; exact hk)]
 simp [u8s, hx]
theorem BAt.frozen {g : Nat} {l : List Nat} {rest : Array Value} {w : World} (h : BAt g l rest w) {k x : Nat} (hx : l[k]? = some x) : w.frozen? ⟨g, k, none⟩ = false := by
 have hk : k < (u8s l ++ rest).size := BAt.lt (g := g) (w := w) hx
 have h' : w.heap[g]? = _ := h
 generalize (u8s l ++ rest) = cs at h' hk
 simp [World.frozen?, h']
 omega
theorem BAt.store {g : Nat} {l : List Nat} {rest : Array Value} {w : World} (h : BAt g l rest w) (k x : Nat) (hk : k < l.length) : BAt g (l.set k x) rest (w.setCell ⟨g, k, none⟩ (.int .u8 (x : Int))) := by
 unfold BAt at h ⊢
 rw [setCell_eq_setRow w g k _ _ _ _ h, setRow_heap w g _ _ _ _ h]
 have hk2 : k < l.length + rest.size := by omega
 have e : u8s (l.set k x) ++ rest = (u8s l ++ rest).setIfInBounds k (.int .u8 (x : Int)) := by
  rw [← u8s_set]
  apply Array.ext'
  simp [Array.setIfInBounds, u8s, hk, List.set_append_left, hk2]
 have e2 : (u8s (l.set k x)).size = (u8s l).size := by simp [u8s]
 rw [← e, Array.size_append, Array.size_append, e2]
theorem conv_bat (W : World) (g : Nat) (l : List Nat) (rest : Array Value) (h : BAt g l rest W) (n : Nat) (hn : l.length = n) (c : Nat) :
  (convert 68 9 (.slice (some ⟨g, 0, none⟩) n c)).run Tryz.prog W = .ok (.string (txt l)) W := by
 rw [← str_nats]
 refine run_convert_bytes_arg W 68 5 Tryz.underlying68 Tryz.underlying5 g 0 n c _ (by simpa using hn) (fun i hi => ?_) 9 Tryz.underlying9
 rw [Nat.zero_add, BAt.cell h (List.getElem?_eq_getElem (by omega))]
 simp [show i < l.length by omega]
theorem wrapN (x : Int) (h0 : 0 ≤ x) (h1 : x < 4611686018427387904) : wrap64 x = x := by unfold wrap64; omega
theorem or_zero {a b : Nat} : a ||| b = 0 ↔ a = 0 ∧ b = 0 := Nat.or_eq_zero_iff
theorem xor_zero {a b : Nat} : a ^^^ b = 0 ↔ a = b := by
 constructor
 ·intro h
  have h2 : a ^^^ b ^^^ b = 0 ^^^ b := by rw [h]
  rwa [Nat.xor_assoc, Nat.xor_self, Nat.xor_zero, Nat.zero_xor] at h2
 ·rintro rfl
  exact Nat.xor_self a
theorem isBuilder_below {T e : TypeId} {B b : Nat} {bs : List Value} {w w' : World} (h : Lib.IsBuilder T e B b bs w) (hb : Below w.heap.size w w') : Lib.IsBuilder T e B b bs w' := by
 rcases h with ⟨h1, v, h2, h3, h4⟩ | ⟨h1, v, h2, h3, h4⟩
 ·exact .inl ⟨h1, v, blk_below h2 hb, pw_own_below h3 hb, h4⟩
 ·exact .inr ⟨h1, v, blk_below h2 hb, pw_own_below h3 hb, h4⟩
end Go.Proofs.YtbkbganflnemeaaGreat.Pr
end

section
namespace Go.Proofs.YtbkbganflnemeaaGreat.Pr
open Go.RowKit Go.Proofs.YtbkbganflnemeaaGreatW.PrintWords Go.Proofs.YtbkbganflnemeaaGreatW.PrintLast Go.Proofs.YtbkbganflnemeaaGreatW.PrintMore
set_option maxHeartbeats 1000000
theorem by4i_nat (n : Nat) : by4i (n : Int) = ints (by4 n) := by
 simp only [by4i, ints, by4, List.map_cons, List.map_nil]
 congr 1
theorem flat4i_ints (l : List Nat) : (ints l).flatMap by4i = ints (l.flatMap by4) := by
  induction l with
  | nil => rfl
  | cons x l ih =>
    have : ints (x :: l) = (x : Int) :: ints l := rfl
    rw [this, List.flatMap_cons, List.flatMap_cons, ints_append, ih, by4i_nat]
theorem word_PutBig_ints (l : List Int) (A0 : Option Addr) (c0 : Nat) (w : World) (hr0 : Kd.C (Kd.int .i64) w A0 l.length l) (hc0 : l.length ≤ c0) (hl : l.length ≤ 1000000) :
  Calls Tryz.prog 76 #[.slice A0 l.length c0] w fun e w' => e = .returned (.string (strOfNums (l.flatMap by4i))) ∧ Below w.heap.size w w' := by
 have HR := Aside0.mk hr0
 clear hr0
 go_enter Tryz.func76, Tryz.ntmps76
 go_wp2_with (go_at_call 117; refine (word_put.plain A0 c0 l _ HR.out hc0 hl).mono ?_; rintro e w' ⟨rfl, hb⟩)
 go_ret
 exact ⟨rfl, hb⟩
theorem lit_reads (W : World) (xs : List Int) (e : TypeId) (hm : xs.length ≤ 1000000) : Kd.C (Kd.int .i64) (W.alloc (.cells (nums .i64 xs).toArray e)) (some ⟨W.heap.size, 0, none⟩) xs.length xs :=
 Kd.C_of_reads (d := (0 : Int)) (h1 := fun _ => rfl) (own_reads' (own_lit W 0 e .i64 xs (Nat.zero_le _) (by omega)))
set_option maxRecDepth 100000 in
theorem sha_Pad.yes (n : Nat) (w : World) (h1 : (n : Int) ≤ 1125899906842624) :
  Calls Tryz.prog 178 #[.int .i64 n] w fun e w' => e = .returned (.tuple #[.string (txt (padL n)), .int .i64 0]) ∧ Below w.heap.size w w' := by
 have d0 : decide ((n : Int) < 0) = false := by simp
 have d1 : decide (1125899906842624 < (n : Int)) = false := by simpa using h1
 have e2 := Aside0.mk (show [(n : Int) / 536870912, (n : Int) * 8] = ints [n / 536870912, 8 * n] by simp [ints]; omega)
 have hm : (119 - n % 64) % 64 ≤ 64 := by omega
 go_enter Tryz.func178, Tryz.ntmps178
 go_wp2_with (fail)
 rw [show (((119 : Int) - (n : Int)) % 64) = (((119 - n % 64) % 64 : Nat) : Int) by omega]
 refine (Tryz.strings_Repeat (⟨#[0]⟩ : ByteArray) ((119 - n % 64) % 64) _ (by omega) (by show 1 * _ ≤ _; omega)).mono ?_
 rw [txt_repeat]
 rintro e w1 ⟨rfl, hb1⟩
 generalize hT : txt (List.replicate ((119 - n % 64) % 64) 0) = T
 have hTs : T.size ≤ 64 := by rw [← hT, txt_size, List.length_replicate]; exact hm
 have HT := Aside0.mk hT
 clear hT
 have k1 : 1 + T.size ≤ 9223372036854775807 := by omega
 have k2 : decide (1 + T.size ≤ 9223372036854775807) = true := decide_eq_true k1
 have C := word_PutBig_ints [(n : Int) / 536870912, (n : Int) * 8] (some ⟨w1.heap.size, 0, none⟩) 2 _ (lit_reads w1 [(n : Int) / 536870912, (n : Int) * 8] 3 (by simp)) (by simp) (by simp)
 have e3 : strOfNums (([(n : Int) / 536870912, (n : Int) * 8] : List Int).flatMap by4i) = txt (([n / 536870912, 8 * n] : List Nat).flatMap by4) := by rw [e2.out, flat4i_ints, str_ints]
 rw [e3] at C
 clear e3
 generalize hU : txt (([n / 536870912, 8 * n] : List Nat).flatMap by4) = U at C
 have hUs : U.size ≤ 8 := by rw [← hU, txt_size]; simp [by4]
 have HU := Aside0.mk hU
 have HC := Aside0.mk C
 clear hU hm C
 have hs3 : ((⟨#[128]⟩ : ByteArray) ++ T).size = 1 + T.size := by rw [ByteArray.size_append]; rfl
 have k3 : ((⟨#[128]⟩ : ByteArray) ++ T).size + U.size ≤ 9223372036854775807 := by rw [hs3]; omega
 have k5 : 1 + T.size + U.size ≤ 9223372036854775807 := by omega
 clear hs3
 have k4 : decide (((⟨#[128]⟩ : ByteArray) ++ T).size + U.size ≤ 9223372036854775807) = true := decide_eq_true k3
 go_wp2_with (go_at_call 76; refine HC.out.mono ?_; rintro e w2 ⟨rfl, hb2⟩)
 go_ret2
 refine ⟨congrArg (fun z => Ending.returned (Value.tuple #[.string z, .int .i64 0])) ?_, ?_⟩
 ·show ((⟨#[128]⟩ : ByteArray) ++ T) ++ U = txt (padL n)
  rw [← HT.out, ← HU.out]
  have e5 : padL n = ([128] ++ List.replicate ((119 - n % 64) % 64) 0) ++ ([n / 536870912, 8 * n] : List Nat).flatMap by4 := by
   simp [padL]
  rw [e5, txt_append, txt_append]
  rfl
 ·exact below_then (below_alloc hb1 _) (below_alloc hb1 _).size hb2
theorem by4_mod (x : Nat) : by4 (x % 4294967296) = by4 x := by
 simp only [by4]
 congr 1
 ·omega
 ·congr 1
  ·omega
  ·congr 1
   ·omega
   ·congr 1
    omega
theorem putBig_two (n : Nat) (h1 : n ≤ 1125899906842624) (W : World) :
  Calls Tryz.prog 80 #[.slice (some ⟨W.heap.size, 0, none⟩) 2 2] (W.alloc (.cells #[.int .i64 (8 * (n : Int) / 4294967296), .int .i64 (bits .and .i64 (8 * (n : Int)) 4294967295)] 3)) fun e w' => e = .returned (.string (txt (([n / 536870912, 8 * n] : List Nat).flatMap by4))) ∧ Below (W.alloc (.cells #[.int .i64 (8 * (n : Int) / 4294967296), .int .i64 (bits .and .i64 (8 * (n : Int)) 4294967295)] 3)).heap.size (W.alloc (.cells #[.int .i64 (8 * (n : Int) / 4294967296), .int .i64 (bits .and .i64 (8 * (n : Int)) 4294967295)] 3)) w' := by
 obtain ⟨K, hK⟩ := putBig_ev [8 * n / 4294967296, 8 * n % 4294967296] (by intro i; rcases i with _ | _ | i <;> simp <;> omega) (by simp)
 have e1 : bits .and .i64 (8 * (n : Int)) 4294967295 = ((8 * n % 4294967296 : Nat) : Int) := by
  have := mask62 (8 * n) (by omega)
  rw [← this]
  congr 1
 have e2 : [8 * (n : Int) / 4294967296, bits .and .i64 (8 * (n : Int)) 4294967295] = ints [8 * n / 4294967296, 8 * n % 4294967296] := by
  rw [e1]
  simp [ints]
 have e3 : txt (([8 * n / 4294967296, 8 * n % 4294967296] : List Nat).flatMap by4) = txt (([n / 536870912, 8 * n] : List Nat).flatMap by4) := by
  simp only [List.flatMap_cons, List.flatMap_nil, by4_mod]
  rw [show 8 * n / 4294967296 = n / 536870912 by omega]
 have h := samphireref01_PutBig.calls K (some ⟨W.heap.size, 0, none⟩) 2 (ints [8 * n / 4294967296, 8 * n % 4294967296]) _ _ (lit_reads W (ints [8 * n / 4294967296, 8 * n % 4294967296]) 3 (by simp [ints])) (by simp [ints]) (hK K (Nat.le_refl _))
 rw [e3, ← e2] at h
 exact h
def zs (n : Nat) : Nat := (119 - n % 64) % 64
set_option maxRecDepth 100000 in
theorem samphireref02_Pad.yes (n : Nat) (w : World) (h1 : (n : Int) ≤ 1125899906842624) :
    Calls Tryz.prog 155 #[.int .i64 n] w fun e w' => e = .returned (.tuple #[.string (txt (padL n)), .int .i64 0]) ∧ Below w.heap.size w w' := by
  have d0 : decide ((n : Int) < 0) = false := by simp
  have d1 : decide (1125899906842624 < (n : Int)) = false := by simpa using h1
  have hi8 : (Tryz.prog.info? 5).map (fun i => (i.zero, i.size, i.bytes)) = some (some (.int .u8 0), 1, 1) := by kernel_rfl
  go_enter Tryz.func155, Tryz.ntmps155
  go_wp2
  go_loopg [4] (zs n) (fun gk v wr => ∃ j : Nat, Aside0 (j + gk = zs n) ∧ Aside0 (wr.ownsRow w.heap.size 5 1 v (j + 1) (nums .u8 (ints (128 :: List.replicate j 0)))) ∧ Aside0 (Below w.heap.size w wr))
  case atStart => exact ⟨0, ⟨by omega⟩, ⟨own_lit w _ 5 .u8 [128] (Nat.le_refl _) (by decide)⟩, ⟨below_alloc (Below.refl _ _) _⟩⟩
  case round =>
    obtain ⟨j, HJ, HO, HB⟩ := hrel
    obtain ⟨A, c, hv⟩ := own_slice HO.out
    subst hv
    cases gk with
    | zero =>
      have hj := HJ.out
      have q1 : (((n : Int) + ((j : Int) + 1) + 8) % 64 != 0) = false := by
        rw [bne_eq_false_iff_eq]
        unfold zs at hj
        omega
      have q2 : (((n : Int) + ((j : Int) + 1) + 8) % 64 == 0) = true := by
        rw [beq_iff_eq]
        unfold zs at hj
        omega
      have hj2 : j ≤ 64 := by unfold zs at hj; omega
      have hn0 : n ≤ 1125899906842624 := by omega
      have HC := Aside0.mk (putBig_two n hn0)
      generalize hU : txt (([n / 536870912, 8 * n] : List Nat).flatMap by4) = U at HC
      have hUs : U.size ≤ 8 := by rw [← hU, txt_size]; simp [by4]
      have HU := Aside0.mk hU
      have HCV := Aside0.mk (fun (W' : World) (h : W'.ownsRow w.heap.size 5 1 (.slice A (j + 1) c) (j + 1) (nums .u8 (ints (128 :: List.replicate j 0)))) => own_string (P := Tryz.prog) Tryz.underlying68 Tryz.underlying5 Tryz.underlying9 h)
      rw [str_ints] at HCV
      generalize hT : txt (128 :: List.replicate j 0) = T at HCV
      have hTs : T.size ≤ 65 := by rw [← hT, txt_size]; simp; exact hj2
      have HT := Aside0.mk hT
      have k1 : T.size + U.size ≤ 9223372036854775807 := by omega
      have k2 : decide (T.size + U.size ≤ 9223372036854775807) = true := decide_eq_true k1
      have k3 : (9223372036854775807 < T.size + U.size) = False := eq_false (Nat.not_lt.2 k1)
      have hjz : j = zs n := by omega
      have HZ := Aside0.mk hjz
      clear hj hjz hT hU hn0
      go_wp2
      have HO2 : Aside0 (wr.drew.ownsRow w.heap.size 5 1 (.slice A (j + 1) c) (j + 1) (nums .u8 (ints (128 :: List.replicate j 0)))) := ⟨HO.out⟩
      have HB2 : Aside0 (Below w.heap.size w wr.drew) := ⟨pw_below_drewN HB.out 1⟩
      refine start_ (n := 11) (S := fun w' => (convert 68 9 (.slice A (j + 1) c)).run Tryz.prog w' = .ok (.string T) w') (ds := []) #[false, false, false, false, false, false, false, false, false, false, false] (by kernel_rfl) rfl rfl (HCV.out _ HO2.out) (fun hHeld => ?_)
      generalize wr.drew = W at HO2 HB2 hHeld ⊢
      refine pz_ 0 25 rfl rfl (by kernel_rfl) ?_
      refine pz_ 2 27 rfl rfl (by kernel_rfl) ?_
      refine pz_ 3 28 rfl rfl (by kernel_rfl) ?_
      refine pz_ 4 29 rfl rfl (by kernel_rfl) ?_
      refine pz_ 5 30 rfl rfl (by kernel_rfl) ?_
      refine take_ (i := 1) (N := some 26) (v := ?_) (a' := ?_) #[true, true, true, true, true, true, false, false, false, false, false] rfl rfl (by kernel_rfl) (fun _ _ _ h => h) (Or.inl ⟨by rfl, ?_⟩) hHeld ?_ ?_
      rotate_left
      · intro w' s0
        go_simp
        with_reducible rfl
      rotate_left
      · simp only [Act.put, List.setIfInBounds_toArray, List.set_cons_zero, List.set_cons_succ, i64_w, i32_w]
        rfl
      refine one_ (i := 6) (N := some 31) #[true, true, true, true, true, true, true, false, false, false, false] rfl rfl (by kernel_rfl) (by decide) (fun K hK => ?_)
      refine value_ (w1 := ?_) (v := ?_) (by rfl) rfl ?_ ?_
      rotate_left 2
      · go_simp
        constructor
        · rfl
        · rfl
      refine hK.out _ _ (HCV.out _ (own_alloc HO2.out _)) (fun hHeld => ?_)
      clear hK K
      refine norm_ sa_ ?_
      refine one_ (i := 7) (N := some 32) #[true, true, true, true, true, true, true, true, false, false, false] rfl rfl (by kernel_rfl) (by decide) (fun K hK => ?_)
      refine goes_ Tryz.func80 (by kernel_rfl) rfl #[.slice (some ⟨W.heap.size, 0, none⟩) 2 2] (by rfl) rfl rfl (by simp only [List.map_toArray, List.map_cons, List.map_nil]; rfl) ?_
      with_reducible refine (HC.out W).mono ?_
      rintro e w16 ⟨rfl, hb⟩
      refine ⟨_, rfl, ?_⟩
      have HO3 := Aside0.mk (pw_own_below (own_alloc HO2.out _) hb)
      refine hK.out _ _ (HCV.out _ HO3.out) (fun hHeld => ?_)
      clear hK K
      refine norm_ sa_ ?_
      refine pz_ 8 33 rfl rfl (by kernel_rfl) ?_
      refine pz_ 9 2 rfl rfl (by kernel_rfl) ?_
      refine pz_ 10 3 rfl rfl (by kernel_rfl) ?_
      refine done_ (by kernel_rfl) ?_

      go_wp2
      go_ret2
      refine ⟨congrArg (fun z => Ending.returned (Value.tuple #[.string z, .int .i64 0])) ?_, ?_⟩
      · show T ++ U = txt (padL n)
        rw [← HT.out, ← HU.out, HZ.out, ← txt_append]
        congr 1
        simp [padL, zs]
      · exact below_then (below_alloc HB2.out _) (below_alloc HB2.out _).size hb
    | succ g =>
      have hz : zs n < 64 := Nat.mod_lt _ (by decide)
      have hj := HJ.out
      have q1 : (((n : Int) + ((j : Int) + 1) + 8) % 64 != 0) = true := by
        rw [bne_iff_ne]
        unfold zs at hj hz
        omega
      have q2 : (((n : Int) + ((j : Int) + 1) + 8) % 64 == 0) = false := by
        rw [beq_eq_false_iff_ne]
        unfold zs at hj hz
        omega
      have hj2 : j ≤ 64 := by omega
      clear hj hz
      have hl8 : (ints (128 :: List.replicate j 0)).length = j + 1 := by simp [ints]
      have HL8 := Aside0.mk hl8
      clear hl8
      go_wp2_with (at_builtin; refine print_append_num (w0 := w) w.heap.size rfl (.tmp 20) (.tmp 21) 68 5 .u8 1 rfl Tryz.underlying68 hi8 (by decide) (.slice A (j + 1) c) (ints (128 :: List.replicate j 0)) 0 rfl rfl ?aO ?aB ?aS ?aL ?_; (case aO => rw [HL8.out]; exact HO.out); (case aB => exact HB.out); (case aS => exact HB.out.size); (case aL => rw [HL8.out]; omega); intro v1 w1 ho hb hg hat; clear hg hat; have HO1 := Aside0.mk ho; have HB1 := Aside0.mk hb; clear ho hb)
      go_roundg g
      case measure => omega
      case rel =>
        refine ⟨j + 1, ⟨by have := HJ.out; omega⟩, ⟨?_⟩, ⟨HB1.out⟩⟩
        have e : ints (128 :: List.replicate j 0) ++ [0] = ints (128 :: List.replicate (j + 1) 0) := by
          rw [List.replicate_succ']
          simp [ints]
        have := HO1.out
        rw [e] at this
        simpa [ints] using this
end Go.Proofs.YtbkbganflnemeaaGreat.Pr
namespace Go.Proofs.YtbkbganflnemeaaGreat.Pr
open Go.RowKit Go.Deep Go.Proofs.YtbkbganflnemeaaGreatW.PrintWords Go.Proofs.YtbkbganflnemeaaGreatW.PrintLast Go.Proofs.YtbkbganflnemeaaGreatW.PrintMore
set_option maxHeartbeats 2000000
theorem St.bytes_length (s : St) : s.bytes.length = 32 := rfl
theorem St.bytes_lt (s : St) : ∀ n ∈ s.bytes, n < 256 := by
 intro n hn
 simp only [St.bytes, St.list, by4, List.flatMap_cons, List.flatMap_nil, List.cons_append, List.nil_append, List.mem_cons, List.not_mem_nil, or_false] at hn
 omega
theorem be4_by4 (x : Nat) (h : x < 4294967296) : x / 16777216 % 256 * 16777216 + x / 65536 % 256 * 65536 + x / 256 % 256 * 256 + x % 256 = x := by omega
theorem stOf_bytes (s : St) (h : s.ok) : stOf s.bytes = s := by
 obtain ⟨a, b, c, d, e, f, g, hh⟩ := s
 obtain ⟨h1, h2, h3, h4, h5, h6, h7, h8⟩ := h
 simp only at h1 h2 h3 h4 h5 h6 h7 h8
 simp only [stOf, be4, St.bytes, St.list, by4, List.flatMap_cons, List.flatMap_nil, List.cons_append, List.nil_append]
 simp [be4_by4 a h1, be4_by4 b h2, be4_by4 c h3, be4_by4 d h4, be4_by4 e h5, be4_by4 f h6, be4_by4 g h7, be4_by4 hh h8]
theorem bys_bytes (s : St) : bys (txt s.bytes) = s.bytes := bys_txt s.bytes_lt
theorem blks_succ (n : Nat) : ∀ (s : St) (l : List Nat), blks (n + 1) s l = stp (blks n s l) ((l.drop (64 * n)).take 64) := by
  induction n with
  | zero => intro s l; simp [blks]
  | succ n ih =>
    intro s l
    rw [blks, ih, blks, List.drop_drop]
    congr 2
    congr 1
    omega
theorem stp_ok (s : St) (l : List Nat) : (stp s l).ok := St.add_ok _ _
theorem blks_ok (n : Nat) : ∀ (s : St) (l : List Nat), s.ok → (blks n s l).ok := by
 induction n with
 | zero => intro s l h; exact h
 | succ n ih => intro s l h; exact ih _ _ (stp_ok _ _)
theorem padL_lt (n : Nat) : ∀ x ∈ padL n, x < 256 := by
 intro x hx
 simp only [padL, by4, List.mem_cons, List.mem_append, List.mem_replicate, List.not_mem_nil, or_false] at hx
 omega
theorem padL_len (n : Nat) : (padL n).length = 9 + (119 - n % 64) % 64 := by
 simp [padL, by4]
 omega
def allL (a : ByteArray) : List Nat := bys a ++ padL a.size
theorem allL_len (a : ByteArray) : ∃ m, (allL a).length = 64 * m ∧ a.size < 64 * m := by
 refine ⟨(a.size + 9 + (119 - a.size % 64) % 64) / 64, ?_, ?_⟩
 ·rw [allL, List.length_append, bys_length, padL_len]
  omega
 ·omega
def sumF (a0 : ByteArray) : Option ByteArray := if a0.size ≤ 1000000000000 then some (txt (blks ((allL a0).length / 64) St0 (allL a0)).bytes) else none
def sha_Sum.f (a0 : ByteArray) : Option ByteArray := sumF a0
def samphireref02_Sum.f (a0 : ByteArray) : Option ByteArray := sumF a0
theorem refBegin (w : World) : Calls Tryz.prog 156 #[] w fun e w' => e = .returned (.string (txt St0.bytes)) ∧ Below w.heap.size w w' := by
 obtain ⟨K, hK⟩ := begin_ev
 exact samphireref02_Begin.calls K _ w (hK K (Nat.le_refl _))
theorem refBlock (s b : ByteArray) (w : World) (hs : s.size = 32) (hb : b.size = 64) :
  Calls Tryz.prog 157 #[.string s, .string b] w fun e w' => e = .returned (.tuple #[.string (txt (stp (stOf (bys s)) (bys b)).bytes), .int .i64 0]) ∧ Below w.heap.size w w' := by
 obtain ⟨K, hK⟩ := block_ev s b
 rw [if_pos ⟨hs, hb⟩] at hK
 exact samphireref02_Block.calls K s b _ _ w (hK K (Nat.le_refl _))
set_option maxRecDepth 100000 in
theorem refSum (a0 : ByteArray) (w : World) (hn : a0.size ≤ 1000000000000) :
  Calls Tryz.prog 107 #[.string a0] w fun e w' => e = .returned (.string (txt (blks ((allL a0).length / 64) St0 (allL a0)).bytes)) ∧ Below w.heap.size w w' := by
 have hn1 : (a0.size : Int) ≤ 1125899906842624 := by omega
 obtain ⟨m, hm, hm2⟩ := allL_len a0
 have e0 : (allL a0).length / 64 = m := by omega
 rw [e0]
 clear e0
 go_enter Tryz.func107, Tryz.ntmps107
 go_wp2_with (fail)
 refine (samphireref02_Pad.yes a0.size _ hn1).mono ?_
 rintro e w1 ⟨rfl, hb1⟩
 generalize hT : txt (padL a0.size) = T
 have hTs : T.size ≤ 100 := by rw [← hT, txt_size, padL_len]; omega
 have k1 : a0.size + T.size ≤ 9223372036854775807 := by omega
 have k3 : (9223372036854775807 < a0.size + T.size) = False := eq_false (Nat.not_lt.2 k1)
 have hS : bys (a0 ++ T) = allL a0 := by rw [bys_append, ← hT, bys_txt (padL_lt _)]; rfl
 have hSs : (a0 ++ T).size = 64 * m := by rw [← bys_length, hS, hm]
 have HSs := Aside0.mk hSs
 have hs1 : (a0 ++ T).size ≤ 1000000000200 := by rw [ByteArray.size_append]; omega
 clear hSs
 clear hT hn1
 have HS := Aside0.mk hS
 have HM := Aside0.mk hm
 clear hS hm
 go_wp2_with (go_at_call 156; refine (refBegin _).mono ?_; generalize a0 ++ T = S at HS HSs hs1 ⊢; rintro e w2 ⟨rfl, hb2⟩)
 have hB0 := below_then hb1 hb1.size hb2
 have HB0 := Aside0.mk hB0
 clear hB0 hb1 hb2 k1 k3
 go_wp2
 go_loopw [5, 6] (fun st i wr => ∃ (q : Nat) (τ : ByteArray), i = .int .i64 q ∧ st = .string τ ∧ q ≤ S.size ∧ τ.size = 32 ∧ Aside0 (∃ j, q = 64 * j ∧ j ≤ m ∧ τ = txt (blks j St0 (allL a0)).bytes) ∧ Aside0 (Below w.heap.size w wr)) (fun _ i _ => S.size + 64 - (intOf i).toNat)
 case atStart => exact ⟨0, txt St0.bytes, rfl, rfl, by omega, rfl, ⟨0, rfl, by omega, rfl⟩, HB0⟩
 case round =>
  obtain ⟨q, τ, rfl, rfl, hq, hτ, HJ, HB⟩ := hrel
  by_cases hlt : q + 64 ≤ S.size
  ·have hx : (S.extract q (q + 64)).size = 64 := by simp; omega
   have HX := Aside0.mk hx
   have HT := Aside0.mk hτ
   clear hx hτ
   have i1 := eq_true (show (q : Int) + 64 ≤ (S.size : Int) by omega)
   have i2 := eq_true (show (q : Int) ≤ (q : Int) + 64 by omega)
   have i3 := eq_true (show 0 ≤ (q : Int) by omega)
   have i4 : ((q : Int) + 64).toNat = q + 64 := by omega
   go_wp2_with (go_at_call 157; refine (refBlock τ (S.extract q (q + 64)) _ HT.out HX.out).mono ?_; rintro e w3 ⟨rfl, hb3⟩)
   go_roundw
   case measure => simp [intOf]; omega
   case rel =>
    obtain ⟨j, hj1, hj2, hj3⟩ := HJ.out
    have hj4 : j + 1 ≤ m := by have := HSs.out; omega
    refine ⟨q + 64, _, by go_num, rfl, hlt, by rw [txt_size, St.bytes_length], ⟨j + 1, by omega, hj4, ?_⟩, ⟨below_then HB.out HB.out.size hb3⟩⟩
    rw [blks_succ, hj3, bys_bytes, stOf_bytes _ (blks_ok _ _ _ St0_ok), bys_extract, HS.out, hj1]
    rw [Nat.add_sub_cancel_left]
  ·clear hτ
   have i1 := eq_false (show ¬ (q : Int) + 64 ≤ (S.size : Int) by omega)
   go_wp2
   go_ret
   obtain ⟨j, hj1, hj2, hj3⟩ := HJ.out
   have hj4 : j = m := by have := HSs.out; omega
   rw [← hj4, ← hj3]
   exact ⟨rfl, HB.out⟩
theorem samphireref02_Sum.calls (a0 : ByteArray) (r : ByteArray) (w : World) (h : samphireref02_Sum.f a0 = some r) :
  Calls Tryz.prog 107 #[.string a0] w fun e w' => e = .returned (.string r) ∧ Below w.heap.size w w' := by
 unfold samphireref02_Sum.f sumF at h
 by_cases hc : a0.size ≤ 1000000000000
 ·rw [if_pos hc] at h
  obtain rfl := Option.some.inj h
  exact refSum a0 w hc
 ·rw [if_neg hc] at h
  cases h
def strLen : Value → Nat | .string s => s.size | _ => 0
def StAt (g : Nat) (s : St) (w : World) : Prop := w.heap[g]? = some (.cells #[.int .u32 (s.a : Int), .int .u32 (s.b : Int), .int .u32 (s.c : Int), .int .u32 (s.d : Int), .int .u32 (s.e : Int), .int .u32 (s.f : Int), .int .u32 (s.g : Int), .int .u32 (s.h : Int)] 215 (0, 0))
def KAt (g : Nat) (w : World) : Prop := w.heap[g]? = some (.cells (u32s shaK) 212 (0, 0))
theorem StAt.store {g : Nat} {s : St} {w : World} (h : StAt g s w) (t : St) : StAt g t (w.setRow g #[.int .u32 (t.a : Int), .int .u32 (t.b : Int), .int .u32 (t.c : Int), .int .u32 (t.d : Int), .int .u32 (t.e : Int), .int .u32 (t.f : Int), .int .u32 (t.g : Int), .int .u32 (t.h : Int)]) :=
 setRow_heap _ _ _ _ _ _ h
theorem below_setRow8 {B g : Nat} {w0 w : World} (hb : Below B w0 w) (hg : B ≤ g) (cs : Array Value) : Below B w0 (w.setRow g cs) :=
 ⟨hb.os, hb.tape, hb.output, by simpa [World.setRow] using hb.size, fun k hk => by rw [setRow_other _ _ _ _ (by omega)]; exact hb.block k hk⟩
theorem KAt.store {g g' : Nat} {w : World} (h : KAt g w) (hg : g ≠ g') (cs : Array Value) : KAt g (w.setRow g' cs) := by
 unfold KAt
 rw [setRow_other _ _ _ _ hg]
 exact h
set_option maxRecDepth 100000 in
theorem shaSum (a0 : ByteArray) (w : World) (hn : a0.size ≤ 1000000000000) :
  Calls Tryz.prog 145 #[.string a0] w fun e w' => e = .returned (.string (txt (blks ((allL a0).length / 64) St0 (allL a0)).bytes)) ∧ Below w.heap.size w w' := by
 have hinf : (Tryz.prog.info? 212).map (·.size) = some 64 := by kernel_rfl
 have hinf8 : (Tryz.prog.info? 215).map (·.size) = some 8 := by kernel_rfl
 have hn1 : (a0.size : Int) ≤ 1125899906842624 := by omega
 obtain ⟨m, hm, hm2⟩ := allL_len a0
 have e0 : (allL a0).length / 64 = m := by omega
 rw [e0]
 clear e0
 have HI := Aside0.mk hinf
 have HI8 := Aside0.mk hinf8
 clear hinf hinf8
 go_enter Tryz.func145, Tryz.ntmps145
 go_wp2_with (fail)
 refine (sha_Pad.yes a0.size _ hn1).mono ?_
 rintro e w1 ⟨rfl, hb1⟩
 generalize hT : txt (padL a0.size) = T
 have hTs : T.size ≤ 100 := by rw [← hT, txt_size, padL_len]; omega
 have hTb : bys T = padL a0.size := by rw [← hT, bys_txt (padL_lt _)]
 have HTB := Aside0.mk hTb
 have HM := Aside0.mk hm
 clear hT hm hTb hn1
 go_wp2_with (first | (go_at_call 179; refine (constants.calls _).mono ?_; rintro e w2 ⟨rfl, hb2⟩; have HB2 := Aside0.mk (below_then hb1 hb1.size hb2); clear hb1 hb2) | (refine wpList_store_row rfl 212 (.tmp 5) (.tmp 16) rfl _ (u32s shaK) rfl rfl 212 _ (heap_alloc_last _ _) HI.out (by rfl) (u32s_one _) ?_; rw [World.setRow_alloc_new]) | (go_at_call 180; refine (sha_start.calls _).mono ?_; rintro e w3 ⟨rfl, hb3⟩))
 have HK : KAt w2.heap.size (w3.alloc (.cells #[.int .u32 (St0.a : Int), .int .u32 (St0.b : Int), .int .u32 (St0.c : Int), .int .u32 (St0.d : Int), .int .u32 (St0.e : Int), .int .u32 (St0.f : Int), .int .u32 (St0.g : Int), .int .u32 (St0.h : Int)] 215)) := blk_alloc (blk_below (heap_alloc_last _ _) hb3) _
 have HS0 : StAt w3.heap.size St0 (w3.alloc (.cells #[.int .u32 (St0.a : Int), .int .u32 (St0.b : Int), .int .u32 (St0.c : Int), .int .u32 (St0.d : Int), .int .u32 (St0.e : Int), .int .u32 (St0.f : Int), .int .u32 (St0.g : Int), .int .u32 (St0.h : Int)] 215)) := heap_alloc_last _ _
 have q1 : Below w.heap.size w (w2.alloc (.cells (u32s shaK) 212)) := below_alloc HB2.out _
 have HB4 : Below w.heap.size w (w3.alloc (.cells #[.int .u32 (St0.a : Int), .int .u32 (St0.b : Int), .int .u32 (St0.c : Int), .int .u32 (St0.d : Int), .int .u32 (St0.e : Int), .int .u32 (St0.f : Int), .int .u32 (St0.g : Int), .int .u32 (St0.h : Int)] 215)) := below_alloc (below_then q1 q1.size hb3) _
 have hk1 : w2.heap.size ≠ w3.heap.size := by have := hb3.size; simp at this; omega
 have hk2 : w.heap.size ≤ w3.heap.size := by have := hb3.size; have := q1.size; omega
 have AK := Aside0.mk HK
 have AS := Aside0.mk HS0
 have AB := Aside0.mk HB4
 have A1 := Aside0.mk hk1
 have A2 := Aside0.mk hk2
 clear HK HS0 HB4 q1 hb3 hk1 hk2 HB2
 generalize w3.alloc (.cells #[.int .u32 (St0.a : Int), .int .u32 (St0.b : Int), .int .u32 (St0.c : Int), .int .u32 (St0.d : Int), .int .u32 (St0.e : Int), .int .u32 (St0.f : Int), .int .u32 (St0.g : Int), .int .u32 (St0.h : Int)] 215) = w4 at AK AS AB ⊢
 generalize w2.heap.size = gc at AK A1 ⊢
 generalize w3.heap.size = gh at AS A1 A2 ⊢
 obtain ⟨M, hM⟩ : ∃ M : Nat, (a0.size : Int) / 64 * 64 = (M : Int) := ⟨a0.size / 64 * 64, by omega⟩
 rw [hM]
 have hM2 : M ≤ a0.size := by omega
 have hM3 : a0.size < M + 64 := by omega
 have hM4 : ∃ j, M = 64 * j := ⟨a0.size / 64, by omega⟩
 have HM4 := Aside0.mk hM4
 clear hM hM4
 go_loopw [8] (fun i wr => ∃ (q j : Nat), i = .int .i64 q ∧ q ≤ M ∧ Aside0 (q = 64 * j) ∧ Aside0 (KAt gc wr) ∧ Aside0 (StAt gh (blks j St0 (allL a0)) wr) ∧ Aside0 (Below w.heap.size w wr)) (fun i _ => M - (intOf i).toNat)
 case atStart => exact ⟨0, 0, rfl, by omega, ⟨rfl⟩, AK, AS, AB⟩
 case round =>
  clear AK AS AB
  obtain ⟨q, j, rfl, hq, HJ, HK, HS, HB⟩ := hrel
  by_cases hlt : q < M
  ·have hle : q + 64 ≤ a0.size := by
    obtain ⟨j', hj'⟩ := HM4.out
    have := HJ.out
    omega
   have hx : (a0.extract q (q + 64)).size = 64 := by simp; omega
   have HX := Aside0.mk hx
   clear hx
   generalize hst : blks j St0 (allL a0) = st at HS
   have hok : st.ok := by rw [← hst]; exact blks_ok _ _ _ St0_ok
   have HST := Aside0.mk hst
   have HOK := Aside0.mk hok
   clear hst hok
   obtain ⟨a, b, c, d, e, f, g, h⟩ := st
   have i1 := eq_true (show (q : Int) + 64 ≤ (a0.size : Int) by omega)
   have i2 := eq_true (show (q : Int) ≤ (q : Int) + 64 by omega)
   have i3 := eq_true (show 0 ≤ (q : Int) by omega)
   have i4 : ((q : Int) + 64).toNat = q + 64 := by omega
   have i5 : IntKind.i64.wrap ((q : Int) + 64) = (q : Int) + 64 := IntWalk.i64_in _ (by omega)
   go_wp2_with (fail)
   refine wp_still_tail 6 (by kernel_rfl) (by kernel_rfl) ?_
   intro W hW
   have hcv := cell_row8 (w := W) (g := gh) (t := 215) (by rw [hW]; exact HS.out)
   have HK2 : Aside0 (KAt gc W) := ⟨by rw [hW]; exact HK.out⟩
   have HS2 : Aside0 (StAt gh ⟨a, b, c, d, e, f, g, h⟩ W) := ⟨by rw [hW]; exact HS.out⟩
   have HB2 : Aside0 (Below w.heap.size w W) := ⟨by rw [hW]; exact pw_below_drewN HB.out 1⟩
   clear hW HS HK HB
   simp only [List.take_succ_cons, List.take_zero, List.drop_succ_cons, List.drop_zero]
   repeat still_step
   refine wpStill_nil ?_
   clear hcv
   go_wp2_with (first | (go_at_call 181; refine (sums_step.calls a b c d e f g h gc (a0.extract q (q + 64)) W HOK.out HX.out HK2.out).mono ?_; rintro e5 w5 ⟨⟨s', hs', rfl⟩, hb5⟩; generalize hV : #[Value.int .u32 (s'.a : Int), Value.int .u32 (s'.b : Int), Value.int .u32 (s'.c : Int), Value.int .u32 (s'.d : Int), Value.int .u32 (s'.e : Int), Value.int .u32 (s'.f : Int), Value.int .u32 (s'.g : Int), Value.int .u32 (s'.h : Int)] = V; have HV := Aside0.mk hV; clear hV; have HS5 := Aside0.mk hs'; have HB5 := Aside0.mk hb5; clear hs' hb5) | (refine wpList_store_row rfl 215 (.tmp 6) (.tmp 33) rfl gh V rfl rfl 215 _ (blk_below HS2.out HB5.out) (by rw [← HV.out]; exact HI8.out) (by rw [← HV.out]; rfl) (by rw [← HV.out]; exact u32s_one [s'.a, s'.b, s'.c, s'.d, s'.e, s'.f, s'.g, s'.h]) ?_))
   rw [← HV.out]
   have HK6 : Aside0 (KAt gc (w5.setRow gh #[.int .u32 (s'.a : Int), .int .u32 (s'.b : Int), .int .u32 (s'.c : Int), .int .u32 (s'.d : Int), .int .u32 (s'.e : Int), .int .u32 (s'.f : Int), .int .u32 (s'.g : Int), .int .u32 (s'.h : Int)])) := ⟨KAt.store (blk_below HK2.out HB5.out) A1.out _⟩
   have HS6 : Aside0 (StAt gh s' (w5.setRow gh #[.int .u32 (s'.a : Int), .int .u32 (s'.b : Int), .int .u32 (s'.c : Int), .int .u32 (s'.d : Int), .int .u32 (s'.e : Int), .int .u32 (s'.f : Int), .int .u32 (s'.g : Int), .int .u32 (s'.h : Int)])) := ⟨StAt.store (blk_below HS2.out HB5.out) s'⟩
   have HB6 : Aside0 (Below w.heap.size w (w5.setRow gh #[.int .u32 (s'.a : Int), .int .u32 (s'.b : Int), .int .u32 (s'.c : Int), .int .u32 (s'.d : Int), .int .u32 (s'.e : Int), .int .u32 (s'.f : Int), .int .u32 (s'.g : Int), .int .u32 (s'.h : Int)])) := ⟨below_setRow8 (below_then HB2.out HB2.out.size HB5.out) A2.out _⟩
   generalize w5.setRow gh #[.int .u32 (s'.a : Int), .int .u32 (s'.b : Int), .int .u32 (s'.c : Int), .int .u32 (s'.d : Int), .int .u32 (s'.e : Int), .int .u32 (s'.f : Int), .int .u32 (s'.g : Int), .int .u32 (s'.h : Int)] = w6 at HK6 HS6 HB6 ⊢
   go_wp2
   refine ⟨⟨q + 64, j + 1, by go_num, by obtain ⟨j', hj'⟩ := HM4.out; have := HJ.out; omega, ⟨by have := HJ.out; omega⟩, HK6, ⟨?_⟩, HB6⟩, by simp [intOf]; omega⟩
   have e : blks (j + 1) St0 (allL a0) = s' := by
    rw [blks_succ, HST.out, HS5.out, bys_extract, allL, ← HJ.out, List.drop_append_of_le_length (by rw [bys_length]; omega), List.take_append_of_le_length (by rw [List.length_drop, bys_length]; omega), Nat.add_sub_cancel_left]
   rw [e]
   exact HS6.out
  ·have hqM : q = M := by omega
   subst hqM
   clear hlt hq
   have i1 := eq_true (show (q : Int) ≤ (a0.size : Int) by omega)
   have i3 := eq_true (show 0 ≤ (q : Int) by omega)
   have hsz : (a0.extract q a0.size).size ≤ 64 := by simp; omega
   have k1 : (a0.extract q a0.size).size + T.size ≤ 9223372036854775807 := by omega
   have k3 : (9223372036854775807 < (a0.extract q a0.size).size + T.size) = False := eq_false (Nat.not_lt.2 k1)
   go_wp2_with (fail)
   have HT : Aside0 (bys (a0.extract q a0.size ++ T) = (allL a0).drop (64 * j)) := ⟨by rw [bys_append, HTB.out, bys_extract, allL, ← HJ.out, List.drop_append_of_le_length (by rw [bys_length]; omega), List.take_of_length_le (by rw [List.length_drop, bys_length]; omega)]⟩
   have ht : (a0.extract q a0.size ++ T).size ≤ 200 := by rw [ByteArray.size_append]; omega
   have hjm : 64 * j ≤ 64 * m := by have := HJ.out; omega
   generalize a0.extract q a0.size ++ T = U at HT ht ⊢
   clear k1 k3 hsz i1 i3
   go_loopw [9] (fun t wr => ∃ (j : Nat) (τ : ByteArray), t = .string τ ∧ τ.size ≤ 200 ∧ Aside0 (bys τ = (allL a0).drop (64 * j)) ∧ Aside0 (64 * j ≤ 64 * m) ∧ Aside0 (KAt gc wr) ∧ Aside0 (StAt gh (blks j St0 (allL a0)) wr) ∧ Aside0 (Below w.heap.size w wr)) (fun t _ => strLen t)
   case atStart => exact ⟨j, U, rfl, ht, HT, ⟨hjm⟩, HK, HS, HB⟩
   case round =>
    clear HJ HK HS HB HT
    obtain ⟨j, τ, rfl, hτ, HT, HJ, HK, HS, HB⟩ := hrel
    have hlen : τ.size = 64 * m - 64 * j := by rw [← bys_length, HT.out, List.length_drop, HM.out]
    by_cases hz : τ.size = 0
    ·have hτ0 : τ = ⟨#[]⟩ := by
      obtain ⟨⟨l⟩⟩ := τ
      congr
      cases l with
      | nil => rfl
      | cons x l => simp [ByteArray.size] at hz
     subst hτ0
     have hjm : j = m := by have := HJ.out; rw [hz] at hlen; omega
     clear hτ hlen hz HT
     rw [hjm] at HS
     generalize hst : blks m St0 (allL a0) = st at HS
     have HST := Aside0.mk hst
     clear hst
     obtain ⟨a, b, c, d, e, f, g, h⟩ := st
     have hcv := cell_row8 (w := wr) (g := gh) (t := 215) HS.out
     go_wp2_with (go_at_call 182; refine (sums_text.calls _ _ _ _ _ _ _ _ _).mono ?_; rintro e w7 ⟨rfl, hb7⟩)
     go_ret
     rw [HST.out]
     exact ⟨rfl, below_then HB.out HB.out.size hb7⟩
    ·have hge : 64 ≤ τ.size := by have := HJ.out; omega
     have hx : (τ.extract 0 64).size = 64 := by simp; omega
     have HX := Aside0.mk hx
     have HL := Aside0.mk hlen
     clear hx hlen
     generalize hst : blks j St0 (allL a0) = st at HS
     have hok : st.ok := by rw [← hst]; exact blks_ok _ _ _ St0_ok
     have HST := Aside0.mk hst
     have HOK := Aside0.mk hok
     clear hst hok
     obtain ⟨a, b, c, d, e, f, g, h⟩ := st
     have i1 := eq_true (show (64 : Int) ≤ (τ.size : Int) by omega)
     have i2 : τ.toList.isEmpty = false := by
      rw [ByteArray.toList_eq]
      obtain ⟨⟨l⟩⟩ := τ
      cases l with
      | nil => exact absurd rfl hz
      | cons x l => rfl
     go_wp2_with (fail)
     refine wp_still_tail 3 (by kernel_rfl) (by kernel_rfl) ?_
     intro W hW
     have hcv := cell_row8 (w := W) (g := gh) (t := 215) (by rw [hW]; exact HS.out)
     have HK2 : Aside0 (KAt gc W) := ⟨by rw [hW]; exact HK.out⟩
     have HS2 : Aside0 (StAt gh ⟨a, b, c, d, e, f, g, h⟩ W) := ⟨by rw [hW]; exact HS.out⟩
     have HB2 : Aside0 (Below w.heap.size w W) := ⟨by rw [hW]; exact pw_below_drewN HB.out 1⟩
     clear hW HS HK HB
     simp only [List.take_succ_cons, List.take_zero, List.drop_succ_cons, List.drop_zero]
     repeat still_step
     refine wpStill_nil ?_
     clear hcv
     go_wp2_with (first | (go_at_call 181; refine (sums_step.calls a b c d e f g h gc (τ.extract 0 64) W HOK.out HX.out HK2.out).mono ?_; rintro e5 w5 ⟨⟨s', hs', rfl⟩, hb5⟩; generalize hV : #[Value.int .u32 (s'.a : Int), Value.int .u32 (s'.b : Int), Value.int .u32 (s'.c : Int), Value.int .u32 (s'.d : Int), Value.int .u32 (s'.e : Int), Value.int .u32 (s'.f : Int), Value.int .u32 (s'.g : Int), Value.int .u32 (s'.h : Int)] = V; have HV := Aside0.mk hV; clear hV; have HS5 := Aside0.mk hs'; have HB5 := Aside0.mk hb5; clear hs' hb5) | (refine wpList_store_row rfl 215 (.tmp 6) (.tmp 46) rfl gh V rfl rfl 215 _ (blk_below HS2.out HB5.out) (by rw [← HV.out]; exact HI8.out) (by rw [← HV.out]; rfl) (by rw [← HV.out]; exact u32s_one [s'.a, s'.b, s'.c, s'.d, s'.e, s'.f, s'.g, s'.h]) ?_))
     rw [← HV.out]
     have HK6 : Aside0 (KAt gc (w5.setRow gh #[.int .u32 (s'.a : Int), .int .u32 (s'.b : Int), .int .u32 (s'.c : Int), .int .u32 (s'.d : Int), .int .u32 (s'.e : Int), .int .u32 (s'.f : Int), .int .u32 (s'.g : Int), .int .u32 (s'.h : Int)])) := ⟨KAt.store (blk_below HK2.out HB5.out) A1.out _⟩
     have HS6 : Aside0 (StAt gh s' (w5.setRow gh #[.int .u32 (s'.a : Int), .int .u32 (s'.b : Int), .int .u32 (s'.c : Int), .int .u32 (s'.d : Int), .int .u32 (s'.e : Int), .int .u32 (s'.f : Int), .int .u32 (s'.g : Int), .int .u32 (s'.h : Int)])) := ⟨StAt.store (blk_below HS2.out HB5.out) s'⟩
     have HB6 : Aside0 (Below w.heap.size w (w5.setRow gh #[.int .u32 (s'.a : Int), .int .u32 (s'.b : Int), .int .u32 (s'.c : Int), .int .u32 (s'.d : Int), .int .u32 (s'.e : Int), .int .u32 (s'.f : Int), .int .u32 (s'.g : Int), .int .u32 (s'.h : Int)])) := ⟨below_setRow8 (below_then HB2.out HB2.out.size HB5.out) A2.out _⟩
     generalize w5.setRow gh #[.int .u32 (s'.a : Int), .int .u32 (s'.b : Int), .int .u32 (s'.c : Int), .int .u32 (s'.d : Int), .int .u32 (s'.e : Int), .int .u32 (s'.f : Int), .int .u32 (s'.g : Int), .int .u32 (s'.h : Int)] = w6 at HK6 HS6 HB6 ⊢
     go_wp2
     refine ⟨⟨j + 1, τ.extract 64 τ.size, rfl, by simp; omega, ⟨?_⟩, ⟨by have := HJ.out; have := HL.out; omega⟩, HK6, ⟨?_⟩, HB6⟩, by simp [strLen]; omega⟩
     ·rw [bys_extract, HT.out, List.take_of_length_le (by have := HL.out; simp [HM.out]; omega), List.drop_drop]
      rfl
     ·have e : blks (j + 1) St0 (allL a0) = s' := by
       rw [blks_succ, HST.out, HS5.out, bys_extract, HT.out]
       rfl
      rw [e]
      exact HS6.out
theorem sha_Sum.calls (a0 : ByteArray) (r : ByteArray) (w : World) (h : sha_Sum.f a0 = some r) :
  Calls Tryz.prog 145 #[.string a0] w fun e w' => e = .returned (.string r) ∧ Below w.heap.size w w' := by
 unfold sha_Sum.f sumF at h
 by_cases hc : a0.size ≤ 1000000000000
 ·rw [if_pos hc] at h
  obtain rfl := Option.some.inj h
  exact shaSum a0 w hc
 ·rw [if_neg hc] at h
  cases h
end Go.Proofs.YtbkbganflnemeaaGreat.Pr
namespace Go.Proofs.YtbkbganflnemeaaGreat.Pr
open Go.RowKit Go.Proofs.YtbkbganflnemeaaGreatW.PrintWords Go.Proofs.YtbkbganflnemeaaGreatW.PrintLast
theorem sumL_length (l : List Nat) : (sumL l).length = 32 := rfl
theorem sumL_lt (l : List Nat) : ∀ n ∈ sumL l, n < 256 := St.bytes_lt _
theorem allL_bys (a : ByteArray) : allL a = bys a ++ padL (bys a).length := by rw [allL, bys_length]
def sumT (a : ByteArray) : ByteArray := txt (sumL (bys a))
theorem sumT_size (a : ByteArray) : (sumT a).size = 32 := by rw [sumT, txt_size, sumL_length]
theorem bys_sumT (a : ByteArray) : bys (sumT a) = sumL (bys a) := bys_txt (sumL_lt _)
theorem sumF_eq (a : ByteArray) (h : a.size ≤ 1000000000000) : sumF a = some (sumT a) := by
 unfold sumF
 rw [if_pos h, allL_bys]
 rfl
theorem sha_Sum_f (a : ByteArray) (h : a.size ≤ 1000000000000) : sha_Sum.f a = some (sumT a) := sumF_eq a h
theorem ref_Sum_f (a : ByteArray) (h : a.size ≤ 1000000000000) : samphireref02_Sum.f a = some (sumT a) := sumF_eq a h
end Go.Proofs.YtbkbganflnemeaaGreat.Pr
end

section
namespace Go.Proofs.YtbkbganflnemeaaGreat.Pr
open Go.RowKit Go.Deep Go.Proofs.YtbkbganflnemeaaGreatW.PrintWords Go.Proofs.YtbkbganflnemeaaGreatW.PrintLast Go.Proofs.YtbkbganflnemeaaGreatW.PrintMore
set_option maxHeartbeats 2000000
def key64 (l : List Nat) : List Nat := (if l.length > 64 then sumL l else l) ++ List.replicate (64 - (if l.length > 64 then sumL l else l).length) 0
theorem key64_length (l : List Nat) : (key64 l).length = 64 := by
 unfold key64
 rw [List.length_append, List.length_replicate]
 split
 ·rw [sumL_length]
 ·omega
def hmac_turned.f (a0 : ByteArray) (a1 : Int) : Option ByteArray :=
 if a0.size ≤ 1000000000000 ∧ 0 ≤ a1 ∧ a1 < 256 then some (txt ((key64 (bys a0)).map (· ^^^ a1.toNat))) else none
def mixAt (b : Nat) (L : List Nat) (k : Nat) : List Nat := (L.take k).map (· ^^^ b) ++ L.drop k
theorem mixAt_length (b : Nat) (L : List Nat) (k : Nat) : (mixAt b L k).length = L.length := by
 unfold mixAt
 rw [List.length_append, List.length_map, List.length_take, List.length_drop]
 omega
theorem mixAt_get (b : Nat) (L : List Nat) (k : Nat) (hk : k < L.length) : (mixAt b L k)[k]? = some (L.getD k 0) := by
 unfold mixAt
 rw [List.getElem?_append_right (by rw [List.length_map, List.length_take]; omega), List.length_map, List.length_take, List.getElem?_drop]
 simp [Nat.min_eq_left (Nat.le_of_lt hk), hk]
theorem mixAt_set (b : Nat) (L : List Nat) (k x : Nat) (hk : k < L.length) (hx : L.getD k 0 = x) : (mixAt b L k).set k (x ^^^ b) = mixAt b L (k + 1) := by
 unfold mixAt
 have hx' : L[k] = x := by rw [← hx]; simp [hk]
 rw [List.set_append_right _ _ (by rw [List.length_map, List.length_take]; omega), List.take_succ_eq_append_getElem hk, List.map_append, List.append_assoc, hx', List.length_map, List.length_take, Nat.min_eq_left (Nat.le_of_lt hk), Nat.sub_self, List.drop_eq_getElem_cons hk]
 rfl
theorem mixAt_all (b : Nat) (L : List Nat) (k : Nat) (hk : L.length = k) : mixAt b L k = L.map (· ^^^ b) := by
 unfold mixAt
 rw [← hk, List.take_length, List.drop_length, List.append_nil]
set_option maxRecDepth 100000 in
theorem turnedS (a0 : ByteArray) (by_ : Nat) (hb : by_ < 256) (hn : a0.size ≤ 64) (w : World) :
  Calls Tryz.prog 146 #[.string a0, .int .u8 by_] w fun e w' => e = .returned (.string (txt ((bys a0 ++ List.replicate (64 - a0.size) 0).map (· ^^^ by_)))) ∧ Below w.heap.size w w' := by
 have c1 : decide (64 < (a0.size : Int)) = false := decide_eq_false (by omega)
 have kb := fun (s : ByteArray) W => print_bytes (P := Tryz.prog) 9 68 5 Tryz.underlying9 Tryz.underlying68 Tryz.underlying5 s W
 go_enter Tryz.func146, Tryz.ntmps146
 go_wp2_with (fail)
 rw [show ((64 : Int) - (a0.size : Int)) = ((64 - a0.size : Nat) : Int) by omega]
 refine (Tryz.strings_Repeat (⟨#[0]⟩ : ByteArray) (64 - a0.size) _ (by omega) (by show 1 * _ ≤ _; omega)).mono ?_
 rw [txt_repeat]
 rintro e w1 ⟨rfl, hb1⟩
 generalize hT : txt (List.replicate (64 - a0.size) 0) = T
 have hTs : T.size = 64 - a0.size := by rw [← hT, txt_size, List.length_replicate]
 have k1 : a0.size + T.size ≤ 9223372036854775807 := by omega
 have k3 : (9223372036854775807 < a0.size + T.size) = False := eq_false (Nat.not_lt.2 k1)
 have hS : bys (a0 ++ T) = bys a0 ++ List.replicate (64 - a0.size) 0 := by rw [bys_append, ← hT, bys_txt (by intro n hn; rw [List.mem_replicate] at hn; omega)]
 have hSs : (a0 ++ T).size = 64 := by rw [ByteArray.size_append]; omega
 have HS := Aside0.mk hS
 have HSs := Aside0.mk hSs
 clear hS hSs hT
 have kb1 := kb (a0 ++ T)
 clear kb
 go_wp2_with (fail)
 have HROW := bytes_row w1 (a0 ++ T)
 have HBW : Aside0 (Below w.heap.size w (Lib.bytesWorld w1 5 (a0 ++ T))) := ⟨bytes_below hb1 hb1.size _ _⟩
 have HG : Aside0 (w.heap.size ≤ w1.heap.size) := ⟨hb1.size⟩
 clear kb1 hb1 k1 k3
 rw [HS.out] at HROW
 generalize hL : bys a0 ++ List.replicate (64 - a0.size) 0 = L at HROW HS ⊢
 have hLl : L.length = 64 := by rw [← hL, List.length_append, bys_length, List.length_replicate]; omega
 have hLb : ∀ x ∈ L, x < 256 := by
  rw [← HS.out]
  intro x hx
  obtain ⟨i, hi, rfl⟩ := List.getElem_of_mem hx
  have := bys_lt (a0 ++ T) i
  simpa [List.getD_eq_getElem?_getD, List.getElem?_eq_getElem hi] using this
 obtain ⟨rest, HROW⟩ := HROW
 have HLl := Aside0.mk hLl
 have HL := Aside0.mk hL
 have HLb := Aside0.mk hLb
 have HR := Aside0.mk HROW
 clear hL hLl hLb HROW HS HSs
 generalize Lib.bytesWorld w1 5 (a0 ++ T) = w2 at HR HBW ⊢
 generalize grownCap w1 64 0 5 = cp
 generalize w1.heap.size = g at HR HG ⊢
 have hcv := Aside0.mk (fun (W : World) (l : List Nat) (h : BAt g l rest W) (hl : l.length = 64) => conv_bat W g l rest h 64 hl cp)
 go_loopw [19] (fun i wr => ∃ k : Nat, k ≤ 64 ∧ i = .int .i64 k ∧ Aside0 (BAt g (mixAt by_ L k) rest wr) ∧ Aside0 (Below w.heap.size w wr)) (fun i _ => 64 - (intOf i).toNat)
 case atStart => exact ⟨0, by omega, rfl, HR, HBW⟩
 case round =>
  clear HR HBW
  obtain ⟨k, hk, rfl, HR, HB⟩ := hrel
  by_cases hlt : k < 64
  ·have hx0 : (mixAt by_ L k)[k]? = some (L.getD k 0) := mixAt_get by_ L k (by rw [HLl.out]; exact hlt)
   have hxb : L.getD k 0 < 256 := by
    have hk' : k < L.length := by rw [HLl.out]; exact hlt
    rw [List.getD_eq_getElem?_getD, List.getElem?_eq_getElem hk']
    exact HLb.out _ (List.getElem_mem hk')
   have hcell := BAt.cell HR.out hx0
   have hfr := BAt.frozen HR.out hx0
   generalize hx : L.getD k 0 = x at hcell hxb
   have hxor := u8_xor_nat x by_ hxb hb
   have HX := Aside0.mk hx
   clear hx hx0 hcv
   go_wp2
   refine ⟨⟨k + 1, by omega, by go_num, ⟨?_⟩, ⟨?_⟩⟩, by simp [intOf]; omega⟩
   ·have := BAt.store HR.out k (x ^^^ by_) (by rw [mixAt_length, HLl.out]; exact hlt)
    rw [mixAt_set by_ L k x (by rw [HLl.out]; exact hlt) HX.out] at this
    exact this
   ·exact HB.out.setCell (p := ⟨g, k, none⟩) HG.out _
  ·have hk64 : k = 64 := by omega
   subst hk64
   clear hlt hk
   have hm : mixAt by_ L 64 = L.map (· ^^^ by_) := mixAt_all by_ L 64 HLl.out
   have hcv2 := hcv.out wr _ HR.out (by rw [hm, List.length_map, HLl.out])
   rw [hm] at hcv2
   clear hm hcv
   go_wp2
   go_ret
   rw [HL.out]
   exact ⟨rfl, HB.out⟩
set_option maxRecDepth 100000 in
theorem turnedL (a0 : ByteArray) (by_ : Nat) (hb : by_ < 256) (hn0 : 64 < a0.size) (hn1 : a0.size ≤ 1000000000000) (w : World) :
  Calls Tryz.prog 146 #[.string a0, .int .u8 by_] w fun e w' => e = .returned (.string (txt ((bys (sumT a0) ++ List.replicate (64 - (sumT a0).size) 0).map (· ^^^ by_)))) ∧ Below w.heap.size w w' := by
 have c1 : decide (64 < (a0.size : Int)) = true := decide_eq_true (by omega)
 have kb := fun (s : ByteArray) W => print_bytes (P := Tryz.prog) 9 68 5 Tryz.underlying9 Tryz.underlying68 Tryz.underlying5 s W
 have hK := sumT_size a0
 generalize hk0 : sumT a0 = K at hK
 have HK := Aside0.mk hk0
 have hn : K.size ≤ 64 := by omega
 clear hk0 hn0 hK
 go_enter Tryz.func146, Tryz.ntmps146
 go_wp2_with (go_at_call 145; refine (sha_Sum.calls a0 _ _ (sha_Sum_f a0 hn1)).mono ?_; rw [HK.out]; rintro e w0 ⟨rfl, hb0⟩)
 rw [show ((64 : Int) - (K.size : Int)) = ((64 - K.size : Nat) : Int) by omega]
 refine (Tryz.strings_Repeat (⟨#[0]⟩ : ByteArray) (64 - K.size) _ (by omega) (by show 1 * _ ≤ _; omega)).mono ?_
 rw [txt_repeat]
 rintro e w1 ⟨rfl, hb1a⟩
 have hb1 : Below w.heap.size w w1 := below_then hb0 hb0.size hb1a
 clear hb0 hb1a
 generalize hT : txt (List.replicate (64 - K.size) 0) = T
 have hTs : T.size = 64 - K.size := by rw [← hT, txt_size, List.length_replicate]
 have k1 : K.size + T.size ≤ 9223372036854775807 := by omega
 have k3 : (9223372036854775807 < K.size + T.size) = False := eq_false (Nat.not_lt.2 k1)
 have hS : bys (K ++ T) = bys K ++ List.replicate (64 - K.size) 0 := by rw [bys_append, ← hT, bys_txt (by intro n hn; rw [List.mem_replicate] at hn; omega)]
 have hSs : (K ++ T).size = 64 := by rw [ByteArray.size_append]; omega
 have HS := Aside0.mk hS
 have HSs := Aside0.mk hSs
 clear hS hSs hT
 have kb1 := kb (K ++ T)
 clear kb
 go_wp2_with (fail)
 have HROW := bytes_row w1 (K ++ T)
 have HBW : Aside0 (Below w.heap.size w (Lib.bytesWorld w1 5 (K ++ T))) := ⟨bytes_below hb1 hb1.size _ _⟩
 have HG : Aside0 (w.heap.size ≤ w1.heap.size) := ⟨hb1.size⟩
 clear kb1 hb1 k1 k3
 rw [HS.out] at HROW
 generalize hL : bys K ++ List.replicate (64 - K.size) 0 = L at HROW HS ⊢
 have hLl : L.length = 64 := by rw [← hL, List.length_append, bys_length, List.length_replicate]; omega
 have hLb : ∀ x ∈ L, x < 256 := by
  rw [← HS.out]
  intro x hx
  obtain ⟨i, hi, rfl⟩ := List.getElem_of_mem hx
  have := bys_lt (K ++ T) i
  simpa [List.getD_eq_getElem?_getD, List.getElem?_eq_getElem hi] using this
 obtain ⟨rest, HROW⟩ := HROW
 have HLl := Aside0.mk hLl
 have HL := Aside0.mk hL
 have HLb := Aside0.mk hLb
 have HR := Aside0.mk HROW
 clear hL hLl hLb HROW HS HSs
 generalize Lib.bytesWorld w1 5 (K ++ T) = w2 at HR HBW ⊢
 generalize grownCap w1 64 0 5 = cp
 generalize w1.heap.size = g at HR HG ⊢
 have hcv := Aside0.mk (fun (W : World) (l : List Nat) (h : BAt g l rest W) (hl : l.length = 64) => conv_bat W g l rest h 64 hl cp)
 go_loopw [19] (fun i wr => ∃ k : Nat, k ≤ 64 ∧ i = .int .i64 k ∧ Aside0 (BAt g (mixAt by_ L k) rest wr) ∧ Aside0 (Below w.heap.size w wr)) (fun i _ => 64 - (intOf i).toNat)
 case atStart => exact ⟨0, by omega, rfl, HR, HBW⟩
 case round =>
  clear HR HBW
  obtain ⟨k, hk, rfl, HR, HB⟩ := hrel
  by_cases hlt : k < 64
  ·have hx0 : (mixAt by_ L k)[k]? = some (L.getD k 0) := mixAt_get by_ L k (by rw [HLl.out]; exact hlt)
   have hxb : L.getD k 0 < 256 := by
    have hk' : k < L.length := by rw [HLl.out]; exact hlt
    rw [List.getD_eq_getElem?_getD, List.getElem?_eq_getElem hk']
    exact HLb.out _ (List.getElem_mem hk')
   have hcell := BAt.cell HR.out hx0
   have hfr := BAt.frozen HR.out hx0
   generalize hx : L.getD k 0 = x at hcell hxb
   have hxor := u8_xor_nat x by_ hxb hb
   have HX := Aside0.mk hx
   clear hx hx0 hcv
   go_wp2
   refine ⟨⟨k + 1, by omega, by go_num, ⟨?_⟩, ⟨?_⟩⟩, by simp [intOf]; omega⟩
   ·have := BAt.store HR.out k (x ^^^ by_) (by rw [mixAt_length, HLl.out]; exact hlt)
    rw [mixAt_set by_ L k x (by rw [HLl.out]; exact hlt) HX.out] at this
    exact this
   ·exact HB.out.setCell (p := ⟨g, k, none⟩) HG.out _
  ·have hk64 : k = 64 := by omega
   subst hk64
   clear hlt hk
   have hm : mixAt by_ L 64 = L.map (· ^^^ by_) := mixAt_all by_ L 64 HLl.out
   have hcv2 := hcv.out wr _ HR.out (by rw [hm, List.length_map, HLl.out])
   rw [hm] at hcv2
   clear hm hcv
   go_wp2
   go_ret
   rw [HL.out]
   exact ⟨rfl, HB.out⟩
theorem hmac_turned.calls (a0 : ByteArray) (a1 : Int) (r : ByteArray) (w : World) (h : hmac_turned.f a0 a1 = some r) :
  Calls Tryz.prog 146 #[.string a0, .int .u8 a1] w fun e w' => e = .returned (.string r) ∧ Below w.heap.size w w' := by
 unfold hmac_turned.f at h
 by_cases hc : a0.size ≤ 1000000000000 ∧ 0 ≤ a1 ∧ a1 < 256
 ·rw [if_pos hc] at h
  obtain rfl := Option.some.inj h
  obtain ⟨h0, h1, h2⟩ := hc
  obtain ⟨n, rfl⟩ := Int.eq_ofNat_of_zero_le h1
  rw [Int.toNat_natCast]
  by_cases h64 : 64 < a0.size
  ·have e : key64 (bys a0) = bys (sumT a0) ++ List.replicate (64 - (sumT a0).size) 0 := by
    unfold key64
    rw [if_pos (by rw [bys_length]; omega), bys_sumT, sumT_size, sumL_length]
   rw [e]
   exact turnedL a0 n (by omega) h64 h0 w
  ·have e : key64 (bys a0) = bys a0 ++ List.replicate (64 - a0.size) 0 := by
    unfold key64
    rw [if_neg (by rw [bys_length]; omega), bys_length]
   rw [e]
   exact turnedS a0 n (by omega) (by omega) w
 ·rw [if_neg hc] at h
  cases h
end Go.Proofs.YtbkbganflnemeaaGreat.Pr
end

section
namespace Go.Proofs.YtbkbganflnemeaaGreat.Pr
open Go.RowKit Go.Proofs.YtbkbganflnemeaaGreatW.PrintWords Go.Proofs.YtbkbganflnemeaaGreatW.PrintLast Go.Proofs.YtbkbganflnemeaaGreatW.PrintMore
attribute [local go_sem] max2_int min2_int max_two min_two max_three min_three max_four min_four
def hmac_Mac.f (a0 : ByteArray) (a1 : ByteArray) : Option (ByteArray) := (hmac_turned.f a0 92).bind fun t198 => ((hmac_turned.f a0 54).bind fun t199 => (if t199.size + a1.size ≤ 9223372036854775807 then ((sha_Sum.f (t199 ++ a1)).bind fun t200 => (if t198.size + t200.size ≤ 9223372036854775807 then ((sha_Sum.f (t198 ++ t200)).bind fun t201 => (some t201)) else (none))) else (none)))
set_option maxHeartbeats 8000000 in
set_option maxRecDepth 100000 in
theorem hmac_Mac.calls (a0 : ByteArray) (a1 : ByteArray) (r : ByteArray) (w : World) (h : hmac_Mac.f a0 a1 = some r) :
  Calls Tryz.prog 100 #[.string a0, .string a1] w fun e w' => e = .returned (.string r) ∧ Below w.heap.size w w' := by
 have HB := Aside0.mk (Below.refl w.heap.size w); have H : ((hmac_turned.f a0 92).bind fun t198 => ((hmac_turned.f a0 54).bind fun t199 => (if t199.size + a1.size ≤ 9223372036854775807 then ((sha_Sum.f (t199 ++ a1)).bind fun t200 => (if t198.size + t200.size ≤ 9223372036854775807 then ((sha_Sum.f (t198 ++ t200)).bind fun t201 => (some t201)) else (none))) else (none)))) = some r := h; clear h; replace H := Option.bind_eq_some_iff.mp H; obtain ⟨t198, A30, H⟩ := H; have A3 := Aside0.mk A30; clear A30; replace H := Option.bind_eq_some_iff.mp H; obtain ⟨t199, A40, H⟩ := H; have A4 := Aside0.mk A40; clear A40; by_cases c5 : t199.size + a1.size ≤ 9223372036854775807
 ·rw [if_pos c5] at H; have c5b0 := eq_true c5; have c5b1 : decide (t199.size + a1.size ≤ 9223372036854775807) = true := decide_eq_true c5; try have c5b2 : (9223372036854775807 < t199.size + a1.size) = False := eq_false (Nat.not_lt.2 c5)
  replace H := Option.bind_eq_some_iff.mp H; obtain ⟨t200, A60, H⟩ := H; have A6 := Aside0.mk A60; clear A60; by_cases c7 : t198.size + t200.size ≤ 9223372036854775807
  ·rw [if_pos c7] at H; have c7b0 := eq_true c7; have c7b1 : decide (t198.size + t200.size ≤ 9223372036854775807) = true := decide_eq_true c7; try have c7b2 : (9223372036854775807 < t198.size + t200.size) = False := eq_false (Nat.not_lt.2 c7)
   replace H := Option.bind_eq_some_iff.mp H; obtain ⟨t201, A80, H⟩ := H; have A8 := Aside0.mk A80; clear A80; obtain rfl := Option.some.inj H; go_enter Tryz.func100, Tryz.ntmps100
   go_wp2_with (first | ((with_reducible refine gate_callee (f := 146) rfl ?_); refine gl_ 6 Tryz.func146 #[.string a0, .int .u8 92] ?_; (with_reducible refine (hmac_turned.calls a0 92 t198 _ A3.out).mono ?_); rintro e w9 ⟨rfl, hb⟩; refine ⟨_, rfl, ?_⟩; replace HB := Aside0.mk (below_step hb_ hb)) | ((with_reducible refine gate_callee (f := 146) rfl ?_); refine gl_ 8 Tryz.func146 #[.string a0, .int .u8 54] ?_; (with_reducible refine (hmac_turned.calls a0 54 t199 _ A4.out).mono ?_); rintro e w10 ⟨rfl, hb⟩; refine ⟨_, rfl, ?_⟩; replace HB := Aside0.mk (below_step hb_ hb)) | ((with_reducible refine gate_callee (f := 145) rfl ?_); refine gl_ 11 Tryz.func145 #[.string (t199 ++ a1)] ?_; (with_reducible refine (sha_Sum.calls (t199 ++ a1) t200 _ A6.out).mono ?_); rintro e w11 ⟨rfl, hb⟩; refine ⟨_, rfl, ?_⟩; replace HB := Aside0.mk (below_step hb_ hb)) | ((with_reducible refine gate_callee (f := 145) rfl ?_); refine gl_ 13 Tryz.func145 #[.string (t198 ++ t200)] ?_; (with_reducible refine (sha_Sum.calls (t198 ++ t200) t201 _ A8.out).mono ?_); rintro e w12 ⟨rfl, hb⟩; refine ⟨_, rfl, ?_⟩; replace HB := Aside0.mk (below_step hb_ hb)))
   go_ret
   exact ⟨ew_, hb_⟩
  ·rw [if_neg c7] at H; exact absurd H (by simp)
 ·rw [if_neg c5] at H; exact absurd H (by simp)
end Go.Proofs.YtbkbganflnemeaaGreat.Pr
end

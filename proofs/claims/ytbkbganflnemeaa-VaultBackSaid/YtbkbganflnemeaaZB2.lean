/- Joined texts (pack.py): what the statement's proof needs, part 2. No condition. -/
import Derived.Below
import Derived.Deep.Draws
import Derived.Deep.AppendLies
import Derived.Maps.AppendAt
import Derived.OwnWalk
import Derived.Laws.BytesArg
import Derived.Laws.MakeOwn
import Derived.Laws.OwnMore
import Derived.Deep.OwnRows
import Derived.Tactics
import Derived.Lib.ConvBytes
import Derived.Laws.Slices
import Derived.WalkKit
import Derived.KernelRfl
import Derived.RowKit3
import Derived.Deep.LoopGhost
import Derived.Deep.QuietTactic
import Derived.BigQuiet
import Derived.WideLaws
import Derived.Deep.DeepCutAuto
import Derived.Deep.CutBlock
import Derived.Deep.RegionHeld3
import Derived.Laws.Rows
import Derived.Lib.AppendStr
import Derived.ArgAppend
import Derived.Laws.IdiomCopy
import Derived.RowKit
import Derived.OrdersHeld
import Derived.Laws.BitsLemmas
import Derived.Laws.StructEq
import Derived.Test.YtbkbganflnemeaaRows
import Derived.ProofKit
import Derived.OpenShut
import Derived.ShutString
import Derived.ChangeOld
import Derived.Shelf.Strings.Builder1
import Derived.Shelf.Strings.Builder2
import Derived.Shelf.Strings.OnBuilder
import Derived.Shelf.Strings.BuilderF
import Derived.Shelf.Strings.Prefix
import Derived.Shelf.Bits.Mul64
import Derived.Shelf.Strings.Repeat
import Derived.Test.YtbkbganflnemeaaProg
import Derived.Deep.RegionLaw
import Derived.StillTailTactics
import Derived.Deep.Light
import Derived.Deep.RegionHeldLaw
import Derived.Deep.DrawnRows
import Derived.IntWalk
import Derived.Deep.WholeRow
import Derived.Laws.CopyOwn
import Derived.Maps.OwnSet
import Derived.SizedLaws
import Derived.Test.YtbkbganflnemeaaZB1
set_option linter.unusedVariables false
set_option linter.unusedSimpArgs false
section
namespace Go.Proofs.Ytbkbganflnemeaa.Pr
open Go.RowKit Go.Proofs.YtbkbganflnemeaaW.PrintWords Go.Proofs.YtbkbganflnemeaaW.PrintLast
set_option maxHeartbeats 1000000
def fillC (W : List Nat) (k : Nat) : List Nat := W.take k ++ List.replicate (16 - k) 0
theorem fillC_length (W : List Nat) (k : Nat) (hW : W.length = 16) (hk : k ≤ 16) : (fillC W k).length = 16 := by
 unfold fillC
 rw [List.length_append, List.length_take, List.length_replicate]
 omega
theorem fillC_set (W : List Nat) (k v : Nat) (hW : W.length = 16) (hk : k < 16) (hv : W.getD k 0 = v) : (fillC W k).set k v = fillC W (k + 1) := by
 unfold fillC
 have hT : (W.take k).length = k := by rw [List.length_take]; omega
 rw [List.set_append_right _ _ (by omega), hT, Nat.sub_self, show 16 - k = (16 - (k + 1)) + 1 by omega, List.replicate_succ, List.set_cons_zero,
  List.take_succ_eq_append_getElem (by omega), List.append_assoc]
 rw [← hv]
 simp [show k < W.length by omega]
theorem fillC_full (W : List Nat) (hW : W.length = 16) : fillC W 16 = W := by
 unfold fillC
 rw [List.take_of_length_le (by omega)]
 simp
theorem fillC_get (W : List Nat) (k i : Nat) (hW : W.length = 16) (hk : k ≤ 16) (hi : i < 16) : ∃ v : Nat, (u32s (fillC W k))[i]? = some (.int .u32 (v : Int)) :=
 ⟨_, u32s_get _ _ (by rw [fillC_length W k hW hk]; omega)⟩
theorem lw4_take (l : List Nat) (n : Nat) (h : 4 ≤ n) : lw4 (l.take n) 0 = lw4 l 0 := by
 unfold lw4
 simp only [List.getD_eq_getElem?_getD, List.getElem?_take, Nat.zero_add]
 rw [if_pos (by omega), if_pos (by omega), if_pos (by omega), if_pos (by omega)]
structure ChA (w : World) (l : List Nat) (W : World) : Prop where
 below : Below w.heap.size w W
 out : W.heap[w.heap.size]? = some (.cells (u8s (List.replicate 64 0)) 106 (0, 0))
 row : W.heap[w.heap.size + 1]? = some (.cells (u32s l) 154 (0, 0))
theorem ChA.set {w W : World} {l : List Nat} (h : ChA w l W) (n k v : Nat) : ChA w (l.set k v) ((W.drewN n).setCell ⟨w.heap.size + 1, k, none⟩ (.int .u32 (v : Int))) :=
 ⟨below_set (pw_below_drewN h.below n) (by omega), blk_far (blk_drewN h.out n) (by simp) _, blk_put (blk_drewN h.row n) k _ (u32s_set l k v)⟩
theorem ChA.set0 {w W : World} {l : List Nat} (h : ChA w l W) (k v : Nat) : ChA w (l.set k v) (W.setCell ⟨w.heap.size + 1, k, none⟩ (.int .u32 (v : Int))) :=
 ⟨below_set h.below (by omega), blk_far h.out (by simp) _, blk_put h.row k _ (u32s_set l k v)⟩
theorem ChA.cell {w W : World} {L : List Nat} {k : Nat} (h : ChA w (fillC L k) W) (hL : L.length = 16) (hk : k ≤ 16) (i : Nat) (hi : i < 16) : (∃ v : Nat, W.cell? ⟨w.heap.size + 1, i, none⟩ = some (.int .u32 (v : Int))) ∧ W.frozen? ⟨w.heap.size + 1, i, none⟩ = false := by
 obtain ⟨v, hv⟩ := fillC_get L k i hL hk hi
 exact ⟨⟨v, (blk_cell h.row i).trans hv⟩, blk_frozen h.row i⟩
theorem ChA.next {w W : World} {L : List Nat} {k v : Nat} (h : ChA w ((fillC L k).set k v) W) (hL : L.length = 16) (hk : k < 16) (hv : L.getD k 0 = v) : ChA w (fillC L (k + 1)) W := by
 rw [← fillC_set L k v hL hk hv]; exact h
theorem ChA.start (w : World) (L : List Nat) : ChA w (fillC L 0) ((w.alloc (.cells (u8s (List.replicate 64 0)) 106)).alloc (.cells (u32s (List.replicate 16 0)) 154)) := by
 refine ⟨below_alloc (below_alloc (Below.refl _ _) _) _, blk_alloc (blk_new _ _) _, ?_⟩
 have := blk_new (w.alloc (.cells (u8s (List.replicate 64 0)) 106)) (.cells (u32s (List.replicate 16 0)) 154)
 rw [show (w.alloc (.cells (u8s (List.replicate 64 0)) 106)).heap.size = w.heap.size + 1 by simp] at this
 rw [show fillC L 0 = List.replicate 16 0 by simp [fillC]]
 exact this
structure ChR (w : World) (g : Nat) (L l : List Nat) (W : World) : Prop where
 a : ChA w l W
 gt : w.heap.size + 1 < g
 was : W.heap[g]? = some (.cells (u32s L) 154 (0, 0))
theorem ChR.set {w W : World} {g : Nat} {L l : List Nat} (h : ChR w g L l W) (n k v : Nat) : ChR w g L (l.set k v) ((W.drewN n).setCell ⟨w.heap.size + 1, k, none⟩ (.int .u32 (v : Int))) :=
 ⟨h.a.set n k v, h.gt, blk_far (blk_drewN h.was n) (by have := h.gt; simp; omega) _⟩
theorem ChR.set0 {w W : World} {g : Nat} {L l : List Nat} (h : ChR w g L l W) (k v : Nat) : ChR w g L (l.set k v) (W.setCell ⟨w.heap.size + 1, k, none⟩ (.int .u32 (v : Int))) :=
 ⟨h.a.set0 k v, h.gt, blk_far h.was (by have := h.gt; simp; omega) _⟩
structure Quad (L : List Nat) (i j k m x y z v : Nat) : Prop where
 ea : L.getD i 0 = x
 eb : L.getD j 0 = y
 ec : L.getD k 0 = z
 ed : L.getD m 0 = v
 la : x < 4294967296
 lb : y < 4294967296
 lc : z < 4294967296
 ld : v < 4294967296
theorem Quad.eq {l : List Nat} {i j k m x y z v : Nat} (h : Quad l i j k m x y z v) : (((l.set i (qa2 x y z v)).set j (qb2 x y z v)).set k (qc2 x y z v)).set m (qd2 x y z v) = qr l i j k m := by
 unfold qr
 rw [h.ea, h.eb, h.ec, h.ed]
theorem ChR.quad {w W : World} {g : Nat} {L l : List Nat} {i j k m x y z v : Nat} (h : ChR w g L l W) (hq : Quad l i j k m x y z v) (n : Nat) : ChR w g L (qr l i j k m) (((((W.drewN n).setCell ⟨w.heap.size + 1, i, none⟩ (.int .u32 (qa2 x y z v : Nat))).setCell ⟨w.heap.size + 1, j, none⟩ (.int .u32 (qb2 x y z v : Nat))).setCell ⟨w.heap.size + 1, k, none⟩ (.int .u32 (qc2 x y z v : Nat))).setCell ⟨w.heap.size + 1, m, none⟩ (.int .u32 (qd2 x y z v : Nat))) := by
 rw [← hq.eq]
 exact (((h.set n i _).set0 j _).set0 k _).set0 m _
theorem ChR.four {w W : World} {g : Nat} {L l : List Nat} (h : ChR w g L l W) (hs : Small l) (hl : l.length = 16) (i j k m : Nat) (hi : i < 16) (hj : j < 16) (hk : k < 16) (hm : m < 16) :
  ∃ a b c d : Nat, Quad l i j k m a b c d ∧ W.cell? ⟨w.heap.size + 1, i, none⟩ = some (.int .u32 (a : Int)) ∧ W.cell? ⟨w.heap.size + 1, j, none⟩ = some (.int .u32 (b : Int)) ∧ W.cell? ⟨w.heap.size + 1, k, none⟩ = some (.int .u32 (c : Int)) ∧ W.cell? ⟨w.heap.size + 1, m, none⟩ = some (.int .u32 (d : Int)) ∧
   W.frozen? ⟨w.heap.size + 1, i, none⟩ = false ∧ W.frozen? ⟨w.heap.size + 1, j, none⟩ = false ∧ W.frozen? ⟨w.heap.size + 1, k, none⟩ = false ∧ W.frozen? ⟨w.heap.size + 1, m, none⟩ = false :=
 ⟨_, _, _, _, ⟨rfl, rfl, rfl, rfl, hs i, hs j, hs k, hs m⟩, (blk_cell h.a.row i).trans (u32s_get l i (by omega)), (blk_cell h.a.row j).trans (u32s_get l j (by omega)), (blk_cell h.a.row k).trans (u32s_get l k (by omega)), (blk_cell h.a.row m).trans (u32s_get l m (by omega)), blk_frozen h.a.row i, blk_frozen h.a.row j, blk_frozen h.a.row k, blk_frozen h.a.row m⟩
def chaO (L : List Nat) : List Nat := (List.range 16).flatMap fun k => le4 ((L.getD k 0 + (dbl L 10).getD k 0) % 4294967296)
def outC (f : Nat → Nat) (k : Nat) : List Nat := (List.range k).flatMap (fun i => le4 (f i)) ++ List.replicate (64 - 4 * k) 0
theorem flatC_length (f : Nat → Nat) (k : Nat) : ((List.range k).flatMap (fun i => le4 (f i))).length = 4 * k := by
 induction k with
 | zero => rfl
 | succ k ih => rw [List.range_succ, List.flatMap_append, List.length_append, ih]; simp [le4]; omega
theorem outC_length (f : Nat → Nat) (k : Nat) (hk : k ≤ 16) : (outC f k).length = 64 := by
 unfold outC
 rw [List.length_append, flatC_length, List.length_replicate]
 omega
theorem outC_set (f : Nat → Nat) (k : Nat) (hk : k < 16) :
  ((((outC f k).set (4 * k) (f k % 256)).set (4 * k + 1) (f k / 256 % 256)).set (4 * k + 2) (f k / 65536 % 256)).set (4 * k + 3) (f k / 16777216 % 256) = outC f (k + 1) := by
 have hF := flatC_length f k
 have hr : List.replicate (64 - 4 * k) 0 = 0 :: 0 :: 0 :: 0 :: List.replicate (64 - 4 * (k + 1)) 0 := by
  rw [show 64 - 4 * k = (64 - 4 * (k + 1)) + 1 + 1 + 1 + 1 by omega]; rfl
 unfold outC
 rw [List.range_succ, List.flatMap_append, hr]
 generalize (List.range k).flatMap (fun i => le4 (f i)) = F at hF
 rw [List.set_append_right _ _ (by omega), List.set_append_right _ _ (by omega), List.set_append_right _ _ (by omega), List.set_append_right _ _ (by omega)]
 rw [show 4 * k - F.length = 0 by omega, show 4 * k + 1 - F.length = 1 by omega, show 4 * k + 2 - F.length = 2 by omega, show 4 * k + 3 - F.length = 3 by omega]
 simp [le4]
theorem outC_full (f : Nat → Nat) : outC f 16 = (List.range 16).flatMap (fun i => le4 (f i)) := by simp [outC]
structure ChO (w : World) (g2 g3 : Nat) (L o : List Nat) (W : World) : Prop where
 below : Below w.heap.size w W
 out : W.heap[w.heap.size]? = some (.cells (u8s (List.replicate 64 0)) 106 (0, 0))
 was : W.heap[g2]? = some (.cells (u32s L) 154 (0, 0))
 row : W.heap[g3]? = some (.cells (u8s o) 106 (0, 0))
 lt2 : w.heap.size + 1 < g2
 lt3 : g2 < g3
theorem ChO.set0 {w W : World} {g2 g3 : Nat} {L o : List Nat} (h : ChO w g2 g3 L o W) (k v : Nat) : ChO w g2 g3 L (o.set k v) (W.setCell ⟨g3, k, none⟩ (.int .u8 (v : Int))) := by
 have h2 := h.lt2
 have h3 := h.lt3
 exact ⟨below_set h.below (by omega), blk_far h.out (by simp; omega) _, blk_far h.was (by simp; omega) _, blk_put h.row k _ (u8s_set o k v), h2, h3⟩
theorem ChO.step {w W : World} {g2 g3 : Nat} {L : List Nat} {f : Nat → Nat} {k : Nat} (h : ChO w g2 g3 L (outC f k) W) (hk : k < 16) (x : Nat) (hx : f k = x) : ChO w g2 g3 L (outC f (k + 1))
  ((((W.setCell ⟨g3, 4 * k, none⟩ (.int .u8 ((x : Int) % 256))).setCell ⟨g3, 4 * k + 1, none⟩ (.int .u8 ((x : Int) / 256 % 256))).setCell ⟨g3, 4 * k + 2, none⟩ (.int .u8 ((x : Int) / 65536 % 256))).setCell ⟨g3, 4 * k + 3, none⟩ (.int .u8 ((x : Int) / 16777216 % 256))) := by
 rw [← outC_set f k hk, hx]
 exact (((h.set0 (4 * k) (x % 256)).set0 (4 * k + 1) (x / 256 % 256)).set0 (4 * k + 2) (x / 65536 % 256)).set0 (4 * k + 3) (x / 16777216 % 256)
theorem ChO.cell {w W : World} {g2 g3 : Nat} {L : List Nat} {f : Nat → Nat} {k : Nat} (h : ChO w g2 g3 L (outC f k) W) (hk : k ≤ 16) (i : Nat) (hi : i < 64) : (∃ v : Nat, W.cell? ⟨g3, i, none⟩ = some (.int .u8 (v : Int))) ∧ W.frozen? ⟨g3, i, none⟩ = false :=
 ⟨⟨_, (blk_cell h.row i).trans (u8s_get _ i (by rw [outC_length f k hk]; exact hi))⟩, blk_frozen h.row i⟩
theorem u8s_one (l : List Nat) : (u8s l).all (·.oneCell') = true := by
 simp [u8s, Value.oneCell']
theorem index_u32 (D : List Nat) (hD : D.length = 16) (k : Nat) (hk : k < 16) (w : World) : (Instr.index 154 (.agg (u32s D)) (.int .i64 (k : Int))).run Try.prog w = .ok (.int .u32 (D.getD k 0 : Nat)) w := by
 refine index_row (D.map fun (n : Nat) => Value.int .u32 (n : Int)) 154 140 16 Try.underlying154 (by kernel_rfl) ?_ k _ ?_ (by simpa using hD) ⟨_, Try.underlying140, rfl⟩ w
 ·intro v hv
  rw [List.mem_map] at hv
  obtain ⟨n, _, rfl⟩ := hv
  simp [Value.cells]
 ·rw [List.getElem?_map, List.getElem?_eq_getElem (by omega), List.getD_eq_getElem?_getD, List.getElem?_eq_getElem (by omega)]
  rfl
set_option maxRecDepth 100000 in
theorem chacha_bytes_calls (a0 a1 : ByteArray) (m : Nat) (w : World) (h0 : a0.size = 32) (h1 : a1.size = 12) (hm : m < 4294967296) :
  Calls Try.prog 99 #[.string a0, .string a1, .int .i64 m] w fun e w' => e = .returned (.agg (u8s (chaL (bys a0) (bys a1) m))) ∧ Below w.heap.size w w' := by
 have hinf : (Try.prog.info? 106).map (·.size) = some 64 := by kernel_rfl
 have HI := Aside0.mk hinf
 clear hinf
 have HW := Aside0.mk (chaW_length (bys a0) (bys a1) m)
 have HSm := Aside0.mk (chaW_small a0 a1 m)
 have W1 := Aside0.mk (fun k (hk : k < 4) => chaW_head (bys a0) (bys a1) m k hk)
 have W2 := Aside0.mk (fun k (hk : k < 8) => chaW_key (bys a0) (bys a1) m k hk)
 have W3 := Aside0.mk (chaW_count (bys a0) (bys a1) m)
 have W4 := Aside0.mk (fun k (hk : k < 3) => chaW_nonce (bys a0) (bys a1) m k hk)
 have hr : chaL (bys a0) (bys a1) m = chaO (chaW (bys a0) (bys a1) m) := rfl
 rw [hr]
 clear hr
 generalize chaW (bys a0) (bys a1) m = L at HW HSm W1 W2 W3 W4 ⊢
 go_enter Try.func99, Try.ntmps99
 go_wp2_with (fail)
 go_loopw [20] (fun i wr => ∃ k : Nat, k ≤ 4 ∧ i = .int .i64 k ∧ Aside0 (ChA w (fillC L k) wr)) (fun i _ => 4 - (intOf i).toNat)
 case atStart => exact ⟨0, by omega, rfl, ⟨ChA.start w L⟩⟩
 case round =>
  obtain ⟨k, hk, rfl, H⟩ := hrel
  by_cases hlt : k < 4
  ·obtain ⟨⟨v, hv⟩, hf⟩ := H.out.cell HW.out (by omega) k (by omega)
   have hx := W1.out k hlt
   generalize L.getD k 0 = x at hx
   have HX := Aside0.mk hx
   have HB := Aside0.mk (show lw4 (bys ((⟨#[101, 120, 112, 97, 110, 100, 32, 51, 50, 45, 98, 121, 116, 101, 32, 107]⟩ : ByteArray).extract (4 * k) 16)) 0 = L.getD k 0 by
    rw [bys_extract, lw4_take _ _ (by omega), lw4_drop, W1.out k hlt]; rfl)
   have HSZ := Aside0.mk (show 4 ≤ ((⟨#[101, 120, 112, 97, 110, 100, 32, 51, 50, 45, 98, 121, 116, 101, 32, 107]⟩ : ByteArray).extract (4 * k) 16).size by rw [ByteArray.size_extract]; exact (show 4 ≤ min 16 16 - 4 * k by omega))
   clear hx
   go_wp2_with (fail)
   refine (small_calls _ _ HSZ.out).mono ?_
   rintro e1 w1 ⟨rfl, n1, rfl⟩
   rw [HB.out]
   generalize hy : L.getD k 0 = y
   have HY := Aside0.mk hy
   clear hy
   go_wp2
   exact ⟨⟨k + 1, by omega, by go_num, ⟨(H.out.set n1 k y).next HW.out (by omega) HY.out⟩⟩, by simp [intOf]; omega⟩
  ·obtain rfl : k = 4 := by omega
   clear hlt hk
   rw [show ((4 : Nat) : Int) = 4 from rfl]
   go_wp2_with (fail)
   go_loopw [30] (fun i wr => ∃ k : Nat, k ≤ 8 ∧ i = .int .i64 k ∧ Aside0 (ChA w (fillC L (4 + k)) wr)) (fun i _ => 8 - (intOf i).toNat)
   case atStart => exact ⟨0, by omega, rfl, H⟩
   case round =>
    clear H
    obtain ⟨k, hk, rfl, H⟩ := hrel
    by_cases hlt : k < 8
    ·obtain ⟨⟨v, hv⟩, hf⟩ := H.out.cell HW.out (by omega) (4 + k) (by omega)
     have HB := Aside0.mk (show lw4 (bys (a0.extract (4 * k) 32)) 0 = L.getD (4 + k) 0 by
      rw [bys_extract, lw4_take _ _ (by omega), lw4_drop, W2.out k hlt])
     have HSZ := Aside0.mk (show 4 ≤ (a0.extract (4 * k) 32).size by rw [ByteArray.size_extract]; omega)
     go_wp2_with (fail)
     refine (small_calls _ _ HSZ.out).mono ?_
     rintro e1 w1 ⟨rfl, n1, rfl⟩
     rw [HB.out]
     generalize hy : L.getD (4 + k) 0 = y
     have HY := Aside0.mk hy
     clear hy
     go_wp2
     exact ⟨⟨k + 1, by omega, by go_num, ⟨(H.out.set n1 (4 + k) y).next HW.out (by omega) HY.out⟩⟩, by simp [intOf]; omega⟩
    ·obtain rfl : k = 8 := by omega
     clear hlt hk
     rw [show ((8 : Nat) : Int) = 8 from rfl]
     obtain ⟨⟨v, hv⟩, hf⟩ := H.out.cell HW.out (by omega) 12 (by omega)
     go_wp2_with (fail)
     have H : Aside0 (ChA w (fillC L (13 + 0)) (wr.setCell { block := w.heap.size + 1, off := 12 } (.int .u32 (m : Int)))) := ⟨(H.out.set0 12 m).next HW.out (by omega) (W3.out.trans (Nat.mod_eq_of_lt hm))⟩
     clear hv hf
     generalize wr.setCell { block := w.heap.size + 1, off := 12 } (.int .u32 (m : Int)) = wr at *
     go_loopw [45] (fun i wr => ∃ k : Nat, k ≤ 3 ∧ i = .int .i64 k ∧ Aside0 (ChA w (fillC L (13 + k)) wr)) (fun i _ => 3 - (intOf i).toNat)
     case atStart => exact ⟨0, by omega, rfl, H⟩
     case round =>
      clear H
      obtain ⟨k, hk, rfl, H⟩ := hrel
      by_cases hlt : k < 3
      ·obtain ⟨⟨v, hv⟩, hf⟩ := H.out.cell HW.out (by omega) (13 + k) (by omega)
       have HB := Aside0.mk (show lw4 (bys (a1.extract (4 * k) 12)) 0 = L.getD (13 + k) 0 by
        rw [bys_extract, lw4_take _ _ (by omega), lw4_drop, W4.out k hlt])
       have HSZ := Aside0.mk (show 4 ≤ (a1.extract (4 * k) 12).size by rw [ByteArray.size_extract]; omega)
       go_wp2_with (fail)
       refine (small_calls _ _ HSZ.out).mono ?_
       rintro e1 w1 ⟨rfl, n1, rfl⟩
       rw [HB.out]
       generalize hy : L.getD (13 + k) 0 = y
       have HY := Aside0.mk hy
       clear hy
       go_wp2
       exact ⟨⟨k + 1, by omega, by go_num, ⟨(H.out.set n1 (13 + k) y).next HW.out (by omega) HY.out⟩⟩, by simp [intOf]; omega⟩
      ·obtain rfl : k = 3 := by omega
       clear hlt hk
       rw [show ((3 : Nat) : Int) = 3 from rfl]
       have H2 : ChA w L wr := by have := H.out; rwa [fillC_full L HW.out] at this
       have H := Aside0.mk H2
       clear H2
       have hi16 : (Try.prog.info? 154).map (·.size) = some (u32s L).size := by rw [u32s_size, HW.out]; kernel_rfl
       have hi16' : (u32s (List.replicate 16 0)).size = (u32s L).size := by rw [u32s_size, u32s_size, HW.out]; rfl
       have HI16 := Aside0.mk hi16
       have HI16' := Aside0.mk hi16'
       clear hi16 hi16'
       go_wp2_with (first | (refine wpList_load_row rfl 154 (.tmp 7) rfl (w.heap.size + 1) rfl 154 (u32s L) (0, 0) _ H.out.row Try.underlying154 rfl HI16.out ?_) | (refine wpList_store_row rfl 154 (.tmp 11) (.tmp 57) rfl _ (u32s L) rfl rfl 154 _ (heap_alloc_last _ _) HI16.out HI16'.out (u32s_one _) ?_; rw [World.setRow_alloc_new]))
       have H : Aside0 (ChR w wr.heap.size L (dbl L 0) (wr.alloc (.cells (u32s L) 154))) := ⟨⟨⟨below_alloc H.out.below _, blk_alloc H.out.out _, blk_alloc H.out.row _⟩, blk_lt H.out.row, heap_alloc_last _ _⟩⟩
       generalize wr.heap.size = g2 at *
       generalize wr.alloc (.cells (u32s L) 154) = wr at *
       go_loopw [58] (fun i wr => ∃ k : Nat, k ≤ 10 ∧ i = .int .i64 k ∧ Aside0 (ChR w g2 L (dbl L k) wr)) (fun i _ => 10 - (intOf i).toNat)
       case atStart => exact ⟨0, by omega, rfl, H⟩
       case round =>
        clear H
        obtain ⟨n, hn, rfl, H⟩ := hrel
        by_cases hlt : n < 10
        ·go_wp2_with (fail)
         go_loopw [60] (fun i wr => ∃ k : Nat, k ≤ 4 ∧ i = .int .i64 k ∧ Aside0 (ChR w g2 L (col (dbl L n) k) wr)) (fun i _ => 4 - (intOf i).toNat)
         case atStart => exact ⟨0, by omega, rfl, H⟩
         case round =>
          clear H
          obtain ⟨k, hk, rfl, H⟩ := hrel
          by_cases hlk : k < 4
          ·obtain ⟨x0, x1, x2, x3, hq, c0, c1, c2, c3, f0, f1, f2, f3⟩ := H.out.four (col_small (dbl_small HSm.out n) k) (by rw [col_length, dbl_length, HW.out]) k (k + 4) (k + 8) (k + 12) (by omega) (by omega) (by omega) (by omega)
           have HQ := Aside0.mk hq
           clear hq
           go_wp2_with (fail)
           have q0 : (k : Int) < 16 := by omega
           have j4 : wrap64 ((k : Int) + 4) = (k : Int) + 4 := by unfold wrap64; omega
           have p4 : 0 ≤ (k : Int) + 4 := by omega
           have q4 : (k : Int) + 4 < 16 := by omega
           have n4 : ((k : Int) + 4).toNat = k + 4 := by omega
           have j8 : wrap64 ((k : Int) + 8) = (k : Int) + 8 := by unfold wrap64; omega
           have p8 : 0 ≤ (k : Int) + 8 := by omega
           have q8 : (k : Int) + 8 < 16 := by omega
           have n8 : ((k : Int) + 8).toNat = k + 8 := by omega
           have j12 : wrap64 ((k : Int) + 12) = (k : Int) + 12 := by unfold wrap64; omega
           have p12 : 0 ≤ (k : Int) + 12 := by omega
           have q12 : (k : Int) + 12 < 16 := by omega
           have n12 : ((k : Int) + 12).toNat = k + 12 := by omega
           refine start_ (n := 36) (S := fun w' => w'.cell? ⟨w.heap.size + 1, k, none⟩ = some (.int .u32 (x0 : Int)) ∧ w'.cell? ⟨w.heap.size + 1, k + 4, none⟩ = some (.int .u32 (x1 : Int)) ∧ w'.cell? ⟨w.heap.size + 1, k + 8, none⟩ = some (.int .u32 (x2 : Int)) ∧ w'.cell? ⟨w.heap.size + 1, k + 12, none⟩ = some (.int .u32 (x3 : Int))) (ds := [29, 31, 33, 35]) #[false, false, false, false, false, false, false, false, false, false, false, false, false, false, false, false, false, false, false, false, false, false, false, false, false, false, false, false, false, false, false, false, false, false, false, false] (by kernel_rfl) rfl rfl ⟨(show _ from c0), (show _ from c1), (show _ from c2), (show _ from c3)⟩ (fun hHeld => ?_)
           refine pz_ 0 64 rfl rfl (by kernel_rfl) ?_
           refine pz_ 1 65 rfl rfl (by kernel_rfl) ?_
           refine pz_ 2 66 rfl rfl (by kernel_rfl) ?_
           refine pz_ 3 67 rfl rfl (by kernel_rfl) ?_
           refine pz_ 4 68 rfl rfl (by kernel_rfl) ?_
           refine pz_ 5 69 rfl rfl (by kernel_rfl) ?_
           refine pz_ 6 70 rfl rfl (by kernel_rfl) ?_
           refine pz_ 7 71 rfl rfl (by kernel_rfl) ?_
           refine pz_ 8 72 rfl rfl (by kernel_rfl) ?_
           refine pz_ 10 74 rfl rfl (by kernel_rfl) ?_
           refine pz_ 11 75 rfl rfl (by kernel_rfl) ?_
           refine pz_ 12 76 rfl rfl (by kernel_rfl) ?_
           refine pz_ 14 78 rfl rfl (by kernel_rfl) ?_
           refine pz_ 15 79 rfl rfl (by kernel_rfl) ?_
           refine pz_ 16 80 rfl rfl (by kernel_rfl) ?_
           refine pz_ 18 82 rfl rfl (by kernel_rfl) ?_
           refine pz_ 19 83 rfl rfl (by kernel_rfl) ?_
           refine pz_ 20 84 rfl rfl (by kernel_rfl) ?_
           refine take_ (i := 9) (N := some 73) (v := ?_) (a' := ?_) #[true, true, true, true, true, true, true, true, true, true, true, true, true, false, true, true, true, false, true, true, true, false, false, false, false, false, false, false, false, false, false, false, false, false, false, false] rfl rfl (by kernel_rfl) (fun _ _ _ h => h) (Or.inl ⟨by rfl, ?_⟩) hHeld ?_ ?_
           rotate_left
           ·rintro w' ⟨s0, s1, s2, s3⟩
            go_simp
            with_reducible rfl
           rotate_left
           ·simp only [Act.put, List.setIfInBounds_toArray, List.set_cons_zero, List.set_cons_succ, i64_w, i32_w]
            rfl
           refine take_ (i := 13) (N := some 77) (v := ?_) (a' := ?_) #[true, true, true, true, true, true, true, true, true, true, true, true, true, true, true, true, true, false, true, true, true, false, false, false, false, false, false, false, false, false, false, false, false, false, false, false] rfl rfl (by kernel_rfl) (fun _ _ _ h => h) (Or.inl ⟨by rfl, ?_⟩) hHeld ?_ ?_
           rotate_left
           ·rintro w' ⟨s0, s1, s2, s3⟩
            go_simp
            with_reducible rfl
           rotate_left
           ·simp only [Act.put, List.setIfInBounds_toArray, List.set_cons_zero, List.set_cons_succ, i64_w, i32_w]
            rfl
           refine take_ (i := 17) (N := some 81) (v := ?_) (a' := ?_) #[true, true, true, true, true, true, true, true, true, true, true, true, true, true, true, true, true, true, true, true, true, false, false, false, false, false, false, false, false, false, false, false, false, false, false, false] rfl rfl (by kernel_rfl) (fun _ _ _ h => h) (Or.inl ⟨by rfl, ?_⟩) hHeld ?_ ?_
           rotate_left
           ·rintro w' ⟨s0, s1, s2, s3⟩
            go_simp
            with_reducible rfl
           rotate_left
           ·simp only [Act.put, List.setIfInBounds_toArray, List.set_cons_zero, List.set_cons_succ, i64_w, i32_w]
            rfl
           refine take_ (i := 21) (N := some 85) (v := ?_) (a' := ?_) #[true, true, true, true, true, true, true, true, true, true, true, true, true, true, true, true, true, true, true, true, true, true, false, false, false, false, false, false, false, false, false, false, false, false, false, false] rfl rfl (by kernel_rfl) (fun _ _ _ h => h) (Or.inl ⟨by rfl, ?_⟩) hHeld ?_ ?_
           rotate_left
           ·rintro w' ⟨s0, s1, s2, s3⟩
            go_simp
            with_reducible rfl
           rotate_left
           ·simp only [Act.put, List.setIfInBounds_toArray, List.set_cons_zero, List.set_cons_succ, i64_w, i32_w]
            rfl
           refine one_ (i := 22) (N := some 86) #[true, true, true, true, true, true, true, true, true, true, true, true, true, true, true, true, true, true, true, true, true, true, true, false, false, false, false, false, false, false, false, false, false, false, false, false] rfl rfl (by kernel_rfl) (by decide) (fun K hK => ?_)
           refine goes_ Try.func129 (by kernel_rfl) rfl #[.int .u32 (x0 : Int), .int .u32 (x1 : Int), .int .u32 (x2 : Int), .int .u32 (x3 : Int)] (by rfl) rfl rfl (by simp only [List.map_toArray, List.map_cons, List.map_nil]; rfl) ?_
           with_reducible refine (quarter_calls x0 x1 x2 x3 _ HQ.out.la HQ.out.lb HQ.out.lc HQ.out.ld).mono ?_
           rintro e w3 ⟨rfl, ⟨nd, rfl⟩⟩
           refine ⟨_, rfl, ?_⟩
           refine hK.out _ _ ⟨(show _ from c0), (show _ from c1), (show _ from c2), (show _ from c3)⟩ (fun hHeld => ?_)
           clear hK K
           refine norm_ sa_ ?_
           refine pz_ 23 63 rfl rfl (by kernel_rfl) ?_
           refine pz_ 24 87 rfl rfl (by kernel_rfl) ?_
           refine pz_ 25 88 rfl rfl (by kernel_rfl) ?_
           refine pz_ 26 89 rfl rfl (by kernel_rfl) ?_
           refine pz_ 27 90 rfl rfl (by kernel_rfl) ?_
           refine pz_ 28 91 rfl rfl (by kernel_rfl) ?_
           refine last_ (i := 29) (N := none) #[true, true, true, true, true, true, true, true, true, true, true, true, true, true, true, true, true, true, true, true, true, true, true, true, true, true, true, true, true, true, false, false, false, false, false, false] rfl rfl (by kernel_rfl) (by decide) (fun K hK => ?_)
           refine skip_ (w1 := ?_) (by rfl) rfl ?_ ?_
           rotate_left
           ·go_simp
            rfl
           refine hK.out _ _ ?_
           clear hK K
           refine pz_ 30 92 rfl rfl (by kernel_rfl) ?_
           refine last_ (i := 31) (N := none) #[true, true, true, true, true, true, true, true, true, true, true, true, true, true, true, true, true, true, true, true, true, true, true, true, true, true, true, true, true, true, true, true, false, false, false, false] rfl rfl (by kernel_rfl) (by decide) (fun K hK => ?_)
           refine skip_ (w1 := ?_) (by rfl) rfl ?_ ?_
           rotate_left
           ·go_simp
            rfl
           refine hK.out _ _ ?_
           clear hK K
           refine pz_ 32 93 rfl rfl (by kernel_rfl) ?_
           refine last_ (i := 33) (N := none) #[true, true, true, true, true, true, true, true, true, true, true, true, true, true, true, true, true, true, true, true, true, true, true, true, true, true, true, true, true, true, true, true, true, true, false, false] rfl rfl (by kernel_rfl) (by decide) (fun K hK => ?_)
           refine skip_ (w1 := ?_) (by rfl) rfl ?_ ?_
           rotate_left
           ·go_simp
            rfl
           refine hK.out _ _ ?_
           clear hK K
           refine pz_ 34 94 rfl rfl (by kernel_rfl) ?_
           refine last_ (i := 35) (N := none) #[true, true, true, true, true, true, true, true, true, true, true, true, true, true, true, true, true, true, true, true, true, true, true, true, true, true, true, true, true, true, true, true, true, true, true, true] rfl rfl (by kernel_rfl) (by decide) (fun K hK => ?_)
           refine skip_ (w1 := ?_) (by rfl) rfl ?_ ?_
           rotate_left
           ·go_simp
            rfl
           refine hK.out _ _ ?_
           clear hK K
           refine done_ (by kernel_rfl) ?_
           clear q0 j4 p4 q4 n4 j8 p8 q8 n8 j12 p12 q12 n12 hHeld c0 c1 c2 c3 f0 f1 f2 f3
           go_wp2
           exact ⟨⟨k + 1, by omega, by go_num, ⟨H.out.quad HQ.out (1 + nd)⟩⟩, by simp [intOf]; omega⟩
          ·obtain rfl : k = 4 := by omega
           clear hlk hk
           rw [show ((4 : Nat) : Int) = 4 from rfl]
           go_wp2_with (fail)
           go_loopw [96] (fun i wr => ∃ k : Nat, k ≤ 4 ∧ i = .int .i64 k ∧ Aside0 (ChR w g2 L (dia (col (dbl L n) 4) k) wr)) (fun i _ => 4 - (intOf i).toNat)
           case atStart => exact ⟨0, by omega, rfl, H⟩
           case round =>
            clear H
            obtain ⟨k, hk, rfl, H⟩ := hrel
            by_cases hlk : k < 4
            ·have eb : 4 + ((k : Int) + 1) % 4 = ((4 + (k + 1) % 4 : Nat) : Int) := by omega
             have ec : 8 + ((k : Int) + 2) % 4 = ((8 + (k + 2) % 4 : Nat) : Int) := by omega
             have ed : 12 + ((k : Int) + 3) % 4 = ((12 + (k + 3) % 4 : Nat) : Int) := by omega
             have EB := Aside0.mk eb
             have EC := Aside0.mk ec
             have ED := Aside0.mk ed
             clear eb ec ed
             go_wp2_with (fail)
             rw [EB.out, EC.out, ED.out]
             have b4 : 4 ≤ 4 + (k + 1) % 4 := by omega
             have b8 : 4 + (k + 1) % 4 < 8 := by omega
             have d8 : 8 ≤ 8 + (k + 2) % 4 := by omega
             have d12 : 8 + (k + 2) % 4 < 12 := by omega
             have e12 : 12 ≤ 12 + (k + 3) % 4 := by omega
             have e16 : 12 + (k + 3) % 4 < 16 := by omega
             have hdia : dia (col (dbl L n) 4) (k + 1) = qr (dia (col (dbl L n) 4) k) k (4 + (k + 1) % 4) (8 + (k + 2) % 4) (12 + (k + 3) % 4) := rfl
             generalize 4 + (k + 1) % 4 = b at *
             generalize 8 + (k + 2) % 4 = c at *
             generalize 12 + (k + 3) % 4 = d at *
             have HD := Aside0.mk hdia
             clear hdia EB EC ED
             obtain ⟨x0, x1, x2, x3, hq, c0, c1, c2, c3, f0, f1, f2, f3⟩ := H.out.four (dia_small (col_small (dbl_small HSm.out n) 4) k) (by rw [dia_length, col_length, dbl_length, HW.out]) k b c d (by omega) (by omega) (by omega) (by omega)
             have HQ := Aside0.mk hq
             clear hq
             have n1 : ¬ b = k := by omega
             have n2 : ¬ c = k := by omega
             have n3 : ¬ d = k := by omega
             have n4 : ¬ c = b := by omega
             have n5 : ¬ d = b := by omega
             have n6 : ¬ d = c := by omega
             have m1 : ¬ k = b := by omega
             have m2 : ¬ k = c := by omega
             have m3 : ¬ k = d := by omega
             have m4 : ¬ b = c := by omega
             have m5 : ¬ b = d := by omega
             have m6 : ¬ c = d := by omega
             have q0 : (k : Int) < 16 := by omega
             have q4 : (b : Int) < 16 := by omega
             have q8 : (c : Int) < 16 := by omega
             have q12 : (d : Int) < 16 := by omega
             refine start_ (n := 30) (S := fun w' => w'.cell? ⟨w.heap.size + 1, k, none⟩ = some (.int .u32 (x0 : Int)) ∧ w'.cell? ⟨w.heap.size + 1, b, none⟩ = some (.int .u32 (x1 : Int)) ∧ w'.cell? ⟨w.heap.size + 1, c, none⟩ = some (.int .u32 (x2 : Int)) ∧ w'.cell? ⟨w.heap.size + 1, d, none⟩ = some (.int .u32 (x3 : Int))) (ds := [23, 25, 27, 29]) #[false, false, false, false, false, false, false, false, false, false, false, false, false, false, false, false, false, false, false, false, false, false, false, false, false, false, false, false, false, false] (by kernel_rfl) rfl rfl ⟨(show _ from c0), (show _ from c1), (show _ from c2), (show _ from c3)⟩ (fun hHeld => ?_)
             refine pz_ 0 112 rfl rfl (by kernel_rfl) ?_
             refine pz_ 1 113 rfl rfl (by kernel_rfl) ?_
             refine pz_ 2 114 rfl rfl (by kernel_rfl) ?_
             refine pz_ 3 115 rfl rfl (by kernel_rfl) ?_
             refine pz_ 4 116 rfl rfl (by kernel_rfl) ?_
             refine pz_ 5 117 rfl rfl (by kernel_rfl) ?_
             refine pz_ 7 119 rfl rfl (by kernel_rfl) ?_
             refine pz_ 8 120 rfl rfl (by kernel_rfl) ?_
             refine pz_ 10 122 rfl rfl (by kernel_rfl) ?_
             refine pz_ 11 123 rfl rfl (by kernel_rfl) ?_
             refine pz_ 13 125 rfl rfl (by kernel_rfl) ?_
             refine pz_ 14 126 rfl rfl (by kernel_rfl) ?_
             refine take_ (i := 6) (N := some 118) (v := ?_) (a' := ?_) #[true, true, true, true, true, true, true, true, true, false, true, true, false, true, true, false, false, false, false, false, false, false, false, false, false, false, false, false, false, false] rfl rfl (by kernel_rfl) (fun _ _ _ h => h) (Or.inl ⟨by rfl, ?_⟩) hHeld ?_ ?_
             rotate_left
             ·rintro w' ⟨s0, s1, s2, s3⟩
              go_simp
              with_reducible rfl
             rotate_left
             ·simp only [Act.put, List.setIfInBounds_toArray, List.set_cons_zero, List.set_cons_succ, i64_w, i32_w]
              rfl
             refine take_ (i := 9) (N := some 121) (v := ?_) (a' := ?_) #[true, true, true, true, true, true, true, true, true, true, true, true, false, true, true, false, false, false, false, false, false, false, false, false, false, false, false, false, false, false] rfl rfl (by kernel_rfl) (fun _ _ _ h => h) (Or.inl ⟨by rfl, ?_⟩) hHeld ?_ ?_
             rotate_left
             ·rintro w' ⟨s0, s1, s2, s3⟩
              go_simp
              with_reducible rfl
             rotate_left
             ·simp only [Act.put, List.setIfInBounds_toArray, List.set_cons_zero, List.set_cons_succ, i64_w, i32_w]
              rfl
             refine take_ (i := 12) (N := some 124) (v := ?_) (a' := ?_) #[true, true, true, true, true, true, true, true, true, true, true, true, true, true, true, false, false, false, false, false, false, false, false, false, false, false, false, false, false, false] rfl rfl (by kernel_rfl) (fun _ _ _ h => h) (Or.inl ⟨by rfl, ?_⟩) hHeld ?_ ?_
             rotate_left
             ·rintro w' ⟨s0, s1, s2, s3⟩
              go_simp
              with_reducible rfl
             rotate_left
             ·simp only [Act.put, List.setIfInBounds_toArray, List.set_cons_zero, List.set_cons_succ, i64_w, i32_w]
              rfl
             refine take_ (i := 15) (N := some 127) (v := ?_) (a' := ?_) #[true, true, true, true, true, true, true, true, true, true, true, true, true, true, true, true, false, false, false, false, false, false, false, false, false, false, false, false, false, false] rfl rfl (by kernel_rfl) (fun _ _ _ h => h) (Or.inl ⟨by rfl, ?_⟩) hHeld ?_ ?_
             rotate_left
             ·rintro w' ⟨s0, s1, s2, s3⟩
              go_simp
              with_reducible rfl
             rotate_left
             ·simp only [Act.put, List.setIfInBounds_toArray, List.set_cons_zero, List.set_cons_succ, i64_w, i32_w]
              rfl
             refine one_ (i := 16) (N := some 128) #[true, true, true, true, true, true, true, true, true, true, true, true, true, true, true, true, true, false, false, false, false, false, false, false, false, false, false, false, false, false] rfl rfl (by kernel_rfl) (by decide) (fun K hK => ?_)
             refine goes_ Try.func129 (by kernel_rfl) rfl #[.int .u32 (x0 : Int), .int .u32 (x1 : Int), .int .u32 (x2 : Int), .int .u32 (x3 : Int)] (by rfl) rfl rfl (by simp only [List.map_toArray, List.map_cons, List.map_nil]; rfl) ?_
             with_reducible refine (quarter_calls x0 x1 x2 x3 _ HQ.out.la HQ.out.lb HQ.out.lc HQ.out.ld).mono ?_
             rintro e w3 ⟨rfl, ⟨nd, rfl⟩⟩
             refine ⟨_, rfl, ?_⟩
             refine hK.out _ _ ⟨(show _ from c0), (show _ from c1), (show _ from c2), (show _ from c3)⟩ (fun hHeld => ?_)
             clear hK K
             refine norm_ sa_ ?_
             refine pz_ 17 111 rfl rfl (by kernel_rfl) ?_
             refine pz_ 18 129 rfl rfl (by kernel_rfl) ?_
             refine pz_ 19 130 rfl rfl (by kernel_rfl) ?_
             refine pz_ 20 131 rfl rfl (by kernel_rfl) ?_
             refine pz_ 21 132 rfl rfl (by kernel_rfl) ?_
             refine pz_ 22 133 rfl rfl (by kernel_rfl) ?_
             refine last_ (i := 23) (N := none) #[true, true, true, true, true, true, true, true, true, true, true, true, true, true, true, true, true, true, true, true, true, true, true, true, false, false, false, false, false, false] rfl rfl (by kernel_rfl) (by decide) (fun K hK => ?_)
             refine skip_ (w1 := ?_) (by rfl) rfl ?_ ?_
             rotate_left
             ·go_simp
              rfl
             refine hK.out _ _ ?_
             clear hK K
             refine pz_ 24 134 rfl rfl (by kernel_rfl) ?_
             refine last_ (i := 25) (N := none) #[true, true, true, true, true, true, true, true, true, true, true, true, true, true, true, true, true, true, true, true, true, true, true, true, true, true, false, false, false, false] rfl rfl (by kernel_rfl) (by decide) (fun K hK => ?_)
             refine skip_ (w1 := ?_) (by rfl) rfl ?_ ?_
             rotate_left
             ·go_simp
              rfl
             refine hK.out _ _ ?_
             clear hK K
             refine pz_ 26 135 rfl rfl (by kernel_rfl) ?_
             refine last_ (i := 27) (N := none) #[true, true, true, true, true, true, true, true, true, true, true, true, true, true, true, true, true, true, true, true, true, true, true, true, true, true, true, true, false, false] rfl rfl (by kernel_rfl) (by decide) (fun K hK => ?_)
             refine skip_ (w1 := ?_) (by rfl) rfl ?_ ?_
             rotate_left
             ·go_simp
              rfl
             refine hK.out _ _ ?_
             clear hK K
             refine pz_ 28 136 rfl rfl (by kernel_rfl) ?_
             refine last_ (i := 29) (N := none) #[true, true, true, true, true, true, true, true, true, true, true, true, true, true, true, true, true, true, true, true, true, true, true, true, true, true, true, true, true, true] rfl rfl (by kernel_rfl) (by decide) (fun K hK => ?_)
             refine skip_ (w1 := ?_) (by rfl) rfl ?_ ?_
             rotate_left
             ·go_simp
              rfl
             refine hK.out _ _ ?_
             clear hK K
             refine done_ (by kernel_rfl) ?_
             clear n1 n2 n3 n4 n5 n6 m1 m2 m3 m4 m5 m6 q0 q4 q8 q12 hHeld c0 c1 c2 c3 f0 f1 f2 f3
             go_wp2
             exact ⟨⟨k + 1, by omega, by go_num, ⟨by rw [HD.out]; exact H.out.quad HQ.out (1 + nd)⟩⟩, by simp [intOf]; omega⟩
            ·obtain rfl : k = 4 := by omega
             clear hlk hk
             rw [show ((4 : Nat) : Int) = 4 from rfl]
             go_wp2
             exact ⟨⟨n + 1, by omega, by go_num, H⟩, by simp [intOf]; omega⟩
        ·obtain rfl : n = 10 := by omega
         clear hlt hn
         rw [show ((10 : Nat) : Int) = 10 from rfl]
         go_wp2_with (refine wpList_load_row rfl 154 (.tmp 7) rfl (w.heap.size + 1) rfl 154 (u32s (dbl L 10)) (0, 0) _ (blk_alloc H.out.a.row _) Try.underlying154 rfl (by rw [u32s_size, dbl_length, HW.out]; kernel_rfl) ?_)
         have H : Aside0 (ChO w g2 wr.heap.size L (outC (fun k => (L.getD k 0 + (dbl L 10).getD k 0) % 4294967296) 0) (wr.alloc (.cells (u8s (List.replicate 64 0)) 106))) := ⟨⟨below_alloc H.out.a.below _, blk_alloc H.out.a.out _, blk_alloc H.out.was _, blk_new _ _, H.out.gt, blk_lt H.out.was⟩⟩
         have HDl := Aside0.mk (show (dbl L 10).length = 16 by rw [dbl_length, HW.out])
         generalize hD : dbl L 10 = D at *
         have HDe := Aside0.mk hD
         clear hD
         generalize wr.heap.size = g3 at *
         go_loopw [140] (fun i wr => ∃ k : Nat, k ≤ 16 ∧ i = .int .i64 k ∧ Aside0 (ChO w g2 g3 L (outC (fun k => (L.getD k 0 + D.getD k 0) % 4294967296) k) wr)) (fun i _ => 16 - (intOf i).toNat)
         case atStart => exact ⟨0, by omega, rfl, H⟩
         case round =>
          clear H
          obtain ⟨k, hk, rfl, H⟩ := hrel
          by_cases hlt : k < 16
          ·have hj := fun w => index_u32 D HDl.out k hlt w
           generalize hx : D.getD k 0 = x at hj
           have HX := Aside0.mk hx
           clear hx
           have hw := (blk_cell H.out.was k).trans (u32s_get L k (by rw [HW.out]; exact hlt))
           generalize hy : L.getD k 0 = y at hw
           have HY := Aside0.mk hy
           clear hy
           obtain ⟨⟨v0, c0⟩, f0⟩ := H.out.cell hk (4 * k) (by omega)
           obtain ⟨⟨v1, c1⟩, f1⟩ := H.out.cell hk (4 * k + 1) (by omega)
           obtain ⟨⟨v2, c2⟩, f2⟩ := H.out.cell hk (4 * k + 2) (by omega)
           obtain ⟨⟨v3, c3⟩, f3⟩ := H.out.cell hk (4 * k + 3) (by omega)
           go_wp2
           have HN : Aside0 (ChO w g2 g3 L (outC (fun k => (L.getD k 0 + D.getD k 0) % 4294967296) (k + 1)) _) := ⟨H.out.step hlt ((y + x) % 4294967296) (by show (L.getD k 0 + D.getD k 0) % 4294967296 = _; rw [HY.out, HX.out])⟩
           rw [Nat.add_comm y x] at HN
           refine ⟨⟨k + 1, by omega, by go_num, ?_⟩, by simp [intOf]; omega⟩
           rw [show ((x : Int) + (y : Int)) % 4294967296 / 16777216 = (((x + y) % 4294967296 : Nat) : Int) / 16777216 % 256 by omega, show ((x : Int) + (y : Int)) % 256 = (((x + y) % 4294967296 : Nat) : Int) % 256 by omega, show ((x : Int) + (y : Int)) % 4294967296 = (((x + y) % 4294967296 : Nat) : Int) by omega]
           exact HN
          ·obtain rfl : k = 16 := by omega
           clear hlt hk
           rw [show ((16 : Nat) : Int) = 16 from rfl]
           have hrow := H.out.row
           rw [outC_full] at hrow
           have hlen : ((List.range 16).flatMap (fun i => le4 ((fun k => (L.getD k 0 + D.getD k 0) % 4294967296) i))).length = 64 := flatC_length _ 16
           generalize hO : (List.range 16).flatMap (fun i => le4 ((fun k => (L.getD k 0 + D.getD k 0) % 4294967296) i)) = O at *
           have HO := Aside0.mk hO
           clear hO
           have HR := Aside0.mk hrow
           have HL := Aside0.mk hlen
           clear hrow hlen
           have hi64 : (Try.prog.info? 106).map (·.size) = some (u8s O).size := by rw [u8s_size, HL.out]; exact HI.out
           have HI64 := Aside0.mk hi64
           clear hi64
           go_wp2_with (first | (refine wpList_load_row rfl 106 (.tmp 17) rfl g3 rfl 106 (u8s O) (0, 0) _ HR.out Try.underlying106 rfl HI64.out ?_) | (refine wpList_store_row rfl 106 (.tmp 6) (.tmp 176) rfl w.heap.size (u8s O) rfl rfl 106 _ H.out.out HI64.out (by rw [u8s_size, u8s_size, HL.out]; rfl) (u8s_one _) ?_))
           refine bodyPost_ret (results_cell_row Try.results99 _ _ w.heap.size 106 (u8s O) (0, 0) _ rfl (setRow_heap _ _ _ _ _ _ H.out.out) Try.underlying106 rfl HI64.out) rfl ⟨?_, ?_⟩
           ·rw [← HO.out, ← HDe.out]; rfl
           ·exact below_setRow H.out.below (Nat.le_refl _) _
end Go.Proofs.Ytbkbganflnemeaa.Pr
end

section
namespace Go.Proofs.Ytbkbganflnemeaa.Pr
open Go.RowKit Go.Proofs.YtbkbganflnemeaaW.PrintWords Go.Proofs.YtbkbganflnemeaaW.PrintLast Go.Proofs.YtbkbganflnemeaaW.PrintMore
attribute [local go_sem] max2_int min2_int max_two min_two max_three min_three max_four min_four
def chacha_may.f (a0 : ByteArray) (a1 : ByteArray) (a2 : Int) : Option (Bool) := if (a0.size : Int) = 32 then (if (a1.size : Int) = 12 then (if a2 ≥ 0 then (some (decide (a2 < 4294967296))) else (some false)) else (some false)) else (some false)
set_option maxHeartbeats 8000000 in
set_option maxRecDepth 100000 in
theorem chacha_may.calls (a0 : ByteArray) (a1 : ByteArray) (a2 : Int) (r : Bool) (w : World) (h : chacha_may.f a0 a1 a2 = some r) :
  Calls Try.prog 98 #[.string a0, .string a1, .int .i64 a2] w fun e w' => e = .returned (.bool r) ∧ Drawn0 w w' := by
 have H : (if (a0.size : Int) = 32 then (if (a1.size : Int) = 12 then (if a2 ≥ 0 then (some (decide (a2 < 4294967296))) else (some false)) else (some false)) else (some false)) = some r := h; clear h; by_cases c4 : (a0.size : Int) = 32
 ·rw [if_pos c4] at H; have c4b0 : ((a0.size : Int) == 32) = true := beq_iff_eq.mpr c4; have c4b1 : ((a0.size : Int) != 32) = false := bne_eq_false_iff_eq.mpr c4; clear c4; by_cases c5 : (a1.size : Int) = 12
  ·rw [if_pos c5] at H; have c5b0 : ((a1.size : Int) == 12) = true := beq_iff_eq.mpr c5; have c5b1 : ((a1.size : Int) != 12) = false := bne_eq_false_iff_eq.mpr c5; clear c5; by_cases c6 : a2 ≥ 0
   ·rw [if_pos c6] at H; have c6b0 : decide (0 ≤ a2) = true := decide_eq_true c6; clear c6; obtain rfl := Option.some.inj H; go_enter Try.func98, Try.ntmps98
    go_wp2; go_ret
    exact ⟨rz_, dz_⟩
   ·rw [if_neg c6] at H; have c6b0 : decide (0 ≤ a2) = false := decide_eq_false c6; clear c6; obtain rfl := Option.some.inj H; go_enter Try.func98, Try.ntmps98
    go_wp2; go_ret
    exact ⟨rz_, dz_⟩
  ·rw [if_neg c5] at H; have c5b0 : ((a1.size : Int) == 12) = false := beq_eq_false_iff_ne.mpr c5; have c5b1 : ((a1.size : Int) != 12) = true := bne_iff_ne.mpr c5; obtain rfl := Option.some.inj H; go_enter Try.func98, Try.ntmps98
   go_wp2; go_ret
   exact ⟨rz_, dz_⟩
 ·rw [if_neg c4] at H; have c4b0 : ((a0.size : Int) == 32) = false := beq_eq_false_iff_ne.mpr c4; have c4b1 : ((a0.size : Int) != 32) = true := bne_iff_ne.mpr c4; obtain rfl := Option.some.inj H; go_enter Try.func98, Try.ntmps98
  go_wp2; go_ret
  exact ⟨rz_, dz_⟩
end Go.Proofs.Ytbkbganflnemeaa.Pr
end

section
namespace Go.Proofs.Ytbkbganflnemeaa.Pr
open Go.RowKit Go.Deep Go.Proofs.YtbkbganflnemeaaW.PrintWords Go.Proofs.YtbkbganflnemeaaW.PrintLast Go.Proofs.YtbkbganflnemeaaW.PrintMore
set_option maxHeartbeats 2000000
theorem chaL_length (a b : List Nat) (n : Nat) : (chaL a b n).length = 64 := flatC_length _ 16
theorem chaL_lt (a b : List Nat) (n : Nat) : ∀ x ∈ chaL a b n, x < 256 := by
 intro x hx
 unfold chaL at hx
 rw [List.mem_flatMap] at hx
 obtain ⟨k, _, h⟩ := hx
 simp only [le4, List.mem_cons, List.not_mem_nil, or_false] at h
 rcases h with h | h | h | h <;> rw [h] <;> exact Nat.mod_lt _ (by decide)
def chaOK (a0 a1 : ByteArray) (a2 : Int) : Prop := a0.size = 32 ∧ a1.size = 12 ∧ 0 ≤ a2 ∧ a2 < 4294967296
instance (a0 a1 : ByteArray) (a2 : Int) : Decidable (chaOK a0 a1 a2) := by unfold chaOK; infer_instance
theorem may_calls (a0 a1 : ByteArray) (a2 : Int) (w : World) : Calls Try.prog 98 #[.string a0, .string a1, .int .i64 a2] w fun e w' => e = .returned (.bool (decide (chaOK a0 a1 a2))) ∧ ∃ n, w' = w.drewN n := by
 refine (chacha_may.calls a0 a1 a2 (decide (chaOK a0 a1 a2)) w ?_).mono fun _ _ h => ⟨h.1, h.2.out⟩
 unfold chacha_may.f chaOK
 by_cases h0 : a0.size = 32 <;> by_cases h1 : a1.size = 12 <;> by_cases h2 : 0 ≤ a2 <;> simp [h0, h1, h2, show ((a0.size : Int) = 32) = (a0.size = 32) by apply propext; omega, show ((a1.size : Int) = 12) = (a1.size = 12) by apply propext; omega]
def chacha_Block.f (a0 a1 : ByteArray) (a2 : Int) : Option (ByteArray × Int) :=
 if chaOK a0 a1 a2 then some (txt (chaL (bys a0) (bys a1) a2.toNat), 0) else some (⟨#[]⟩, 1)
set_option maxRecDepth 100000 in
theorem chacha_Block.calls (a0 : ByteArray) (a1 : ByteArray) (a2 : Int) (r1 : ByteArray) (r2 : Int) (w : World) (h : chacha_Block.f a0 a1 a2 = some (r1, r2)) :
  Calls Try.prog 100 #[.string a0, .string a1, .int .i64 a2] w fun e w' => e = .returned (.tuple #[.string r1, .int .i64 r2]) ∧ Below w.heap.size w w' := by
 unfold chacha_Block.f at h
 by_cases hc : chaOK a0 a1 a2
 ·rw [if_pos hc] at h
  simp only [Option.some.injEq, Prod.mk.injEq] at h
  obtain ⟨rfl, rfl⟩ := h
  have hcd : decide (chaOK a0 a1 a2) = true := decide_eq_true hc
  obtain ⟨h0, h1, h2, h3⟩ := hc
  obtain ⟨m, rfl⟩ := Int.eq_ofNat_of_zero_le h2
  rw [Int.toNat_natCast]
  have hinf : (Try.prog.info? 106).map (·.size) = some 64 := by kernel_rfl
  have HL := Aside0.mk (chaL_length (bys a0) (bys a1) m)
  have hB := fun W => chacha_bytes_calls a0 a1 m W h0 h1 (by omega)
  generalize chaL (bys a0) (bys a1) m = O at hB HL ⊢
  have HB := Aside0.mk hB
  have HC := Aside0.mk hcd
  have hi64 : (Try.prog.info? 106).map (·.size) = some (u8s O).size := by rw [u8s_size, HL.out]; exact hinf
  have HI64 := Aside0.mk hi64
  clear hB hi64 hinf hcd h2
  go_enter Try.func100, Try.ntmps100
  go_wp2_with (fail)
  refine (may_calls _ _ _ _).mono ?_
  rw [HC.out]
  rintro e w1 ⟨rfl, n1, rfl⟩
  go_wp2_with (fail)
  refine (HB.out _).mono ?_
  rintro e w1 ⟨rfl, hb⟩
  have hcv := conv_u8s (w1.alloc (.cells (u8s O) 106)) 68 9 5 106 w1.heap.size O 64 Try.underlying68 Try.underlying5 Try.underlying9 (heap_alloc_last _ _) HL.out 64
  have HBE : Aside0 (Below w.heap.size w (w1.alloc (.cells (u8s O) 106))) := ⟨below_alloc (below_then (pw_below_drewN (Below.refl _ w) n1) (Nat.le_refl _) hb) _⟩
  clear hb
  go_wp2_with (refine wpList_store_row rfl 106 (.tmp 8) (.tmp 17) rfl _ (u8s O) rfl rfl 106 _ (heap_alloc_last _ _) HI64.out (by rw [u8s_size, HL.out]; rfl) (u8s_one _) ?_; rw [World.setRow_alloc_new])
  go_ret2
  exact ⟨rfl, HBE.out⟩
 ·rw [if_neg hc] at h
  simp only [Option.some.injEq, Prod.mk.injEq] at h
  obtain ⟨rfl, rfl⟩ := h
  have hcd : decide (chaOK a0 a1 a2) = false := decide_eq_false hc
  have HC := Aside0.mk hcd
  clear hcd hc
  go_enter Try.func100, Try.ntmps100
  go_wp2_with (fail)
  refine (may_calls _ _ _ _).mono ?_
  rw [HC.out]
  rintro e w1 ⟨rfl, n1, rfl⟩
  go_wp2
  go_ret2
  exact ⟨rfl, pw_below_drewN (Below.refl _ w) n1⟩
def xorAt (f : Nat → Nat) (L : List Nat) (i : Nat) : List Nat := (List.range L.length).map fun j => if j < i then L.getD j 0 ^^^ f j else L.getD j 0
theorem xorAt_length (f : Nat → Nat) (L : List Nat) (i : Nat) : (xorAt f L i).length = L.length := by simp [xorAt]
theorem xorAt_zero (f : Nat → Nat) (L : List Nat) : xorAt f L 0 = L := by
 apply List.ext_getElem
 ·simp [xorAt]
 ·intro j h1 h2
  simp [xorAt, List.getD_eq_getElem?_getD, h2]
theorem xorAt_get (f : Nat → Nat) (L : List Nat) (i : Nat) (hi : i < L.length) : (xorAt f L i)[i]? = some (L.getD i 0) := by
 simp [xorAt, hi]
theorem xorAt_set (f : Nat → Nat) (L : List Nat) (i x y : Nat) (hi : i < L.length) (hx : L.getD i 0 = x) (hy : f i = y) : (xorAt f L i).set i (x ^^^ y) = xorAt f L (i + 1) := by
 apply List.ext_getElem
 ·simp [xorAt]
 ·intro j h1 h2
  rw [List.getElem_set]
  simp only [xorAt, List.getElem_map, List.getElem_range]
  by_cases e : i = j
  ·subst e; rw [if_pos rfl, if_pos (by omega), hx, hy]
  ·rw [if_neg e]
   by_cases h : j < i
   ·rw [if_pos h, if_pos (by omega)]
   ·rw [if_neg h, if_neg (by omega)]
theorem xorAt_over (f : Nat → Nat) (L : List Nat) (i i' : Nat) (h : L.length ≤ i) (h' : L.length ≤ i') : xorAt f L i = xorAt f L i' := by
 unfold xorAt
 apply List.map_congr_left
 intro j hj
 rw [List.mem_range] at hj
 rw [if_pos (by omega), if_pos (by omega)]
def strB (key nonce : List Nat) (n i : Nat) : Nat := (chaL key nonce (n + i / 64)).getD (i % 64) 0
def streamL (key nonce : List Nat) (n : Nat) (s : List Nat) : List Nat := xorAt (strB key nonce n) s s.length
def strOK (a0 a1 : ByteArray) (a2 : Int) (a3 : ByteArray) : Prop := chaOK a0 a1 a2 ∧ a3.size ≤ 65536 ∧ ((a3.size + 63) / 64 : Nat) ≤ 4294967296 - a2
instance (a0 a1 : ByteArray) (a2 : Int) (a3 : ByteArray) : Decidable (strOK a0 a1 a2 a3) := by unfold strOK; infer_instance
def chacha_Stream.f (a0 a1 : ByteArray) (a2 : Int) (a3 : ByteArray) : Option (ByteArray × Int) :=
 if a3.size ≤ 1000000000000 then (if strOK a0 a1 a2 a3 then some (txt (streamL (bys a0) (bys a1) a2.toNat (bys a3)), 0) else some (⟨#[]⟩, 1)) else none
set_option maxRecDepth 100000 in
theorem chacha_Stream.yes (a0 a1 a3 : ByteArray) (m : Nat) (w : World) (h0 : a0.size = 32) (h1 : a1.size = 12) (hm : m < 4294967296) (h3 : a3.size ≤ 65536) (h4 : m + (a3.size + 63) / 64 ≤ 4294967296) :
  Calls Try.prog 66 #[.string a0, .string a1, .int .i64 m, .string a3] w fun e w' => e = .returned (.tuple #[.string (txt (streamL (bys a0) (bys a1) m (bys a3))), .int .i64 0]) ∧ Below w.heap.size w w' := by
 have hcd : decide (chaOK a0 a1 m) = true := decide_eq_true ⟨h0, h1, by omega, by omega⟩
 have hB : ∀ (j : Nat) (W : World), m + j < 4294967296 → Calls Try.prog 99 #[.string a0, .string a1, .int .i64 ((m : Int) + (j : Int))] W fun e w' => e = .returned (.agg (u8s (chaL (bys a0) (bys a1) (m + j)))) ∧ Below W.heap.size W w' := by
  intro j W hj
  have := chacha_bytes_calls a0 a1 (m + j) W h0 h1 hj
  rwa [show ((m + j : Nat) : Int) = (m : Int) + (j : Int) by omega] at this
 have HB := Aside0.mk hB
 have HC := Aside0.mk hcd
 have kb := print_bytes (P := Try.prog) 9 68 5 Try.underlying9 Try.underlying68 Try.underlying5 a3
 have t1 : decide (65536 < (a3.size : Int)) = false := decide_eq_false (by omega)
 have t2 : decide (4294967296 - (m : Int) < ((a3.size : Int) + 64 - 1) / 64) = false := decide_eq_false (by omega)
 clear hB hcd
 go_enter Try.func66, Try.ntmps66
 go_wp2_with (fail)
 refine (may_calls _ _ _ _).mono ?_
 rw [HC.out]
 rintro e w1 ⟨rfl, n1, rfl⟩
 have kb := kb (w.drewN n1)
 go_wp2_with (fail)
 have HROW : ∃ rest, BAt w.heap.size (bys a3) rest (Lib.bytesWorld (w.drewN n1) 5 a3) := bytes_row (w.drewN n1) a3
 have HB0 : Aside0 (Below w.heap.size w (Lib.bytesWorld (w.drewN n1) 5 a3)) := ⟨bytes_below (pw_below_drewN (Below.refl _ w) n1) (Nat.le_refl _) _ _⟩
 clear kb
 obtain ⟨rest, HROW⟩ := HROW
 have hLl := bys_length a3
 have hLb := bys_lt' a3
 have hpost : streamL (bys a0) (bys a1) m (bys a3) = xorAt (strB (bys a0) (bys a1) m) (bys a3) (bys a3).length := rfl
 have HP := Aside0.mk hpost
 rw [← xorAt_zero (strB (bys a0) (bys a1) m) (bys a3)] at HROW
 generalize hL : bys a3 = L at hLl hLb HROW HP
 have HLe := Aside0.mk hL
 clear hL
 have HLl := Aside0.mk hLl
 have HLb := Aside0.mk hLb
 have HR := Aside0.mk HROW
 clear hpost hLl hLb HROW
 generalize Lib.bytesWorld (w.drewN n1) 5 a3 = w2 at HR HB0 ⊢
 generalize grownCap (w.drewN n1) a3.size 0 5 = cp
 have hcv := Aside0.mk (fun (W : World) (l : List Nat) (h : BAt w.heap.size l rest W) (hl : l.length = a3.size) => conv_bat W w.heap.size l rest h a3.size hl cp)
 go_loopw [11] (fun i wr => ∃ j : Nat, 64 * j < a3.size + 64 ∧ i = .int .i64 (64 * (j : Int)) ∧ Aside0 (BAt w.heap.size (xorAt (strB (bys a0) (bys a1) m) L (64 * j)) rest wr) ∧ Aside0 (Below w.heap.size w wr)) (fun i _ => a3.size + 64 - (intOf i).toNat)
 case atStart => exact ⟨0, by omega, rfl, HR, HB0⟩
 case round =>
  clear HR HB0
  obtain ⟨j, hj, rfl, HR, HBE⟩ := hrel
  by_cases hlt : 64 * j < a3.size
  ·have d1 : decide (64 * (j : Int) < (a3.size : Int)) = true := decide_eq_true (by omega)
   have d2 : 64 * (j : Int) / 64 = (j : Int) := by omega
   have hjm : m + j < 4294967296 := by omega
   go_wp2_with (fail)
   refine (HB.out j _ hjm).mono ?_
   rintro e w3 ⟨rfl, hb⟩
   have HO := Aside0.mk (chaL_length (bys a0) (bys a1) (m + j))
   have HOl := Aside0.mk (chaL_lt (bys a0) (bys a1) (m + j))
   have HF := Aside0.mk (show ∀ i, i < 64 → strB (bys a0) (bys a1) m (64 * j + i) = (chaL (bys a0) (bys a1) (m + j)).getD i 0 by
    intro i hi
    unfold strB
    rw [show (64 * j + i) / 64 = j by omega, show (64 * j + i) % 64 = i by omega])
   generalize chaL (bys a0) (bys a1) (m + j) = O at HO HOl HF ⊢
   have hinf : (Try.prog.info? 106).map (·.size) = some 64 := by kernel_rfl
   have hi64 : (Try.prog.info? 106).map (·.size) = some (u8s O).size := by rw [u8s_size, HO.out]; exact hinf
   have HI64 := Aside0.mk hi64
   clear hi64 hinf
   have HR0 := HR
   have HR : Aside0 (BAt w.heap.size (xorAt (strB (bys a0) (bys a1) m) L (64 * j)) rest (w3.alloc (.cells (u8s O) 106))) := ⟨blk_alloc (blk_below HR.out hb) _⟩
   have HBE : Aside0 (Below w.heap.size w (w3.alloc (.cells (u8s O) 106))) := ⟨below_alloc (below_then HBE.out HBE.out.size hb) _⟩
   have HON : Aside0 ((w3.alloc (.cells (u8s O) 106)).heap[w3.heap.size]? = some (.cells (u8s O) 106 (0, 0))) := ⟨heap_alloc_last _ _⟩
   go_wp2_with (refine wpList_store_row rfl 106 (.tmp 12) (.tmp 48) rfl _ (u8s O) rfl rfl 106 _ (heap_alloc_last _ _) HI64.out (by rw [u8s_size, HO.out]; rfl) (u8s_one _) ?_; rw [World.setRow_alloc_new])
   have hq : min 64 ((a3.size : Int) - 64 * (j : Int)) = ((min 64 (a3.size - 64 * j) : Nat) : Int) := by omega
   rw [hq]
   have q1 : min 64 (a3.size - 64 * j) ≤ 64 := by omega
   have q2 : 64 * j + min 64 (a3.size - 64 * j) ≤ a3.size := by omega
   have q3 : min 64 (a3.size - 64 * j) = 64 ∨ 64 * j + min 64 (a3.size - 64 * j) = a3.size := by omega
   have HQ3 := Aside0.mk q3
   clear hq q3
   generalize min 64 (a3.size - 64 * j) = q at q1 q2 HQ3 ⊢
   have HG4 := Aside0.mk (Nat.lt_of_lt_of_le (blk_lt HR0.out) hb.size)
   generalize w3.alloc (.cells (u8s O) 106) = w4 at HR HBE HON ⊢
   generalize w3.heap.size = g4 at HON HG4 ⊢
   clear hb HR0
   go_loopw [54] (fun i wr => ∃ k : Nat, k ≤ q ∧ i = .int .i64 k ∧ Aside0 (BAt w.heap.size (xorAt (strB (bys a0) (bys a1) m) L (64 * j + k)) rest wr) ∧ Aside0 (Below w.heap.size w wr) ∧ Aside0 (wr.heap[g4]? = some (.cells (u8s O) 106 (0, 0)))) (fun i _ => q - (intOf i).toNat)
   case atStart => exact ⟨0, by omega, rfl, HR, HBE, HON⟩
   case round =>
    clear HR HBE HON
    obtain ⟨k, hk, rfl, HR, HBE, HON⟩ := hrel
    by_cases hlk : k < q
    ·have hx0 := xorAt_get (strB (bys a0) (bys a1) m) L (64 * j + k) (by rw [HLl.out]; omega)
     have hxb : L.getD (64 * j + k) 0 < 256 := by
      have hk' : 64 * j + k < L.length := by rw [HLl.out]; omega
      rw [List.getD_eq_getElem?_getD, List.getElem?_eq_getElem hk']
      exact HLb.out _ (List.getElem_mem hk')
     have hyb : O.getD k 0 < 256 := by
      have hk' : k < O.length := by rw [HO.out]; omega
      rw [List.getD_eq_getElem?_getD, List.getElem?_eq_getElem hk']
      exact HOl.out _ (List.getElem_mem hk')
     have hcell := BAt.cell HR.out hx0
     have hfr := BAt.frozen HR.out hx0
     have hcO := (blk_cell HON.out k).trans (u8s_get O k (by rw [HO.out]; omega))
     generalize hx : L.getD (64 * j + k) 0 = x at hcell hxb
     generalize hy : O.getD k 0 = y at hcO hyb
     have HX := Aside0.mk hx
     have HY := Aside0.mk hy
     clear hx hy hx0
     have hxor := u8_xor_nat x y hxb hyb
     go_wp2_with (fail)
     refine wp_still_tail 11 (by kernel_rfl) (by kernel_rfl) ?_
     intro W hW
     have HW := Aside0.mk hW
     have g1 : W.cell? ⟨w.heap.size, 64 * j + k, none⟩ = some (.int .u8 (x : Int)) := by rw [hW]; exact hcell
     have g2 : W.cell? ⟨g4, k, none⟩ = some (.int .u8 (y : Int)) := by rw [hW]; exact hcO
     have gf : W.frozen? ⟨w.heap.size, 64 * j + k, none⟩ = false := by rw [hW]; exact hfr
     have i1 : IntKind.i64.wrap (64 * (j : Int) + (k : Int)) = 64 * (j : Int) + (k : Int) := IntWalk.i64_in _ (by omega)
     have i2 : (64 * (j : Int) + (k : Int)).toNat = 64 * j + k := by omega
     have i3 : 0 ≤ 64 * (j : Int) + (k : Int) := by omega
     have i4 : 64 * (j : Int) + (k : Int) < (a3.size : Int) := by omega
     have i5 : (k : Int) < 64 := by omega
     clear hW hcell hcO hfr
     simp only [List.take_succ_cons, List.take_zero, List.drop_succ_cons, List.drop_zero]
     repeat still_step
     refine wpStill_nil ?_
     go_wp2
     clear i1 i2 i3 i4 i5
     have HN : BAt w.heap.size (xorAt (strB (bys a0) (bys a1) m) L (64 * j + (k + 1))) rest (W.setCell ⟨w.heap.size, 64 * j + k, none⟩ (.int .u8 ((x ^^^ y : Nat) : Int))) := by
      rw [show 64 * j + (k + 1) = 64 * j + k + 1 by omega, ← xorAt_set (strB (bys a0) (bys a1) m) L (64 * j + k) x y (by rw [HLl.out]; omega) HX.out ((HF.out k (by omega)).trans HY.out)]
      rw [HW.out]
      exact BAt.store (w := wr.drew) HR.out (64 * j + k) (x ^^^ y) (by rw [xorAt_length, HLl.out]; omega)
     exact ⟨⟨k + 1, by omega, by go_num, ⟨HN⟩, ⟨by rw [HW.out]; exact below_set (below_drew HBE.out) (Nat.le_refl _)⟩, ⟨by rw [HW.out]; exact blk_far (w := wr.drew) (blk_drew HON.out) (by have := HG4.out; simp; omega) _⟩⟩, by simp [intOf]; omega⟩
    ·obtain rfl : k = q := by omega
     clear hlk hk
     go_wp2_with (fail)
     have HN : BAt w.heap.size (xorAt (strB (bys a0) (bys a1) m) L (64 * (j + 1))) rest wr := by
      rcases HQ3.out with h | h
      ·rw [show 64 * (j + 1) = 64 * j + k by omega]; exact HR.out
      ·rw [xorAt_over _ L (64 * (j + 1)) (64 * j + k) (by rw [HLl.out]; omega) (by rw [HLl.out]; omega)]; exact HR.out
     exact ⟨⟨j + 1, by omega, by go_num, ⟨HN⟩, HBE⟩, by simp [intOf]; omega⟩
  ·have d1 : decide (64 * (j : Int) < (a3.size : Int)) = false := decide_eq_false (by omega)
   have hcv2 := hcv.out wr _ HR.out (by rw [xorAt_length, HLl.out])
   have HE := Aside0.mk (xorAt_over (strB (bys a0) (bys a1) m) L (64 * j) L.length (by rw [HLl.out]; omega) (Nat.le_refl _))
   go_wp2
   go_ret2
   rw [HE.out, ← HP.out, ← HLe.out]
   exact ⟨rfl, HBE.out⟩
set_option maxRecDepth 100000 in
theorem chacha_Stream.no (a0 a1 a3 : ByteArray) (a2 : Int) (w : World) (h : ¬ strOK a0 a1 a2 a3) (k3 : a3.size ≤ 1000000000000) :
  Calls Try.prog 66 #[.string a0, .string a1, .int .i64 a2, .string a3] w fun e w' => e = .returned (.tuple #[.string ⟨#[]⟩, .int .i64 1]) ∧ Below w.heap.size w w' := by
 by_cases hc : chaOK a0 a1 a2
 ·have hcd : decide (chaOK a0 a1 a2) = true := decide_eq_true hc
  obtain ⟨h0, h1, h2, h3⟩ := hc
  have HC := Aside0.mk hcd
  clear hcd
  by_cases h4 : 65536 < a3.size
  ·have t1 : decide (65536 < (a3.size : Int)) = true := decide_eq_true (by omega)
   clear h h4
   go_enter Try.func66, Try.ntmps66
   go_wp2_with (fail)
   refine (may_calls _ _ _ _).mono ?_
   rw [HC.out]
   rintro e w1 ⟨rfl, n1, rfl⟩
   go_wp2
   go_ret2
   exact ⟨rfl, pw_below_drewN (Below.refl _ w) n1⟩
  ·have t1 : decide (65536 < (a3.size : Int)) = false := decide_eq_false (by omega)
   have t2 : decide (4294967296 - a2 < ((a3.size : Int) + 64 - 1) / 64) = true := by
    refine decide_eq_true ?_
    apply Classical.byContradiction
    intro hn
    exact h ⟨⟨h0, h1, h2, h3⟩, by omega, by omega⟩
   clear h
   go_enter Try.func66, Try.ntmps66
   go_wp2_with (fail)
   refine (may_calls _ _ _ _).mono ?_
   rw [HC.out]
   rintro e w1 ⟨rfl, n1, rfl⟩
   go_wp2
   go_ret2
   exact ⟨rfl, pw_below_drewN (Below.refl _ w) n1⟩
 ·have hcd : decide (chaOK a0 a1 a2) = false := decide_eq_false hc
  have HC := Aside0.mk hcd
  clear hcd hc h
  go_enter Try.func66, Try.ntmps66
  go_wp2_with (fail)
  refine (may_calls _ _ _ _).mono ?_
  rw [HC.out]
  rintro e w1 ⟨rfl, n1, rfl⟩
  go_wp2
  go_ret2
  exact ⟨rfl, pw_below_drewN (Below.refl _ w) n1⟩
theorem chacha_Stream.calls (a0 : ByteArray) (a1 : ByteArray) (a2 : Int) (a3 : ByteArray) (r1 : ByteArray) (r2 : Int) (w : World) (h : chacha_Stream.f a0 a1 a2 a3 = some (r1, r2)) :
  Calls Try.prog 66 #[.string a0, .string a1, .int .i64 a2, .string a3] w fun e w' => e = .returned (.tuple #[.string r1, .int .i64 r2]) ∧ Below w.heap.size w w' := by
 unfold chacha_Stream.f at h
 by_cases hs : a3.size ≤ 1000000000000
 ·rw [if_pos hs] at h
  by_cases hc : strOK a0 a1 a2 a3
  ·rw [if_pos hc] at h
   simp only [Option.some.injEq, Prod.mk.injEq] at h
   obtain ⟨rfl, rfl⟩ := h
   obtain ⟨⟨h0, h1, h2, h3⟩, h4, h5⟩ := hc
   obtain ⟨m, rfl⟩ := Int.eq_ofNat_of_zero_le h2
   rw [Int.toNat_natCast]
   exact chacha_Stream.yes a0 a1 a3 m w h0 h1 (by omega) h4 (by omega)
  ·rw [if_neg hc] at h
   simp only [Option.some.injEq, Prod.mk.injEq] at h
   obtain ⟨rfl, rfl⟩ := h
   exact chacha_Stream.no a0 a1 a3 a2 w hc hs
 ·rw [if_neg hs] at h
  cases h
def mapAt (p : Nat → Nat → Nat) (l : List Nat) : List Nat := (List.range l.length).map fun i => p i (l.getD i 0)
theorem mapAt_length (p : Nat → Nat → Nat) (l : List Nat) : (mapAt p l).length = l.length := by simp [mapAt]
theorem mapAt_congr {p q : Nat → Nat → Nat} {l : List Nat} (h : ∀ i, i < l.length → p i (l.getD i 0) = q i (l.getD i 0)) : mapAt p l = mapAt q l :=
 List.map_congr_left fun i hi => h i (List.mem_range.1 hi)
theorem mapAt_id (l : List Nat) : mapAt (fun _ x => x) l = l := by
 apply List.ext_getElem
 ·simp [mapAt]
 ·intro j h1 h2
  simp [mapAt, List.getD_eq_getElem?_getD, h2]
theorem mapAt_get (p : Nat → Nat → Nat) (l : List Nat) (i : Nat) (hi : i < l.length) : (mapAt p l)[i]? = some (p i (l.getD i 0)) := by
 simp [mapAt, hi]
theorem mapAt_set {p q : Nat → Nat → Nat} {l : List Nat} (k v : Nat) (hk : q k (l.getD k 0) = v) (h : ∀ i, i ≠ k → p i (l.getD i 0) = q i (l.getD i 0)) : (mapAt p l).set k v = mapAt q l := by
 apply List.ext_getElem
 ·simp [mapAt]
 ·intro j h1 h2
  rw [List.getElem_set]
  simp only [mapAt, List.getElem_map, List.getElem_range]
  by_cases e : k = j
  ·subst e; rw [if_pos rfl, hk]
  ·rw [if_neg e, h j (fun e' => e e'.symm)]
def clB (k x : Nat) : Nat := if k % 4 = 3 then x % 16 else if k % 4 = 0 ∧ 0 < k then x / 4 * 4 else x
def clampL (l : List Nat) : List Nat := mapAt clB l
theorem clampL_length (l : List Nat) : (clampL l).length = l.length := mapAt_length _ _
theorem clB_lt (k x : Nat) (h : x < 256) : clB k x < 256 := by
 unfold clB
 split
 ·omega
 ·split <;> omega
theorem clampL_lt (l : List Nat) (h : ∀ i, l.getD i 0 < 256) : ∀ x ∈ clampL l, x < 256 := by
 intro x hx
 unfold clampL mapAt at hx
 rw [List.mem_map] at hx
 obtain ⟨i, _, rfl⟩ := hx
 exact clB_lt _ _ (h i)
def upto (f : Nat → Nat → Nat) (k : Nat) : Nat → Nat → Nat := fun i x => if i < k then f i x else x
theorem upto_set (f : Nat → Nat → Nat) (L : List Nat) (k v : Nat) (hv : f k (L.getD k 0) = v) : (mapAt (upto f k) L).set k v = mapAt (upto f (k + 1)) L := by
 refine mapAt_set k v ?_ ?_
 ·unfold upto; rw [if_pos (by omega), hv]
 ·intro i hi
  unfold upto
  by_cases h : i < k
  ·rw [if_pos h, if_pos (by omega)]
  ·rw [if_neg h, if_neg (by omega)]
theorem upto_skip (f : Nat → Nat → Nat) (L : List Nat) (k k' : Nat) (hk : k ≤ k') (hv : ∀ i, k ≤ i → i < k' → f i (L.getD i 0) = L.getD i 0) : mapAt (upto f k) L = mapAt (upto f k') L := by
 refine mapAt_congr fun i _ => ?_
 unfold upto
 by_cases h : i < k
 ·rw [if_pos h, if_pos (by omega)]
 ·rw [if_neg h]
  by_cases h' : i < k'
  ·rw [if_pos h', hv i (by omega) h']
  ·rw [if_neg h']
theorem upto_zero (f : Nat → Nat → Nat) (L : List Nat) : mapAt (upto f 0) L = L := by
 conv => rhs; rw [← mapAt_id L]
 exact mapAt_congr fun i _ => by simp [upto]
theorem upto_all (f : Nat → Nat → Nat) (L : List Nat) (k : Nat) (hk : L.length ≤ k) : mapAt (upto f k) L = mapAt f L :=
 mapAt_congr fun i hi => by unfold upto; rw [if_pos (by omega)]
theorem u8_and15 : ∀ x : Nat, x < 256 → bits .and .u8 (x : Int) 15 = ((x % 16 : Nat) : Int) := by decide +kernel
theorem u8_not3 : ∀ x : Nat, x < 256 → bits .andNot .u8 (x : Int) 3 = ((x / 4 * 4 : Nat) : Int) := by decide +kernel
set_option maxRecDepth 100000 in
theorem poly_Clamp.yes (a0 : ByteArray) (w : World) (h0 : a0.size = 16) :
  Calls Try.prog 130 #[.string a0] w fun e w' => e = .returned (.tuple #[.string (txt (clampL (bys a0))), .int .i64 0]) ∧ Below w.heap.size w w' := by
 have kb := print_bytes (P := Try.prog) 9 68 5 Try.underlying9 Try.underlying68 Try.underlying5 a0 w
 have g0 : ((a0.size : Int) != 16) = false := by rw [bne_eq_false_iff_eq]; omega
 go_enter Try.func130, Try.ntmps130
 go_wp2_with (fail)
 have HROW := bytes_row w a0
 have HB0 : Aside0 (Below w.heap.size w (Lib.bytesWorld w 5 a0)) := ⟨bytes_below (Below.refl _ w) (Nat.le_refl _) _ _⟩
 clear kb g0
 obtain ⟨rest, HROW⟩ := HROW
 have hLl : (bys a0).length = 16 := by rw [bys_length]; exact h0
 have hLb := bys_lt a0
 rw [← upto_zero clB (bys a0)] at HROW
 generalize hL : bys a0 = L at hLl hLb HROW
 have HLe := Aside0.mk hL
 have HLl := Aside0.mk hLl
 have HLb := Aside0.mk hLb
 have HR0 := Aside0.mk HROW
 clear hL hLl hLb HROW
 generalize Lib.bytesWorld w 5 a0 = w2 at HR0 HB0 ⊢
 generalize grownCap w a0.size 0 5 = cp
 generalize grownCap w 16 0 5 = cp
 have hcv := Aside0.mk (fun (W : World) (l : List Nat) (h : BAt w.heap.size l rest W) (hl : l.length = 16) => conv_bat W w.heap.size l rest h 16 hl cp)
 go_loopw [13] (fun i wr => ∃ k : Nat, k ≤ 16 ∧ i = .int .i64 k ∧ Aside0 (BAt w.heap.size (mapAt (upto clB k) L) rest wr) ∧ Aside0 (Below w.heap.size w wr)) (fun i _ => 16 - (intOf i).toNat)
 case atStart => exact ⟨0, by omega, rfl, HR0, HB0⟩
 case round =>
  clear HR0 HB0
  obtain ⟨k, hk, rfl, HR, HB⟩ := hrel
  by_cases hlt : k < 16
  ·have hx0 := mapAt_get (fun i x => if i < k then clB i x else x) L k (by rw [HLl.out]; exact hlt)
   simp only [Nat.lt_irrefl, if_false] at hx0
   have hxb := HLb.out k
   have hcell := BAt.cell HR.out hx0
   have hfr := BAt.frozen HR.out hx0
   generalize hx : L.getD k 0 = x at hcell hxb
   have hb15 := u8_and15 x hxb
   have hb3 := u8_not3 x hxb
   have HX := Aside0.mk hx
   clear hx hx0 hcv
   have HN : ∀ W v, W = wr.setCell ⟨w.heap.size, k, none⟩ (.int .u8 ((v : Nat) : Int)) → clB k x = v → Aside0 (BAt w.heap.size (mapAt (upto clB (k + 1)) L) rest W) ∧ Aside0 (Below w.heap.size w W) := by
    rintro W v rfl hv
    refine ⟨⟨?_⟩, ⟨below_set HB.out (Nat.le_refl _)⟩⟩
    rw [← upto_set clB L k v (by rw [HX.out, hv])]
    exact BAt.store HR.out k v (by rw [mapAt_length, HLl.out]; exact hlt)
   have HN := Aside0.mk HN
   by_cases h3 : k % 4 = 3
   ·have t3 : (((k : Int) % 4) == 3) = true := by rw [beq_iff_eq]; omega
    have hv : clB k x = x % 16 := by unfold clB; rw [if_pos h3]
    have HV := Aside0.mk hv
    clear hv h3
    go_wp2
    have := HN.out _ _ rfl HV.out
    exact ⟨⟨k + 1, by omega, by go_num, this.1, this.2⟩, by simp [intOf]; omega⟩
   ·have t3 : (((k : Int) % 4) == 3) = false := by rw [beq_eq_false_iff_ne]; omega
    by_cases h4 : k % 4 = 0 ∧ 0 < k
    ·have t4 : (((k : Int) % 4) == 0) = true := by rw [beq_iff_eq]; omega
     have t5 : decide (0 < (k : Int)) = true := decide_eq_true (by omega)
     have t6 : 0 < k := by omega
     have hv : clB k x = x / 4 * 4 := by unfold clB; rw [if_neg h3, if_pos h4]
     have HV := Aside0.mk hv
     clear hv h3 h4
     go_wp2
     have := HN.out _ _ rfl HV.out
     exact ⟨⟨k + 1, by omega, by go_num, this.1, this.2⟩, by simp [intOf]; omega⟩
    ·have hv : clB k x = x := by unfold clB; rw [if_neg h3, if_neg h4]
     have HS : Aside0 (BAt w.heap.size (mapAt (upto clB (k + 1)) L) rest wr) := ⟨by
      rw [← upto_skip clB L k (k + 1) (by omega) (fun i h1 h2 => by rw [show i = k by omega, HX.out, hv])]
      exact HR.out⟩
     clear hv
     by_cases h0k : k = 0
     ·have t4 : (((k : Int) % 4) == 0) = true := by rw [beq_iff_eq]; omega
      have t5 : decide (0 < (k : Int)) = false := decide_eq_false (by omega)
      have t6 : (0 < k) = False := eq_false (by omega)
      clear h3 h4 h0k
      go_wp2
      exact ⟨⟨k + 1, by omega, by go_num, HS, HB⟩, by simp [intOf]; omega⟩
     ·have t4 : (((k : Int) % 4) == 0) = false := by rw [beq_eq_false_iff_ne]; omega
      clear h3 h4 h0k
      go_wp2
      exact ⟨⟨k + 1, by omega, by go_num, HS, HB⟩, by simp [intOf]; omega⟩
  ·obtain rfl : k = 16 := by omega
   clear hlt hk
   have hcv2 := hcv.out wr _ HR.out (by rw [mapAt_length, HLl.out])
   have HE := Aside0.mk (show mapAt (upto clB 16) L = clampL L from upto_all clB L 16 (by rw [HLl.out]; omega))
   rw [HE.out] at hcv2
   go_wp2
   go_ret2
   rw [HLe.out]
   exact ⟨rfl, HB.out⟩
end Go.Proofs.Ytbkbganflnemeaa.Pr
end

section
namespace Go.Proofs.Ytbkbganflnemeaa.Pr
set_option maxHeartbeats 1000000
def lv : List Nat → Nat
 | [] => 0
 | x :: l => x + 67108864 * lv l
def cstep (st : List Nat × Nat) (k : Nat) : List Nat × Nat := (st.1.set k ((st.1.getD k 0 + st.2) % 67108864), (st.1.getD k 0 + st.2) / 67108864)
def carL (l : List Nat) : Nat → List Nat × Nat
 | 0 => (l, 0)
 | k + 1 => cstep (carL l k) k
def car (l : List Nat) : List Nat :=
 ((carL l 5).1.set 0 (((carL l 5).1.getD 0 0 + 5 * (carL l 5).2) % 67108864)).set 1 ((carL l 5).1.getD 1 0 + ((carL l 5).1.getD 0 0 + 5 * (carL l 5).2) / 67108864)
theorem five {l : List Nat} (h : l.length = 5) : ∃ a b c d e, l = [a, b, c, d, e] := by
 match l, h with
 | [a, b, c, d, e], _ => exact ⟨a, b, c, d, e, rfl⟩
structure Lim (n : Nat) (l : List Nat) : Prop where
 len : l.length = 5
 lt : ∀ i, l.getD i 0 < n
theorem Lim.mk5 {n a b c d e : Nat} (h0 : a < n) (h1 : b < n) (h2 : c < n) (h3 : d < n) (h4 : e < n) : Lim n [a, b, c, d, e] := by
 refine ⟨rfl, fun i => ?_⟩
 match i with
 | 0 => exact h0
 | 1 => exact h1
 | 2 => exact h2
 | 3 => exact h3
 | 4 => exact h4
 | i + 5 => simp; omega
theorem Lim.of5 {n : Nat} {l : List Nat} (h : Lim n l) : ∃ a b c d e, l = [a, b, c, d, e] ∧ a < n ∧ b < n ∧ c < n ∧ d < n ∧ e < n := by
 obtain ⟨a, b, c, d, e, rfl⟩ := five h.len
 exact ⟨a, b, c, d, e, rfl, h.lt 0, h.lt 1, h.lt 2, h.lt 3, h.lt 4⟩
theorem Lim.mono {n m : Nat} {l : List Nat} (h : Lim n l) (hnm : n ≤ m) : Lim m l := ⟨h.len, fun i => Nat.lt_of_lt_of_le (h.lt i) hnm⟩
theorem car5 (a b c d e : Nat) : ∃ q0 q1 q2 q3 q4 q5, car [a, b, c, d, e] = [(a % 67108864 + 5 * q4) % 67108864, (b + q0) % 67108864 + q5, (c + q1) % 67108864, (d + q2) % 67108864, (e + q3) % 67108864] ∧
  q0 = a / 67108864 ∧ q1 = (b + q0) / 67108864 ∧ q2 = (c + q1) / 67108864 ∧ q3 = (d + q2) / 67108864 ∧ q4 = (e + q3) / 67108864 ∧ q5 = (a % 67108864 + 5 * q4) / 67108864 :=
 ⟨_, _, _, _, _, _, rfl, rfl, rfl, rfl, rfl, rfl, rfl⟩
theorem car_lim {l : List Nat} (h : Lim 9223372036854775808 l) : Lim 67141632 (car l) := by
 obtain ⟨a, b, c, d, e, rfl, h0, h1, h2, h3, h4⟩ := h.of5
 obtain ⟨q0, q1, q2, q3, q4, q5, h, e0, e1, e2, e3, e4, e5⟩ := car5 a b c d e
 rw [h]
 apply Lim.mk5 <;> omega
theorem carL_lt {l : List Nat} (h : Lim 9223372036854775808 l) : ∀ k, k < 5 → (carL l k).1.getD k 0 + (carL l k).2 < 18446744073709551616 := by
 obtain ⟨a, b, c, d, e, rfl, h0, h1, h2, h3, h4⟩ := h.of5
 intro k hk
 match k, hk with
 | 0, _ => show a + 0 < _; omega
 | 1, _ => show b + (a + 0) / 67108864 < _; omega
 | 2, _ => show c + (b + (a + 0) / 67108864) / 67108864 < _; omega
 | 3, _ => show d + (c + (b + (a + 0) / 67108864) / 67108864) / 67108864 < _; omega
 | 4, _ => show e + (d + (c + (b + (a + 0) / 67108864) / 67108864) / 67108864) / 67108864 < _; omega
theorem carL_length (l : List Nat) : ∀ k, (carL l k).1.length = l.length
 | 0 => rfl
 | k + 1 => by simp [carL, cstep, carL_length l k]
theorem car_length (l : List Nat) : (car l).length = l.length := by simp [car, carL_length]
theorem carL_end {l : List Nat} (h : Lim 9223372036854775808 l) : (carL l 5).1.getD 0 0 + 5 * (carL l 5).2 < 18446744073709551616 ∧ (carL l 5).1.getD 0 0 < 67108864 ∧ (carL l 5).1.getD 1 0 < 67108864 ∧ (carL l 5).2 < 274877906944 := by
 obtain ⟨a, b, c, d, e, rfl, h0, h1, h2, h3, h4⟩ := h.of5
 have e0 : (carL [a, b, c, d, e] 5).1.getD 0 0 = (a + 0) % 67108864 := rfl
 have e1 : (carL [a, b, c, d, e] 5).1.getD 1 0 = (b + (a + 0) / 67108864) % 67108864 := rfl
 have e2 : (carL [a, b, c, d, e] 5).2 = (e + (d + (c + (b + (a + 0) / 67108864) / 67108864) / 67108864) / 67108864) / 67108864 := rfl
 rw [e0, e1, e2]
 omega
def addT (l m : List Nat) (k : Nat) : List Nat := (List.range 5).map fun i => if i < k then l.getD i 0 + m.getD i 0 else l.getD i 0
def addL (l m : List Nat) : List Nat := addT l m 5
theorem addL_lim {n m : Nat} {l k : List Nat} (hl : Lim n l) (hk : Lim m k) : Lim (n + m) (addL l k) := by
 obtain ⟨a, b, c, d, e, rfl, h0, h1, h2, h3, h4⟩ := hl.of5
 obtain ⟨a', b', c', d', e', rfl, g0, g1, g2, g3, g4⟩ := hk.of5
 show Lim _ [a + a', b + b', c + c', d + d', e + e']
 apply Lim.mk5 <;> omega
def mulT (n m : List Nat) (k : Nat) : Nat → Nat
 | 0 => 0
 | i + 1 => mulT n m k i + if i ≤ k then n.getD i 0 * m.getD (k - i) 0 else 5 * n.getD i 0 * m.getD (k + 5 - i) 0
def mulL (n m : List Nat) : List Nat := (List.range 5).map fun k => mulT n m k 5
theorem mulT_lt {n m : List Nat} (hn : Lim 268435456 n) (hm : Lim 67108864 m) (k : Nat) : ∀ i, mulT n m k i ≤ i * 90071992547409920
  | 0 => by simp [mulT]
  | i + 1 => by
    have h1 := mulT_lt hn hm k i
    have hx : ∀ j r, n.getD j 0 * m.getD r 0 ≤ 18014398509481984 := fun j r => by
      have := Nat.mul_le_mul (Nat.le_of_lt (hn.lt j)) (Nat.le_of_lt (hm.lt r))
      simpa using this
    have h2 : (if i ≤ k then n.getD i 0 * m.getD (k - i) 0 else 5 * n.getD i 0 * m.getD (k + 5 - i) 0) ≤ 90071992547409920 := by
      split
      · have := hx i (k - i); omega
      · have := hx i (k + 5 - i)
        rw [Nat.mul_assoc]; omega
    simp only [mulT]
    omega
theorem mulL_lim {n m : List Nat} (hn : Lim 268435456 n) (hm : Lim 67108864 m) : Lim 9223372036854775808 (mulL n m) := by
 refine ⟨by simp [mulL], fun i => ?_⟩
 unfold mulL
 by_cases hi : i < 5
 ·simp [List.getD_eq_getElem?_getD, hi]
  have := mulT_lt hn hm i 5
  omega
 ·simp [List.getD_eq_getElem?_getD, hi]
def norm (l : List Nat) : List Nat := if (car l).getD 1 0 < 67108864 then car l else car (car l)
theorem norm_lim {l : List Nat} (h : Lim 134217728 l) : Lim 67108864 (norm l) := by
 obtain ⟨a, b, c, d, e, rfl, h0, h1, h2, h3, h4⟩ := h.of5
 unfold norm
 obtain ⟨q0, q1, q2, q3, q4, q5, h, e0, e1, e2, e3, e4, e5⟩ := car5 a b c d e
 rw [h]
 split
 ·rename_i hb
  simp only [List.getD_cons_succ, List.getD_cons_zero] at hb
  apply Lim.mk5 <;> omega
 ·rename_i hb
  simp only [List.getD_cons_succ, List.getD_cons_zero] at hb
  obtain ⟨r0, r1, r2, r3, r4, r5, g, f0, f1, f2, f3, f4, f5⟩ := car5 ((a % 67108864 + 5 * q4) % 67108864) ((b + q0) % 67108864 + q5) ((c + q1) % 67108864) ((d + q2) % 67108864) ((e + q3) % 67108864)
  rw [g]
  apply Lim.mk5 <;> omega
def moreT (l : List Nat) : Nat → List Nat
 | 0 => l.set 0 (l.getD 0 0 + 5)
 | k + 1 => ((moreT l k).set (k + 1) ((moreT l k).getD (k + 1) 0 + (moreT l k).getD k 0 / 67108864)).set k ((moreT l k).getD k 0 % 67108864)
def whole (l : List Nat) : List Nat :=
 if (moreT (norm l) 4).getD 4 0 / 67108864 = 0 then norm l else (moreT (norm l) 4).set 4 ((moreT (norm l) 4).getD 4 0 % 67108864)
theorem more5 (a b c d e : Nat) : ∃ q0 q1 q2 q3, moreT [a, b, c, d, e] 4 = [(a + 5) % 67108864, (b + q0) % 67108864, (c + q1) % 67108864, (d + q2) % 67108864, e + q3] ∧
  q0 = (a + 5) / 67108864 ∧ q1 = (b + q0) / 67108864 ∧ q2 = (c + q1) / 67108864 ∧ q3 = (d + q2) / 67108864 := ⟨_, _, _, _, rfl, rfl, rfl, rfl, rfl⟩
theorem whole_lim {l : List Nat} (h : Lim 134217728 l) : Lim 67108864 (whole l) := by
 have hN := norm_lim h
 unfold whole
 generalize norm l = m at *
 obtain ⟨a, b, c, d, e, rfl, h0, h1, h2, h3, h4⟩ := hN.of5
 obtain ⟨q0, q1, q2, q3, hm, e0, e1, e2, e3⟩ := more5 a b c d e
 rw [hm]
 split
 ·exact hN
 ·simp only [List.getD_cons_succ, List.getD_cons_zero, List.set_cons_succ, List.set_cons_zero] at *
  apply Lim.mk5 <;> omega
end Go.Proofs.Ytbkbganflnemeaa.Pr
namespace Go.Proofs.Ytbkbganflnemeaa.Pr
def limbs (V : Nat) : List Nat := [V % 67108864, V / 67108864 % 67108864, V / 4503599627370496 % 67108864, V / 302231454903657293676544 % 67108864, V / 20282409603651670423947251286016 % 67108864]
theorem limbs_lim (V : Nat) : Lim 67108864 (limbs V) := by
 apply Lim.mk5 <;> exact Nat.mod_lt _ (by decide)
def dv : List Nat → Nat
 | [] => 0
 | x :: l => x + 256 * dv l
theorem dv_append (l m : List Nat) : dv (l ++ m) = dv l + 256 ^ l.length * dv m := by
 induction l with
 | nil => simp [dv]
 | cons x l ih => simp only [List.cons_append, dv, ih, List.length_cons, Nat.pow_succ]; grind
theorem dv_lt (l : List Nat) (h : ∀ i, l.getD i 0 < 256) : dv l < 256 ^ l.length := by
  induction l with
  | nil => simp [dv]
  | cons x l ih =>
    have h0 := h 0
    have := ih (fun i => by simpa using h (i + 1))
    simp only [dv, List.length_cons, Nat.pow_succ, List.getD_cons_zero] at *
    omega
end Go.Proofs.Ytbkbganflnemeaa.Pr
namespace Go.Proofs.Ytbkbganflnemeaa.Pr
theorem dv_take_succ (l : List Nat) (i : Nat) : dv (l.take (i + 1)) = dv (l.take i) + 256 ^ i * l.getD i 0 := by
 by_cases h : i < l.length
 ·rw [List.take_succ_eq_append_getElem h, dv_append]
  simp [dv, List.length_take, Nat.min_eq_left (Nat.le_of_lt h), List.getD_eq_getElem?_getD, h]
 ·have : i ≤ l.length ∨ l.length ≤ i := by omega
  rw [List.take_of_length_le (by omega), List.take_of_length_le (by omega)]
  simp [List.getD_eq_getElem?_getD, h]
end Go.Proofs.Ytbkbganflnemeaa.Pr
end

section
namespace Go.Proofs.Ytbkbganflnemeaa.Pr
open Go.RowKit Go.Deep Go.Proofs.YtbkbganflnemeaaW.PrintWords Go.Proofs.YtbkbganflnemeaaW.PrintLast Go.Proofs.YtbkbganflnemeaaW.PrintMore
set_option maxHeartbeats 2000000
def u64s (l : List Nat) : Array Value := (l.map fun (n : Nat) => Value.int .u64 (n : Int)).toArray
theorem u64s_size (l : List Nat) : (u64s l).size = l.length := by simp [u64s]
theorem u64s_get (l : List Nat) (i : Nat) (h : i < l.length) : (u64s l)[i]? = some (.int .u64 (l.getD i 0 : Nat)) := by
 simp [u64s, h]
theorem u64s_set (l : List Nat) (i v : Nat) : (u64s l).setIfInBounds i (.int .u64 (v : Int)) = u64s (l.set i v) := by
 simp [u64s]
theorem u64s_one (l : List Nat) : (u64s l).all (·.oneCell') = true := by
 simp [u64s, Value.oneCell']
def adr (n : Nat) : Nat → Nat
 | 0 => n
 | i + 1 => adr n i + 1
theorem adr_eq (n : Nat) : ∀ i, adr n i = n + i
 | 0 => rfl
 | i + 1 => by rw [adr, adr_eq n i]; omega
structure PN (w : World) (R : List (List Nat)) (W : World) : Prop where
 below : Below w.heap.size w W
 rows : ∀ i l, R[i]? = some l → W.heap[adr w.heap.size i]? = some (.cells (u64s l) 159 (0, 0))
 size : W.heap.size = w.heap.size + R.length
theorem PN.nil (w : World) : PN w [] w := ⟨Below.refl _ _, by simp, rfl⟩
theorem PN.push {w W : World} {R : List (List Nat)} (h : PN w R W) (l : List Nat) : PN w (R ++ [l]) (W.alloc (.cells (u64s l) 159)) := by
 refine ⟨below_alloc h.below _, ?_, by simp [h.size]; omega⟩
 intro i l' hi
 by_cases hlt : i < R.length
 ·rw [List.getElem?_append_left hlt] at hi
  exact blk_alloc (h.rows i l' hi) _
 ·have hi2 : i = R.length := by
   have := (List.getElem?_eq_some_iff.1 hi).1
   simp at this; omega
  subst hi2
  simp at hi
  subst hi
  rw [adr_eq, ← h.size]
  exact blk_new _ _
theorem PN.drew {w W : World} {R : List (List Nat)} (h : PN w R W) : PN w R W.drew := ⟨below_drew h.below, h.rows, h.size⟩
theorem PN.cell {w W : World} {R : List (List Nat)} (h : PN w R W) (i k : Nat) {l : List Nat} (hl : R[i]? = some l) (hk : k < l.length) : W.cell? ⟨adr w.heap.size i, k, none⟩ = some (.int .u64 (l.getD k 0 : Nat)) ∧ W.frozen? ⟨adr w.heap.size i, k, none⟩ = false :=
 ⟨(blk_cell (h.rows i l hl) k).trans (u64s_get l k hk), blk_frozen (h.rows i l hl) k⟩
theorem PN.set {w W : World} {R : List (List Nat)} (h : PN w R W) (i k v : Nat) {l : List Nat} (hl : R[i]? = some l) : PN w (R.set i (l.set k v)) (W.setCell ⟨adr w.heap.size i, k, none⟩ (.int .u64 (v : Int))) := by
 refine ⟨below_set h.below (by rw [adr_eq]; omega), ?_, by rw [List.length_set]; simp [h.size]⟩
 intro j l' hj
 rw [List.getElem?_set] at hj
 by_cases e : i = j
 ·subst e
  have hlt := (List.getElem?_eq_some_iff.1 hl).1
  rw [if_pos rfl, if_pos hlt] at hj
  obtain rfl := Option.some.inj hj
  exact blk_put (h.rows i l hl) k _ (u64s_set l k v)
 ·rw [if_neg e] at hj
  exact blk_far (h.rows j l' hj) (by rw [adr_eq, adr_eq]; simp; omega) _
theorem PN.set2 {w W : World} {R : List (List Nat)} (h : PN w R W) (i k u v : Nat) {l : List Nat} (hl : R[i]? = some l) : PN w (R.set i (l.set k v)) ((W.setCell ⟨adr w.heap.size i, k, none⟩ (.int .u64 (u : Int))).setCell ⟨adr w.heap.size i, k, none⟩ (.int .u64 (v : Int))) := by
 have hlt := (List.getElem?_eq_some_iff.1 hl).1
 have := (h.set i k u hl).set i k v (l := l.set k u) (by rw [List.getElem?_set]; simp [hlt])
 rwa [List.set_set, List.set_set] at this
theorem wraps_u64 (n : Int) (h₀ : 0 ≤ n) (h₁ : n < 2 ^ 64) : IntKind.u64.wrap n = n := by rw [IntKind.wrap_u64]; omega
theorem and64 (a b : Nat) (ha : a < 18446744073709551616) (hb : b < 18446744073709551616) : bits .and .u64 (a : Int) (b : Int) = ((a &&& b : Nat) : Int) :=
 (bits_nat .u64 64 (by decide) wraps_u64 a b (by simpa using ha) (by simpa using hb)).1
theorem or64 (a b : Nat) (ha : a < 18446744073709551616) (hb : b < 18446744073709551616) : bits .or .u64 (a : Int) (b : Int) = ((a ||| b : Nat) : Int) :=
 (bits_nat .u64 64 (by decide) wraps_u64 a b (by simpa using ha) (by simpa using hb)).2
theorem mask26 (a : Nat) (ha : a < 18446744073709551616) : bits .and .u64 (a : Int) 67108863 = ((a % 67108864 : Nat) : Int) := by
 have := and64 a 67108863 ha (by decide)
 rw [show ((67108863 : Nat) : Int) = 67108863 from rfl] at this
 rw [this, show (67108863 : Nat) = 2 ^ 26 - 1 from rfl, Nat.and_two_pow_sub_one_eq_mod]
set_option maxRecDepth 100000 in
theorem carried_calls (l : List Nat) (w : World) (h : Lim 9223372036854775808 l) :
  Calls Try.prog 152 #[.agg (u64s l)] w fun e w' => e = .returned (.agg (u64s (car l))) ∧ Below w.heap.size w w' := by
 have hi : (Try.prog.info? 159).map (·.size) = some 5 := by kernel_rfl
 have HI := Aside0.mk hi
 have HL := Aside0.mk h
 clear hi h
 go_enter Try.func152, Try.ntmps152
 go_wp2_with (fail)
 have H : Aside0 (PN w [l, List.replicate 5 0] ((w.alloc (.cells (u64s l) 159)).alloc (.cells (u64s (List.replicate 5 0)) 159))) := ⟨((PN.nil w).push l).push _⟩
 go_loopw [3, 5] (fun c i wr => ∃ k : Nat, k ≤ 5 ∧ i = .int .i64 k ∧ c = .int .u64 ((carL l k).2 : Nat) ∧ Aside0 (PN w [(carL l k).1, List.replicate 5 0] wr)) (fun _ i _ => 5 - (intOf i).toNat)
 case atStart => exact ⟨0, by omega, rfl, rfl, H⟩
 case round =>
  clear H
  obtain ⟨k, hk, rfl, rfl, H⟩ := hrel
  by_cases hlt : k < 5
  ·obtain ⟨hx, hf⟩ := H.out.cell 0 k rfl (by rw [carL_length, HL.out.len]; exact hlt)
   have hs : carL l (k + 1) = cstep (carL l k) k := rfl
   unfold cstep at hs
   have hb := carL_lt HL.out k hlt
   generalize (carL l k).1.getD k 0 = x at hx hs hb
   generalize (carL l k).2 = c at hs hb ⊢
   generalize (carL l k).1 = m at hs H
   have hxc : (x : Int) + (c : Int) ≤ 18446744073709551615 := by omega
   have hm := mask26 (x + c) hb
   rw [show ((x + c : Nat) : Int) = (x : Int) + (c : Int) by omega] at hm
   have HS := Aside0.mk hs
   clear hs
   simp only [adr] at hx hf
   go_wp2
   have HN : PN w [(carL l (k + 1)).1, List.replicate 5 0] ((wr.setCell ⟨w.heap.size, k, none⟩ (.int .u64 ((x : Int) + (c : Int)))).setCell ⟨w.heap.size, k, none⟩ (.int .u64 (((x : Int) + (c : Int)) % 67108864))) := by rw [HS.out]; exact H.out.set2 0 k (x + c) ((x + c) % 67108864) rfl
   exact ⟨⟨k + 1, by omega, by go_num, by rw [HS.out]; go_num, ⟨HN⟩⟩, by simp [intOf]; omega⟩
  ·obtain rfl : k = 5 := by omega
   clear hlt hk
   obtain ⟨e1, e2, e3, e4⟩ := carL_end HL.out
   have hcar : car l = (((carL l 5).1.set 0 (((carL l 5).1.getD 0 0 + 5 * (carL l 5).2) % 67108864)).set 1 ((carL l 5).1.getD 1 0 + ((carL l 5).1.getD 0 0 + 5 * (carL l 5).2) / 67108864)) := rfl
   have hml : (carL l 5).1.length = 5 := by rw [carL_length, HL.out.len]
   have hcl : (car l).length = 5 := by rw [car_length, HL.out.len]
   obtain ⟨hx0, hf0⟩ := H.out.cell 0 0 rfl (by omega)
   obtain ⟨hx1, hf1⟩ := H.out.cell 0 1 rfl (by omega)
   generalize (carL l 5).1.getD 0 0 = x at *
   generalize (carL l 5).1.getD 1 0 = y at *
   generalize (carL l 5).2 = c at *
   generalize (carL l 5).1 = m at *
   generalize hr : car l = r at *
   have HRe := Aside0.mk hr
   clear hr
   have hm := mask26 (x + 5 * c) e1
   rw [show ((x + 5 * c : Nat) : Int) = (x : Int) + 5 * (c : Int) by omega] at hm
   have b1 : (x : Int) + 5 * (c : Int) ≤ 18446744073709551615 := by omega
   have b2 : 5 * (c : Int) ≤ 18446744073709551615 := by omega
   have b3 : (y : Int) + ((x : Int) + 5 * (c : Int)) / 67108864 ≤ 18446744073709551615 := by omega
   have HC := Aside0.mk hcar
   have HML := Aside0.mk hml
   have HCL := Aside0.mk hcl
   clear hcar hml hcl
   simp only [adr] at hx0 hf0 hx1 hf1
   rw [show ((5 : Nat) : Int) = 5 from rfl]
   have HN : PN w [r, List.replicate 5 0] (((wr.setCell ⟨w.heap.size, 0, none⟩ (.int .u64 ((x : Int) + 5 * (c : Int)))).setCell ⟨w.heap.size, 0, none⟩ (.int .u64 (((x : Int) + 5 * (c : Int)) % 67108864))).setCell ⟨w.heap.size, 1, none⟩ (.int .u64 ((y : Int) + ((x : Int) + 5 * (c : Int)) / 67108864))) := by
    rw [HC.out]
    exact (H.out.set2 0 0 (x + 5 * c) ((x + 5 * c) % 67108864) rfl).set 0 1 (y + (x + 5 * c) / 67108864) rfl
   have HN := Aside0.mk HN
   go_upto_region 13 with (fail)
   generalize ((wr.setCell ⟨w.heap.size, 0, none⟩ (.int .u64 ((x : Int) + 5 * (c : Int)))).setCell ⟨w.heap.size, 0, none⟩ (.int .u64 (((x : Int) + 5 * (c : Int)) % 67108864))).setCell ⟨w.heap.size, 1, none⟩ (.int .u64 ((y : Int) + ((x : Int) + 5 * (c : Int)) / 67108864)) = w2 at HN ⊢
   have hrow : w2.heap[w.heap.size]? = _ := HN.out.rows 0 r rfl
   have hout : w2.heap[w.heap.size + 1]? = _ := HN.out.rows 1 _ rfl
   have hsz : (Try.prog.info? 159).map (·.size) = some (u64s r).size := by rw [u64s_size, HCL.out]; exact HI.out
   have hsz2 : (u64s (List.replicate 5 0)).size = (u64s r).size := by rw [u64s_size, u64s_size, HCL.out]; rfl
   have HROW := Aside0.mk hrow
   have HOUT := Aside0.mk hout
   have HSZ := Aside0.mk hsz
   have HSZ2 := Aside0.mk hsz2
   clear hrow hout hsz hsz2 hm b1 b2 b3 hx0 hx1 hf0 hf1
   go_wp2_with (first | (with_reducible refine wpList_load_row rfl 159 (.tmp 1) rfl w.heap.size rfl 159 (u64s r) (0, 0) _ HROW.out Try.underlying159 rfl HSZ.out ?_) | (refine wpList_store_row rfl 159 (.tmp 2) (.tmp 42) rfl (w.heap.size + 1) (u64s r) rfl rfl 159 _ HOUT.out HSZ.out HSZ2.out (u64s_one _) ?_))
   exact bodyPost_ret (results_cell_row Try.results152 _ _ (w.heap.size + 1) 159 (u64s r) (0, 0) _ rfl (setRow_heap _ _ _ _ _ _ HOUT.out) Try.underlying159 rfl HSZ.out) rfl ⟨by rw [HRe.out], below_setRow HN.out.below (by omega) _⟩
theorem addT_set (l m : List Nat) (k : Nat) (hl : l.length = 5) (hk : k < 5) : (addT l m k).set k (l.getD k 0 + m.getD k 0) = addT l m (k + 1) := by
 apply List.ext_getElem
 ·simp [addT]
 ·intro j h1 h2
  rw [List.getElem_set]
  simp only [addT, List.getElem_map, List.getElem_range]
  by_cases e : k = j
  ·subst e; rw [if_pos rfl, if_pos (by omega)]
  ·rw [if_neg e]
   by_cases h : j < k
   ·rw [if_pos h, if_pos (by omega)]
   ·rw [if_neg h, if_neg (by omega)]
theorem addT_length (l m : List Nat) (k : Nat) : (addT l m k).length = 5 := by simp [addT]
theorem addT_zero (l m : List Nat) (hl : l.length = 5) : addT l m 0 = l := by
 obtain ⟨a, b, c, d, e, rfl⟩ := five hl
 rfl
theorem addT_get (l m : List Nat) (k : Nat) (hk : k < 5) : (addT l m k).getD k 0 = l.getD k 0 := by
 simp [addT, List.getD_eq_getElem?_getD, hk]
set_option maxRecDepth 100000 in
theorem number_add_calls (l m : List Nat) (w : World) (hl : Lim 9223372036854775808 l) (hm : Lim 9223372036854775808 m) :
  Calls Try.prog 132 #[.agg (u64s l), .agg (u64s m)] w fun e w' => e = .returned (.agg (u64s (addL l m))) ∧ Below w.heap.size w w' := by
 have hi : (Try.prog.info? 159).map (·.size) = some 5 := by kernel_rfl
 have HI := Aside0.mk hi
 have HL := Aside0.mk hl
 have HM := Aside0.mk hm
 clear hi hl hm
 go_enter Try.func132, Try.ntmps132
 go_wp2_with (fail)
 have H : Aside0 (PN w [addT l m 0, m, List.replicate 5 0] (((w.alloc (.cells (u64s l) 159)).alloc (.cells (u64s m) 159)).alloc (.cells (u64s (List.replicate 5 0)) 159))) := ⟨by rw [addT_zero l m HL.out.len]; exact (((PN.nil w).push l).push m).push _⟩
 go_loopw [6] (fun i wr => ∃ k : Nat, k ≤ 5 ∧ i = .int .i64 k ∧ Aside0 (PN w [addT l m k, m, List.replicate 5 0] wr)) (fun i _ => 5 - (intOf i).toNat)
 case atStart => exact ⟨0, by omega, rfl, H⟩
 case round =>
  clear H
  obtain ⟨k, hk, rfl, H⟩ := hrel
  by_cases hlt : k < 5
  ·obtain ⟨hx, hf⟩ := H.out.cell 0 k rfl (by rw [addT_length]; exact hlt)
   obtain ⟨hy, hfy⟩ := H.out.cell 1 k rfl (by rw [HM.out.len]; exact hlt)
   rw [addT_get l m k hlt] at hx
   have hn := addT_set l m k HL.out.len hlt
   have bx := HL.out.lt k
   have by_ := HM.out.lt k
   generalize l.getD k 0 = x at hx hn bx
   generalize m.getD k 0 = y at hy hn by_
   have HN := Aside0.mk hn
   have hxy : (x : Int) + (y : Int) ≤ 18446744073709551615 := by omega
   have q5 : (k : Int) < 5 := by omega
   clear hn bx by_ hfy
   simp only [adr] at hx hf hy
   go_wp2_with (fail)
   refine wp_still_tail 8 (by kernel_rfl) (by kernel_rfl) ?_
   intro W hW
   have g1 : W.cell? ⟨w.heap.size, k, none⟩ = some (.int .u64 (x : Int)) := by rw [hW]; exact hx
   have g2 : W.cell? ⟨w.heap.size + 1, k, none⟩ = some (.int .u64 (y : Int)) := by rw [hW]; exact hy
   have gf : W.frozen? ⟨w.heap.size, k, none⟩ = false := by rw [hW]; exact hf
   have HW : Aside0 (PN w [addT l m k, m, List.replicate 5 0] W) := ⟨by rw [hW]; exact H.out.drew⟩
   clear hW hx hy hf H
   simp only [List.take_succ_cons, List.take_zero, List.drop_succ_cons, List.drop_zero]
   repeat still_step
   refine wpStill_nil ?_
   go_wp2
   refine ⟨⟨k + 1, by omega, by go_num, ?_⟩, by simp [intOf]; omega⟩
   rw [← HN.out]
   exact ⟨HW.out.set 0 k (x + y) rfl⟩
  ·obtain rfl : k = 5 := by omega
   clear hlt hk
   rw [show ((5 : Nat) : Int) = 5 from rfl]
   have HCL := Aside0.mk (addT_length l m 5)
   have HRe : Aside0 (addL l m = addT l m 5) := ⟨rfl⟩
   generalize addT l m 5 = r at *
   go_upto_region 6 with (fail)
   have hrow := H.out.rows 0 r rfl
   have hout := H.out.rows 2 _ rfl
   simp only [adr] at hrow hout
   have hsz : (Try.prog.info? 159).map (·.size) = some (u64s r).size := by rw [u64s_size, HCL.out]; exact HI.out
   have hsz2 : (u64s (List.replicate 5 0)).size = (u64s r).size := by rw [u64s_size, u64s_size, HCL.out]; rfl
   have HROW := Aside0.mk hrow
   have HOUT := Aside0.mk hout
   have HSZ := Aside0.mk hsz
   have HSZ2 := Aside0.mk hsz2
   clear hrow hout hsz hsz2
   go_wp2_with (first | (with_reducible refine wpList_load_row rfl 159 (.tmp 2) rfl (w.heap.size) rfl 159 (u64s r) (0, 0) _ HROW.out Try.underlying159 rfl HSZ.out ?_) | (refine wpList_store_row rfl 159 (.tmp 4) (.tmp 18) rfl (w.heap.size + 1 + 1) (u64s r) rfl rfl 159 _ HOUT.out HSZ.out HSZ2.out (u64s_one _) ?_))
   exact bodyPost_ret (results_cell_row Try.results132 _ _ (w.heap.size + 1 + 1) 159 (u64s r) (0, 0) _ rfl (setRow_heap _ _ _ _ _ _ HOUT.out) Try.underlying159 rfl HSZ.out) rfl ⟨by rw [HRe.out], below_setRow H.out.below (by omega) _⟩
def mulS (n m : List Nat) (k i : Nat) : List Nat := (List.range 5).map fun q => if q < k then mulT n m q 5 else if q = k then mulT n m k i else 0
theorem mulS_length (n m : List Nat) (k i : Nat) : (mulS n m k i).length = 5 := by simp [mulS]
theorem mulS_get (n m : List Nat) (k i : Nat) (hk : k < 5) : (mulS n m k i).getD k 0 = mulT n m k i := by
 simp [mulS, List.getD_eq_getElem?_getD, hk]
theorem mulS_set (n m : List Nat) (k i : Nat) (hk : k < 5) : (mulS n m k i).set k (mulT n m k (i + 1)) = mulS n m k (i + 1) := by
 apply List.ext_getElem
 ·simp [mulS]
 ·intro j h1 h2
  rw [List.getElem_set]
  simp only [mulS, List.getElem_map, List.getElem_range]
  by_cases e : k = j
  ·subst e; rw [if_pos rfl, if_neg (by omega), if_pos rfl]
  ·rw [if_neg e]
   by_cases h : j < k
   ·rw [if_pos h, if_pos h]
   ·rw [if_neg h, if_neg (by omega), if_neg h, if_neg (by omega)]
theorem mulS_next (n m : List Nat) (k : Nat) : mulS n m k 5 = mulS n m (k + 1) 0 := by
 unfold mulS
 apply List.map_congr_left
 intro q _
 by_cases h : q < k
 ·rw [if_pos h, if_pos (by omega)]
 ·rw [if_neg h]
  by_cases e : q = k
  ·subst e; rw [if_pos rfl, if_pos (by omega)]
  ·rw [if_neg e, if_neg (by omega)]; simp [mulT]
theorem mulS_zero (n m : List Nat) : mulS n m 0 0 = List.replicate 5 0 := rfl
theorem mulS_all (n m : List Nat) : mulS n m 5 0 = mulL n m := by
 unfold mulS mulL
 apply List.map_congr_left
 intro q hq
 rw [List.mem_range] at hq
 rw [if_pos hq]
set_option maxRecDepth 100000 in
theorem number_times_calls (n m : List Nat) (w : World) (hn : Lim 268435456 n) (hm : Lim 67108864 m) :
  Calls Try.prog 133 #[.agg (u64s n), .agg (u64s m)] w fun e w' => e = .returned (.agg (u64s (car (mulL n m)))) ∧ Below w.heap.size w w' := by
 have hi : (Try.prog.info? 159).map (·.size) = some 5 := by kernel_rfl
 have HI := Aside0.mk hi
 have HN := Aside0.mk hn
 have HM := Aside0.mk hm
 clear hi hn hm
 go_enter Try.func133, Try.ntmps133
 go_wp2_with (fail)
 have H : Aside0 (PN w [n, m, List.replicate 5 0, mulS n m 0 0] ((((w.alloc (.cells (u64s n) 159)).alloc (.cells (u64s m) 159)).alloc (.cells (u64s (List.replicate 5 0)) 159)).alloc (.cells (u64s (List.replicate 5 0)) 159))) := ⟨by rw [mulS_zero]; exact ((((PN.nil w).push n).push m).push _).push _⟩
 go_loopw [10] (fun i wr => ∃ k : Nat, k ≤ 5 ∧ i = .int .i64 k ∧ Aside0 (PN w [n, m, List.replicate 5 0, mulS n m k 0] wr)) (fun i _ => 5 - (intOf i).toNat)
 case atStart => exact ⟨0, by omega, rfl, H⟩
 case round =>
  clear H
  obtain ⟨k, hk, rfl, H⟩ := hrel
  by_cases hlt : k < 5
  ·have q5 : (k : Int) < 5 := by omega
   go_wp2_with (fail)
   go_loopw [13] (fun i wr => ∃ k' : Nat, k' ≤ 5 ∧ i = .int .i64 k' ∧ Aside0 (PN w [n, m, List.replicate 5 0, mulS n m k k'] wr)) (fun i _ => 5 - (intOf i).toNat)
   case atStart => exact ⟨0, by omega, rfl, H⟩
   case round =>
    clear H
    obtain ⟨i, hi, rfl, H⟩ := hrel
    by_cases hli : i < 5
    ·obtain ⟨hx, hfx⟩ := H.out.cell 0 i rfl (by rw [HN.out.len]; exact hli)
     obtain ⟨hs, hfs⟩ := H.out.cell 3 k rfl (by rw [mulS_length]; exact hlt)
     rw [mulS_get n m k i hlt] at hs
     have hset := mulS_set n m k i hlt
     have bs := mulT_lt HN.out HM.out k i
     have bx := HN.out.lt i
     have r5 : (i : Int) < 5 := by omega
     have hT : mulT n m k (i + 1) = mulT n m k i + if i ≤ k then n.getD i 0 * m.getD (k - i) 0 else 5 * n.getD i 0 * m.getD (k + 5 - i) 0 := rfl
     clear hfx
     by_cases hik : i ≤ k
     ·obtain ⟨hz, hfz⟩ := H.out.cell 1 (k - i) rfl (by rw [HM.out.len]; omega)
      have bz := HM.out.lt (k - i)
      rw [if_pos hik] at hT
      generalize n.getD i 0 = x at hx hT bx
      generalize m.getD (k - i) 0 = z at hz hT bz
      have bxz : x * z ≤ 18014398509481984 := by
       have := Nat.mul_le_mul (Nat.le_of_lt bx) (Nat.le_of_lt bz)
       simpa using this
      rw [hT] at hset
      generalize mulT n m k i = s at hs hset bs
      have HSET := Aside0.mk hset
      have b1 : (x : Int) * (z : Int) ≤ 18446744073709551615 := by
       have : ((x * z : Nat) : Int) ≤ 18014398509481984 := by omega
       rw [Int.natCast_mul] at this; omega
      have b2 : (s : Int) + (x : Int) * (z : Int) ≤ 18446744073709551615 := by
       have : ((x * z : Nat) : Int) ≤ 18014398509481984 := by omega
       rw [Int.natCast_mul] at this; omega
      have b3 : 0 ≤ (x : Int) * (z : Int) := Int.mul_nonneg (by omega) (by omega)
      have t1 : decide (0 ≤ (k : Int) - (i : Int)) = true := decide_eq_true (by omega)
      have t2 : decide ((i : Int) ≤ (k : Int)) = true := decide_eq_true (by omega)
      have t3 : decide (i ≤ k) = true := decide_eq_true hik
      have n1 : ((k : Int) - (i : Int)).toNat = k - i := by omega
      have n2 : (k : Int) - (i : Int) < 5 := by omega
      have e1 : IntKind.u64.wrap ((x : Int) * (z : Int)) = (x : Int) * (z : Int) := wraps_u64 _ b3 (by omega)
      have e2 : IntKind.u64.wrap ((s : Int) + (x : Int) * (z : Int)) = (s : Int) + (x : Int) * (z : Int) := wraps_u64 _ (by omega) (by omega)
      clear hset hT bxz bs bx bz hfz
      simp only [adr] at hx hs hz hfs
      go_wp2_with (fail)
      refine wp_still_tail 10 (by kernel_rfl) (by kernel_rfl) ?_
      intro W hW
      have g2 : W.cell? ⟨w.heap.size + 1, k - i, none⟩ = some (.int .u64 (z : Int)) := by rw [hW]; exact hz
      have g3 : W.cell? ⟨w.heap.size + 1 + 1 + 1, k, none⟩ = some (.int .u64 (s : Int)) := by rw [hW]; exact hs
      have gf : W.frozen? ⟨w.heap.size + 1 + 1 + 1, k, none⟩ = false := by rw [hW]; exact hfs
      have HW : Aside0 (PN w [n, m, List.replicate 5 0, mulS n m k i] W) := ⟨by rw [hW]; exact H.out.drew⟩
      clear hW hx hz hs hfs H
      simp only [List.take_succ_cons, List.take_zero, List.drop_succ_cons, List.drop_zero]
      repeat still_step
      refine wpStill_nil ?_
      go_wp2
      refine ⟨⟨i + 1, by omega, by go_num, ?_⟩, by simp [intOf]; omega⟩
      rw [← HSET.out]
      exact ⟨HW.out.set 3 k (s + x * z) rfl⟩
     ·obtain ⟨hz, hfz⟩ := H.out.cell 1 (k + 5 - i) rfl (by rw [HM.out.len]; omega)
      have bz := HM.out.lt (k + 5 - i)
      rw [if_neg hik] at hT
      generalize n.getD i 0 = x at hx hT bx
      generalize m.getD (k + 5 - i) 0 = z at hz hT bz
      have bxz : x * z ≤ 18014398509481984 := by
       have := Nat.mul_le_mul (Nat.le_of_lt bx) (Nat.le_of_lt bz)
       simpa using this
      rw [hT] at hset
      generalize mulT n m k i = s at hs hset bs
      have HSET := Aside0.mk hset
      have b0 : 5 * (x : Int) ≤ 18446744073709551615 := by omega
      have b1 : 5 * (x : Int) * (z : Int) ≤ 18446744073709551615 := by
       have : ((x * z : Nat) : Int) ≤ 18014398509481984 := by omega
       rw [Int.natCast_mul] at this; rw [Int.mul_assoc]; omega
      have b2 : (s : Int) + 5 * (x : Int) * (z : Int) ≤ 18446744073709551615 := by
       have : ((x * z : Nat) : Int) ≤ 18014398509481984 := by omega
       rw [Int.natCast_mul] at this; rw [Int.mul_assoc]; omega
      have b3 : 0 ≤ 5 * (x : Int) * (z : Int) := Int.mul_nonneg (by omega) (by omega)
      have t1 : decide (0 ≤ (k : Int) - (i : Int)) = false := decide_eq_false (by omega)
      have t2 : decide ((i : Int) ≤ (k : Int)) = false := decide_eq_false (by omega)
      have t3 : decide (i ≤ k) = false := decide_eq_false hik
      have n1 : ((k : Int) - (i : Int) + 5).toNat = k + 5 - i := by omega
      have n2 : (k : Int) - (i : Int) + 5 < 5 := by omega
      have n3 : 0 ≤ (k : Int) - (i : Int) + 5 := by omega
      have n4 : IntKind.i64.wrap ((k : Int) - (i : Int) + 5) = (k : Int) - (i : Int) + 5 := IntWalk.i64_in _ (by omega)
      have e0 : IntKind.u64.wrap (5 * (x : Int)) = 5 * (x : Int) := wraps_u64 _ (by omega) (by omega)
      have e1 : IntKind.u64.wrap (5 * (x : Int) * (z : Int)) = 5 * (x : Int) * (z : Int) := wraps_u64 _ b3 (by omega)
      have e2 : IntKind.u64.wrap ((s : Int) + 5 * (x : Int) * (z : Int)) = (s : Int) + 5 * (x : Int) * (z : Int) := wraps_u64 _ (by omega) (by omega)
      clear hset hT bxz bs bx bz hfz
      simp only [adr] at hx hs hz hfs
      go_wp2_with (fail)
      refine wp_still_tail 12 (by kernel_rfl) (by kernel_rfl) ?_
      intro W hW
      have g2 : W.cell? ⟨w.heap.size + 1, k + 5 - i, none⟩ = some (.int .u64 (z : Int)) := by rw [hW]; exact hz
      have g3 : W.cell? ⟨w.heap.size + 1 + 1 + 1, k, none⟩ = some (.int .u64 (s : Int)) := by rw [hW]; exact hs
      have gf : W.frozen? ⟨w.heap.size + 1 + 1 + 1, k, none⟩ = false := by rw [hW]; exact hfs
      have HW : Aside0 (PN w [n, m, List.replicate 5 0, mulS n m k i] W) := ⟨by rw [hW]; exact H.out.drew⟩
      clear hW hx hz hs hfs H
      simp only [List.take_succ_cons, List.take_zero, List.drop_succ_cons, List.drop_zero]
      repeat still_step
      refine wpStill_nil ?_
      go_wp2
      refine ⟨⟨i + 1, by omega, by go_num, ?_⟩, by simp [intOf]; omega⟩
      rw [← HSET.out]
      exact ⟨HW.out.set 3 k (s + 5 * x * z) rfl⟩
    ·obtain rfl : i = 5 := by omega
     clear hli hi
     rw [show ((5 : Nat) : Int) = 5 from rfl]
     go_wp2
     refine ⟨⟨k + 1, by omega, by go_num, ?_⟩, by simp [intOf]; omega⟩
     rw [← mulS_next]
     exact H
  ·obtain rfl : k = 5 := by omega
   clear hlt hk
   rw [show ((5 : Nat) : Int) = 5 from rfl]
   have hP := H.out
   rw [mulS_all] at hP
   have HLM := Aside0.mk (mulL_lim HN.out HM.out)
   have hPl : (mulL n m).length = 5 := by simp [mulL]
   have hCl : (car (mulL n m)).length = 5 := by rw [car_length]; exact hPl
   generalize hP0 : mulL n m = P at *
   have HRe := Aside0.mk hP0
   clear hP0
   have HP := Aside0.mk hP
   have HPl := Aside0.mk hPl
   have HC := Aside0.mk (fun W => carried_calls P W HLM.out)
   have hrow := HP.out.rows 3 P rfl
   simp only [adr] at hrow
   have hszp : (Try.prog.info? 159).map (·.size) = some (u64s P).size := by rw [u64s_size, HPl.out]; exact HI.out
   have HROWP := Aside0.mk hrow
   have HSZP := Aside0.mk hszp
   have HCL := Aside0.mk hCl
   clear hP hPl hrow hszp hCl
   go_upto_region 15 with (fail)
   go_wp2_with (first | (with_reducible refine wpList_load_row rfl 159 (.tmp 5) rfl (w.heap.size + 1 + 1 + 1) rfl 159 (u64s P) (0, 0) _ HROWP.out Try.underlying159 rfl HSZP.out ?_))
   refine (HC.out _).mono ?_
   rintro e w3 ⟨rfl, hb⟩
   have hout := blk_below (HP.out.rows 2 _ rfl) hb
   simp only [adr] at hout
   have HBE := Aside0.mk (below_then HP.out.below HP.out.below.size hb)
   have hsz : (Try.prog.info? 159).map (·.size) = some (u64s (car P)).size := by rw [u64s_size, HCL.out]; exact HI.out
   have hsz2 : (u64s (List.replicate 5 0)).size = (u64s (car P)).size := by rw [u64s_size, u64s_size, HCL.out]; rfl
   have HOUT := Aside0.mk hout
   have HSZ := Aside0.mk hsz
   have HSZ2 := Aside0.mk hsz2
   clear hout hsz hsz2 hb
   generalize hr : car P = r at *
   have HRr := Aside0.mk hr
   clear hr
   go_wp2_with (refine wpList_store_row rfl 159 (.tmp 4) (.tmp 49) rfl (w.heap.size + 1 + 1) (u64s r) rfl rfl 159 _ HOUT.out HSZ.out HSZ2.out (u64s_one _) ?_)
   exact bodyPost_ret (results_cell_row Try.results133 _ _ (w.heap.size + 1 + 1) 159 (u64s r) (0, 0) _ rfl (setRow_heap _ _ _ _ _ _ HOUT.out) Try.underlying159 rfl HSZ.out) rfl ⟨by rw [HRe.out, HRr.out], below_setRow HBE.out (by omega) _⟩
structure WN (w : World) (l : List Nat) (W : World) : Prop where
 below : Below w.heap.size w W
 row : W.heap[w.heap.size]? = some (.cells (u64s l) 159 (0, 0))
 ret : W.heap[w.heap.size + 1]? = some (.cells (u64s (List.replicate 5 0)) 159 (0, 0))
theorem WN.then_ {w W W' : World} {l : List Nat} (h : WN w l W) (hb : Below W.heap.size W W') : WN w l W' := ⟨below_then h.below h.below.size hb, blk_below h.row hb, blk_below h.ret hb⟩
theorem WN.put {w W : World} {l : List Nat} (h : WN w l W) (l' : List Nat) : WN w l' (W.setRow w.heap.size (u64s l')) :=
 ⟨below_setRow h.below (Nat.le_refl _) _, setRow_heap _ _ _ _ _ _ h.row, by rw [setRow_other _ _ _ _ (by omega)]; exact h.ret⟩
structure WM (w : World) (g : Nat) (l m : List Nat) (W : World) : Prop where
 n : WN w l W
 gt : w.heap.size + 1 < g
 row : W.heap[g]? = some (.cells (u64s m) 159 (0, 0))
theorem WM.set {w W : World} {g : Nat} {l m : List Nat} (h : WM w g l m W) (k v : Nat) : WM w g l (m.set k v) (W.setCell ⟨g, k, none⟩ (.int .u64 (v : Int))) := by
 have hg := h.gt
 exact ⟨⟨below_set h.n.below (by omega), blk_far h.n.row (by simp; omega) _, blk_far h.n.ret (by simp; omega) _⟩, hg, blk_put h.row k _ (u64s_set m k v)⟩
theorem WM.cell {w W : World} {g : Nat} {l m : List Nat} (h : WM w g l m W) (k : Nat) (hk : k < m.length) : W.cell? ⟨g, k, none⟩ = some (.int .u64 (m.getD k 0 : Nat)) ∧ W.frozen? ⟨g, k, none⟩ = false :=
 ⟨(blk_cell h.row k).trans (u64s_get m k hk), blk_frozen h.row k⟩
theorem WM.drew {w W : World} {g : Nat} {l m : List Nat} (h : WM w g l m W) : WM w g l m W.drew := ⟨⟨below_drew h.n.below, h.n.row, h.n.ret⟩, h.gt, h.row⟩
theorem moreT_length (l : List Nat) : ∀ k, (moreT l k).length = l.length
 | 0 => by simp [moreT]
 | k + 1 => by simp [moreT, moreT_length l k]
theorem more_lt {l : List Nat} (h : Lim 67108864 l) : ∀ k, k < 4 → (moreT l k).getD k 0 < 134217728 ∧ (moreT l k).getD (k + 1) 0 < 67108864 := by
 obtain ⟨a, b, c, d, e, rfl, h0, h1, h2, h3, h4⟩ := h.of5
 intro k hk
 match k, hk with
 | 0, _ => exact ⟨show a + 5 < _ by omega, h1⟩
 | 1, _ => exact ⟨show b + (a + 5) / 67108864 < _ by omega, h2⟩
 | 2, _ => exact ⟨show c + (b + (a + 5) / 67108864) / 67108864 < _ by omega, h3⟩
 | 3, _ => exact ⟨show d + (c + (b + (a + 5) / 67108864) / 67108864) / 67108864 < _ by omega, h4⟩
theorem more_top {l : List Nat} (h : Lim 67108864 l) : (moreT l 4).getD 4 0 < 134217728 := by
 obtain ⟨a, b, c, d, e, rfl, h0, h1, h2, h3, h4⟩ := h.of5
 show e + (d + (c + (b + (a + 5) / 67108864) / 67108864) / 67108864) / 67108864 < _
 omega
theorem car2_lim {l : List Nat} (h : Lim 134217728 l) (hn : ¬ (car l).getD 1 0 < 67108864) : (car (car l)).getD 1 0 < 67108864 := by
 have := (norm_lim h).lt 1
 unfold norm at this
 rwa [if_neg hn] at this
def topOf (g : Nat) (W : World) : Nat := match W.cell? ⟨g, 1, none⟩ with
 | some (.int _ v) => v.toNat
 | _ => 0
theorem topOf_eq {w W : World} {l : List Nat} (h : WN w l W) (hl : l.length = 5) : topOf w.heap.size W = l.getD 1 0 := by
 unfold topOf
 rw [(blk_cell h.row 1).trans (u64s_get l 1 (by omega))]
 simp
set_option maxRecDepth 100000 in
theorem number_whole_calls (l : List Nat) (w : World) (h : Lim 134217728 l) :
  Calls Try.prog 134 #[.agg (u64s l)] w fun e w' => e = .returned (.agg (u64s (whole l))) ∧ Below w.heap.size w w' := by
 have hi : ∀ m : List Nat, m.length = 5 → (Try.prog.info? 159).map (·.size) = some (u64s m).size := by intro m hm; rw [u64s_size, hm]; kernel_rfl
 have HI := Aside0.mk hi
 have HL := Aside0.mk h
 have HLl := Aside0.mk h.len
 have HCl := Aside0.mk (show (car l).length = 5 by rw [car_length]; exact h.len)
 have HCCl := Aside0.mk (show (car (car l)).length = 5 by rw [car_length, car_length]; exact h.len)
 have HC1 := Aside0.mk (fun W => carried_calls l W (h.mono (by decide)))
 have HC2 := Aside0.mk (fun W => carried_calls (car l) W ((car_lim (h.mono (by decide))).mono (by decide)))
 clear hi h
 go_enter Try.func134, Try.ntmps134
 go_upto_region 1 with (fail)
 have H : Aside0 (WN w l ((w.alloc (.cells (u64s l) 159)).alloc (.cells (u64s (List.replicate 5 0)) 159))) := ⟨⟨below_alloc (below_alloc (Below.refl _ _) _) _, blk_alloc (blk_new _ _) _, by
  have := blk_new (w.alloc (.cells (u64s l) 159)) (.cells (u64s (List.replicate 5 0)) 159)
  rwa [show (w.alloc (.cells (u64s l) 159)).heap.size = w.heap.size + 1 by simp] at this⟩⟩
 have e5 : #[Value.int IntKind.u64 0, Value.int IntKind.u64 0, Value.int IntKind.u64 0, Value.int IntKind.u64 0, Value.int IntKind.u64 0] = u64s (List.replicate 5 0) := rfl
 rw [e5]
 clear e5
 generalize (w.alloc (.cells (u64s l) 159)).alloc (.cells (u64s (List.replicate 5 0)) 159) = W0 at H ⊢
 go_wp2_with (with_reducible refine wpList_load_row rfl 159 (.tmp 1) rfl w.heap.size rfl 159 (u64s l) (0, 0) _ H.out.row Try.underlying159 rfl (HI.out l HLl.out) ?_)
 refine (HC1.out _).mono ?_
 rintro e w3 ⟨rfl, hb⟩
 have H := Aside0.mk (H.out.then_ hb)
 clear hb
 go_wp2_with (refine wpList_store_row rfl 159 (.tmp 1) (.tmp 6) rfl w.heap.size (u64s (car l)) rfl rfl 159 _ H.out.row (HI.out (car l) HCl.out) (by rw [u64s_size, u64s_size, HLl.out, HCl.out]) (u64s_one _) ?_)
 have H := Aside0.mk (H.out.put (car l))
 generalize w3.setRow w.heap.size (u64s (car l)) = W0 at H ⊢
 simp only [Act.put, List.setIfInBounds_toArray, List.set_cons_zero, List.set_cons_succ]
 go_loopw [] (fun wr => ∃ l', (l' = car l ∨ (l' = car (car l) ∧ ¬ (car l).getD 1 0 < 67108864)) ∧ Aside0 (WN w l' wr)) (fun wr => topOf w.heap.size wr)
 case atStart => exact ⟨car l, Or.inl rfl, H⟩
 case round =>
  clear H
  obtain ⟨l', hl', H⟩ := hrel
  have hll : l'.length = 5 := by
   rcases hl' with h | h
   ·rw [h]; exact HCl.out
   ·rw [h.1]; exact HCCl.out
  have HLL := Aside0.mk hll
  have HOR := Aside0.mk hl'
  have hc := (blk_cell H.out.row 1).trans (u64s_get l' 1 (by omega))
  have htop := topOf_eq H.out hll
  clear hll hl'
  by_cases hlt : l'.getD 1 0 < 67108864
  ·have HN : Aside0 (norm l = l') := ⟨by
    unfold norm
    rcases HOR.out with h | h
    ·rw [← h, if_pos hlt]
    ·rw [if_neg h.2, h.1]⟩
   generalize l'.getD 1 0 = y at hc hlt
   have t1 : decide (0 < (y : Int) / 67108864) = false := decide_eq_false (by omega)
   have t2 : decide (0 < y / 67108864) = false := decide_eq_false (by omega)
   clear htop
   go_upto_region 4 with (fail)
   have HLN := Aside0.mk (HN.out ▸ norm_lim HL.out)
   have HW : Aside0 (whole l = if (moreT l' 4).getD 4 0 / 67108864 = 0 then l' else (moreT l' 4).set 4 ((moreT l' 4).getD 4 0 % 67108864)) := ⟨by unfold whole; rw [HN.out]⟩
   have hc0 := (blk_cell H.out.row 0).trans (u64s_get l' 0 (by rw [HLL.out]; omega))
   have hm0 : moreT l' 0 = l'.set 0 (l'.getD 0 0 + 5) := rfl
   have hz0 := HLN.out.lt 0
   generalize hzz : l'.getD 0 0 = z at hc0 hm0 hz0
   have HZ := Aside0.mk hzz
   clear hzz
   have hz : (z : Int) + 5 ≤ 18446744073709551615 := by omega
   have HM0 := Aside0.mk hm0
   have hgt := blk_lt H.out.ret
   have HQ : Aside0 (WM w wr.heap.size l' l' (wr.alloc (.cells (u64s l') 159))) := ⟨⟨⟨below_alloc H.out.below _, blk_alloc H.out.row _, blk_alloc H.out.ret _⟩, hgt, blk_new _ _⟩⟩
   clear t1 t2 hc hlt hm0 hz0 hgt HN HOR hc0
   go_upto_region 5 with (first | (with_reducible refine wpList_load_row rfl 159 (.tmp 1) rfl w.heap.size rfl 159 (u64s l') (0, 0) _ H.out.row Try.underlying159 rfl (HI.out l' HLL.out) ?_) | (refine wpList_store_row rfl 159 (.tmp 3) (.tmp 13) rfl wr.heap.size (u64s l') rfl rfl 159 _ (heap_alloc_last _ _) (HI.out l' HLL.out) (by rw [u64s_size, HLL.out]; rfl) (u64s_one _) ?_; rw [World.setRow_alloc_new]))
   simp only [Act.put, List.setIfInBounds_toArray, List.set_cons_zero, List.set_cons_succ]
   obtain ⟨hk0, hf0⟩ := HQ.out.cell 0 (by rw [HLL.out]; omega)
   have hz0 : l'.getD 0 0 = z := HZ.out
   rw [hz0] at hk0
   clear hz0
   have HQ1 : Aside0 (WM w wr.heap.size l' (moreT l' 0) ((wr.alloc (.cells (u64s l') 159)).setCell ⟨wr.heap.size, 0, none⟩ (.int .u64 ((z : Int) + 5)))) := ⟨by rw [HM0.out]; exact HQ.out.set 0 (z + 5)⟩
   generalize wr.alloc (.cells (u64s l') 159) = W1 at HQ HQ1 hk0 hf0 ⊢
   generalize wr.heap.size = g at HQ HQ1 hk0 hf0 ⊢
   go_wp2_with (fail)
   clear hk0 hf0 HQ hz
   go_loopw [18] (fun i wr => ∃ k : Nat, k ≤ 4 ∧ i = .int .i64 k ∧ Aside0 (WM w g l' (moreT l' k) wr)) (fun i _ => 4 - (intOf i).toNat)
   case atStart => exact ⟨0, by omega, rfl, HQ1⟩
   case round =>
    clear HQ1 H
    obtain ⟨k, hk, rfl, H⟩ := hrel
    by_cases hlt : k < 4
    ·obtain ⟨bx, by_⟩ := more_lt HLN.out k hlt
     have hml : (moreT l' k).length = 5 := by rw [moreT_length, HLL.out]
     obtain ⟨hx, hfx⟩ := H.out.cell k (by omega)
     obtain ⟨hy, hfy⟩ := H.out.cell (k + 1) (by omega)
     have hs : moreT l' (k + 1) = ((moreT l' k).set (k + 1) ((moreT l' k).getD (k + 1) 0 + (moreT l' k).getD k 0 / 67108864)).set k ((moreT l' k).getD k 0 % 67108864) := rfl
     generalize (moreT l' k).getD k 0 = x at hx hs bx
     generalize (moreT l' k).getD (k + 1) 0 = y at hy hs by_
     have HS := Aside0.mk hs
     have i5 : (k : Int) < 5 := by omega
     clear hs hml
     go_wp2_with (fail)
     have hm := mask26 x (by omega)
     have b1 : (y : Int) + (x : Int) / 67108864 ≤ 18446744073709551615 := by omega
     have e1 : IntKind.u64.wrap ((y : Int) + (x : Int) / 67108864) = (y : Int) + (x : Int) / 67108864 := wraps_u64 _ (by omega) (by omega)
     have i1 : IntKind.i64.wrap ((k : Int) + 1) = (k : Int) + 1 := IntWalk.i64_in _ (by omega)
     have i2 : ((k : Int) + 1).toNat = k + 1 := by omega
     have i3 : 0 ≤ (k : Int) + 1 := by omega
     have i4 : (k : Int) + 1 < 5 := by omega
     clear bx by_
     refine wp_still_tail 10 (by kernel_rfl) (by kernel_rfl) ?_
     intro W hW
     have g1 : W.cell? ⟨g, k, none⟩ = some (.int .u64 (x : Int)) := by rw [hW]; exact hx
     have g2 : W.cell? ⟨g, k + 1, none⟩ = some (.int .u64 (y : Int)) := by rw [hW]; exact hy
     have gf : W.frozen? ⟨g, k, none⟩ = false := by rw [hW]; exact hfx
     have gf2 : W.frozen? ⟨g, k + 1, none⟩ = false := by rw [hW]; exact hfy
     have HW : Aside0 (WM w g l' (moreT l' k) W) := ⟨by rw [hW]; exact H.out.drew⟩
     clear hW hx hy hfx hfy H
     simp only [List.take_succ_cons, List.take_zero, List.drop_succ_cons, List.drop_zero]
     repeat still_step
     refine wpStill_nil ?_
     clear i1
     go_wp2
     refine ⟨⟨k + 1, by omega, by go_num, ?_⟩, by simp [intOf]; omega⟩
     rw [HS.out]
     exact ⟨(HW.out.set (k + 1) (y + x / 67108864)).set k (x % 67108864)⟩
    ·obtain rfl : k = 4 := by omega
     clear hlt hk
     rw [show ((4 : Nat) : Int) = 4 from rfl]
     have hml : (moreT l' 4).length = 5 := by rw [moreT_length, HLL.out]
     obtain ⟨hx, hfx⟩ := H.out.cell 4 (by omega)
     have bx := more_top HLN.out
     have HML := Aside0.mk hml
     have HOUT := Aside0.mk H.out.n.ret
     have HBE := Aside0.mk H.out.n.below
     clear hml
     generalize (moreT l' 4).getD 4 0 = x at hx bx HW
     by_cases h0 : x / 67108864 = 0
     ·have t1 : ((x : Int) / 67108864 == 0) = true := by rw [beq_iff_eq]; omega
      have HE : Aside0 (whole l = l') := ⟨by rw [HW.out, if_pos h0]⟩
      have HRL := HLL
      clear h0
      go_wp2_with (first | (with_reducible refine wpList_load_row rfl 159 (.tmp 1) rfl w.heap.size rfl 159 (u64s l') (0, 0) _ H.out.n.row Try.underlying159 rfl (HI.out _ HRL.out) ?_) | (refine wpList_store_row rfl 159 (.tmp 2) (.tmp 41) rfl (w.heap.size + 1) (u64s l') rfl rfl 159 _ HOUT.out (HI.out _ HRL.out) (by rw [u64s_size, u64s_size, HRL.out]; rfl) (u64s_one _) ?_))
      exact bodyPost_ret (results_cell_row Try.results134 _ _ (w.heap.size + 1) 159 (u64s l') (0, 0) _ rfl (setRow_heap _ _ _ _ _ _ HOUT.out) Try.underlying159 rfl (HI.out _ HRL.out)) rfl ⟨by rw [HE.out], below_setRow HBE.out (by omega) _⟩
     ·have t1 : ((x : Int) / 67108864 == 0) = false := by rw [beq_eq_false_iff_ne]; omega
      have HE : Aside0 (whole l = (moreT l' 4).set 4 (x % 67108864)) := ⟨by rw [HW.out, if_neg h0]⟩
      have hm := mask26 x (by omega)
      clear h0 bx
      go_upto_region 15 with (fail)
      have HX : Aside0 (WM w g l' ((moreT l' 4).set 4 (x % 67108864)) (wr.setCell ⟨g, 4, none⟩ (.int .u64 ((x : Int) % 67108864)))) := ⟨H.out.set 4 (x % 67108864)⟩
      generalize wr.setCell ⟨g, 4, none⟩ (.int .u64 ((x : Int) % 67108864)) = W2 at HX ⊢
      have HRL := Aside0.mk (show ((moreT l' 4).set 4 (x % 67108864)).length = 5 by rw [List.length_set]; exact HML.out)
      generalize (moreT l' 4).set 4 (x % 67108864) = r at HX HRL HE
      have HOUT := Aside0.mk HX.out.n.ret
      have HBE := Aside0.mk HX.out.n.below
      clear hm hx hfx t1
      go_wp2_with (first | (with_reducible refine wpList_load_row rfl 159 (.tmp 3) rfl g rfl 159 (u64s r) (0, 0) _ HX.out.row Try.underlying159 rfl (HI.out _ HRL.out) ?_) | (refine wpList_store_row rfl 159 (.tmp 2) (.tmp 46) rfl (w.heap.size + 1) (u64s r) rfl rfl 159 _ HOUT.out (HI.out _ HRL.out) (by rw [u64s_size, u64s_size, HRL.out]; rfl) (u64s_one _) ?_))
      exact bodyPost_ret (results_cell_row Try.results134 _ _ (w.heap.size + 1) 159 (u64s r) (0, 0) _ rfl (setRow_heap _ _ _ _ _ _ HOUT.out) Try.underlying159 rfl (HI.out _ HRL.out)) rfl ⟨by rw [HE.out], below_setRow HBE.out (by omega) _⟩
  ·have h' : l' = car l := by
    rcases HOR.out with h | h
    ·exact h
    ·exact absurd (h.1 ▸ car2_lim HL.out h.2) hlt
   subst h'
   have HT := Aside0.mk htop
   have HLT := Aside0.mk hlt
   generalize (car l).getD 1 0 = y at hc hlt
   have t1 : decide (0 < (y : Int) / 67108864) = true := decide_eq_true (by omega)
   have t2 : decide (0 < y / 67108864) = true := decide_eq_true (by omega)
   clear htop
   go_wp2_with (with_reducible refine wpList_load_row rfl 159 (.tmp 1) rfl w.heap.size rfl 159 (u64s (car l)) (0, 0) _ H.out.row Try.underlying159 rfl (HI.out (car l) HCl.out) ?_)
   refine (HC2.out _).mono ?_
   rintro e w5 ⟨rfl, hb⟩
   have H := Aside0.mk (H.out.then_ hb)
   clear hb
   go_wp2_with (refine wpList_store_row rfl 159 (.tmp 1) (.tmp 12) rfl w.heap.size (u64s (car (car l))) rfl rfl 159 _ H.out.row (HI.out (car (car l)) HCCl.out) (by rw [u64s_size, u64s_size, HCl.out, HCCl.out]) (u64s_one _) ?_)
   have H := Aside0.mk (H.out.put (car (car l)))
   generalize w5.setRow w.heap.size (u64s (car (car l))) = W1 at H ⊢
   go_roundw
   case rel =>
    repeat apply Exists.intro
    exact ⟨⟨car (car l), Or.inr ⟨rfl, hlt⟩, H⟩, rfl⟩
   case measure =>
    rw [topOf_eq H.out HCCl.out, HT.out]
    have := car2_lim HL.out HLT.out
    have := HLT.out
    omega
def cyT (V : Nat) (S : List Nat) : Nat → Nat
 | 0 => 0
 | k + 1 => (cyT V S k + (V / 256 ^ k % 256 + S.getD k 0)) / 256
def outT (V : Nat) (S : List Nat) (k : Nat) : List Nat := (List.range 16).map fun i => if i < k then (cyT V S i + (V / 256 ^ i % 256 + S.getD i 0)) % 256 else 0
theorem cyT_le (V : Nat) (S : List Nat) (hS : ∀ i, S.getD i 0 < 256) : ∀ k, cyT V S k ≤ 1
  | 0 => by simp [cyT]
  | k + 1 => by
    have := cyT_le V S hS k
    have := hS k
    have : V / 256 ^ k % 256 < 256 := Nat.mod_lt _ (by decide)
    simp only [cyT]
    omega
theorem outT_length (V : Nat) (S : List Nat) (k : Nat) : (outT V S k).length = 16 := by simp [outT]
theorem outT_lt (V : Nat) (S : List Nat) (k : Nat) : ∀ x ∈ outT V S k, x < 256 := by
 intro x hx
 unfold outT at hx
 rw [List.mem_map] at hx
 obtain ⟨i, _, rfl⟩ := hx
 split
 ·exact Nat.mod_lt _ (by decide)
 ·decide
theorem outT_set (V : Nat) (S : List Nat) (k : Nat) (hk : k < 16) : (outT V S k).set k ((cyT V S k + (V / 256 ^ k % 256 + S.getD k 0)) % 256) = outT V S (k + 1) := by
 apply List.ext_getElem
 ·simp [outT]
 ·intro j h1 h2
  rw [List.getElem_set]
  simp only [outT, List.getElem_map, List.getElem_range]
  by_cases e : k = j
  ·subst e; rw [if_pos rfl, if_pos (by omega)]
  ·rw [if_neg e]
   by_cases h : j < k
   ·rw [if_pos h, if_pos (by omega)]
   ·rw [if_neg h, if_neg (by omega)]
theorem and255_64 (a : Nat) (ha : a < 18446744073709551616) : bits .and .u64 (a : Int) 255 = ((a % 256 : Nat) : Int) := by
 have := and64 a 255 ha (by decide)
 rw [show ((255 : Nat) : Int) = 255 from rfl] at this
 rw [this, show (255 : Nat) = 2 ^ 8 - 1 from rfl, Nat.and_two_pow_sub_one_eq_mod]
theorem bitx (c d p q i : Nat) (hq : q = 2 ^ i) (hpq : p * q = 67108864) (hc : c < 67108864) (hd : d < 67108864) :
  bits .and .u64 (bits .or .u64 ((c : Int) / (p : Int)) (IntKind.u64.wrap ((d : Int) * (q : Int)))) 255 = (((c / p + d * q) % 256 : Nat) : Int) := by
 have hp0 : 0 < p := Nat.pos_of_ne_zero (by rintro rfl; simp at hpq)
 have hq0 : 0 < q := Nat.pos_of_ne_zero (by rintro rfl; simp at hpq)
 have h1 : c / p < q := by
  rw [Nat.div_lt_iff_lt_mul hp0, Nat.mul_comm]; omega
 have hqM : q ≤ 67108864 := by
  rw [← hpq]; exact Nat.le_mul_of_pos_left q hp0
 have h2 : d * q ≤ 67108864 * 67108864 := Nat.mul_le_mul (Nat.le_of_lt hd) hqM
 have e1 : ((c : Int) / (p : Int)) = ((c / p : Nat) : Int) := by simp
 have e2 : (d : Int) * (q : Int) = ((d * q : Nat) : Int) := by simp
 rw [e2, wraps_u64 _ (Int.natCast_nonneg _) (by omega), e1, or64 _ _ (by omega) (by omega)]
 have h3 : c / p ||| d * q = c / p + d * q := by
  rw [Nat.or_comm, Nat.mul_comm d q, hq, ← Nat.two_pow_add_eq_or_of_lt (by rw [← hq]; exact h1) d, ← hq]
  omega
 rw [h3, and255_64 _ (by omega)]
theorem bitl (c p : Nat) (hp : 0 < p) (hc : c < 67108864) : bits .and .u64 ((c : Int) / (p : Int)) 255 = (((c / p) % 256 : Nat) : Int) := by
 have e1 : ((c : Int) / (p : Int)) = ((c / p : Nat) : Int) := by simp
 have : c / p ≤ c := Nat.div_le_self _ _
 rw [e1, and255_64 _ (by omega)]
theorem sum_w (x y c_ : Nat) (hx : x < 256) (hy : y < 256) (hc : c_ ≤ 1) : IntKind.u64.wrap ((c_ : Int) + IntKind.u64.wrap ((x : Int) + IntKind.u64.wrap (y : Int))) = ((c_ + (x + y) : Nat) : Int) := by
 rw [wraps_u64 (y : Int) (by omega) (by omega), wraps_u64 ((x : Int) + (y : Int)) (by omega) (by omega), wraps_u64 _ (by omega) (by omega)]
 omega
theorem dg_0 (a b c d e : Nat) (h0 : a < 67108864) (h1 : b < 67108864) (h2 : c < 67108864) (h3 : d < 67108864) (h4 : e < 67108864) : (a / 1 + b * 67108864) % 256 = lv [a, b, c, d, e] / 256 ^ 0 % 256 := by
 rw [show (256 : Nat) ^ 0 = 1 from rfl]
 simp only [lv]
 omega
theorem dg_1 (a b c d e : Nat) (h0 : a < 67108864) (h1 : b < 67108864) (h2 : c < 67108864) (h3 : d < 67108864) (h4 : e < 67108864) : (a / 256 + b * 262144) % 256 = lv [a, b, c, d, e] / 256 ^ 1 % 256 := by
 rw [show (256 : Nat) ^ 1 = 256 from rfl]
 simp only [lv]
 omega
theorem dg_2 (a b c d e : Nat) (h0 : a < 67108864) (h1 : b < 67108864) (h2 : c < 67108864) (h3 : d < 67108864) (h4 : e < 67108864) : (a / 65536 + b * 1024) % 256 = lv [a, b, c, d, e] / 256 ^ 2 % 256 := by
 rw [show (256 : Nat) ^ 2 = 65536 from rfl]
 simp only [lv]
 omega
theorem dg_3 (a b c d e : Nat) (h0 : a < 67108864) (h1 : b < 67108864) (h2 : c < 67108864) (h3 : d < 67108864) (h4 : e < 67108864) : (a / 16777216 + b * 4) % 256 = lv [a, b, c, d, e] / 256 ^ 3 % 256 := by
 rw [show (256 : Nat) ^ 3 = 16777216 from rfl]
 simp only [lv]
 omega
theorem dg_4 (a b c d e : Nat) (h0 : a < 67108864) (h1 : b < 67108864) (h2 : c < 67108864) (h3 : d < 67108864) (h4 : e < 67108864) : (b / 64 + c * 1048576) % 256 = lv [a, b, c, d, e] / 256 ^ 4 % 256 := by
 rw [show (256 : Nat) ^ 4 = 4294967296 from rfl]
 simp only [lv]
 omega
theorem dg_5 (a b c d e : Nat) (h0 : a < 67108864) (h1 : b < 67108864) (h2 : c < 67108864) (h3 : d < 67108864) (h4 : e < 67108864) : (b / 16384 + c * 4096) % 256 = lv [a, b, c, d, e] / 256 ^ 5 % 256 := by
 rw [show (256 : Nat) ^ 5 = 1099511627776 from rfl]
 simp only [lv]
 omega
theorem dg_6 (a b c d e : Nat) (h0 : a < 67108864) (h1 : b < 67108864) (h2 : c < 67108864) (h3 : d < 67108864) (h4 : e < 67108864) : (b / 4194304 + c * 16) % 256 = lv [a, b, c, d, e] / 256 ^ 6 % 256 := by
 rw [show (256 : Nat) ^ 6 = 281474976710656 from rfl]
 simp only [lv]
 omega
theorem dg_7 (a b c d e : Nat) (h0 : a < 67108864) (h1 : b < 67108864) (h2 : c < 67108864) (h3 : d < 67108864) (h4 : e < 67108864) : (c / 16 + d * 4194304) % 256 = lv [a, b, c, d, e] / 256 ^ 7 % 256 := by
 rw [show (256 : Nat) ^ 7 = 72057594037927936 from rfl]
 simp only [lv]
 omega
theorem dg_8 (a b c d e : Nat) (h0 : a < 67108864) (h1 : b < 67108864) (h2 : c < 67108864) (h3 : d < 67108864) (h4 : e < 67108864) : (c / 4096 + d * 16384) % 256 = lv [a, b, c, d, e] / 256 ^ 8 % 256 := by
 rw [show (256 : Nat) ^ 8 = 18446744073709551616 from rfl]
 simp only [lv]
 omega
theorem dg_9 (a b c d e : Nat) (h0 : a < 67108864) (h1 : b < 67108864) (h2 : c < 67108864) (h3 : d < 67108864) (h4 : e < 67108864) : (c / 1048576 + d * 64) % 256 = lv [a, b, c, d, e] / 256 ^ 9 % 256 := by
 rw [show (256 : Nat) ^ 9 = 4722366482869645213696 from rfl]
 simp only [lv]
 omega
theorem dg_10 (a b c d e : Nat) (h0 : a < 67108864) (h1 : b < 67108864) (h2 : c < 67108864) (h3 : d < 67108864) (h4 : e < 67108864) : (d / 4 + e * 16777216) % 256 = lv [a, b, c, d, e] / 256 ^ 10 % 256 := by
 rw [show (256 : Nat) ^ 10 = 1208925819614629174706176 from rfl]
 simp only [lv]
 omega
theorem dg_11 (a b c d e : Nat) (h0 : a < 67108864) (h1 : b < 67108864) (h2 : c < 67108864) (h3 : d < 67108864) (h4 : e < 67108864) : (d / 1024 + e * 65536) % 256 = lv [a, b, c, d, e] / 256 ^ 11 % 256 := by
 rw [show (256 : Nat) ^ 11 = 309485009821345068724781056 from rfl]
 simp only [lv]
 omega
theorem dg_12 (a b c d e : Nat) (h0 : a < 67108864) (h1 : b < 67108864) (h2 : c < 67108864) (h3 : d < 67108864) (h4 : e < 67108864) : (d / 262144 + e * 256) % 256 = lv [a, b, c, d, e] / 256 ^ 12 % 256 := by
 rw [show (256 : Nat) ^ 12 = 79228162514264337593543950336 from rfl]
 simp only [lv]
 omega
theorem dg_13 (a b c d e : Nat) (h0 : a < 67108864) (h1 : b < 67108864) (h2 : c < 67108864) (h3 : d < 67108864) (h4 : e < 67108864) : e / 1 % 256 = lv [a, b, c, d, e] / 256 ^ 13 % 256 := by
 rw [show (256 : Nat) ^ 13 = 20282409603651670423947251286016 from rfl]
 simp only [lv]
 omega
theorem dg_14 (a b c d e : Nat) (h0 : a < 67108864) (h1 : b < 67108864) (h2 : c < 67108864) (h3 : d < 67108864) (h4 : e < 67108864) : e / 256 % 256 = lv [a, b, c, d, e] / 256 ^ 14 % 256 := by
 rw [show (256 : Nat) ^ 14 = 5192296858534827628530496329220096 from rfl]
 simp only [lv]
 omega
theorem dg_15 (a b c d e : Nat) (h0 : a < 67108864) (h1 : b < 67108864) (h2 : c < 67108864) (h3 : d < 67108864) (h4 : e < 67108864) : e / 65536 % 256 = lv [a, b, c, d, e] / 256 ^ 15 % 256 := by
 rw [show (256 : Nat) ^ 15 = 1329227995784915872903807060280344576 from rfl]
 simp only [lv]
 omega
structure ND (w : World) (l o : List Nat) (W : World) : Prop where
 below : Below w.heap.size w W
 row : W.heap[w.heap.size]? = some (.cells (u64s l) 159 (0, 0))
 out : W.heap[w.heap.size + 1]? = some (.cells (u8s o) 184 (0, 0))
theorem ND.set {w W : World} {l o : List Nat} (h : ND w l o W) (k v : Nat) : ND w l (o.set k v) (W.setCell ⟨w.heap.size + 1, k, none⟩ (.int .u8 (v : Int))) :=
 ⟨below_set h.below (by omega), blk_far h.row (by simp) _, blk_put h.out k _ (u8s_set o k v)⟩
set_option maxRecDepth 100000 in
theorem number_bytes_calls (a b c d e : Nat) (s : ByteArray) (w : World) (h : Lim 67108864 [a, b, c, d, e]) (hs : 16 ≤ s.size) :
  Calls Try.prog 135 #[.agg (u64s [a, b, c, d, e]), .string s] w fun E w' => E = .returned (.string (txt (outT (lv [a, b, c, d, e]) (bys s) 16))) ∧ Below w.heap.size w w' := by
 have l0 : a < 67108864 := h.lt 0
 have l1 : b < 67108864 := h.lt 1
 have l2 : c < 67108864 := h.lt 2
 have l3 : d < 67108864 := h.lt 3
 have l4 : e < 67108864 := h.lt 4
 have D0 := Aside0.mk (dg_0 a b c d e l0 l1 l2 l3 l4)
 have D1 := Aside0.mk (dg_1 a b c d e l0 l1 l2 l3 l4)
 have D2 := Aside0.mk (dg_2 a b c d e l0 l1 l2 l3 l4)
 have D3 := Aside0.mk (dg_3 a b c d e l0 l1 l2 l3 l4)
 have D4 := Aside0.mk (dg_4 a b c d e l0 l1 l2 l3 l4)
 have D5 := Aside0.mk (dg_5 a b c d e l0 l1 l2 l3 l4)
 have D6 := Aside0.mk (dg_6 a b c d e l0 l1 l2 l3 l4)
 have D7 := Aside0.mk (dg_7 a b c d e l0 l1 l2 l3 l4)
 have D8 := Aside0.mk (dg_8 a b c d e l0 l1 l2 l3 l4)
 have D9 := Aside0.mk (dg_9 a b c d e l0 l1 l2 l3 l4)
 have D10 := Aside0.mk (dg_10 a b c d e l0 l1 l2 l3 l4)
 have D11 := Aside0.mk (dg_11 a b c d e l0 l1 l2 l3 l4)
 have D12 := Aside0.mk (dg_12 a b c d e l0 l1 l2 l3 l4)
 have D13 := Aside0.mk (dg_13 a b c d e l0 l1 l2 l3 l4)
 have D14 := Aside0.mk (dg_14 a b c d e l0 l1 l2 l3 l4)
 have D15 := Aside0.mk (dg_15 a b c d e l0 l1 l2 l3 l4)
 have LL := Aside0.mk (And.intro l0 (And.intro l1 (And.intro l2 (And.intro l3 l4))))
 clear h l0 l1 l2 l3 l4
 generalize hV : lv [a, b, c, d, e] = V at *
 have HV := Aside0.mk hV
 clear hV
 have HB := Aside0.mk (bys_lt s)
 have HC := Aside0.mk (cyT_le V (bys s) (bys_lt s))
 have HG : Aside0 (∀ i (hi : i < s.size), (s[i]'hi).toNat = (bys s).getD i 0) := ⟨fun i hi => by
  have hl : i < s.data.toList.length := by rw [data_length]; exact hi
  simp only [bys, List.getD_eq_getElem?_getD, List.getElem?_map, List.getElem?_eq_getElem hl, Option.map_some, Option.getD_some]
  rfl⟩
 go_enter Try.func135, Try.ntmps135
 go_wp2_with (fail)
 have H : Aside0 (ND w [a, b, c, d, e] (outT V (bys s) 0) ((w.alloc (.cells (u64s [a, b, c, d, e]) 159)).alloc (.cells (u8s (List.replicate 16 0)) 184))) := ⟨⟨below_alloc (below_alloc (Below.refl _ _) _) _, blk_alloc (blk_new _ _) _, by
  have := blk_new (w.alloc (.cells (u64s [a, b, c, d, e]) 159)) (.cells (u8s (List.replicate 16 0)) 184)
  rwa [show (w.alloc (.cells (u64s [a, b, c, d, e]) 159)).heap.size = w.heap.size + 1 by simp] at this⟩⟩
 go_loopw [6, 10] (fun cy i wr => ∃ k : Nat, k ≤ 16 ∧ i = .int .i64 k ∧ cy = .int .u64 (cyT V (bys s) k : Nat) ∧ Aside0 (ND w [a, b, c, d, e] (outT V (bys s) k) wr)) (fun _ i _ => 16 - (intOf i).toNat)
 case atStart => exact ⟨0, by omega, rfl, rfl, H⟩
 case round =>
  clear H
  obtain ⟨k, hk, rfl, rfl, H⟩ := hrel
  by_cases hlt : k < 16
  ·have h0 : wr.cell? ⟨w.heap.size, 0, none⟩ = some (.int .u64 (a : Int)) := blk_cell H.out.row 0
   have h1 : wr.cell? ⟨w.heap.size, 1, none⟩ = some (.int .u64 (b : Int)) := blk_cell H.out.row 1
   have h2 : wr.cell? ⟨w.heap.size, 2, none⟩ = some (.int .u64 (c : Int)) := blk_cell H.out.row 2
   have h3 : wr.cell? ⟨w.heap.size, 3, none⟩ = some (.int .u64 (d : Int)) := blk_cell H.out.row 3
   have h4 : wr.cell? ⟨w.heap.size, 4, none⟩ = some (.int .u64 (e : Int)) := blk_cell H.out.row 4
   have h5 := (blk_cell H.out.out k).trans (u8s_get _ k (by rw [outT_length]; exact hlt))
   have h6 := blk_frozen H.out.out k
   generalize (outT V (bys s) k).getD k 0 = o at h5
   have HS := Aside0.mk (outT_set V (bys s) k hlt)
   have hy := HB.out k
   have hc := HC.out k
   have hn : cyT V (bys s) (k + 1) = (cyT V (bys s) k + (V / 256 ^ k % 256 + (bys s).getD k 0)) / 256 := rfl
   have hg := HG.out k (by omega)
   have hx : V / 256 ^ k % 256 < 256 := Nat.mod_lt _ (by decide)
   generalize hX : V / 256 ^ k % 256 = X at HS hn hx
   generalize (bys s).getD k 0 = y at HS hn hy hg
   generalize cyT V (bys s) k = cy at HS hn hc ⊢
   have HSUM := Aside0.mk (sum_w X y cy hx hy hc)
   have HX := Aside0.mk hX
   have HN := Aside0.mk hn
   have HGK := Aside0.mk hg
   clear hX hn hy hc hx hg
   have HK : Aside0 (k = 0 ∨ k = 1 ∨ k = 2 ∨ k = 3 ∨ k = 4 ∨ k = 5 ∨ k = 6 ∨ k = 7 ∨ k = 8 ∨ k = 9 ∨ k = 10 ∨ k = 11 ∨ k = 12 ∨ k = 13 ∨ k = 14 ∨ k = 15) := ⟨by omega⟩
   rcases HK.out with h | h | h | h | h | h | h | h | h | h | h | h | h | h | h | h
   ·subst h
    have E : bits .and .u64 (bits .or .u64 (a : Int) (IntKind.u64.wrap ((b : Int) * 67108864))) 255 = (X : Int) := by
     have := bitx a b 1 67108864 26 rfl rfl LL.out.1 LL.out.2.1
     rw [show ((1 : Nat) : Int) = 1 from rfl, Int.ediv_one] at this
     rw [← HX.out, ← D0.out]
     exact this
    have HE := Aside0.mk E
    clear E HK
    rw [show ((0 : Nat) : Int) = 0 from rfl]
    go_wp2
    simp only [HGK.out]
    rw [HE.out, HSUM.out]
    refine ⟨⟨1, by omega, rfl, ?_, ?_⟩, by simp [intOf]⟩
    ·rw [HN.out]; rfl
    ·rw [← HS.out]
     exact ⟨H.out.set 0 _⟩
   ·subst h
    have E : bits .and .u64 (bits .or .u64 ((a : Int) / 256) (IntKind.u64.wrap ((b : Int) * 262144))) 255 = (X : Int) := by
     have := bitx a b 256 262144 18 rfl rfl LL.out.1 LL.out.2.1
     skip
     rw [← HX.out, ← D1.out]
     exact this
    have HE := Aside0.mk E
    clear E HK
    rw [show ((1 : Nat) : Int) = 1 from rfl]
    go_wp2
    simp only [HGK.out]
    rw [HE.out, HSUM.out]
    refine ⟨⟨2, by omega, rfl, ?_, ?_⟩, by simp [intOf]⟩
    ·rw [HN.out]; rfl
    ·rw [← HS.out]
     exact ⟨H.out.set 1 _⟩
   ·subst h
    have E : bits .and .u64 (bits .or .u64 ((a : Int) / 65536) (IntKind.u64.wrap ((b : Int) * 1024))) 255 = (X : Int) := by
     have := bitx a b 65536 1024 10 rfl rfl LL.out.1 LL.out.2.1
     skip
     rw [← HX.out, ← D2.out]
     exact this
    have HE := Aside0.mk E
    clear E HK
    rw [show ((2 : Nat) : Int) = 2 from rfl]
    go_wp2
    simp only [HGK.out]
    rw [HE.out, HSUM.out]
    refine ⟨⟨3, by omega, rfl, ?_, ?_⟩, by simp [intOf]⟩
    ·rw [HN.out]; rfl
    ·rw [← HS.out]
     exact ⟨H.out.set 2 _⟩
   ·subst h
    have E : bits .and .u64 (bits .or .u64 ((a : Int) / 16777216) (IntKind.u64.wrap ((b : Int) * 4))) 255 = (X : Int) := by
     have := bitx a b 16777216 4 2 rfl rfl LL.out.1 LL.out.2.1
     skip
     rw [← HX.out, ← D3.out]
     exact this
    have HE := Aside0.mk E
    clear E HK
    rw [show ((3 : Nat) : Int) = 3 from rfl]
    go_wp2
    simp only [HGK.out]
    rw [HE.out, HSUM.out]
    refine ⟨⟨4, by omega, rfl, ?_, ?_⟩, by simp [intOf]⟩
    ·rw [HN.out]; rfl
    ·rw [← HS.out]
     exact ⟨H.out.set 3 _⟩
   ·subst h
    have E : bits .and .u64 (bits .or .u64 ((b : Int) / 64) (IntKind.u64.wrap ((c : Int) * 1048576))) 255 = (X : Int) := by
     have := bitx b c 64 1048576 20 rfl rfl LL.out.2.1 LL.out.2.2.1
     skip
     rw [← HX.out, ← D4.out]
     exact this
    have HE := Aside0.mk E
    clear E HK
    rw [show ((4 : Nat) : Int) = 4 from rfl]
    go_wp2
    simp only [HGK.out]
    rw [HE.out, HSUM.out]
    refine ⟨⟨5, by omega, rfl, ?_, ?_⟩, by simp [intOf]⟩
    ·rw [HN.out]; rfl
    ·rw [← HS.out]
     exact ⟨H.out.set 4 _⟩
   ·subst h
    have E : bits .and .u64 (bits .or .u64 ((b : Int) / 16384) (IntKind.u64.wrap ((c : Int) * 4096))) 255 = (X : Int) := by
     have := bitx b c 16384 4096 12 rfl rfl LL.out.2.1 LL.out.2.2.1
     skip
     rw [← HX.out, ← D5.out]
     exact this
    have HE := Aside0.mk E
    clear E HK
    rw [show ((5 : Nat) : Int) = 5 from rfl]
    go_wp2
    simp only [HGK.out]
    rw [HE.out, HSUM.out]
    refine ⟨⟨6, by omega, rfl, ?_, ?_⟩, by simp [intOf]⟩
    ·rw [HN.out]; rfl
    ·rw [← HS.out]
     exact ⟨H.out.set 5 _⟩
   ·subst h
    have E : bits .and .u64 (bits .or .u64 ((b : Int) / 4194304) (IntKind.u64.wrap ((c : Int) * 16))) 255 = (X : Int) := by
     have := bitx b c 4194304 16 4 rfl rfl LL.out.2.1 LL.out.2.2.1
     skip
     rw [← HX.out, ← D6.out]
     exact this
    have HE := Aside0.mk E
    clear E HK
    rw [show ((6 : Nat) : Int) = 6 from rfl]
    go_wp2
    simp only [HGK.out]
    rw [HE.out, HSUM.out]
    refine ⟨⟨7, by omega, rfl, ?_, ?_⟩, by simp [intOf]⟩
    ·rw [HN.out]; rfl
    ·rw [← HS.out]
     exact ⟨H.out.set 6 _⟩
   ·subst h
    have E : bits .and .u64 (bits .or .u64 ((c : Int) / 16) (IntKind.u64.wrap ((d : Int) * 4194304))) 255 = (X : Int) := by
     have := bitx c d 16 4194304 22 rfl rfl LL.out.2.2.1 LL.out.2.2.2.1
     skip
     rw [← HX.out, ← D7.out]
     exact this
    have HE := Aside0.mk E
    clear E HK
    rw [show ((7 : Nat) : Int) = 7 from rfl]
    go_wp2
    simp only [HGK.out]
    rw [HE.out, HSUM.out]
    refine ⟨⟨8, by omega, rfl, ?_, ?_⟩, by simp [intOf]⟩
    ·rw [HN.out]; rfl
    ·rw [← HS.out]
     exact ⟨H.out.set 7 _⟩
   ·subst h
    have E : bits .and .u64 (bits .or .u64 ((c : Int) / 4096) (IntKind.u64.wrap ((d : Int) * 16384))) 255 = (X : Int) := by
     have := bitx c d 4096 16384 14 rfl rfl LL.out.2.2.1 LL.out.2.2.2.1
     skip
     rw [← HX.out, ← D8.out]
     exact this
    have HE := Aside0.mk E
    clear E HK
    rw [show ((8 : Nat) : Int) = 8 from rfl]
    go_wp2
    simp only [HGK.out]
    rw [HE.out, HSUM.out]
    refine ⟨⟨9, by omega, rfl, ?_, ?_⟩, by simp [intOf]⟩
    ·rw [HN.out]; rfl
    ·rw [← HS.out]
     exact ⟨H.out.set 8 _⟩
   ·subst h
    have E : bits .and .u64 (bits .or .u64 ((c : Int) / 1048576) (IntKind.u64.wrap ((d : Int) * 64))) 255 = (X : Int) := by
     have := bitx c d 1048576 64 6 rfl rfl LL.out.2.2.1 LL.out.2.2.2.1
     skip
     rw [← HX.out, ← D9.out]
     exact this
    have HE := Aside0.mk E
    clear E HK
    rw [show ((9 : Nat) : Int) = 9 from rfl]
    go_wp2
    simp only [HGK.out]
    rw [HE.out, HSUM.out]
    refine ⟨⟨10, by omega, rfl, ?_, ?_⟩, by simp [intOf]⟩
    ·rw [HN.out]; rfl
    ·rw [← HS.out]
     exact ⟨H.out.set 9 _⟩
   ·subst h
    have E : bits .and .u64 (bits .or .u64 ((d : Int) / 4) (IntKind.u64.wrap ((e : Int) * 16777216))) 255 = (X : Int) := by
     have := bitx d e 4 16777216 24 rfl rfl LL.out.2.2.2.1 LL.out.2.2.2.2
     skip
     rw [← HX.out, ← D10.out]
     exact this
    have HE := Aside0.mk E
    clear E HK
    rw [show ((10 : Nat) : Int) = 10 from rfl]
    go_wp2
    simp only [HGK.out]
    rw [HE.out, HSUM.out]
    refine ⟨⟨11, by omega, rfl, ?_, ?_⟩, by simp [intOf]⟩
    ·rw [HN.out]; rfl
    ·rw [← HS.out]
     exact ⟨H.out.set 10 _⟩
   ·subst h
    have E : bits .and .u64 (bits .or .u64 ((d : Int) / 1024) (IntKind.u64.wrap ((e : Int) * 65536))) 255 = (X : Int) := by
     have := bitx d e 1024 65536 16 rfl rfl LL.out.2.2.2.1 LL.out.2.2.2.2
     skip
     rw [← HX.out, ← D11.out]
     exact this
    have HE := Aside0.mk E
    clear E HK
    rw [show ((11 : Nat) : Int) = 11 from rfl]
    go_wp2
    simp only [HGK.out]
    rw [HE.out, HSUM.out]
    refine ⟨⟨12, by omega, rfl, ?_, ?_⟩, by simp [intOf]⟩
    ·rw [HN.out]; rfl
    ·rw [← HS.out]
     exact ⟨H.out.set 11 _⟩
   ·subst h
    have E : bits .and .u64 (bits .or .u64 ((d : Int) / 262144) (IntKind.u64.wrap ((e : Int) * 256))) 255 = (X : Int) := by
     have := bitx d e 262144 256 8 rfl rfl LL.out.2.2.2.1 LL.out.2.2.2.2
     skip
     rw [← HX.out, ← D12.out]
     exact this
    have HE := Aside0.mk E
    clear E HK
    rw [show ((12 : Nat) : Int) = 12 from rfl]
    go_wp2
    simp only [HGK.out]
    rw [HE.out, HSUM.out]
    refine ⟨⟨13, by omega, rfl, ?_, ?_⟩, by simp [intOf]⟩
    ·rw [HN.out]; rfl
    ·rw [← HS.out]
     exact ⟨H.out.set 12 _⟩
   ·subst h
    have E : bits .and .u64 (e : Int) 255 = (X : Int) := by
     have := bitl e 1 (by decide) LL.out.2.2.2.2
     rw [show ((1 : Nat) : Int) = 1 from rfl, Int.ediv_one] at this
     rw [← HX.out, ← D13.out]
     exact this
    have HE := Aside0.mk E
    clear E HK
    rw [show ((13 : Nat) : Int) = 13 from rfl]
    go_wp2
    simp only [HGK.out]
    rw [HE.out, HSUM.out]
    refine ⟨⟨14, by omega, rfl, ?_, ?_⟩, by simp [intOf]⟩
    ·rw [HN.out]; rfl
    ·rw [← HS.out]
     exact ⟨H.out.set 13 _⟩
   ·subst h
    have E : bits .and .u64 ((e : Int) / 256) 255 = (X : Int) := by
     have := bitl e 256 (by decide) LL.out.2.2.2.2
     skip
     rw [← HX.out, ← D14.out]
     exact this
    have HE := Aside0.mk E
    clear E HK
    rw [show ((14 : Nat) : Int) = 14 from rfl]
    go_wp2
    simp only [HGK.out]
    rw [HE.out, HSUM.out]
    refine ⟨⟨15, by omega, rfl, ?_, ?_⟩, by simp [intOf]⟩
    ·rw [HN.out]; rfl
    ·rw [← HS.out]
     exact ⟨H.out.set 14 _⟩
   ·subst h
    have E : bits .and .u64 ((e : Int) / 65536) 255 = (X : Int) := by
     have := bitl e 65536 (by decide) LL.out.2.2.2.2
     skip
     rw [← HX.out, ← D15.out]
     exact this
    have HE := Aside0.mk E
    clear E HK
    rw [show ((15 : Nat) : Int) = 15 from rfl]
    go_wp2
    simp only [HGK.out]
    rw [HE.out, HSUM.out]
    refine ⟨⟨16, by omega, rfl, ?_, ?_⟩, by simp [intOf]⟩
    ·rw [HN.out]; rfl
    ·rw [← HS.out]
     exact ⟨H.out.set 15 _⟩
  ·obtain rfl : k = 16 := by omega
   clear hlt hk
   rw [show ((16 : Nat) : Int) = 16 from rfl]
   have HOl := Aside0.mk (outT_length V (bys s) 16)
   generalize hO : outT V (bys s) 16 = O at *
   have HO := Aside0.mk hO
   clear hO
   have hcv := conv_u8s wr 68 9 5 184 (w.heap.size + 1) O 16 Try.underlying68 Try.underlying5 Try.underlying9 H.out.out HOl.out 16
   go_wp2
   go_ret
   exact ⟨by first | (rw [HO.out]; done) | (rw [HO.out]; rfl), H.out.below⟩
theorem or_shl (x y q i : Nat) (hq : q = 2 ^ i) (hi : q ≤ 67108864) (hx : x < q) (hy : y < 256) :
  bits .or .u64 (x : Int) (IntKind.u64.wrap (IntKind.u64.wrap (y : Int) * (q : Int))) = ((x + y * q : Nat) : Int) := by
 have h2 : y * q ≤ 256 * 67108864 := Nat.mul_le_mul (by omega) hi
 rw [wraps_u64 (y : Int) (by omega) (by omega), show (y : Int) * (q : Int) = ((y * q : Nat) : Int) by simp, wraps_u64 _ (Int.natCast_nonneg _) (by omega), or64 _ _ (by omega) (by omega)]
 have h3 : x ||| y * q = x + y * q := by
  rw [Nat.or_comm, Nat.mul_comm y q, hq, ← Nat.two_pow_add_eq_or_of_lt (by rw [← hq]; exact hx) y, ← hq]
  omega
 rw [h3]
theorem or_zero64 (x : Nat) (hx : x < 18446744073709551616) : bits .or .u64 0 (x : Int) = (x : Int) := by
 have := or64 0 x (by decide) hx
 rw [show ((0 : Nat) : Int) = 0 from rfl] at this
 rw [this]
 simp
theorem rd_0 (V y : Nat) (hV : V < 1) (hy : y < 256) : limbs (V + 1 * y) = (limbs V).set 0 (V % 67108864 + y * 1) := by
 simp only [limbs, List.set_cons_succ, List.set_cons_zero, List.cons.injEq, and_true]
 refine ⟨?_, ?_, ?_, ?_, ?_⟩ <;> omega
theorem rd_1 (V y : Nat) (hV : V < 256) (hy : y < 256) : limbs (V + 256 * y) = (limbs V).set 0 (V % 67108864 + y * 256) := by
 simp only [limbs, List.set_cons_succ, List.set_cons_zero, List.cons.injEq, and_true]
 refine ⟨?_, ?_, ?_, ?_, ?_⟩ <;> omega
theorem rd_2 (V y : Nat) (hV : V < 65536) (hy : y < 256) : limbs (V + 65536 * y) = (limbs V).set 0 (V % 67108864 + y * 65536) := by
 simp only [limbs, List.set_cons_succ, List.set_cons_zero, List.cons.injEq, and_true]
 refine ⟨?_, ?_, ?_, ?_, ?_⟩ <;> omega
theorem rd_3 (V y : Nat) (hV : V < 16777216) (hy : y < 256) : limbs (V + 16777216 * y) = ((limbs V).set 1 ((V % 67108864 + y * 16777216) / 67108864)).set 0 ((V % 67108864 + y * 16777216) % 67108864) := by
 simp only [limbs, List.set_cons_succ, List.set_cons_zero, List.cons.injEq, and_true]
 refine ⟨?_, ?_, ?_, ?_, ?_⟩ <;> omega
theorem rd_4 (V y : Nat) (hV : V < 4294967296) (hy : y < 256) : limbs (V + 4294967296 * y) = (limbs V).set 1 (V / 67108864 % 67108864 + y * 64) := by
 simp only [limbs, List.set_cons_succ, List.set_cons_zero, List.cons.injEq, and_true]
 refine ⟨?_, ?_, ?_, ?_, ?_⟩ <;> omega
theorem rd_5 (V y : Nat) (hV : V < 1099511627776) (hy : y < 256) : limbs (V + 1099511627776 * y) = (limbs V).set 1 (V / 67108864 % 67108864 + y * 16384) := by
 simp only [limbs, List.set_cons_succ, List.set_cons_zero, List.cons.injEq, and_true]
 refine ⟨?_, ?_, ?_, ?_, ?_⟩ <;> omega
theorem rd_6 (V y : Nat) (hV : V < 281474976710656) (hy : y < 256) : limbs (V + 281474976710656 * y) = ((limbs V).set 2 ((V / 67108864 % 67108864 + y * 4194304) / 67108864)).set 1 ((V / 67108864 % 67108864 + y * 4194304) % 67108864) := by
 simp only [limbs, List.set_cons_succ, List.set_cons_zero, List.cons.injEq, and_true]
 refine ⟨?_, ?_, ?_, ?_, ?_⟩ <;> omega
theorem rd_7 (V y : Nat) (hV : V < 72057594037927936) (hy : y < 256) : limbs (V + 72057594037927936 * y) = (limbs V).set 2 (V / 4503599627370496 % 67108864 + y * 16) := by
 simp only [limbs, List.set_cons_succ, List.set_cons_zero, List.cons.injEq, and_true]
 refine ⟨?_, ?_, ?_, ?_, ?_⟩ <;> omega
theorem rd_8 (V y : Nat) (hV : V < 18446744073709551616) (hy : y < 256) : limbs (V + 18446744073709551616 * y) = (limbs V).set 2 (V / 4503599627370496 % 67108864 + y * 4096) := by
 simp only [limbs, List.set_cons_succ, List.set_cons_zero, List.cons.injEq, and_true]
 refine ⟨?_, ?_, ?_, ?_, ?_⟩ <;> omega
theorem rd_9 (V y : Nat) (hV : V < 4722366482869645213696) (hy : y < 256) : limbs (V + 4722366482869645213696 * y) = ((limbs V).set 3 ((V / 4503599627370496 % 67108864 + y * 1048576) / 67108864)).set 2 ((V / 4503599627370496 % 67108864 + y * 1048576) % 67108864) := by
 simp only [limbs, List.set_cons_succ, List.set_cons_zero, List.cons.injEq, and_true]
 refine ⟨?_, ?_, ?_, ?_, ?_⟩ <;> omega
theorem rd_10 (V y : Nat) (hV : V < 1208925819614629174706176) (hy : y < 256) : limbs (V + 1208925819614629174706176 * y) = (limbs V).set 3 (V / 302231454903657293676544 % 67108864 + y * 4) := by
 simp only [limbs, List.set_cons_succ, List.set_cons_zero, List.cons.injEq, and_true]
 refine ⟨?_, ?_, ?_, ?_, ?_⟩ <;> omega
theorem rd_11 (V y : Nat) (hV : V < 309485009821345068724781056) (hy : y < 256) : limbs (V + 309485009821345068724781056 * y) = (limbs V).set 3 (V / 302231454903657293676544 % 67108864 + y * 1024) := by
 simp only [limbs, List.set_cons_succ, List.set_cons_zero, List.cons.injEq, and_true]
 refine ⟨?_, ?_, ?_, ?_, ?_⟩ <;> omega
theorem rd_12 (V y : Nat) (hV : V < 79228162514264337593543950336) (hy : y < 256) : limbs (V + 79228162514264337593543950336 * y) = (limbs V).set 3 (V / 302231454903657293676544 % 67108864 + y * 262144) := by
 simp only [limbs, List.set_cons_succ, List.set_cons_zero, List.cons.injEq, and_true]
 refine ⟨?_, ?_, ?_, ?_, ?_⟩ <;> omega
theorem rd_13 (V y : Nat) (hV : V < 20282409603651670423947251286016) (hy : y < 256) : limbs (V + 20282409603651670423947251286016 * y) = (limbs V).set 4 (V / 20282409603651670423947251286016 % 67108864 + y * 1) := by
 simp only [limbs, List.set_cons_succ, List.set_cons_zero, List.cons.injEq, and_true]
 refine ⟨?_, ?_, ?_, ?_, ?_⟩ <;> omega
theorem rd_14 (V y : Nat) (hV : V < 5192296858534827628530496329220096) (hy : y < 256) : limbs (V + 5192296858534827628530496329220096 * y) = (limbs V).set 4 (V / 20282409603651670423947251286016 % 67108864 + y * 256) := by
 simp only [limbs, List.set_cons_succ, List.set_cons_zero, List.cons.injEq, and_true]
 refine ⟨?_, ?_, ?_, ?_, ?_⟩ <;> omega
theorem rd_15 (V y : Nat) (hV : V < 1329227995784915872903807060280344576) (hy : y < 256) : limbs (V + 1329227995784915872903807060280344576 * y) = (limbs V).set 4 (V / 20282409603651670423947251286016 % 67108864 + y * 65536) := by
 simp only [limbs, List.set_cons_succ, List.set_cons_zero, List.cons.injEq, and_true]
 refine ⟨?_, ?_, ?_, ?_, ?_⟩ <;> omega
theorem rd_16 (V y : Nat) (hV : V < 340282366920938463463374607431768211456) (hy : y < 4) : limbs (V + 340282366920938463463374607431768211456 * y) = (limbs V).set 4 (V / 20282409603651670423947251286016 % 67108864 + y * 16777216) := by
 simp only [limbs, List.set_cons_succ, List.set_cons_zero, List.cons.injEq, and_true]
 refine ⟨?_, ?_, ?_, ?_, ?_⟩ <;> omega
set_option maxRecDepth 100000 in
theorem poly_read_calls (s : ByteArray) (w : World) (hs : s.size ≤ 17) (h17 : (bys s).getD 16 0 < 4) :
  Calls Try.prog 131 #[.string s] w fun E w' => E = .returned (.agg (u64s (limbs (dv (bys s))))) ∧ Below w.heap.size w w' := by
 have hi : (Try.prog.info? 159).map (·.size) = some 5 := by kernel_rfl
 have HI := Aside0.mk hi
 have HB := Aside0.mk (bys_lt s)
 have H17 := Aside0.mk h17
 have HLn := Aside0.mk (bys_length s)
 have HG : Aside0 (∀ i (hi : i < s.size), (s[i]'hi).toNat = (bys s).getD i 0) := ⟨fun i hi => by
  have hl : i < s.data.toList.length := by rw [data_length]; exact hi
  simp only [bys, List.getD_eq_getElem?_getD, List.getElem?_map, List.getElem?_eq_getElem hl, Option.map_some, Option.getD_some]
  rfl⟩
 have HDL : Aside0 (∀ k, k ≤ s.size → dv ((bys s).take k) < 256 ^ k) := ⟨fun k hk => by
  have := dv_lt ((bys s).take k) (fun i => by
   rw [List.getD_eq_getElem?_getD, List.getElem?_take]
   split
   ·have := bys_lt s i; rwa [List.getD_eq_getElem?_getD] at this
   ·simp)
  rwa [List.length_take, Nat.min_eq_left (by rw [bys_length]; exact hk)] at this⟩
 have HDS : Aside0 (∀ k, dv ((bys s).take (k + 1)) = dv ((bys s).take k) + 256 ^ k * (bys s).getD k 0) := ⟨fun k => dv_take_succ _ k⟩
 clear hi h17
 go_enter Try.func131, Try.ntmps131
 go_wp2_with (fail)
 have H : Aside0 (PN w [List.replicate 5 0, limbs (dv ((bys s).take 0))] ((w.alloc (.cells (u64s (List.replicate 5 0)) 159)).alloc (.cells (u64s (List.replicate 5 0)) 159))) := ⟨by rw [show limbs (dv ((bys s).take 0)) = List.replicate 5 0 by simp [limbs, dv]]; exact ((PN.nil w).push _).push _⟩
 go_loopw [9] (fun i wr => ∃ k : Nat, k ≤ s.size ∧ i = .int .i64 k ∧ Aside0 (PN w [List.replicate 5 0, limbs (dv ((bys s).take k))] wr)) (fun i _ => s.size - (intOf i).toNat)
 case atStart => exact ⟨0, by omega, rfl, H⟩
 case round =>
  clear H
  obtain ⟨k, hk, rfl, H⟩ := hrel
  by_cases hlt : k < s.size
  ·have HK : Aside0 (k = 0 ∨ k = 1 ∨ k = 2 ∨ k = 3 ∨ k = 4 ∨ k = 5 ∨ k = 6 ∨ k = 7 ∨ k = 8 ∨ k = 9 ∨ k = 10 ∨ k = 11 ∨ k = 12 ∨ k = 13 ∨ k = 14 ∨ k = 15 ∨ k = 16) := ⟨by omega⟩
   have hy := HB.out k
   have hV := HDL.out k hk
   have hg := HG.out k hlt
   have hds := HDS.out k
   have h16 : k = 16 → (bys s).getD k 0 < 4 := fun e => e ▸ H17.out
   generalize (bys s).getD k 0 = y at hy hg hds h16
   generalize dv ((bys s).take k) = V at H hV hds
   have HDSk := Aside0.mk hds
   clear hds
   rcases HK.out with h | h | h | h | h | h | h | h | h | h | h | h | h | h | h | h | h
   ·as_aux_lemma =>
    subst h
    clear HK
    have hV2 : V < 1 := hV
    have hy2 : y < 256 := hy
    have hR := rd_0 V y hV2 hy2
    have hx0 : V % 67108864 < 1 := by omega
    have hc := (H.out.cell 1 0 rfl (by show _ < 5; decide)).1
    have hf := (H.out.cell 1 0 rfl (by show _ < 5; decide)).2
    have hcv : (limbs V).getD 0 0 = V % 67108864 := rfl
    rw [hcv] at hc
    clear hcv
    generalize V % 67108864 = X0 at hR hx0 hc
    have E : bits .or .u64 (X0 : Int) (IntKind.u64.wrap (IntKind.u64.wrap (y : Int))) = ((X0 + y * 1 : Nat) : Int) := by
     have := or_shl X0 y 1 0 rfl (by decide) hx0 hy
     rw [show ((1 : Nat) : Int) = 1 from rfl, Int.mul_one, wraps_u64 (y : Int) (by omega) (by omega), wraps_u64 (y : Int) (by omega) (by omega)] at this
     rw [wraps_u64 (y : Int) (by omega) (by omega), wraps_u64 (y : Int) (by omega) (by omega), this, Nat.mul_one]
    have hXb : X0 + y * 1 < 67108864 := by omega
    generalize X0 + y * 1 = X at E hR hXb
    have HR := Aside0.mk hR
    have HV' : Aside0 (dv (List.take (0 + 1) (bys s)) = V + 1 * y) := ⟨HDSk.out⟩
    have t0 : decide ((0 : Int) < (s.size : Int)) = true := decide_eq_true (by omega)
    have hle : 0 < s.size := hlt
    have t00 : (0 : Int) < (s.size : Int) := by omega
    clear hV hV2 hR hx0 hy hy2 h16 HDSk
    simp only [adr] at hc hf
    rw [show ((0 : Nat) : Int) = 0 from rfl]
    have t1 : decide (0 < (X : Int) / 67108864) = false := decide_eq_false (by omega)
    have t2 : decide (0 < X / 67108864) = false := decide_eq_false (by omega)
    clear hXb
    go_wp2_with (fail)
    refine wp_still_tail 13 (by kernel_rfl) (by kernel_rfl) ?_
    intro W hW
    have g1 : W.cell? ⟨w.heap.size + 1, 0, none⟩ = some (.int .u64 (X0 : Int)) := by rw [hW]; exact hc
    have gf : W.frozen? ⟨w.heap.size + 1, 0, none⟩ = false := by rw [hW]; exact hf
    have HW : Aside0 (PN w [List.replicate 5 0, limbs V] W) := ⟨by rw [hW]; exact H.out.drew⟩
    have wj : IntKind.i64.wrap 0 = 0 := by decide +kernel
    have wr_ : IntKind.i64.wrap 0 = 0 := by decide +kernel
    clear hW hc hf
    simp only [List.take_succ_cons, List.take_zero, List.drop_succ_cons, List.drop_zero]
    repeat still_step
    refine wpStill_nil ?_
    clear wj wr_
    go_wp2
    refine ⟨⟨1, by omega, rfl, ?_⟩, by simp [intOf]; omega⟩
    rw [HV'.out, HR.out]
    exact ⟨HW.out.set 1 0 X rfl⟩
   ·as_aux_lemma =>
    subst h
    clear HK
    have hV2 : V < 256 := hV
    have hy2 : y < 256 := hy
    have hR := rd_1 V y hV2 hy2
    have hx0 : V % 67108864 < 256 := by omega
    have hc := (H.out.cell 1 0 rfl (by show _ < 5; decide)).1
    have hf := (H.out.cell 1 0 rfl (by show _ < 5; decide)).2
    have hcv : (limbs V).getD 0 0 = V % 67108864 := rfl
    rw [hcv] at hc
    clear hcv
    generalize V % 67108864 = X0 at hR hx0 hc
    have E : bits .or .u64 (X0 : Int) (IntKind.u64.wrap (IntKind.u64.wrap (y : Int) * 256)) = ((X0 + y * 256 : Nat) : Int) := by
     have := or_shl X0 y 256 8 rfl (by decide) hx0 hy
     exact this
    have hXb : X0 + y * 256 < 67108864 := by omega
    generalize X0 + y * 256 = X at E hR hXb
    have HR := Aside0.mk hR
    have HV' : Aside0 (dv (List.take (1 + 1) (bys s)) = V + 256 * y) := ⟨HDSk.out⟩
    have t0 : decide ((1 : Int) < (s.size : Int)) = true := decide_eq_true (by omega)
    have hle : 1 < s.size := hlt
    have t00 : (1 : Int) < (s.size : Int) := by omega
    clear hV hV2 hR hx0 hy hy2 h16 HDSk
    simp only [adr] at hc hf
    rw [show ((1 : Nat) : Int) = 1 from rfl]
    have t1 : decide (0 < (X : Int) / 67108864) = false := decide_eq_false (by omega)
    have t2 : decide (0 < X / 67108864) = false := decide_eq_false (by omega)
    clear hXb
    go_wp2_with (fail)
    refine wp_still_tail 13 (by kernel_rfl) (by kernel_rfl) ?_
    intro W hW
    have g1 : W.cell? ⟨w.heap.size + 1, 0, none⟩ = some (.int .u64 (X0 : Int)) := by rw [hW]; exact hc
    have gf : W.frozen? ⟨w.heap.size + 1, 0, none⟩ = false := by rw [hW]; exact hf
    have HW : Aside0 (PN w [List.replicate 5 0, limbs V] W) := ⟨by rw [hW]; exact H.out.drew⟩
    have wj : IntKind.i64.wrap 0 = 0 := by decide +kernel
    have wr_ : IntKind.i64.wrap 8 = 8 := by decide +kernel
    clear hW hc hf
    simp only [List.take_succ_cons, List.take_zero, List.drop_succ_cons, List.drop_zero]
    repeat still_step
    refine wpStill_nil ?_
    clear wj wr_
    go_wp2
    refine ⟨⟨2, by omega, rfl, ?_⟩, by simp [intOf]; omega⟩
    rw [HV'.out, HR.out]
    exact ⟨HW.out.set 1 0 X rfl⟩
   ·as_aux_lemma =>
    subst h
    clear HK
    have hV2 : V < 65536 := hV
    have hy2 : y < 256 := hy
    have hR := rd_2 V y hV2 hy2
    have hx0 : V % 67108864 < 65536 := by omega
    have hc := (H.out.cell 1 0 rfl (by show _ < 5; decide)).1
    have hf := (H.out.cell 1 0 rfl (by show _ < 5; decide)).2
    have hcv : (limbs V).getD 0 0 = V % 67108864 := rfl
    rw [hcv] at hc
    clear hcv
    generalize V % 67108864 = X0 at hR hx0 hc
    have E : bits .or .u64 (X0 : Int) (IntKind.u64.wrap (IntKind.u64.wrap (y : Int) * 65536)) = ((X0 + y * 65536 : Nat) : Int) := by
     have := or_shl X0 y 65536 16 rfl (by decide) hx0 hy
     exact this
    have hXb : X0 + y * 65536 < 67108864 := by omega
    generalize X0 + y * 65536 = X at E hR hXb
    have HR := Aside0.mk hR
    have HV' : Aside0 (dv (List.take (2 + 1) (bys s)) = V + 65536 * y) := ⟨HDSk.out⟩
    have t0 : decide ((2 : Int) < (s.size : Int)) = true := decide_eq_true (by omega)
    have hle : 2 < s.size := hlt
    have t00 : (2 : Int) < (s.size : Int) := by omega
    clear hV hV2 hR hx0 hy hy2 h16 HDSk
    simp only [adr] at hc hf
    rw [show ((2 : Nat) : Int) = 2 from rfl]
    have t1 : decide (0 < (X : Int) / 67108864) = false := decide_eq_false (by omega)
    have t2 : decide (0 < X / 67108864) = false := decide_eq_false (by omega)
    clear hXb
    go_wp2_with (fail)
    refine wp_still_tail 13 (by kernel_rfl) (by kernel_rfl) ?_
    intro W hW
    have g1 : W.cell? ⟨w.heap.size + 1, 0, none⟩ = some (.int .u64 (X0 : Int)) := by rw [hW]; exact hc
    have gf : W.frozen? ⟨w.heap.size + 1, 0, none⟩ = false := by rw [hW]; exact hf
    have HW : Aside0 (PN w [List.replicate 5 0, limbs V] W) := ⟨by rw [hW]; exact H.out.drew⟩
    have wj : IntKind.i64.wrap 0 = 0 := by decide +kernel
    have wr_ : IntKind.i64.wrap 16 = 16 := by decide +kernel
    clear hW hc hf
    simp only [List.take_succ_cons, List.take_zero, List.drop_succ_cons, List.drop_zero]
    repeat still_step
    refine wpStill_nil ?_
    clear wj wr_
    go_wp2
    refine ⟨⟨3, by omega, rfl, ?_⟩, by simp [intOf]; omega⟩
    rw [HV'.out, HR.out]
    exact ⟨HW.out.set 1 0 X rfl⟩
   ·as_aux_lemma =>
    subst h
    clear HK
    have hV2 : V < 16777216 := hV
    have hy2 : y < 256 := hy
    have hR := rd_3 V y hV2 hy2
    have hx0 : V % 67108864 < 16777216 := by omega
    have hc := (H.out.cell 1 0 rfl (by show _ < 5; decide)).1
    have hf := (H.out.cell 1 0 rfl (by show _ < 5; decide)).2
    have hcv : (limbs V).getD 0 0 = V % 67108864 := rfl
    rw [hcv] at hc
    clear hcv
    have hc1 := (H.out.cell 1 1 rfl (by show _ < 5; decide)).1
    have hf1 := (H.out.cell 1 1 rfl (by show _ < 5; decide)).2
    have hcv1 : (limbs V).getD 1 0 = V / 67108864 % 67108864 := rfl
    have hz1 : V / 67108864 % 67108864 = 0 := by omega
    rw [hcv1, hz1] at hc1
    clear hcv1
    generalize V % 67108864 = X0 at hR hx0 hc
    have E : bits .or .u64 (X0 : Int) (IntKind.u64.wrap (IntKind.u64.wrap (y : Int) * 16777216)) = ((X0 + y * 16777216 : Nat) : Int) := by
     have := or_shl X0 y 16777216 24 rfl (by decide) hx0 hy
     exact this
    have hXb : X0 + y * 16777216 < 17179869184 := by omega
    generalize X0 + y * 16777216 = X at E hR hXb
    have HR := Aside0.mk hR
    have HV' : Aside0 (dv (List.take (3 + 1) (bys s)) = V + 16777216 * y) := ⟨HDSk.out⟩
    have t0 : decide ((3 : Int) < (s.size : Int)) = true := decide_eq_true (by omega)
    have hle : 3 < s.size := hlt
    have t00 : (3 : Int) < (s.size : Int) := by omega
    clear hV hV2 hR hx0 hy hy2 h16 HDSk
    simp only [adr] at hc hf hc1 hf1
    rw [show ((3 : Nat) : Int) = 3 from rfl]
    by_cases hov : 67108864 ≤ X
    ·as_aux_lemma =>
     have t1 : decide (0 < (X : Int) / 67108864) = true := decide_eq_true (by omega)
     have t2 : decide (0 < X / 67108864) = true := decide_eq_true (by omega)
     have hm := mask26 X (by omega)
     have ho := or_zero64 (X / 67108864) (by omega)
     rw [show ((X / 67108864 : Nat) : Int) = (X : Int) / 67108864 by simp] at ho
     clear hXb hz1
     go_wp2_with (fail)
     refine wp_still_tail 13 (by kernel_rfl) (by kernel_rfl) ?_
     intro W hW
     have g1 : W.cell? ⟨w.heap.size + 1, 0, none⟩ = some (.int .u64 (X0 : Int)) := by rw [hW]; exact hc
     have gf : W.frozen? ⟨w.heap.size + 1, 0, none⟩ = false := by rw [hW]; exact hf
     have HW : Aside0 (PN w [List.replicate 5 0, limbs V] W) := ⟨by rw [hW]; exact H.out.drew⟩
     have wj : IntKind.i64.wrap 0 = 0 := by decide +kernel
     have wr_ : IntKind.i64.wrap 24 = 24 := by decide +kernel
     have g3 : W.cell? ⟨w.heap.size + 1, 1, none⟩ = some (.int .u64 0) := by rw [hW]; exact hc1
     have gf3 : W.frozen? ⟨w.heap.size + 1, 1, none⟩ = false := by rw [hW]; exact hf1
     clear hW hc hf hc1 hf1
     simp only [List.take_succ_cons, List.take_zero, List.drop_succ_cons, List.drop_zero]
     repeat still_step
     refine wpStill_nil ?_
     clear wj wr_
     go_wp2
     refine ⟨⟨4, by omega, rfl, ?_⟩, by simp [intOf]; omega⟩
     rw [HV'.out, HR.out]
     have h1 := (HW.out.set 1 0 X rfl)
     have h2 := (h1.set 1 1 (X / 67108864) (l := (limbs V).set 0 X) rfl)
     have h3 := (h2.set 1 0 (X % 67108864) (l := ((limbs V).set 0 X).set 1 (X / 67108864)) rfl)
     exact ⟨h3⟩
    ·as_aux_lemma =>
     have t1 : decide (0 < (X : Int) / 67108864) = false := decide_eq_false (by omega)
     have t2 : decide (0 < X / 67108864) = false := decide_eq_false (by omega)
     have hX0 : X / 67108864 = 0 := by omega
     have hX1 : X % 67108864 = X := by omega
     have HX0 := Aside0.mk hX0
     have HX1 := Aside0.mk hX1
     have hlz : (limbs V).set 1 0 = limbs V := by rw [← hz1]; rfl
     have HLZ := Aside0.mk hlz
     clear hXb hX0 hX1 hlz hz1
     go_wp2_with (fail)
     refine wp_still_tail 13 (by kernel_rfl) (by kernel_rfl) ?_
     intro W hW
     have g1 : W.cell? ⟨w.heap.size + 1, 0, none⟩ = some (.int .u64 (X0 : Int)) := by rw [hW]; exact hc
     have gf : W.frozen? ⟨w.heap.size + 1, 0, none⟩ = false := by rw [hW]; exact hf
     have HW : Aside0 (PN w [List.replicate 5 0, limbs V] W) := ⟨by rw [hW]; exact H.out.drew⟩
     have wj : IntKind.i64.wrap 0 = 0 := by decide +kernel
     have wr_ : IntKind.i64.wrap 24 = 24 := by decide +kernel
     have g3 : W.cell? ⟨w.heap.size + 1, 1, none⟩ = some (.int .u64 0) := by rw [hW]; exact hc1
     have gf3 : W.frozen? ⟨w.heap.size + 1, 1, none⟩ = false := by rw [hW]; exact hf1
     clear hW hc hf hc1 hf1
     simp only [List.take_succ_cons, List.take_zero, List.drop_succ_cons, List.drop_zero]
     repeat still_step
     refine wpStill_nil ?_
     clear wj wr_
     go_wp2
     refine ⟨⟨4, by omega, rfl, ?_⟩, by simp [intOf]; omega⟩
     rw [HV'.out, HR.out]
     rw [HX0.out, HX1.out, HLZ.out]
     exact ⟨HW.out.set 1 0 X rfl⟩
   ·as_aux_lemma =>
    subst h
    clear HK
    have hV2 : V < 4294967296 := hV
    have hy2 : y < 256 := hy
    have hR := rd_4 V y hV2 hy2
    have hx0 : V / 67108864 % 67108864 < 64 := by omega
    have hc := (H.out.cell 1 1 rfl (by show _ < 5; decide)).1
    have hf := (H.out.cell 1 1 rfl (by show _ < 5; decide)).2
    have hcv : (limbs V).getD 1 0 = V / 67108864 % 67108864 := rfl
    rw [hcv] at hc
    clear hcv
    generalize V / 67108864 % 67108864 = X0 at hR hx0 hc
    have E : bits .or .u64 (X0 : Int) (IntKind.u64.wrap (IntKind.u64.wrap (y : Int) * 64)) = ((X0 + y * 64 : Nat) : Int) := by
     have := or_shl X0 y 64 6 rfl (by decide) hx0 hy
     exact this
    have hXb : X0 + y * 64 < 67108864 := by omega
    generalize X0 + y * 64 = X at E hR hXb
    have HR := Aside0.mk hR
    have HV' : Aside0 (dv (List.take (4 + 1) (bys s)) = V + 4294967296 * y) := ⟨HDSk.out⟩
    have t0 : decide ((4 : Int) < (s.size : Int)) = true := decide_eq_true (by omega)
    have hle : 4 < s.size := hlt
    have t00 : (4 : Int) < (s.size : Int) := by omega
    clear hV hV2 hR hx0 hy hy2 h16 HDSk
    simp only [adr] at hc hf
    rw [show ((4 : Nat) : Int) = 4 from rfl]
    have t1 : decide (0 < (X : Int) / 67108864) = false := decide_eq_false (by omega)
    have t2 : decide (0 < X / 67108864) = false := decide_eq_false (by omega)
    clear hXb
    go_wp2_with (fail)
    refine wp_still_tail 13 (by kernel_rfl) (by kernel_rfl) ?_
    intro W hW
    have g1 : W.cell? ⟨w.heap.size + 1, 1, none⟩ = some (.int .u64 (X0 : Int)) := by rw [hW]; exact hc
    have gf : W.frozen? ⟨w.heap.size + 1, 1, none⟩ = false := by rw [hW]; exact hf
    have HW : Aside0 (PN w [List.replicate 5 0, limbs V] W) := ⟨by rw [hW]; exact H.out.drew⟩
    have wj : IntKind.i64.wrap 1 = 1 := by decide +kernel
    have wr_ : IntKind.i64.wrap 6 = 6 := by decide +kernel
    clear hW hc hf
    simp only [List.take_succ_cons, List.take_zero, List.drop_succ_cons, List.drop_zero]
    repeat still_step
    refine wpStill_nil ?_
    clear wj wr_
    go_wp2
    refine ⟨⟨5, by omega, rfl, ?_⟩, by simp [intOf]; omega⟩
    rw [HV'.out, HR.out]
    exact ⟨HW.out.set 1 1 X rfl⟩
   ·as_aux_lemma =>
    subst h
    clear HK
    have hV2 : V < 1099511627776 := hV
    have hy2 : y < 256 := hy
    have hR := rd_5 V y hV2 hy2
    have hx0 : V / 67108864 % 67108864 < 16384 := by omega
    have hc := (H.out.cell 1 1 rfl (by show _ < 5; decide)).1
    have hf := (H.out.cell 1 1 rfl (by show _ < 5; decide)).2
    have hcv : (limbs V).getD 1 0 = V / 67108864 % 67108864 := rfl
    rw [hcv] at hc
    clear hcv
    generalize V / 67108864 % 67108864 = X0 at hR hx0 hc
    have E : bits .or .u64 (X0 : Int) (IntKind.u64.wrap (IntKind.u64.wrap (y : Int) * 16384)) = ((X0 + y * 16384 : Nat) : Int) := by
     have := or_shl X0 y 16384 14 rfl (by decide) hx0 hy
     exact this
    have hXb : X0 + y * 16384 < 67108864 := by omega
    generalize X0 + y * 16384 = X at E hR hXb
    have HR := Aside0.mk hR
    have HV' : Aside0 (dv (List.take (5 + 1) (bys s)) = V + 1099511627776 * y) := ⟨HDSk.out⟩
    have t0 : decide ((5 : Int) < (s.size : Int)) = true := decide_eq_true (by omega)
    have hle : 5 < s.size := hlt
    have t00 : (5 : Int) < (s.size : Int) := by omega
    clear hV hV2 hR hx0 hy hy2 h16 HDSk
    simp only [adr] at hc hf
    rw [show ((5 : Nat) : Int) = 5 from rfl]
    have t1 : decide (0 < (X : Int) / 67108864) = false := decide_eq_false (by omega)
    have t2 : decide (0 < X / 67108864) = false := decide_eq_false (by omega)
    clear hXb
    go_wp2_with (fail)
    refine wp_still_tail 13 (by kernel_rfl) (by kernel_rfl) ?_
    intro W hW
    have g1 : W.cell? ⟨w.heap.size + 1, 1, none⟩ = some (.int .u64 (X0 : Int)) := by rw [hW]; exact hc
    have gf : W.frozen? ⟨w.heap.size + 1, 1, none⟩ = false := by rw [hW]; exact hf
    have HW : Aside0 (PN w [List.replicate 5 0, limbs V] W) := ⟨by rw [hW]; exact H.out.drew⟩
    have wj : IntKind.i64.wrap 1 = 1 := by decide +kernel
    have wr_ : IntKind.i64.wrap 14 = 14 := by decide +kernel
    clear hW hc hf
    simp only [List.take_succ_cons, List.take_zero, List.drop_succ_cons, List.drop_zero]
    repeat still_step
    refine wpStill_nil ?_
    clear wj wr_
    go_wp2
    refine ⟨⟨6, by omega, rfl, ?_⟩, by simp [intOf]; omega⟩
    rw [HV'.out, HR.out]
    exact ⟨HW.out.set 1 1 X rfl⟩
   ·as_aux_lemma =>
    subst h
    clear HK
    have hV2 : V < 281474976710656 := hV
    have hy2 : y < 256 := hy
    have hR := rd_6 V y hV2 hy2
    have hx0 : V / 67108864 % 67108864 < 4194304 := by omega
    have hc := (H.out.cell 1 1 rfl (by show _ < 5; decide)).1
    have hf := (H.out.cell 1 1 rfl (by show _ < 5; decide)).2
    have hcv : (limbs V).getD 1 0 = V / 67108864 % 67108864 := rfl
    rw [hcv] at hc
    clear hcv
    have hc1 := (H.out.cell 1 2 rfl (by show _ < 5; decide)).1
    have hf1 := (H.out.cell 1 2 rfl (by show _ < 5; decide)).2
    have hcv1 : (limbs V).getD 2 0 = V / 4503599627370496 % 67108864 := rfl
    have hz1 : V / 4503599627370496 % 67108864 = 0 := by omega
    rw [hcv1, hz1] at hc1
    clear hcv1
    generalize V / 67108864 % 67108864 = X0 at hR hx0 hc
    have E : bits .or .u64 (X0 : Int) (IntKind.u64.wrap (IntKind.u64.wrap (y : Int) * 4194304)) = ((X0 + y * 4194304 : Nat) : Int) := by
     have := or_shl X0 y 4194304 22 rfl (by decide) hx0 hy
     exact this
    have hXb : X0 + y * 4194304 < 17179869184 := by omega
    generalize X0 + y * 4194304 = X at E hR hXb
    have HR := Aside0.mk hR
    have HV' : Aside0 (dv (List.take (6 + 1) (bys s)) = V + 281474976710656 * y) := ⟨HDSk.out⟩
    have t0 : decide ((6 : Int) < (s.size : Int)) = true := decide_eq_true (by omega)
    have hle : 6 < s.size := hlt
    have t00 : (6 : Int) < (s.size : Int) := by omega
    clear hV hV2 hR hx0 hy hy2 h16 HDSk
    simp only [adr] at hc hf hc1 hf1
    rw [show ((6 : Nat) : Int) = 6 from rfl]
    by_cases hov : 67108864 ≤ X
    ·as_aux_lemma =>
     have t1 : decide (0 < (X : Int) / 67108864) = true := decide_eq_true (by omega)
     have t2 : decide (0 < X / 67108864) = true := decide_eq_true (by omega)
     have hm := mask26 X (by omega)
     have ho := or_zero64 (X / 67108864) (by omega)
     rw [show ((X / 67108864 : Nat) : Int) = (X : Int) / 67108864 by simp] at ho
     clear hXb hz1
     go_wp2_with (fail)
     refine wp_still_tail 13 (by kernel_rfl) (by kernel_rfl) ?_
     intro W hW
     have g1 : W.cell? ⟨w.heap.size + 1, 1, none⟩ = some (.int .u64 (X0 : Int)) := by rw [hW]; exact hc
     have gf : W.frozen? ⟨w.heap.size + 1, 1, none⟩ = false := by rw [hW]; exact hf
     have HW : Aside0 (PN w [List.replicate 5 0, limbs V] W) := ⟨by rw [hW]; exact H.out.drew⟩
     have wj : IntKind.i64.wrap 1 = 1 := by decide +kernel
     have wr_ : IntKind.i64.wrap 22 = 22 := by decide +kernel
     have g3 : W.cell? ⟨w.heap.size + 1, 2, none⟩ = some (.int .u64 0) := by rw [hW]; exact hc1
     have gf3 : W.frozen? ⟨w.heap.size + 1, 2, none⟩ = false := by rw [hW]; exact hf1
     clear hW hc hf hc1 hf1
     simp only [List.take_succ_cons, List.take_zero, List.drop_succ_cons, List.drop_zero]
     repeat still_step
     refine wpStill_nil ?_
     clear wj wr_
     go_wp2
     refine ⟨⟨7, by omega, rfl, ?_⟩, by simp [intOf]; omega⟩
     rw [HV'.out, HR.out]
     have h1 := (HW.out.set 1 1 X rfl)
     have h2 := (h1.set 1 2 (X / 67108864) (l := (limbs V).set 1 X) rfl)
     have h3 := (h2.set 1 1 (X % 67108864) (l := ((limbs V).set 1 X).set 2 (X / 67108864)) rfl)
     exact ⟨h3⟩
    ·as_aux_lemma =>
     have t1 : decide (0 < (X : Int) / 67108864) = false := decide_eq_false (by omega)
     have t2 : decide (0 < X / 67108864) = false := decide_eq_false (by omega)
     have hX0 : X / 67108864 = 0 := by omega
     have hX1 : X % 67108864 = X := by omega
     have HX0 := Aside0.mk hX0
     have HX1 := Aside0.mk hX1
     have hlz : (limbs V).set 2 0 = limbs V := by rw [← hz1]; rfl
     have HLZ := Aside0.mk hlz
     clear hXb hX0 hX1 hlz hz1
     go_wp2_with (fail)
     refine wp_still_tail 13 (by kernel_rfl) (by kernel_rfl) ?_
     intro W hW
     have g1 : W.cell? ⟨w.heap.size + 1, 1, none⟩ = some (.int .u64 (X0 : Int)) := by rw [hW]; exact hc
     have gf : W.frozen? ⟨w.heap.size + 1, 1, none⟩ = false := by rw [hW]; exact hf
     have HW : Aside0 (PN w [List.replicate 5 0, limbs V] W) := ⟨by rw [hW]; exact H.out.drew⟩
     have wj : IntKind.i64.wrap 1 = 1 := by decide +kernel
     have wr_ : IntKind.i64.wrap 22 = 22 := by decide +kernel
     have g3 : W.cell? ⟨w.heap.size + 1, 2, none⟩ = some (.int .u64 0) := by rw [hW]; exact hc1
     have gf3 : W.frozen? ⟨w.heap.size + 1, 2, none⟩ = false := by rw [hW]; exact hf1
     clear hW hc hf hc1 hf1
     simp only [List.take_succ_cons, List.take_zero, List.drop_succ_cons, List.drop_zero]
     repeat still_step
     refine wpStill_nil ?_
     clear wj wr_
     go_wp2
     refine ⟨⟨7, by omega, rfl, ?_⟩, by simp [intOf]; omega⟩
     rw [HV'.out, HR.out]
     rw [HX0.out, HX1.out, HLZ.out]
     exact ⟨HW.out.set 1 1 X rfl⟩
   ·as_aux_lemma =>
    subst h
    clear HK
    have hV2 : V < 72057594037927936 := hV
    have hy2 : y < 256 := hy
    have hR := rd_7 V y hV2 hy2
    have hx0 : V / 4503599627370496 % 67108864 < 16 := by omega
    have hc := (H.out.cell 1 2 rfl (by show _ < 5; decide)).1
    have hf := (H.out.cell 1 2 rfl (by show _ < 5; decide)).2
    have hcv : (limbs V).getD 2 0 = V / 4503599627370496 % 67108864 := rfl
    rw [hcv] at hc
    clear hcv
    generalize V / 4503599627370496 % 67108864 = X0 at hR hx0 hc
    have E : bits .or .u64 (X0 : Int) (IntKind.u64.wrap (IntKind.u64.wrap (y : Int) * 16)) = ((X0 + y * 16 : Nat) : Int) := by
     have := or_shl X0 y 16 4 rfl (by decide) hx0 hy
     exact this
    have hXb : X0 + y * 16 < 67108864 := by omega
    generalize X0 + y * 16 = X at E hR hXb
    have HR := Aside0.mk hR
    have HV' : Aside0 (dv (List.take (7 + 1) (bys s)) = V + 72057594037927936 * y) := ⟨HDSk.out⟩
    have t0 : decide ((7 : Int) < (s.size : Int)) = true := decide_eq_true (by omega)
    have hle : 7 < s.size := hlt
    have t00 : (7 : Int) < (s.size : Int) := by omega
    clear hV hV2 hR hx0 hy hy2 h16 HDSk
    simp only [adr] at hc hf
    rw [show ((7 : Nat) : Int) = 7 from rfl]
    have t1 : decide (0 < (X : Int) / 67108864) = false := decide_eq_false (by omega)
    have t2 : decide (0 < X / 67108864) = false := decide_eq_false (by omega)
    clear hXb
    go_wp2_with (fail)
    refine wp_still_tail 13 (by kernel_rfl) (by kernel_rfl) ?_
    intro W hW
    have g1 : W.cell? ⟨w.heap.size + 1, 2, none⟩ = some (.int .u64 (X0 : Int)) := by rw [hW]; exact hc
    have gf : W.frozen? ⟨w.heap.size + 1, 2, none⟩ = false := by rw [hW]; exact hf
    have HW : Aside0 (PN w [List.replicate 5 0, limbs V] W) := ⟨by rw [hW]; exact H.out.drew⟩
    have wj : IntKind.i64.wrap 2 = 2 := by decide +kernel
    have wr_ : IntKind.i64.wrap 4 = 4 := by decide +kernel
    clear hW hc hf
    simp only [List.take_succ_cons, List.take_zero, List.drop_succ_cons, List.drop_zero]
    repeat still_step
    refine wpStill_nil ?_
    clear wj wr_
    go_wp2
    refine ⟨⟨8, by omega, rfl, ?_⟩, by simp [intOf]; omega⟩
    rw [HV'.out, HR.out]
    exact ⟨HW.out.set 1 2 X rfl⟩
   ·as_aux_lemma =>
    subst h
    clear HK
    have hV2 : V < 18446744073709551616 := hV
    have hy2 : y < 256 := hy
    have hR := rd_8 V y hV2 hy2
    have hx0 : V / 4503599627370496 % 67108864 < 4096 := by omega
    have hc := (H.out.cell 1 2 rfl (by show _ < 5; decide)).1
    have hf := (H.out.cell 1 2 rfl (by show _ < 5; decide)).2
    have hcv : (limbs V).getD 2 0 = V / 4503599627370496 % 67108864 := rfl
    rw [hcv] at hc
    clear hcv
    generalize V / 4503599627370496 % 67108864 = X0 at hR hx0 hc
    have E : bits .or .u64 (X0 : Int) (IntKind.u64.wrap (IntKind.u64.wrap (y : Int) * 4096)) = ((X0 + y * 4096 : Nat) : Int) := by
     have := or_shl X0 y 4096 12 rfl (by decide) hx0 hy
     exact this
    have hXb : X0 + y * 4096 < 67108864 := by omega
    generalize X0 + y * 4096 = X at E hR hXb
    have HR := Aside0.mk hR
    have HV' : Aside0 (dv (List.take (8 + 1) (bys s)) = V + 18446744073709551616 * y) := ⟨HDSk.out⟩
    have t0 : decide ((8 : Int) < (s.size : Int)) = true := decide_eq_true (by omega)
    have hle : 8 < s.size := hlt
    have t00 : (8 : Int) < (s.size : Int) := by omega
    clear hV hV2 hR hx0 hy hy2 h16 HDSk
    simp only [adr] at hc hf
    rw [show ((8 : Nat) : Int) = 8 from rfl]
    have t1 : decide (0 < (X : Int) / 67108864) = false := decide_eq_false (by omega)
    have t2 : decide (0 < X / 67108864) = false := decide_eq_false (by omega)
    clear hXb
    go_wp2_with (fail)
    refine wp_still_tail 13 (by kernel_rfl) (by kernel_rfl) ?_
    intro W hW
    have g1 : W.cell? ⟨w.heap.size + 1, 2, none⟩ = some (.int .u64 (X0 : Int)) := by rw [hW]; exact hc
    have gf : W.frozen? ⟨w.heap.size + 1, 2, none⟩ = false := by rw [hW]; exact hf
    have HW : Aside0 (PN w [List.replicate 5 0, limbs V] W) := ⟨by rw [hW]; exact H.out.drew⟩
    have wj : IntKind.i64.wrap 2 = 2 := by decide +kernel
    have wr_ : IntKind.i64.wrap 12 = 12 := by decide +kernel
    clear hW hc hf
    simp only [List.take_succ_cons, List.take_zero, List.drop_succ_cons, List.drop_zero]
    repeat still_step
    refine wpStill_nil ?_
    clear wj wr_
    go_wp2
    refine ⟨⟨9, by omega, rfl, ?_⟩, by simp [intOf]; omega⟩
    rw [HV'.out, HR.out]
    exact ⟨HW.out.set 1 2 X rfl⟩
   ·as_aux_lemma =>
    subst h
    clear HK
    have hV2 : V < 4722366482869645213696 := hV
    have hy2 : y < 256 := hy
    have hR := rd_9 V y hV2 hy2
    have hx0 : V / 4503599627370496 % 67108864 < 1048576 := by omega
    have hc := (H.out.cell 1 2 rfl (by show _ < 5; decide)).1
    have hf := (H.out.cell 1 2 rfl (by show _ < 5; decide)).2
    have hcv : (limbs V).getD 2 0 = V / 4503599627370496 % 67108864 := rfl
    rw [hcv] at hc
    clear hcv
    have hc1 := (H.out.cell 1 3 rfl (by show _ < 5; decide)).1
    have hf1 := (H.out.cell 1 3 rfl (by show _ < 5; decide)).2
    have hcv1 : (limbs V).getD 3 0 = V / 302231454903657293676544 % 67108864 := rfl
    have hz1 : V / 302231454903657293676544 % 67108864 = 0 := by omega
    rw [hcv1, hz1] at hc1
    clear hcv1
    generalize V / 4503599627370496 % 67108864 = X0 at hR hx0 hc
    have E : bits .or .u64 (X0 : Int) (IntKind.u64.wrap (IntKind.u64.wrap (y : Int) * 1048576)) = ((X0 + y * 1048576 : Nat) : Int) := by
     have := or_shl X0 y 1048576 20 rfl (by decide) hx0 hy
     exact this
    have hXb : X0 + y * 1048576 < 17179869184 := by omega
    generalize X0 + y * 1048576 = X at E hR hXb
    have HR := Aside0.mk hR
    have HV' : Aside0 (dv (List.take (9 + 1) (bys s)) = V + 4722366482869645213696 * y) := ⟨HDSk.out⟩
    have t0 : decide ((9 : Int) < (s.size : Int)) = true := decide_eq_true (by omega)
    have hle : 9 < s.size := hlt
    have t00 : (9 : Int) < (s.size : Int) := by omega
    clear hV hV2 hR hx0 hy hy2 h16 HDSk
    simp only [adr] at hc hf hc1 hf1
    rw [show ((9 : Nat) : Int) = 9 from rfl]
    by_cases hov : 67108864 ≤ X
    ·as_aux_lemma =>
     have t1 : decide (0 < (X : Int) / 67108864) = true := decide_eq_true (by omega)
     have t2 : decide (0 < X / 67108864) = true := decide_eq_true (by omega)
     have hm := mask26 X (by omega)
     have ho := or_zero64 (X / 67108864) (by omega)
     rw [show ((X / 67108864 : Nat) : Int) = (X : Int) / 67108864 by simp] at ho
     clear hXb hz1
     go_wp2_with (fail)
     refine wp_still_tail 13 (by kernel_rfl) (by kernel_rfl) ?_
     intro W hW
     have g1 : W.cell? ⟨w.heap.size + 1, 2, none⟩ = some (.int .u64 (X0 : Int)) := by rw [hW]; exact hc
     have gf : W.frozen? ⟨w.heap.size + 1, 2, none⟩ = false := by rw [hW]; exact hf
     have HW : Aside0 (PN w [List.replicate 5 0, limbs V] W) := ⟨by rw [hW]; exact H.out.drew⟩
     have wj : IntKind.i64.wrap 2 = 2 := by decide +kernel
     have wr_ : IntKind.i64.wrap 20 = 20 := by decide +kernel
     have g3 : W.cell? ⟨w.heap.size + 1, 3, none⟩ = some (.int .u64 0) := by rw [hW]; exact hc1
     have gf3 : W.frozen? ⟨w.heap.size + 1, 3, none⟩ = false := by rw [hW]; exact hf1
     clear hW hc hf hc1 hf1
     simp only [List.take_succ_cons, List.take_zero, List.drop_succ_cons, List.drop_zero]
     repeat still_step
     refine wpStill_nil ?_
     clear wj wr_
     go_wp2
     refine ⟨⟨10, by omega, rfl, ?_⟩, by simp [intOf]; omega⟩
     rw [HV'.out, HR.out]
     have h1 := (HW.out.set 1 2 X rfl)
     have h2 := (h1.set 1 3 (X / 67108864) (l := (limbs V).set 2 X) rfl)
     have h3 := (h2.set 1 2 (X % 67108864) (l := ((limbs V).set 2 X).set 3 (X / 67108864)) rfl)
     exact ⟨h3⟩
    ·as_aux_lemma =>
     have t1 : decide (0 < (X : Int) / 67108864) = false := decide_eq_false (by omega)
     have t2 : decide (0 < X / 67108864) = false := decide_eq_false (by omega)
     have hX0 : X / 67108864 = 0 := by omega
     have hX1 : X % 67108864 = X := by omega
     have HX0 := Aside0.mk hX0
     have HX1 := Aside0.mk hX1
     have hlz : (limbs V).set 3 0 = limbs V := by rw [← hz1]; rfl
     have HLZ := Aside0.mk hlz
     clear hXb hX0 hX1 hlz hz1
     go_wp2_with (fail)
     refine wp_still_tail 13 (by kernel_rfl) (by kernel_rfl) ?_
     intro W hW
     have g1 : W.cell? ⟨w.heap.size + 1, 2, none⟩ = some (.int .u64 (X0 : Int)) := by rw [hW]; exact hc
     have gf : W.frozen? ⟨w.heap.size + 1, 2, none⟩ = false := by rw [hW]; exact hf
     have HW : Aside0 (PN w [List.replicate 5 0, limbs V] W) := ⟨by rw [hW]; exact H.out.drew⟩
     have wj : IntKind.i64.wrap 2 = 2 := by decide +kernel
     have wr_ : IntKind.i64.wrap 20 = 20 := by decide +kernel
     have g3 : W.cell? ⟨w.heap.size + 1, 3, none⟩ = some (.int .u64 0) := by rw [hW]; exact hc1
     have gf3 : W.frozen? ⟨w.heap.size + 1, 3, none⟩ = false := by rw [hW]; exact hf1
     clear hW hc hf hc1 hf1
     simp only [List.take_succ_cons, List.take_zero, List.drop_succ_cons, List.drop_zero]
     repeat still_step
     refine wpStill_nil ?_
     clear wj wr_
     go_wp2
     refine ⟨⟨10, by omega, rfl, ?_⟩, by simp [intOf]; omega⟩
     rw [HV'.out, HR.out]
     rw [HX0.out, HX1.out, HLZ.out]
     exact ⟨HW.out.set 1 2 X rfl⟩
   ·as_aux_lemma =>
    subst h
    clear HK
    have hV2 : V < 1208925819614629174706176 := hV
    have hy2 : y < 256 := hy
    have hR := rd_10 V y hV2 hy2
    have hx0 : V / 302231454903657293676544 % 67108864 < 4 := by omega
    have hc := (H.out.cell 1 3 rfl (by show _ < 5; decide)).1
    have hf := (H.out.cell 1 3 rfl (by show _ < 5; decide)).2
    have hcv : (limbs V).getD 3 0 = V / 302231454903657293676544 % 67108864 := rfl
    rw [hcv] at hc
    clear hcv
    generalize V / 302231454903657293676544 % 67108864 = X0 at hR hx0 hc
    have E : bits .or .u64 (X0 : Int) (IntKind.u64.wrap (IntKind.u64.wrap (y : Int) * 4)) = ((X0 + y * 4 : Nat) : Int) := by
     have := or_shl X0 y 4 2 rfl (by decide) hx0 hy
     exact this
    have hXb : X0 + y * 4 < 67108864 := by omega
    generalize X0 + y * 4 = X at E hR hXb
    have HR := Aside0.mk hR
    have HV' : Aside0 (dv (List.take (10 + 1) (bys s)) = V + 1208925819614629174706176 * y) := ⟨HDSk.out⟩
    have t0 : decide ((10 : Int) < (s.size : Int)) = true := decide_eq_true (by omega)
    have hle : 10 < s.size := hlt
    have t00 : (10 : Int) < (s.size : Int) := by omega
    clear hV hV2 hR hx0 hy hy2 h16 HDSk
    simp only [adr] at hc hf
    rw [show ((10 : Nat) : Int) = 10 from rfl]
    have t1 : decide (0 < (X : Int) / 67108864) = false := decide_eq_false (by omega)
    have t2 : decide (0 < X / 67108864) = false := decide_eq_false (by omega)
    clear hXb
    go_wp2_with (fail)
    refine wp_still_tail 13 (by kernel_rfl) (by kernel_rfl) ?_
    intro W hW
    have g1 : W.cell? ⟨w.heap.size + 1, 3, none⟩ = some (.int .u64 (X0 : Int)) := by rw [hW]; exact hc
    have gf : W.frozen? ⟨w.heap.size + 1, 3, none⟩ = false := by rw [hW]; exact hf
    have HW : Aside0 (PN w [List.replicate 5 0, limbs V] W) := ⟨by rw [hW]; exact H.out.drew⟩
    have wj : IntKind.i64.wrap 3 = 3 := by decide +kernel
    have wr_ : IntKind.i64.wrap 2 = 2 := by decide +kernel
    clear hW hc hf
    simp only [List.take_succ_cons, List.take_zero, List.drop_succ_cons, List.drop_zero]
    repeat still_step
    refine wpStill_nil ?_
    clear wj wr_
    go_wp2
    refine ⟨⟨11, by omega, rfl, ?_⟩, by simp [intOf]; omega⟩
    rw [HV'.out, HR.out]
    exact ⟨HW.out.set 1 3 X rfl⟩
   ·as_aux_lemma =>
    subst h
    clear HK
    have hV2 : V < 309485009821345068724781056 := hV
    have hy2 : y < 256 := hy
    have hR := rd_11 V y hV2 hy2
    have hx0 : V / 302231454903657293676544 % 67108864 < 1024 := by omega
    have hc := (H.out.cell 1 3 rfl (by show _ < 5; decide)).1
    have hf := (H.out.cell 1 3 rfl (by show _ < 5; decide)).2
    have hcv : (limbs V).getD 3 0 = V / 302231454903657293676544 % 67108864 := rfl
    rw [hcv] at hc
    clear hcv
    generalize V / 302231454903657293676544 % 67108864 = X0 at hR hx0 hc
    have E : bits .or .u64 (X0 : Int) (IntKind.u64.wrap (IntKind.u64.wrap (y : Int) * 1024)) = ((X0 + y * 1024 : Nat) : Int) := by
     have := or_shl X0 y 1024 10 rfl (by decide) hx0 hy
     exact this
    have hXb : X0 + y * 1024 < 67108864 := by omega
    generalize X0 + y * 1024 = X at E hR hXb
    have HR := Aside0.mk hR
    have HV' : Aside0 (dv (List.take (11 + 1) (bys s)) = V + 309485009821345068724781056 * y) := ⟨HDSk.out⟩
    have t0 : decide ((11 : Int) < (s.size : Int)) = true := decide_eq_true (by omega)
    have hle : 11 < s.size := hlt
    have t00 : (11 : Int) < (s.size : Int) := by omega
    clear hV hV2 hR hx0 hy hy2 h16 HDSk
    simp only [adr] at hc hf
    rw [show ((11 : Nat) : Int) = 11 from rfl]
    have t1 : decide (0 < (X : Int) / 67108864) = false := decide_eq_false (by omega)
    have t2 : decide (0 < X / 67108864) = false := decide_eq_false (by omega)
    clear hXb
    go_wp2_with (fail)
    refine wp_still_tail 13 (by kernel_rfl) (by kernel_rfl) ?_
    intro W hW
    have g1 : W.cell? ⟨w.heap.size + 1, 3, none⟩ = some (.int .u64 (X0 : Int)) := by rw [hW]; exact hc
    have gf : W.frozen? ⟨w.heap.size + 1, 3, none⟩ = false := by rw [hW]; exact hf
    have HW : Aside0 (PN w [List.replicate 5 0, limbs V] W) := ⟨by rw [hW]; exact H.out.drew⟩
    have wj : IntKind.i64.wrap 3 = 3 := by decide +kernel
    have wr_ : IntKind.i64.wrap 10 = 10 := by decide +kernel
    clear hW hc hf
    simp only [List.take_succ_cons, List.take_zero, List.drop_succ_cons, List.drop_zero]
    repeat still_step
    refine wpStill_nil ?_
    clear wj wr_
    go_wp2
    refine ⟨⟨12, by omega, rfl, ?_⟩, by simp [intOf]; omega⟩
    rw [HV'.out, HR.out]
    exact ⟨HW.out.set 1 3 X rfl⟩
   ·as_aux_lemma =>
    subst h
    clear HK
    have hV2 : V < 79228162514264337593543950336 := hV
    have hy2 : y < 256 := hy
    have hR := rd_12 V y hV2 hy2
    have hx0 : V / 302231454903657293676544 % 67108864 < 262144 := by omega
    have hc := (H.out.cell 1 3 rfl (by show _ < 5; decide)).1
    have hf := (H.out.cell 1 3 rfl (by show _ < 5; decide)).2
    have hcv : (limbs V).getD 3 0 = V / 302231454903657293676544 % 67108864 := rfl
    rw [hcv] at hc
    clear hcv
    generalize V / 302231454903657293676544 % 67108864 = X0 at hR hx0 hc
    have E : bits .or .u64 (X0 : Int) (IntKind.u64.wrap (IntKind.u64.wrap (y : Int) * 262144)) = ((X0 + y * 262144 : Nat) : Int) := by
     have := or_shl X0 y 262144 18 rfl (by decide) hx0 hy
     exact this
    have hXb : X0 + y * 262144 < 67108864 := by omega
    generalize X0 + y * 262144 = X at E hR hXb
    have HR := Aside0.mk hR
    have HV' : Aside0 (dv (List.take (12 + 1) (bys s)) = V + 79228162514264337593543950336 * y) := ⟨HDSk.out⟩
    have t0 : decide ((12 : Int) < (s.size : Int)) = true := decide_eq_true (by omega)
    have hle : 12 < s.size := hlt
    have t00 : (12 : Int) < (s.size : Int) := by omega
    clear hV hV2 hR hx0 hy hy2 h16 HDSk
    simp only [adr] at hc hf
    rw [show ((12 : Nat) : Int) = 12 from rfl]
    have t1 : decide (0 < (X : Int) / 67108864) = false := decide_eq_false (by omega)
    have t2 : decide (0 < X / 67108864) = false := decide_eq_false (by omega)
    clear hXb
    go_wp2_with (fail)
    refine wp_still_tail 13 (by kernel_rfl) (by kernel_rfl) ?_
    intro W hW
    have g1 : W.cell? ⟨w.heap.size + 1, 3, none⟩ = some (.int .u64 (X0 : Int)) := by rw [hW]; exact hc
    have gf : W.frozen? ⟨w.heap.size + 1, 3, none⟩ = false := by rw [hW]; exact hf
    have HW : Aside0 (PN w [List.replicate 5 0, limbs V] W) := ⟨by rw [hW]; exact H.out.drew⟩
    have wj : IntKind.i64.wrap 3 = 3 := by decide +kernel
    have wr_ : IntKind.i64.wrap 18 = 18 := by decide +kernel
    clear hW hc hf
    simp only [List.take_succ_cons, List.take_zero, List.drop_succ_cons, List.drop_zero]
    repeat still_step
    refine wpStill_nil ?_
    clear wj wr_
    go_wp2
    refine ⟨⟨13, by omega, rfl, ?_⟩, by simp [intOf]; omega⟩
    rw [HV'.out, HR.out]
    exact ⟨HW.out.set 1 3 X rfl⟩
   ·as_aux_lemma =>
    subst h
    clear HK
    have hV2 : V < 20282409603651670423947251286016 := hV
    have hy2 : y < 256 := hy
    have hR := rd_13 V y hV2 hy2
    have hx0 : V / 20282409603651670423947251286016 % 67108864 < 1 := by omega
    have hc := (H.out.cell 1 4 rfl (by show _ < 5; decide)).1
    have hf := (H.out.cell 1 4 rfl (by show _ < 5; decide)).2
    have hcv : (limbs V).getD 4 0 = V / 20282409603651670423947251286016 % 67108864 := rfl
    rw [hcv] at hc
    clear hcv
    generalize V / 20282409603651670423947251286016 % 67108864 = X0 at hR hx0 hc
    have E : bits .or .u64 (X0 : Int) (IntKind.u64.wrap (IntKind.u64.wrap (y : Int))) = ((X0 + y * 1 : Nat) : Int) := by
     have := or_shl X0 y 1 0 rfl (by decide) hx0 hy
     rw [show ((1 : Nat) : Int) = 1 from rfl, Int.mul_one, wraps_u64 (y : Int) (by omega) (by omega), wraps_u64 (y : Int) (by omega) (by omega)] at this
     rw [wraps_u64 (y : Int) (by omega) (by omega), wraps_u64 (y : Int) (by omega) (by omega), this, Nat.mul_one]
    have hXb : X0 + y * 1 < 67108864 := by omega
    generalize X0 + y * 1 = X at E hR hXb
    have HR := Aside0.mk hR
    have HV' : Aside0 (dv (List.take (13 + 1) (bys s)) = V + 20282409603651670423947251286016 * y) := ⟨HDSk.out⟩
    have t0 : decide ((13 : Int) < (s.size : Int)) = true := decide_eq_true (by omega)
    have hle : 13 < s.size := hlt
    have t00 : (13 : Int) < (s.size : Int) := by omega
    clear hV hV2 hR hx0 hy hy2 h16 HDSk
    simp only [adr] at hc hf
    rw [show ((13 : Nat) : Int) = 13 from rfl]
    have t1 : decide (0 < (X : Int) / 67108864) = false := decide_eq_false (by omega)
    have t2 : decide (0 < X / 67108864) = false := decide_eq_false (by omega)
    clear hXb
    go_wp2_with (fail)
    refine wp_still_tail 13 (by kernel_rfl) (by kernel_rfl) ?_
    intro W hW
    have g1 : W.cell? ⟨w.heap.size + 1, 4, none⟩ = some (.int .u64 (X0 : Int)) := by rw [hW]; exact hc
    have gf : W.frozen? ⟨w.heap.size + 1, 4, none⟩ = false := by rw [hW]; exact hf
    have HW : Aside0 (PN w [List.replicate 5 0, limbs V] W) := ⟨by rw [hW]; exact H.out.drew⟩
    have wj : IntKind.i64.wrap 4 = 4 := by decide +kernel
    have wr_ : IntKind.i64.wrap 0 = 0 := by decide +kernel
    clear hW hc hf
    simp only [List.take_succ_cons, List.take_zero, List.drop_succ_cons, List.drop_zero]
    repeat still_step
    refine wpStill_nil ?_
    clear wj wr_
    go_wp2
    refine ⟨⟨14, by omega, rfl, ?_⟩, by simp [intOf]; omega⟩
    rw [HV'.out, HR.out]
    exact ⟨HW.out.set 1 4 X rfl⟩
   ·as_aux_lemma =>
    subst h
    clear HK
    have hV2 : V < 5192296858534827628530496329220096 := hV
    have hy2 : y < 256 := hy
    have hR := rd_14 V y hV2 hy2
    have hx0 : V / 20282409603651670423947251286016 % 67108864 < 256 := by omega
    have hc := (H.out.cell 1 4 rfl (by show _ < 5; decide)).1
    have hf := (H.out.cell 1 4 rfl (by show _ < 5; decide)).2
    have hcv : (limbs V).getD 4 0 = V / 20282409603651670423947251286016 % 67108864 := rfl
    rw [hcv] at hc
    clear hcv
    generalize V / 20282409603651670423947251286016 % 67108864 = X0 at hR hx0 hc
    have E : bits .or .u64 (X0 : Int) (IntKind.u64.wrap (IntKind.u64.wrap (y : Int) * 256)) = ((X0 + y * 256 : Nat) : Int) := by
     have := or_shl X0 y 256 8 rfl (by decide) hx0 hy
     exact this
    have hXb : X0 + y * 256 < 67108864 := by omega
    generalize X0 + y * 256 = X at E hR hXb
    have HR := Aside0.mk hR
    have HV' : Aside0 (dv (List.take (14 + 1) (bys s)) = V + 5192296858534827628530496329220096 * y) := ⟨HDSk.out⟩
    have t0 : decide ((14 : Int) < (s.size : Int)) = true := decide_eq_true (by omega)
    have hle : 14 < s.size := hlt
    have t00 : (14 : Int) < (s.size : Int) := by omega
    clear hV hV2 hR hx0 hy hy2 h16 HDSk
    simp only [adr] at hc hf
    rw [show ((14 : Nat) : Int) = 14 from rfl]
    have t1 : decide (0 < (X : Int) / 67108864) = false := decide_eq_false (by omega)
    have t2 : decide (0 < X / 67108864) = false := decide_eq_false (by omega)
    clear hXb
    go_wp2_with (fail)
    refine wp_still_tail 13 (by kernel_rfl) (by kernel_rfl) ?_
    intro W hW
    have g1 : W.cell? ⟨w.heap.size + 1, 4, none⟩ = some (.int .u64 (X0 : Int)) := by rw [hW]; exact hc
    have gf : W.frozen? ⟨w.heap.size + 1, 4, none⟩ = false := by rw [hW]; exact hf
    have HW : Aside0 (PN w [List.replicate 5 0, limbs V] W) := ⟨by rw [hW]; exact H.out.drew⟩
    have wj : IntKind.i64.wrap 4 = 4 := by decide +kernel
    have wr_ : IntKind.i64.wrap 8 = 8 := by decide +kernel
    clear hW hc hf
    simp only [List.take_succ_cons, List.take_zero, List.drop_succ_cons, List.drop_zero]
    repeat still_step
    refine wpStill_nil ?_
    clear wj wr_
    go_wp2
    refine ⟨⟨15, by omega, rfl, ?_⟩, by simp [intOf]; omega⟩
    rw [HV'.out, HR.out]
    exact ⟨HW.out.set 1 4 X rfl⟩
   ·as_aux_lemma =>
    subst h
    clear HK
    have hV2 : V < 1329227995784915872903807060280344576 := hV
    have hy2 : y < 256 := hy
    have hR := rd_15 V y hV2 hy2
    have hx0 : V / 20282409603651670423947251286016 % 67108864 < 65536 := by omega
    have hc := (H.out.cell 1 4 rfl (by show _ < 5; decide)).1
    have hf := (H.out.cell 1 4 rfl (by show _ < 5; decide)).2
    have hcv : (limbs V).getD 4 0 = V / 20282409603651670423947251286016 % 67108864 := rfl
    rw [hcv] at hc
    clear hcv
    generalize V / 20282409603651670423947251286016 % 67108864 = X0 at hR hx0 hc
    have E : bits .or .u64 (X0 : Int) (IntKind.u64.wrap (IntKind.u64.wrap (y : Int) * 65536)) = ((X0 + y * 65536 : Nat) : Int) := by
     have := or_shl X0 y 65536 16 rfl (by decide) hx0 hy
     exact this
    have hXb : X0 + y * 65536 < 67108864 := by omega
    generalize X0 + y * 65536 = X at E hR hXb
    have HR := Aside0.mk hR
    have HV' : Aside0 (dv (List.take (15 + 1) (bys s)) = V + 1329227995784915872903807060280344576 * y) := ⟨HDSk.out⟩
    have t0 : decide ((15 : Int) < (s.size : Int)) = true := decide_eq_true (by omega)
    have hle : 15 < s.size := hlt
    have t00 : (15 : Int) < (s.size : Int) := by omega
    clear hV hV2 hR hx0 hy hy2 h16 HDSk
    simp only [adr] at hc hf
    rw [show ((15 : Nat) : Int) = 15 from rfl]
    have t1 : decide (0 < (X : Int) / 67108864) = false := decide_eq_false (by omega)
    have t2 : decide (0 < X / 67108864) = false := decide_eq_false (by omega)
    clear hXb
    go_wp2_with (fail)
    refine wp_still_tail 13 (by kernel_rfl) (by kernel_rfl) ?_
    intro W hW
    have g1 : W.cell? ⟨w.heap.size + 1, 4, none⟩ = some (.int .u64 (X0 : Int)) := by rw [hW]; exact hc
    have gf : W.frozen? ⟨w.heap.size + 1, 4, none⟩ = false := by rw [hW]; exact hf
    have HW : Aside0 (PN w [List.replicate 5 0, limbs V] W) := ⟨by rw [hW]; exact H.out.drew⟩
    have wj : IntKind.i64.wrap 4 = 4 := by decide +kernel
    have wr_ : IntKind.i64.wrap 16 = 16 := by decide +kernel
    clear hW hc hf
    simp only [List.take_succ_cons, List.take_zero, List.drop_succ_cons, List.drop_zero]
    repeat still_step
    refine wpStill_nil ?_
    clear wj wr_
    go_wp2
    refine ⟨⟨16, by omega, rfl, ?_⟩, by simp [intOf]; omega⟩
    rw [HV'.out, HR.out]
    exact ⟨HW.out.set 1 4 X rfl⟩
   ·as_aux_lemma =>
    subst h
    clear HK
    have hV2 : V < 340282366920938463463374607431768211456 := hV
    have hy2 : y < 4 := h16 rfl
    have hR := rd_16 V y hV2 hy2
    have hx0 : V / 20282409603651670423947251286016 % 67108864 < 16777216 := by omega
    have hc := (H.out.cell 1 4 rfl (by show _ < 5; decide)).1
    have hf := (H.out.cell 1 4 rfl (by show _ < 5; decide)).2
    have hcv : (limbs V).getD 4 0 = V / 20282409603651670423947251286016 % 67108864 := rfl
    rw [hcv] at hc
    clear hcv
    generalize V / 20282409603651670423947251286016 % 67108864 = X0 at hR hx0 hc
    have E : bits .or .u64 (X0 : Int) (IntKind.u64.wrap (IntKind.u64.wrap (y : Int) * 16777216)) = ((X0 + y * 16777216 : Nat) : Int) := by
     have := or_shl X0 y 16777216 24 rfl (by decide) hx0 hy
     exact this
    have hXb : X0 + y * 16777216 < 67108864 := by omega
    generalize X0 + y * 16777216 = X at E hR hXb
    have HR := Aside0.mk hR
    have HV' : Aside0 (dv (List.take (16 + 1) (bys s)) = V + 340282366920938463463374607431768211456 * y) := ⟨HDSk.out⟩
    have t0 : decide ((16 : Int) < (s.size : Int)) = true := decide_eq_true (by omega)
    have hle : 16 < s.size := hlt
    have t00 : (16 : Int) < (s.size : Int) := by omega
    clear hV hV2 hR hx0 hy hy2 h16 HDSk
    simp only [adr] at hc hf
    rw [show ((16 : Nat) : Int) = 16 from rfl]
    have t1 : decide (0 < (X : Int) / 67108864) = false := decide_eq_false (by omega)
    have t2 : decide (0 < X / 67108864) = false := decide_eq_false (by omega)
    clear hXb
    go_wp2_with (fail)
    refine wp_still_tail 13 (by kernel_rfl) (by kernel_rfl) ?_
    intro W hW
    have g1 : W.cell? ⟨w.heap.size + 1, 4, none⟩ = some (.int .u64 (X0 : Int)) := by rw [hW]; exact hc
    have gf : W.frozen? ⟨w.heap.size + 1, 4, none⟩ = false := by rw [hW]; exact hf
    have HW : Aside0 (PN w [List.replicate 5 0, limbs V] W) := ⟨by rw [hW]; exact H.out.drew⟩
    have wj : IntKind.i64.wrap 4 = 4 := by decide +kernel
    have wr_ : IntKind.i64.wrap 24 = 24 := by decide +kernel
    clear hW hc hf
    simp only [List.take_succ_cons, List.take_zero, List.drop_succ_cons, List.drop_zero]
    repeat still_step
    refine wpStill_nil ?_
    clear wj wr_
    go_wp2
    refine ⟨⟨17, by omega, rfl, ?_⟩, by simp [intOf]; omega⟩
    rw [HV'.out, HR.out]
    exact ⟨HW.out.set 1 4 X rfl⟩
  ·obtain rfl : k = s.size := by omega
   clear hlt hk
   have hr : dv ((bys s).take s.size) = dv (bys s) := by rw [← bys_length, List.take_length]
   rw [hr] at H
   have HCL := Aside0.mk (show (limbs (dv (bys s))).length = 5 from rfl)
   generalize hR : limbs (dv (bys s)) = r at *
   have HRe := Aside0.mk hR
   clear hR hr
   go_upto_region 12 with (fail)
   have hrow := H.out.rows 1 r rfl
   have hout := H.out.rows 0 _ rfl
   simp only [adr] at hrow hout
   have hsz : (Try.prog.info? 159).map (·.size) = some (u64s r).size := by rw [u64s_size, HCL.out]; exact HI.out
   have hsz2 : (u64s (List.replicate 5 0)).size = (u64s r).size := by rw [u64s_size, u64s_size, HCL.out]; rfl
   have HROW := Aside0.mk hrow
   have HOUT := Aside0.mk hout
   have HSZ := Aside0.mk hsz
   have HSZ2 := Aside0.mk hsz2
   clear hrow hout hsz hsz2
   go_wp2_with (first | (with_reducible refine wpList_load_row rfl 159 (.tmp 3) rfl (w.heap.size + 1) rfl 159 (u64s r) (0, 0) _ HROW.out Try.underlying159 rfl HSZ.out ?_) | (refine wpList_store_row rfl 159 (.tmp 2) (.tmp 49) rfl (w.heap.size) (u64s r) rfl rfl 159 _ HOUT.out HSZ.out HSZ2.out (u64s_one _) ?_))
   exact bodyPost_ret (results_cell_row Try.results131 _ _ (w.heap.size) 159 (u64s r) (0, 0) _ rfl (setRow_heap _ _ _ _ _ _ HOUT.out) Try.underlying159 rfl HSZ.out) rfl ⟨by first | (rw [HRe.out]; done) | (rw [HRe.out]; rfl) | rfl, below_setRow H.out.below (by omega) _⟩
def blkN (s : List Nat) (j : Nat) : Nat := dv ((s.drop (16 * j)).take 16 ++ [1])
def accL (r s : List Nat) : Nat → List Nat
 | 0 => List.replicate 5 0
 | j + 1 => car (mulL (addL (accL r s j) (limbs (blkN s j))) r)
def pmacL (key s : List Nat) : List Nat := outT (lv (whole (accL (limbs (dv (clampL (key.take 16)))) s ((s.length + 15) / 16)))) (key.drop 16) 16
theorem accL_lim {r : List Nat} (hr : Lim 67108864 r) (s : List Nat) : ∀ j, Lim 67141632 (accL r s j)
  | 0 => by
    have : accL r s 0 = [0, 0, 0, 0, 0] := rfl
    rw [this]; apply Lim.mk5 <;> decide
  | j + 1 => car_lim (mulL_lim ((addL_lim (accL_lim hr s j) (limbs_lim _)).mono (by decide)) hr)
def PN5 (r : List Nat) (a b c d e : Nat) : Prop := r = [a, b, c, d, e]
structure MA (w : World) (gr ga : Nat) (r a : List Nat) (W : World) : Prop where
 below : Below w.heap.size w W
 rrow : W.heap[gr]? = some (.cells (u64s r) 159 (0, 0))
 arow : W.heap[ga]? = some (.cells (u64s a) 159 (0, 0))
 ne : gr ≠ ga
 ge : w.heap.size ≤ ga
theorem MA.put5 {w W : World} {gr ga : Nat} {r a : List Nat} (h : MA w gr ga r a W) {x0 x1 x2 x3 x4 : Nat} (y0 y1 y2 y3 y4 : Nat) (ha : a = [x0, x1, x2, x3, x4] := by rfl) : MA w gr ga r [y0, y1, y2, y3, y4] (((((W.setCell ⟨ga, 0, none⟩ (.int .u64 (y0 : Int))).setCell ⟨ga, 1, none⟩ (.int .u64 (y1 : Int))).setCell ⟨ga, 2, none⟩ (.int .u64 (y2 : Int))).setCell ⟨ga, 3, none⟩ (.int .u64 (y3 : Int))).setCell ⟨ga, 4, none⟩ (.int .u64 (y4 : Int))) := by
 subst ha
 have hn := h.ne
 have hg := h.ge
 refine ⟨?_, ?_, ?_, hn, hg⟩
 ·exact below_set (below_set (below_set (below_set (below_set h.below hg) hg) hg) hg) hg
 ·exact blk_far (blk_far (blk_far (blk_far (blk_far h.rrow hn _) hn _) hn _) hn _) hn _
 ·exact blk_put (blk_put (blk_put (blk_put (blk_put h.arow 0 _ rfl) 1 _ rfl) 2 _ rfl) 3 _ rfl) 4 _ rfl
set_option maxRecDepth 100000 in
theorem poly_Mac.yes (a0 a1 : ByteArray) (w : World) (h0 : a0.size = 32) (h1 : a1.size ≤ 65536) :
  Calls Try.prog 101 #[.string a0, .string a1] w fun E w' => E = .returned (.tuple #[.string (txt (pmacL (bys a0) (bys a1))), .int .i64 0]) ∧ Below w.heap.size w w' := by
 have hcl := poly_Clamp.yes (a0.extract 0 16)
 have hks : (a0.extract 0 16).size = 16 := by rw [ByteArray.size_extract]; omega
 have HCL := Aside0.mk (fun W => hcl W hks)
 clear hcl hks
 have hsz : (txt (clampL (bys (a0.extract 0 16)))).size = 16 := by rw [txt_size, clampL_length, bys_length, ByteArray.size_extract]; omega
 have hb : bys (txt (clampL (bys (a0.extract 0 16)))) = clampL (bys (a0.extract 0 16)) := bys_txt (clampL_lt _ (bys_lt _))
 have hrd := fun W => poly_read_calls (txt (clampL (bys (a0.extract 0 16)))) W (by omega) (by rw [List.getD_eq_getElem?_getD, List.getElem?_eq_none (by rw [bys_length]; omega)]; decide)
 rw [hb] at hrd
 have HRD := Aside0.mk hrd
 clear hrd hb hsz
 have t1 : ((a0.size : Int) != 32) = false := by rw [bne_eq_false_iff_eq]; omega
 have t2 : decide (65536 < (a1.size : Int)) = false := decide_eq_false (by omega)
 go_enter Try.func101, Try.ntmps101
 go_wp2_with (fail)
 refine (HCL.out _).mono ?_
 rintro e w1 ⟨rfl, hb1⟩
 have HKe : Aside0 (clampL (bys (a0.extract 0 16)) = clampL ((bys a0).take 16)) := ⟨by rw [bys_extract]; rfl⟩
 have hrl := limbs_lim (dv (clampL (bys (a0.extract 0 16))))
 have HRe : Aside0 (limbs (dv (clampL (bys (a0.extract 0 16)))) = limbs (dv (clampL ((bys a0).take 16)))) := ⟨by rw [HKe.out]⟩
 have hi : ∀ m : List Nat, m.length = 5 → (Try.prog.info? 159).map (·.size) = some (u64s m).size := by intro m hm; rw [u64s_size, hm]; kernel_rfl
 have HI := Aside0.mk hi
 clear hi
 go_wp2_with (fail)
 refine (HRD.out _).mono ?_
 generalize limbs (dv (clampL (bys (a0.extract 0 16)))) = r at hrl HRe ⊢
 have HRL := Aside0.mk hrl
 clear hrl HRD
 rintro e w2 ⟨rfl, hb2⟩
 go_upto_region 5 with (refine wpList_store_row rfl 159 (.tmp 8) (.tmp 26) rfl _ (u64s r) rfl rfl 159 _ (heap_alloc_last _ _) (HI.out r HRL.out.len) (by rw [u64s_size, HRL.out.len]; rfl) (u64s_one _) ?_; rw [World.setRow_alloc_new])
 go_wp2_with (fail)
 have HS : Aside0 (a1 = a1.extract (min (16 * 0) a1.size) a1.size) := ⟨by simp⟩
 have H : Aside0 (MA w w2.heap.size (w2.heap.size + 1) r (accL r (bys a1) 0) ((w2.alloc (.cells (u64s r) 159)).alloc (.cells (u64s (List.replicate 5 0)) 159))) := ⟨⟨below_alloc (below_alloc (below_then hb1 hb1.size hb2) _) _, blk_alloc (blk_new _ _) _, by
  have := blk_new (w2.alloc (.cells (u64s r) 159)) (.cells (u64s (List.replicate 5 0)) 159)
  rwa [show (w2.alloc (.cells (u64s r) 159)).heap.size = w2.heap.size + 1 by simp] at this, by omega, Nat.le_succ_of_le (Nat.le_trans hb1.size hb2.size)⟩⟩
 have e5 : #[Value.int IntKind.u64 0, Value.int IntKind.u64 0, Value.int IntKind.u64 0, Value.int IntKind.u64 0, Value.int IntKind.u64 0] = u64s (List.replicate 5 0) := rfl
 rw [e5]
 clear e5 hb1 hb2
 generalize (w2.alloc (.cells (u64s r) 159)).alloc (.cells (u64s (List.replicate 5 0)) 159) = W0 at H ⊢
 generalize w2.heap.size + 1 = ga at H ⊢
 generalize w2.heap.size = gr at H ⊢
 go_loopw [1] (fun s wr => ∃ j : Nat, 16 * j < a1.size + 16 ∧ s = .string (a1.extract (min (16 * j) a1.size) a1.size) ∧ Aside0 (MA w gr ga r (accL r (bys a1) j) wr)) (fun s _ => (match s with | .string t => t.size | _ => 0))
 case atStart => exact ⟨0, by omega, by rw [← HS.out], H⟩
 case round =>
  clear H
  obtain ⟨j, hj, rfl, H⟩ := hrel
  have hts : (a1.extract (min (16 * j) a1.size) a1.size).size = a1.size - 16 * j := by rw [ByteArray.size_extract]; omega
  have htb : bys (a1.extract (min (16 * j) a1.size) a1.size) = (bys a1).drop (16 * j) := by
   rw [bys_extract]
   by_cases hc : 16 * j ≤ a1.size
   ·rw [Nat.min_eq_left hc, List.take_of_length_le (by rw [List.length_drop, bys_length]; omega)]
   ·rw [Nat.min_eq_right (by omega), List.drop_of_length_le (by rw [bys_length]; omega), List.drop_of_length_le (by rw [bys_length]; omega)]; simp
  have hte : ∀ q, q ≤ a1.size - 16 * j → (a1.extract (min (16 * j) a1.size) a1.size).extract q (a1.size - 16 * j) = a1.extract (min (16 * j) a1.size + q) a1.size := by
   intro q hq
   rw [ByteArray.extract_extract]
   congr 1
   omega
  by_cases hlt : 16 * j < a1.size
  ·generalize a1.extract (min (16 * j) a1.size) a1.size = τ at hts htb hte ⊢
   have hne : τ.toList.isEmpty = false := by
    rw [ByteArray.toList_eq]
    cases hl : τ.data.toList with
    | nil => have := data_length τ; rw [hl] at this; simp at this; omega
    | cons x l => rfl
   have HTB := Aside0.mk htb
   have HTE := Aside0.mk hte
   have HTS := Aside0.mk hts
   have hpos : 0 < τ.size := by omega
   have hle : τ.size ≤ 65536 := by omega
   clear htb hte hts
   go_upto_region 8 with (fail)
   rw [show min 16 (τ.size : Int) = ((min 16 τ.size : Nat) : Int) by omega]
   have hq1 : min 16 τ.size ≤ τ.size := by omega
   have hq2 : min 16 τ.size ≤ 16 := by omega
   have hq3 : 0 < min 16 τ.size := by omega
   have HQ : Aside0 (min 16 τ.size = 16 ∨ min 16 τ.size = τ.size) := ⟨by omega⟩
   generalize min 16 τ.size = q at hq1 hq2 hq3 HQ ⊢
   have hT : bys (τ.extract 0 q ++ ⟨#[1]⟩) = ((bys a1).drop (16 * j)).take 16 ++ [1] := by
    rw [bys_append, bys_extract, HTB.out, List.drop_zero, Nat.sub_zero]
    congr 1
    rcases HQ.out with h | h
    ·rw [h]
    ·rw [h, HTS.out, List.take_of_length_le (by rw [List.length_drop, bys_length]; omega), List.take_of_length_le (by rw [List.length_drop, bys_length]; have := HTS.out; omega)]
   have hTs : (τ.extract 0 q ++ (⟨#[1]⟩ : ByteArray)).size ≤ 17 := by
    rw [ByteArray.size_append, ByteArray.size_extract]; show min q τ.size - 0 + 1 ≤ 17; omega
   have h16 : (bys (τ.extract 0 q ++ ⟨#[1]⟩)).getD 16 0 < 4 := by
    rw [hT, List.getD_eq_getElem?_getD]
    generalize hB : ((bys a1).drop (16 * j)).take 16 = B
    have hBl : B.length ≤ 16 := by rw [← hB, List.length_take]; omega
    by_cases hB16 : B.length = 16
    ·rw [List.getElem?_append_right (by omega), hB16]; decide
    ·rw [List.getElem?_eq_none (by rw [List.length_append]; simp; omega)]; decide
   have HRT : Aside0 (∀ W, Calls Try.prog 131 #[.string (τ.extract 0 q ++ ⟨#[1]⟩)] W fun E w' => E = .returned (.agg (u64s (limbs (blkN (bys a1) j)))) ∧ Below W.heap.size W w') := ⟨fun W => by
    have := poly_read_calls _ W hTs h16
    rw [hT] at this
    exact this⟩
   have hNl := limbs_lim (blkN (bys a1) j)
   have hacc : accL r (bys a1) (j + 1) = car (mulL (addL (accL r (bys a1) j) (limbs (blkN (bys a1) j))) r) := rfl
   have hAl := accL_lim HRL.out (bys a1) j
   generalize limbs (blkN (bys a1) j) = N at HRT hNl hacc
   have hAD := fun W => number_add_calls (accL r (bys a1) j) N W (hAl.mono (by decide)) (hNl.mono (by decide))
   have hDl : Lim 268435456 (addL (accL r (bys a1) j) N) := (addL_lim hAl hNl).mono (by decide)
   generalize addL (accL r (bys a1) j) N = D at hacc hAD hDl
   have hTM := fun W => number_times_calls D r W hDl HRL.out
   have hCl : (car (mulL D r)).length = 5 := by rw [car_length]; simp [mulL]
   rw [← hacc] at hTM hCl
   obtain ⟨y0, y1, y2, y3, y4, hy⟩ := five hCl
   obtain ⟨x0, x1, x2, x3, x4, hx⟩ := five hAl.len
   obtain ⟨r0, r1, r2, r3, r4, hr⟩ := five HRL.out.len
   have HY := Aside0.mk hy
   rw [hy] at hTM
   rw [hx] at hAD H
   rw [hr] at hTM
   have HRr : Aside0 (PN5 r r0 r1 r2 r3 r4) := ⟨hr⟩
   have hrr := H.out.rrow
   rw [hr] at hrr
   have HAD : Aside0 (∀ W, Calls Try.prog 132 #[.agg #[.int .u64 (x0 : Int), .int .u64 (x1 : Int), .int .u64 (x2 : Int), .int .u64 (x3 : Int), .int .u64 (x4 : Int)], .agg (u64s N)] W fun e w' => e = .returned (.agg (u64s D)) ∧ Below W.heap.size W w') := ⟨hAD⟩
   have HTM : Aside0 (∀ W, Calls Try.prog 133 #[.agg (u64s D), .agg #[.int .u64 (r0 : Int), .int .u64 (r1 : Int), .int .u64 (r2 : Int), .int .u64 (r3 : Int), .int .u64 (r4 : Int)]] W fun e w' => e = .returned (.agg #[.int .u64 (y0 : Int), .int .u64 (y1 : Int), .int .u64 (y2 : Int), .int .u64 (y3 : Int), .int .u64 (y4 : Int)]) ∧ Below W.heap.size W w') := ⟨hTM⟩
   have ca0 : wr.cell? ⟨ga, 0, none⟩ = some (.int .u64 (x0 : Int)) := blk_cell H.out.arow 0
   have ca1 : wr.cell? ⟨ga, 1, none⟩ = some (.int .u64 (x1 : Int)) := blk_cell H.out.arow 1
   have ca2 : wr.cell? ⟨ga, 2, none⟩ = some (.int .u64 (x2 : Int)) := blk_cell H.out.arow 2
   have ca3 : wr.cell? ⟨ga, 3, none⟩ = some (.int .u64 (x3 : Int)) := blk_cell H.out.arow 3
   have ca4 : wr.cell? ⟨ga, 4, none⟩ = some (.int .u64 (x4 : Int)) := blk_cell H.out.arow 4
   have cr0 : wr.cell? ⟨gr, 0, none⟩ = some (.int .u64 (r0 : Int)) := blk_cell hrr 0
   have cr1 : wr.cell? ⟨gr, 1, none⟩ = some (.int .u64 (r1 : Int)) := blk_cell hrr 1
   have cr2 : wr.cell? ⟨gr, 2, none⟩ = some (.int .u64 (r2 : Int)) := blk_cell hrr 2
   have cr3 : wr.cell? ⟨gr, 3, none⟩ = some (.int .u64 (r3 : Int)) := blk_cell hrr 3
   have cr4 : wr.cell? ⟨gr, 4, none⟩ = some (.int .u64 (r4 : Int)) := blk_cell hrr 4
   have k3 : (9223372036854775807 < q + 1) = False := eq_false (by omega)
   have kq : (q : Int) ≤ (τ.size : Int) := by omega
   clear hT hTs h16 hNl hacc hAl hAD hDl hTM hCl hy hx hr hrr
   refine start_ (n := 10) (S := fun w' => w'.cell? ⟨ga, 0, none⟩ = some (.int .u64 (x0 : Int)) ∧ w'.cell? ⟨ga, 1, none⟩ = some (.int .u64 (x1 : Int)) ∧ w'.cell? ⟨ga, 2, none⟩ = some (.int .u64 (x2 : Int)) ∧ w'.cell? ⟨ga, 3, none⟩ = some (.int .u64 (x3 : Int)) ∧ w'.cell? ⟨ga, 4, none⟩ = some (.int .u64 (x4 : Int)) ∧ w'.cell? ⟨gr, 0, none⟩ = some (.int .u64 (r0 : Int)) ∧ w'.cell? ⟨gr, 1, none⟩ = some (.int .u64 (r1 : Int)) ∧ w'.cell? ⟨gr, 2, none⟩ = some (.int .u64 (r2 : Int)) ∧ w'.cell? ⟨gr, 3, none⟩ = some (.int .u64 (r3 : Int)) ∧ w'.cell? ⟨gr, 4, none⟩ = some (.int .u64 (r4 : Int))) (ds := [9]) #[false, false, false, false, false, false, false, false, false, false] (by kernel_rfl) rfl rfl ⟨(show _ from ca0), (show _ from ca1), (show _ from ca2), (show _ from ca3), (show _ from ca4), (show _ from cr0), (show _ from cr1), (show _ from cr2), (show _ from cr3), (show _ from cr4)⟩ (fun hHeld => ?_)
   refine pz_ 1 33 rfl rfl (by kernel_rfl) ?_
   refine pz_ 2 34 rfl rfl (by kernel_rfl) ?_
   refine pz_ 3 35 rfl rfl (by kernel_rfl) ?_
   refine pz_ 4 36 rfl rfl (by kernel_rfl) ?_
   refine take_ (i := 0) (N := some 32) (v := ?_) (a' := ?_) #[true, true, true, true, true, false, false, false, false, false] rfl rfl (by kernel_rfl) (fun _ _ _ h => h) (Or.inl ⟨by rfl, ?_⟩) hHeld ?_ ?_
   rotate_left
   ·rintro w' ⟨s0, s1, s2, s3, s4, s5, s6, s7, s8, s9⟩
    go_simp
    with_reducible rfl
   rotate_left
   ·simp only [Act.put, List.setIfInBounds_toArray, List.set_cons_zero, List.set_cons_succ, i64_w, i32_w]
    rfl
   refine take_ (i := 7) (N := some 39) (v := ?_) (a' := ?_) #[true, true, true, true, true, false, false, true, false, false] rfl rfl (by kernel_rfl) (fun _ _ _ h => h) (Or.inl ⟨by rfl, ?_⟩) hHeld ?_ ?_
   rotate_left
   ·rintro w' ⟨s0, s1, s2, s3, s4, s5, s6, s7, s8, s9⟩
    go_simp
    with_reducible rfl
   rotate_left
   ·simp only [Act.put, List.setIfInBounds_toArray, List.set_cons_zero, List.set_cons_succ, i64_w, i32_w]
    rfl
   refine one_ (i := 5) (N := some 37) #[true, true, true, true, true, true, false, true, false, false] rfl rfl (by kernel_rfl) (by decide) (fun K hK => ?_)
   refine goes_ Try.func131 (by kernel_rfl) rfl #[.string (τ.extract 0 q ++ ⟨#[1]⟩)] (by rfl) rfl rfl (by simp only [List.map_toArray, List.map_cons, List.map_nil]; rfl) ?_
   with_reducible refine (HRT.out _).mono ?_
   rintro e w3 ⟨rfl, hb3⟩
   refine ⟨_, rfl, ?_⟩
   refine hK.out _ _ ⟨(pw_cell_below hb3 (show _ from ca0)), (pw_cell_below hb3 (show _ from ca1)), (pw_cell_below hb3 (show _ from ca2)), (pw_cell_below hb3 (show _ from ca3)), (pw_cell_below hb3 (show _ from ca4)), (pw_cell_below hb3 (show _ from cr0)), (pw_cell_below hb3 (show _ from cr1)), (pw_cell_below hb3 (show _ from cr2)), (pw_cell_below hb3 (show _ from cr3)), (pw_cell_below hb3 (show _ from cr4))⟩ (fun hHeld => ?_)
   clear hK K
   refine norm_ sa_ ?_
   refine one_ (i := 6) (N := some 38) #[true, true, true, true, true, true, true, true, false, false] rfl rfl (by kernel_rfl) (by decide) (fun K hK => ?_)
   refine goes_ Try.func132 (by kernel_rfl) rfl #[.agg #[.int .u64 (x0 : Int), .int .u64 (x1 : Int), .int .u64 (x2 : Int), .int .u64 (x3 : Int), .int .u64 (x4 : Int)], .agg (u64s N)] (by rfl) rfl rfl (by simp only [List.map_toArray, List.map_cons, List.map_nil]; rfl) ?_
   with_reducible refine (HAD.out _).mono ?_
   rintro e w4 ⟨rfl, hb4⟩
   refine ⟨_, rfl, ?_⟩
   refine hK.out _ _ ⟨(pw_cell_below hb4 (pw_cell_below hb3 (show _ from ca0))), (pw_cell_below hb4 (pw_cell_below hb3 (show _ from ca1))), (pw_cell_below hb4 (pw_cell_below hb3 (show _ from ca2))), (pw_cell_below hb4 (pw_cell_below hb3 (show _ from ca3))), (pw_cell_below hb4 (pw_cell_below hb3 (show _ from ca4))), (pw_cell_below hb4 (pw_cell_below hb3 (show _ from cr0))), (pw_cell_below hb4 (pw_cell_below hb3 (show _ from cr1))), (pw_cell_below hb4 (pw_cell_below hb3 (show _ from cr2))), (pw_cell_below hb4 (pw_cell_below hb3 (show _ from cr3))), (pw_cell_below hb4 (pw_cell_below hb3 (show _ from cr4)))⟩ (fun hHeld => ?_)
   clear hK K
   refine norm_ sa_ ?_
   refine one_ (i := 8) (N := some 40) #[true, true, true, true, true, true, true, true, true, false] rfl rfl (by kernel_rfl) (by decide) (fun K hK => ?_)
   refine goes_ Try.func133 (by kernel_rfl) rfl #[.agg (u64s D), .agg #[.int .u64 (r0 : Int), .int .u64 (r1 : Int), .int .u64 (r2 : Int), .int .u64 (r3 : Int), .int .u64 (r4 : Int)]] (by rfl) rfl rfl (by simp only [List.map_toArray, List.map_cons, List.map_nil]; rfl) ?_
   with_reducible refine (HTM.out _).mono ?_
   rintro e w5 ⟨rfl, hb5⟩
   refine ⟨_, rfl, ?_⟩
   have hrow5 := blk_below (blk_below (blk_below (blk_drew H.out.arow) hb3) hb4) hb5
   have hbel5 := below_then (below_then (below_then (below_drew H.out.below) H.out.below.size hb3) (Nat.le_trans H.out.below.size hb3.size) hb4) (Nat.le_trans (Nat.le_trans H.out.below.size hb3.size) hb4.size) hb5
   have hrr5 := blk_below (blk_below (blk_below (blk_drew H.out.rrow) hb3) hb4) hb5
   have kf : ∀ i, w5.frozen? ⟨ga, i, none⟩ = false := fun i => blk_frozen hrow5 i
   refine hK.out _ _ ⟨(pw_cell_below hb5 (pw_cell_below hb4 (pw_cell_below hb3 (show _ from ca0)))), (pw_cell_below hb5 (pw_cell_below hb4 (pw_cell_below hb3 (show _ from ca1)))), (pw_cell_below hb5 (pw_cell_below hb4 (pw_cell_below hb3 (show _ from ca2)))), (pw_cell_below hb5 (pw_cell_below hb4 (pw_cell_below hb3 (show _ from ca3)))), (pw_cell_below hb5 (pw_cell_below hb4 (pw_cell_below hb3 (show _ from ca4)))), (pw_cell_below hb5 (pw_cell_below hb4 (pw_cell_below hb3 (show _ from cr0)))), (pw_cell_below hb5 (pw_cell_below hb4 (pw_cell_below hb3 (show _ from cr1)))), (pw_cell_below hb5 (pw_cell_below hb4 (pw_cell_below hb3 (show _ from cr2)))), (pw_cell_below hb5 (pw_cell_below hb4 (pw_cell_below hb3 (show _ from cr3)))), (pw_cell_below hb5 (pw_cell_below hb4 (pw_cell_below hb3 (show _ from cr4))))⟩ (fun hHeld => ?_)
   clear hK K
   refine norm_ sa_ ?_
   refine last_ (i := 9) (N := none) #[true, true, true, true, true, true, true, true, true, true] rfl rfl (by kernel_rfl) (by decide) (fun K hK => ?_)
   refine skip_ (w1 := ?_) (by rfl) rfl ?_ ?_
   rotate_left
   ·go_simp
    rfl
   refine hK.out _ _ ?_
   clear hK K
   refine done_ (by kernel_rfl) ?_
   have HN : Aside0 (MA w gr ga r (accL r (bys a1) (j + 1)) (((((w5.setCell ⟨ga, 0, none⟩ (.int .u64 (y0 : Int))).setCell ⟨ga, 1, none⟩ (.int .u64 (y1 : Int))).setCell ⟨ga, 2, none⟩ (.int .u64 (y2 : Int))).setCell ⟨ga, 3, none⟩ (.int .u64 (y3 : Int))).setCell ⟨ga, 4, none⟩ (.int .u64 (y4 : Int)))) := ⟨by
    rw [HY.out]
    exact MA.put5 ⟨hbel5, hrr5, hrow5, H.out.ne, H.out.ge⟩ y0 y1 y2 y3 y4⟩
   clear ca0 ca1 ca2 ca3 ca4 cr0 cr1 cr2 cr3 cr4 hHeld kf k3 hrow5 hbel5 hrr5 hb3 hb4 hb5 H
   generalize (((((w5.setCell ⟨ga, 0, none⟩ (.int .u64 (y0 : Int))).setCell ⟨ga, 1, none⟩ (.int .u64 (y1 : Int))).setCell ⟨ga, 2, none⟩ (.int .u64 (y2 : Int))).setCell ⟨ga, 3, none⟩ (.int .u64 (y3 : Int))).setCell ⟨ga, 4, none⟩ (.int .u64 (y4 : Int))) = W6 at HN ⊢
   go_wp2
   rw [show τ.extract q τ.size = a1.extract (min (16 * (j + 1)) a1.size) a1.size by
    have := HTE.out q (by have := HTS.out; omega)
    rw [← HTS.out] at this
    rw [this]
    congr 1
    have := HTS.out
    rcases HQ.out with h | h <;> omega]
   refine ⟨⟨j + 1, by omega, rfl, HN⟩, ?_⟩
   show (a1.extract (min (16 * (j + 1)) a1.size) a1.size).size < τ.size
   rw [ByteArray.size_extract, HTS.out]
   omega
  ·have he : a1.extract (min (16 * j) a1.size) a1.size = ⟨#[]⟩ := by
    apply ByteArray.ext
    apply Array.eq_empty_of_size_eq_zero
    show (a1.extract (min (16 * j) a1.size) a1.size).size = 0
    omega
   have hjn : (a1.size + 15) / 16 = j := by omega
   rw [he]
   clear hts htb hte he
   have HM : Aside0 (pmacL (bys a0) (bys a1) = outT (lv (whole (accL r (bys a1) j))) ((bys a0).drop 16) 16) := ⟨by
    unfold pmacL
    rw [bys_length, hjn, ← HRe.out]⟩
   have hAl := accL_lim HRL.out (bys a1) j
   generalize accL r (bys a1) j = A at H HM hAl
   have hWl : Lim 67108864 (whole A) := whole_lim (hAl.mono (by decide))
   have hWH := fun W => number_whole_calls A W (hAl.mono (by decide))
   obtain ⟨x0, x1, x2, x3, x4, hx⟩ := five hAl.len
   obtain ⟨z0, z1, z2, z3, z4, hz⟩ := five hWl.len
   rw [hz] at hWH HM hWl
   rw [hx] at hWH H
   have hBY := fun W => number_bytes_calls z0 z1 z2 z3 z4 (a0.extract 16 32) W hWl (by rw [ByteArray.size_extract]; omega)
   have hbk : bys (a0.extract 16 32) = (bys a0).drop 16 := by
    rw [bys_extract, List.take_of_length_le (by rw [List.length_drop, bys_length]; omega)]
   rw [hbk] at hBY
   have HWH : Aside0 (∀ W, Calls Try.prog 134 #[.agg #[.int .u64 (x0 : Int), .int .u64 (x1 : Int), .int .u64 (x2 : Int), .int .u64 (x3 : Int), .int .u64 (x4 : Int)]] W fun e w' => e = .returned (.agg #[.int .u64 (z0 : Int), .int .u64 (z1 : Int), .int .u64 (z2 : Int), .int .u64 (z3 : Int), .int .u64 (z4 : Int)]) ∧ Below W.heap.size W w') := ⟨hWH⟩
   have HBY : Aside0 (∀ W, Calls Try.prog 135 #[.agg #[.int .u64 (z0 : Int), .int .u64 (z1 : Int), .int .u64 (z2 : Int), .int .u64 (z3 : Int), .int .u64 (z4 : Int)], .string (a0.extract 16 32)] W fun e w' => e = .returned (.string (txt (outT (lv [z0, z1, z2, z3, z4]) ((bys a0).drop 16) 16))) ∧ Below W.heap.size W w') := ⟨hBY⟩
   have HHM := HM
   generalize outT (lv [z0, z1, z2, z3, z4]) ((bys a0).drop 16) 16 = M at HHM HBY
   have ca0 : wr.cell? ⟨ga, 0, none⟩ = some (.int .u64 (x0 : Int)) := blk_cell H.out.arow 0
   have ca1 : wr.cell? ⟨ga, 1, none⟩ = some (.int .u64 (x1 : Int)) := blk_cell H.out.arow 1
   have ca2 : wr.cell? ⟨ga, 2, none⟩ = some (.int .u64 (x2 : Int)) := blk_cell H.out.arow 2
   have ca3 : wr.cell? ⟨ga, 3, none⟩ = some (.int .u64 (x3 : Int)) := blk_cell H.out.arow 3
   have ca4 : wr.cell? ⟨ga, 4, none⟩ = some (.int .u64 (x4 : Int)) := blk_cell H.out.arow 4
   have HBE := Aside0.mk H.out.below
   have k32 : (16 : Int) ≤ (a0.size : Int) := by omega
   clear hjn hAl hWl hWH hBY hx hz hbk HM hlt hj t1 t2
   go_upto_region 10 with (fail)
   refine start_ (n := 7) (S := fun w' => w'.cell? ⟨ga, 0, none⟩ = some (.int .u64 (x0 : Int)) ∧ w'.cell? ⟨ga, 1, none⟩ = some (.int .u64 (x1 : Int)) ∧ w'.cell? ⟨ga, 2, none⟩ = some (.int .u64 (x2 : Int)) ∧ w'.cell? ⟨ga, 3, none⟩ = some (.int .u64 (x3 : Int)) ∧ w'.cell? ⟨ga, 4, none⟩ = some (.int .u64 (x4 : Int))) (ds := []) #[false, false, false, false, false, false, false] (by kernel_rfl) rfl rfl ⟨(show _ from ca0), (show _ from ca1), (show _ from ca2), (show _ from ca3), (show _ from ca4)⟩ (fun hHeld => ?_)
   refine pz_ 2 46 rfl rfl (by kernel_rfl) ?_
   refine pz_ 3 47 rfl rfl (by kernel_rfl) ?_
   refine take_ (i := 0) (N := some 44) (v := ?_) (a' := ?_) #[true, false, true, true, false, false, false] rfl rfl (by kernel_rfl) (fun _ _ _ h => h) (Or.inl ⟨by rfl, ?_⟩) hHeld ?_ ?_
   rotate_left
   ·rintro w' ⟨s0, s1, s2, s3, s4⟩
    go_simp
    with_reducible rfl
   rotate_left
   ·simp only [Act.put, List.setIfInBounds_toArray, List.set_cons_zero, List.set_cons_succ, i64_w, i32_w]
    rfl
   refine one_ (i := 1) (N := some 45) #[true, true, true, true, false, false, false] rfl rfl (by kernel_rfl) (by decide) (fun K hK => ?_)
   refine goes_ Try.func134 (by kernel_rfl) rfl #[.agg #[.int .u64 (x0 : Int), .int .u64 (x1 : Int), .int .u64 (x2 : Int), .int .u64 (x3 : Int), .int .u64 (x4 : Int)]] (by rfl) rfl rfl (by simp only [List.map_toArray, List.map_cons, List.map_nil]; rfl) ?_
   with_reducible refine (HWH.out _).mono ?_
   rintro e w3 ⟨rfl, hb3⟩
   refine ⟨_, rfl, ?_⟩
   refine hK.out _ _ ⟨(pw_cell_below hb3 (show _ from ca0)), (pw_cell_below hb3 (show _ from ca1)), (pw_cell_below hb3 (show _ from ca2)), (pw_cell_below hb3 (show _ from ca3)), (pw_cell_below hb3 (show _ from ca4))⟩ (fun hHeld => ?_)
   clear hK K
   refine norm_ sa_ ?_
   refine one_ (i := 4) (N := some 48) #[true, true, true, true, true, false, false] rfl rfl (by kernel_rfl) (by decide) (fun K hK => ?_)
   refine goes_ Try.func135 (by kernel_rfl) rfl #[.agg #[.int .u64 (z0 : Int), .int .u64 (z1 : Int), .int .u64 (z2 : Int), .int .u64 (z3 : Int), .int .u64 (z4 : Int)], .string (a0.extract 16 32)] (by rfl) rfl rfl (by simp only [List.map_toArray, List.map_cons, List.map_nil]; rfl) ?_
   with_reducible refine (HBY.out _).mono ?_
   rintro e w4 ⟨rfl, hb4⟩
   refine ⟨_, rfl, ?_⟩
   refine hK.out _ _ ⟨(pw_cell_below hb4 (pw_cell_below hb3 (show _ from ca0))), (pw_cell_below hb4 (pw_cell_below hb3 (show _ from ca1))), (pw_cell_below hb4 (pw_cell_below hb3 (show _ from ca2))), (pw_cell_below hb4 (pw_cell_below hb3 (show _ from ca3))), (pw_cell_below hb4 (pw_cell_below hb3 (show _ from ca4)))⟩ (fun hHeld => ?_)
   clear hK K
   refine norm_ sa_ ?_
   refine pz_ 5 4 rfl rfl (by kernel_rfl) ?_
   refine pz_ 6 5 rfl rfl (by kernel_rfl) ?_
   refine done_ (by kernel_rfl) ?_
   have hbel := below_then (below_then (below_drew HBE.out) HBE.out.size hb3) (Nat.le_trans HBE.out.size hb3.size) hb4
   have HBL := Aside0.mk hbel
   clear hbel hb3 hb4 hHeld ca0 ca1 ca2 ca3 ca4 k32
   go_wp2
   go_ret2
   exact ⟨by first | (rw [HHM.out]; done) | (rw [HHM.out]; rfl), HBL.out⟩
end Go.Proofs.Ytbkbganflnemeaa.Pr
end

section
namespace Go.Proofs.Ytbkbganflnemeaa.Pr
open Go.RowKit Go.Proofs.YtbkbganflnemeaaW.PrintWords Go.Proofs.YtbkbganflnemeaaW.PrintLast Go.Proofs.YtbkbganflnemeaaW.PrintMore
attribute [local go_sem] max2_int min2_int max_two min_two max_three min_three max_four min_four
def word_PutSmall.f (l0 : List Int) : Option (ByteArray) := (word_put.f l0 true).bind fun t135 => (some t135)
set_option maxHeartbeats 8000000 in
set_option maxRecDepth 100000 in
theorem word_PutSmall.calls (A0 : Option Addr) (c0 : Nat) (l0 : List Int) (r : ByteArray) (w : World) (hr0 : Kd.C (Kd.int .i64) w A0 l0.length l0) (hc0 : l0.length ≤ c0) (h : word_PutSmall.f l0 = some r) :
  Calls Try.prog 103 #[.slice A0 l0.length c0] w fun e w' => e = .returned (.string r) ∧ Below w.heap.size w w' := by
 have HR0 := Aside0.mk hr0; have HC0 := Aside0.mk hc0; clear hr0 hc0; have HB := Aside0.mk (Below.refl w.heap.size w); have H : ((word_put.f l0 true).bind fun t135 => (some t135)) = some r := h; clear h; replace H := Option.bind_eq_some_iff.mp H; obtain ⟨t135, A20, H⟩ := H; have A2 := Aside0.mk A20; clear A20; obtain rfl := Option.some.inj H; go_enter Try.func103, Try.ntmps103
 go_wp2_with (first | ((with_reducible refine gate_callee (f := 127) rfl ?_); refine gl_ 4 Try.func127 #[.slice A0 l0.length c0, .bool true] ?_; (with_reducible refine (word_put.calls _ _ l0 true t135 _ ?side1 ?side2 A2.out).mono ?_); (case side1 => exact ca_ HR0.out); (case side2 => exact HC0.out); rintro e w3 ⟨rfl, hb⟩; refine ⟨_, rfl, ?_⟩; replace HB := Aside0.mk (below_step hb_ hb)))
 go_ret
 exact ⟨ew_, hb_⟩
end Go.Proofs.Ytbkbganflnemeaa.Pr
end

section
namespace Go.Proofs.Ytbkbganflnemeaa.Pr
open Go.RowKit Go.Deep Go.Proofs.YtbkbganflnemeaaW.PrintWords Go.Proofs.YtbkbganflnemeaaW.PrintLast Go.Proofs.YtbkbganflnemeaaW.PrintMore
set_option maxHeartbeats 2000000
def lenL (x y : Nat) : List Nat := [x, 0, y, 0].flatMap le4
theorem lenL_lt (x y : Nat) : ∀ z ∈ lenL x y, z < 256 := by
 intro z hz
 unfold lenL at hz
 rw [List.mem_flatMap] at hz
 obtain ⟨k, _, h⟩ := hz
 simp only [le4, List.mem_cons, List.not_mem_nil, or_false] at h
 rcases h with h | h | h | h <;> rw [h] <;> exact Nat.mod_lt _ (by decide)
theorem lenL_length (x y : Nat) : (lenL x y).length = 16 := rfl
theorem ps4 (g : Nat) (W : World) (x y : Nat) (hg : W.heap[g]? = some (.cells #[.int .i64 (x : Int), .int .i64 0, .int .i64 (y : Int), .int .i64 0] 3 (0, 0))) :
  Calls Try.prog 103 #[.slice (some ⟨g, 0, none⟩) 4 4] W fun e w' => e = .returned (.string (txt (lenL x y))) ∧ Below W.heap.size W w' := by
 have hC : (Kd.int .i64).C W (some ⟨g, 0, none⟩) [(x : Int), 0, (y : Int), 0].length [(x : Int), 0, (y : Int), 0] := by
  refine Kd.C_of_reads (enc := Value.int .i64) (d := (0 : Int)) (h1 := fun _ => rfl) ⟨rfl, by simp, fun _ => ⟨_, rfl, fun j hj => ?_⟩⟩
  rw [add_plain, blk_cell hg]
  have : j = 0 ∨ j = 1 ∨ j = 2 ∨ j = 3 := by simp at hj; omega
  rcases this with rfl | rfl | rfl | rfl <;> rfl
 have := word_PutSmall.calls (some ⟨g, 0, none⟩) 4 [(x : Int), 0, (y : Int), 0] (txt (lenL x y)) W hC (by simp) (by
  unfold word_PutSmall.f word_put.f
  rw [if_pos (by simp)]
  simp only [Option.bind_some, Option.some.injEq]
  rw [← str_nats]
  congr 1)
 exact this
theorem filled3 (g : Nat) (a b c : ByteArray) (W : World) (hg : W.heap[g]? = some (.cells #[.string a, .string b, .string c] 9 (0, 0))) (ha : a.size ≤ 1000000) (hb : b.size ≤ 1000000) (hc : c.size ≤ 1000000) :
  Calls Try.prog 102 #[.slice (some ⟨g, 0, none⟩) 3 3] W fun e w' => e = .returned (.string (txt (fill16 (bys a) ++ fill16 (bys b) ++ fill16 (bys c)))) ∧ Below W.heap.size W w' := by
 have := filled_calls g 3 [a, b, c] W hg (by
  intro t ht
  simp only [List.mem_cons, List.not_mem_nil, or_false] at ht
  rcases ht with rfl | rfl | rfl <;> assumption) (by simp) (by simp)
 have e : fillT [a, b, c] [a, b, c].length = fill16 (bys a) ++ fill16 (bys b) ++ fill16 (bys c) := by
  simp [fillT]
 rw [e] at this
 exact this
def tagL (key nonce bound c : List Nat) : List Nat := pmacL ((chaL key nonce 0).take 32) (fill16 bound ++ fill16 c ++ fill16 (lenL bound.length c.length))
def aead_tag.f (a0 a1 a2 a3 : ByteArray) : Option ByteArray :=
 if a0.size = 32 ∧ a1.size = 12 ∧ a2.size + a3.size ≤ 32768 then some (txt (tagL (bys a0) (bys a1) (bys a2) (bys a3))) else none
set_option maxRecDepth 100000 in
theorem aead_tag.yes (a0 a1 a2 a3 : ByteArray) (w : World) (h0 : a0.size = 32) (h1 : a1.size = 12) (h23 : a2.size + a3.size ≤ 32768) :
  Calls Try.prog 67 #[.string a0, .string a1, .string a2, .string a3] w fun e w' => e = .returned (.string (txt (tagL (bys a0) (bys a1) (bys a2) (bys a3)))) ∧ Below w.heap.size w w' := by
 have HBK := Aside0.mk (fun W => chacha_Block.calls a0 a1 0 (txt (chaL (bys a0) (bys a1) 0)) 0 W (by unfold chacha_Block.f; rw [if_pos ⟨h0, h1, by decide, by decide⟩]; rfl))
 have hks : (txt (chaL (bys a0) (bys a1) 0)).size = 64 := by rw [txt_size, chaL_length]
 have hkx : (txt (chaL (bys a0) (bys a1) 0)).extract 0 32 = txt ((chaL (bys a0) (bys a1) 0).take 32) := by rw [txt_extract]; rfl
 have hkb : bys (txt ((chaL (bys a0) (bys a1) 0).take 32)) = (chaL (bys a0) (bys a1) 0).take 32 := bys_txt (fun n hn => chaL_lt _ _ _ n (List.mem_of_mem_take hn))
 have hkl : (txt ((chaL (bys a0) (bys a1) 0).take 32)).size = 32 := by rw [txt_size, List.length_take, chaL_length]; rfl
 have hpl : bys (txt (lenL a2.size a3.size)) = lenL a2.size a3.size := bys_txt (lenL_lt _ _)
 have HPL : Aside0 ((txt (lenL a2.size a3.size)).size ≤ 1000000) := ⟨by rw [txt_size, lenL_length]; decide⟩
 have htag : tagL (bys a0) (bys a1) (bys a2) (bys a3) = pmacL ((chaL (bys a0) (bys a1) 0).take 32) (fill16 (bys a2) ++ fill16 (bys a3) ++ fill16 (lenL a2.size a3.size)) := by
  unfold tagL; rw [bys_length, bys_length]
 generalize chaL (bys a0) (bys a1) 0 = C at HBK hks hkx hkb hkl htag
 generalize hT : txt C = T at HBK hks hkx
 have HTX := Aside0.mk hkx
 have hlt : ∀ x ∈ fill16 (bys a2) ++ fill16 (bys a3) ++ fill16 (bys (txt (lenL a2.size a3.size))), x < 256 := by
  intro x hx
  have hz : ∀ l : List Nat, (∀ y ∈ l, y < 256) → ∀ y ∈ fill16 l, y < 256 := by
   intro l hl y hy
   unfold fill16 at hy
   rw [List.mem_append, List.mem_replicate] at hy
   rcases hy with h | h
   ·exact hl y h
   ·omega
  rw [List.mem_append, List.mem_append] at hx
  rcases hx with (h | h) | h
  ·exact hz _ (bys_lt' _) x h
  ·exact hz _ (bys_lt' _) x h
  ·exact hz _ (bys_lt' _) x h
 have hmb : bys (txt (fill16 (bys a2) ++ fill16 (bys a3) ++ fill16 (bys (txt (lenL a2.size a3.size))))) = fill16 (bys a2) ++ fill16 (bys a3) ++ fill16 (lenL a2.size a3.size) := by
  rw [bys_txt hlt, hpl]
 have hml : (txt (fill16 (bys a2) ++ fill16 (bys a3) ++ fill16 (bys (txt (lenL a2.size a3.size))))).size ≤ 65536 := by
  rw [txt_size, List.length_append, List.length_append]
  have e1 := fill16_length (bys a2)
  have e2 := fill16_length (bys a3)
  have e3 := fill16_length (bys (txt (lenL a2.size a3.size)))
  rw [bys_length] at e1 e2
  rw [hpl, lenL_length] at e3
  rw [hpl]
  omega
 have hMC := fun W => poly_Mac.yes (txt (C.take 32)) _ W hkl hml
 rw [hkb, hmb, ← htag, ← hkx] at hMC
 have HMC := Aside0.mk hMC
 have h2 : a2.size ≤ 1000000 := by omega
 have h3 : a3.size ≤ 1000000 := by omega
 clear hkb hkl hpl htag hT hlt hmb hml hMC hkx
 generalize txt (tagL (bys a0) (bys a1) (bys a2) (bys a3)) = R at HMC ⊢
 have k32 : (32 : Int) ≤ (T.size : Int) := by omega
 clear hks
 go_enter Try.func67, Try.ntmps67
 go_upto_region 2 with (go_at_call 100; refine (HBK.out _).mono ?_; rintro e w1 ⟨rfl, hb1⟩)
 refine start_ (n := 18) (S := fun w' => True) (ds := []) #[false, false, false, false, false, false, false, false, false, false, false, false, false, false, false, false, false, false] (by kernel_rfl) rfl rfl trivial (fun hHeld => ?_)
 refine pz_ 0 20 rfl rfl (by kernel_rfl) ?_
 refine pz_ 1 21 rfl rfl (by kernel_rfl) ?_
 refine pz_ 2 22 rfl rfl (by kernel_rfl) ?_
 refine pz_ 3 23 rfl rfl (by kernel_rfl) ?_
 refine pz_ 4 24 rfl rfl (by kernel_rfl) ?_
 refine pz_ 5 25 rfl rfl (by kernel_rfl) ?_
 refine pz_ 6 26 rfl rfl (by kernel_rfl) ?_
 refine pz_ 7 27 rfl rfl (by kernel_rfl) ?_
 refine one_ (i := 8) (N := some 28) #[true, true, true, true, true, true, true, true, true, false, false, false, false, false, false, false, false, false] rfl rfl (by kernel_rfl) (by decide) (fun K hK => ?_)
 refine value_ (w1 := ?_) (v := ?_) (by rfl) rfl ?_ ?_
 rotate_left 2
 ·go_simp
  constructor
  ·rfl
  ·rfl
 refine hK.out _ _ trivial (fun hHeld => ?_)
 clear hK K
 refine norm_ sa_ ?_
 refine one_ (i := 9) (N := some 29) #[true, true, true, true, true, true, true, true, true, true, false, false, false, false, false, false, false, false] rfl rfl (by kernel_rfl) (by decide) (fun K hK => ?_)
 refine goes_ Try.func103 (by kernel_rfl) rfl #[.slice (some ⟨w1.heap.size, 0, none⟩) 4 4] (by rfl) rfl rfl (by simp only [List.map_toArray, List.map_cons, List.map_nil]; rfl) ?_
 with_reducible refine (ps4 w1.heap.size _ a2.size a3.size (blk_drew (blk_new w1 _))).mono ?_
 rintro e w3 ⟨rfl, hb3⟩
 refine ⟨_, rfl, ?_⟩
 refine hK.out _ _ trivial (fun hHeld => ?_)
 clear hK K
 refine norm_ sa_ ?_
 refine one_ (i := 10) (N := some 30) #[true, true, true, true, true, true, true, true, true, true, true, false, false, false, false, false, false, false] rfl rfl (by kernel_rfl) (by decide) (fun K hK => ?_)
 refine value_ (w1 := ?_) (v := ?_) (by rfl) rfl ?_ ?_
 rotate_left 2
 ·go_simp
  constructor
  ·rfl
  ·rfl
 refine hK.out _ _ trivial (fun hHeld => ?_)
 clear hK K
 refine norm_ sa_ ?_
 refine one_ (i := 11) (N := some 31) #[true, true, true, true, true, true, true, true, true, true, true, true, false, false, false, false, false, false] rfl rfl (by kernel_rfl) (by decide) (fun K hK => ?_)
 refine goes_ Try.func102 (by kernel_rfl) rfl #[.slice (some ⟨w3.heap.size, 0, none⟩) 3 3] (by rfl) rfl rfl (by simp only [List.map_toArray, List.map_cons, List.map_nil]; rfl) ?_
 with_reducible refine (filled3 w3.heap.size a2 a3 _ _ (blk_new w3 _) h2 h3 HPL.out).mono ?_
 rintro e w4 ⟨rfl, hb4⟩
 refine ⟨_, rfl, ?_⟩
 refine hK.out _ _ trivial (fun hHeld => ?_)
 clear hK K
 refine norm_ sa_ ?_
 refine one_ (i := 12) (N := some 32) #[true, true, true, true, true, true, true, true, true, true, true, true, true, false, false, false, false, false] rfl rfl (by kernel_rfl) (by decide) (fun K hK => ?_)
 refine goes_ Try.func101 (by kernel_rfl) rfl #[.string (T.extract 0 32), .string (txt (fill16 (bys a2) ++ fill16 (bys a3) ++ fill16 (bys (txt (lenL a2.size a3.size)))))] (by rfl) rfl rfl (by simp only [List.map_toArray, List.map_cons, List.map_nil]; rfl) ?_
 with_reducible refine (HMC.out _).mono ?_
 rintro e w5 ⟨rfl, hb5⟩
 refine ⟨_, rfl, ?_⟩
 refine hK.out _ _ trivial (fun hHeld => ?_)
 clear hK K
 refine norm_ sa_ ?_
 refine pz_ 13 19 rfl rfl (by kernel_rfl) ?_
 refine pz_ 14 33 rfl rfl (by kernel_rfl) ?_
 refine pz_ 15 34 rfl rfl (by kernel_rfl) ?_
 refine pz_ 16 11 rfl rfl (by kernel_rfl) ?_
 refine pz_ 17 12 rfl rfl (by kernel_rfl) ?_
 refine done_ (by kernel_rfl) ?_
 have hbel : Below w.heap.size w w5 := by
  have q1 := below_drew (below_alloc hb1 (.cells #[.int .i64 (a2.size : Int), .int .i64 0, .int .i64 (a3.size : Int), .int .i64 0] 3))
  have q2 := below_then q1 q1.size hb3
  have q3 := below_alloc q2 (.cells #[.string a2, .string a3, .string (txt (lenL a2.size a3.size))] 9)
  have q4 := below_then q3 q3.size hb4
  exact below_then q4 q4.size hb5
 have HBL := Aside0.mk hbel
 clear hbel hb5 hb4 hb3 hb1 hHeld
 go_wp2
 go_ret
 exact ⟨rfl, HBL.out⟩
theorem aead_tag.calls (a0 a1 a2 a3 : ByteArray) (r : ByteArray) (w : World) (h : aead_tag.f a0 a1 a2 a3 = some r) :
  Calls Try.prog 67 #[.string a0, .string a1, .string a2, .string a3] w fun e w' => e = .returned (.string r) ∧ Below w.heap.size w w' := by
 unfold aead_tag.f at h
 by_cases hc : a0.size = 32 ∧ a1.size = 12 ∧ a2.size + a3.size ≤ 32768
 ·rw [if_pos hc] at h
  obtain rfl := Option.some.inj h
  exact aead_tag.yes a0 a1 a2 a3 w hc.1 hc.2.1 hc.2.2
 ·rw [if_neg hc] at h
  cases h
end Go.Proofs.Ytbkbganflnemeaa.Pr
end

section
namespace Go.Proofs.Ytbkbganflnemeaa.Pr
open Go.RowKit Go.Proofs.YtbkbganflnemeaaW.PrintWords Go.Proofs.YtbkbganflnemeaaW.PrintLast Go.Proofs.YtbkbganflnemeaaW.PrintMore
attribute [local go_sem] max2_int min2_int max_two min_two max_three min_three max_four min_four
def aead_may.f (a0 : ByteArray) (a1 : ByteArray) (a2 : Int) (a3 : Int) : Option (Bool) := if (a0.size : Int) = 32 then (if (a1.size : Int) = 12 then (if a2 ≤ 32768 then (some (decide (a3 ≤ (wrap64 (32768 - a2))))) else (some false)) else (some false)) else (some false)
set_option maxHeartbeats 8000000 in
set_option maxRecDepth 100000 in
theorem aead_may.calls (a0 : ByteArray) (a1 : ByteArray) (a2 : Int) (a3 : Int) (r : Bool) (w : World) (h : aead_may.f a0 a1 a2 a3 = some r) :
  Calls Try.prog 65 #[.string a0, .string a1, .int .i64 a2, .int .i64 a3] w fun e w' => e = .returned (.bool r) ∧ Drawn0 w w' := by
 have H : (if (a0.size : Int) = 32 then (if (a1.size : Int) = 12 then (if a2 ≤ 32768 then (some (decide (a3 ≤ (wrap64 (32768 - a2))))) else (some false)) else (some false)) else (some false)) = some r := h; clear h; by_cases c5 : (a0.size : Int) = 32
 ·rw [if_pos c5] at H; have c5b0 : ((a0.size : Int) == 32) = true := beq_iff_eq.mpr c5; have c5b1 : ((a0.size : Int) != 32) = false := bne_eq_false_iff_eq.mpr c5; clear c5; by_cases c6 : (a1.size : Int) = 12
  ·rw [if_pos c6] at H; have c6b0 : ((a1.size : Int) == 12) = true := beq_iff_eq.mpr c6; have c6b1 : ((a1.size : Int) != 12) = false := bne_eq_false_iff_eq.mpr c6; clear c6; by_cases c7 : a2 ≤ 32768
   ·rw [if_pos c7] at H; have c7b0 : decide (a2 ≤ 32768) = true := decide_eq_true c7; clear c7; obtain rfl := Option.some.inj H; go_enter Try.func65, Try.ntmps65
    go_wp2; go_ret
    exact ⟨rz_, dz_⟩
   ·rw [if_neg c7] at H; have c7b0 : decide (a2 ≤ 32768) = false := decide_eq_false c7; clear c7; obtain rfl := Option.some.inj H; go_enter Try.func65, Try.ntmps65
    go_wp2; go_ret
    exact ⟨rz_, dz_⟩
  ·rw [if_neg c6] at H; have c6b0 : ((a1.size : Int) == 12) = false := beq_eq_false_iff_ne.mpr c6; have c6b1 : ((a1.size : Int) != 12) = true := bne_iff_ne.mpr c6; obtain rfl := Option.some.inj H; go_enter Try.func65, Try.ntmps65
   go_wp2; go_ret
   exact ⟨rz_, dz_⟩
 ·rw [if_neg c5] at H; have c5b0 : ((a0.size : Int) == 32) = false := beq_eq_false_iff_ne.mpr c5; have c5b1 : ((a0.size : Int) != 32) = true := bne_iff_ne.mpr c5; obtain rfl := Option.some.inj H; go_enter Try.func65, Try.ntmps65
  go_wp2; go_ret
  exact ⟨rz_, dz_⟩
end Go.Proofs.Ytbkbganflnemeaa.Pr
end

section
namespace Go.Proofs.Ytbkbganflnemeaa.Pr
open Go.RowKit Go.Proofs.YtbkbganflnemeaaW.PrintWords Go.Proofs.YtbkbganflnemeaaW.PrintLast
set_option maxHeartbeats 1000000
theorem strB_lt (a b : List Nat) (n i : Nat) : strB a b n i < 256 := by
 unfold strB
 have hl : i % 64 < (chaL a b (n + i / 64)).length := by rw [chaL_length]; exact Nat.mod_lt _ (by decide)
 rw [List.getD_eq_getElem?_getD, List.getElem?_eq_getElem hl]
 exact chaL_lt _ _ _ _ (List.getElem_mem hl)
theorem streamL_length (a b : List Nat) (n : Nat) (s : List Nat) : (streamL a b n s).length = s.length := xorAt_length _ _ _
theorem streamL_get (a b : List Nat) (n : Nat) (s : List Nat) (i : Nat) (hi : i < s.length) : (streamL a b n s)[i]? = some (s.getD i 0 ^^^ strB a b n i) := by
 unfold streamL xorAt
 simp [hi]
theorem streamL_lt (a b : List Nat) (n : Nat) (s : List Nat) (hs : ∀ x ∈ s, x < 256) : ∀ x ∈ streamL a b n s, x < 256 := by
 intro x hx
 obtain ⟨i, hi, rfl⟩ := List.getElem_of_mem hx
 have hi' : i < s.length := by rw [← streamL_length a b n s]; exact hi
 have h := streamL_get a b n s i hi'
 rw [List.getElem?_eq_getElem hi] at h
 rw [Option.some.inj h]
 have h1 : s.getD i 0 < 256 := by
  rw [List.getD_eq_getElem?_getD, List.getElem?_eq_getElem hi']
  exact hs _ (List.getElem_mem hi')
 exact Nat.xor_lt_two_pow (n := 8) h1 (strB_lt a b n i)
theorem streamL_twice (a b : List Nat) (n : Nat) (s : List Nat) : streamL a b n (streamL a b n s) = s := by
 apply List.ext_getElem?
 intro i
 by_cases hi : i < s.length
 ·rw [streamL_get _ _ _ _ _ (by rw [streamL_length]; exact hi), List.getD_eq_getElem?_getD, streamL_get _ _ _ _ _ hi]
  simp only [Option.getD_some]
  rw [Nat.xor_assoc, Nat.xor_self, Nat.xor_zero, List.getD_eq_getElem?_getD, List.getElem?_eq_getElem hi]
  rfl
 ·rw [List.getElem?_eq_none (by rw [streamL_length, streamL_length]; omega), List.getElem?_eq_none (by omega)]
theorem tagL_length (a b c d : List Nat) : (tagL a b c d).length = 16 := outT_length _ _ _
theorem tagL_lt (a b c d : List Nat) : ∀ x ∈ tagL a b c d, x < 256 := outT_lt _ _ _
def aeadOK (a0 a1 : ByteArray) (x y : Nat) : Prop := a0.size = 32 ∧ a1.size = 12 ∧ x ≤ 32768 ∧ y ≤ 32768 - x
instance (a0 a1 : ByteArray) (x y : Nat) : Decidable (aeadOK a0 a1 x y) := by unfold aeadOK; infer_instance
theorem aead_may_f (a0 a1 : ByteArray) (x y : Nat) (hx : x ≤ 1000000000000000) (hy : y ≤ 1000000000000000) : aead_may.f a0 a1 (x : Int) (y : Int) = some (decide (aeadOK a0 a1 x y)) := by
 unfold aead_may.f aeadOK
 by_cases h0 : a0.size = 32
 ·rw [if_pos (by omega)]
  by_cases h1 : a1.size = 12
  ·rw [if_pos (by omega)]
   by_cases h2 : x ≤ 32768
   ·rw [if_pos (by omega)]
    congr 1
    have hw : wrap64 (32768 - (x : Int)) = 32768 - (x : Int) := by unfold wrap64; omega
    rw [hw]
    apply decide_eq_decide.2
    omega
   ·rw [if_neg (by omega)]; congr 1; exact (decide_eq_false (by omega)).symm
  ·rw [if_neg (by omega)]; congr 1; exact (decide_eq_false (by omega)).symm
 ·rw [if_neg (by omega)]; congr 1; exact (decide_eq_false (by omega)).symm
def sealF (a0 a1 a2 a3 : ByteArray) : ByteArray × Int :=
 if aeadOK a0 a1 a2.size a3.size then (txt (streamL (bys a0) (bys a1) 1 (bys a3) ++ tagL (bys a0) (bys a1) (bys a2) (streamL (bys a0) (bys a1) 1 (bys a3))), 0) else (⟨#[]⟩, 1)
theorem stream_f (a0 a1 a3 : ByteArray) (h0 : a0.size = 32) (h1 : a1.size = 12) (h3 : a3.size ≤ 32768) : chacha_Stream.f a0 a1 1 a3 = some (txt (streamL (bys a0) (bys a1) 1 (bys a3)), 0) := by
 unfold chacha_Stream.f
 rw [if_pos (by omega), if_pos ⟨⟨h0, h1, by decide, by decide⟩, by omega, by omega⟩]
 rfl
def openF (a0 a1 a2 a3 : ByteArray) : ByteArray × Int :=
 if aeadOK a0 a1 a2.size (a3.size - 16) then
  (if a3.size < 16 then (⟨#[]⟩, 70) else if tagL (bys a0) (bys a1) (bys a2) ((bys a3).take (a3.size - 16)) = (bys a3).drop (a3.size - 16) then (txt (streamL (bys a0) (bys a1) 1 ((bys a3).take (a3.size - 16))), 0) else (⟨#[]⟩, 70))
 else (⟨#[]⟩, 1)
theorem open_seal (a0 a1 a2 a3 : ByteArray) (h : aeadOK a0 a1 a2.size a3.size) : openF a0 a1 a2 (sealF a0 a1 a2 a3).1 = (a3, 0) ∧ (sealF a0 a1 a2 a3).2 = 0 ∧ (sealF a0 a1 a2 a3).1.size = a3.size + 16 ∧ bys (sealF a0 a1 a2 a3).1 = streamL (bys a0) (bys a1) 1 (bys a3) ++ tagL (bys a0) (bys a1) (bys a2) (streamL (bys a0) (bys a1) 1 (bys a3)) := by
 have hsz : (sealF a0 a1 a2 a3).1.size = a3.size + 16 := by
  unfold sealF
  rw [if_pos h, txt_size, List.length_append, streamL_length, tagL_length, bys_length]
 have hb : bys (sealF a0 a1 a2 a3).1 = streamL (bys a0) (bys a1) 1 (bys a3) ++ tagL (bys a0) (bys a1) (bys a2) (streamL (bys a0) (bys a1) 1 (bys a3)) := by
  unfold sealF
  rw [if_pos h]
  refine bys_txt ?_
  intro x hx
  rw [List.mem_append] at hx
  rcases hx with hx | hx
  ·exact streamL_lt _ _ _ _ (bys_lt' _) x hx
  ·exact tagL_lt _ _ _ _ x hx
 refine ⟨?_, by unfold sealF; rw [if_pos h], hsz, hb⟩
 obtain ⟨k0, k1, k2, k3⟩ := h
 have hl : (streamL (bys a0) (bys a1) 1 (bys a3)).length = a3.size := by rw [streamL_length, bys_length]
 unfold openF
 rw [hsz, Nat.add_sub_cancel, if_pos ⟨k0, k1, k2, k3⟩, if_neg (by omega), hb, List.take_left' hl, List.drop_left' hl, if_pos rfl, streamL_twice, txt_bys]
end Go.Proofs.Ytbkbganflnemeaa.Pr
end

section
namespace Go.Proofs.Ytbkbganflnemeaa.Pr
open Go.RowKit Go.Deep Go.Proofs.YtbkbganflnemeaaW.PrintWords Go.Proofs.YtbkbganflnemeaaW.PrintLast Go.Proofs.YtbkbganflnemeaaW.PrintMore
set_option maxHeartbeats 2000000
def aead_Open.f (a0 a1 a2 a3 : ByteArray) : Option (ByteArray × Int) :=
 if a2.size ≤ 1000000000000000 ∧ a3.size ≤ 1000000000000000 then some (openF a0 a1 a2 a3) else none
theorem aead_Open_f (a0 a1 a2 a3 : ByteArray) (h2 : a2.size ≤ 1000000000000000) (h3 : a3.size ≤ 1000000000000000) : aead_Open.f a0 a1 a2 a3 = some (openF a0 a1 a2 a3) := if_pos ⟨h2, h3⟩
set_option maxRecDepth 100000 in
theorem aead_Open.short (a0 a1 a2 a3 : ByteArray) (w : World) (h2 : a2.size ≤ 1000000000000000) (h3 : a3.size < 16) :
  Calls Try.prog 64 #[.string a0, .string a1, .string a2, .string a3] w fun e w' => e = .returned (.tuple #[.string (openF a0 a1 a2 a3).1, .int .i64 (openF a0 a1 a2 a3).2]) ∧ Below w.heap.size w w' := by
 have hm0 : a3.size - 16 = 0 := by omega
 have HMay := Aside0.mk (fun W => aead_may.calls a0 a1 (a2.size : Int) 0 _ W (aead_may_f a0 a1 a2.size 0 h2 (by omega)))
 have HO : Aside0 (openF a0 a1 a2 a3 = if aeadOK a0 a1 a2.size 0 then (⟨#[]⟩, 70) else (⟨#[]⟩, 1)) := ⟨by
  unfold openF
  rw [hm0, if_pos h3]⟩
 have hmx : max ((a3.size : Int) - 16) 0 = 0 := by omega
 have t1 : decide ((a3.size : Int) - 16 < 0) = true := decide_eq_true (by omega)
 rw [HO.out]
 clear h2 hm0
 by_cases hc : aeadOK a0 a1 a2.size 0
 ·have hd : decide (aeadOK a0 a1 a2.size 0) = true := decide_eq_true hc
  rw [if_pos hc]
  have HD := Aside0.mk hd
  clear hc hd
  go_enter Try.func64, Try.ntmps64
  go_wp2_with (fail)
  refine (HMay.out _).mono ?_
  rw [HD.out]
  rintro e w1 ⟨rfl, ⟨n1, rfl⟩⟩
  go_upto_region 4 with (fail)
  refine start_ (n := 17) (S := fun w' => True) (ds := []) #[false, false, false, false, false, false, false, false, false, false, false, false, false, false, false, false, false] (by kernel_rfl) rfl rfl trivial (fun hHeld => ?_)
  refine pz_ 0 26 rfl rfl (by kernel_rfl) ?_
  refine pz_ 1 27 rfl rfl (by kernel_rfl) ?_
  refine pz_ 2 28 rfl rfl (by kernel_rfl) ?_
  refine pure_ (i := 3) (N := some 29) (v := undef) (a' := ?_) #[true, true, true, true, false, false, false, false, false, false, false, false, false, false, false, false, false] rfl rfl (by kernel_rfl) (fun _ _ _ h => h) (Or.inr ⟨by rfl, rfl⟩) ?_ ?_
  rotate_left
  ·simp only [Act.put, List.setIfInBounds_toArray, List.set_cons_zero, List.set_cons_succ, i64_w, i32_w]
   rfl
  refine pure_ (i := 4) (N := some 30) (v := undef) (a' := ?_) #[true, true, true, true, true, false, false, false, false, false, false, false, false, false, false, false, false] rfl rfl (by kernel_rfl) (fun _ _ _ h => h) (Or.inr ⟨by rfl, rfl⟩) ?_ ?_
  rotate_left
  ·simp only [Act.put, List.setIfInBounds_toArray, List.set_cons_zero, List.set_cons_succ, i64_w, i32_w]
   rfl
  refine pure_ (i := 5) (N := some 31) (v := undef) (a' := ?_) #[true, true, true, true, true, true, false, false, false, false, false, false, false, false, false, false, false] rfl rfl (by kernel_rfl) (fun _ _ _ h => h) (Or.inr ⟨by rfl, rfl⟩) ?_ ?_
  rotate_left
  ·simp only [Act.put, List.setIfInBounds_toArray, List.set_cons_zero, List.set_cons_succ, i64_w, i32_w]
   rfl
  refine pure_ (i := 6) (N := some 32) (v := undef) (a' := ?_) #[true, true, true, true, true, true, true, false, false, false, false, false, false, false, false, false, false] rfl rfl (by kernel_rfl) (fun _ _ _ h => h) (Or.inr ⟨by rfl, rfl⟩) ?_ ?_
  rotate_left
  ·simp only [Act.put, List.setIfInBounds_toArray, List.set_cons_zero, List.set_cons_succ, i64_w, i32_w]
   rfl
  refine pure_ (i := 7) (N := some 33) (v := undef) (a' := ?_) #[true, true, true, true, true, true, true, true, false, false, false, false, false, false, false, false, false] rfl rfl (by kernel_rfl) (fun _ _ _ h => h) (Or.inr ⟨by rfl, rfl⟩) ?_ ?_
  rotate_left
  ·simp only [Act.put, List.setIfInBounds_toArray, List.set_cons_zero, List.set_cons_succ, i64_w, i32_w]
   rfl
  refine pure_ (i := 8) (N := some 34) (v := undef) (a' := ?_) #[true, true, true, true, true, true, true, true, true, false, false, false, false, false, false, false, false] rfl rfl (by kernel_rfl) (fun _ _ _ h => h) (Or.inr ⟨by rfl, rfl⟩) ?_ ?_
  rotate_left
  ·simp only [Act.put, List.setIfInBounds_toArray, List.set_cons_zero, List.set_cons_succ, i64_w, i32_w]
   rfl
  refine pure_ (i := 9) (N := some 35) (v := undef) (a' := ?_) #[true, true, true, true, true, true, true, true, true, true, false, false, false, false, false, false, false] rfl rfl (by kernel_rfl) (fun _ _ _ h => h) (Or.inr ⟨by rfl, rfl⟩) ?_ ?_
  rotate_left
  ·simp only [Act.put, List.setIfInBounds_toArray, List.set_cons_zero, List.set_cons_succ, i64_w, i32_w]
   rfl
  refine pure_ (i := 10) (N := some 36) (v := undef) (a' := ?_) #[true, true, true, true, true, true, true, true, true, true, true, false, false, false, false, false, false] rfl rfl (by kernel_rfl) (fun _ _ _ h => h) (Or.inr ⟨by rfl, rfl⟩) ?_ ?_
  rotate_left
  ·simp only [Act.put, List.setIfInBounds_toArray, List.set_cons_zero, List.set_cons_succ, i64_w, i32_w]
   rfl
  refine pure_ (i := 11) (N := some 37) (v := undef) (a' := ?_) #[true, true, true, true, true, true, true, true, true, true, true, true, false, false, false, false, false] rfl rfl (by kernel_rfl) (fun _ _ _ h => h) (Or.inr ⟨by rfl, rfl⟩) ?_ ?_
  rotate_left
  ·simp only [Act.put, List.setIfInBounds_toArray, List.set_cons_zero, List.set_cons_succ, i64_w, i32_w]
   rfl
  refine pure_ (i := 12) (N := some 38) (v := undef) (a' := ?_) #[true, true, true, true, true, true, true, true, true, true, true, true, true, false, false, false, false] rfl rfl (by kernel_rfl) (fun _ _ _ h => h) (Or.inr ⟨by rfl, rfl⟩) ?_ ?_
  rotate_left
  ·simp only [Act.put, List.setIfInBounds_toArray, List.set_cons_zero, List.set_cons_succ, i64_w, i32_w]
   rfl
  refine pure_ (i := 13) (N := some 39) (v := undef) (a' := ?_) #[true, true, true, true, true, true, true, true, true, true, true, true, true, true, false, false, false] rfl rfl (by kernel_rfl) (fun _ _ _ h => h) (Or.inr ⟨by rfl, rfl⟩) ?_ ?_
  rotate_left
  ·simp only [Act.put, List.setIfInBounds_toArray, List.set_cons_zero, List.set_cons_succ, i64_w, i32_w]
   rfl
  refine pure_ (i := 14) (N := some 40) (v := undef) (a' := ?_) #[true, true, true, true, true, true, true, true, true, true, true, true, true, true, true, false, false] rfl rfl (by kernel_rfl) (fun _ _ _ h => h) (Or.inr ⟨by rfl, rfl⟩) ?_ ?_
  rotate_left
  ·simp only [Act.put, List.setIfInBounds_toArray, List.set_cons_zero, List.set_cons_succ, i64_w, i32_w]
   rfl
  refine pz_ 15 41 rfl rfl (by kernel_rfl) ?_
  refine pz_ 16 25 rfl rfl (by kernel_rfl) ?_
  refine done_ (by kernel_rfl) ?_
  go_wp2
  go_ret2
  exact ⟨rfl, below_drew (pw_below_drewN (Below.refl _ w) _)⟩
 ·have hd : decide (aeadOK a0 a1 a2.size 0) = false := decide_eq_false hc
  rw [if_neg hc]
  have HD := Aside0.mk hd
  clear hc hd
  go_enter Try.func64, Try.ntmps64
  go_wp2_with (fail)
  refine (HMay.out _).mono ?_
  rw [HD.out]
  rintro e w1 ⟨rfl, ⟨n1, rfl⟩⟩
  go_wp2
  go_ret2
  exact ⟨rfl, pw_below_drewN (Below.refl _ w) _⟩
set_option maxRecDepth 100000 in
theorem aead_Open.long (a0 a1 a2 a3 : ByteArray) (q : Nat) (w : World) (h2 : a2.size ≤ 1000000000000000) (h3 : a3.size ≤ 1000000000000000) (hq : a3.size = q + 16) :
  Calls Try.prog 64 #[.string a0, .string a1, .string a2, .string a3] w fun e w' => e = .returned (.tuple #[.string (openF a0 a1 a2 a3).1, .int .i64 (openF a0 a1 a2 a3).2]) ∧ Below w.heap.size w w' := by
 have hm0 : a3.size - 16 = q := by omega
 have HMay := Aside0.mk (fun W => aead_may.calls a0 a1 (a2.size : Int) (q : Int) _ W (aead_may_f a0 a1 a2.size q h2 (by omega)))
 have hxs : (a3.extract 0 q).size = q := by rw [ByteArray.size_extract]; omega
 have hxb : bys (a3.extract 0 q) = (bys a3).take q := by rw [bys_extract]; rfl
 have hyb : bys (a3.extract q a3.size) = (bys a3).drop q := by
  rw [bys_extract, List.take_of_length_le (by rw [List.length_drop, bys_length]; omega)]
 have HO : Aside0 (openF a0 a1 a2 a3 = if aeadOK a0 a1 a2.size q then (if tagL (bys a0) (bys a1) (bys a2) ((bys a3).take q) = (bys a3).drop q then (txt (streamL (bys a0) (bys a1) 1 ((bys a3).take q)), 0) else (⟨#[]⟩, 70)) else (⟨#[]⟩, 1)) := ⟨by
  unfold openF
  rw [hm0, if_neg (show ¬ a3.size < 16 by omega)]⟩
 have hmx : max ((a3.size : Int) - 16) 0 = (q : Int) := by omega
 have hn : (a3.size : Int) - 16 = (q : Int) := by omega
 have HMX := Aside0.mk hmx
 have HN := Aside0.mk hn
 have t1 : decide ((q : Int) < 0) = false := decide_eq_false (by omega)
 rw [HO.out]
 have hmq : max (q : Int) 0 = (q : Int) := by omega
 have HQ := Aside0.mk hq
 have hq1 : (q : Int) ≤ (a3.size : Int) := by omega
 clear h2 hm0 hmx hn
 by_cases hc : aeadOK a0 a1 a2.size q
 ·have hd : decide (aeadOK a0 a1 a2.size q) = true := decide_eq_true hc
  rw [if_pos hc]
  have HD := Aside0.mk hd
  obtain ⟨k0, k1, k2, k3⟩ := hc
  have htg := fun W => aead_tag.yes a0 a1 a2 (a3.extract 0 q) W k0 k1 (by rw [hxs]; omega)
  rw [hxb] at htg
  have hTs : (txt (tagL (bys a0) (bys a1) (bys a2) ((bys a3).take q))).size = 16 := by rw [txt_size, tagL_length]
  have hTb : bys (txt (tagL (bys a0) (bys a1) (bys a2) ((bys a3).take q))) = tagL (bys a0) (bys a1) (bys a2) ((bys a3).take q) := bys_txt (tagL_lt _ _ _ _)
  have hsm := fun W => word_Same.calls 17 (txt (tagL (bys a0) (bys a1) (bys a2) ((bys a3).take q))) (a3.extract q a3.size) _ W (word_Same_f _ _ (by rw [hTs]; decide) 17 (by rw [hTs]; decide))
  rw [hTb, hyb] at hsm
  have hst := fun W => chacha_Stream.yes a0 a1 (a3.extract 0 q) 1 W k0 k1 (by decide) (by rw [hxs]; omega) (by rw [hxs]; omega)
  rw [hxb] at hst
  have HST := Aside0.mk hst
  have HTG := Aside0.mk htg
  generalize txt (tagL (bys a0) (bys a1) (bys a2) ((bys a3).take q)) = T at HTG hsm hTs hTb
  clear hq
  by_cases ht : tagL (bys a0) (bys a1) (bys a2) ((bys a3).take q) = (bys a3).drop q
  ·have hd2 : decide (tagL (bys a0) (bys a1) (bys a2) ((bys a3).take q) = (bys a3).drop q) = true := decide_eq_true ht
   rw [if_pos ht]
   simp only [hd2] at hsm
   have HSM := Aside0.mk hsm
   clear hd2 ht hsm htg hst hTs hTb hd hxs hxb hyb
   go_enter Try.func64, Try.ntmps64
   go_upto_region 2 with (fail)
   rw [HN.out]
   go_wp2_with (fail)
   refine (HMay.out _).mono ?_
   rw [HD.out]
   rintro e w1 ⟨rfl, ⟨n1, rfl⟩⟩
   go_upto_region 4 with (fail)
   refine start_ (n := 17) (S := fun w' => True) (ds := []) #[false, false, false, false, false, false, false, false, false, false, false, false, false, false, false, false, false] (by kernel_rfl) rfl rfl trivial (fun hHeld => ?_)
   refine pz_ 0 26 rfl rfl (by kernel_rfl) ?_
   refine pz_ 1 27 rfl rfl (by kernel_rfl) ?_
   refine pz_ 2 28 rfl rfl (by kernel_rfl) ?_
   refine pz_ 3 29 rfl rfl (by kernel_rfl) ?_
   refine pz_ 4 30 rfl rfl (by kernel_rfl) ?_
   refine pz_ 5 31 rfl rfl (by kernel_rfl) ?_
   refine pz_ 6 32 rfl rfl (by kernel_rfl) ?_
   refine pz_ 7 33 rfl rfl (by kernel_rfl) ?_
   refine pz_ 8 34 rfl rfl (by kernel_rfl) ?_
   refine pz_ 10 36 rfl rfl (by kernel_rfl) ?_
   refine pz_ 11 37 rfl rfl (by kernel_rfl) ?_
   refine pz_ 12 38 rfl rfl (by kernel_rfl) ?_
   refine one_ (i := 9) (N := some 35) #[true, true, true, true, true, true, true, true, true, true, true, true, true, false, false, false, false] rfl rfl (by kernel_rfl) (by decide) (fun K hK => ?_)
   refine goes_ Try.func67 (by kernel_rfl) rfl #[.string a0, .string a1, .string a2, .string (a3.extract 0 q)] (by rfl) rfl rfl (by simp only [List.map_toArray, List.map_cons, List.map_nil]; rfl) ?_
   with_reducible refine (HTG.out _).mono ?_
   rintro e w3 ⟨rfl, hb3⟩
   refine ⟨_, rfl, ?_⟩
   refine hK.out _ _ trivial (fun hHeld => ?_)
   clear hK K
   refine norm_ sa_ ?_
   refine one_ (i := 13) (N := some 39) #[true, true, true, true, true, true, true, true, true, true, true, true, true, true, false, false, false] rfl rfl (by kernel_rfl) (by decide) (fun K hK => ?_)
   refine goes_ Try.func97 (by kernel_rfl) rfl #[.string T, .string (a3.extract q a3.size)] (by rfl) rfl rfl (by simp only [List.map_toArray, List.map_cons, List.map_nil]; rfl) ?_
   with_reducible refine (HSM.out _).mono ?_
   rintro e w4 ⟨rfl, ⟨n4, rfl⟩⟩
   refine ⟨_, rfl, ?_⟩
   refine hK.out _ _ trivial (fun hHeld => ?_)
   clear hK K
   refine norm_ sa_ ?_
   refine pz_ 14 40 rfl rfl (by kernel_rfl) ?_
   refine pz_ 15 41 rfl rfl (by kernel_rfl) ?_
   refine pz_ 16 25 rfl rfl (by kernel_rfl) ?_
   refine done_ (by kernel_rfl) ?_
   go_wp2_with (fail)
   refine (HST.out _).mono ?_
   rintro e w5 ⟨rfl, hb5⟩
   have HBL : Aside0 (Below w.heap.size w w5) := ⟨below_then (pw_below_drewN (below_then (below_drew (pw_below_drewN (Below.refl _ w) n1)) (Nat.le_refl _) hb3) n4) hb3.size hb5⟩
   clear hb3 hb5 hHeld
   go_wp2
   go_ret2
   exact ⟨rfl, HBL.out⟩
  ·have hd2 : decide (tagL (bys a0) (bys a1) (bys a2) ((bys a3).take q) = (bys a3).drop q) = false := decide_eq_false ht
   rw [if_neg ht]
   simp only [hd2] at hsm
   have HSM := Aside0.mk hsm
   clear hd2 ht hsm htg hst hTs hTb hd hxs hxb hyb
   go_enter Try.func64, Try.ntmps64
   go_upto_region 2 with (fail)
   rw [HN.out]
   go_wp2_with (fail)
   refine (HMay.out _).mono ?_
   rw [HD.out]
   rintro e w1 ⟨rfl, ⟨n1, rfl⟩⟩
   go_upto_region 4 with (fail)
   refine start_ (n := 17) (S := fun w' => True) (ds := []) #[false, false, false, false, false, false, false, false, false, false, false, false, false, false, false, false, false] (by kernel_rfl) rfl rfl trivial (fun hHeld => ?_)
   refine pz_ 0 26 rfl rfl (by kernel_rfl) ?_
   refine pz_ 1 27 rfl rfl (by kernel_rfl) ?_
   refine pz_ 2 28 rfl rfl (by kernel_rfl) ?_
   refine pz_ 3 29 rfl rfl (by kernel_rfl) ?_
   refine pz_ 4 30 rfl rfl (by kernel_rfl) ?_
   refine pz_ 5 31 rfl rfl (by kernel_rfl) ?_
   refine pz_ 6 32 rfl rfl (by kernel_rfl) ?_
   refine pz_ 7 33 rfl rfl (by kernel_rfl) ?_
   refine pz_ 8 34 rfl rfl (by kernel_rfl) ?_
   refine pz_ 10 36 rfl rfl (by kernel_rfl) ?_
   refine pz_ 11 37 rfl rfl (by kernel_rfl) ?_
   refine pz_ 12 38 rfl rfl (by kernel_rfl) ?_
   refine one_ (i := 9) (N := some 35) #[true, true, true, true, true, true, true, true, true, true, true, true, true, false, false, false, false] rfl rfl (by kernel_rfl) (by decide) (fun K hK => ?_)
   refine goes_ Try.func67 (by kernel_rfl) rfl #[.string a0, .string a1, .string a2, .string (a3.extract 0 q)] (by rfl) rfl rfl (by simp only [List.map_toArray, List.map_cons, List.map_nil]; rfl) ?_
   with_reducible refine (HTG.out _).mono ?_
   rintro e w3 ⟨rfl, hb3⟩
   refine ⟨_, rfl, ?_⟩
   refine hK.out _ _ trivial (fun hHeld => ?_)
   clear hK K
   refine norm_ sa_ ?_
   refine one_ (i := 13) (N := some 39) #[true, true, true, true, true, true, true, true, true, true, true, true, true, true, false, false, false] rfl rfl (by kernel_rfl) (by decide) (fun K hK => ?_)
   refine goes_ Try.func97 (by kernel_rfl) rfl #[.string T, .string (a3.extract q a3.size)] (by rfl) rfl rfl (by simp only [List.map_toArray, List.map_cons, List.map_nil]; rfl) ?_
   with_reducible refine (HSM.out _).mono ?_
   rintro e w4 ⟨rfl, ⟨n4, rfl⟩⟩
   refine ⟨_, rfl, ?_⟩
   refine hK.out _ _ trivial (fun hHeld => ?_)
   clear hK K
   refine norm_ sa_ ?_
   refine pz_ 14 40 rfl rfl (by kernel_rfl) ?_
   refine pz_ 15 41 rfl rfl (by kernel_rfl) ?_
   refine pz_ 16 25 rfl rfl (by kernel_rfl) ?_
   refine done_ (by kernel_rfl) ?_
   have HBL : Aside0 (Below w.heap.size w (w3.drewN n4)) := ⟨pw_below_drewN (below_then (below_drew (pw_below_drewN (Below.refl _ w) n1)) (Nat.le_refl _) hb3) n4⟩
   clear hb3 hHeld
   go_wp2
   go_ret2
   exact ⟨rfl, HBL.out⟩
 ·have hd : decide (aeadOK a0 a1 a2.size q) = false := decide_eq_false hc
  rw [if_neg hc]
  have HD := Aside0.mk hd
  clear hc hd hxs hxb hyb hq
  go_enter Try.func64, Try.ntmps64
  go_upto_region 2 with (fail)
  rw [HN.out]
  go_wp2_with (fail)
  refine (HMay.out _).mono ?_
  rw [HD.out]
  rintro e w1 ⟨rfl, ⟨n1, rfl⟩⟩
  go_wp2
  go_ret2
  exact ⟨rfl, pw_below_drewN (Below.refl _ w) _⟩
theorem aead_Open.calls (a0 a1 a2 a3 : ByteArray) (r1 : ByteArray) (r2 : Int) (w : World) (h : aead_Open.f a0 a1 a2 a3 = some (r1, r2)) :
  Calls Try.prog 64 #[.string a0, .string a1, .string a2, .string a3] w fun e w' => e = .returned (.tuple #[.string r1, .int .i64 r2]) ∧ Below w.heap.size w w' := by
 unfold aead_Open.f at h
 by_cases hc : a2.size ≤ 1000000000000000 ∧ a3.size ≤ 1000000000000000
 ·rw [if_pos hc] at h
  have h := Option.some.inj h
  have e1 : r1 = (openF a0 a1 a2 a3).1 := by rw [h]
  have e2 : r2 = (openF a0 a1 a2 a3).2 := by rw [h]
  rw [e1, e2]
  by_cases h16 : a3.size < 16
  ·exact aead_Open.short a0 a1 a2 a3 w hc.1 h16
  ·exact aead_Open.long a0 a1 a2 a3 (a3.size - 16) w hc.1 hc.2 (by omega)
 ·rw [if_neg hc] at h
  cases h
end Go.Proofs.Ytbkbganflnemeaa.Pr
end

section
namespace Go.Proofs.Ytbkbganflnemeaa.Pr
open Go.RowKit Go.Proofs.YtbkbganflnemeaaW.PrintWords Go.Proofs.YtbkbganflnemeaaW.PrintLast Go.Proofs.YtbkbganflnemeaaW.PrintMore
attribute [local go_sem] max2_int min2_int max_two min_two max_three min_three max_four min_four
def aead_Seal.f (a0 : ByteArray) (a1 : ByteArray) (a2 : ByteArray) (a3 : ByteArray) : Option (ByteArray × Int) := (aead_may.f a0 a1 (a2.size : Int) (a3.size : Int)).bind fun t136 => (if t136 = true then ((chacha_Stream.f a0 a1 1 a3).bind fun bt137 => ((aead_tag.f a0 a1 a2 bt137.1).bind fun t139 => (if bt137.1.size + t139.size ≤ 9223372036854775807 then (some (bt137.1 ++ t139, 0)) else (none)))) else (some ((⟨#[]⟩ : ByteArray), 1)))
set_option maxHeartbeats 8000000 in
set_option maxRecDepth 100000 in
theorem aead_Seal.calls (a0 : ByteArray) (a1 : ByteArray) (a2 : ByteArray) (a3 : ByteArray) (r1 : ByteArray) (r2 : Int) (w : World) (h : aead_Seal.f a0 a1 a2 a3 = some (r1, r2)) :
  Calls Try.prog 29 #[.string a0, .string a1, .string a2, .string a3] w fun e w' => e = .returned (.tuple #[.string r1, .int .i64 r2]) ∧ Below w.heap.size w w' := by
 have HB := Aside0.mk (Below.refl w.heap.size w); have H : ((aead_may.f a0 a1 (a2.size : Int) (a3.size : Int)).bind fun t136 => (if t136 = true then ((chacha_Stream.f a0 a1 1 a3).bind fun bt137 => ((aead_tag.f a0 a1 a2 bt137.1).bind fun t139 => (if bt137.1.size + t139.size ≤ 9223372036854775807 then (some (bt137.1 ++ t139, 0)) else (none)))) else (some ((⟨#[]⟩ : ByteArray), 1)))) = some (r1, r2) := h; clear h; replace H := Option.bind_eq_some_iff.mp H; obtain ⟨t136, A50, H⟩ := H; have A5 := Aside0.mk A50; clear A50; by_cases c6 : t136 = true
 ·subst c6; have H1 : ((chacha_Stream.f a0 a1 1 a3).bind fun bt137 => ((aead_tag.f a0 a1 a2 bt137.1).bind fun t139 => (if bt137.1.size + t139.size ≤ 9223372036854775807 then (some (bt137.1 ++ t139, 0)) else (none)))) = some (r1, r2) := by rw [if_pos rfl] at H; exact H
  clear H; have H := H1; clear H1; replace H := Option.bind_eq_some_iff.mp H; obtain ⟨⟨t137, t138⟩, A70, H⟩ := H; try dsimp only at H
  have A7 := Aside0.mk A70; clear A70; replace H := Option.bind_eq_some_iff.mp H; obtain ⟨t139, A80, H⟩ := H; have A8 := Aside0.mk A80; clear A80; by_cases c9 : t137.size + t139.size ≤ 9223372036854775807
  ·rw [if_pos c9] at H; have c9b0 := eq_true c9; have c9b1 : decide (t137.size + t139.size ≤ 9223372036854775807) = true := decide_eq_true c9; try have c9b2 : (9223372036854775807 < t137.size + t139.size) = False := eq_false (Nat.not_lt.2 c9)
   simp only [Option.some.injEq, Prod.mk.injEq] at H; obtain ⟨rfl, rfl⟩ := H; go_enter Try.func29, Try.ntmps29
   go_wp2_with (first | ((with_reducible refine gate_callee (f := 65) rfl ?_); refine gl_ 18 Try.func65 #[.string a0, .string a1, .int .i64 (a2.size : Int), .int .i64 (a3.size : Int)] ?_; (with_reducible refine (aead_may.calls a0 a1 (a2.size : Int) (a3.size : Int) true _ A5.out).mono ?_); rintro e w' ⟨rfl, ⟨nd, rfl⟩⟩; refine ⟨_, rfl, ?_⟩) | ((with_reducible refine gate_callee (f := 66) rfl ?_); refine gl_ 24 Try.func66 #[.string a0, .string a1, .int .i64 1, .string a3] ?_; (with_reducible refine (chacha_Stream.calls a0 a1 1 a3 t137 t138 _ A7.out).mono ?_); rintro e w10 ⟨rfl, hb⟩; refine ⟨_, rfl, ?_⟩; replace HB := Aside0.mk (below_step hb_ hb)) | ((with_reducible refine gate_callee (f := 67) rfl ?_); refine gl_ 32 Try.func67 #[.string a0, .string a1, .string a2, .string t137] ?_; (with_reducible refine (aead_tag.calls a0 a1 a2 t137 t139 _ A8.out).mono ?_); rintro e w11 ⟨rfl, hb⟩; refine ⟨_, rfl, ?_⟩; replace HB := Aside0.mk (below_step hb_ hb)))
   go_ret2
   exact ⟨ew_, hb_⟩
  ·rw [if_neg c9] at H; exact absurd H (by simp)
 ·replace c6 := Bool.eq_false_iff.mpr c6; subst c6; have H1 : (some ((⟨#[]⟩ : ByteArray), 1)) = some (r1, r2) := by rw [if_neg (show ¬ (false = true) by decide)] at H; exact H
  clear H; have H := H1; clear H1; simp only [Option.some.injEq, Prod.mk.injEq] at H; obtain ⟨rfl, rfl⟩ := H; go_enter Try.func29, Try.ntmps29
  go_wp2_with (first | ((with_reducible refine gate_callee (f := 65) rfl ?_); refine gl_ 18 Try.func65 #[.string a0, .string a1, .int .i64 (a2.size : Int), .int .i64 (a3.size : Int)] ?_; (with_reducible refine (aead_may.calls a0 a1 (a2.size : Int) (a3.size : Int) false _ A5.out).mono ?_); rintro e w' ⟨rfl, ⟨nd, rfl⟩⟩; refine ⟨_, rfl, ?_⟩))
  go_ret2
  exact ⟨ew_, hb_⟩
end Go.Proofs.Ytbkbganflnemeaa.Pr
end

section
namespace Go.Proofs.Ytbkbganflnemeaa.Pr
open Go.RowKit Go.Proofs.YtbkbganflnemeaaW.PrintWords Go.Proofs.YtbkbganflnemeaaW.PrintLast
set_option maxHeartbeats 1000000
theorem aead_Seal_f (a0 a1 a2 a3 : ByteArray) (h2 : a2.size ≤ 1000000000000000) (h3 : a3.size ≤ 1000000000000000) : aead_Seal.f a0 a1 a2 a3 = some (sealF a0 a1 a2 a3) := by
 unfold aead_Seal.f sealF
 rw [aead_may_f a0 a1 _ _ h2 h3, Option.bind_some]
 by_cases hc : aeadOK a0 a1 a2.size a3.size
 ·rw [if_pos hc, if_pos (decide_eq_true hc)]
  obtain ⟨k0, k1, k2, k3⟩ := hc
  have hb : bys (txt (streamL (bys a0) (bys a1) 1 (bys a3))) = streamL (bys a0) (bys a1) 1 (bys a3) := bys_txt (streamL_lt _ _ _ _ (bys_lt' _))
  have hz : (txt (streamL (bys a0) (bys a1) 1 (bys a3))).size = a3.size := by rw [txt_size, streamL_length, bys_length]
  rw [stream_f a0 a1 a3 k0 k1 (by omega), Option.bind_some]
  unfold aead_tag.f
  rw [if_pos ⟨k0, k1, by rw [hz]; omega⟩, Option.bind_some, hb, if_pos (by rw [hz, txt_size, tagL_length]; omega), txt_append]
 ·rw [if_neg hc, if_neg (by rw [decide_eq_false hc]; decide)]
def hkT (key p : ByteArray) : ByteArray := txt ((expL (bys key) (bys p) 1).take 32)
theorem hkT_size (key p : ByteArray) : (hkT key p).size = 32 := by
 unfold hkT
 rw [txt_size, List.length_take, expL_length]
 rfl
theorem expand_32 (key p : ByteArray) (h0 : key.size ≤ 1000000000) (h1 : p.size ≤ 1000000000) : hkdf_Expand.f key p 32 = some (hkT key p, 0) := hkdf_Expand_f key p h0 h1 32 (by decide)
end Go.Proofs.Ytbkbganflnemeaa.Pr
end

section
namespace Go.Proofs.Ytbkbganflnemeaa.Pr
open Go.RowKit Go.Deep Go.Maps Go.Proofs.YtbkbganflnemeaaW.PrintWords Go.Proofs.YtbkbganflnemeaaW.PrintLast Go.Proofs.YtbkbganflnemeaaW.PrintMore
set_option maxHeartbeats 2000000
def RealAt (g : Nat) (w : World) : Prop := w.heap[g]? = some (.cells #[.iface 91 (.agg #[])] 43 (0, 0))
theorem Real_calls (w : World) :
  Calls Try.prog 25 #[] w fun e w' => e = .returned (.pointer (some ⟨w.heap.size, 0, none⟩)) ∧ RealAt w.heap.size w' ∧ Below w.heap.size w w' := by
 go_enter Try.func25, Try.ntmps25
 go_wp2_with (fail)
 go_ret
 exact ⟨rfl, heap_alloc_new w _, below_alloc (Below.refl _ _) _⟩
theorem made_some (g : Nat) (w : World) (t : TypeId) (v : Value) (h : w.cell? ⟨g, 0, none⟩ = some (.iface t v)) : Calls Try.prog 61 #[.pointer (some ⟨g, 0, none⟩)] w fun e w' => e = .returned (.bool true) ∧ w' = w := by
 go_enter Try.func61, Try.ntmps61
 go_wp2_with (fail)
 go_ret
 exact ⟨rfl, rfl⟩
end Go.Proofs.Ytbkbganflnemeaa.Pr
end

section
namespace Go.Proofs.Ytbkbganflnemeaa.Pr
open Go.RowKit Go.Proofs.YtbkbganflnemeaaW.PrintWords Go.Proofs.YtbkbganflnemeaaW.PrintLast Go.Proofs.YtbkbganflnemeaaW.PrintMore
attribute [local go_sem] max2_int min2_int max_two min_two max_three min_three max_four min_four
def hkdf_Derive.f (a0 : ByteArray) (a1 : ByteArray) (a2 : ByteArray) (a3 : Int) : Option (ByteArray × Int) := (hkdf_Extract.f a0 a1).bind fun t332 => ((hkdf_Expand.f t332 a2 a3).bind fun bt333 => (some (bt333.1, bt333.2)))
set_option maxHeartbeats 8000000 in
set_option maxRecDepth 100000 in
theorem hkdf_Derive.calls (a0 : ByteArray) (a1 : ByteArray) (a2 : ByteArray) (a3 : Int) (r1 : ByteArray) (r2 : Int) (w : World) (h : hkdf_Derive.f a0 a1 a2 a3 = some (r1, r2)) :
  Calls Try.prog 59 #[.string a0, .string a1, .string a2, .int .i64 a3] w fun e w' => e = .returned (.tuple #[.string r1, .int .i64 r2]) ∧ Below w.heap.size w w' := by
 have HB := Aside0.mk (Below.refl w.heap.size w); have H : ((hkdf_Extract.f a0 a1).bind fun t332 => ((hkdf_Expand.f t332 a2 a3).bind fun bt333 => (some (bt333.1, bt333.2)))) = some (r1, r2) := h; clear h; replace H := Option.bind_eq_some_iff.mp H; obtain ⟨t332, A50, H⟩ := H; have A5 := Aside0.mk A50; clear A50; replace H := Option.bind_eq_some_iff.mp H; obtain ⟨⟨t333, t334⟩, A60, H⟩ := H; try dsimp only at H
 have A6 := Aside0.mk A60; clear A60; simp only [Option.some.injEq, Prod.mk.injEq] at H; obtain ⟨rfl, rfl⟩ := H; go_enter Try.func59, Try.ntmps59
 go_wp2_with (first | ((with_reducible refine gate_callee (f := 94) rfl ?_); refine gl_ 12 Try.func94 #[.string a0, .string a1] ?_; (with_reducible refine (hkdf_Extract.calls a0 a1 t332 _ A5.out).mono ?_); rintro e w7 ⟨rfl, hb⟩; refine ⟨_, rfl, ?_⟩; replace HB := Aside0.mk (below_step hb_ hb)) | ((with_reducible refine gate_callee (f := 92) rfl ?_); refine gl_ 15 Try.func92 #[.string t332, .string a2, .int .i64 a3] ?_; (with_reducible refine (hkdf_Expand.calls t332 a2 a3 t333 t334 _ A6.out).mono ?_); rintro e w8 ⟨rfl, hb⟩; refine ⟨_, rfl, ?_⟩; replace HB := Aside0.mk (below_step hb_ hb)))
 go_ret2
 exact ⟨ew_, hb_⟩
def word_PutBig.f (l0 : List Int) : Option (ByteArray) := (word_put.f l0 false).bind fun t365 => (some t365)
set_option maxHeartbeats 8000000 in
set_option maxRecDepth 100000 in
theorem word_PutBig.calls (A0 : Option Addr) (c0 : Nat) (l0 : List Int) (r : ByteArray) (w : World) (hr0 : Kd.C (Kd.int .i64) w A0 l0.length l0) (hc0 : l0.length ≤ c0) (h : word_PutBig.f l0 = some r) :
  Calls Try.prog 96 #[.slice A0 l0.length c0] w fun e w' => e = .returned (.string r) ∧ Below w.heap.size w w' := by
 have HR0 := Aside0.mk hr0; have HC0 := Aside0.mk hc0; clear hr0 hc0; have HB := Aside0.mk (Below.refl w.heap.size w); have H : ((word_put.f l0 false).bind fun t365 => (some t365)) = some r := h; clear h; replace H := Option.bind_eq_some_iff.mp H; obtain ⟨t365, A20, H⟩ := H; have A2 := Aside0.mk A20; clear A20; obtain rfl := Option.some.inj H; go_enter Try.func96, Try.ntmps96
 go_wp2_with (first | ((with_reducible refine gate_callee (f := 127) rfl ?_); refine gl_ 4 Try.func127 #[.slice A0 l0.length c0, .bool false] ?_; (with_reducible refine (word_put.calls _ _ l0 false t365 _ ?side1 ?side2 A2.out).mono ?_); (case side1 => exact ca_ HR0.out); (case side2 => exact HC0.out); rintro e w3 ⟨rfl, hb⟩; refine ⟨_, rfl, ?_⟩; replace HB := Aside0.mk (below_step hb_ hb)))
 go_ret
 exact ⟨ew_, hb_⟩
end Go.Proofs.Ytbkbganflnemeaa.Pr
end

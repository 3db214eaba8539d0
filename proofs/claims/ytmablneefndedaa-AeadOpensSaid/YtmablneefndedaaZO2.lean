/- Joined texts (pack.py): what the statement's proof needs, part 2 of 6. No condition. -/
import Derived.Below
import Derived.Deep.Draws
import Derived.Deep.AppendLies
import Derived.Maps.AppendAt
import Derived.OwnWalk
import Derived.Laws.BytesArg
import Derived.Laws.MakeOwn
import Derived.Laws.OwnMore
import Derived.Deep.OwnRows
import Derived.Tactics
import Derived.Lib.ConvBytes
import Derived.Laws.Slices
import Derived.WalkKit
import Derived.KernelRfl
import Derived.RowKit3
import Derived.Deep.LoopGhost
import Derived.Deep.QuietTactic
import Derived.BigQuiet
import Derived.WideLaws
import Derived.Deep.DeepCutAuto
import Derived.Deep.CutBlock
import Derived.Deep.RegionHeld3
import Derived.Laws.Rows
import Derived.Lib.AppendStr
import Derived.ArgAppend
import Derived.Laws.IdiomCopy
import Derived.RowKit
import Derived.OrdersHeld
import Derived.Laws.BitsLemmas
import Derived.Laws.StructEq
import Derived.Test.YtmablneefndedaaProg
import Derived.Shelf.Strings.Builder1
import Derived.Shelf.Strings.Builder2
import Derived.Shelf.Strings.BuilderF
import Derived.Shelf.Strings.Prefix
import Derived.Shelf.Bits.Mul64
import Derived.Shelf.Strings.Repeat
import Derived.StillTailTactics
import Derived.IntWalk
import Derived.Deep.Light
import Derived.Deep.WholeRow
import Derived.Laws.CopyOwn
import Derived.Test.YtmablneefndedaaRows
import Derived.ProofKit
import Derived.OpenShut
import Derived.ShutString
import Derived.ChangeOld
import Derived.SizedLaws
import Derived.Test.YtmablneefndedaaZO1
section
namespace Go.Proofs.Ytmablneefndedaa.Pr
open Go.RowKit Go.Proofs.YtmablneefndedaaW.PrintWords Go.Proofs.YtmablneefndedaaW.PrintLast
set_option maxHeartbeats 1000000
set_option linter.unusedVariables false
set_option linter.unusedSimpArgs false
def fillC (W : List Nat) (k : Nat) : List Nat := W.take k ++ List.replicate (16 - k) 0
theorem fillC_length (W : List Nat) (k : Nat) (hW : W.length = 16) (hk : k ≤ 16) : (fillC W k).length = 16 := by
  unfold fillC
  rw [List.length_append, List.length_take, List.length_replicate]
  omega
theorem fillC_set (W : List Nat) (k v : Nat) (hW : W.length = 16) (hk : k < 16) (hv : W.getD k 0 = v) : (fillC W k).set k v = fillC W (k + 1) := by
  unfold fillC
  have hT : (W.take k).length = k := by rw [List.length_take]; omega
  rw [List.set_append_right _ _ (by omega), hT, Nat.sub_self, show 16 - k = (16 - (k + 1)) + 1 by omega, List.replicate_succ, List.set_cons_zero,
    List.take_succ_eq_append_getElem (by omega), List.append_assoc]
  rw [← hv]
  simp [show k < W.length by omega]
theorem fillC_full (W : List Nat) (hW : W.length = 16) : fillC W 16 = W := by
  unfold fillC
  rw [List.take_of_length_le (by omega)]
  simp
theorem fillC_get (W : List Nat) (k i : Nat) (hW : W.length = 16) (hk : k ≤ 16) (hi : i < 16) : ∃ v : Nat, (u32s (fillC W k))[i]? = some (.int .u32 (v : Int)) :=
  ⟨_, u32s_get _ _ (by rw [fillC_length W k hW hk]; omega)⟩
theorem lw4_take (l : List Nat) (n : Nat) (h : 4 ≤ n) : lw4 (l.take n) 0 = lw4 l 0 := by
  unfold lw4
  simp only [List.getD_eq_getElem?_getD, List.getElem?_take, Nat.zero_add]
  rw [if_pos (by omega), if_pos (by omega), if_pos (by omega), if_pos (by omega)]
structure ChA (w : World) (l : List Nat) (W : World) : Prop where
  below : Below w.heap.size w W
  out : W.heap[w.heap.size]? = some (.cells (u8s (List.replicate 64 0)) 49 (0, 0))
  row : W.heap[w.heap.size + 1]? = some (.cells (u32s l) 78 (0, 0))
theorem ChA.set {w W : World} {l : List Nat} (h : ChA w l W) (n k v : Nat) : ChA w (l.set k v) ((W.drewN n).setCell ⟨w.heap.size + 1, k, none⟩ (.int .u32 (v : Int))) :=
  ⟨below_set (pw_below_drewN h.below n) (by omega), blk_far (blk_drewN h.out n) (by simp) _, blk_put (blk_drewN h.row n) k _ (u32s_set l k v)⟩
theorem ChA.set0 {w W : World} {l : List Nat} (h : ChA w l W) (k v : Nat) : ChA w (l.set k v) (W.setCell ⟨w.heap.size + 1, k, none⟩ (.int .u32 (v : Int))) :=
  ⟨below_set h.below (by omega), blk_far h.out (by simp) _, blk_put h.row k _ (u32s_set l k v)⟩
theorem ChA.cell {w W : World} {L : List Nat} {k : Nat} (h : ChA w (fillC L k) W) (hL : L.length = 16) (hk : k ≤ 16) (i : Nat) (hi : i < 16) : (∃ v : Nat, W.cell? ⟨w.heap.size + 1, i, none⟩ = some (.int .u32 (v : Int))) ∧ W.frozen? ⟨w.heap.size + 1, i, none⟩ = false := by
  obtain ⟨v, hv⟩ := fillC_get L k i hL hk hi
  exact ⟨⟨v, (blk_cell h.row i).trans hv⟩, blk_frozen h.row i⟩
theorem ChA.next {w W : World} {L : List Nat} {k v : Nat} (h : ChA w ((fillC L k).set k v) W) (hL : L.length = 16) (hk : k < 16) (hv : L.getD k 0 = v) : ChA w (fillC L (k + 1)) W := by
  rw [← fillC_set L k v hL hk hv]; exact h
theorem ChA.start (w : World) (L : List Nat) : ChA w (fillC L 0) ((w.alloc (.cells (u8s (List.replicate 64 0)) 49)).alloc (.cells (u32s (List.replicate 16 0)) 78)) := by
  refine ⟨below_alloc (below_alloc (Below.refl _ _) _) _, blk_alloc (blk_new _ _) _, ?_⟩
  have := blk_new (w.alloc (.cells (u8s (List.replicate 64 0)) 49)) (.cells (u32s (List.replicate 16 0)) 78)
  rw [show (w.alloc (.cells (u8s (List.replicate 64 0)) 49)).heap.size = w.heap.size + 1 by simp] at this
  rw [show fillC L 0 = List.replicate 16 0 by simp [fillC]]
  exact this
structure ChR (w : World) (g : Nat) (L l : List Nat) (W : World) : Prop where
  a : ChA w l W
  gt : w.heap.size + 1 < g
  was : W.heap[g]? = some (.cells (u32s L) 78 (0, 0))
theorem ChR.set {w W : World} {g : Nat} {L l : List Nat} (h : ChR w g L l W) (n k v : Nat) : ChR w g L (l.set k v) ((W.drewN n).setCell ⟨w.heap.size + 1, k, none⟩ (.int .u32 (v : Int))) :=
  ⟨h.a.set n k v, h.gt, blk_far (blk_drewN h.was n) (by have := h.gt; simp; omega) _⟩
theorem ChR.set0 {w W : World} {g : Nat} {L l : List Nat} (h : ChR w g L l W) (k v : Nat) : ChR w g L (l.set k v) (W.setCell ⟨w.heap.size + 1, k, none⟩ (.int .u32 (v : Int))) :=
  ⟨h.a.set0 k v, h.gt, blk_far h.was (by have := h.gt; simp; omega) _⟩
structure Quad (L : List Nat) (i j k m x y z v : Nat) : Prop where
  ea : L.getD i 0 = x
  eb : L.getD j 0 = y
  ec : L.getD k 0 = z
  ed : L.getD m 0 = v
  la : x < 4294967296
  lb : y < 4294967296
  lc : z < 4294967296
  ld : v < 4294967296
theorem Quad.eq {l : List Nat} {i j k m x y z v : Nat} (h : Quad l i j k m x y z v) : (((l.set i (qa2 x y z v)).set j (qb2 x y z v)).set k (qc2 x y z v)).set m (qd2 x y z v) = qr l i j k m := by
  unfold qr
  rw [h.ea, h.eb, h.ec, h.ed]
theorem ChR.quad {w W : World} {g : Nat} {L l : List Nat} {i j k m x y z v : Nat} (h : ChR w g L l W) (hq : Quad l i j k m x y z v) (n : Nat) : ChR w g L (qr l i j k m) (((((W.drewN n).setCell ⟨w.heap.size + 1, i, none⟩ (.int .u32 (qa2 x y z v : Nat))).setCell ⟨w.heap.size + 1, j, none⟩ (.int .u32 (qb2 x y z v : Nat))).setCell ⟨w.heap.size + 1, k, none⟩ (.int .u32 (qc2 x y z v : Nat))).setCell ⟨w.heap.size + 1, m, none⟩ (.int .u32 (qd2 x y z v : Nat))) := by
  rw [← hq.eq]
  exact (((h.set n i _).set0 j _).set0 k _).set0 m _
theorem ChR.four {w W : World} {g : Nat} {L l : List Nat} (h : ChR w g L l W) (hs : Small l) (hl : l.length = 16) (i j k m : Nat) (hi : i < 16) (hj : j < 16) (hk : k < 16) (hm : m < 16) :
    ∃ a b c d : Nat, Quad l i j k m a b c d ∧ W.cell? ⟨w.heap.size + 1, i, none⟩ = some (.int .u32 (a : Int)) ∧ W.cell? ⟨w.heap.size + 1, j, none⟩ = some (.int .u32 (b : Int)) ∧ W.cell? ⟨w.heap.size + 1, k, none⟩ = some (.int .u32 (c : Int)) ∧ W.cell? ⟨w.heap.size + 1, m, none⟩ = some (.int .u32 (d : Int)) ∧
      W.frozen? ⟨w.heap.size + 1, i, none⟩ = false ∧ W.frozen? ⟨w.heap.size + 1, j, none⟩ = false ∧ W.frozen? ⟨w.heap.size + 1, k, none⟩ = false ∧ W.frozen? ⟨w.heap.size + 1, m, none⟩ = false :=
  ⟨_, _, _, _, ⟨rfl, rfl, rfl, rfl, hs i, hs j, hs k, hs m⟩, (blk_cell h.a.row i).trans (u32s_get l i (by omega)), (blk_cell h.a.row j).trans (u32s_get l j (by omega)), (blk_cell h.a.row k).trans (u32s_get l k (by omega)), (blk_cell h.a.row m).trans (u32s_get l m (by omega)), blk_frozen h.a.row i, blk_frozen h.a.row j, blk_frozen h.a.row k, blk_frozen h.a.row m⟩
def chaO (L : List Nat) : List Nat := (List.range 16).flatMap fun k => le4 ((L.getD k 0 + (dbl L 10).getD k 0) % 4294967296)
def outC (f : Nat → Nat) (k : Nat) : List Nat := (List.range k).flatMap (fun i => le4 (f i)) ++ List.replicate (64 - 4 * k) 0
theorem flatC_length (f : Nat → Nat) (k : Nat) : ((List.range k).flatMap (fun i => le4 (f i))).length = 4 * k := by
  induction k with
  | zero => rfl
  | succ k ih => rw [List.range_succ, List.flatMap_append, List.length_append, ih]; simp [le4]; omega
theorem outC_length (f : Nat → Nat) (k : Nat) (hk : k ≤ 16) : (outC f k).length = 64 := by
  unfold outC
  rw [List.length_append, flatC_length, List.length_replicate]
  omega
theorem outC_set (f : Nat → Nat) (k : Nat) (hk : k < 16) :
    ((((outC f k).set (4 * k) (f k % 256)).set (4 * k + 1) (f k / 256 % 256)).set (4 * k + 2) (f k / 65536 % 256)).set (4 * k + 3) (f k / 16777216 % 256) = outC f (k + 1) := by
  have hF := flatC_length f k
  have hr : List.replicate (64 - 4 * k) 0 = 0 :: 0 :: 0 :: 0 :: List.replicate (64 - 4 * (k + 1)) 0 := by
    rw [show 64 - 4 * k = (64 - 4 * (k + 1)) + 1 + 1 + 1 + 1 by omega]; rfl
  unfold outC
  rw [List.range_succ, List.flatMap_append, hr]
  generalize (List.range k).flatMap (fun i => le4 (f i)) = F at hF
  rw [List.set_append_right _ _ (by omega), List.set_append_right _ _ (by omega), List.set_append_right _ _ (by omega), List.set_append_right _ _ (by omega)]
  rw [show 4 * k - F.length = 0 by omega, show 4 * k + 1 - F.length = 1 by omega, show 4 * k + 2 - F.length = 2 by omega, show 4 * k + 3 - F.length = 3 by omega]
  simp [le4]
theorem outC_full (f : Nat → Nat) : outC f 16 = (List.range 16).flatMap (fun i => le4 (f i)) := by simp [outC]
structure ChO (w : World) (g2 g3 : Nat) (L o : List Nat) (W : World) : Prop where
  below : Below w.heap.size w W
  out : W.heap[w.heap.size]? = some (.cells (u8s (List.replicate 64 0)) 49 (0, 0))
  was : W.heap[g2]? = some (.cells (u32s L) 78 (0, 0))
  row : W.heap[g3]? = some (.cells (u8s o) 49 (0, 0))
  lt2 : w.heap.size + 1 < g2
  lt3 : g2 < g3
theorem ChO.set0 {w W : World} {g2 g3 : Nat} {L o : List Nat} (h : ChO w g2 g3 L o W) (k v : Nat) : ChO w g2 g3 L (o.set k v) (W.setCell ⟨g3, k, none⟩ (.int .u8 (v : Int))) := by
  have h2 := h.lt2
  have h3 := h.lt3
  exact ⟨below_set h.below (by omega), blk_far h.out (by simp; omega) _, blk_far h.was (by simp; omega) _, blk_put h.row k _ (u8s_set o k v), h2, h3⟩
theorem ChO.step {w W : World} {g2 g3 : Nat} {L : List Nat} {f : Nat → Nat} {k : Nat} (h : ChO w g2 g3 L (outC f k) W) (hk : k < 16) (x : Nat) (hx : f k = x) : ChO w g2 g3 L (outC f (k + 1))
    ((((W.setCell ⟨g3, 4 * k, none⟩ (.int .u8 ((x : Int) % 256))).setCell ⟨g3, 4 * k + 1, none⟩ (.int .u8 ((x : Int) / 256 % 256))).setCell ⟨g3, 4 * k + 2, none⟩ (.int .u8 ((x : Int) / 65536 % 256))).setCell ⟨g3, 4 * k + 3, none⟩ (.int .u8 ((x : Int) / 16777216 % 256))) := by
  rw [← outC_set f k hk, hx]
  exact (((h.set0 (4 * k) (x % 256)).set0 (4 * k + 1) (x / 256 % 256)).set0 (4 * k + 2) (x / 65536 % 256)).set0 (4 * k + 3) (x / 16777216 % 256)
theorem ChO.cell {w W : World} {g2 g3 : Nat} {L : List Nat} {f : Nat → Nat} {k : Nat} (h : ChO w g2 g3 L (outC f k) W) (hk : k ≤ 16) (i : Nat) (hi : i < 64) : (∃ v : Nat, W.cell? ⟨g3, i, none⟩ = some (.int .u8 (v : Int))) ∧ W.frozen? ⟨g3, i, none⟩ = false :=
  ⟨⟨_, (blk_cell h.row i).trans (u8s_get _ i (by rw [outC_length f k hk]; exact hi))⟩, blk_frozen h.row i⟩
theorem u8s_one (l : List Nat) : (u8s l).all (·.oneCell') = true := by
  simp [u8s, Value.oneCell']
theorem index_u32 (D : List Nat) (hD : D.length = 16) (k : Nat) (hk : k < 16) (w : World) : (Instr.index 78 (.agg (u32s D)) (.int .i64 (k : Int))).run Try.prog w = .ok (.int .u32 (D.getD k 0 : Nat)) w := by
  refine index_row (D.map fun (n : Nat) => Value.int .u32 (n : Int)) 78 77 16 Try.underlying78 (by kernel_rfl) ?_ k _ ?_ (by simpa using hD) ⟨_, Try.underlying77, rfl⟩ w
  · intro v hv
    rw [List.mem_map] at hv
    obtain ⟨n, _, rfl⟩ := hv
    simp [Value.cells]
  · rw [List.getElem?_map, List.getElem?_eq_getElem (by omega), List.getD_eq_getElem?_getD, List.getElem?_eq_getElem (by omega)]
    rfl
set_option maxRecDepth 100000 in
theorem chacha_bytes_calls (a0 a1 : ByteArray) (m : Nat) (w : World) (h0 : a0.size = 32) (h1 : a1.size = 12) (hm : m < 4294967296) :
    Calls Try.prog 48 #[.string a0, .string a1, .int .i64 m] w fun e w' => e = .returned (.agg (u8s (chaL (bys a0) (bys a1) m))) ∧ Below w.heap.size w w' := by
  have hinf : (Try.prog.info? 49).map (·.size) = some 64 := by kernel_rfl
  have HI := Aside0.mk hinf
  clear hinf
  have HW := Aside0.mk (chaW_length (bys a0) (bys a1) m)
  have HSm := Aside0.mk (chaW_small a0 a1 m)
  have W1 := Aside0.mk (fun k (hk : k < 4) => chaW_head (bys a0) (bys a1) m k hk)
  have W2 := Aside0.mk (fun k (hk : k < 8) => chaW_key (bys a0) (bys a1) m k hk)
  have W3 := Aside0.mk (chaW_count (bys a0) (bys a1) m)
  have W4 := Aside0.mk (fun k (hk : k < 3) => chaW_nonce (bys a0) (bys a1) m k hk)
  have hr : chaL (bys a0) (bys a1) m = chaO (chaW (bys a0) (bys a1) m) := rfl
  rw [hr]
  clear hr
  generalize chaW (bys a0) (bys a1) m = L at HW HSm W1 W2 W3 W4 ⊢
  go_enter Try.func48, Try.ntmps48
  go_wp2_with (fail)
  go_loopw [20] (fun i wr => ∃ k : Nat, k ≤ 4 ∧ i = .int .i64 k ∧ Aside0 (ChA w (fillC L k) wr)) (fun i _ => 4 - (intOf i).toNat)
  case atStart => exact ⟨0, by omega, rfl, ⟨ChA.start w L⟩⟩
  case round =>
    obtain ⟨k, hk, rfl, H⟩ := hrel
    by_cases hlt : k < 4
    · obtain ⟨⟨v, hv⟩, hf⟩ := H.out.cell HW.out (by omega) k (by omega)
      have hx := W1.out k hlt
      generalize L.getD k 0 = x at hx
      have HX := Aside0.mk hx
      have HB := Aside0.mk (show lw4 (bys ((⟨#[101, 120, 112, 97, 110, 100, 32, 51, 50, 45, 98, 121, 116, 101, 32, 107]⟩ : ByteArray).extract (4 * k) 16)) 0 = L.getD k 0 by
        rw [bys_extract, lw4_take _ _ (by omega), lw4_drop, W1.out k hlt]; rfl)
      have HSZ := Aside0.mk (show 4 ≤ ((⟨#[101, 120, 112, 97, 110, 100, 32, 51, 50, 45, 98, 121, 116, 101, 32, 107]⟩ : ByteArray).extract (4 * k) 16).size by rw [ByteArray.size_extract]; exact (show 4 ≤ min 16 16 - 4 * k by omega))
      clear hx
      go_wp2_with (fail)
      refine (small_calls _ _ HSZ.out).mono ?_
      rintro e1 w1 ⟨rfl, n1, rfl⟩
      rw [HB.out]
      generalize hy : L.getD k 0 = y
      have HY := Aside0.mk hy
      clear hy
      go_wp2
      exact ⟨⟨k + 1, by omega, by go_num, ⟨(H.out.set n1 k y).next HW.out (by omega) HY.out⟩⟩, by simp [intOf]; omega⟩
    · obtain rfl : k = 4 := by omega
      clear hlt hk
      rw [show ((4 : Nat) : Int) = 4 from rfl]
      go_wp2_with (fail)
      go_loopw [30] (fun i wr => ∃ k : Nat, k ≤ 8 ∧ i = .int .i64 k ∧ Aside0 (ChA w (fillC L (4 + k)) wr)) (fun i _ => 8 - (intOf i).toNat)
      case atStart => exact ⟨0, by omega, rfl, H⟩
      case round =>
        clear H
        obtain ⟨k, hk, rfl, H⟩ := hrel
        by_cases hlt : k < 8
        · obtain ⟨⟨v, hv⟩, hf⟩ := H.out.cell HW.out (by omega) (4 + k) (by omega)
          have HB := Aside0.mk (show lw4 (bys (a0.extract (4 * k) 32)) 0 = L.getD (4 + k) 0 by
            rw [bys_extract, lw4_take _ _ (by omega), lw4_drop, W2.out k hlt])
          have HSZ := Aside0.mk (show 4 ≤ (a0.extract (4 * k) 32).size by rw [ByteArray.size_extract]; omega)
          go_wp2_with (fail)
          refine (small_calls _ _ HSZ.out).mono ?_
          rintro e1 w1 ⟨rfl, n1, rfl⟩
          rw [HB.out]
          generalize hy : L.getD (4 + k) 0 = y
          have HY := Aside0.mk hy
          clear hy
          go_wp2
          exact ⟨⟨k + 1, by omega, by go_num, ⟨(H.out.set n1 (4 + k) y).next HW.out (by omega) HY.out⟩⟩, by simp [intOf]; omega⟩
        · obtain rfl : k = 8 := by omega
          clear hlt hk
          rw [show ((8 : Nat) : Int) = 8 from rfl]
          obtain ⟨⟨v, hv⟩, hf⟩ := H.out.cell HW.out (by omega) 12 (by omega)
          go_wp2_with (fail)
          have H : Aside0 (ChA w (fillC L (13 + 0)) (wr.setCell { block := w.heap.size + 1, off := 12 } (.int .u32 (m : Int)))) := ⟨(H.out.set0 12 m).next HW.out (by omega) (W3.out.trans (Nat.mod_eq_of_lt hm))⟩
          clear hv hf
          generalize wr.setCell { block := w.heap.size + 1, off := 12 } (.int .u32 (m : Int)) = wr at *
          go_loopw [45] (fun i wr => ∃ k : Nat, k ≤ 3 ∧ i = .int .i64 k ∧ Aside0 (ChA w (fillC L (13 + k)) wr)) (fun i _ => 3 - (intOf i).toNat)
          case atStart => exact ⟨0, by omega, rfl, H⟩
          case round =>
            clear H
            obtain ⟨k, hk, rfl, H⟩ := hrel
            by_cases hlt : k < 3
            · obtain ⟨⟨v, hv⟩, hf⟩ := H.out.cell HW.out (by omega) (13 + k) (by omega)
              have HB := Aside0.mk (show lw4 (bys (a1.extract (4 * k) 12)) 0 = L.getD (13 + k) 0 by
                rw [bys_extract, lw4_take _ _ (by omega), lw4_drop, W4.out k hlt])
              have HSZ := Aside0.mk (show 4 ≤ (a1.extract (4 * k) 12).size by rw [ByteArray.size_extract]; omega)
              go_wp2_with (fail)
              refine (small_calls _ _ HSZ.out).mono ?_
              rintro e1 w1 ⟨rfl, n1, rfl⟩
              rw [HB.out]
              generalize hy : L.getD (13 + k) 0 = y
              have HY := Aside0.mk hy
              clear hy
              go_wp2
              exact ⟨⟨k + 1, by omega, by go_num, ⟨(H.out.set n1 (13 + k) y).next HW.out (by omega) HY.out⟩⟩, by simp [intOf]; omega⟩
            · obtain rfl : k = 3 := by omega
              clear hlt hk
              rw [show ((3 : Nat) : Int) = 3 from rfl]
              have H2 : ChA w L wr := by have := H.out; rwa [fillC_full L HW.out] at this
              have H := Aside0.mk H2
              clear H2
              have hi16 : (Try.prog.info? 78).map (·.size) = some (u32s L).size := by rw [u32s_size, HW.out]; kernel_rfl
              have hi16' : (u32s (List.replicate 16 0)).size = (u32s L).size := by rw [u32s_size, u32s_size, HW.out]; rfl
              have HI16 := Aside0.mk hi16
              have HI16' := Aside0.mk hi16'
              clear hi16 hi16'
              go_wp2_with (first | (refine wpList_load_row rfl 78 (.tmp 7) rfl (w.heap.size + 1) rfl 78 (u32s L) (0, 0) _ H.out.row Try.underlying78 rfl HI16.out ?_) | (refine wpList_store_row rfl 78 (.tmp 11) (.tmp 57) rfl _ (u32s L) rfl rfl 78 _ (heap_alloc_last _ _) HI16.out HI16'.out (u32s_one _) ?_; rw [World.setRow_alloc_new]))
              have H : Aside0 (ChR w wr.heap.size L (dbl L 0) (wr.alloc (.cells (u32s L) 78))) := ⟨⟨⟨below_alloc H.out.below _, blk_alloc H.out.out _, blk_alloc H.out.row _⟩, blk_lt H.out.row, heap_alloc_last _ _⟩⟩
              generalize wr.heap.size = g2 at *
              generalize wr.alloc (.cells (u32s L) 78) = wr at *
              go_loopw [58] (fun i wr => ∃ k : Nat, k ≤ 10 ∧ i = .int .i64 k ∧ Aside0 (ChR w g2 L (dbl L k) wr)) (fun i _ => 10 - (intOf i).toNat)
              case atStart => exact ⟨0, by omega, rfl, H⟩
              case round =>
                clear H
                obtain ⟨n, hn, rfl, H⟩ := hrel
                by_cases hlt : n < 10
                · go_wp2_with (fail)
                  go_loopw [60] (fun i wr => ∃ k : Nat, k ≤ 4 ∧ i = .int .i64 k ∧ Aside0 (ChR w g2 L (col (dbl L n) k) wr)) (fun i _ => 4 - (intOf i).toNat)
                  case atStart => exact ⟨0, by omega, rfl, H⟩
                  case round =>
                    clear H
                    obtain ⟨k, hk, rfl, H⟩ := hrel
                    by_cases hlk : k < 4
                    · obtain ⟨x0, x1, x2, x3, hq, c0, c1, c2, c3, f0, f1, f2, f3⟩ := H.out.four (col_small (dbl_small HSm.out n) k) (by rw [col_length, dbl_length, HW.out]) k (k + 4) (k + 8) (k + 12) (by omega) (by omega) (by omega) (by omega)
                      have HQ := Aside0.mk hq
                      clear hq
                      go_wp2_with (fail)
                      have q0 : (k : Int) < 16 := by omega
                      have j4 : wrap64 ((k : Int) + 4) = (k : Int) + 4 := by unfold wrap64; omega
                      have p4 : 0 ≤ (k : Int) + 4 := by omega
                      have q4 : (k : Int) + 4 < 16 := by omega
                      have n4 : ((k : Int) + 4).toNat = k + 4 := by omega
                      have j8 : wrap64 ((k : Int) + 8) = (k : Int) + 8 := by unfold wrap64; omega
                      have p8 : 0 ≤ (k : Int) + 8 := by omega
                      have q8 : (k : Int) + 8 < 16 := by omega
                      have n8 : ((k : Int) + 8).toNat = k + 8 := by omega
                      have j12 : wrap64 ((k : Int) + 12) = (k : Int) + 12 := by unfold wrap64; omega
                      have p12 : 0 ≤ (k : Int) + 12 := by omega
                      have q12 : (k : Int) + 12 < 16 := by omega
                      have n12 : ((k : Int) + 12).toNat = k + 12 := by omega
                      refine start_ (n := 36) (S := fun w' => w'.cell? ⟨w.heap.size + 1, k, none⟩ = some (.int .u32 (x0 : Int)) ∧ w'.cell? ⟨w.heap.size + 1, k + 4, none⟩ = some (.int .u32 (x1 : Int)) ∧ w'.cell? ⟨w.heap.size + 1, k + 8, none⟩ = some (.int .u32 (x2 : Int)) ∧ w'.cell? ⟨w.heap.size + 1, k + 12, none⟩ = some (.int .u32 (x3 : Int))) (ds := [29, 31, 33, 35]) #[false, false, false, false, false, false, false, false, false, false, false, false, false, false, false, false, false, false, false, false, false, false, false, false, false, false, false, false, false, false, false, false, false, false, false, false] (by kernel_rfl) rfl rfl ⟨(show _ from c0), (show _ from c1), (show _ from c2), (show _ from c3)⟩ (fun hHeld => ?_)
                      refine pure_ (i := 0) (N := some 64) (v := ?_) (a' := ?_) #[true, false, false, false, false, false, false, false, false, false, false, false, false, false, false, false, false, false, false, false, false, false, false, false, false, false, false, false, false, false, false, false, false, false, false, false] rfl rfl (by kernel_rfl) (fun _ _ _ h => h) (Or.inl ⟨by rfl, ?_⟩) ?_ ?_
                      rotate_left
                      · intro w'
                        go_simp
                        with_reducible rfl
                      rotate_left
                      · simp only [Act.put, List.setIfInBounds_toArray, List.set_cons_zero, List.set_cons_succ, i64_w, i32_w]
                        rfl
                      refine pure_ (i := 1) (N := some 65) (v := ?_) (a' := ?_) #[true, true, false, false, false, false, false, false, false, false, false, false, false, false, false, false, false, false, false, false, false, false, false, false, false, false, false, false, false, false, false, false, false, false, false, false] rfl rfl (by kernel_rfl) (fun _ _ _ h => h) (Or.inl ⟨by rfl, ?_⟩) ?_ ?_
                      rotate_left
                      · intro w'
                        go_simp
                        with_reducible rfl
                      rotate_left
                      · simp only [Act.put, List.setIfInBounds_toArray, List.set_cons_zero, List.set_cons_succ, i64_w, i32_w]
                        rfl
                      refine pure_ (i := 2) (N := some 66) (v := ?_) (a' := ?_) #[true, true, true, false, false, false, false, false, false, false, false, false, false, false, false, false, false, false, false, false, false, false, false, false, false, false, false, false, false, false, false, false, false, false, false, false] rfl rfl (by kernel_rfl) (fun _ _ _ h => h) (Or.inl ⟨by rfl, ?_⟩) ?_ ?_
                      rotate_left
                      · intro w'
                        go_simp
                        with_reducible rfl
                      rotate_left
                      · simp only [Act.put, List.setIfInBounds_toArray, List.set_cons_zero, List.set_cons_succ, i64_w, i32_w]
                        rfl
                      refine pure_ (i := 3) (N := some 67) (v := ?_) (a' := ?_) #[true, true, true, true, false, false, false, false, false, false, false, false, false, false, false, false, false, false, false, false, false, false, false, false, false, false, false, false, false, false, false, false, false, false, false, false] rfl rfl (by kernel_rfl) (fun _ _ _ h => h) (Or.inl ⟨by rfl, ?_⟩) ?_ ?_
                      rotate_left
                      · intro w'
                        go_simp
                        with_reducible rfl
                      rotate_left
                      · simp only [Act.put, List.setIfInBounds_toArray, List.set_cons_zero, List.set_cons_succ, i64_w, i32_w]
                        rfl
                      refine pure_ (i := 4) (N := some 68) (v := ?_) (a' := ?_) #[true, true, true, true, true, false, false, false, false, false, false, false, false, false, false, false, false, false, false, false, false, false, false, false, false, false, false, false, false, false, false, false, false, false, false, false] rfl rfl (by kernel_rfl) (fun _ _ _ h => h) (Or.inl ⟨by rfl, ?_⟩) ?_ ?_
                      rotate_left
                      · intro w'
                        go_simp
                        with_reducible rfl
                      rotate_left
                      · simp only [Act.put, List.setIfInBounds_toArray, List.set_cons_zero, List.set_cons_succ, i64_w, i32_w]
                        rfl
                      refine pure_ (i := 5) (N := some 69) (v := ?_) (a' := ?_) #[true, true, true, true, true, true, false, false, false, false, false, false, false, false, false, false, false, false, false, false, false, false, false, false, false, false, false, false, false, false, false, false, false, false, false, false] rfl rfl (by kernel_rfl) (fun _ _ _ h => h) (Or.inl ⟨by rfl, ?_⟩) ?_ ?_
                      rotate_left
                      · intro w'
                        go_simp
                        with_reducible rfl
                      rotate_left
                      · simp only [Act.put, List.setIfInBounds_toArray, List.set_cons_zero, List.set_cons_succ, i64_w, i32_w]
                        rfl
                      refine pure_ (i := 6) (N := some 70) (v := ?_) (a' := ?_) #[true, true, true, true, true, true, true, false, false, false, false, false, false, false, false, false, false, false, false, false, false, false, false, false, false, false, false, false, false, false, false, false, false, false, false, false] rfl rfl (by kernel_rfl) (fun _ _ _ h => h) (Or.inl ⟨by rfl, ?_⟩) ?_ ?_
                      rotate_left
                      · intro w'
                        go_simp
                        with_reducible rfl
                      rotate_left
                      · simp only [Act.put, List.setIfInBounds_toArray, List.set_cons_zero, List.set_cons_succ, i64_w, i32_w]
                        rfl
                      refine pure_ (i := 7) (N := some 71) (v := ?_) (a' := ?_) #[true, true, true, true, true, true, true, true, false, false, false, false, false, false, false, false, false, false, false, false, false, false, false, false, false, false, false, false, false, false, false, false, false, false, false, false] rfl rfl (by kernel_rfl) (fun _ _ _ h => h) (Or.inl ⟨by rfl, ?_⟩) ?_ ?_
                      rotate_left
                      · intro w'
                        go_simp
                        with_reducible rfl
                      rotate_left
                      · simp only [Act.put, List.setIfInBounds_toArray, List.set_cons_zero, List.set_cons_succ, i64_w, i32_w]
                        rfl
                      refine pure_ (i := 8) (N := some 72) (v := ?_) (a' := ?_) #[true, true, true, true, true, true, true, true, true, false, false, false, false, false, false, false, false, false, false, false, false, false, false, false, false, false, false, false, false, false, false, false, false, false, false, false] rfl rfl (by kernel_rfl) (fun _ _ _ h => h) (Or.inl ⟨by rfl, ?_⟩) ?_ ?_
                      rotate_left
                      · intro w'
                        go_simp
                        with_reducible rfl
                      rotate_left
                      · simp only [Act.put, List.setIfInBounds_toArray, List.set_cons_zero, List.set_cons_succ, i64_w, i32_w]
                        rfl
                      refine pure_ (i := 10) (N := some 74) (v := ?_) (a' := ?_) #[true, true, true, true, true, true, true, true, true, false, true, false, false, false, false, false, false, false, false, false, false, false, false, false, false, false, false, false, false, false, false, false, false, false, false, false] rfl rfl (by kernel_rfl) (fun _ _ _ h => h) (Or.inl ⟨by rfl, ?_⟩) ?_ ?_
                      rotate_left
                      · intro w'
                        go_simp
                        with_reducible rfl
                      rotate_left
                      · simp only [Act.put, List.setIfInBounds_toArray, List.set_cons_zero, List.set_cons_succ, i64_w, i32_w]
                        rfl
                      refine pure_ (i := 11) (N := some 75) (v := ?_) (a' := ?_) #[true, true, true, true, true, true, true, true, true, false, true, true, false, false, false, false, false, false, false, false, false, false, false, false, false, false, false, false, false, false, false, false, false, false, false, false] rfl rfl (by kernel_rfl) (fun _ _ _ h => h) (Or.inl ⟨by rfl, ?_⟩) ?_ ?_
                      rotate_left
                      · intro w'
                        go_simp
                        with_reducible rfl
                      rotate_left
                      · simp only [Act.put, List.setIfInBounds_toArray, List.set_cons_zero, List.set_cons_succ, i64_w, i32_w]
                        rfl
                      refine pure_ (i := 12) (N := some 76) (v := ?_) (a' := ?_) #[true, true, true, true, true, true, true, true, true, false, true, true, true, false, false, false, false, false, false, false, false, false, false, false, false, false, false, false, false, false, false, false, false, false, false, false] rfl rfl (by kernel_rfl) (fun _ _ _ h => h) (Or.inl ⟨by rfl, ?_⟩) ?_ ?_
                      rotate_left
                      · intro w'
                        go_simp
                        with_reducible rfl
                      rotate_left
                      · simp only [Act.put, List.setIfInBounds_toArray, List.set_cons_zero, List.set_cons_succ, i64_w, i32_w]
                        rfl
                      refine pure_ (i := 14) (N := some 78) (v := ?_) (a' := ?_) #[true, true, true, true, true, true, true, true, true, false, true, true, true, false, true, false, false, false, false, false, false, false, false, false, false, false, false, false, false, false, false, false, false, false, false, false] rfl rfl (by kernel_rfl) (fun _ _ _ h => h) (Or.inl ⟨by rfl, ?_⟩) ?_ ?_
                      rotate_left
                      · intro w'
                        go_simp
                        with_reducible rfl
                      rotate_left
                      · simp only [Act.put, List.setIfInBounds_toArray, List.set_cons_zero, List.set_cons_succ, i64_w, i32_w]
                        rfl
                      refine pure_ (i := 15) (N := some 79) (v := ?_) (a' := ?_) #[true, true, true, true, true, true, true, true, true, false, true, true, true, false, true, true, false, false, false, false, false, false, false, false, false, false, false, false, false, false, false, false, false, false, false, false] rfl rfl (by kernel_rfl) (fun _ _ _ h => h) (Or.inl ⟨by rfl, ?_⟩) ?_ ?_
                      rotate_left
                      · intro w'
                        go_simp
                        with_reducible rfl
                      rotate_left
                      · simp only [Act.put, List.setIfInBounds_toArray, List.set_cons_zero, List.set_cons_succ, i64_w, i32_w]
                        rfl
                      refine pure_ (i := 16) (N := some 80) (v := ?_) (a' := ?_) #[true, true, true, true, true, true, true, true, true, false, true, true, true, false, true, true, true, false, false, false, false, false, false, false, false, false, false, false, false, false, false, false, false, false, false, false] rfl rfl (by kernel_rfl) (fun _ _ _ h => h) (Or.inl ⟨by rfl, ?_⟩) ?_ ?_
                      rotate_left
                      · intro w'
                        go_simp
                        with_reducible rfl
                      rotate_left
                      · simp only [Act.put, List.setIfInBounds_toArray, List.set_cons_zero, List.set_cons_succ, i64_w, i32_w]
                        rfl
                      refine pure_ (i := 18) (N := some 82) (v := ?_) (a' := ?_) #[true, true, true, true, true, true, true, true, true, false, true, true, true, false, true, true, true, false, true, false, false, false, false, false, false, false, false, false, false, false, false, false, false, false, false, false] rfl rfl (by kernel_rfl) (fun _ _ _ h => h) (Or.inl ⟨by rfl, ?_⟩) ?_ ?_
                      rotate_left
                      · intro w'
                        go_simp
                        with_reducible rfl
                      rotate_left
                      · simp only [Act.put, List.setIfInBounds_toArray, List.set_cons_zero, List.set_cons_succ, i64_w, i32_w]
                        rfl
                      refine pure_ (i := 19) (N := some 83) (v := ?_) (a' := ?_) #[true, true, true, true, true, true, true, true, true, false, true, true, true, false, true, true, true, false, true, true, false, false, false, false, false, false, false, false, false, false, false, false, false, false, false, false] rfl rfl (by kernel_rfl) (fun _ _ _ h => h) (Or.inl ⟨by rfl, ?_⟩) ?_ ?_
                      rotate_left
                      · intro w'
                        go_simp
                        with_reducible rfl
                      rotate_left
                      · simp only [Act.put, List.setIfInBounds_toArray, List.set_cons_zero, List.set_cons_succ, i64_w, i32_w]
                        rfl
                      refine pure_ (i := 20) (N := some 84) (v := ?_) (a' := ?_) #[true, true, true, true, true, true, true, true, true, false, true, true, true, false, true, true, true, false, true, true, true, false, false, false, false, false, false, false, false, false, false, false, false, false, false, false] rfl rfl (by kernel_rfl) (fun _ _ _ h => h) (Or.inl ⟨by rfl, ?_⟩) ?_ ?_
                      rotate_left
                      · intro w'
                        go_simp
                        with_reducible rfl
                      rotate_left
                      · simp only [Act.put, List.setIfInBounds_toArray, List.set_cons_zero, List.set_cons_succ, i64_w, i32_w]
                        rfl
                      refine take_ (i := 9) (N := some 73) (v := ?_) (a' := ?_) #[true, true, true, true, true, true, true, true, true, true, true, true, true, false, true, true, true, false, true, true, true, false, false, false, false, false, false, false, false, false, false, false, false, false, false, false] rfl rfl (by kernel_rfl) (fun _ _ _ h => h) (Or.inl ⟨by rfl, ?_⟩) hHeld ?_ ?_
                      rotate_left
                      · rintro w' ⟨s0, s1, s2, s3⟩
                        go_simp
                        with_reducible rfl
                      rotate_left
                      · simp only [Act.put, List.setIfInBounds_toArray, List.set_cons_zero, List.set_cons_succ, i64_w, i32_w]
                        rfl
                      refine take_ (i := 13) (N := some 77) (v := ?_) (a' := ?_) #[true, true, true, true, true, true, true, true, true, true, true, true, true, true, true, true, true, false, true, true, true, false, false, false, false, false, false, false, false, false, false, false, false, false, false, false] rfl rfl (by kernel_rfl) (fun _ _ _ h => h) (Or.inl ⟨by rfl, ?_⟩) hHeld ?_ ?_
                      rotate_left
                      · rintro w' ⟨s0, s1, s2, s3⟩
                        go_simp
                        with_reducible rfl
                      rotate_left
                      · simp only [Act.put, List.setIfInBounds_toArray, List.set_cons_zero, List.set_cons_succ, i64_w, i32_w]
                        rfl
                      refine take_ (i := 17) (N := some 81) (v := ?_) (a' := ?_) #[true, true, true, true, true, true, true, true, true, true, true, true, true, true, true, true, true, true, true, true, true, false, false, false, false, false, false, false, false, false, false, false, false, false, false, false] rfl rfl (by kernel_rfl) (fun _ _ _ h => h) (Or.inl ⟨by rfl, ?_⟩) hHeld ?_ ?_
                      rotate_left
                      · rintro w' ⟨s0, s1, s2, s3⟩
                        go_simp
                        with_reducible rfl
                      rotate_left
                      · simp only [Act.put, List.setIfInBounds_toArray, List.set_cons_zero, List.set_cons_succ, i64_w, i32_w]
                        rfl
                      refine take_ (i := 21) (N := some 85) (v := ?_) (a' := ?_) #[true, true, true, true, true, true, true, true, true, true, true, true, true, true, true, true, true, true, true, true, true, true, false, false, false, false, false, false, false, false, false, false, false, false, false, false] rfl rfl (by kernel_rfl) (fun _ _ _ h => h) (Or.inl ⟨by rfl, ?_⟩) hHeld ?_ ?_
                      rotate_left
                      · rintro w' ⟨s0, s1, s2, s3⟩
                        go_simp
                        with_reducible rfl
                      rotate_left
                      · simp only [Act.put, List.setIfInBounds_toArray, List.set_cons_zero, List.set_cons_succ, i64_w, i32_w]
                        rfl
                      refine one_ (i := 22) (N := some 86) #[true, true, true, true, true, true, true, true, true, true, true, true, true, true, true, true, true, true, true, true, true, true, true, false, false, false, false, false, false, false, false, false, false, false, false, false] rfl rfl (by kernel_rfl) (by decide) (fun K hK => ?_)
                      refine goes_ Try.func75 (by kernel_rfl) rfl #[.int .u32 (x0 : Int), .int .u32 (x1 : Int), .int .u32 (x2 : Int), .int .u32 (x3 : Int)] (by rfl) rfl rfl (by simp only [List.map_toArray, List.map_cons, List.map_nil]; rfl) ?_
                      with_reducible refine (quarter_calls x0 x1 x2 x3 _ HQ.out.la HQ.out.lb HQ.out.lc HQ.out.ld).mono ?_
                      rintro e w3 ⟨rfl, ⟨nd, rfl⟩⟩
                      refine ⟨_, rfl, ?_⟩
                      refine hK.out _ _ ⟨(show _ from c0), (show _ from c1), (show _ from c2), (show _ from c3)⟩ (fun hHeld => ?_)
                      clear hK K
                      refine norm_ (a' := ?_) ?_ ?_
                      rotate_left
                      · show Act.put _ (some 86) _ = _
                        simp only [Act.put, List.setIfInBounds_toArray, List.set_cons_zero, List.set_cons_succ, i64_w, i32_w]
                        rfl
                      refine pure_ (i := 23) (N := some 63) (v := ?_) (a' := ?_) #[true, true, true, true, true, true, true, true, true, true, true, true, true, true, true, true, true, true, true, true, true, true, true, true, false, false, false, false, false, false, false, false, false, false, false, false] rfl rfl (by kernel_rfl) (fun _ _ _ h => h) (Or.inl ⟨by rfl, ?_⟩) ?_ ?_
                      rotate_left
                      · intro w'
                        go_simp
                        with_reducible rfl
                      rotate_left
                      · simp only [Act.put, List.setIfInBounds_toArray, List.set_cons_zero, List.set_cons_succ, i64_w, i32_w]
                        rfl
                      refine pure_ (i := 24) (N := some 87) (v := ?_) (a' := ?_) #[true, true, true, true, true, true, true, true, true, true, true, true, true, true, true, true, true, true, true, true, true, true, true, true, true, false, false, false, false, false, false, false, false, false, false, false] rfl rfl (by kernel_rfl) (fun _ _ _ h => h) (Or.inl ⟨by rfl, ?_⟩) ?_ ?_
                      rotate_left
                      · intro w'
                        go_simp
                        with_reducible rfl
                      rotate_left
                      · simp only [Act.put, List.setIfInBounds_toArray, List.set_cons_zero, List.set_cons_succ, i64_w, i32_w]
                        rfl
                      refine pure_ (i := 25) (N := some 88) (v := ?_) (a' := ?_) #[true, true, true, true, true, true, true, true, true, true, true, true, true, true, true, true, true, true, true, true, true, true, true, true, true, true, false, false, false, false, false, false, false, false, false, false] rfl rfl (by kernel_rfl) (fun _ _ _ h => h) (Or.inl ⟨by rfl, ?_⟩) ?_ ?_
                      rotate_left
                      · intro w'
                        go_simp
                        with_reducible rfl
                      rotate_left
                      · simp only [Act.put, List.setIfInBounds_toArray, List.set_cons_zero, List.set_cons_succ, i64_w, i32_w]
                        rfl
                      refine pure_ (i := 26) (N := some 89) (v := ?_) (a' := ?_) #[true, true, true, true, true, true, true, true, true, true, true, true, true, true, true, true, true, true, true, true, true, true, true, true, true, true, true, false, false, false, false, false, false, false, false, false] rfl rfl (by kernel_rfl) (fun _ _ _ h => h) (Or.inl ⟨by rfl, ?_⟩) ?_ ?_
                      rotate_left
                      · intro w'
                        go_simp
                        with_reducible rfl
                      rotate_left
                      · simp only [Act.put, List.setIfInBounds_toArray, List.set_cons_zero, List.set_cons_succ, i64_w, i32_w]
                        rfl
                      refine pure_ (i := 27) (N := some 90) (v := ?_) (a' := ?_) #[true, true, true, true, true, true, true, true, true, true, true, true, true, true, true, true, true, true, true, true, true, true, true, true, true, true, true, true, false, false, false, false, false, false, false, false] rfl rfl (by kernel_rfl) (fun _ _ _ h => h) (Or.inl ⟨by rfl, ?_⟩) ?_ ?_
                      rotate_left
                      · intro w'
                        go_simp
                        with_reducible rfl
                      rotate_left
                      · simp only [Act.put, List.setIfInBounds_toArray, List.set_cons_zero, List.set_cons_succ, i64_w, i32_w]
                        rfl
                      refine pure_ (i := 28) (N := some 91) (v := ?_) (a' := ?_) #[true, true, true, true, true, true, true, true, true, true, true, true, true, true, true, true, true, true, true, true, true, true, true, true, true, true, true, true, true, false, false, false, false, false, false, false] rfl rfl (by kernel_rfl) (fun _ _ _ h => h) (Or.inl ⟨by rfl, ?_⟩) ?_ ?_
                      rotate_left
                      · intro w'
                        go_simp
                        with_reducible rfl
                      rotate_left
                      · simp only [Act.put, List.setIfInBounds_toArray, List.set_cons_zero, List.set_cons_succ, i64_w, i32_w]
                        rfl
                      refine last_ (i := 29) (N := none) #[true, true, true, true, true, true, true, true, true, true, true, true, true, true, true, true, true, true, true, true, true, true, true, true, true, true, true, true, true, true, false, false, false, false, false, false] rfl rfl (by kernel_rfl) (by decide) (fun K hK => ?_)
                      refine skip_ (w1 := ?_) (by rfl) rfl ?_ ?_
                      rotate_left
                      · go_simp
                        rfl
                      refine hK.out _ _ ?_
                      clear hK K
                      refine pure_ (i := 30) (N := some 92) (v := ?_) (a' := ?_) #[true, true, true, true, true, true, true, true, true, true, true, true, true, true, true, true, true, true, true, true, true, true, true, true, true, true, true, true, true, true, true, false, false, false, false, false] rfl rfl (by kernel_rfl) (fun _ _ _ h => h) (Or.inl ⟨by rfl, ?_⟩) ?_ ?_
                      rotate_left
                      · intro w'
                        go_simp
                        with_reducible rfl
                      rotate_left
                      · simp only [Act.put, List.setIfInBounds_toArray, List.set_cons_zero, List.set_cons_succ, i64_w, i32_w]
                        rfl
                      refine last_ (i := 31) (N := none) #[true, true, true, true, true, true, true, true, true, true, true, true, true, true, true, true, true, true, true, true, true, true, true, true, true, true, true, true, true, true, true, true, false, false, false, false] rfl rfl (by kernel_rfl) (by decide) (fun K hK => ?_)
                      refine skip_ (w1 := ?_) (by rfl) rfl ?_ ?_
                      rotate_left
                      · go_simp
                        rfl
                      refine hK.out _ _ ?_
                      clear hK K
                      refine pure_ (i := 32) (N := some 93) (v := ?_) (a' := ?_) #[true, true, true, true, true, true, true, true, true, true, true, true, true, true, true, true, true, true, true, true, true, true, true, true, true, true, true, true, true, true, true, true, true, false, false, false] rfl rfl (by kernel_rfl) (fun _ _ _ h => h) (Or.inl ⟨by rfl, ?_⟩) ?_ ?_
                      rotate_left
                      · intro w'
                        go_simp
                        with_reducible rfl
                      rotate_left
                      · simp only [Act.put, List.setIfInBounds_toArray, List.set_cons_zero, List.set_cons_succ, i64_w, i32_w]
                        rfl
                      refine last_ (i := 33) (N := none) #[true, true, true, true, true, true, true, true, true, true, true, true, true, true, true, true, true, true, true, true, true, true, true, true, true, true, true, true, true, true, true, true, true, true, false, false] rfl rfl (by kernel_rfl) (by decide) (fun K hK => ?_)
                      refine skip_ (w1 := ?_) (by rfl) rfl ?_ ?_
                      rotate_left
                      · go_simp
                        rfl
                      refine hK.out _ _ ?_
                      clear hK K
                      refine pure_ (i := 34) (N := some 94) (v := ?_) (a' := ?_) #[true, true, true, true, true, true, true, true, true, true, true, true, true, true, true, true, true, true, true, true, true, true, true, true, true, true, true, true, true, true, true, true, true, true, true, false] rfl rfl (by kernel_rfl) (fun _ _ _ h => h) (Or.inl ⟨by rfl, ?_⟩) ?_ ?_
                      rotate_left
                      · intro w'
                        go_simp
                        with_reducible rfl
                      rotate_left
                      · simp only [Act.put, List.setIfInBounds_toArray, List.set_cons_zero, List.set_cons_succ, i64_w, i32_w]
                        rfl
                      refine last_ (i := 35) (N := none) #[true, true, true, true, true, true, true, true, true, true, true, true, true, true, true, true, true, true, true, true, true, true, true, true, true, true, true, true, true, true, true, true, true, true, true, true] rfl rfl (by kernel_rfl) (by decide) (fun K hK => ?_)
                      refine skip_ (w1 := ?_) (by rfl) rfl ?_ ?_
                      rotate_left
                      · go_simp
                        rfl
                      refine hK.out _ _ ?_
                      clear hK K
                      refine done_ (by kernel_rfl) ?_
                      clear q0 j4 p4 q4 n4 j8 p8 q8 n8 j12 p12 q12 n12 hHeld c0 c1 c2 c3 f0 f1 f2 f3
                      go_wp2
                      exact ⟨⟨k + 1, by omega, by go_num, ⟨H.out.quad HQ.out (1 + nd)⟩⟩, by simp [intOf]; omega⟩
                    · obtain rfl : k = 4 := by omega
                      clear hlk hk
                      rw [show ((4 : Nat) : Int) = 4 from rfl]
                      go_wp2_with (fail)
                      go_loopw [96] (fun i wr => ∃ k : Nat, k ≤ 4 ∧ i = .int .i64 k ∧ Aside0 (ChR w g2 L (dia (col (dbl L n) 4) k) wr)) (fun i _ => 4 - (intOf i).toNat)
                      case atStart => exact ⟨0, by omega, rfl, H⟩
                      case round =>
                        clear H
                        obtain ⟨k, hk, rfl, H⟩ := hrel
                        by_cases hlk : k < 4
                        · have eb : 4 + ((k : Int) + 1) % 4 = ((4 + (k + 1) % 4 : Nat) : Int) := by omega
                          have ec : 8 + ((k : Int) + 2) % 4 = ((8 + (k + 2) % 4 : Nat) : Int) := by omega
                          have ed : 12 + ((k : Int) + 3) % 4 = ((12 + (k + 3) % 4 : Nat) : Int) := by omega
                          have EB := Aside0.mk eb
                          have EC := Aside0.mk ec
                          have ED := Aside0.mk ed
                          clear eb ec ed
                          go_wp2_with (fail)
                          rw [EB.out, EC.out, ED.out]
                          have b4 : 4 ≤ 4 + (k + 1) % 4 := by omega
                          have b8 : 4 + (k + 1) % 4 < 8 := by omega
                          have d8 : 8 ≤ 8 + (k + 2) % 4 := by omega
                          have d12 : 8 + (k + 2) % 4 < 12 := by omega
                          have e12 : 12 ≤ 12 + (k + 3) % 4 := by omega
                          have e16 : 12 + (k + 3) % 4 < 16 := by omega
                          have hdia : dia (col (dbl L n) 4) (k + 1) = qr (dia (col (dbl L n) 4) k) k (4 + (k + 1) % 4) (8 + (k + 2) % 4) (12 + (k + 3) % 4) := rfl
                          generalize 4 + (k + 1) % 4 = b at *
                          generalize 8 + (k + 2) % 4 = c at *
                          generalize 12 + (k + 3) % 4 = d at *
                          have HD := Aside0.mk hdia
                          clear hdia EB EC ED
                          obtain ⟨x0, x1, x2, x3, hq, c0, c1, c2, c3, f0, f1, f2, f3⟩ := H.out.four (dia_small (col_small (dbl_small HSm.out n) 4) k) (by rw [dia_length, col_length, dbl_length, HW.out]) k b c d (by omega) (by omega) (by omega) (by omega)
                          have HQ := Aside0.mk hq
                          clear hq
                          have n1 : ¬ b = k := by omega
                          have n2 : ¬ c = k := by omega
                          have n3 : ¬ d = k := by omega
                          have n4 : ¬ c = b := by omega
                          have n5 : ¬ d = b := by omega
                          have n6 : ¬ d = c := by omega
                          have m1 : ¬ k = b := by omega
                          have m2 : ¬ k = c := by omega
                          have m3 : ¬ k = d := by omega
                          have m4 : ¬ b = c := by omega
                          have m5 : ¬ b = d := by omega
                          have m6 : ¬ c = d := by omega
                          have q0 : (k : Int) < 16 := by omega
                          have q4 : (b : Int) < 16 := by omega
                          have q8 : (c : Int) < 16 := by omega
                          have q12 : (d : Int) < 16 := by omega
                          refine start_ (n := 30) (S := fun w' => w'.cell? ⟨w.heap.size + 1, k, none⟩ = some (.int .u32 (x0 : Int)) ∧ w'.cell? ⟨w.heap.size + 1, b, none⟩ = some (.int .u32 (x1 : Int)) ∧ w'.cell? ⟨w.heap.size + 1, c, none⟩ = some (.int .u32 (x2 : Int)) ∧ w'.cell? ⟨w.heap.size + 1, d, none⟩ = some (.int .u32 (x3 : Int))) (ds := [23, 25, 27, 29]) #[false, false, false, false, false, false, false, false, false, false, false, false, false, false, false, false, false, false, false, false, false, false, false, false, false, false, false, false, false, false] (by kernel_rfl) rfl rfl ⟨(show _ from c0), (show _ from c1), (show _ from c2), (show _ from c3)⟩ (fun hHeld => ?_)
                          refine pure_ (i := 0) (N := some 112) (v := ?_) (a' := ?_) #[true, false, false, false, false, false, false, false, false, false, false, false, false, false, false, false, false, false, false, false, false, false, false, false, false, false, false, false, false, false] rfl rfl (by kernel_rfl) (fun _ _ _ h => h) (Or.inl ⟨by rfl, ?_⟩) ?_ ?_
                          rotate_left
                          · intro w'
                            go_simp
                            with_reducible rfl
                          rotate_left
                          · simp only [Act.put, List.setIfInBounds_toArray, List.set_cons_zero, List.set_cons_succ, i64_w, i32_w]
                            rfl
                          refine pure_ (i := 1) (N := some 113) (v := ?_) (a' := ?_) #[true, true, false, false, false, false, false, false, false, false, false, false, false, false, false, false, false, false, false, false, false, false, false, false, false, false, false, false, false, false] rfl rfl (by kernel_rfl) (fun _ _ _ h => h) (Or.inl ⟨by rfl, ?_⟩) ?_ ?_
                          rotate_left
                          · intro w'
                            go_simp
                            with_reducible rfl
                          rotate_left
                          · simp only [Act.put, List.setIfInBounds_toArray, List.set_cons_zero, List.set_cons_succ, i64_w, i32_w]
                            rfl
                          refine pure_ (i := 2) (N := some 114) (v := ?_) (a' := ?_) #[true, true, true, false, false, false, false, false, false, false, false, false, false, false, false, false, false, false, false, false, false, false, false, false, false, false, false, false, false, false] rfl rfl (by kernel_rfl) (fun _ _ _ h => h) (Or.inl ⟨by rfl, ?_⟩) ?_ ?_
                          rotate_left
                          · intro w'
                            go_simp
                            with_reducible rfl
                          rotate_left
                          · simp only [Act.put, List.setIfInBounds_toArray, List.set_cons_zero, List.set_cons_succ, i64_w, i32_w]
                            rfl
                          refine pure_ (i := 3) (N := some 115) (v := ?_) (a' := ?_) #[true, true, true, true, false, false, false, false, false, false, false, false, false, false, false, false, false, false, false, false, false, false, false, false, false, false, false, false, false, false] rfl rfl (by kernel_rfl) (fun _ _ _ h => h) (Or.inl ⟨by rfl, ?_⟩) ?_ ?_
                          rotate_left
                          · intro w'
                            go_simp
                            with_reducible rfl
                          rotate_left
                          · simp only [Act.put, List.setIfInBounds_toArray, List.set_cons_zero, List.set_cons_succ, i64_w, i32_w]
                            rfl
                          refine pure_ (i := 4) (N := some 116) (v := ?_) (a' := ?_) #[true, true, true, true, true, false, false, false, false, false, false, false, false, false, false, false, false, false, false, false, false, false, false, false, false, false, false, false, false, false] rfl rfl (by kernel_rfl) (fun _ _ _ h => h) (Or.inl ⟨by rfl, ?_⟩) ?_ ?_
                          rotate_left
                          · intro w'
                            go_simp
                            with_reducible rfl
                          rotate_left
                          · simp only [Act.put, List.setIfInBounds_toArray, List.set_cons_zero, List.set_cons_succ, i64_w, i32_w]
                            rfl
                          refine pure_ (i := 5) (N := some 117) (v := ?_) (a' := ?_) #[true, true, true, true, true, true, false, false, false, false, false, false, false, false, false, false, false, false, false, false, false, false, false, false, false, false, false, false, false, false] rfl rfl (by kernel_rfl) (fun _ _ _ h => h) (Or.inl ⟨by rfl, ?_⟩) ?_ ?_
                          rotate_left
                          · intro w'
                            go_simp
                            with_reducible rfl
                          rotate_left
                          · simp only [Act.put, List.setIfInBounds_toArray, List.set_cons_zero, List.set_cons_succ, i64_w, i32_w]
                            rfl
                          refine pure_ (i := 7) (N := some 119) (v := ?_) (a' := ?_) #[true, true, true, true, true, true, false, true, false, false, false, false, false, false, false, false, false, false, false, false, false, false, false, false, false, false, false, false, false, false] rfl rfl (by kernel_rfl) (fun _ _ _ h => h) (Or.inl ⟨by rfl, ?_⟩) ?_ ?_
                          rotate_left
                          · intro w'
                            go_simp
                            with_reducible rfl
                          rotate_left
                          · simp only [Act.put, List.setIfInBounds_toArray, List.set_cons_zero, List.set_cons_succ, i64_w, i32_w]
                            rfl
                          refine pure_ (i := 8) (N := some 120) (v := ?_) (a' := ?_) #[true, true, true, true, true, true, false, true, true, false, false, false, false, false, false, false, false, false, false, false, false, false, false, false, false, false, false, false, false, false] rfl rfl (by kernel_rfl) (fun _ _ _ h => h) (Or.inl ⟨by rfl, ?_⟩) ?_ ?_
                          rotate_left
                          · intro w'
                            go_simp
                            with_reducible rfl
                          rotate_left
                          · simp only [Act.put, List.setIfInBounds_toArray, List.set_cons_zero, List.set_cons_succ, i64_w, i32_w]
                            rfl
                          refine pure_ (i := 10) (N := some 122) (v := ?_) (a' := ?_) #[true, true, true, true, true, true, false, true, true, false, true, false, false, false, false, false, false, false, false, false, false, false, false, false, false, false, false, false, false, false] rfl rfl (by kernel_rfl) (fun _ _ _ h => h) (Or.inl ⟨by rfl, ?_⟩) ?_ ?_
                          rotate_left
                          · intro w'
                            go_simp
                            with_reducible rfl
                          rotate_left
                          · simp only [Act.put, List.setIfInBounds_toArray, List.set_cons_zero, List.set_cons_succ, i64_w, i32_w]
                            rfl
                          refine pure_ (i := 11) (N := some 123) (v := ?_) (a' := ?_) #[true, true, true, true, true, true, false, true, true, false, true, true, false, false, false, false, false, false, false, false, false, false, false, false, false, false, false, false, false, false] rfl rfl (by kernel_rfl) (fun _ _ _ h => h) (Or.inl ⟨by rfl, ?_⟩) ?_ ?_
                          rotate_left
                          · intro w'
                            go_simp
                            with_reducible rfl
                          rotate_left
                          · simp only [Act.put, List.setIfInBounds_toArray, List.set_cons_zero, List.set_cons_succ, i64_w, i32_w]
                            rfl
                          refine pure_ (i := 13) (N := some 125) (v := ?_) (a' := ?_) #[true, true, true, true, true, true, false, true, true, false, true, true, false, true, false, false, false, false, false, false, false, false, false, false, false, false, false, false, false, false] rfl rfl (by kernel_rfl) (fun _ _ _ h => h) (Or.inl ⟨by rfl, ?_⟩) ?_ ?_
                          rotate_left
                          · intro w'
                            go_simp
                            with_reducible rfl
                          rotate_left
                          · simp only [Act.put, List.setIfInBounds_toArray, List.set_cons_zero, List.set_cons_succ, i64_w, i32_w]
                            rfl
                          refine pure_ (i := 14) (N := some 126) (v := ?_) (a' := ?_) #[true, true, true, true, true, true, false, true, true, false, true, true, false, true, true, false, false, false, false, false, false, false, false, false, false, false, false, false, false, false] rfl rfl (by kernel_rfl) (fun _ _ _ h => h) (Or.inl ⟨by rfl, ?_⟩) ?_ ?_
                          rotate_left
                          · intro w'
                            go_simp
                            with_reducible rfl
                          rotate_left
                          · simp only [Act.put, List.setIfInBounds_toArray, List.set_cons_zero, List.set_cons_succ, i64_w, i32_w]
                            rfl
                          refine take_ (i := 6) (N := some 118) (v := ?_) (a' := ?_) #[true, true, true, true, true, true, true, true, true, false, true, true, false, true, true, false, false, false, false, false, false, false, false, false, false, false, false, false, false, false] rfl rfl (by kernel_rfl) (fun _ _ _ h => h) (Or.inl ⟨by rfl, ?_⟩) hHeld ?_ ?_
                          rotate_left
                          · rintro w' ⟨s0, s1, s2, s3⟩
                            go_simp
                            with_reducible rfl
                          rotate_left
                          · simp only [Act.put, List.setIfInBounds_toArray, List.set_cons_zero, List.set_cons_succ, i64_w, i32_w]
                            rfl
                          refine take_ (i := 9) (N := some 121) (v := ?_) (a' := ?_) #[true, true, true, true, true, true, true, true, true, true, true, true, false, true, true, false, false, false, false, false, false, false, false, false, false, false, false, false, false, false] rfl rfl (by kernel_rfl) (fun _ _ _ h => h) (Or.inl ⟨by rfl, ?_⟩) hHeld ?_ ?_
                          rotate_left
                          · rintro w' ⟨s0, s1, s2, s3⟩
                            go_simp
                            with_reducible rfl
                          rotate_left
                          · simp only [Act.put, List.setIfInBounds_toArray, List.set_cons_zero, List.set_cons_succ, i64_w, i32_w]
                            rfl
                          refine take_ (i := 12) (N := some 124) (v := ?_) (a' := ?_) #[true, true, true, true, true, true, true, true, true, true, true, true, true, true, true, false, false, false, false, false, false, false, false, false, false, false, false, false, false, false] rfl rfl (by kernel_rfl) (fun _ _ _ h => h) (Or.inl ⟨by rfl, ?_⟩) hHeld ?_ ?_
                          rotate_left
                          · rintro w' ⟨s0, s1, s2, s3⟩
                            go_simp
                            with_reducible rfl
                          rotate_left
                          · simp only [Act.put, List.setIfInBounds_toArray, List.set_cons_zero, List.set_cons_succ, i64_w, i32_w]
                            rfl
                          refine take_ (i := 15) (N := some 127) (v := ?_) (a' := ?_) #[true, true, true, true, true, true, true, true, true, true, true, true, true, true, true, true, false, false, false, false, false, false, false, false, false, false, false, false, false, false] rfl rfl (by kernel_rfl) (fun _ _ _ h => h) (Or.inl ⟨by rfl, ?_⟩) hHeld ?_ ?_
                          rotate_left
                          · rintro w' ⟨s0, s1, s2, s3⟩
                            go_simp
                            with_reducible rfl
                          rotate_left
                          · simp only [Act.put, List.setIfInBounds_toArray, List.set_cons_zero, List.set_cons_succ, i64_w, i32_w]
                            rfl
                          refine one_ (i := 16) (N := some 128) #[true, true, true, true, true, true, true, true, true, true, true, true, true, true, true, true, true, false, false, false, false, false, false, false, false, false, false, false, false, false] rfl rfl (by kernel_rfl) (by decide) (fun K hK => ?_)
                          refine goes_ Try.func75 (by kernel_rfl) rfl #[.int .u32 (x0 : Int), .int .u32 (x1 : Int), .int .u32 (x2 : Int), .int .u32 (x3 : Int)] (by rfl) rfl rfl (by simp only [List.map_toArray, List.map_cons, List.map_nil]; rfl) ?_
                          with_reducible refine (quarter_calls x0 x1 x2 x3 _ HQ.out.la HQ.out.lb HQ.out.lc HQ.out.ld).mono ?_
                          rintro e w3 ⟨rfl, ⟨nd, rfl⟩⟩
                          refine ⟨_, rfl, ?_⟩
                          refine hK.out _ _ ⟨(show _ from c0), (show _ from c1), (show _ from c2), (show _ from c3)⟩ (fun hHeld => ?_)
                          clear hK K
                          refine norm_ (a' := ?_) ?_ ?_
                          rotate_left
                          · show Act.put _ (some 128) _ = _
                            simp only [Act.put, List.setIfInBounds_toArray, List.set_cons_zero, List.set_cons_succ, i64_w, i32_w]
                            rfl
                          refine pure_ (i := 17) (N := some 111) (v := ?_) (a' := ?_) #[true, true, true, true, true, true, true, true, true, true, true, true, true, true, true, true, true, true, false, false, false, false, false, false, false, false, false, false, false, false] rfl rfl (by kernel_rfl) (fun _ _ _ h => h) (Or.inl ⟨by rfl, ?_⟩) ?_ ?_
                          rotate_left
                          · intro w'
                            go_simp
                            with_reducible rfl
                          rotate_left
                          · simp only [Act.put, List.setIfInBounds_toArray, List.set_cons_zero, List.set_cons_succ, i64_w, i32_w]
                            rfl
                          refine pure_ (i := 18) (N := some 129) (v := ?_) (a' := ?_) #[true, true, true, true, true, true, true, true, true, true, true, true, true, true, true, true, true, true, true, false, false, false, false, false, false, false, false, false, false, false] rfl rfl (by kernel_rfl) (fun _ _ _ h => h) (Or.inl ⟨by rfl, ?_⟩) ?_ ?_
                          rotate_left
                          · intro w'
                            go_simp
                            with_reducible rfl
                          rotate_left
                          · simp only [Act.put, List.setIfInBounds_toArray, List.set_cons_zero, List.set_cons_succ, i64_w, i32_w]
                            rfl
                          refine pure_ (i := 19) (N := some 130) (v := ?_) (a' := ?_) #[true, true, true, true, true, true, true, true, true, true, true, true, true, true, true, true, true, true, true, true, false, false, false, false, false, false, false, false, false, false] rfl rfl (by kernel_rfl) (fun _ _ _ h => h) (Or.inl ⟨by rfl, ?_⟩) ?_ ?_
                          rotate_left
                          · intro w'
                            go_simp
                            with_reducible rfl
                          rotate_left
                          · simp only [Act.put, List.setIfInBounds_toArray, List.set_cons_zero, List.set_cons_succ, i64_w, i32_w]
                            rfl
                          refine pure_ (i := 20) (N := some 131) (v := ?_) (a' := ?_) #[true, true, true, true, true, true, true, true, true, true, true, true, true, true, true, true, true, true, true, true, true, false, false, false, false, false, false, false, false, false] rfl rfl (by kernel_rfl) (fun _ _ _ h => h) (Or.inl ⟨by rfl, ?_⟩) ?_ ?_
                          rotate_left
                          · intro w'
                            go_simp
                            with_reducible rfl
                          rotate_left
                          · simp only [Act.put, List.setIfInBounds_toArray, List.set_cons_zero, List.set_cons_succ, i64_w, i32_w]
                            rfl
                          refine pure_ (i := 21) (N := some 132) (v := ?_) (a' := ?_) #[true, true, true, true, true, true, true, true, true, true, true, true, true, true, true, true, true, true, true, true, true, true, false, false, false, false, false, false, false, false] rfl rfl (by kernel_rfl) (fun _ _ _ h => h) (Or.inl ⟨by rfl, ?_⟩) ?_ ?_
                          rotate_left
                          · intro w'
                            go_simp
                            with_reducible rfl
                          rotate_left
                          · simp only [Act.put, List.setIfInBounds_toArray, List.set_cons_zero, List.set_cons_succ, i64_w, i32_w]
                            rfl
                          refine pure_ (i := 22) (N := some 133) (v := ?_) (a' := ?_) #[true, true, true, true, true, true, true, true, true, true, true, true, true, true, true, true, true, true, true, true, true, true, true, false, false, false, false, false, false, false] rfl rfl (by kernel_rfl) (fun _ _ _ h => h) (Or.inl ⟨by rfl, ?_⟩) ?_ ?_
                          rotate_left
                          · intro w'
                            go_simp
                            with_reducible rfl
                          rotate_left
                          · simp only [Act.put, List.setIfInBounds_toArray, List.set_cons_zero, List.set_cons_succ, i64_w, i32_w]
                            rfl
                          refine last_ (i := 23) (N := none) #[true, true, true, true, true, true, true, true, true, true, true, true, true, true, true, true, true, true, true, true, true, true, true, true, false, false, false, false, false, false] rfl rfl (by kernel_rfl) (by decide) (fun K hK => ?_)
                          refine skip_ (w1 := ?_) (by rfl) rfl ?_ ?_
                          rotate_left
                          · go_simp
                            rfl
                          refine hK.out _ _ ?_
                          clear hK K
                          refine pure_ (i := 24) (N := some 134) (v := ?_) (a' := ?_) #[true, true, true, true, true, true, true, true, true, true, true, true, true, true, true, true, true, true, true, true, true, true, true, true, true, false, false, false, false, false] rfl rfl (by kernel_rfl) (fun _ _ _ h => h) (Or.inl ⟨by rfl, ?_⟩) ?_ ?_
                          rotate_left
                          · intro w'
                            go_simp
                            with_reducible rfl
                          rotate_left
                          · simp only [Act.put, List.setIfInBounds_toArray, List.set_cons_zero, List.set_cons_succ, i64_w, i32_w]
                            rfl
                          refine last_ (i := 25) (N := none) #[true, true, true, true, true, true, true, true, true, true, true, true, true, true, true, true, true, true, true, true, true, true, true, true, true, true, false, false, false, false] rfl rfl (by kernel_rfl) (by decide) (fun K hK => ?_)
                          refine skip_ (w1 := ?_) (by rfl) rfl ?_ ?_
                          rotate_left
                          · go_simp
                            rfl
                          refine hK.out _ _ ?_
                          clear hK K
                          refine pure_ (i := 26) (N := some 135) (v := ?_) (a' := ?_) #[true, true, true, true, true, true, true, true, true, true, true, true, true, true, true, true, true, true, true, true, true, true, true, true, true, true, true, false, false, false] rfl rfl (by kernel_rfl) (fun _ _ _ h => h) (Or.inl ⟨by rfl, ?_⟩) ?_ ?_
                          rotate_left
                          · intro w'
                            go_simp
                            with_reducible rfl
                          rotate_left
                          · simp only [Act.put, List.setIfInBounds_toArray, List.set_cons_zero, List.set_cons_succ, i64_w, i32_w]
                            rfl
                          refine last_ (i := 27) (N := none) #[true, true, true, true, true, true, true, true, true, true, true, true, true, true, true, true, true, true, true, true, true, true, true, true, true, true, true, true, false, false] rfl rfl (by kernel_rfl) (by decide) (fun K hK => ?_)
                          refine skip_ (w1 := ?_) (by rfl) rfl ?_ ?_
                          rotate_left
                          · go_simp
                            rfl
                          refine hK.out _ _ ?_
                          clear hK K
                          refine pure_ (i := 28) (N := some 136) (v := ?_) (a' := ?_) #[true, true, true, true, true, true, true, true, true, true, true, true, true, true, true, true, true, true, true, true, true, true, true, true, true, true, true, true, true, false] rfl rfl (by kernel_rfl) (fun _ _ _ h => h) (Or.inl ⟨by rfl, ?_⟩) ?_ ?_
                          rotate_left
                          · intro w'
                            go_simp
                            with_reducible rfl
                          rotate_left
                          · simp only [Act.put, List.setIfInBounds_toArray, List.set_cons_zero, List.set_cons_succ, i64_w, i32_w]
                            rfl
                          refine last_ (i := 29) (N := none) #[true, true, true, true, true, true, true, true, true, true, true, true, true, true, true, true, true, true, true, true, true, true, true, true, true, true, true, true, true, true] rfl rfl (by kernel_rfl) (by decide) (fun K hK => ?_)
                          refine skip_ (w1 := ?_) (by rfl) rfl ?_ ?_
                          rotate_left
                          · go_simp
                            rfl
                          refine hK.out _ _ ?_
                          clear hK K
                          refine done_ (by kernel_rfl) ?_
                          clear n1 n2 n3 n4 n5 n6 m1 m2 m3 m4 m5 m6 q0 q4 q8 q12 hHeld c0 c1 c2 c3 f0 f1 f2 f3
                          go_wp2
                          exact ⟨⟨k + 1, by omega, by go_num, ⟨by rw [HD.out]; exact H.out.quad HQ.out (1 + nd)⟩⟩, by simp [intOf]; omega⟩
                        · obtain rfl : k = 4 := by omega
                          clear hlk hk
                          rw [show ((4 : Nat) : Int) = 4 from rfl]
                          go_wp2
                          exact ⟨⟨n + 1, by omega, by go_num, H⟩, by simp [intOf]; omega⟩
                · obtain rfl : n = 10 := by omega
                  clear hlt hn
                  rw [show ((10 : Nat) : Int) = 10 from rfl]
                  go_wp2_with (refine wpList_load_row rfl 78 (.tmp 7) rfl (w.heap.size + 1) rfl 78 (u32s (dbl L 10)) (0, 0) _ (blk_alloc H.out.a.row _) Try.underlying78 rfl (by rw [u32s_size, dbl_length, HW.out]; kernel_rfl) ?_)
                  have H : Aside0 (ChO w g2 wr.heap.size L (outC (fun k => (L.getD k 0 + (dbl L 10).getD k 0) % 4294967296) 0) (wr.alloc (.cells (u8s (List.replicate 64 0)) 49))) := ⟨⟨below_alloc H.out.a.below _, blk_alloc H.out.a.out _, blk_alloc H.out.was _, blk_new _ _, H.out.gt, blk_lt H.out.was⟩⟩
                  have HDl := Aside0.mk (show (dbl L 10).length = 16 by rw [dbl_length, HW.out])
                  generalize hD : dbl L 10 = D at *
                  have HDe := Aside0.mk hD
                  clear hD
                  generalize wr.heap.size = g3 at *
                  go_loopw [140] (fun i wr => ∃ k : Nat, k ≤ 16 ∧ i = .int .i64 k ∧ Aside0 (ChO w g2 g3 L (outC (fun k => (L.getD k 0 + D.getD k 0) % 4294967296) k) wr)) (fun i _ => 16 - (intOf i).toNat)
                  case atStart => exact ⟨0, by omega, rfl, H⟩
                  case round =>
                    clear H
                    obtain ⟨k, hk, rfl, H⟩ := hrel
                    by_cases hlt : k < 16
                    · have hj := fun w => index_u32 D HDl.out k hlt w
                      generalize hx : D.getD k 0 = x at hj
                      have HX := Aside0.mk hx
                      clear hx
                      have hw := (blk_cell H.out.was k).trans (u32s_get L k (by rw [HW.out]; exact hlt))
                      generalize hy : L.getD k 0 = y at hw
                      have HY := Aside0.mk hy
                      clear hy
                      obtain ⟨⟨v0, c0⟩, f0⟩ := H.out.cell hk (4 * k) (by omega)
                      obtain ⟨⟨v1, c1⟩, f1⟩ := H.out.cell hk (4 * k + 1) (by omega)
                      obtain ⟨⟨v2, c2⟩, f2⟩ := H.out.cell hk (4 * k + 2) (by omega)
                      obtain ⟨⟨v3, c3⟩, f3⟩ := H.out.cell hk (4 * k + 3) (by omega)
                      go_wp2
                      have HN : Aside0 (ChO w g2 g3 L (outC (fun k => (L.getD k 0 + D.getD k 0) % 4294967296) (k + 1)) _) := ⟨H.out.step hlt ((y + x) % 4294967296) (by show (L.getD k 0 + D.getD k 0) % 4294967296 = _; rw [HY.out, HX.out])⟩
                      rw [Nat.add_comm y x] at HN
                      refine ⟨⟨k + 1, by omega, by go_num, ?_⟩, by simp [intOf]; omega⟩
                      rw [show ((x : Int) + (y : Int)) % 4294967296 / 16777216 = (((x + y) % 4294967296 : Nat) : Int) / 16777216 % 256 by omega, show ((x : Int) + (y : Int)) % 256 = (((x + y) % 4294967296 : Nat) : Int) % 256 by omega, show ((x : Int) + (y : Int)) % 4294967296 = (((x + y) % 4294967296 : Nat) : Int) by omega]
                      exact HN
                    · obtain rfl : k = 16 := by omega
                      clear hlt hk
                      rw [show ((16 : Nat) : Int) = 16 from rfl]
                      have hrow := H.out.row
                      rw [outC_full] at hrow
                      have hlen : ((List.range 16).flatMap (fun i => le4 ((fun k => (L.getD k 0 + D.getD k 0) % 4294967296) i))).length = 64 := flatC_length _ 16
                      generalize hO : (List.range 16).flatMap (fun i => le4 ((fun k => (L.getD k 0 + D.getD k 0) % 4294967296) i)) = O at *
                      have HO := Aside0.mk hO
                      clear hO
                      have HR := Aside0.mk hrow
                      have HL := Aside0.mk hlen
                      clear hrow hlen
                      have hi64 : (Try.prog.info? 49).map (·.size) = some (u8s O).size := by rw [u8s_size, HL.out]; exact HI.out
                      have HI64 := Aside0.mk hi64
                      clear hi64
                      go_wp2_with (first | (refine wpList_load_row rfl 49 (.tmp 17) rfl g3 rfl 49 (u8s O) (0, 0) _ HR.out Try.underlying49 rfl HI64.out ?_) | (refine wpList_store_row rfl 49 (.tmp 6) (.tmp 176) rfl w.heap.size (u8s O) rfl rfl 49 _ H.out.out HI64.out (by rw [u8s_size, u8s_size, HL.out]; rfl) (u8s_one _) ?_))
                      refine bodyPost_ret (results_cell_row Try.results48 _ _ w.heap.size 49 (u8s O) (0, 0) _ rfl (setRow_heap _ _ _ _ _ _ H.out.out) Try.underlying49 rfl HI64.out) rfl ⟨?_, ?_⟩
                      · rw [← HO.out, ← HDe.out]; rfl
                      · exact below_setRow H.out.below (Nat.le_refl _) _
end Go.Proofs.Ytmablneefndedaa.Pr
end

section
namespace Go.Proofs.Ytmablneefndedaa.Pr
open Go.RowKit Go.Proofs.YtmablneefndedaaW.PrintWords Go.Proofs.YtmablneefndedaaW.PrintLast Go.Proofs.YtmablneefndedaaW.PrintMore
attribute [local go_sem] max2_int min2_int max_two min_two max_three min_three max_four min_four   -- for this text's walks alone
set_option linter.unusedVariables false
set_option linter.unusedSimpArgs false
def chacha_may.f (a0 : ByteArray) (a1 : ByteArray) (a2 : Int) : Option (Bool) := if (a0.size : Int) = 32 then (if (a1.size : Int) = 12 then (if a2 ≥ 0 then (some (decide (a2 < 4294967296))) else (some false)) else (some false)) else (some false)
set_option maxHeartbeats 8000000 in
set_option maxRecDepth 100000 in
theorem chacha_may.calls (a0 : ByteArray) (a1 : ByteArray) (a2 : Int) (r : Bool) (w : World) (h : chacha_may.f a0 a1 a2 = some r) :
    Calls Try.prog 47 #[.string a0, .string a1, .int .i64 a2] w fun e w' => e = .returned (.bool r) ∧ Drawn0 w w' := by
  have H : (if (a0.size : Int) = 32 then (if (a1.size : Int) = 12 then (if a2 ≥ 0 then (some (decide (a2 < 4294967296))) else (some false)) else (some false)) else (some false)) = some r := h
  clear h
  by_cases c4 : (a0.size : Int) = 32
  · rw [if_pos c4] at H
    have c4b0 : ((a0.size : Int) == 32) = true := beq_iff_eq.mpr c4
    have c4b1 : ((a0.size : Int) != 32) = false := bne_eq_false_iff_eq.mpr c4
    clear c4
    by_cases c5 : (a1.size : Int) = 12
    · rw [if_pos c5] at H
      have c5b0 : ((a1.size : Int) == 12) = true := beq_iff_eq.mpr c5
      have c5b1 : ((a1.size : Int) != 12) = false := bne_eq_false_iff_eq.mpr c5
      clear c5
      by_cases c6 : a2 ≥ 0
      · rw [if_pos c6] at H
        have c6b0 : decide (0 ≤ a2) = true := decide_eq_true c6
        clear c6
        obtain rfl := Option.some.inj H
        go_enter Try.func47, Try.ntmps47
        go_wp2
        go_ret
        exact ⟨by first | rfl | (simp; done) | (simp [*]; done), by repeat (first | exact Drawn0.refl _ | apply Drawn0.step)⟩
      · rw [if_neg c6] at H
        have c6b0 : decide (0 ≤ a2) = false := decide_eq_false c6
        clear c6
        obtain rfl := Option.some.inj H
        go_enter Try.func47, Try.ntmps47
        go_wp2
        go_ret
        exact ⟨by first | rfl | (simp; done) | (simp [*]; done), by repeat (first | exact Drawn0.refl _ | apply Drawn0.step)⟩
    · rw [if_neg c5] at H
      have c5b0 : ((a1.size : Int) == 12) = false := beq_eq_false_iff_ne.mpr c5
      have c5b1 : ((a1.size : Int) != 12) = true := bne_iff_ne.mpr c5
      obtain rfl := Option.some.inj H
      go_enter Try.func47, Try.ntmps47
      go_wp2
      go_ret
      exact ⟨by first | rfl | (simp; done) | (simp [*]; done), by repeat (first | exact Drawn0.refl _ | apply Drawn0.step)⟩
  · rw [if_neg c4] at H
    have c4b0 : ((a0.size : Int) == 32) = false := beq_eq_false_iff_ne.mpr c4
    have c4b1 : ((a0.size : Int) != 32) = true := bne_iff_ne.mpr c4
    obtain rfl := Option.some.inj H
    go_enter Try.func47, Try.ntmps47
    go_wp2
    go_ret
    exact ⟨by first | rfl | (simp; done) | (simp [*]; done), by repeat (first | exact Drawn0.refl _ | apply Drawn0.step)⟩
end Go.Proofs.Ytmablneefndedaa.Pr
end

section
namespace Go.Proofs.Ytmablneefndedaa.Pr
open Go.RowKit Go.Deep Go.Proofs.YtmablneefndedaaW.PrintWords Go.Proofs.YtmablneefndedaaW.PrintLast Go.Proofs.YtmablneefndedaaW.PrintMore
set_option maxHeartbeats 2000000
set_option linter.unusedVariables false
set_option linter.unusedSimpArgs false
theorem chaL_length (a b : List Nat) (n : Nat) : (chaL a b n).length = 64 := flatC_length _ 16
theorem chaL_lt (a b : List Nat) (n : Nat) : ∀ x ∈ chaL a b n, x < 256 := by
  intro x hx
  unfold chaL at hx
  rw [List.mem_flatMap] at hx
  obtain ⟨k, _, h⟩ := hx
  simp only [le4, List.mem_cons, List.not_mem_nil, or_false] at h
  rcases h with h | h | h | h <;> rw [h] <;> exact Nat.mod_lt _ (by decide)
def chaOK (a0 a1 : ByteArray) (a2 : Int) : Prop := a0.size = 32 ∧ a1.size = 12 ∧ 0 ≤ a2 ∧ a2 < 4294967296
instance (a0 a1 : ByteArray) (a2 : Int) : Decidable (chaOK a0 a1 a2) := by unfold chaOK; infer_instance
theorem may_calls (a0 a1 : ByteArray) (a2 : Int) (w : World) : Calls Try.prog 47 #[.string a0, .string a1, .int .i64 a2] w fun e w' => e = .returned (.bool (decide (chaOK a0 a1 a2))) ∧ ∃ n, w' = w.drewN n := by
  refine (chacha_may.calls a0 a1 a2 (decide (chaOK a0 a1 a2)) w ?_).mono fun _ _ h => ⟨h.1, h.2.out⟩
  unfold chacha_may.f chaOK
  by_cases h0 : a0.size = 32 <;> by_cases h1 : a1.size = 12 <;> by_cases h2 : 0 ≤ a2 <;> simp [h0, h1, h2, show ((a0.size : Int) = 32) = (a0.size = 32) by apply propext; omega, show ((a1.size : Int) = 12) = (a1.size = 12) by apply propext; omega]
def chacha_Block.f (a0 a1 : ByteArray) (a2 : Int) : Option (ByteArray × Int) :=
  if chaOK a0 a1 a2 then some (txt (chaL (bys a0) (bys a1) a2.toNat), 0) else some (⟨#[]⟩, 1)
set_option maxRecDepth 100000 in
theorem chacha_Block.calls (a0 : ByteArray) (a1 : ByteArray) (a2 : Int) (r1 : ByteArray) (r2 : Int) (w : World) (h : chacha_Block.f a0 a1 a2 = some (r1, r2)) :
    Calls Try.prog 49 #[.string a0, .string a1, .int .i64 a2] w fun e w' => e = .returned (.tuple #[.string r1, .int .i64 r2]) ∧ Below w.heap.size w w' := by
  unfold chacha_Block.f at h
  by_cases hc : chaOK a0 a1 a2
  · rw [if_pos hc] at h
    simp only [Option.some.injEq, Prod.mk.injEq] at h
    obtain ⟨rfl, rfl⟩ := h
    have hcd : decide (chaOK a0 a1 a2) = true := decide_eq_true hc
    obtain ⟨h0, h1, h2, h3⟩ := hc
    obtain ⟨m, rfl⟩ := Int.eq_ofNat_of_zero_le h2
    rw [Int.toNat_natCast]
    have hinf : (Try.prog.info? 49).map (·.size) = some 64 := by kernel_rfl
    have HL := Aside0.mk (chaL_length (bys a0) (bys a1) m)
    have hB := fun W => chacha_bytes_calls a0 a1 m W h0 h1 (by omega)
    generalize chaL (bys a0) (bys a1) m = O at hB HL ⊢
    have HB := Aside0.mk hB
    have HC := Aside0.mk hcd
    have hi64 : (Try.prog.info? 49).map (·.size) = some (u8s O).size := by rw [u8s_size, HL.out]; exact hinf
    have HI64 := Aside0.mk hi64
    clear hB hi64 hinf hcd h2
    go_enter Try.func49, Try.ntmps49
    go_wp2_with (fail)
    refine (may_calls _ _ _ _).mono ?_
    rw [HC.out]
    rintro e w1 ⟨rfl, n1, rfl⟩
    go_wp2_with (fail)
    refine (HB.out _).mono ?_
    rintro e w1 ⟨rfl, hb⟩
    have hcv := conv_u8s (w1.alloc (.cells (u8s O) 49)) 28 9 5 49 w1.heap.size O 64 Try.underlying28 Try.underlying5 Try.underlying9 (heap_alloc_last _ _) HL.out 64
    have HBE : Aside0 (Below w.heap.size w (w1.alloc (.cells (u8s O) 49))) := ⟨below_alloc (below_then (pw_below_drewN (Below.refl _ w) n1) (Nat.le_refl _) hb) _⟩
    clear hb
    go_wp2_with (refine wpList_store_row rfl 49 (.tmp 8) (.tmp 17) rfl _ (u8s O) rfl rfl 49 _ (heap_alloc_last _ _) HI64.out (by rw [u8s_size, HL.out]; rfl) (u8s_one _) ?_; rw [World.setRow_alloc_new])
    go_ret2
    exact ⟨rfl, HBE.out⟩
  · rw [if_neg hc] at h
    simp only [Option.some.injEq, Prod.mk.injEq] at h
    obtain ⟨rfl, rfl⟩ := h
    have hcd : decide (chaOK a0 a1 a2) = false := decide_eq_false hc
    have HC := Aside0.mk hcd
    clear hcd hc
    go_enter Try.func49, Try.ntmps49
    go_wp2_with (fail)
    refine (may_calls _ _ _ _).mono ?_
    rw [HC.out]
    rintro e w1 ⟨rfl, n1, rfl⟩
    go_wp2
    go_ret2
    exact ⟨rfl, pw_below_drewN (Below.refl _ w) n1⟩
def xorAt (f : Nat → Nat) (L : List Nat) (i : Nat) : List Nat := (List.range L.length).map fun j => if j < i then L.getD j 0 ^^^ f j else L.getD j 0
theorem xorAt_length (f : Nat → Nat) (L : List Nat) (i : Nat) : (xorAt f L i).length = L.length := by simp [xorAt]
theorem xorAt_zero (f : Nat → Nat) (L : List Nat) : xorAt f L 0 = L := by
  apply List.ext_getElem
  · simp [xorAt]
  · intro j h1 h2
    simp [xorAt, List.getD_eq_getElem?_getD, h2]
theorem xorAt_get (f : Nat → Nat) (L : List Nat) (i : Nat) (hi : i < L.length) : (xorAt f L i)[i]? = some (L.getD i 0) := by
  simp [xorAt, hi]
theorem xorAt_set (f : Nat → Nat) (L : List Nat) (i x y : Nat) (hi : i < L.length) (hx : L.getD i 0 = x) (hy : f i = y) : (xorAt f L i).set i (x ^^^ y) = xorAt f L (i + 1) := by
  apply List.ext_getElem
  · simp [xorAt]
  · intro j h1 h2
    rw [List.getElem_set]
    simp only [xorAt, List.getElem_map, List.getElem_range]
    by_cases e : i = j
    · subst e; rw [if_pos rfl, if_pos (by omega), hx, hy]
    · rw [if_neg e]
      by_cases h : j < i
      · rw [if_pos h, if_pos (by omega)]
      · rw [if_neg h, if_neg (by omega)]
theorem xorAt_over (f : Nat → Nat) (L : List Nat) (i i' : Nat) (h : L.length ≤ i) (h' : L.length ≤ i') : xorAt f L i = xorAt f L i' := by
  unfold xorAt
  apply List.map_congr_left
  intro j hj
  rw [List.mem_range] at hj
  rw [if_pos (by omega), if_pos (by omega)]
def strB (key nonce : List Nat) (n i : Nat) : Nat := (chaL key nonce (n + i / 64)).getD (i % 64) 0
def streamL (key nonce : List Nat) (n : Nat) (s : List Nat) : List Nat := xorAt (strB key nonce n) s s.length
def strOK (a0 a1 : ByteArray) (a2 : Int) (a3 : ByteArray) : Prop := chaOK a0 a1 a2 ∧ a3.size ≤ 65536 ∧ ((a3.size + 63) / 64 : Nat) ≤ 4294967296 - a2
instance (a0 a1 : ByteArray) (a2 : Int) (a3 : ByteArray) : Decidable (strOK a0 a1 a2 a3) := by unfold strOK; infer_instance
def chacha_Stream.f (a0 a1 : ByteArray) (a2 : Int) (a3 : ByteArray) : Option (ByteArray × Int) :=
  if a3.size ≤ 1000000000000 then (if strOK a0 a1 a2 a3 then some (txt (streamL (bys a0) (bys a1) a2.toNat (bys a3)), 0) else some (⟨#[]⟩, 1)) else none
set_option maxRecDepth 100000 in
theorem chacha_Stream.yes (a0 a1 a3 : ByteArray) (m : Nat) (w : World) (h0 : a0.size = 32) (h1 : a1.size = 12) (hm : m < 4294967296) (h3 : a3.size ≤ 65536) (h4 : m + (a3.size + 63) / 64 ≤ 4294967296) :
    Calls Try.prog 28 #[.string a0, .string a1, .int .i64 m, .string a3] w fun e w' => e = .returned (.tuple #[.string (txt (streamL (bys a0) (bys a1) m (bys a3))), .int .i64 0]) ∧ Below w.heap.size w w' := by
  have hcd : decide (chaOK a0 a1 m) = true := decide_eq_true ⟨h0, h1, by omega, by omega⟩
  have hB : ∀ (j : Nat) (W : World), m + j < 4294967296 → Calls Try.prog 48 #[.string a0, .string a1, .int .i64 ((m : Int) + (j : Int))] W fun e w' => e = .returned (.agg (u8s (chaL (bys a0) (bys a1) (m + j)))) ∧ Below W.heap.size W w' := by
    intro j W hj
    have := chacha_bytes_calls a0 a1 (m + j) W h0 h1 hj
    rwa [show ((m + j : Nat) : Int) = (m : Int) + (j : Int) by omega] at this
  have HB := Aside0.mk hB
  have HC := Aside0.mk hcd
  have kb := print_bytes (P := Try.prog) 9 28 5 Try.underlying9 Try.underlying28 Try.underlying5 a3
  have t1 : decide (65536 < (a3.size : Int)) = false := decide_eq_false (by omega)
  have t2 : decide (4294967296 - (m : Int) < ((a3.size : Int) + 64 - 1) / 64) = false := decide_eq_false (by omega)
  clear hB hcd
  go_enter Try.func28, Try.ntmps28
  go_wp2_with (fail)
  refine (may_calls _ _ _ _).mono ?_
  rw [HC.out]
  rintro e w1 ⟨rfl, n1, rfl⟩
  have kb := kb (w.drewN n1)
  go_wp2_with (fail)
  have HROW : ∃ rest, BAt w.heap.size (bys a3) rest (Lib.bytesWorld (w.drewN n1) 5 a3) := bytes_row (w.drewN n1) a3
  have HB0 : Aside0 (Below w.heap.size w (Lib.bytesWorld (w.drewN n1) 5 a3)) := ⟨bytes_below (pw_below_drewN (Below.refl _ w) n1) (Nat.le_refl _) _ _⟩
  clear kb
  obtain ⟨rest, HROW⟩ := HROW
  have hLl := bys_length a3
  have hLb := bys_lt' a3
  have hpost : streamL (bys a0) (bys a1) m (bys a3) = xorAt (strB (bys a0) (bys a1) m) (bys a3) (bys a3).length := rfl
  have HP := Aside0.mk hpost
  rw [← xorAt_zero (strB (bys a0) (bys a1) m) (bys a3)] at HROW
  generalize hL : bys a3 = L at hLl hLb HROW HP
  have HLe := Aside0.mk hL
  clear hL
  have HLl := Aside0.mk hLl
  have HLb := Aside0.mk hLb
  have HR := Aside0.mk HROW
  clear hpost hLl hLb HROW
  generalize Lib.bytesWorld (w.drewN n1) 5 a3 = w2 at HR HB0 ⊢
  generalize grownCap (w.drewN n1) a3.size 0 5 = cp
  have hcv := Aside0.mk (fun (W : World) (l : List Nat) (h : BAt w.heap.size l rest W) (hl : l.length = a3.size) => conv_bat W w.heap.size l rest h a3.size hl cp)
  go_loopw [11] (fun i wr => ∃ j : Nat, 64 * j < a3.size + 64 ∧ i = .int .i64 (64 * (j : Int)) ∧ Aside0 (BAt w.heap.size (xorAt (strB (bys a0) (bys a1) m) L (64 * j)) rest wr) ∧ Aside0 (Below w.heap.size w wr)) (fun i _ => a3.size + 64 - (intOf i).toNat)
  case atStart => exact ⟨0, by omega, rfl, HR, HB0⟩
  case round =>
    clear HR HB0
    obtain ⟨j, hj, rfl, HR, HBE⟩ := hrel
    by_cases hlt : 64 * j < a3.size
    · have d1 : decide (64 * (j : Int) < (a3.size : Int)) = true := decide_eq_true (by omega)
      have d2 : 64 * (j : Int) / 64 = (j : Int) := by omega
      have hjm : m + j < 4294967296 := by omega
      go_wp2_with (fail)
      refine (HB.out j _ hjm).mono ?_
      rintro e w3 ⟨rfl, hb⟩
      have HO := Aside0.mk (chaL_length (bys a0) (bys a1) (m + j))
      have HOl := Aside0.mk (chaL_lt (bys a0) (bys a1) (m + j))
      have HF := Aside0.mk (show ∀ i, i < 64 → strB (bys a0) (bys a1) m (64 * j + i) = (chaL (bys a0) (bys a1) (m + j)).getD i 0 by
        intro i hi
        unfold strB
        rw [show (64 * j + i) / 64 = j by omega, show (64 * j + i) % 64 = i by omega])
      generalize chaL (bys a0) (bys a1) (m + j) = O at HO HOl HF ⊢
      have hinf : (Try.prog.info? 49).map (·.size) = some 64 := by kernel_rfl
      have hi64 : (Try.prog.info? 49).map (·.size) = some (u8s O).size := by rw [u8s_size, HO.out]; exact hinf
      have HI64 := Aside0.mk hi64
      clear hi64 hinf
      have HR0 := HR
      have HR : Aside0 (BAt w.heap.size (xorAt (strB (bys a0) (bys a1) m) L (64 * j)) rest (w3.alloc (.cells (u8s O) 49))) := ⟨blk_alloc (blk_below HR.out hb) _⟩
      have HBE : Aside0 (Below w.heap.size w (w3.alloc (.cells (u8s O) 49))) := ⟨below_alloc (below_then HBE.out HBE.out.size hb) _⟩
      have HON : Aside0 ((w3.alloc (.cells (u8s O) 49)).heap[w3.heap.size]? = some (.cells (u8s O) 49 (0, 0))) := ⟨heap_alloc_last _ _⟩
      go_wp2_with (refine wpList_store_row rfl 49 (.tmp 12) (.tmp 48) rfl _ (u8s O) rfl rfl 49 _ (heap_alloc_last _ _) HI64.out (by rw [u8s_size, HO.out]; rfl) (u8s_one _) ?_; rw [World.setRow_alloc_new])
      have hq : min 64 ((a3.size : Int) - 64 * (j : Int)) = ((min 64 (a3.size - 64 * j) : Nat) : Int) := by omega
      rw [hq]
      have q1 : min 64 (a3.size - 64 * j) ≤ 64 := by omega
      have q2 : 64 * j + min 64 (a3.size - 64 * j) ≤ a3.size := by omega
      have q3 : min 64 (a3.size - 64 * j) = 64 ∨ 64 * j + min 64 (a3.size - 64 * j) = a3.size := by omega
      have HQ3 := Aside0.mk q3
      clear hq q3
      generalize min 64 (a3.size - 64 * j) = q at q1 q2 HQ3 ⊢
      have HG4 := Aside0.mk (Nat.lt_of_lt_of_le (blk_lt HR0.out) hb.size)
      generalize w3.alloc (.cells (u8s O) 49) = w4 at HR HBE HON ⊢
      generalize w3.heap.size = g4 at HON HG4 ⊢
      clear hb HR0
      go_loopw [54] (fun i wr => ∃ k : Nat, k ≤ q ∧ i = .int .i64 k ∧ Aside0 (BAt w.heap.size (xorAt (strB (bys a0) (bys a1) m) L (64 * j + k)) rest wr) ∧ Aside0 (Below w.heap.size w wr) ∧ Aside0 (wr.heap[g4]? = some (.cells (u8s O) 49 (0, 0)))) (fun i _ => q - (intOf i).toNat)
      case atStart => exact ⟨0, by omega, rfl, HR, HBE, HON⟩
      case round =>
        clear HR HBE HON
        obtain ⟨k, hk, rfl, HR, HBE, HON⟩ := hrel
        by_cases hlk : k < q
        · have hx0 := xorAt_get (strB (bys a0) (bys a1) m) L (64 * j + k) (by rw [HLl.out]; omega)
          have hxb : L.getD (64 * j + k) 0 < 256 := by
            have hk' : 64 * j + k < L.length := by rw [HLl.out]; omega
            rw [List.getD_eq_getElem?_getD, List.getElem?_eq_getElem hk']
            exact HLb.out _ (List.getElem_mem hk')
          have hyb : O.getD k 0 < 256 := by
            have hk' : k < O.length := by rw [HO.out]; omega
            rw [List.getD_eq_getElem?_getD, List.getElem?_eq_getElem hk']
            exact HOl.out _ (List.getElem_mem hk')
          have hcell := BAt.cell HR.out hx0
          have hfr := BAt.frozen HR.out hx0
          have hcO := (blk_cell HON.out k).trans (u8s_get O k (by rw [HO.out]; omega))
          generalize hx : L.getD (64 * j + k) 0 = x at hcell hxb
          generalize hy : O.getD k 0 = y at hcO hyb
          have HX := Aside0.mk hx
          have HY := Aside0.mk hy
          clear hx hy hx0
          have hxor := u8_xor_nat x y hxb hyb
          go_wp2_with (fail)
          refine wp_still_tail 11 (by kernel_rfl) (by kernel_rfl) ?_
          intro W hW
          have HW := Aside0.mk hW
          have g1 : W.cell? ⟨w.heap.size, 64 * j + k, none⟩ = some (.int .u8 (x : Int)) := by rw [hW]; exact hcell
          have g2 : W.cell? ⟨g4, k, none⟩ = some (.int .u8 (y : Int)) := by rw [hW]; exact hcO
          have gf : W.frozen? ⟨w.heap.size, 64 * j + k, none⟩ = false := by rw [hW]; exact hfr
          have i1 : IntKind.i64.wrap (64 * (j : Int) + (k : Int)) = 64 * (j : Int) + (k : Int) := IntWalk.i64_in _ (by omega)
          have i2 : (64 * (j : Int) + (k : Int)).toNat = 64 * j + k := by omega
          have i3 : 0 ≤ 64 * (j : Int) + (k : Int) := by omega
          have i4 : 64 * (j : Int) + (k : Int) < (a3.size : Int) := by omega
          have i5 : (k : Int) < 64 := by omega
          clear hW hcell hcO hfr
          simp only [List.take_succ_cons, List.take_zero, List.drop_succ_cons, List.drop_zero]
          repeat still_step
          refine wpStill_nil ?_
          go_wp2
          clear i1 i2 i3 i4 i5
          have HN : BAt w.heap.size (xorAt (strB (bys a0) (bys a1) m) L (64 * j + (k + 1))) rest (W.setCell ⟨w.heap.size, 64 * j + k, none⟩ (.int .u8 ((x ^^^ y : Nat) : Int))) := by
            rw [show 64 * j + (k + 1) = 64 * j + k + 1 by omega, ← xorAt_set (strB (bys a0) (bys a1) m) L (64 * j + k) x y (by rw [HLl.out]; omega) HX.out ((HF.out k (by omega)).trans HY.out)]
            rw [HW.out]
            exact BAt.store (w := wr.drew) HR.out (64 * j + k) (x ^^^ y) (by rw [xorAt_length, HLl.out]; omega)
          exact ⟨⟨k + 1, by omega, by go_num, ⟨HN⟩, ⟨by rw [HW.out]; exact below_set (below_drew HBE.out) (Nat.le_refl _)⟩, ⟨by rw [HW.out]; exact blk_far (w := wr.drew) (blk_drew HON.out) (by have := HG4.out; simp; omega) _⟩⟩, by simp [intOf]; omega⟩
        · obtain rfl : k = q := by omega
          clear hlk hk
          go_wp2_with (fail)
          have HN : BAt w.heap.size (xorAt (strB (bys a0) (bys a1) m) L (64 * (j + 1))) rest wr := by
            rcases HQ3.out with h | h
            · rw [show 64 * (j + 1) = 64 * j + k by omega]; exact HR.out
            · rw [xorAt_over _ L (64 * (j + 1)) (64 * j + k) (by rw [HLl.out]; omega) (by rw [HLl.out]; omega)]; exact HR.out
          exact ⟨⟨j + 1, by omega, by go_num, ⟨HN⟩, HBE⟩, by simp [intOf]; omega⟩
    · have d1 : decide (64 * (j : Int) < (a3.size : Int)) = false := decide_eq_false (by omega)
      have hcv2 := hcv.out wr _ HR.out (by rw [xorAt_length, HLl.out])
      have HE := Aside0.mk (xorAt_over (strB (bys a0) (bys a1) m) L (64 * j) L.length (by rw [HLl.out]; omega) (Nat.le_refl _))
      go_wp2
      go_ret2
      rw [HE.out, ← HP.out, ← HLe.out]
      exact ⟨rfl, HBE.out⟩
set_option maxRecDepth 100000 in
theorem chacha_Stream.no (a0 a1 a3 : ByteArray) (a2 : Int) (w : World) (h : ¬ strOK a0 a1 a2 a3) (k3 : a3.size ≤ 1000000000000) :
    Calls Try.prog 28 #[.string a0, .string a1, .int .i64 a2, .string a3] w fun e w' => e = .returned (.tuple #[.string ⟨#[]⟩, .int .i64 1]) ∧ Below w.heap.size w w' := by
  by_cases hc : chaOK a0 a1 a2
  · have hcd : decide (chaOK a0 a1 a2) = true := decide_eq_true hc
    obtain ⟨h0, h1, h2, h3⟩ := hc
    have HC := Aside0.mk hcd
    clear hcd
    by_cases h4 : 65536 < a3.size
    · have t1 : decide (65536 < (a3.size : Int)) = true := decide_eq_true (by omega)
      clear h h4
      go_enter Try.func28, Try.ntmps28
      go_wp2_with (fail)
      refine (may_calls _ _ _ _).mono ?_
      rw [HC.out]
      rintro e w1 ⟨rfl, n1, rfl⟩
      go_wp2
      go_ret2
      exact ⟨rfl, pw_below_drewN (Below.refl _ w) n1⟩
    · have t1 : decide (65536 < (a3.size : Int)) = false := decide_eq_false (by omega)
      have t2 : decide (4294967296 - a2 < ((a3.size : Int) + 64 - 1) / 64) = true := by
        refine decide_eq_true ?_
        apply Classical.byContradiction
        intro hn
        exact h ⟨⟨h0, h1, h2, h3⟩, by omega, by omega⟩
      clear h
      go_enter Try.func28, Try.ntmps28
      go_wp2_with (fail)
      refine (may_calls _ _ _ _).mono ?_
      rw [HC.out]
      rintro e w1 ⟨rfl, n1, rfl⟩
      go_wp2
      go_ret2
      exact ⟨rfl, pw_below_drewN (Below.refl _ w) n1⟩
  · have hcd : decide (chaOK a0 a1 a2) = false := decide_eq_false hc
    have HC := Aside0.mk hcd
    clear hcd hc h
    go_enter Try.func28, Try.ntmps28
    go_wp2_with (fail)
    refine (may_calls _ _ _ _).mono ?_
    rw [HC.out]
    rintro e w1 ⟨rfl, n1, rfl⟩
    go_wp2
    go_ret2
    exact ⟨rfl, pw_below_drewN (Below.refl _ w) n1⟩
theorem chacha_Stream.calls (a0 : ByteArray) (a1 : ByteArray) (a2 : Int) (a3 : ByteArray) (r1 : ByteArray) (r2 : Int) (w : World) (h : chacha_Stream.f a0 a1 a2 a3 = some (r1, r2)) :
    Calls Try.prog 28 #[.string a0, .string a1, .int .i64 a2, .string a3] w fun e w' => e = .returned (.tuple #[.string r1, .int .i64 r2]) ∧ Below w.heap.size w w' := by
  unfold chacha_Stream.f at h
  by_cases hs : a3.size ≤ 1000000000000
  · rw [if_pos hs] at h
    by_cases hc : strOK a0 a1 a2 a3
    · rw [if_pos hc] at h
      simp only [Option.some.injEq, Prod.mk.injEq] at h
      obtain ⟨rfl, rfl⟩ := h
      obtain ⟨⟨h0, h1, h2, h3⟩, h4, h5⟩ := hc
      obtain ⟨m, rfl⟩ := Int.eq_ofNat_of_zero_le h2
      rw [Int.toNat_natCast]
      exact chacha_Stream.yes a0 a1 a3 m w h0 h1 (by omega) h4 (by omega)
    · rw [if_neg hc] at h
      simp only [Option.some.injEq, Prod.mk.injEq] at h
      obtain ⟨rfl, rfl⟩ := h
      exact chacha_Stream.no a0 a1 a3 a2 w hc hs
  · rw [if_neg hs] at h
    cases h
end Go.Proofs.Ytmablneefndedaa.Pr
end

section
namespace Go.Proofs.Ytmablneefndedaa.Pr
open Go.RowKit Go.Deep Go.Proofs.YtmablneefndedaaW.PrintWords Go.Proofs.YtmablneefndedaaW.PrintLast Go.Proofs.YtmablneefndedaaW.PrintMore
set_option maxHeartbeats 2000000
set_option linter.unusedVariables false
set_option linter.unusedSimpArgs false
def mapAt (p : Nat → Nat → Nat) (l : List Nat) : List Nat := (List.range l.length).map fun i => p i (l.getD i 0)
theorem mapAt_length (p : Nat → Nat → Nat) (l : List Nat) : (mapAt p l).length = l.length := by simp [mapAt]
theorem mapAt_congr {p q : Nat → Nat → Nat} {l : List Nat} (h : ∀ i, i < l.length → p i (l.getD i 0) = q i (l.getD i 0)) : mapAt p l = mapAt q l :=
  List.map_congr_left fun i hi => h i (List.mem_range.1 hi)
theorem mapAt_id (l : List Nat) : mapAt (fun _ x => x) l = l := by
  apply List.ext_getElem
  · simp [mapAt]
  · intro j h1 h2
    simp [mapAt, List.getD_eq_getElem?_getD, h2]
theorem mapAt_get (p : Nat → Nat → Nat) (l : List Nat) (i : Nat) (hi : i < l.length) : (mapAt p l)[i]? = some (p i (l.getD i 0)) := by
  simp [mapAt, hi]
theorem mapAt_set {p q : Nat → Nat → Nat} {l : List Nat} (k v : Nat) (hk : q k (l.getD k 0) = v) (h : ∀ i, i ≠ k → p i (l.getD i 0) = q i (l.getD i 0)) : (mapAt p l).set k v = mapAt q l := by
  apply List.ext_getElem
  · simp [mapAt]
  · intro j h1 h2
    rw [List.getElem_set]
    simp only [mapAt, List.getElem_map, List.getElem_range]
    by_cases e : k = j
    · subst e; rw [if_pos rfl, hk]
    · rw [if_neg e, h j (fun e' => e e'.symm)]
def clB (k x : Nat) : Nat := if k % 4 = 3 then x % 16 else if k % 4 = 0 ∧ 0 < k then x / 4 * 4 else x
def clampL (l : List Nat) : List Nat := mapAt clB l
theorem clampL_length (l : List Nat) : (clampL l).length = l.length := mapAt_length _ _
theorem clB_lt (k x : Nat) (h : x < 256) : clB k x < 256 := by
  unfold clB
  split
  · omega
  · split <;> omega
theorem clampL_lt (l : List Nat) (h : ∀ i, l.getD i 0 < 256) : ∀ x ∈ clampL l, x < 256 := by
  intro x hx
  unfold clampL mapAt at hx
  rw [List.mem_map] at hx
  obtain ⟨i, _, rfl⟩ := hx
  exact clB_lt _ _ (h i)
def upto (f : Nat → Nat → Nat) (k : Nat) : Nat → Nat → Nat := fun i x => if i < k then f i x else x
theorem upto_set (f : Nat → Nat → Nat) (L : List Nat) (k v : Nat) (hv : f k (L.getD k 0) = v) : (mapAt (upto f k) L).set k v = mapAt (upto f (k + 1)) L := by
  refine mapAt_set k v ?_ ?_
  · unfold upto; rw [if_pos (by omega), hv]
  · intro i hi
    unfold upto
    by_cases h : i < k
    · rw [if_pos h, if_pos (by omega)]
    · rw [if_neg h, if_neg (by omega)]
theorem upto_skip (f : Nat → Nat → Nat) (L : List Nat) (k k' : Nat) (hk : k ≤ k') (hv : ∀ i, k ≤ i → i < k' → f i (L.getD i 0) = L.getD i 0) : mapAt (upto f k) L = mapAt (upto f k') L := by
  refine mapAt_congr fun i _ => ?_
  unfold upto
  by_cases h : i < k
  · rw [if_pos h, if_pos (by omega)]
  · rw [if_neg h]
    by_cases h' : i < k'
    · rw [if_pos h', hv i (by omega) h']
    · rw [if_neg h']
theorem upto_get (f : Nat → Nat → Nat) (L : List Nat) (k : Nat) (hk : k < L.length) : (mapAt (upto f k) L)[k]? = some (L.getD k 0) := by
  rw [mapAt_get _ _ _ hk]
  unfold upto
  rw [if_neg (by omega)]
theorem upto_zero (f : Nat → Nat → Nat) (L : List Nat) : mapAt (upto f 0) L = L := by
  conv => rhs; rw [← mapAt_id L]
  exact mapAt_congr fun i _ => by simp [upto]
theorem upto_all (f : Nat → Nat → Nat) (L : List Nat) (k : Nat) (hk : L.length ≤ k) : mapAt (upto f k) L = mapAt f L :=
  mapAt_congr fun i hi => by unfold upto; rw [if_pos (by omega)]
theorem u8_and15 : ∀ x : Nat, x < 256 → bits .and .u8 (x : Int) 15 = ((x % 16 : Nat) : Int) := by decide +kernel
theorem u8_and252 : ∀ x : Nat, x < 256 → bits .and .u8 (x : Int) 252 = ((x / 4 * 4 : Nat) : Int) := by decide +kernel
theorem u8_not3 : ∀ x : Nat, x < 256 → bits .andNot .u8 (x : Int) 3 = ((x / 4 * 4 : Nat) : Int) := by decide +kernel
set_option maxRecDepth 100000 in
theorem poly_Clamp.yes (a0 : ByteArray) (w : World) (h0 : a0.size = 16) :
    Calls Try.prog 76 #[.string a0] w fun e w' => e = .returned (.tuple #[.string (txt (clampL (bys a0))), .int .i64 0]) ∧ Below w.heap.size w w' := by
  have kb := print_bytes (P := Try.prog) 9 28 5 Try.underlying9 Try.underlying28 Try.underlying5 a0 w
  have g0 : ((a0.size : Int) != 16) = false := by rw [bne_eq_false_iff_eq]; omega
  go_enter Try.func76, Try.ntmps76
  go_wp2_with (fail)
  have HROW := bytes_row w a0
  have HB0 : Aside0 (Below w.heap.size w (Lib.bytesWorld w 5 a0)) := ⟨bytes_below (Below.refl _ w) (Nat.le_refl _) _ _⟩
  clear kb g0
  obtain ⟨rest, HROW⟩ := HROW
  have hLl : (bys a0).length = 16 := by rw [bys_length]; exact h0
  have hLb := bys_lt a0
  rw [← upto_zero clB (bys a0)] at HROW
  generalize hL : bys a0 = L at hLl hLb HROW
  have HLe := Aside0.mk hL
  have HLl := Aside0.mk hLl
  have HLb := Aside0.mk hLb
  have HR0 := Aside0.mk HROW
  clear hL hLl hLb HROW
  generalize Lib.bytesWorld w 5 a0 = w2 at HR0 HB0 ⊢
  generalize grownCap w a0.size 0 5 = cp
  generalize grownCap w 16 0 5 = cp
  have hcv := Aside0.mk (fun (W : World) (l : List Nat) (h : BAt w.heap.size l rest W) (hl : l.length = 16) => conv_bat W w.heap.size l rest h 16 hl cp)
  go_loopw [13] (fun i wr => ∃ k : Nat, k ≤ 16 ∧ i = .int .i64 k ∧ Aside0 (BAt w.heap.size (mapAt (upto clB k) L) rest wr) ∧ Aside0 (Below w.heap.size w wr)) (fun i _ => 16 - (intOf i).toNat)
  case atStart => exact ⟨0, by omega, rfl, HR0, HB0⟩
  case round =>
    clear HR0 HB0
    obtain ⟨k, hk, rfl, HR, HB⟩ := hrel
    by_cases hlt : k < 16
    · have hx0 := mapAt_get (fun i x => if i < k then clB i x else x) L k (by rw [HLl.out]; exact hlt)
      simp only [Nat.lt_irrefl, if_false] at hx0
      have hxb := HLb.out k
      have hcell := BAt.cell HR.out hx0
      have hfr := BAt.frozen HR.out hx0
      generalize hx : L.getD k 0 = x at hcell hxb
      have hb15 := u8_and15 x hxb
      have hb3 := u8_not3 x hxb
      have HX := Aside0.mk hx
      clear hx hx0 hcv
      have HN : ∀ W v, W = wr.setCell ⟨w.heap.size, k, none⟩ (.int .u8 ((v : Nat) : Int)) → clB k x = v → Aside0 (BAt w.heap.size (mapAt (upto clB (k + 1)) L) rest W) ∧ Aside0 (Below w.heap.size w W) := by
        rintro W v rfl hv
        refine ⟨⟨?_⟩, ⟨below_set HB.out (Nat.le_refl _)⟩⟩
        rw [← upto_set clB L k v (by rw [HX.out, hv])]
        exact BAt.store HR.out k v (by rw [mapAt_length, HLl.out]; exact hlt)
      have HN := Aside0.mk HN
      by_cases h3 : k % 4 = 3
      · have t3 : (((k : Int) % 4) == 3) = true := by rw [beq_iff_eq]; omega
        have hv : clB k x = x % 16 := by unfold clB; rw [if_pos h3]
        have HV := Aside0.mk hv
        clear hv h3
        go_wp2
        have := HN.out _ _ rfl HV.out
        exact ⟨⟨k + 1, by omega, by go_num, this.1, this.2⟩, by simp [intOf]; omega⟩
      · have t3 : (((k : Int) % 4) == 3) = false := by rw [beq_eq_false_iff_ne]; omega
        by_cases h4 : k % 4 = 0 ∧ 0 < k
        · have t4 : (((k : Int) % 4) == 0) = true := by rw [beq_iff_eq]; omega
          have t5 : decide (0 < (k : Int)) = true := decide_eq_true (by omega)
          have t6 : 0 < k := by omega
          have hv : clB k x = x / 4 * 4 := by unfold clB; rw [if_neg h3, if_pos h4]
          have HV := Aside0.mk hv
          clear hv h3 h4
          go_wp2
          have := HN.out _ _ rfl HV.out
          exact ⟨⟨k + 1, by omega, by go_num, this.1, this.2⟩, by simp [intOf]; omega⟩
        · have hv : clB k x = x := by unfold clB; rw [if_neg h3, if_neg h4]
          have HS : Aside0 (BAt w.heap.size (mapAt (upto clB (k + 1)) L) rest wr) := ⟨by
            rw [← upto_skip clB L k (k + 1) (by omega) (fun i h1 h2 => by rw [show i = k by omega, HX.out, hv])]
            exact HR.out⟩
          clear hv
          by_cases h0k : k = 0
          · have t4 : (((k : Int) % 4) == 0) = true := by rw [beq_iff_eq]; omega
            have t5 : decide (0 < (k : Int)) = false := decide_eq_false (by omega)
            have t6 : (0 < k) = False := eq_false (by omega)
            clear h3 h4 h0k
            go_wp2
            exact ⟨⟨k + 1, by omega, by go_num, HS, HB⟩, by simp [intOf]; omega⟩
          · have t4 : (((k : Int) % 4) == 0) = false := by rw [beq_eq_false_iff_ne]; omega
            clear h3 h4 h0k
            go_wp2
            exact ⟨⟨k + 1, by omega, by go_num, HS, HB⟩, by simp [intOf]; omega⟩
    · obtain rfl : k = 16 := by omega
      clear hlt hk
      have hcv2 := hcv.out wr _ HR.out (by rw [mapAt_length, HLl.out])
      have HE := Aside0.mk (show mapAt (upto clB 16) L = clampL L from upto_all clB L 16 (by rw [HLl.out]; omega))
      rw [HE.out] at hcv2
      go_wp2
      go_ret2
      rw [HLe.out]
      exact ⟨rfl, HB.out⟩
def cl3 (k x : Nat) : Nat := if k % 4 = 3 then x % 16 else x
def cl0 (k x : Nat) : Nat := if k % 4 = 0 ∧ 0 < k then x / 4 * 4 else x
theorem cl_both (L : List Nat) : mapAt cl0 (mapAt cl3 L) = clampL L := by
  unfold clampL mapAt
  rw [List.length_map, List.length_range]
  apply List.map_congr_left
  intro i hi
  rw [List.mem_range] at hi
  have : ((List.range L.length).map fun i => cl3 i (L.getD i 0)).getD i 0 = cl3 i (L.getD i 0) := by
    simp [List.getD_eq_getElem?_getD, hi]
  rw [this]
  unfold clB cl0 cl3
  by_cases h : i % 4 = 3
  · rw [if_pos h, if_neg (by omega), if_pos h]
  · rw [if_neg h, if_neg h]
set_option maxRecDepth 100000 in
theorem samphireref06_Clamp.yes (a0 : ByteArray) (w : World) (h0 : a0.size = 16) :
    Calls Try.prog 85 #[.string a0] w fun e w' => e = .returned (.tuple #[.string (txt (clampL (bys a0))), .int .i64 0]) ∧ Below w.heap.size w w' := by
  have kb := print_bytes (P := Try.prog) 9 28 5 Try.underlying9 Try.underlying28 Try.underlying5 a0 w
  have g0 : ((a0.size : Int) != 16) = false := by rw [bne_eq_false_iff_eq]; omega
  go_enter Try.func85, Try.ntmps85
  go_wp2_with (fail)
  have HROW := bytes_row w a0
  have HB0 : Aside0 (Below w.heap.size w (Lib.bytesWorld w 5 a0)) := ⟨bytes_below (Below.refl _ w) (Nat.le_refl _) _ _⟩
  clear kb g0
  obtain ⟨rest, HROW⟩ := HROW
  have hLl : (bys a0).length = 16 := by rw [bys_length]; exact h0
  have hLb := bys_lt a0
  rw [← upto_zero cl3 (bys a0), upto_skip cl3 (bys a0) 0 3 (by omega) (fun i _ h => by unfold cl3; rw [if_neg (by omega)])] at HROW
  generalize hL : bys a0 = L at hLl hLb HROW
  have HLe := Aside0.mk hL
  have HLl := Aside0.mk hLl
  have HLb := Aside0.mk hLb
  have HR0 := Aside0.mk HROW
  clear hL hLl hLb HROW
  generalize Lib.bytesWorld w 5 a0 = w2 at HR0 HB0 ⊢
  generalize grownCap w a0.size 0 5 = cp
  generalize grownCap w 16 0 5 = cp
  have hcv := Aside0.mk (fun (W : World) (l : List Nat) (h : BAt w.heap.size l rest W) (hl : l.length = 16) => conv_bat W w.heap.size l rest h 16 hl cp)
  go_loopw [5] (fun i wr => ∃ j : Nat, j ≤ 4 ∧ i = .int .i64 (4 * (j : Int) + 3) ∧ Aside0 (BAt w.heap.size (mapAt (upto cl3 (4 * j + 3)) L) rest wr) ∧ Aside0 (Below w.heap.size w wr)) (fun i _ => 20 - (intOf i).toNat)
  case atStart => exact ⟨0, by omega, rfl, HR0, HB0⟩
  case round =>
    clear HR0 HB0
    obtain ⟨j, hk, rfl, HR, HB⟩ := hrel
    by_cases hlt : j < 4
    · have hx0 := upto_get cl3 L (4 * j + 3) (by rw [HLl.out]; omega)
      have hxb := HLb.out (4 * j + 3)
      have hcell := BAt.cell HR.out hx0
      have hfr := BAt.frozen HR.out hx0
      generalize hx : L.getD (4 * j + 3) 0 = x at hcell hxb
      have hb15 := u8_and15 x hxb
      have HX := Aside0.mk hx
      have t1 : decide (4 * (j : Int) + 3 < 16) = true := decide_eq_true (by omega)
      have t2 : (4 * (j : Int) + 3).toNat = 4 * j + 3 := by omega
      clear hx hx0 hcv
      go_wp2
      have HN : BAt w.heap.size (mapAt (upto cl3 (4 * (j + 1) + 3)) L) rest (wr.setCell ⟨w.heap.size, 4 * j + 3, none⟩ (.int .u8 ((x % 16 : Nat) : Int))) := by
        rw [← upto_skip cl3 L (4 * j + 3 + 1) (4 * (j + 1) + 3) (by omega) (fun i h1 h2 => by unfold cl3; rw [if_neg (by omega)]),
          ← upto_set cl3 L (4 * j + 3) (x % 16) (by unfold cl3; rw [if_pos (by omega), HX.out])]
        exact BAt.store HR.out (4 * j + 3) (x % 16) (by rw [mapAt_length, HLl.out]; omega)
      exact ⟨⟨j + 1, by omega, by go_num, ⟨HN⟩, ⟨below_set HB.out (Nat.le_refl _)⟩⟩, by simp [intOf]; omega⟩
    · obtain rfl : j = 4 := by omega
      clear hlt hk
      have HR1 : Aside0 (BAt w.heap.size (mapAt (upto cl0 4) (mapAt cl3 L)) rest wr) := ⟨by
        rw [← upto_skip cl0 (mapAt cl3 L) 0 4 (by omega) (fun i _ h => by unfold cl0; rw [if_neg (by omega)]), upto_zero, ← upto_all cl3 L 19 (by rw [HLl.out]; omega)]
        exact HR.out⟩
      have HLm := Aside0.mk (show (mapAt cl3 L).length = 16 by rw [mapAt_length, HLl.out])
      have HLc := Aside0.mk (cl_both L)
      have HLb2 : Aside0 (∀ i, (mapAt cl3 L).getD i 0 < 256) := ⟨fun i => by
        by_cases hi : i < L.length
        · rw [List.getD_eq_getElem?_getD, mapAt_get _ _ _ hi]
          have := HLb.out i
          simp only [Option.getD_some]
          unfold cl3
          split
          · omega
          · exact this
        · rw [List.getD_eq_getElem?_getD, List.getElem?_eq_none (by rw [mapAt_length]; omega)]; simp⟩
      generalize mapAt cl3 L = M at HR1 HLm HLc HLb2
      clear HR
      rw [show 4 * ((4 : Nat) : Int) + 3 = 19 from rfl]
      go_wp2_with (fail)
      go_loopw [6] (fun i wr => ∃ j : Nat, j ≤ 3 ∧ i = .int .i64 (4 * (j : Int) + 4) ∧ Aside0 (BAt w.heap.size (mapAt (upto cl0 (4 * j + 4)) M) rest wr) ∧ Aside0 (Below w.heap.size w wr)) (fun i _ => 20 - (intOf i).toNat)
      case atStart => exact ⟨0, by omega, rfl, HR1, HB⟩
      case round =>
        clear HR1 HB
        obtain ⟨j, hk, rfl, HR, HB⟩ := hrel
        by_cases hlt : j < 3
        · have hx0 := upto_get cl0 M (4 * j + 4) (by rw [HLm.out]; omega)
          have hxb := HLb2.out (4 * j + 4)
          have hcell := BAt.cell HR.out hx0
          have hfr := BAt.frozen HR.out hx0
          generalize hx : M.getD (4 * j + 4) 0 = x at hcell hxb
          have hb252 := u8_and252 x hxb
          have HX := Aside0.mk hx
          have t1 : decide (4 * (j : Int) + 4 < 16) = true := decide_eq_true (by omega)
          have t2 : (4 * (j : Int) + 4).toNat = 4 * j + 4 := by omega
          clear hx hx0 hcv
          go_wp2
          have HN : BAt w.heap.size (mapAt (upto cl0 (4 * (j + 1) + 4)) M) rest (wr.setCell ⟨w.heap.size, 4 * j + 4, none⟩ (.int .u8 ((x / 4 * 4 : Nat) : Int))) := by
            rw [← upto_skip cl0 M (4 * j + 4 + 1) (4 * (j + 1) + 4) (by omega) (fun i h1 h2 => by unfold cl0; rw [if_neg (by omega)]),
              ← upto_set cl0 M (4 * j + 4) (x / 4 * 4) (by unfold cl0; rw [if_pos (by omega), HX.out])]
            exact BAt.store HR.out (4 * j + 4) (x / 4 * 4) (by rw [mapAt_length, HLm.out]; omega)
          exact ⟨⟨j + 1, by omega, by go_num, ⟨HN⟩, ⟨below_set HB.out (Nat.le_refl _)⟩⟩, by simp [intOf]; omega⟩
        · obtain rfl : j = 3 := by omega
          clear hlt hk
          have hcv2 := hcv.out wr _ HR.out (by rw [mapAt_length, HLm.out])
          have HE := Aside0.mk (show mapAt (upto cl0 (4 * 3 + 4)) M = clampL L from (upto_all cl0 M _ (by rw [HLm.out]; omega)).trans HLc.out)
          rw [HE.out] at hcv2
          rw [show 4 * ((3 : Nat) : Int) + 4 = 16 from rfl]
          go_wp2
          go_ret2
          rw [HLe.out]
          exact ⟨rfl, HB.out⟩
set_option maxRecDepth 100000 in
theorem samphireref06_Clamp.no (a0 : ByteArray) (w : World) (h0 : ¬ a0.size = 16) : Calls Try.prog 85 #[.string a0] w fun e w' => e = .returned (.tuple #[.string ⟨#[]⟩, .int .i64 1]) ∧ Below w.heap.size w w' := by
  have g0 : ((a0.size : Int) != 16) = true := by rw [bne_iff_ne]; omega
  go_enter Try.func85, Try.ntmps85
  go_wp2
  go_ret2
  exact ⟨rfl, Below.refl _ _⟩
def clampF (a0 : ByteArray) : Option (ByteArray × Int) := if a0.size = 16 then some (txt (clampL (bys a0)), 0) else some (⟨#[]⟩, 1)
def samphireref06_Clamp.f (a0 : ByteArray) : Option (ByteArray × Int) := clampF a0
theorem samphireref06_Clamp.calls (a0 : ByteArray) (r1 : ByteArray) (r2 : Int) (w : World) (h : samphireref06_Clamp.f a0 = some (r1, r2)) :
    Calls Try.prog 85 #[.string a0] w fun e w' => e = .returned (.tuple #[.string r1, .int .i64 r2]) ∧ Below w.heap.size w w' := by
  unfold samphireref06_Clamp.f clampF at h
  split at h <;> simp only [Option.some.injEq, Prod.mk.injEq] at h <;> obtain ⟨rfl, rfl⟩ := h
  · exact samphireref06_Clamp.yes a0 w (by assumption)
  · exact samphireref06_Clamp.no a0 w (by assumption)
end Go.Proofs.Ytmablneefndedaa.Pr
end

section
namespace Go.Proofs.Ytmablneefndedaa.Pr
set_option maxHeartbeats 1000000
set_option linter.unusedVariables false
set_option linter.unusedSimpArgs false
def lv : List Nat → Nat
  | [] => 0
  | x :: l => x + 67108864 * lv l
def cstep (st : List Nat × Nat) (k : Nat) : List Nat × Nat := (st.1.set k ((st.1.getD k 0 + st.2) % 67108864), (st.1.getD k 0 + st.2) / 67108864)
def carL (l : List Nat) : Nat → List Nat × Nat
  | 0 => (l, 0)
  | k + 1 => cstep (carL l k) k
def car (l : List Nat) : List Nat :=
  ((carL l 5).1.set 0 (((carL l 5).1.getD 0 0 + 5 * (carL l 5).2) % 67108864)).set 1 ((carL l 5).1.getD 1 0 + ((carL l 5).1.getD 0 0 + 5 * (carL l 5).2) / 67108864)
theorem five {l : List Nat} (h : l.length = 5) : ∃ a b c d e, l = [a, b, c, d, e] := by
  match l, h with
  | [a, b, c, d, e], _ => exact ⟨a, b, c, d, e, rfl⟩
structure Lim (n : Nat) (l : List Nat) : Prop where
  len : l.length = 5
  lt : ∀ i, l.getD i 0 < n
theorem Lim.mk5 {n a b c d e : Nat} (h0 : a < n) (h1 : b < n) (h2 : c < n) (h3 : d < n) (h4 : e < n) : Lim n [a, b, c, d, e] := by
  refine ⟨rfl, fun i => ?_⟩
  match i with
  | 0 => exact h0
  | 1 => exact h1
  | 2 => exact h2
  | 3 => exact h3
  | 4 => exact h4
  | i + 5 => simp; omega
theorem Lim.of5 {n : Nat} {l : List Nat} (h : Lim n l) : ∃ a b c d e, l = [a, b, c, d, e] ∧ a < n ∧ b < n ∧ c < n ∧ d < n ∧ e < n := by
  obtain ⟨a, b, c, d, e, rfl⟩ := five h.len
  exact ⟨a, b, c, d, e, rfl, h.lt 0, h.lt 1, h.lt 2, h.lt 3, h.lt 4⟩
theorem Lim.mono {n m : Nat} {l : List Nat} (h : Lim n l) (hnm : n ≤ m) : Lim m l := ⟨h.len, fun i => Nat.lt_of_lt_of_le (h.lt i) hnm⟩
theorem car5 (a b c d e : Nat) : ∃ q0 q1 q2 q3 q4 q5, car [a, b, c, d, e] = [(a % 67108864 + 5 * q4) % 67108864, (b + q0) % 67108864 + q5, (c + q1) % 67108864, (d + q2) % 67108864, (e + q3) % 67108864] ∧
    q0 = a / 67108864 ∧ q1 = (b + q0) / 67108864 ∧ q2 = (c + q1) / 67108864 ∧ q3 = (d + q2) / 67108864 ∧ q4 = (e + q3) / 67108864 ∧ q5 = (a % 67108864 + 5 * q4) / 67108864 :=
  ⟨_, _, _, _, _, _, rfl, rfl, rfl, rfl, rfl, rfl, rfl⟩
theorem car_lv {l : List Nat} (h : l.length = 5) : ∃ q, lv l = lv (car l) + 1361129467683753853853498429727072845819 * q := by
  obtain ⟨a, b, c, d, e, rfl⟩ := five h
  obtain ⟨q0, q1, q2, q3, q4, q5, h, e0, e1, e2, e3, e4, e5⟩ := car5 a b c d e
  rw [h]
  refine ⟨q4, ?_⟩
  simp only [lv]
  omega
theorem car_lim {l : List Nat} (h : Lim 9223372036854775808 l) : Lim 67141632 (car l) := by
  obtain ⟨a, b, c, d, e, rfl, h0, h1, h2, h3, h4⟩ := h.of5
  obtain ⟨q0, q1, q2, q3, q4, q5, h, e0, e1, e2, e3, e4, e5⟩ := car5 a b c d e
  rw [h]
  apply Lim.mk5 <;> omega
theorem carL_lt {l : List Nat} (h : Lim 9223372036854775808 l) : ∀ k, k < 5 → (carL l k).1.getD k 0 + (carL l k).2 < 18446744073709551616 := by
  obtain ⟨a, b, c, d, e, rfl, h0, h1, h2, h3, h4⟩ := h.of5
  intro k hk
  match k, hk with
  | 0, _ => show a + 0 < _; omega
  | 1, _ => show b + (a + 0) / 67108864 < _; omega
  | 2, _ => show c + (b + (a + 0) / 67108864) / 67108864 < _; omega
  | 3, _ => show d + (c + (b + (a + 0) / 67108864) / 67108864) / 67108864 < _; omega
  | 4, _ => show e + (d + (c + (b + (a + 0) / 67108864) / 67108864) / 67108864) / 67108864 < _; omega
theorem carL_length (l : List Nat) : ∀ k, (carL l k).1.length = l.length
  | 0 => rfl
  | k + 1 => by simp [carL, cstep, carL_length l k]
theorem car_length (l : List Nat) : (car l).length = l.length := by simp [car, carL_length]
theorem carL_end {l : List Nat} (h : Lim 9223372036854775808 l) : (carL l 5).1.getD 0 0 + 5 * (carL l 5).2 < 18446744073709551616 ∧ (carL l 5).1.getD 0 0 < 67108864 ∧ (carL l 5).1.getD 1 0 < 67108864 ∧ (carL l 5).2 < 274877906944 := by
  obtain ⟨a, b, c, d, e, rfl, h0, h1, h2, h3, h4⟩ := h.of5
  have e0 : (carL [a, b, c, d, e] 5).1.getD 0 0 = (a + 0) % 67108864 := rfl
  have e1 : (carL [a, b, c, d, e] 5).1.getD 1 0 = (b + (a + 0) / 67108864) % 67108864 := rfl
  have e2 : (carL [a, b, c, d, e] 5).2 = (e + (d + (c + (b + (a + 0) / 67108864) / 67108864) / 67108864) / 67108864) / 67108864 := rfl
  rw [e0, e1, e2]
  omega
def addT (l m : List Nat) (k : Nat) : List Nat := (List.range 5).map fun i => if i < k then l.getD i 0 + m.getD i 0 else l.getD i 0
def addL (l m : List Nat) : List Nat := addT l m 5
theorem addL_lv (l m : List Nat) (hl : l.length = 5) (hm : m.length = 5) : lv (addL l m) = lv l + lv m := by
  obtain ⟨a, b, c, d, e, rfl⟩ := five hl
  obtain ⟨a', b', c', d', e', rfl⟩ := five hm
  show lv [a + a', b + b', c + c', d + d', e + e'] = _
  simp only [lv]
  omega
theorem addL_lim {n m : Nat} {l k : List Nat} (hl : Lim n l) (hk : Lim m k) : Lim (n + m) (addL l k) := by
  obtain ⟨a, b, c, d, e, rfl, h0, h1, h2, h3, h4⟩ := hl.of5
  obtain ⟨a', b', c', d', e', rfl, g0, g1, g2, g3, g4⟩ := hk.of5
  show Lim _ [a + a', b + b', c + c', d + d', e + e']
  apply Lim.mk5 <;> omega
def mulT (n m : List Nat) (k : Nat) : Nat → Nat
  | 0 => 0
  | i + 1 => mulT n m k i + if i ≤ k then n.getD i 0 * m.getD (k - i) 0 else 5 * n.getD i 0 * m.getD (k + 5 - i) 0
def mulL (n m : List Nat) : List Nat := (List.range 5).map fun k => mulT n m k 5
theorem mul_lv (n m : List Nat) (hn : n.length = 5) (hm : m.length = 5) : ∃ q, lv n * lv m = lv (mulL n m) + 1361129467683753853853498429727072845819 * q := by
  obtain ⟨a, b, c, d, e, rfl⟩ := five hn
  obtain ⟨a', b', c', d', e', rfl⟩ := five hm
  refine ⟨b * e' + c * d' + d * c' + e * b' + 67108864 * (c * e' + d * d' + e * c' + 67108864 * (d * e' + e * d' + 67108864 * (e * e'))), ?_⟩
  show _ = lv [0 + a * a' + 5 * b * e' + 5 * c * d' + 5 * d * c' + 5 * e * b', 0 + a * b' + b * a' + 5 * c * e' + 5 * d * d' + 5 * e * c', 0 + a * c' + b * b' + c * a' + 5 * d * e' + 5 * e * d', 0 + a * d' + b * c' + c * b' + d * a' + 5 * e * e', 0 + a * e' + b * d' + c * c' + d * b' + e * a'] + _
  simp only [lv]
  grind
theorem mulT_lt {n m : List Nat} (hn : Lim 268435456 n) (hm : Lim 67108864 m) (k : Nat) : ∀ i, mulT n m k i ≤ i * 90071992547409920
  | 0 => by simp [mulT]
  | i + 1 => by
    have h1 := mulT_lt hn hm k i
    have hx : ∀ j r, n.getD j 0 * m.getD r 0 ≤ 18014398509481984 := fun j r => by
      have := Nat.mul_le_mul (Nat.le_of_lt (hn.lt j)) (Nat.le_of_lt (hm.lt r))
      simpa using this
    have h2 : (if i ≤ k then n.getD i 0 * m.getD (k - i) 0 else 5 * n.getD i 0 * m.getD (k + 5 - i) 0) ≤ 90071992547409920 := by
      split
      · have := hx i (k - i); omega
      · have := hx i (k + 5 - i)
        rw [Nat.mul_assoc]; omega
    simp only [mulT]
    omega
theorem mulL_lim {n m : List Nat} (hn : Lim 268435456 n) (hm : Lim 67108864 m) : Lim 9223372036854775808 (mulL n m) := by
  refine ⟨by simp [mulL], fun i => ?_⟩
  unfold mulL
  by_cases hi : i < 5
  · simp [List.getD_eq_getElem?_getD, hi]
    have := mulT_lt hn hm i 5
    omega
  · simp [List.getD_eq_getElem?_getD, hi]
def norm (l : List Nat) : List Nat := if (car l).getD 1 0 < 67108864 then car l else car (car l)
theorem norm_lim {l : List Nat} (h : Lim 134217728 l) : Lim 67108864 (norm l) := by
  obtain ⟨a, b, c, d, e, rfl, h0, h1, h2, h3, h4⟩ := h.of5
  unfold norm
  obtain ⟨q0, q1, q2, q3, q4, q5, h, e0, e1, e2, e3, e4, e5⟩ := car5 a b c d e
  rw [h]
  split
  · rename_i hb
    simp only [List.getD_cons_succ, List.getD_cons_zero] at hb
    apply Lim.mk5 <;> omega
  · rename_i hb
    simp only [List.getD_cons_succ, List.getD_cons_zero] at hb
    obtain ⟨r0, r1, r2, r3, r4, r5, g, f0, f1, f2, f3, f4, f5⟩ := car5 ((a % 67108864 + 5 * q4) % 67108864) ((b + q0) % 67108864 + q5) ((c + q1) % 67108864) ((d + q2) % 67108864) ((e + q3) % 67108864)
    rw [g]
    apply Lim.mk5 <;> omega
theorem norm_lv {l : List Nat} (h : l.length = 5) : ∃ q, lv l = lv (norm l) + 1361129467683753853853498429727072845819 * q := by
  unfold norm
  split
  · exact car_lv h
  · obtain ⟨q, hq⟩ := car_lv h
    obtain ⟨r, hr⟩ := car_lv (l := car l) (by rw [car_length]; exact h)
    exact ⟨q + r, by rw [hq, hr]; omega⟩
def moreT (l : List Nat) : Nat → List Nat
  | 0 => l.set 0 (l.getD 0 0 + 5)
  | k + 1 => ((moreT l k).set (k + 1) ((moreT l k).getD (k + 1) 0 + (moreT l k).getD k 0 / 67108864)).set k ((moreT l k).getD k 0 % 67108864)
def whole (l : List Nat) : List Nat :=
  if (moreT (norm l) 4).getD 4 0 / 67108864 = 0 then norm l else (moreT (norm l) 4).set 4 ((moreT (norm l) 4).getD 4 0 % 67108864)
theorem more5 (a b c d e : Nat) : ∃ q0 q1 q2 q3, moreT [a, b, c, d, e] 4 = [(a + 5) % 67108864, (b + q0) % 67108864, (c + q1) % 67108864, (d + q2) % 67108864, e + q3] ∧
    q0 = (a + 5) / 67108864 ∧ q1 = (b + q0) / 67108864 ∧ q2 = (c + q1) / 67108864 ∧ q3 = (d + q2) / 67108864 := ⟨_, _, _, _, rfl, rfl, rfl, rfl, rfl⟩
theorem whole_lim {l : List Nat} (h : Lim 134217728 l) : Lim 67108864 (whole l) := by
  have hN := norm_lim h
  unfold whole
  generalize norm l = m at *
  obtain ⟨a, b, c, d, e, rfl, h0, h1, h2, h3, h4⟩ := hN.of5
  obtain ⟨q0, q1, q2, q3, hm, e0, e1, e2, e3⟩ := more5 a b c d e
  rw [hm]
  split
  · exact hN
  · simp only [List.getD_cons_succ, List.getD_cons_zero, List.set_cons_succ, List.set_cons_zero] at *
    apply Lim.mk5 <;> omega
theorem whole_lv {l : List Nat} (h : Lim 134217728 l) : lv (whole l) = lv l % 1361129467683753853853498429727072845819 := by
  have hN := norm_lim h
  obtain ⟨q, hq⟩ := norm_lv h.len
  rw [hq, Nat.add_mul_mod_self_left]
  unfold whole
  generalize norm l = m at *
  obtain ⟨a, b, c, d, e, rfl, h0, h1, h2, h3, h4⟩ := hN.of5
  obtain ⟨q0, q1, q2, q3, hm, e0, e1, e2, e3⟩ := more5 a b c d e
  rw [hm]
  split
  · rename_i hc
    simp only [List.getD_cons_succ, List.getD_cons_zero] at hc
    simp only [lv]
    rw [Nat.mod_eq_of_lt (by omega)]
  · rename_i hc
    simp only [List.getD_cons_succ, List.getD_cons_zero, List.set_cons_succ, List.set_cons_zero] at *
    simp only [lv]
    have hu : (e + q3) / 67108864 = 1 := by omega
    rw [Nat.mod_eq_sub_mod (by omega), Nat.mod_eq_of_lt (by omega)]
    omega
end Go.Proofs.Ytmablneefndedaa.Pr
namespace Go.Proofs.Ytmablneefndedaa.Pr
def limbs (V : Nat) : List Nat := [V % 67108864, V / 67108864 % 67108864, V / 4503599627370496 % 67108864, V / 302231454903657293676544 % 67108864, V / 20282409603651670423947251286016 % 67108864]
theorem limbs_lim (V : Nat) : Lim 67108864 (limbs V) := by
  apply Lim.mk5 <;> exact Nat.mod_lt _ (by decide)
theorem limbs_lv (V : Nat) (h : V < 1361129467683753853853498429727072845824) : lv (limbs V) = V := by
  simp only [limbs, lv]
  omega
def dv : List Nat → Nat
  | [] => 0
  | x :: l => x + 256 * dv l
theorem dv_append (l m : List Nat) : dv (l ++ m) = dv l + 256 ^ l.length * dv m := by
  induction l with
  | nil => simp [dv]
  | cons x l ih => simp only [List.cons_append, dv, ih, List.length_cons, Nat.pow_succ]; grind
theorem dv_lt (l : List Nat) (h : ∀ i, l.getD i 0 < 256) : dv l < 256 ^ l.length := by
  induction l with
  | nil => simp [dv]
  | cons x l ih =>
    have h0 := h 0
    have := ih (fun i => by simpa using h (i + 1))
    simp only [dv, List.length_cons, Nat.pow_succ, List.getD_cons_zero] at *
    omega
theorem dv_digit (l : List Nat) (h : ∀ i, l.getD i 0 < 256) (k : Nat) : dv l / 256 ^ k % 256 = l.getD k 0 := by
  induction l generalizing k with
  | nil => simp [dv]
  | cons x l ih =>
    have h0 := h 0
    simp only [List.getD_cons_zero] at h0
    cases k with
    | zero => simp only [dv, List.getD_cons_zero, Nat.pow_zero, Nat.div_one]; omega
    | succ k =>
      have := ih (fun i => by simpa using h (i + 1)) k
      rw [List.getD_cons_succ, ← this, Nat.pow_succ, Nat.mul_comm, ← Nat.div_div_eq_div_mul]
      simp only [dv]
      congr 2
      omega
end Go.Proofs.Ytmablneefndedaa.Pr
namespace Go.Proofs.Ytmablneefndedaa.Pr
def dig (V n : Nat) : List Nat := (List.range n).map fun k => V / 256 ^ k % 256
theorem dig_length (V n : Nat) : (dig V n).length = n := by simp [dig]
theorem dig_get (V n k : Nat) (h : k < n) : (dig V n).getD k 0 = V / 256 ^ k % 256 := by simp [dig, List.getD_eq_getElem?_getD, h]
theorem dig_lt (V n k : Nat) : (dig V n).getD k 0 < 256 := by
  by_cases h : k < n
  · rw [dig_get V n k h]; exact Nat.mod_lt _ (by decide)
  · simp [dig, List.getD_eq_getElem?_getD, h]
theorem dig_succ (V n : Nat) : dig V (n + 1) = V % 256 :: dig (V / 256) n := by
  unfold dig
  rw [List.range_succ_eq_map, List.map_cons, List.map_map]
  congr 1
  · simp
  · apply List.map_congr_left
    intro k _
    simp only [Function.comp, Nat.pow_succ, Nat.mul_comm _ 256, Nat.div_div_eq_div_mul]
theorem dv_dig (V n : Nat) : dv (dig V n) = V % 256 ^ n := by
  induction n generalizing V with
  | zero => simp [dig, dv, Nat.mod_one]
  | succ n ih =>
    rw [dig_succ, dv, ih, Nat.pow_succ, Nat.mul_comm _ 256, Nat.mod_mul]
theorem dig_dv (l : List Nat) (h : ∀ i, l.getD i 0 < 256) : dig (dv l) l.length = l := by
  apply List.ext_getElem
  · simp [dig]
  · intro i h1 h2
    have := dv_digit l h i
    simp only [dig, List.getElem_map, List.getElem_range, this]
    simp [List.getD_eq_getElem?_getD, h2]
theorem dig_dv' (l : List Nat) (n : Nat) (h : ∀ i, l.getD i 0 < 256) (hn : l.length = n) : dig (dv l) n = l := by subst hn; exact dig_dv l h
theorem dv_take_succ (l : List Nat) (i : Nat) : dv (l.take (i + 1)) = dv (l.take i) + 256 ^ i * l.getD i 0 := by
  by_cases h : i < l.length
  · rw [List.take_succ_eq_append_getElem h, dv_append]
    simp [dv, List.length_take, Nat.min_eq_left (Nat.le_of_lt h), List.getD_eq_getElem?_getD, h]
  · have : i ≤ l.length ∨ l.length ≤ i := by omega
    rw [List.take_of_length_le (by omega), List.take_of_length_le (by omega)]
    simp [List.getD_eq_getElem?_getD, h]
theorem take_digit (l : List Nat) (i : Nat) : dv l / 256 ^ i % 256 = (dv (l.take i) / 256 ^ i + l.getD i 0) % 256 := by
  have h1 : dv l = dv (l.take (i + 1)) + 256 ^ (i + 1) * dv (l.drop (i + 1)) := by
    by_cases h : i + 1 ≤ l.length
    · have := dv_append (l.take (i + 1)) (l.drop (i + 1))
      rw [List.take_append_drop, List.length_take, Nat.min_eq_left h] at this
      exact this
    · rw [List.take_of_length_le (by omega), List.drop_of_length_le (by omega)]; simp [dv]
  rw [h1, dv_take_succ, Nat.pow_succ, Nat.mul_assoc, Nat.add_mul_div_left _ _ (Nat.pow_pos (by decide)), Nat.add_mul_div_left _ _ (Nat.pow_pos (by decide)), Nat.add_mul_mod_self_left]
end Go.Proofs.Ytmablneefndedaa.Pr
end

section
namespace Go.Proofs.Ytmablneefndedaa.Pr
open Go.RowKit Go.Deep Go.Proofs.YtmablneefndedaaW.PrintWords Go.Proofs.YtmablneefndedaaW.PrintLast Go.Proofs.YtmablneefndedaaW.PrintMore
set_option maxHeartbeats 2000000
set_option linter.unusedVariables false
set_option linter.unusedSimpArgs false
def u64s (l : List Nat) : Array Value := (l.map fun (n : Nat) => Value.int .u64 (n : Int)).toArray
theorem u64s_size (l : List Nat) : (u64s l).size = l.length := by simp [u64s]
theorem u64s_get (l : List Nat) (i : Nat) (h : i < l.length) : (u64s l)[i]? = some (.int .u64 (l.getD i 0 : Nat)) := by
  simp [u64s, h]
theorem u64s_set (l : List Nat) (i v : Nat) : (u64s l).setIfInBounds i (.int .u64 (v : Int)) = u64s (l.set i v) := by
  simp [u64s]
theorem u64s_one (l : List Nat) : (u64s l).all (·.oneCell') = true := by
  simp [u64s, Value.oneCell']
def adr (n : Nat) : Nat → Nat
  | 0 => n
  | i + 1 => adr n i + 1
theorem adr_eq (n : Nat) : ∀ i, adr n i = n + i
  | 0 => rfl
  | i + 1 => by rw [adr, adr_eq n i]; omega
structure PN (w : World) (R : List (List Nat)) (W : World) : Prop where
  below : Below w.heap.size w W
  rows : ∀ i l, R[i]? = some l → W.heap[adr w.heap.size i]? = some (.cells (u64s l) 84 (0, 0))
  size : W.heap.size = w.heap.size + R.length
theorem PN.nil (w : World) : PN w [] w := ⟨Below.refl _ _, by simp, rfl⟩
theorem PN.push {w W : World} {R : List (List Nat)} (h : PN w R W) (l : List Nat) : PN w (R ++ [l]) (W.alloc (.cells (u64s l) 84)) := by
  refine ⟨below_alloc h.below _, ?_, by simp [h.size]; omega⟩
  intro i l' hi
  by_cases hlt : i < R.length
  · rw [List.getElem?_append_left hlt] at hi
    exact blk_alloc (h.rows i l' hi) _
  · have hi2 : i = R.length := by
      have := (List.getElem?_eq_some_iff.1 hi).1
      simp at this; omega
    subst hi2
    simp at hi
    subst hi
    rw [adr_eq, ← h.size]
    exact blk_new _ _
theorem PN.drewN {w W : World} {R : List (List Nat)} (h : PN w R W) (n : Nat) : PN w R (W.drewN n) := ⟨pw_below_drewN h.below n, h.rows, h.size⟩
theorem PN.drew {w W : World} {R : List (List Nat)} (h : PN w R W) : PN w R W.drew := ⟨below_drew h.below, h.rows, h.size⟩
theorem PN.cell {w W : World} {R : List (List Nat)} (h : PN w R W) (i k : Nat) {l : List Nat} (hl : R[i]? = some l) (hk : k < l.length) : W.cell? ⟨adr w.heap.size i, k, none⟩ = some (.int .u64 (l.getD k 0 : Nat)) ∧ W.frozen? ⟨adr w.heap.size i, k, none⟩ = false :=
  ⟨(blk_cell (h.rows i l hl) k).trans (u64s_get l k hk), blk_frozen (h.rows i l hl) k⟩
theorem PN.set {w W : World} {R : List (List Nat)} (h : PN w R W) (i k v : Nat) {l : List Nat} (hl : R[i]? = some l) : PN w (R.set i (l.set k v)) (W.setCell ⟨adr w.heap.size i, k, none⟩ (.int .u64 (v : Int))) := by
  refine ⟨below_set h.below (by rw [adr_eq]; omega), ?_, by rw [List.length_set]; simp [h.size]⟩
  intro j l' hj
  rw [List.getElem?_set] at hj
  by_cases e : i = j
  · subst e
    have hlt := (List.getElem?_eq_some_iff.1 hl).1
    rw [if_pos rfl, if_pos hlt] at hj
    obtain rfl := Option.some.inj hj
    exact blk_put (h.rows i l hl) k _ (u64s_set l k v)
  · rw [if_neg e] at hj
    exact blk_far (h.rows j l' hj) (by rw [adr_eq, adr_eq]; simp; omega) _
theorem PN.set2 {w W : World} {R : List (List Nat)} (h : PN w R W) (i k u v : Nat) {l : List Nat} (hl : R[i]? = some l) : PN w (R.set i (l.set k v)) ((W.setCell ⟨adr w.heap.size i, k, none⟩ (.int .u64 (u : Int))).setCell ⟨adr w.heap.size i, k, none⟩ (.int .u64 (v : Int))) := by
  have hlt := (List.getElem?_eq_some_iff.1 hl).1
  have := (h.set i k u hl).set i k v (l := l.set k u) (by rw [List.getElem?_set]; simp [hlt])
  rwa [List.set_set, List.set_set] at this
theorem wraps_u64 (n : Int) (h₀ : 0 ≤ n) (h₁ : n < 2 ^ 64) : IntKind.u64.wrap n = n := by rw [IntKind.wrap_u64]; omega
theorem and64 (a b : Nat) (ha : a < 18446744073709551616) (hb : b < 18446744073709551616) : bits .and .u64 (a : Int) (b : Int) = ((a &&& b : Nat) : Int) :=
  (bits_nat .u64 64 (by decide) wraps_u64 a b (by simpa using ha) (by simpa using hb)).1
theorem or64 (a b : Nat) (ha : a < 18446744073709551616) (hb : b < 18446744073709551616) : bits .or .u64 (a : Int) (b : Int) = ((a ||| b : Nat) : Int) :=
  (bits_nat .u64 64 (by decide) wraps_u64 a b (by simpa using ha) (by simpa using hb)).2
theorem mask26 (a : Nat) (ha : a < 18446744073709551616) : bits .and .u64 (a : Int) 67108863 = ((a % 67108864 : Nat) : Int) := by
  have := and64 a 67108863 ha (by decide)
  rw [show ((67108863 : Nat) : Int) = 67108863 from rfl] at this
  rw [this, show (67108863 : Nat) = 2 ^ 26 - 1 from rfl, Nat.and_two_pow_sub_one_eq_mod]
set_option maxRecDepth 100000 in
theorem carried_calls (l : List Nat) (w : World) (h : Lim 9223372036854775808 l) :
    Calls Try.prog 105 #[.agg (u64s l)] w fun e w' => e = .returned (.agg (u64s (car l))) ∧ Below w.heap.size w w' := by
  have hi : (Try.prog.info? 84).map (·.size) = some 5 := by kernel_rfl
  have HI := Aside0.mk hi
  have HL := Aside0.mk h
  clear hi h
  go_enter Try.func105, Try.ntmps105
  go_wp2_with (fail)
  have H : Aside0 (PN w [l, List.replicate 5 0] ((w.alloc (.cells (u64s l) 84)).alloc (.cells (u64s (List.replicate 5 0)) 84))) := ⟨((PN.nil w).push l).push _⟩
  go_loopw [3, 5] (fun c i wr => ∃ k : Nat, k ≤ 5 ∧ i = .int .i64 k ∧ c = .int .u64 ((carL l k).2 : Nat) ∧ Aside0 (PN w [(carL l k).1, List.replicate 5 0] wr)) (fun _ i _ => 5 - (intOf i).toNat)
  case atStart => exact ⟨0, by omega, rfl, rfl, H⟩
  case round =>
    clear H
    obtain ⟨k, hk, rfl, rfl, H⟩ := hrel
    by_cases hlt : k < 5
    · obtain ⟨hx, hf⟩ := H.out.cell 0 k rfl (by rw [carL_length, HL.out.len]; exact hlt)
      have hs : carL l (k + 1) = cstep (carL l k) k := rfl
      unfold cstep at hs
      have hb := carL_lt HL.out k hlt
      generalize (carL l k).1.getD k 0 = x at hx hs hb
      generalize (carL l k).2 = c at hs hb ⊢
      generalize (carL l k).1 = m at hs H
      have hxc : (x : Int) + (c : Int) ≤ 18446744073709551615 := by omega
      have hm := mask26 (x + c) hb
      rw [show ((x + c : Nat) : Int) = (x : Int) + (c : Int) by omega] at hm
      have HS := Aside0.mk hs
      clear hs
      simp only [adr] at hx hf
      go_wp2
      have HN : PN w [(carL l (k + 1)).1, List.replicate 5 0] ((wr.setCell ⟨w.heap.size, k, none⟩ (.int .u64 ((x : Int) + (c : Int)))).setCell ⟨w.heap.size, k, none⟩ (.int .u64 (((x : Int) + (c : Int)) % 67108864))) := by rw [HS.out]; exact H.out.set2 0 k (x + c) ((x + c) % 67108864) rfl
      exact ⟨⟨k + 1, by omega, by go_num, by rw [HS.out]; go_num, ⟨HN⟩⟩, by simp [intOf]; omega⟩
    · obtain rfl : k = 5 := by omega
      clear hlt hk
      obtain ⟨e1, e2, e3, e4⟩ := carL_end HL.out
      have hcar : car l = (((carL l 5).1.set 0 (((carL l 5).1.getD 0 0 + 5 * (carL l 5).2) % 67108864)).set 1 ((carL l 5).1.getD 1 0 + ((carL l 5).1.getD 0 0 + 5 * (carL l 5).2) / 67108864)) := rfl
      have hml : (carL l 5).1.length = 5 := by rw [carL_length, HL.out.len]
      have hcl : (car l).length = 5 := by rw [car_length, HL.out.len]
      obtain ⟨hx0, hf0⟩ := H.out.cell 0 0 rfl (by omega)
      obtain ⟨hx1, hf1⟩ := H.out.cell 0 1 rfl (by omega)
      generalize (carL l 5).1.getD 0 0 = x at *
      generalize (carL l 5).1.getD 1 0 = y at *
      generalize (carL l 5).2 = c at *
      generalize (carL l 5).1 = m at *
      generalize hr : car l = r at *
      have HRe := Aside0.mk hr
      clear hr
      have hm := mask26 (x + 5 * c) e1
      rw [show ((x + 5 * c : Nat) : Int) = (x : Int) + 5 * (c : Int) by omega] at hm
      have b1 : (x : Int) + 5 * (c : Int) ≤ 18446744073709551615 := by omega
      have b2 : 5 * (c : Int) ≤ 18446744073709551615 := by omega
      have b3 : (y : Int) + ((x : Int) + 5 * (c : Int)) / 67108864 ≤ 18446744073709551615 := by omega
      have HC := Aside0.mk hcar
      have HML := Aside0.mk hml
      have HCL := Aside0.mk hcl
      clear hcar hml hcl
      simp only [adr] at hx0 hf0 hx1 hf1
      rw [show ((5 : Nat) : Int) = 5 from rfl]
      have HN : PN w [r, List.replicate 5 0] (((wr.setCell ⟨w.heap.size, 0, none⟩ (.int .u64 ((x : Int) + 5 * (c : Int)))).setCell ⟨w.heap.size, 0, none⟩ (.int .u64 (((x : Int) + 5 * (c : Int)) % 67108864))).setCell ⟨w.heap.size, 1, none⟩ (.int .u64 ((y : Int) + ((x : Int) + 5 * (c : Int)) / 67108864))) := by
        rw [HC.out]
        exact (H.out.set2 0 0 (x + 5 * c) ((x + 5 * c) % 67108864) rfl).set 0 1 (y + (x + 5 * c) / 67108864) rfl
      have HN := Aside0.mk HN
      go_upto_region 13 with (fail)
      generalize ((wr.setCell ⟨w.heap.size, 0, none⟩ (.int .u64 ((x : Int) + 5 * (c : Int)))).setCell ⟨w.heap.size, 0, none⟩ (.int .u64 (((x : Int) + 5 * (c : Int)) % 67108864))).setCell ⟨w.heap.size, 1, none⟩ (.int .u64 ((y : Int) + ((x : Int) + 5 * (c : Int)) / 67108864)) = w2 at HN ⊢
      have hrow : w2.heap[w.heap.size]? = _ := HN.out.rows 0 r rfl
      have hout : w2.heap[w.heap.size + 1]? = _ := HN.out.rows 1 _ rfl
      have hsz : (Try.prog.info? 84).map (·.size) = some (u64s r).size := by rw [u64s_size, HCL.out]; exact HI.out
      have hsz2 : (u64s (List.replicate 5 0)).size = (u64s r).size := by rw [u64s_size, u64s_size, HCL.out]; rfl
      have HROW := Aside0.mk hrow
      have HOUT := Aside0.mk hout
      have HSZ := Aside0.mk hsz
      have HSZ2 := Aside0.mk hsz2
      clear hrow hout hsz hsz2 hm b1 b2 b3 hx0 hx1 hf0 hf1
      go_wp2_with (first | (with_reducible refine wpList_load_row rfl 84 (.tmp 1) rfl w.heap.size rfl 84 (u64s r) (0, 0) _ HROW.out Try.underlying84 rfl HSZ.out ?_) | (refine wpList_store_row rfl 84 (.tmp 2) (.tmp 42) rfl (w.heap.size + 1) (u64s r) rfl rfl 84 _ HOUT.out HSZ.out HSZ2.out (u64s_one _) ?_))
      exact bodyPost_ret (results_cell_row Try.results105 _ _ (w.heap.size + 1) 84 (u64s r) (0, 0) _ rfl (setRow_heap _ _ _ _ _ _ HOUT.out) Try.underlying84 rfl HSZ.out) rfl ⟨by rw [HRe.out], below_setRow HN.out.below (by omega) _⟩
theorem addT_set (l m : List Nat) (k : Nat) (hl : l.length = 5) (hk : k < 5) : (addT l m k).set k (l.getD k 0 + m.getD k 0) = addT l m (k + 1) := by
  apply List.ext_getElem
  · simp [addT]
  · intro j h1 h2
    rw [List.getElem_set]
    simp only [addT, List.getElem_map, List.getElem_range]
    by_cases e : k = j
    · subst e; rw [if_pos rfl, if_pos (by omega)]
    · rw [if_neg e]
      by_cases h : j < k
      · rw [if_pos h, if_pos (by omega)]
      · rw [if_neg h, if_neg (by omega)]
theorem addT_length (l m : List Nat) (k : Nat) : (addT l m k).length = 5 := by simp [addT]
theorem addT_zero (l m : List Nat) (hl : l.length = 5) : addT l m 0 = l := by
  obtain ⟨a, b, c, d, e, rfl⟩ := five hl
  rfl
theorem addT_get (l m : List Nat) (k : Nat) (hk : k < 5) : (addT l m k).getD k 0 = l.getD k 0 := by
  simp [addT, List.getD_eq_getElem?_getD, hk]
set_option maxRecDepth 100000 in
theorem number_add_calls (l m : List Nat) (w : World) (hl : Lim 9223372036854775808 l) (hm : Lim 9223372036854775808 m) :
    Calls Try.prog 78 #[.agg (u64s l), .agg (u64s m)] w fun e w' => e = .returned (.agg (u64s (addL l m))) ∧ Below w.heap.size w w' := by
  have hi : (Try.prog.info? 84).map (·.size) = some 5 := by kernel_rfl
  have HI := Aside0.mk hi
  have HL := Aside0.mk hl
  have HM := Aside0.mk hm
  clear hi hl hm
  go_enter Try.func78, Try.ntmps78
  go_wp2_with (fail)
  have H : Aside0 (PN w [addT l m 0, m, List.replicate 5 0] (((w.alloc (.cells (u64s l) 84)).alloc (.cells (u64s m) 84)).alloc (.cells (u64s (List.replicate 5 0)) 84))) := ⟨by rw [addT_zero l m HL.out.len]; exact (((PN.nil w).push l).push m).push _⟩
  go_loopw [6] (fun i wr => ∃ k : Nat, k ≤ 5 ∧ i = .int .i64 k ∧ Aside0 (PN w [addT l m k, m, List.replicate 5 0] wr)) (fun i _ => 5 - (intOf i).toNat)
  case atStart => exact ⟨0, by omega, rfl, H⟩
  case round =>
    clear H
    obtain ⟨k, hk, rfl, H⟩ := hrel
    by_cases hlt : k < 5
    · obtain ⟨hx, hf⟩ := H.out.cell 0 k rfl (by rw [addT_length]; exact hlt)
      obtain ⟨hy, hfy⟩ := H.out.cell 1 k rfl (by rw [HM.out.len]; exact hlt)
      rw [addT_get l m k hlt] at hx
      have hn := addT_set l m k HL.out.len hlt
      have bx := HL.out.lt k
      have by_ := HM.out.lt k
      generalize l.getD k 0 = x at hx hn bx
      generalize m.getD k 0 = y at hy hn by_
      have HN := Aside0.mk hn
      have hxy : (x : Int) + (y : Int) ≤ 18446744073709551615 := by omega
      have q5 : (k : Int) < 5 := by omega
      clear hn bx by_ hfy
      simp only [adr] at hx hf hy
      go_wp2_with (fail)
      refine wp_still_tail 8 (by kernel_rfl) (by kernel_rfl) ?_
      intro W hW
      have g1 : W.cell? ⟨w.heap.size, k, none⟩ = some (.int .u64 (x : Int)) := by rw [hW]; exact hx
      have g2 : W.cell? ⟨w.heap.size + 1, k, none⟩ = some (.int .u64 (y : Int)) := by rw [hW]; exact hy
      have gf : W.frozen? ⟨w.heap.size, k, none⟩ = false := by rw [hW]; exact hf
      have HW : Aside0 (PN w [addT l m k, m, List.replicate 5 0] W) := ⟨by rw [hW]; exact H.out.drew⟩
      clear hW hx hy hf H
      simp only [List.take_succ_cons, List.take_zero, List.drop_succ_cons, List.drop_zero]
      repeat still_step
      refine wpStill_nil ?_
      go_wp2
      refine ⟨⟨k + 1, by omega, by go_num, ?_⟩, by simp [intOf]; omega⟩
      rw [← HN.out]
      exact ⟨HW.out.set 0 k (x + y) rfl⟩
    · obtain rfl : k = 5 := by omega
      clear hlt hk
      rw [show ((5 : Nat) : Int) = 5 from rfl]
      have HCL := Aside0.mk (addT_length l m 5)
      have HRe : Aside0 (addL l m = addT l m 5) := ⟨rfl⟩
      generalize addT l m 5 = r at *
      go_upto_region 6 with (fail)
      have hrow := H.out.rows 0 r rfl
      have hout := H.out.rows 2 _ rfl
      simp only [adr] at hrow hout
      have hsz : (Try.prog.info? 84).map (·.size) = some (u64s r).size := by rw [u64s_size, HCL.out]; exact HI.out
      have hsz2 : (u64s (List.replicate 5 0)).size = (u64s r).size := by rw [u64s_size, u64s_size, HCL.out]; rfl
      have HROW := Aside0.mk hrow
      have HOUT := Aside0.mk hout
      have HSZ := Aside0.mk hsz
      have HSZ2 := Aside0.mk hsz2
      clear hrow hout hsz hsz2
      go_wp2_with (first | (with_reducible refine wpList_load_row rfl 84 (.tmp 2) rfl (w.heap.size) rfl 84 (u64s r) (0, 0) _ HROW.out Try.underlying84 rfl HSZ.out ?_) | (refine wpList_store_row rfl 84 (.tmp 4) (.tmp 18) rfl (w.heap.size + 1 + 1) (u64s r) rfl rfl 84 _ HOUT.out HSZ.out HSZ2.out (u64s_one _) ?_))
      exact bodyPost_ret (results_cell_row Try.results78 _ _ (w.heap.size + 1 + 1) 84 (u64s r) (0, 0) _ rfl (setRow_heap _ _ _ _ _ _ HOUT.out) Try.underlying84 rfl HSZ.out) rfl ⟨by rw [HRe.out], below_setRow H.out.below (by omega) _⟩
def mulS (n m : List Nat) (k i : Nat) : List Nat := (List.range 5).map fun q => if q < k then mulT n m q 5 else if q = k then mulT n m k i else 0
theorem mulS_length (n m : List Nat) (k i : Nat) : (mulS n m k i).length = 5 := by simp [mulS]
theorem mulS_get (n m : List Nat) (k i : Nat) (hk : k < 5) : (mulS n m k i).getD k 0 = mulT n m k i := by
  simp [mulS, List.getD_eq_getElem?_getD, hk]
theorem mulS_set (n m : List Nat) (k i : Nat) (hk : k < 5) : (mulS n m k i).set k (mulT n m k (i + 1)) = mulS n m k (i + 1) := by
  apply List.ext_getElem
  · simp [mulS]
  · intro j h1 h2
    rw [List.getElem_set]
    simp only [mulS, List.getElem_map, List.getElem_range]
    by_cases e : k = j
    · subst e; rw [if_pos rfl, if_neg (by omega), if_pos rfl]
    · rw [if_neg e]
      by_cases h : j < k
      · rw [if_pos h, if_pos h]
      · rw [if_neg h, if_neg (by omega), if_neg h, if_neg (by omega)]
theorem mulS_next (n m : List Nat) (k : Nat) : mulS n m k 5 = mulS n m (k + 1) 0 := by
  unfold mulS
  apply List.map_congr_left
  intro q _
  by_cases h : q < k
  · rw [if_pos h, if_pos (by omega)]
  · rw [if_neg h]
    by_cases e : q = k
    · subst e; rw [if_pos rfl, if_pos (by omega)]
    · rw [if_neg e, if_neg (by omega)]; simp [mulT]
theorem mulS_zero (n m : List Nat) : mulS n m 0 0 = List.replicate 5 0 := rfl
theorem mulS_all (n m : List Nat) : mulS n m 5 0 = mulL n m := by
  unfold mulS mulL
  apply List.map_congr_left
  intro q hq
  rw [List.mem_range] at hq
  rw [if_pos hq]
set_option maxRecDepth 100000 in
theorem number_times_calls (n m : List Nat) (w : World) (hn : Lim 268435456 n) (hm : Lim 67108864 m) :
    Calls Try.prog 79 #[.agg (u64s n), .agg (u64s m)] w fun e w' => e = .returned (.agg (u64s (car (mulL n m)))) ∧ Below w.heap.size w w' := by
  have hi : (Try.prog.info? 84).map (·.size) = some 5 := by kernel_rfl
  have HI := Aside0.mk hi
  have HN := Aside0.mk hn
  have HM := Aside0.mk hm
  clear hi hn hm
  go_enter Try.func79, Try.ntmps79
  go_wp2_with (fail)
  have H : Aside0 (PN w [n, m, List.replicate 5 0, mulS n m 0 0] ((((w.alloc (.cells (u64s n) 84)).alloc (.cells (u64s m) 84)).alloc (.cells (u64s (List.replicate 5 0)) 84)).alloc (.cells (u64s (List.replicate 5 0)) 84))) := ⟨by rw [mulS_zero]; exact ((((PN.nil w).push n).push m).push _).push _⟩
  go_loopw [10] (fun i wr => ∃ k : Nat, k ≤ 5 ∧ i = .int .i64 k ∧ Aside0 (PN w [n, m, List.replicate 5 0, mulS n m k 0] wr)) (fun i _ => 5 - (intOf i).toNat)
  case atStart => exact ⟨0, by omega, rfl, H⟩
  case round =>
    clear H
    obtain ⟨k, hk, rfl, H⟩ := hrel
    by_cases hlt : k < 5
    · have q5 : (k : Int) < 5 := by omega
      go_wp2_with (fail)
      go_loopw [13] (fun i wr => ∃ k' : Nat, k' ≤ 5 ∧ i = .int .i64 k' ∧ Aside0 (PN w [n, m, List.replicate 5 0, mulS n m k k'] wr)) (fun i _ => 5 - (intOf i).toNat)
      case atStart => exact ⟨0, by omega, rfl, H⟩
      case round =>
        clear H
        obtain ⟨i, hi, rfl, H⟩ := hrel
        by_cases hli : i < 5
        · obtain ⟨hx, hfx⟩ := H.out.cell 0 i rfl (by rw [HN.out.len]; exact hli)
          obtain ⟨hs, hfs⟩ := H.out.cell 3 k rfl (by rw [mulS_length]; exact hlt)
          rw [mulS_get n m k i hlt] at hs
          have hset := mulS_set n m k i hlt
          have bs := mulT_lt HN.out HM.out k i
          have bx := HN.out.lt i
          have r5 : (i : Int) < 5 := by omega
          have hT : mulT n m k (i + 1) = mulT n m k i + if i ≤ k then n.getD i 0 * m.getD (k - i) 0 else 5 * n.getD i 0 * m.getD (k + 5 - i) 0 := rfl
          clear hfx
          by_cases hik : i ≤ k
          · obtain ⟨hz, hfz⟩ := H.out.cell 1 (k - i) rfl (by rw [HM.out.len]; omega)
            have bz := HM.out.lt (k - i)
            rw [if_pos hik] at hT
            generalize n.getD i 0 = x at hx hT bx
            generalize m.getD (k - i) 0 = z at hz hT bz
            have bxz : x * z ≤ 18014398509481984 := by
              have := Nat.mul_le_mul (Nat.le_of_lt bx) (Nat.le_of_lt bz)
              simpa using this
            rw [hT] at hset
            generalize mulT n m k i = s at hs hset bs
            have HSET := Aside0.mk hset
            have b1 : (x : Int) * (z : Int) ≤ 18446744073709551615 := by
              have : ((x * z : Nat) : Int) ≤ 18014398509481984 := by omega
              rw [Int.natCast_mul] at this; omega
            have b2 : (s : Int) + (x : Int) * (z : Int) ≤ 18446744073709551615 := by
              have : ((x * z : Nat) : Int) ≤ 18014398509481984 := by omega
              rw [Int.natCast_mul] at this; omega
            have b3 : 0 ≤ (x : Int) * (z : Int) := Int.mul_nonneg (by omega) (by omega)
            have t1 : decide (0 ≤ (k : Int) - (i : Int)) = true := decide_eq_true (by omega)
            have t2 : decide ((i : Int) ≤ (k : Int)) = true := decide_eq_true (by omega)
            have t3 : decide (i ≤ k) = true := decide_eq_true hik
            have n1 : ((k : Int) - (i : Int)).toNat = k - i := by omega
            have n2 : (k : Int) - (i : Int) < 5 := by omega
            have e1 : IntKind.u64.wrap ((x : Int) * (z : Int)) = (x : Int) * (z : Int) := wraps_u64 _ b3 (by omega)
            have e2 : IntKind.u64.wrap ((s : Int) + (x : Int) * (z : Int)) = (s : Int) + (x : Int) * (z : Int) := wraps_u64 _ (by omega) (by omega)
            clear hset hT bxz bs bx bz hfz
            simp only [adr] at hx hs hz hfs
            go_wp2_with (fail)
            refine wp_still_tail 10 (by kernel_rfl) (by kernel_rfl) ?_
            intro W hW
            have g2 : W.cell? ⟨w.heap.size + 1, k - i, none⟩ = some (.int .u64 (z : Int)) := by rw [hW]; exact hz
            have g3 : W.cell? ⟨w.heap.size + 1 + 1 + 1, k, none⟩ = some (.int .u64 (s : Int)) := by rw [hW]; exact hs
            have gf : W.frozen? ⟨w.heap.size + 1 + 1 + 1, k, none⟩ = false := by rw [hW]; exact hfs
            have HW : Aside0 (PN w [n, m, List.replicate 5 0, mulS n m k i] W) := ⟨by rw [hW]; exact H.out.drew⟩
            clear hW hx hz hs hfs H
            simp only [List.take_succ_cons, List.take_zero, List.drop_succ_cons, List.drop_zero]
            repeat still_step
            refine wpStill_nil ?_
            go_wp2
            refine ⟨⟨i + 1, by omega, by go_num, ?_⟩, by simp [intOf]; omega⟩
            rw [← HSET.out]
            exact ⟨HW.out.set 3 k (s + x * z) rfl⟩
          · obtain ⟨hz, hfz⟩ := H.out.cell 1 (k + 5 - i) rfl (by rw [HM.out.len]; omega)
            have bz := HM.out.lt (k + 5 - i)
            rw [if_neg hik] at hT
            generalize n.getD i 0 = x at hx hT bx
            generalize m.getD (k + 5 - i) 0 = z at hz hT bz
            have bxz : x * z ≤ 18014398509481984 := by
              have := Nat.mul_le_mul (Nat.le_of_lt bx) (Nat.le_of_lt bz)
              simpa using this
            rw [hT] at hset
            generalize mulT n m k i = s at hs hset bs
            have HSET := Aside0.mk hset
            have b0 : 5 * (x : Int) ≤ 18446744073709551615 := by omega
            have b1 : 5 * (x : Int) * (z : Int) ≤ 18446744073709551615 := by
              have : ((x * z : Nat) : Int) ≤ 18014398509481984 := by omega
              rw [Int.natCast_mul] at this; rw [Int.mul_assoc]; omega
            have b2 : (s : Int) + 5 * (x : Int) * (z : Int) ≤ 18446744073709551615 := by
              have : ((x * z : Nat) : Int) ≤ 18014398509481984 := by omega
              rw [Int.natCast_mul] at this; rw [Int.mul_assoc]; omega
            have b3 : 0 ≤ 5 * (x : Int) * (z : Int) := Int.mul_nonneg (by omega) (by omega)
            have t1 : decide (0 ≤ (k : Int) - (i : Int)) = false := decide_eq_false (by omega)
            have t2 : decide ((i : Int) ≤ (k : Int)) = false := decide_eq_false (by omega)
            have t3 : decide (i ≤ k) = false := decide_eq_false hik
            have n1 : ((k : Int) - (i : Int) + 5).toNat = k + 5 - i := by omega
            have n2 : (k : Int) - (i : Int) + 5 < 5 := by omega
            have n3 : 0 ≤ (k : Int) - (i : Int) + 5 := by omega
            have n4 : IntKind.i64.wrap ((k : Int) - (i : Int) + 5) = (k : Int) - (i : Int) + 5 := IntWalk.i64_in _ (by omega)
            have e0 : IntKind.u64.wrap (5 * (x : Int)) = 5 * (x : Int) := wraps_u64 _ (by omega) (by omega)
            have e1 : IntKind.u64.wrap (5 * (x : Int) * (z : Int)) = 5 * (x : Int) * (z : Int) := wraps_u64 _ b3 (by omega)
            have e2 : IntKind.u64.wrap ((s : Int) + 5 * (x : Int) * (z : Int)) = (s : Int) + 5 * (x : Int) * (z : Int) := wraps_u64 _ (by omega) (by omega)
            clear hset hT bxz bs bx bz hfz
            simp only [adr] at hx hs hz hfs
            go_wp2_with (fail)
            refine wp_still_tail 12 (by kernel_rfl) (by kernel_rfl) ?_
            intro W hW
            have g2 : W.cell? ⟨w.heap.size + 1, k + 5 - i, none⟩ = some (.int .u64 (z : Int)) := by rw [hW]; exact hz
            have g3 : W.cell? ⟨w.heap.size + 1 + 1 + 1, k, none⟩ = some (.int .u64 (s : Int)) := by rw [hW]; exact hs
            have gf : W.frozen? ⟨w.heap.size + 1 + 1 + 1, k, none⟩ = false := by rw [hW]; exact hfs
            have HW : Aside0 (PN w [n, m, List.replicate 5 0, mulS n m k i] W) := ⟨by rw [hW]; exact H.out.drew⟩
            clear hW hx hz hs hfs H
            simp only [List.take_succ_cons, List.take_zero, List.drop_succ_cons, List.drop_zero]
            repeat still_step
            refine wpStill_nil ?_
            go_wp2
            refine ⟨⟨i + 1, by omega, by go_num, ?_⟩, by simp [intOf]; omega⟩
            rw [← HSET.out]
            exact ⟨HW.out.set 3 k (s + 5 * x * z) rfl⟩
        · obtain rfl : i = 5 := by omega
          clear hli hi
          rw [show ((5 : Nat) : Int) = 5 from rfl]
          go_wp2
          refine ⟨⟨k + 1, by omega, by go_num, ?_⟩, by simp [intOf]; omega⟩
          rw [← mulS_next]
          exact H
    · obtain rfl : k = 5 := by omega
      clear hlt hk
      rw [show ((5 : Nat) : Int) = 5 from rfl]
      have hP := H.out
      rw [mulS_all] at hP
      have HLM := Aside0.mk (mulL_lim HN.out HM.out)
      have hPl : (mulL n m).length = 5 := by simp [mulL]
      have hCl : (car (mulL n m)).length = 5 := by rw [car_length]; exact hPl
      generalize hP0 : mulL n m = P at *
      have HRe := Aside0.mk hP0
      clear hP0
      have HP := Aside0.mk hP
      have HPl := Aside0.mk hPl
      have HC := Aside0.mk (fun W => carried_calls P W HLM.out)
      have hrow := HP.out.rows 3 P rfl
      simp only [adr] at hrow
      have hszp : (Try.prog.info? 84).map (·.size) = some (u64s P).size := by rw [u64s_size, HPl.out]; exact HI.out
      have HROWP := Aside0.mk hrow
      have HSZP := Aside0.mk hszp
      have HCL := Aside0.mk hCl
      clear hP hPl hrow hszp hCl
      go_upto_region 15 with (fail)
      go_wp2_with (first | (with_reducible refine wpList_load_row rfl 84 (.tmp 5) rfl (w.heap.size + 1 + 1 + 1) rfl 84 (u64s P) (0, 0) _ HROWP.out Try.underlying84 rfl HSZP.out ?_))
      refine (HC.out _).mono ?_
      rintro e w3 ⟨rfl, hb⟩
      have hout := blk_below (HP.out.rows 2 _ rfl) hb
      simp only [adr] at hout
      have HBE := Aside0.mk (below_then HP.out.below HP.out.below.size hb)
      have hsz : (Try.prog.info? 84).map (·.size) = some (u64s (car P)).size := by rw [u64s_size, HCL.out]; exact HI.out
      have hsz2 : (u64s (List.replicate 5 0)).size = (u64s (car P)).size := by rw [u64s_size, u64s_size, HCL.out]; rfl
      have HOUT := Aside0.mk hout
      have HSZ := Aside0.mk hsz
      have HSZ2 := Aside0.mk hsz2
      clear hout hsz hsz2 hb
      generalize hr : car P = r at *
      have HRr := Aside0.mk hr
      clear hr
      go_wp2_with (refine wpList_store_row rfl 84 (.tmp 4) (.tmp 49) rfl (w.heap.size + 1 + 1) (u64s r) rfl rfl 84 _ HOUT.out HSZ.out HSZ2.out (u64s_one _) ?_)
      exact bodyPost_ret (results_cell_row Try.results79 _ _ (w.heap.size + 1 + 1) 84 (u64s r) (0, 0) _ rfl (setRow_heap _ _ _ _ _ _ HOUT.out) Try.underlying84 rfl HSZ.out) rfl ⟨by rw [HRe.out, HRr.out], below_setRow HBE.out (by omega) _⟩
end Go.Proofs.Ytmablneefndedaa.Pr
end

section
namespace Go.Proofs.Ytmablneefndedaa.Pr
open Go.RowKit Go.Deep Go.Proofs.YtmablneefndedaaW.PrintWords Go.Proofs.YtmablneefndedaaW.PrintLast Go.Proofs.YtmablneefndedaaW.PrintMore
set_option maxHeartbeats 2000000
set_option linter.unusedVariables false
set_option linter.unusedSimpArgs false
structure WN (w : World) (l : List Nat) (W : World) : Prop where
  below : Below w.heap.size w W
  row : W.heap[w.heap.size]? = some (.cells (u64s l) 84 (0, 0))
  ret : W.heap[w.heap.size + 1]? = some (.cells (u64s (List.replicate 5 0)) 84 (0, 0))
theorem WN.drewN {w W : World} {l : List Nat} (h : WN w l W) (n : Nat) : WN w l (W.drewN n) := ⟨pw_below_drewN h.below n, h.row, h.ret⟩
theorem WN.then_ {w W W' : World} {l : List Nat} (h : WN w l W) (hb : Below W.heap.size W W') : WN w l W' := ⟨below_then h.below h.below.size hb, blk_below h.row hb, blk_below h.ret hb⟩
theorem WN.put {w W : World} {l : List Nat} (h : WN w l W) (l' : List Nat) : WN w l' (W.setRow w.heap.size (u64s l')) :=
  ⟨below_setRow h.below (Nat.le_refl _) _, setRow_heap _ _ _ _ _ _ h.row, by rw [setRow_other _ _ _ _ (by omega)]; exact h.ret⟩
structure WM (w : World) (g : Nat) (l m : List Nat) (W : World) : Prop where
  n : WN w l W
  gt : w.heap.size + 1 < g
  row : W.heap[g]? = some (.cells (u64s m) 84 (0, 0))
theorem WM.set {w W : World} {g : Nat} {l m : List Nat} (h : WM w g l m W) (k v : Nat) : WM w g l (m.set k v) (W.setCell ⟨g, k, none⟩ (.int .u64 (v : Int))) := by
  have hg := h.gt
  exact ⟨⟨below_set h.n.below (by omega), blk_far h.n.row (by simp; omega) _, blk_far h.n.ret (by simp; omega) _⟩, hg, blk_put h.row k _ (u64s_set m k v)⟩
theorem WM.cell {w W : World} {g : Nat} {l m : List Nat} (h : WM w g l m W) (k : Nat) (hk : k < m.length) : W.cell? ⟨g, k, none⟩ = some (.int .u64 (m.getD k 0 : Nat)) ∧ W.frozen? ⟨g, k, none⟩ = false :=
  ⟨(blk_cell h.row k).trans (u64s_get m k hk), blk_frozen h.row k⟩
theorem WM.drew {w W : World} {g : Nat} {l m : List Nat} (h : WM w g l m W) : WM w g l m W.drew := ⟨⟨below_drew h.n.below, h.n.row, h.n.ret⟩, h.gt, h.row⟩
theorem moreT_length (l : List Nat) : ∀ k, (moreT l k).length = l.length
  | 0 => by simp [moreT]
  | k + 1 => by simp [moreT, moreT_length l k]
theorem more_lt {l : List Nat} (h : Lim 67108864 l) : ∀ k, k < 4 → (moreT l k).getD k 0 < 134217728 ∧ (moreT l k).getD (k + 1) 0 < 67108864 := by
  obtain ⟨a, b, c, d, e, rfl, h0, h1, h2, h3, h4⟩ := h.of5
  intro k hk
  match k, hk with
  | 0, _ => exact ⟨show a + 5 < _ by omega, h1⟩
  | 1, _ => exact ⟨show b + (a + 5) / 67108864 < _ by omega, h2⟩
  | 2, _ => exact ⟨show c + (b + (a + 5) / 67108864) / 67108864 < _ by omega, h3⟩
  | 3, _ => exact ⟨show d + (c + (b + (a + 5) / 67108864) / 67108864) / 67108864 < _ by omega, h4⟩
theorem more_top {l : List Nat} (h : Lim 67108864 l) : (moreT l 4).getD 4 0 < 134217728 := by
  obtain ⟨a, b, c, d, e, rfl, h0, h1, h2, h3, h4⟩ := h.of5
  show e + (d + (c + (b + (a + 5) / 67108864) / 67108864) / 67108864) / 67108864 < _
  omega
theorem car2_lim {l : List Nat} (h : Lim 134217728 l) (hn : ¬ (car l).getD 1 0 < 67108864) : (car (car l)).getD 1 0 < 67108864 := by
  have := (norm_lim h).lt 1
  unfold norm at this
  rwa [if_neg hn] at this
def topOf (g : Nat) (W : World) : Nat := match W.cell? ⟨g, 1, none⟩ with
  | some (.int _ v) => v.toNat
  | _ => 0
theorem topOf_eq {w W : World} {l : List Nat} (h : WN w l W) (hl : l.length = 5) : topOf w.heap.size W = l.getD 1 0 := by
  unfold topOf
  rw [(blk_cell h.row 1).trans (u64s_get l 1 (by omega))]
  simp
set_option maxRecDepth 100000 in
theorem number_whole_calls (l : List Nat) (w : World) (h : Lim 134217728 l) :
    Calls Try.prog 80 #[.agg (u64s l)] w fun e w' => e = .returned (.agg (u64s (whole l))) ∧ Below w.heap.size w w' := by
  have hi : ∀ m : List Nat, m.length = 5 → (Try.prog.info? 84).map (·.size) = some (u64s m).size := by intro m hm; rw [u64s_size, hm]; kernel_rfl
  have HI := Aside0.mk hi
  have HL := Aside0.mk h
  have HLl := Aside0.mk h.len
  have HCl := Aside0.mk (show (car l).length = 5 by rw [car_length]; exact h.len)
  have HCCl := Aside0.mk (show (car (car l)).length = 5 by rw [car_length, car_length]; exact h.len)
  have HC1 := Aside0.mk (fun W => carried_calls l W (h.mono (by decide)))
  have HC2 := Aside0.mk (fun W => carried_calls (car l) W ((car_lim (h.mono (by decide))).mono (by decide)))
  clear hi h
  go_enter Try.func80, Try.ntmps80
  go_upto_region 1 with (fail)
  have H : Aside0 (WN w l ((w.alloc (.cells (u64s l) 84)).alloc (.cells (u64s (List.replicate 5 0)) 84))) := ⟨⟨below_alloc (below_alloc (Below.refl _ _) _) _, blk_alloc (blk_new _ _) _, by
    have := blk_new (w.alloc (.cells (u64s l) 84)) (.cells (u64s (List.replicate 5 0)) 84)
    rwa [show (w.alloc (.cells (u64s l) 84)).heap.size = w.heap.size + 1 by simp] at this⟩⟩
  have e5 : #[Value.int IntKind.u64 0, Value.int IntKind.u64 0, Value.int IntKind.u64 0, Value.int IntKind.u64 0, Value.int IntKind.u64 0] = u64s (List.replicate 5 0) := rfl
  rw [e5]
  clear e5
  generalize (w.alloc (.cells (u64s l) 84)).alloc (.cells (u64s (List.replicate 5 0)) 84) = W0 at H ⊢
  go_wp2_with (with_reducible refine wpList_load_row rfl 84 (.tmp 1) rfl w.heap.size rfl 84 (u64s l) (0, 0) _ H.out.row Try.underlying84 rfl (HI.out l HLl.out) ?_)
  refine (HC1.out _).mono ?_
  rintro e w3 ⟨rfl, hb⟩
  have H := Aside0.mk (H.out.then_ hb)
  clear hb
  go_wp2_with (refine wpList_store_row rfl 84 (.tmp 1) (.tmp 6) rfl w.heap.size (u64s (car l)) rfl rfl 84 _ H.out.row (HI.out (car l) HCl.out) (by rw [u64s_size, u64s_size, HLl.out, HCl.out]) (u64s_one _) ?_)
  have H := Aside0.mk (H.out.put (car l))
  generalize w3.setRow w.heap.size (u64s (car l)) = W0 at H ⊢
  simp only [Act.put, List.setIfInBounds_toArray, List.set_cons_zero, List.set_cons_succ]
  go_loopw [] (fun wr => ∃ l', (l' = car l ∨ (l' = car (car l) ∧ ¬ (car l).getD 1 0 < 67108864)) ∧ Aside0 (WN w l' wr)) (fun wr => topOf w.heap.size wr)
  case atStart => exact ⟨car l, Or.inl rfl, H⟩
  case round =>
    clear H
    obtain ⟨l', hl', H⟩ := hrel
    have hll : l'.length = 5 := by
      rcases hl' with h | h
      · rw [h]; exact HCl.out
      · rw [h.1]; exact HCCl.out
    have HLL := Aside0.mk hll
    have HOR := Aside0.mk hl'
    have hc := (blk_cell H.out.row 1).trans (u64s_get l' 1 (by omega))
    have htop := topOf_eq H.out hll
    clear hll hl'
    by_cases hlt : l'.getD 1 0 < 67108864
    · have HN : Aside0 (norm l = l') := ⟨by
        unfold norm
        rcases HOR.out with h | h
        · rw [← h, if_pos hlt]
        · rw [if_neg h.2, h.1]⟩
      generalize l'.getD 1 0 = y at hc hlt
      have t1 : decide (0 < (y : Int) / 67108864) = false := decide_eq_false (by omega)
      have t2 : decide (0 < y / 67108864) = false := decide_eq_false (by omega)
      clear htop
      go_upto_region 4 with (fail)
      have HLN := Aside0.mk (HN.out ▸ norm_lim HL.out)
      have HW : Aside0 (whole l = if (moreT l' 4).getD 4 0 / 67108864 = 0 then l' else (moreT l' 4).set 4 ((moreT l' 4).getD 4 0 % 67108864)) := ⟨by unfold whole; rw [HN.out]⟩
      have hc0 := (blk_cell H.out.row 0).trans (u64s_get l' 0 (by rw [HLL.out]; omega))
      have hm0 : moreT l' 0 = l'.set 0 (l'.getD 0 0 + 5) := rfl
      have hz0 := HLN.out.lt 0
      generalize hzz : l'.getD 0 0 = z at hc0 hm0 hz0
      have HZ := Aside0.mk hzz
      clear hzz
      have hz : (z : Int) + 5 ≤ 18446744073709551615 := by omega
      have HM0 := Aside0.mk hm0
      have hgt := blk_lt H.out.ret
      have HQ : Aside0 (WM w wr.heap.size l' l' (wr.alloc (.cells (u64s l') 84))) := ⟨⟨⟨below_alloc H.out.below _, blk_alloc H.out.row _, blk_alloc H.out.ret _⟩, hgt, blk_new _ _⟩⟩
      clear t1 t2 hc hlt hm0 hz0 hgt HN HOR hc0
      go_upto_region 5 with (first | (with_reducible refine wpList_load_row rfl 84 (.tmp 1) rfl w.heap.size rfl 84 (u64s l') (0, 0) _ H.out.row Try.underlying84 rfl (HI.out l' HLL.out) ?_) | (refine wpList_store_row rfl 84 (.tmp 3) (.tmp 13) rfl wr.heap.size (u64s l') rfl rfl 84 _ (heap_alloc_last _ _) (HI.out l' HLL.out) (by rw [u64s_size, HLL.out]; rfl) (u64s_one _) ?_; rw [World.setRow_alloc_new]))
      simp only [Act.put, List.setIfInBounds_toArray, List.set_cons_zero, List.set_cons_succ]
      obtain ⟨hk0, hf0⟩ := HQ.out.cell 0 (by rw [HLL.out]; omega)
      have hz0 : l'.getD 0 0 = z := HZ.out
      rw [hz0] at hk0
      clear hz0
      have HQ1 : Aside0 (WM w wr.heap.size l' (moreT l' 0) ((wr.alloc (.cells (u64s l') 84)).setCell ⟨wr.heap.size, 0, none⟩ (.int .u64 ((z : Int) + 5)))) := ⟨by rw [HM0.out]; exact HQ.out.set 0 (z + 5)⟩
      generalize wr.alloc (.cells (u64s l') 84) = W1 at HQ HQ1 hk0 hf0 ⊢
      generalize wr.heap.size = g at HQ HQ1 hk0 hf0 ⊢
      go_wp2_with (fail)
      clear hk0 hf0 HQ hz
      go_loopw [18] (fun i wr => ∃ k : Nat, k ≤ 4 ∧ i = .int .i64 k ∧ Aside0 (WM w g l' (moreT l' k) wr)) (fun i _ => 4 - (intOf i).toNat)
      case atStart => exact ⟨0, by omega, rfl, HQ1⟩
      case round =>
        clear HQ1 H
        obtain ⟨k, hk, rfl, H⟩ := hrel
        by_cases hlt : k < 4
        · obtain ⟨bx, by_⟩ := more_lt HLN.out k hlt
          have hml : (moreT l' k).length = 5 := by rw [moreT_length, HLL.out]
          obtain ⟨hx, hfx⟩ := H.out.cell k (by omega)
          obtain ⟨hy, hfy⟩ := H.out.cell (k + 1) (by omega)
          have hs : moreT l' (k + 1) = ((moreT l' k).set (k + 1) ((moreT l' k).getD (k + 1) 0 + (moreT l' k).getD k 0 / 67108864)).set k ((moreT l' k).getD k 0 % 67108864) := rfl
          generalize (moreT l' k).getD k 0 = x at hx hs bx
          generalize (moreT l' k).getD (k + 1) 0 = y at hy hs by_
          have HS := Aside0.mk hs
          have i5 : (k : Int) < 5 := by omega
          clear hs hml
          go_wp2_with (fail)
          have hm := mask26 x (by omega)
          have b1 : (y : Int) + (x : Int) / 67108864 ≤ 18446744073709551615 := by omega
          have e1 : IntKind.u64.wrap ((y : Int) + (x : Int) / 67108864) = (y : Int) + (x : Int) / 67108864 := wraps_u64 _ (by omega) (by omega)
          have i1 : IntKind.i64.wrap ((k : Int) + 1) = (k : Int) + 1 := IntWalk.i64_in _ (by omega)
          have i2 : ((k : Int) + 1).toNat = k + 1 := by omega
          have i3 : 0 ≤ (k : Int) + 1 := by omega
          have i4 : (k : Int) + 1 < 5 := by omega
          clear bx by_
          refine wp_still_tail 10 (by kernel_rfl) (by kernel_rfl) ?_
          intro W hW
          have g1 : W.cell? ⟨g, k, none⟩ = some (.int .u64 (x : Int)) := by rw [hW]; exact hx
          have g2 : W.cell? ⟨g, k + 1, none⟩ = some (.int .u64 (y : Int)) := by rw [hW]; exact hy
          have gf : W.frozen? ⟨g, k, none⟩ = false := by rw [hW]; exact hfx
          have gf2 : W.frozen? ⟨g, k + 1, none⟩ = false := by rw [hW]; exact hfy
          have HW : Aside0 (WM w g l' (moreT l' k) W) := ⟨by rw [hW]; exact H.out.drew⟩
          clear hW hx hy hfx hfy H
          simp only [List.take_succ_cons, List.take_zero, List.drop_succ_cons, List.drop_zero]
          repeat still_step
          refine wpStill_nil ?_
          clear i1
          go_wp2
          refine ⟨⟨k + 1, by omega, by go_num, ?_⟩, by simp [intOf]; omega⟩
          rw [HS.out]
          exact ⟨(HW.out.set (k + 1) (y + x / 67108864)).set k (x % 67108864)⟩
        · obtain rfl : k = 4 := by omega
          clear hlt hk
          rw [show ((4 : Nat) : Int) = 4 from rfl]
          have hml : (moreT l' 4).length = 5 := by rw [moreT_length, HLL.out]
          obtain ⟨hx, hfx⟩ := H.out.cell 4 (by omega)
          have bx := more_top HLN.out
          have HML := Aside0.mk hml
          have HOUT := Aside0.mk H.out.n.ret
          have HBE := Aside0.mk H.out.n.below
          clear hml
          generalize (moreT l' 4).getD 4 0 = x at hx bx HW
          by_cases h0 : x / 67108864 = 0
          · have t1 : ((x : Int) / 67108864 == 0) = true := by rw [beq_iff_eq]; omega
            have HE : Aside0 (whole l = l') := ⟨by rw [HW.out, if_pos h0]⟩
            have HRL := HLL
            clear h0
            go_wp2_with (first | (with_reducible refine wpList_load_row rfl 84 (.tmp 1) rfl w.heap.size rfl 84 (u64s l') (0, 0) _ H.out.n.row Try.underlying84 rfl (HI.out _ HRL.out) ?_) | (refine wpList_store_row rfl 84 (.tmp 2) (.tmp 41) rfl (w.heap.size + 1) (u64s l') rfl rfl 84 _ HOUT.out (HI.out _ HRL.out) (by rw [u64s_size, u64s_size, HRL.out]; rfl) (u64s_one _) ?_))
            exact bodyPost_ret (results_cell_row Try.results80 _ _ (w.heap.size + 1) 84 (u64s l') (0, 0) _ rfl (setRow_heap _ _ _ _ _ _ HOUT.out) Try.underlying84 rfl (HI.out _ HRL.out)) rfl ⟨by rw [HE.out], below_setRow HBE.out (by omega) _⟩
          · have t1 : ((x : Int) / 67108864 == 0) = false := by rw [beq_eq_false_iff_ne]; omega
            have HE : Aside0 (whole l = (moreT l' 4).set 4 (x % 67108864)) := ⟨by rw [HW.out, if_neg h0]⟩
            have hm := mask26 x (by omega)
            clear h0 bx
            go_upto_region 15 with (fail)
            have HX : Aside0 (WM w g l' ((moreT l' 4).set 4 (x % 67108864)) (wr.setCell ⟨g, 4, none⟩ (.int .u64 ((x : Int) % 67108864)))) := ⟨H.out.set 4 (x % 67108864)⟩
            generalize wr.setCell ⟨g, 4, none⟩ (.int .u64 ((x : Int) % 67108864)) = W2 at HX ⊢
            have HRL := Aside0.mk (show ((moreT l' 4).set 4 (x % 67108864)).length = 5 by rw [List.length_set]; exact HML.out)
            generalize (moreT l' 4).set 4 (x % 67108864) = r at HX HRL HE
            have HOUT := Aside0.mk HX.out.n.ret
            have HBE := Aside0.mk HX.out.n.below
            clear hm hx hfx t1
            go_wp2_with (first | (with_reducible refine wpList_load_row rfl 84 (.tmp 3) rfl g rfl 84 (u64s r) (0, 0) _ HX.out.row Try.underlying84 rfl (HI.out _ HRL.out) ?_) | (refine wpList_store_row rfl 84 (.tmp 2) (.tmp 46) rfl (w.heap.size + 1) (u64s r) rfl rfl 84 _ HOUT.out (HI.out _ HRL.out) (by rw [u64s_size, u64s_size, HRL.out]; rfl) (u64s_one _) ?_))
            exact bodyPost_ret (results_cell_row Try.results80 _ _ (w.heap.size + 1) 84 (u64s r) (0, 0) _ rfl (setRow_heap _ _ _ _ _ _ HOUT.out) Try.underlying84 rfl (HI.out _ HRL.out)) rfl ⟨by rw [HE.out], below_setRow HBE.out (by omega) _⟩
    · have h' : l' = car l := by
        rcases HOR.out with h | h
        · exact h
        · exact absurd (h.1 ▸ car2_lim HL.out h.2) hlt
      subst h'
      have HT := Aside0.mk htop
      have HLT := Aside0.mk hlt
      generalize (car l).getD 1 0 = y at hc hlt
      have t1 : decide (0 < (y : Int) / 67108864) = true := decide_eq_true (by omega)
      have t2 : decide (0 < y / 67108864) = true := decide_eq_true (by omega)
      clear htop
      go_wp2_with (with_reducible refine wpList_load_row rfl 84 (.tmp 1) rfl w.heap.size rfl 84 (u64s (car l)) (0, 0) _ H.out.row Try.underlying84 rfl (HI.out (car l) HCl.out) ?_)
      refine (HC2.out _).mono ?_
      rintro e w5 ⟨rfl, hb⟩
      have H := Aside0.mk (H.out.then_ hb)
      clear hb
      go_wp2_with (refine wpList_store_row rfl 84 (.tmp 1) (.tmp 12) rfl w.heap.size (u64s (car (car l))) rfl rfl 84 _ H.out.row (HI.out (car (car l)) HCCl.out) (by rw [u64s_size, u64s_size, HCl.out, HCCl.out]) (u64s_one _) ?_)
      have H := Aside0.mk (H.out.put (car (car l)))
      generalize w5.setRow w.heap.size (u64s (car (car l))) = W1 at H ⊢
      go_roundw
      case rel =>
        repeat apply Exists.intro
        exact ⟨⟨car (car l), Or.inr ⟨rfl, hlt⟩, H⟩, rfl⟩
      case measure =>
        rw [topOf_eq H.out HCCl.out, HT.out]
        have := car2_lim HL.out HLT.out
        have := HLT.out
        omega
end Go.Proofs.Ytmablneefndedaa.Pr
end

section
namespace Go.Proofs.Ytmablneefndedaa.Pr
open Go.RowKit Go.Deep Go.Proofs.YtmablneefndedaaW.PrintWords Go.Proofs.YtmablneefndedaaW.PrintLast Go.Proofs.YtmablneefndedaaW.PrintMore
set_option maxHeartbeats 2000000
set_option linter.unusedVariables false
set_option linter.unusedSimpArgs false
def cyT (V : Nat) (S : List Nat) : Nat → Nat
  | 0 => 0
  | k + 1 => (cyT V S k + (V / 256 ^ k % 256 + S.getD k 0)) / 256
def outT (V : Nat) (S : List Nat) (k : Nat) : List Nat := (List.range 16).map fun i => if i < k then (cyT V S i + (V / 256 ^ i % 256 + S.getD i 0)) % 256 else 0
theorem cyT_le (V : Nat) (S : List Nat) (hS : ∀ i, S.getD i 0 < 256) : ∀ k, cyT V S k ≤ 1
  | 0 => by simp [cyT]
  | k + 1 => by
    have := cyT_le V S hS k
    have := hS k
    have : V / 256 ^ k % 256 < 256 := Nat.mod_lt _ (by decide)
    simp only [cyT]
    omega
theorem outT_length (V : Nat) (S : List Nat) (k : Nat) : (outT V S k).length = 16 := by simp [outT]
theorem outT_lt (V : Nat) (S : List Nat) (k : Nat) : ∀ x ∈ outT V S k, x < 256 := by
  intro x hx
  unfold outT at hx
  rw [List.mem_map] at hx
  obtain ⟨i, _, rfl⟩ := hx
  split
  · exact Nat.mod_lt _ (by decide)
  · decide
theorem outT_set (V : Nat) (S : List Nat) (k : Nat) (hk : k < 16) : (outT V S k).set k ((cyT V S k + (V / 256 ^ k % 256 + S.getD k 0)) % 256) = outT V S (k + 1) := by
  apply List.ext_getElem
  · simp [outT]
  · intro j h1 h2
    rw [List.getElem_set]
    simp only [outT, List.getElem_map, List.getElem_range]
    by_cases e : k = j
    · subst e; rw [if_pos rfl, if_pos (by omega)]
    · rw [if_neg e]
      by_cases h : j < k
      · rw [if_pos h, if_pos (by omega)]
      · rw [if_neg h, if_neg (by omega)]
theorem and255_64 (a : Nat) (ha : a < 18446744073709551616) : bits .and .u64 (a : Int) 255 = ((a % 256 : Nat) : Int) := by
  have := and64 a 255 ha (by decide)
  rw [show ((255 : Nat) : Int) = 255 from rfl] at this
  rw [this, show (255 : Nat) = 2 ^ 8 - 1 from rfl, Nat.and_two_pow_sub_one_eq_mod]
theorem bitx (c d p q i : Nat) (hq : q = 2 ^ i) (hpq : p * q = 67108864) (hc : c < 67108864) (hd : d < 67108864) :
    bits .and .u64 (bits .or .u64 ((c : Int) / (p : Int)) (IntKind.u64.wrap ((d : Int) * (q : Int)))) 255 = (((c / p + d * q) % 256 : Nat) : Int) := by
  have hp0 : 0 < p := Nat.pos_of_ne_zero (by rintro rfl; simp at hpq)
  have hq0 : 0 < q := Nat.pos_of_ne_zero (by rintro rfl; simp at hpq)
  have h1 : c / p < q := by
    rw [Nat.div_lt_iff_lt_mul hp0, Nat.mul_comm]; omega
  have hqM : q ≤ 67108864 := by
    rw [← hpq]; exact Nat.le_mul_of_pos_left q hp0
  have h2 : d * q ≤ 67108864 * 67108864 := Nat.mul_le_mul (Nat.le_of_lt hd) hqM
  have e1 : ((c : Int) / (p : Int)) = ((c / p : Nat) : Int) := by simp
  have e2 : (d : Int) * (q : Int) = ((d * q : Nat) : Int) := by simp
  rw [e2, wraps_u64 _ (Int.natCast_nonneg _) (by omega), e1, or64 _ _ (by omega) (by omega)]
  have h3 : c / p ||| d * q = c / p + d * q := by
    rw [Nat.or_comm, Nat.mul_comm d q, hq, ← Nat.two_pow_add_eq_or_of_lt (by rw [← hq]; exact h1) d, ← hq]
    omega
  rw [h3, and255_64 _ (by omega)]
theorem bitl (c p : Nat) (hp : 0 < p) (hc : c < 67108864) : bits .and .u64 ((c : Int) / (p : Int)) 255 = (((c / p) % 256 : Nat) : Int) := by
  have e1 : ((c : Int) / (p : Int)) = ((c / p : Nat) : Int) := by simp
  have : c / p ≤ c := Nat.div_le_self _ _
  rw [e1, and255_64 _ (by omega)]
theorem sum_w (x y c_ : Nat) (hx : x < 256) (hy : y < 256) (hc : c_ ≤ 1) : IntKind.u64.wrap ((c_ : Int) + IntKind.u64.wrap ((x : Int) + IntKind.u64.wrap (y : Int))) = ((c_ + (x + y) : Nat) : Int) := by
  rw [wraps_u64 (y : Int) (by omega) (by omega), wraps_u64 ((x : Int) + (y : Int)) (by omega) (by omega), wraps_u64 _ (by omega) (by omega)]
  omega
theorem dg_0 (a b c d e : Nat) (h0 : a < 67108864) (h1 : b < 67108864) (h2 : c < 67108864) (h3 : d < 67108864) (h4 : e < 67108864) : (a / 1 + b * 67108864) % 256 = lv [a, b, c, d, e] / 256 ^ 0 % 256 := by
  rw [show (256 : Nat) ^ 0 = 1 from rfl]
  simp only [lv]
  omega
theorem dg_1 (a b c d e : Nat) (h0 : a < 67108864) (h1 : b < 67108864) (h2 : c < 67108864) (h3 : d < 67108864) (h4 : e < 67108864) : (a / 256 + b * 262144) % 256 = lv [a, b, c, d, e] / 256 ^ 1 % 256 := by
  rw [show (256 : Nat) ^ 1 = 256 from rfl]
  simp only [lv]
  omega
theorem dg_2 (a b c d e : Nat) (h0 : a < 67108864) (h1 : b < 67108864) (h2 : c < 67108864) (h3 : d < 67108864) (h4 : e < 67108864) : (a / 65536 + b * 1024) % 256 = lv [a, b, c, d, e] / 256 ^ 2 % 256 := by
  rw [show (256 : Nat) ^ 2 = 65536 from rfl]
  simp only [lv]
  omega
theorem dg_3 (a b c d e : Nat) (h0 : a < 67108864) (h1 : b < 67108864) (h2 : c < 67108864) (h3 : d < 67108864) (h4 : e < 67108864) : (a / 16777216 + b * 4) % 256 = lv [a, b, c, d, e] / 256 ^ 3 % 256 := by
  rw [show (256 : Nat) ^ 3 = 16777216 from rfl]
  simp only [lv]
  omega
theorem dg_4 (a b c d e : Nat) (h0 : a < 67108864) (h1 : b < 67108864) (h2 : c < 67108864) (h3 : d < 67108864) (h4 : e < 67108864) : (b / 64 + c * 1048576) % 256 = lv [a, b, c, d, e] / 256 ^ 4 % 256 := by
  rw [show (256 : Nat) ^ 4 = 4294967296 from rfl]
  simp only [lv]
  omega
theorem dg_5 (a b c d e : Nat) (h0 : a < 67108864) (h1 : b < 67108864) (h2 : c < 67108864) (h3 : d < 67108864) (h4 : e < 67108864) : (b / 16384 + c * 4096) % 256 = lv [a, b, c, d, e] / 256 ^ 5 % 256 := by
  rw [show (256 : Nat) ^ 5 = 1099511627776 from rfl]
  simp only [lv]
  omega
theorem dg_6 (a b c d e : Nat) (h0 : a < 67108864) (h1 : b < 67108864) (h2 : c < 67108864) (h3 : d < 67108864) (h4 : e < 67108864) : (b / 4194304 + c * 16) % 256 = lv [a, b, c, d, e] / 256 ^ 6 % 256 := by
  rw [show (256 : Nat) ^ 6 = 281474976710656 from rfl]
  simp only [lv]
  omega
theorem dg_7 (a b c d e : Nat) (h0 : a < 67108864) (h1 : b < 67108864) (h2 : c < 67108864) (h3 : d < 67108864) (h4 : e < 67108864) : (c / 16 + d * 4194304) % 256 = lv [a, b, c, d, e] / 256 ^ 7 % 256 := by
  rw [show (256 : Nat) ^ 7 = 72057594037927936 from rfl]
  simp only [lv]
  omega
theorem dg_8 (a b c d e : Nat) (h0 : a < 67108864) (h1 : b < 67108864) (h2 : c < 67108864) (h3 : d < 67108864) (h4 : e < 67108864) : (c / 4096 + d * 16384) % 256 = lv [a, b, c, d, e] / 256 ^ 8 % 256 := by
  rw [show (256 : Nat) ^ 8 = 18446744073709551616 from rfl]
  simp only [lv]
  omega
theorem dg_9 (a b c d e : Nat) (h0 : a < 67108864) (h1 : b < 67108864) (h2 : c < 67108864) (h3 : d < 67108864) (h4 : e < 67108864) : (c / 1048576 + d * 64) % 256 = lv [a, b, c, d, e] / 256 ^ 9 % 256 := by
  rw [show (256 : Nat) ^ 9 = 4722366482869645213696 from rfl]
  simp only [lv]
  omega
theorem dg_10 (a b c d e : Nat) (h0 : a < 67108864) (h1 : b < 67108864) (h2 : c < 67108864) (h3 : d < 67108864) (h4 : e < 67108864) : (d / 4 + e * 16777216) % 256 = lv [a, b, c, d, e] / 256 ^ 10 % 256 := by
  rw [show (256 : Nat) ^ 10 = 1208925819614629174706176 from rfl]
  simp only [lv]
  omega
theorem dg_11 (a b c d e : Nat) (h0 : a < 67108864) (h1 : b < 67108864) (h2 : c < 67108864) (h3 : d < 67108864) (h4 : e < 67108864) : (d / 1024 + e * 65536) % 256 = lv [a, b, c, d, e] / 256 ^ 11 % 256 := by
  rw [show (256 : Nat) ^ 11 = 309485009821345068724781056 from rfl]
  simp only [lv]
  omega
theorem dg_12 (a b c d e : Nat) (h0 : a < 67108864) (h1 : b < 67108864) (h2 : c < 67108864) (h3 : d < 67108864) (h4 : e < 67108864) : (d / 262144 + e * 256) % 256 = lv [a, b, c, d, e] / 256 ^ 12 % 256 := by
  rw [show (256 : Nat) ^ 12 = 79228162514264337593543950336 from rfl]
  simp only [lv]
  omega
theorem dg_13 (a b c d e : Nat) (h0 : a < 67108864) (h1 : b < 67108864) (h2 : c < 67108864) (h3 : d < 67108864) (h4 : e < 67108864) : e / 1 % 256 = lv [a, b, c, d, e] / 256 ^ 13 % 256 := by
  rw [show (256 : Nat) ^ 13 = 20282409603651670423947251286016 from rfl]
  simp only [lv]
  omega
theorem dg_14 (a b c d e : Nat) (h0 : a < 67108864) (h1 : b < 67108864) (h2 : c < 67108864) (h3 : d < 67108864) (h4 : e < 67108864) : e / 256 % 256 = lv [a, b, c, d, e] / 256 ^ 14 % 256 := by
  rw [show (256 : Nat) ^ 14 = 5192296858534827628530496329220096 from rfl]
  simp only [lv]
  omega
theorem dg_15 (a b c d e : Nat) (h0 : a < 67108864) (h1 : b < 67108864) (h2 : c < 67108864) (h3 : d < 67108864) (h4 : e < 67108864) : e / 65536 % 256 = lv [a, b, c, d, e] / 256 ^ 15 % 256 := by
  rw [show (256 : Nat) ^ 15 = 1329227995784915872903807060280344576 from rfl]
  simp only [lv]
  omega
structure ND (w : World) (l o : List Nat) (W : World) : Prop where
  below : Below w.heap.size w W
  row : W.heap[w.heap.size]? = some (.cells (u64s l) 84 (0, 0))
  out : W.heap[w.heap.size + 1]? = some (.cells (u8s o) 108 (0, 0))
theorem ND.set {w W : World} {l o : List Nat} (h : ND w l o W) (k v : Nat) : ND w l (o.set k v) (W.setCell ⟨w.heap.size + 1, k, none⟩ (.int .u8 (v : Int))) :=
  ⟨below_set h.below (by omega), blk_far h.row (by simp) _, blk_put h.out k _ (u8s_set o k v)⟩
set_option maxRecDepth 100000 in
theorem number_bytes_calls (a b c d e : Nat) (s : ByteArray) (w : World) (h : Lim 67108864 [a, b, c, d, e]) (hs : 16 ≤ s.size) :
    Calls Try.prog 81 #[.agg (u64s [a, b, c, d, e]), .string s] w fun E w' => E = .returned (.string (txt (outT (lv [a, b, c, d, e]) (bys s) 16))) ∧ Below w.heap.size w w' := by
  have l0 : a < 67108864 := h.lt 0
  have l1 : b < 67108864 := h.lt 1
  have l2 : c < 67108864 := h.lt 2
  have l3 : d < 67108864 := h.lt 3
  have l4 : e < 67108864 := h.lt 4
  have D0 := Aside0.mk (dg_0 a b c d e l0 l1 l2 l3 l4)
  have D1 := Aside0.mk (dg_1 a b c d e l0 l1 l2 l3 l4)
  have D2 := Aside0.mk (dg_2 a b c d e l0 l1 l2 l3 l4)
  have D3 := Aside0.mk (dg_3 a b c d e l0 l1 l2 l3 l4)
  have D4 := Aside0.mk (dg_4 a b c d e l0 l1 l2 l3 l4)
  have D5 := Aside0.mk (dg_5 a b c d e l0 l1 l2 l3 l4)
  have D6 := Aside0.mk (dg_6 a b c d e l0 l1 l2 l3 l4)
  have D7 := Aside0.mk (dg_7 a b c d e l0 l1 l2 l3 l4)
  have D8 := Aside0.mk (dg_8 a b c d e l0 l1 l2 l3 l4)
  have D9 := Aside0.mk (dg_9 a b c d e l0 l1 l2 l3 l4)
  have D10 := Aside0.mk (dg_10 a b c d e l0 l1 l2 l3 l4)
  have D11 := Aside0.mk (dg_11 a b c d e l0 l1 l2 l3 l4)
  have D12 := Aside0.mk (dg_12 a b c d e l0 l1 l2 l3 l4)
  have D13 := Aside0.mk (dg_13 a b c d e l0 l1 l2 l3 l4)
  have D14 := Aside0.mk (dg_14 a b c d e l0 l1 l2 l3 l4)
  have D15 := Aside0.mk (dg_15 a b c d e l0 l1 l2 l3 l4)
  have LL := Aside0.mk (And.intro l0 (And.intro l1 (And.intro l2 (And.intro l3 l4))))
  clear h l0 l1 l2 l3 l4
  generalize hV : lv [a, b, c, d, e] = V at *
  have HV := Aside0.mk hV
  clear hV
  have HB := Aside0.mk (bys_lt s)
  have HC := Aside0.mk (cyT_le V (bys s) (bys_lt s))
  have HG : Aside0 (∀ i (hi : i < s.size), (s[i]'hi).toNat = (bys s).getD i 0) := ⟨fun i hi => by
    have hl : i < s.data.toList.length := by rw [data_length]; exact hi
    simp only [bys, List.getD_eq_getElem?_getD, List.getElem?_map, List.getElem?_eq_getElem hl, Option.map_some, Option.getD_some]
    rfl⟩
  go_enter Try.func81, Try.ntmps81
  go_wp2_with (fail)
  have H : Aside0 (ND w [a, b, c, d, e] (outT V (bys s) 0) ((w.alloc (.cells (u64s [a, b, c, d, e]) 84)).alloc (.cells (u8s (List.replicate 16 0)) 108))) := ⟨⟨below_alloc (below_alloc (Below.refl _ _) _) _, blk_alloc (blk_new _ _) _, by
    have := blk_new (w.alloc (.cells (u64s [a, b, c, d, e]) 84)) (.cells (u8s (List.replicate 16 0)) 108)
    rwa [show (w.alloc (.cells (u64s [a, b, c, d, e]) 84)).heap.size = w.heap.size + 1 by simp] at this⟩⟩
  go_loopw [6, 10] (fun cy i wr => ∃ k : Nat, k ≤ 16 ∧ i = .int .i64 k ∧ cy = .int .u64 (cyT V (bys s) k : Nat) ∧ Aside0 (ND w [a, b, c, d, e] (outT V (bys s) k) wr)) (fun _ i _ => 16 - (intOf i).toNat)
  case atStart => exact ⟨0, by omega, rfl, rfl, H⟩
  case round =>
    clear H
    obtain ⟨k, hk, rfl, rfl, H⟩ := hrel
    by_cases hlt : k < 16
    · have h0 : wr.cell? ⟨w.heap.size, 0, none⟩ = some (.int .u64 (a : Int)) := blk_cell H.out.row 0
      have h1 : wr.cell? ⟨w.heap.size, 1, none⟩ = some (.int .u64 (b : Int)) := blk_cell H.out.row 1
      have h2 : wr.cell? ⟨w.heap.size, 2, none⟩ = some (.int .u64 (c : Int)) := blk_cell H.out.row 2
      have h3 : wr.cell? ⟨w.heap.size, 3, none⟩ = some (.int .u64 (d : Int)) := blk_cell H.out.row 3
      have h4 : wr.cell? ⟨w.heap.size, 4, none⟩ = some (.int .u64 (e : Int)) := blk_cell H.out.row 4
      have h5 := (blk_cell H.out.out k).trans (u8s_get _ k (by rw [outT_length]; exact hlt))
      have h6 := blk_frozen H.out.out k
      generalize (outT V (bys s) k).getD k 0 = o at h5
      have HS := Aside0.mk (outT_set V (bys s) k hlt)
      have hy := HB.out k
      have hc := HC.out k
      have hn : cyT V (bys s) (k + 1) = (cyT V (bys s) k + (V / 256 ^ k % 256 + (bys s).getD k 0)) / 256 := rfl
      have hg := HG.out k (by omega)
      have hx : V / 256 ^ k % 256 < 256 := Nat.mod_lt _ (by decide)
      generalize hX : V / 256 ^ k % 256 = X at HS hn hx
      generalize (bys s).getD k 0 = y at HS hn hy hg
      generalize cyT V (bys s) k = cy at HS hn hc ⊢
      have HSUM := Aside0.mk (sum_w X y cy hx hy hc)
      have HX := Aside0.mk hX
      have HN := Aside0.mk hn
      have HGK := Aside0.mk hg
      clear hX hn hy hc hx hg
      have HK : Aside0 (k = 0 ∨ k = 1 ∨ k = 2 ∨ k = 3 ∨ k = 4 ∨ k = 5 ∨ k = 6 ∨ k = 7 ∨ k = 8 ∨ k = 9 ∨ k = 10 ∨ k = 11 ∨ k = 12 ∨ k = 13 ∨ k = 14 ∨ k = 15) := ⟨by omega⟩
      rcases HK.out with h | h | h | h | h | h | h | h | h | h | h | h | h | h | h | h
      · subst h
        have E : bits .and .u64 (bits .or .u64 (a : Int) (IntKind.u64.wrap ((b : Int) * 67108864))) 255 = (X : Int) := by
          have := bitx a b 1 67108864 26 rfl rfl LL.out.1 LL.out.2.1
          rw [show ((1 : Nat) : Int) = 1 from rfl, Int.ediv_one] at this
          rw [← HX.out, ← D0.out]
          exact this
        have HE := Aside0.mk E
        clear E HK
        rw [show ((0 : Nat) : Int) = 0 from rfl]
        go_wp2
        simp only [HGK.out]
        rw [HE.out, HSUM.out]
        refine ⟨⟨1, by omega, rfl, ?_, ?_⟩, by simp [intOf]⟩
        · rw [HN.out]; rfl
        · rw [← HS.out]
          exact ⟨H.out.set 0 _⟩
      · subst h
        have E : bits .and .u64 (bits .or .u64 ((a : Int) / 256) (IntKind.u64.wrap ((b : Int) * 262144))) 255 = (X : Int) := by
          have := bitx a b 256 262144 18 rfl rfl LL.out.1 LL.out.2.1
          skip
          rw [← HX.out, ← D1.out]
          exact this
        have HE := Aside0.mk E
        clear E HK
        rw [show ((1 : Nat) : Int) = 1 from rfl]
        go_wp2
        simp only [HGK.out]
        rw [HE.out, HSUM.out]
        refine ⟨⟨2, by omega, rfl, ?_, ?_⟩, by simp [intOf]⟩
        · rw [HN.out]; rfl
        · rw [← HS.out]
          exact ⟨H.out.set 1 _⟩
      · subst h
        have E : bits .and .u64 (bits .or .u64 ((a : Int) / 65536) (IntKind.u64.wrap ((b : Int) * 1024))) 255 = (X : Int) := by
          have := bitx a b 65536 1024 10 rfl rfl LL.out.1 LL.out.2.1
          skip
          rw [← HX.out, ← D2.out]
          exact this
        have HE := Aside0.mk E
        clear E HK
        rw [show ((2 : Nat) : Int) = 2 from rfl]
        go_wp2
        simp only [HGK.out]
        rw [HE.out, HSUM.out]
        refine ⟨⟨3, by omega, rfl, ?_, ?_⟩, by simp [intOf]⟩
        · rw [HN.out]; rfl
        · rw [← HS.out]
          exact ⟨H.out.set 2 _⟩
      · subst h
        have E : bits .and .u64 (bits .or .u64 ((a : Int) / 16777216) (IntKind.u64.wrap ((b : Int) * 4))) 255 = (X : Int) := by
          have := bitx a b 16777216 4 2 rfl rfl LL.out.1 LL.out.2.1
          skip
          rw [← HX.out, ← D3.out]
          exact this
        have HE := Aside0.mk E
        clear E HK
        rw [show ((3 : Nat) : Int) = 3 from rfl]
        go_wp2
        simp only [HGK.out]
        rw [HE.out, HSUM.out]
        refine ⟨⟨4, by omega, rfl, ?_, ?_⟩, by simp [intOf]⟩
        · rw [HN.out]; rfl
        · rw [← HS.out]
          exact ⟨H.out.set 3 _⟩
      · subst h
        have E : bits .and .u64 (bits .or .u64 ((b : Int) / 64) (IntKind.u64.wrap ((c : Int) * 1048576))) 255 = (X : Int) := by
          have := bitx b c 64 1048576 20 rfl rfl LL.out.2.1 LL.out.2.2.1
          skip
          rw [← HX.out, ← D4.out]
          exact this
        have HE := Aside0.mk E
        clear E HK
        rw [show ((4 : Nat) : Int) = 4 from rfl]
        go_wp2
        simp only [HGK.out]
        rw [HE.out, HSUM.out]
        refine ⟨⟨5, by omega, rfl, ?_, ?_⟩, by simp [intOf]⟩
        · rw [HN.out]; rfl
        · rw [← HS.out]
          exact ⟨H.out.set 4 _⟩
      · subst h
        have E : bits .and .u64 (bits .or .u64 ((b : Int) / 16384) (IntKind.u64.wrap ((c : Int) * 4096))) 255 = (X : Int) := by
          have := bitx b c 16384 4096 12 rfl rfl LL.out.2.1 LL.out.2.2.1
          skip
          rw [← HX.out, ← D5.out]
          exact this
        have HE := Aside0.mk E
        clear E HK
        rw [show ((5 : Nat) : Int) = 5 from rfl]
        go_wp2
        simp only [HGK.out]
        rw [HE.out, HSUM.out]
        refine ⟨⟨6, by omega, rfl, ?_, ?_⟩, by simp [intOf]⟩
        · rw [HN.out]; rfl
        · rw [← HS.out]
          exact ⟨H.out.set 5 _⟩
      · subst h
        have E : bits .and .u64 (bits .or .u64 ((b : Int) / 4194304) (IntKind.u64.wrap ((c : Int) * 16))) 255 = (X : Int) := by
          have := bitx b c 4194304 16 4 rfl rfl LL.out.2.1 LL.out.2.2.1
          skip
          rw [← HX.out, ← D6.out]
          exact this
        have HE := Aside0.mk E
        clear E HK
        rw [show ((6 : Nat) : Int) = 6 from rfl]
        go_wp2
        simp only [HGK.out]
        rw [HE.out, HSUM.out]
        refine ⟨⟨7, by omega, rfl, ?_, ?_⟩, by simp [intOf]⟩
        · rw [HN.out]; rfl
        · rw [← HS.out]
          exact ⟨H.out.set 6 _⟩
      · subst h
        have E : bits .and .u64 (bits .or .u64 ((c : Int) / 16) (IntKind.u64.wrap ((d : Int) * 4194304))) 255 = (X : Int) := by
          have := bitx c d 16 4194304 22 rfl rfl LL.out.2.2.1 LL.out.2.2.2.1
          skip
          rw [← HX.out, ← D7.out]
          exact this
        have HE := Aside0.mk E
        clear E HK
        rw [show ((7 : Nat) : Int) = 7 from rfl]
        go_wp2
        simp only [HGK.out]
        rw [HE.out, HSUM.out]
        refine ⟨⟨8, by omega, rfl, ?_, ?_⟩, by simp [intOf]⟩
        · rw [HN.out]; rfl
        · rw [← HS.out]
          exact ⟨H.out.set 7 _⟩
      · subst h
        have E : bits .and .u64 (bits .or .u64 ((c : Int) / 4096) (IntKind.u64.wrap ((d : Int) * 16384))) 255 = (X : Int) := by
          have := bitx c d 4096 16384 14 rfl rfl LL.out.2.2.1 LL.out.2.2.2.1
          skip
          rw [← HX.out, ← D8.out]
          exact this
        have HE := Aside0.mk E
        clear E HK
        rw [show ((8 : Nat) : Int) = 8 from rfl]
        go_wp2
        simp only [HGK.out]
        rw [HE.out, HSUM.out]
        refine ⟨⟨9, by omega, rfl, ?_, ?_⟩, by simp [intOf]⟩
        · rw [HN.out]; rfl
        · rw [← HS.out]
          exact ⟨H.out.set 8 _⟩
      · subst h
        have E : bits .and .u64 (bits .or .u64 ((c : Int) / 1048576) (IntKind.u64.wrap ((d : Int) * 64))) 255 = (X : Int) := by
          have := bitx c d 1048576 64 6 rfl rfl LL.out.2.2.1 LL.out.2.2.2.1
          skip
          rw [← HX.out, ← D9.out]
          exact this
        have HE := Aside0.mk E
        clear E HK
        rw [show ((9 : Nat) : Int) = 9 from rfl]
        go_wp2
        simp only [HGK.out]
        rw [HE.out, HSUM.out]
        refine ⟨⟨10, by omega, rfl, ?_, ?_⟩, by simp [intOf]⟩
        · rw [HN.out]; rfl
        · rw [← HS.out]
          exact ⟨H.out.set 9 _⟩
      · subst h
        have E : bits .and .u64 (bits .or .u64 ((d : Int) / 4) (IntKind.u64.wrap ((e : Int) * 16777216))) 255 = (X : Int) := by
          have := bitx d e 4 16777216 24 rfl rfl LL.out.2.2.2.1 LL.out.2.2.2.2
          skip
          rw [← HX.out, ← D10.out]
          exact this
        have HE := Aside0.mk E
        clear E HK
        rw [show ((10 : Nat) : Int) = 10 from rfl]
        go_wp2
        simp only [HGK.out]
        rw [HE.out, HSUM.out]
        refine ⟨⟨11, by omega, rfl, ?_, ?_⟩, by simp [intOf]⟩
        · rw [HN.out]; rfl
        · rw [← HS.out]
          exact ⟨H.out.set 10 _⟩
      · subst h
        have E : bits .and .u64 (bits .or .u64 ((d : Int) / 1024) (IntKind.u64.wrap ((e : Int) * 65536))) 255 = (X : Int) := by
          have := bitx d e 1024 65536 16 rfl rfl LL.out.2.2.2.1 LL.out.2.2.2.2
          skip
          rw [← HX.out, ← D11.out]
          exact this
        have HE := Aside0.mk E
        clear E HK
        rw [show ((11 : Nat) : Int) = 11 from rfl]
        go_wp2
        simp only [HGK.out]
        rw [HE.out, HSUM.out]
        refine ⟨⟨12, by omega, rfl, ?_, ?_⟩, by simp [intOf]⟩
        · rw [HN.out]; rfl
        · rw [← HS.out]
          exact ⟨H.out.set 11 _⟩
      · subst h
        have E : bits .and .u64 (bits .or .u64 ((d : Int) / 262144) (IntKind.u64.wrap ((e : Int) * 256))) 255 = (X : Int) := by
          have := bitx d e 262144 256 8 rfl rfl LL.out.2.2.2.1 LL.out.2.2.2.2
          skip
          rw [← HX.out, ← D12.out]
          exact this
        have HE := Aside0.mk E
        clear E HK
        rw [show ((12 : Nat) : Int) = 12 from rfl]
        go_wp2
        simp only [HGK.out]
        rw [HE.out, HSUM.out]
        refine ⟨⟨13, by omega, rfl, ?_, ?_⟩, by simp [intOf]⟩
        · rw [HN.out]; rfl
        · rw [← HS.out]
          exact ⟨H.out.set 12 _⟩
      · subst h
        have E : bits .and .u64 (e : Int) 255 = (X : Int) := by
          have := bitl e 1 (by decide) LL.out.2.2.2.2
          rw [show ((1 : Nat) : Int) = 1 from rfl, Int.ediv_one] at this
          rw [← HX.out, ← D13.out]
          exact this
        have HE := Aside0.mk E
        clear E HK
        rw [show ((13 : Nat) : Int) = 13 from rfl]
        go_wp2
        simp only [HGK.out]
        rw [HE.out, HSUM.out]
        refine ⟨⟨14, by omega, rfl, ?_, ?_⟩, by simp [intOf]⟩
        · rw [HN.out]; rfl
        · rw [← HS.out]
          exact ⟨H.out.set 13 _⟩
      · subst h
        have E : bits .and .u64 ((e : Int) / 256) 255 = (X : Int) := by
          have := bitl e 256 (by decide) LL.out.2.2.2.2
          skip
          rw [← HX.out, ← D14.out]
          exact this
        have HE := Aside0.mk E
        clear E HK
        rw [show ((14 : Nat) : Int) = 14 from rfl]
        go_wp2
        simp only [HGK.out]
        rw [HE.out, HSUM.out]
        refine ⟨⟨15, by omega, rfl, ?_, ?_⟩, by simp [intOf]⟩
        · rw [HN.out]; rfl
        · rw [← HS.out]
          exact ⟨H.out.set 14 _⟩
      · subst h
        have E : bits .and .u64 ((e : Int) / 65536) 255 = (X : Int) := by
          have := bitl e 65536 (by decide) LL.out.2.2.2.2
          skip
          rw [← HX.out, ← D15.out]
          exact this
        have HE := Aside0.mk E
        clear E HK
        rw [show ((15 : Nat) : Int) = 15 from rfl]
        go_wp2
        simp only [HGK.out]
        rw [HE.out, HSUM.out]
        refine ⟨⟨16, by omega, rfl, ?_, ?_⟩, by simp [intOf]⟩
        · rw [HN.out]; rfl
        · rw [← HS.out]
          exact ⟨H.out.set 15 _⟩
    · obtain rfl : k = 16 := by omega
      clear hlt hk
      rw [show ((16 : Nat) : Int) = 16 from rfl]
      have HOl := Aside0.mk (outT_length V (bys s) 16)
      generalize hO : outT V (bys s) 16 = O at *
      have HO := Aside0.mk hO
      clear hO
      have hcv := conv_u8s wr 28 9 5 108 (w.heap.size + 1) O 16 Try.underlying28 Try.underlying5 Try.underlying9 H.out.out HOl.out 16
      go_wp2
      go_ret
      exact ⟨by first | (rw [HO.out]; done) | (rw [HO.out]; rfl), H.out.below⟩
end Go.Proofs.Ytmablneefndedaa.Pr
end

section
namespace Go.Proofs.Ytmablneefndedaa.Pr
open Go.RowKit Go.Deep Go.Proofs.YtmablneefndedaaW.PrintWords Go.Proofs.YtmablneefndedaaW.PrintLast Go.Proofs.YtmablneefndedaaW.PrintMore
set_option maxHeartbeats 2000000
set_option linter.unusedVariables false
set_option linter.unusedSimpArgs false
theorem or_shl (x y q i : Nat) (hq : q = 2 ^ i) (hi : q ≤ 67108864) (hx : x < q) (hy : y < 256) :
    bits .or .u64 (x : Int) (IntKind.u64.wrap (IntKind.u64.wrap (y : Int) * (q : Int))) = ((x + y * q : Nat) : Int) := by
  have h2 : y * q ≤ 256 * 67108864 := Nat.mul_le_mul (by omega) hi
  rw [wraps_u64 (y : Int) (by omega) (by omega), show (y : Int) * (q : Int) = ((y * q : Nat) : Int) by simp, wraps_u64 _ (Int.natCast_nonneg _) (by omega), or64 _ _ (by omega) (by omega)]
  have h3 : x ||| y * q = x + y * q := by
    rw [Nat.or_comm, Nat.mul_comm y q, hq, ← Nat.two_pow_add_eq_or_of_lt (by rw [← hq]; exact hx) y, ← hq]
    omega
  rw [h3]
theorem or_zero64 (x : Nat) (hx : x < 18446744073709551616) : bits .or .u64 0 (x : Int) = (x : Int) := by
  have := or64 0 x (by decide) hx
  rw [show ((0 : Nat) : Int) = 0 from rfl] at this
  rw [this]
  simp
theorem rd_0 (V y : Nat) (hV : V < 1) (hy : y < 256) : limbs (V + 1 * y) = (limbs V).set 0 (V % 67108864 + y * 1) := by
  simp only [limbs, List.set_cons_succ, List.set_cons_zero, List.cons.injEq, and_true]
  refine ⟨?_, ?_, ?_, ?_, ?_⟩ <;> omega
theorem rd_1 (V y : Nat) (hV : V < 256) (hy : y < 256) : limbs (V + 256 * y) = (limbs V).set 0 (V % 67108864 + y * 256) := by
  simp only [limbs, List.set_cons_succ, List.set_cons_zero, List.cons.injEq, and_true]
  refine ⟨?_, ?_, ?_, ?_, ?_⟩ <;> omega
theorem rd_2 (V y : Nat) (hV : V < 65536) (hy : y < 256) : limbs (V + 65536 * y) = (limbs V).set 0 (V % 67108864 + y * 65536) := by
  simp only [limbs, List.set_cons_succ, List.set_cons_zero, List.cons.injEq, and_true]
  refine ⟨?_, ?_, ?_, ?_, ?_⟩ <;> omega
theorem rd_3 (V y : Nat) (hV : V < 16777216) (hy : y < 256) : limbs (V + 16777216 * y) = ((limbs V).set 1 ((V % 67108864 + y * 16777216) / 67108864)).set 0 ((V % 67108864 + y * 16777216) % 67108864) := by
  simp only [limbs, List.set_cons_succ, List.set_cons_zero, List.cons.injEq, and_true]
  refine ⟨?_, ?_, ?_, ?_, ?_⟩ <;> omega
theorem rd_4 (V y : Nat) (hV : V < 4294967296) (hy : y < 256) : limbs (V + 4294967296 * y) = (limbs V).set 1 (V / 67108864 % 67108864 + y * 64) := by
  simp only [limbs, List.set_cons_succ, List.set_cons_zero, List.cons.injEq, and_true]
  refine ⟨?_, ?_, ?_, ?_, ?_⟩ <;> omega
theorem rd_5 (V y : Nat) (hV : V < 1099511627776) (hy : y < 256) : limbs (V + 1099511627776 * y) = (limbs V).set 1 (V / 67108864 % 67108864 + y * 16384) := by
  simp only [limbs, List.set_cons_succ, List.set_cons_zero, List.cons.injEq, and_true]
  refine ⟨?_, ?_, ?_, ?_, ?_⟩ <;> omega
theorem rd_6 (V y : Nat) (hV : V < 281474976710656) (hy : y < 256) : limbs (V + 281474976710656 * y) = ((limbs V).set 2 ((V / 67108864 % 67108864 + y * 4194304) / 67108864)).set 1 ((V / 67108864 % 67108864 + y * 4194304) % 67108864) := by
  simp only [limbs, List.set_cons_succ, List.set_cons_zero, List.cons.injEq, and_true]
  refine ⟨?_, ?_, ?_, ?_, ?_⟩ <;> omega
theorem rd_7 (V y : Nat) (hV : V < 72057594037927936) (hy : y < 256) : limbs (V + 72057594037927936 * y) = (limbs V).set 2 (V / 4503599627370496 % 67108864 + y * 16) := by
  simp only [limbs, List.set_cons_succ, List.set_cons_zero, List.cons.injEq, and_true]
  refine ⟨?_, ?_, ?_, ?_, ?_⟩ <;> omega
theorem rd_8 (V y : Nat) (hV : V < 18446744073709551616) (hy : y < 256) : limbs (V + 18446744073709551616 * y) = (limbs V).set 2 (V / 4503599627370496 % 67108864 + y * 4096) := by
  simp only [limbs, List.set_cons_succ, List.set_cons_zero, List.cons.injEq, and_true]
  refine ⟨?_, ?_, ?_, ?_, ?_⟩ <;> omega
theorem rd_9 (V y : Nat) (hV : V < 4722366482869645213696) (hy : y < 256) : limbs (V + 4722366482869645213696 * y) = ((limbs V).set 3 ((V / 4503599627370496 % 67108864 + y * 1048576) / 67108864)).set 2 ((V / 4503599627370496 % 67108864 + y * 1048576) % 67108864) := by
  simp only [limbs, List.set_cons_succ, List.set_cons_zero, List.cons.injEq, and_true]
  refine ⟨?_, ?_, ?_, ?_, ?_⟩ <;> omega
theorem rd_10 (V y : Nat) (hV : V < 1208925819614629174706176) (hy : y < 256) : limbs (V + 1208925819614629174706176 * y) = (limbs V).set 3 (V / 302231454903657293676544 % 67108864 + y * 4) := by
  simp only [limbs, List.set_cons_succ, List.set_cons_zero, List.cons.injEq, and_true]
  refine ⟨?_, ?_, ?_, ?_, ?_⟩ <;> omega
theorem rd_11 (V y : Nat) (hV : V < 309485009821345068724781056) (hy : y < 256) : limbs (V + 309485009821345068724781056 * y) = (limbs V).set 3 (V / 302231454903657293676544 % 67108864 + y * 1024) := by
  simp only [limbs, List.set_cons_succ, List.set_cons_zero, List.cons.injEq, and_true]
  refine ⟨?_, ?_, ?_, ?_, ?_⟩ <;> omega
theorem rd_12 (V y : Nat) (hV : V < 79228162514264337593543950336) (hy : y < 256) : limbs (V + 79228162514264337593543950336 * y) = (limbs V).set 3 (V / 302231454903657293676544 % 67108864 + y * 262144) := by
  simp only [limbs, List.set_cons_succ, List.set_cons_zero, List.cons.injEq, and_true]
  refine ⟨?_, ?_, ?_, ?_, ?_⟩ <;> omega
theorem rd_13 (V y : Nat) (hV : V < 20282409603651670423947251286016) (hy : y < 256) : limbs (V + 20282409603651670423947251286016 * y) = (limbs V).set 4 (V / 20282409603651670423947251286016 % 67108864 + y * 1) := by
  simp only [limbs, List.set_cons_succ, List.set_cons_zero, List.cons.injEq, and_true]
  refine ⟨?_, ?_, ?_, ?_, ?_⟩ <;> omega
theorem rd_14 (V y : Nat) (hV : V < 5192296858534827628530496329220096) (hy : y < 256) : limbs (V + 5192296858534827628530496329220096 * y) = (limbs V).set 4 (V / 20282409603651670423947251286016 % 67108864 + y * 256) := by
  simp only [limbs, List.set_cons_succ, List.set_cons_zero, List.cons.injEq, and_true]
  refine ⟨?_, ?_, ?_, ?_, ?_⟩ <;> omega
theorem rd_15 (V y : Nat) (hV : V < 1329227995784915872903807060280344576) (hy : y < 256) : limbs (V + 1329227995784915872903807060280344576 * y) = (limbs V).set 4 (V / 20282409603651670423947251286016 % 67108864 + y * 65536) := by
  simp only [limbs, List.set_cons_succ, List.set_cons_zero, List.cons.injEq, and_true]
  refine ⟨?_, ?_, ?_, ?_, ?_⟩ <;> omega
theorem rd_16 (V y : Nat) (hV : V < 340282366920938463463374607431768211456) (hy : y < 4) : limbs (V + 340282366920938463463374607431768211456 * y) = (limbs V).set 4 (V / 20282409603651670423947251286016 % 67108864 + y * 16777216) := by
  simp only [limbs, List.set_cons_succ, List.set_cons_zero, List.cons.injEq, and_true]
  refine ⟨?_, ?_, ?_, ?_, ?_⟩ <;> omega
set_option maxRecDepth 100000 in
theorem poly_read_calls (s : ByteArray) (w : World) (hs : s.size ≤ 17) (h17 : (bys s).getD 16 0 < 4) :
    Calls Try.prog 77 #[.string s] w fun E w' => E = .returned (.agg (u64s (limbs (dv (bys s))))) ∧ Below w.heap.size w w' := by
  have hi : (Try.prog.info? 84).map (·.size) = some 5 := by kernel_rfl
  have HI := Aside0.mk hi
  have HB := Aside0.mk (bys_lt s)
  have H17 := Aside0.mk h17
  have HLn := Aside0.mk (bys_length s)
  have HG : Aside0 (∀ i (hi : i < s.size), (s[i]'hi).toNat = (bys s).getD i 0) := ⟨fun i hi => by
    have hl : i < s.data.toList.length := by rw [data_length]; exact hi
    simp only [bys, List.getD_eq_getElem?_getD, List.getElem?_map, List.getElem?_eq_getElem hl, Option.map_some, Option.getD_some]
    rfl⟩
  have HDL : Aside0 (∀ k, k ≤ s.size → dv ((bys s).take k) < 256 ^ k) := ⟨fun k hk => by
    have := dv_lt ((bys s).take k) (fun i => by
      rw [List.getD_eq_getElem?_getD, List.getElem?_take]
      split
      · have := bys_lt s i; rwa [List.getD_eq_getElem?_getD] at this
      · simp)
    rwa [List.length_take, Nat.min_eq_left (by rw [bys_length]; exact hk)] at this⟩
  have HDS : Aside0 (∀ k, dv ((bys s).take (k + 1)) = dv ((bys s).take k) + 256 ^ k * (bys s).getD k 0) := ⟨fun k => dv_take_succ _ k⟩
  clear hi h17
  go_enter Try.func77, Try.ntmps77
  go_wp2_with (fail)
  have H : Aside0 (PN w [List.replicate 5 0, limbs (dv ((bys s).take 0))] ((w.alloc (.cells (u64s (List.replicate 5 0)) 84)).alloc (.cells (u64s (List.replicate 5 0)) 84))) := ⟨by rw [show limbs (dv ((bys s).take 0)) = List.replicate 5 0 by simp [limbs, dv]]; exact ((PN.nil w).push _).push _⟩
  go_loopw [9] (fun i wr => ∃ k : Nat, k ≤ s.size ∧ i = .int .i64 k ∧ Aside0 (PN w [List.replicate 5 0, limbs (dv ((bys s).take k))] wr)) (fun i _ => s.size - (intOf i).toNat)
  case atStart => exact ⟨0, by omega, rfl, H⟩
  case round =>
    clear H
    obtain ⟨k, hk, rfl, H⟩ := hrel
    by_cases hlt : k < s.size
    · have HK : Aside0 (k = 0 ∨ k = 1 ∨ k = 2 ∨ k = 3 ∨ k = 4 ∨ k = 5 ∨ k = 6 ∨ k = 7 ∨ k = 8 ∨ k = 9 ∨ k = 10 ∨ k = 11 ∨ k = 12 ∨ k = 13 ∨ k = 14 ∨ k = 15 ∨ k = 16) := ⟨by omega⟩
      have hy := HB.out k
      have hV := HDL.out k hk
      have hg := HG.out k hlt
      have hds := HDS.out k
      have h16 : k = 16 → (bys s).getD k 0 < 4 := fun e => e ▸ H17.out
      generalize (bys s).getD k 0 = y at hy hg hds h16
      generalize dv ((bys s).take k) = V at H hV hds
      have HDSk := Aside0.mk hds
      clear hds
      rcases HK.out with h | h | h | h | h | h | h | h | h | h | h | h | h | h | h | h | h
      · as_aux_lemma =>
        subst h
        clear HK
        have hV2 : V < 1 := hV
        have hy2 : y < 256 := hy
        have hR := rd_0 V y hV2 hy2
        have hx0 : V % 67108864 < 1 := by omega
        have hc := (H.out.cell 1 0 rfl (by show _ < 5; decide)).1
        have hf := (H.out.cell 1 0 rfl (by show _ < 5; decide)).2
        have hcv : (limbs V).getD 0 0 = V % 67108864 := rfl
        rw [hcv] at hc
        clear hcv
        generalize V % 67108864 = X0 at hR hx0 hc
        have E : bits .or .u64 (X0 : Int) (IntKind.u64.wrap (IntKind.u64.wrap (y : Int))) = ((X0 + y * 1 : Nat) : Int) := by
          have := or_shl X0 y 1 0 rfl (by decide) hx0 hy
          rw [show ((1 : Nat) : Int) = 1 from rfl, Int.mul_one, wraps_u64 (y : Int) (by omega) (by omega), wraps_u64 (y : Int) (by omega) (by omega)] at this
          rw [wraps_u64 (y : Int) (by omega) (by omega), wraps_u64 (y : Int) (by omega) (by omega), this, Nat.mul_one]
        have hXb : X0 + y * 1 < 67108864 := by omega
        generalize X0 + y * 1 = X at E hR hXb
        have HR := Aside0.mk hR
        have HV' : Aside0 (dv (List.take (0 + 1) (bys s)) = V + 1 * y) := ⟨HDSk.out⟩
        have t0 : decide ((0 : Int) < (s.size : Int)) = true := decide_eq_true (by omega)
        have hle : 0 < s.size := hlt
        have t00 : (0 : Int) < (s.size : Int) := by omega
        clear hV hV2 hR hx0 hy hy2 h16 HDSk
        simp only [adr] at hc hf
        rw [show ((0 : Nat) : Int) = 0 from rfl]
        have t1 : decide (0 < (X : Int) / 67108864) = false := decide_eq_false (by omega)
        have t2 : decide (0 < X / 67108864) = false := decide_eq_false (by omega)
        clear hXb
        go_wp2_with (fail)
        refine wp_still_tail 13 (by kernel_rfl) (by kernel_rfl) ?_
        intro W hW
        have g1 : W.cell? ⟨w.heap.size + 1, 0, none⟩ = some (.int .u64 (X0 : Int)) := by rw [hW]; exact hc
        have gf : W.frozen? ⟨w.heap.size + 1, 0, none⟩ = false := by rw [hW]; exact hf
        have HW : Aside0 (PN w [List.replicate 5 0, limbs V] W) := ⟨by rw [hW]; exact H.out.drew⟩
        have wj : IntKind.i64.wrap 0 = 0 := by decide +kernel
        have wr_ : IntKind.i64.wrap 0 = 0 := by decide +kernel
        clear hW hc hf
        simp only [List.take_succ_cons, List.take_zero, List.drop_succ_cons, List.drop_zero]
        repeat still_step
        refine wpStill_nil ?_
        clear wj wr_
        go_wp2
        refine ⟨⟨1, by omega, rfl, ?_⟩, by simp [intOf]; omega⟩
        rw [HV'.out, HR.out]
        exact ⟨HW.out.set 1 0 X rfl⟩
      · as_aux_lemma =>
        subst h
        clear HK
        have hV2 : V < 256 := hV
        have hy2 : y < 256 := hy
        have hR := rd_1 V y hV2 hy2
        have hx0 : V % 67108864 < 256 := by omega
        have hc := (H.out.cell 1 0 rfl (by show _ < 5; decide)).1
        have hf := (H.out.cell 1 0 rfl (by show _ < 5; decide)).2
        have hcv : (limbs V).getD 0 0 = V % 67108864 := rfl
        rw [hcv] at hc
        clear hcv
        generalize V % 67108864 = X0 at hR hx0 hc
        have E : bits .or .u64 (X0 : Int) (IntKind.u64.wrap (IntKind.u64.wrap (y : Int) * 256)) = ((X0 + y * 256 : Nat) : Int) := by
          have := or_shl X0 y 256 8 rfl (by decide) hx0 hy
          exact this
        have hXb : X0 + y * 256 < 67108864 := by omega
        generalize X0 + y * 256 = X at E hR hXb
        have HR := Aside0.mk hR
        have HV' : Aside0 (dv (List.take (1 + 1) (bys s)) = V + 256 * y) := ⟨HDSk.out⟩
        have t0 : decide ((1 : Int) < (s.size : Int)) = true := decide_eq_true (by omega)
        have hle : 1 < s.size := hlt
        have t00 : (1 : Int) < (s.size : Int) := by omega
        clear hV hV2 hR hx0 hy hy2 h16 HDSk
        simp only [adr] at hc hf
        rw [show ((1 : Nat) : Int) = 1 from rfl]
        have t1 : decide (0 < (X : Int) / 67108864) = false := decide_eq_false (by omega)
        have t2 : decide (0 < X / 67108864) = false := decide_eq_false (by omega)
        clear hXb
        go_wp2_with (fail)
        refine wp_still_tail 13 (by kernel_rfl) (by kernel_rfl) ?_
        intro W hW
        have g1 : W.cell? ⟨w.heap.size + 1, 0, none⟩ = some (.int .u64 (X0 : Int)) := by rw [hW]; exact hc
        have gf : W.frozen? ⟨w.heap.size + 1, 0, none⟩ = false := by rw [hW]; exact hf
        have HW : Aside0 (PN w [List.replicate 5 0, limbs V] W) := ⟨by rw [hW]; exact H.out.drew⟩
        have wj : IntKind.i64.wrap 0 = 0 := by decide +kernel
        have wr_ : IntKind.i64.wrap 8 = 8 := by decide +kernel
        clear hW hc hf
        simp only [List.take_succ_cons, List.take_zero, List.drop_succ_cons, List.drop_zero]
        repeat still_step
        refine wpStill_nil ?_
        clear wj wr_
        go_wp2
        refine ⟨⟨2, by omega, rfl, ?_⟩, by simp [intOf]; omega⟩
        rw [HV'.out, HR.out]
        exact ⟨HW.out.set 1 0 X rfl⟩
      · as_aux_lemma =>
        subst h
        clear HK
        have hV2 : V < 65536 := hV
        have hy2 : y < 256 := hy
        have hR := rd_2 V y hV2 hy2
        have hx0 : V % 67108864 < 65536 := by omega
        have hc := (H.out.cell 1 0 rfl (by show _ < 5; decide)).1
        have hf := (H.out.cell 1 0 rfl (by show _ < 5; decide)).2
        have hcv : (limbs V).getD 0 0 = V % 67108864 := rfl
        rw [hcv] at hc
        clear hcv
        generalize V % 67108864 = X0 at hR hx0 hc
        have E : bits .or .u64 (X0 : Int) (IntKind.u64.wrap (IntKind.u64.wrap (y : Int) * 65536)) = ((X0 + y * 65536 : Nat) : Int) := by
          have := or_shl X0 y 65536 16 rfl (by decide) hx0 hy
          exact this
        have hXb : X0 + y * 65536 < 67108864 := by omega
        generalize X0 + y * 65536 = X at E hR hXb
        have HR := Aside0.mk hR
        have HV' : Aside0 (dv (List.take (2 + 1) (bys s)) = V + 65536 * y) := ⟨HDSk.out⟩
        have t0 : decide ((2 : Int) < (s.size : Int)) = true := decide_eq_true (by omega)
        have hle : 2 < s.size := hlt
        have t00 : (2 : Int) < (s.size : Int) := by omega
        clear hV hV2 hR hx0 hy hy2 h16 HDSk
        simp only [adr] at hc hf
        rw [show ((2 : Nat) : Int) = 2 from rfl]
        have t1 : decide (0 < (X : Int) / 67108864) = false := decide_eq_false (by omega)
        have t2 : decide (0 < X / 67108864) = false := decide_eq_false (by omega)
        clear hXb
        go_wp2_with (fail)
        refine wp_still_tail 13 (by kernel_rfl) (by kernel_rfl) ?_
        intro W hW
        have g1 : W.cell? ⟨w.heap.size + 1, 0, none⟩ = some (.int .u64 (X0 : Int)) := by rw [hW]; exact hc
        have gf : W.frozen? ⟨w.heap.size + 1, 0, none⟩ = false := by rw [hW]; exact hf
        have HW : Aside0 (PN w [List.replicate 5 0, limbs V] W) := ⟨by rw [hW]; exact H.out.drew⟩
        have wj : IntKind.i64.wrap 0 = 0 := by decide +kernel
        have wr_ : IntKind.i64.wrap 16 = 16 := by decide +kernel
        clear hW hc hf
        simp only [List.take_succ_cons, List.take_zero, List.drop_succ_cons, List.drop_zero]
        repeat still_step
        refine wpStill_nil ?_
        clear wj wr_
        go_wp2
        refine ⟨⟨3, by omega, rfl, ?_⟩, by simp [intOf]; omega⟩
        rw [HV'.out, HR.out]
        exact ⟨HW.out.set 1 0 X rfl⟩
      · as_aux_lemma =>
        subst h
        clear HK
        have hV2 : V < 16777216 := hV
        have hy2 : y < 256 := hy
        have hR := rd_3 V y hV2 hy2
        have hx0 : V % 67108864 < 16777216 := by omega
        have hc := (H.out.cell 1 0 rfl (by show _ < 5; decide)).1
        have hf := (H.out.cell 1 0 rfl (by show _ < 5; decide)).2
        have hcv : (limbs V).getD 0 0 = V % 67108864 := rfl
        rw [hcv] at hc
        clear hcv
        have hc1 := (H.out.cell 1 1 rfl (by show _ < 5; decide)).1
        have hf1 := (H.out.cell 1 1 rfl (by show _ < 5; decide)).2
        have hcv1 : (limbs V).getD 1 0 = V / 67108864 % 67108864 := rfl
        have hz1 : V / 67108864 % 67108864 = 0 := by omega
        rw [hcv1, hz1] at hc1
        clear hcv1
        generalize V % 67108864 = X0 at hR hx0 hc
        have E : bits .or .u64 (X0 : Int) (IntKind.u64.wrap (IntKind.u64.wrap (y : Int) * 16777216)) = ((X0 + y * 16777216 : Nat) : Int) := by
          have := or_shl X0 y 16777216 24 rfl (by decide) hx0 hy
          exact this
        have hXb : X0 + y * 16777216 < 17179869184 := by omega
        generalize X0 + y * 16777216 = X at E hR hXb
        have HR := Aside0.mk hR
        have HV' : Aside0 (dv (List.take (3 + 1) (bys s)) = V + 16777216 * y) := ⟨HDSk.out⟩
        have t0 : decide ((3 : Int) < (s.size : Int)) = true := decide_eq_true (by omega)
        have hle : 3 < s.size := hlt
        have t00 : (3 : Int) < (s.size : Int) := by omega
        clear hV hV2 hR hx0 hy hy2 h16 HDSk
        simp only [adr] at hc hf hc1 hf1
        rw [show ((3 : Nat) : Int) = 3 from rfl]
        by_cases hov : 67108864 ≤ X
        · as_aux_lemma =>
          have t1 : decide (0 < (X : Int) / 67108864) = true := decide_eq_true (by omega)
          have t2 : decide (0 < X / 67108864) = true := decide_eq_true (by omega)
          have hm := mask26 X (by omega)
          have ho := or_zero64 (X / 67108864) (by omega)
          rw [show ((X / 67108864 : Nat) : Int) = (X : Int) / 67108864 by simp] at ho
          clear hXb hz1
          go_wp2_with (fail)
          refine wp_still_tail 13 (by kernel_rfl) (by kernel_rfl) ?_
          intro W hW
          have g1 : W.cell? ⟨w.heap.size + 1, 0, none⟩ = some (.int .u64 (X0 : Int)) := by rw [hW]; exact hc
          have gf : W.frozen? ⟨w.heap.size + 1, 0, none⟩ = false := by rw [hW]; exact hf
          have HW : Aside0 (PN w [List.replicate 5 0, limbs V] W) := ⟨by rw [hW]; exact H.out.drew⟩
          have wj : IntKind.i64.wrap 0 = 0 := by decide +kernel
          have wr_ : IntKind.i64.wrap 24 = 24 := by decide +kernel
          have g3 : W.cell? ⟨w.heap.size + 1, 1, none⟩ = some (.int .u64 0) := by rw [hW]; exact hc1
          have gf3 : W.frozen? ⟨w.heap.size + 1, 1, none⟩ = false := by rw [hW]; exact hf1
          clear hW hc hf hc1 hf1
          simp only [List.take_succ_cons, List.take_zero, List.drop_succ_cons, List.drop_zero]
          repeat still_step
          refine wpStill_nil ?_
          clear wj wr_
          go_wp2
          refine ⟨⟨4, by omega, rfl, ?_⟩, by simp [intOf]; omega⟩
          rw [HV'.out, HR.out]
          have h1 := (HW.out.set 1 0 X rfl)
          have h2 := (h1.set 1 1 (X / 67108864) (l := (limbs V).set 0 X) rfl)
          have h3 := (h2.set 1 0 (X % 67108864) (l := ((limbs V).set 0 X).set 1 (X / 67108864)) rfl)
          exact ⟨h3⟩
        · as_aux_lemma =>
          have t1 : decide (0 < (X : Int) / 67108864) = false := decide_eq_false (by omega)
          have t2 : decide (0 < X / 67108864) = false := decide_eq_false (by omega)
          have hX0 : X / 67108864 = 0 := by omega
          have hX1 : X % 67108864 = X := by omega
          have HX0 := Aside0.mk hX0
          have HX1 := Aside0.mk hX1
          have hlz : (limbs V).set 1 0 = limbs V := by rw [← hz1]; rfl
          have HLZ := Aside0.mk hlz
          clear hXb hX0 hX1 hlz hz1
          go_wp2_with (fail)
          refine wp_still_tail 13 (by kernel_rfl) (by kernel_rfl) ?_
          intro W hW
          have g1 : W.cell? ⟨w.heap.size + 1, 0, none⟩ = some (.int .u64 (X0 : Int)) := by rw [hW]; exact hc
          have gf : W.frozen? ⟨w.heap.size + 1, 0, none⟩ = false := by rw [hW]; exact hf
          have HW : Aside0 (PN w [List.replicate 5 0, limbs V] W) := ⟨by rw [hW]; exact H.out.drew⟩
          have wj : IntKind.i64.wrap 0 = 0 := by decide +kernel
          have wr_ : IntKind.i64.wrap 24 = 24 := by decide +kernel
          have g3 : W.cell? ⟨w.heap.size + 1, 1, none⟩ = some (.int .u64 0) := by rw [hW]; exact hc1
          have gf3 : W.frozen? ⟨w.heap.size + 1, 1, none⟩ = false := by rw [hW]; exact hf1
          clear hW hc hf hc1 hf1
          simp only [List.take_succ_cons, List.take_zero, List.drop_succ_cons, List.drop_zero]
          repeat still_step
          refine wpStill_nil ?_
          clear wj wr_
          go_wp2
          refine ⟨⟨4, by omega, rfl, ?_⟩, by simp [intOf]; omega⟩
          rw [HV'.out, HR.out]
          rw [HX0.out, HX1.out, HLZ.out]
          exact ⟨HW.out.set 1 0 X rfl⟩
      · as_aux_lemma =>
        subst h
        clear HK
        have hV2 : V < 4294967296 := hV
        have hy2 : y < 256 := hy
        have hR := rd_4 V y hV2 hy2
        have hx0 : V / 67108864 % 67108864 < 64 := by omega
        have hc := (H.out.cell 1 1 rfl (by show _ < 5; decide)).1
        have hf := (H.out.cell 1 1 rfl (by show _ < 5; decide)).2
        have hcv : (limbs V).getD 1 0 = V / 67108864 % 67108864 := rfl
        rw [hcv] at hc
        clear hcv
        generalize V / 67108864 % 67108864 = X0 at hR hx0 hc
        have E : bits .or .u64 (X0 : Int) (IntKind.u64.wrap (IntKind.u64.wrap (y : Int) * 64)) = ((X0 + y * 64 : Nat) : Int) := by
          have := or_shl X0 y 64 6 rfl (by decide) hx0 hy
          exact this
        have hXb : X0 + y * 64 < 67108864 := by omega
        generalize X0 + y * 64 = X at E hR hXb
        have HR := Aside0.mk hR
        have HV' : Aside0 (dv (List.take (4 + 1) (bys s)) = V + 4294967296 * y) := ⟨HDSk.out⟩
        have t0 : decide ((4 : Int) < (s.size : Int)) = true := decide_eq_true (by omega)
        have hle : 4 < s.size := hlt
        have t00 : (4 : Int) < (s.size : Int) := by omega
        clear hV hV2 hR hx0 hy hy2 h16 HDSk
        simp only [adr] at hc hf
        rw [show ((4 : Nat) : Int) = 4 from rfl]
        have t1 : decide (0 < (X : Int) / 67108864) = false := decide_eq_false (by omega)
        have t2 : decide (0 < X / 67108864) = false := decide_eq_false (by omega)
        clear hXb
        go_wp2_with (fail)
        refine wp_still_tail 13 (by kernel_rfl) (by kernel_rfl) ?_
        intro W hW
        have g1 : W.cell? ⟨w.heap.size + 1, 1, none⟩ = some (.int .u64 (X0 : Int)) := by rw [hW]; exact hc
        have gf : W.frozen? ⟨w.heap.size + 1, 1, none⟩ = false := by rw [hW]; exact hf
        have HW : Aside0 (PN w [List.replicate 5 0, limbs V] W) := ⟨by rw [hW]; exact H.out.drew⟩
        have wj : IntKind.i64.wrap 1 = 1 := by decide +kernel
        have wr_ : IntKind.i64.wrap 6 = 6 := by decide +kernel
        clear hW hc hf
        simp only [List.take_succ_cons, List.take_zero, List.drop_succ_cons, List.drop_zero]
        repeat still_step
        refine wpStill_nil ?_
        clear wj wr_
        go_wp2
        refine ⟨⟨5, by omega, rfl, ?_⟩, by simp [intOf]; omega⟩
        rw [HV'.out, HR.out]
        exact ⟨HW.out.set 1 1 X rfl⟩
      · as_aux_lemma =>
        subst h
        clear HK
        have hV2 : V < 1099511627776 := hV
        have hy2 : y < 256 := hy
        have hR := rd_5 V y hV2 hy2
        have hx0 : V / 67108864 % 67108864 < 16384 := by omega
        have hc := (H.out.cell 1 1 rfl (by show _ < 5; decide)).1
        have hf := (H.out.cell 1 1 rfl (by show _ < 5; decide)).2
        have hcv : (limbs V).getD 1 0 = V / 67108864 % 67108864 := rfl
        rw [hcv] at hc
        clear hcv
        generalize V / 67108864 % 67108864 = X0 at hR hx0 hc
        have E : bits .or .u64 (X0 : Int) (IntKind.u64.wrap (IntKind.u64.wrap (y : Int) * 16384)) = ((X0 + y * 16384 : Nat) : Int) := by
          have := or_shl X0 y 16384 14 rfl (by decide) hx0 hy
          exact this
        have hXb : X0 + y * 16384 < 67108864 := by omega
        generalize X0 + y * 16384 = X at E hR hXb
        have HR := Aside0.mk hR
        have HV' : Aside0 (dv (List.take (5 + 1) (bys s)) = V + 1099511627776 * y) := ⟨HDSk.out⟩
        have t0 : decide ((5 : Int) < (s.size : Int)) = true := decide_eq_true (by omega)
        have hle : 5 < s.size := hlt
        have t00 : (5 : Int) < (s.size : Int) := by omega
        clear hV hV2 hR hx0 hy hy2 h16 HDSk
        simp only [adr] at hc hf
        rw [show ((5 : Nat) : Int) = 5 from rfl]
        have t1 : decide (0 < (X : Int) / 67108864) = false := decide_eq_false (by omega)
        have t2 : decide (0 < X / 67108864) = false := decide_eq_false (by omega)
        clear hXb
        go_wp2_with (fail)
        refine wp_still_tail 13 (by kernel_rfl) (by kernel_rfl) ?_
        intro W hW
        have g1 : W.cell? ⟨w.heap.size + 1, 1, none⟩ = some (.int .u64 (X0 : Int)) := by rw [hW]; exact hc
        have gf : W.frozen? ⟨w.heap.size + 1, 1, none⟩ = false := by rw [hW]; exact hf
        have HW : Aside0 (PN w [List.replicate 5 0, limbs V] W) := ⟨by rw [hW]; exact H.out.drew⟩
        have wj : IntKind.i64.wrap 1 = 1 := by decide +kernel
        have wr_ : IntKind.i64.wrap 14 = 14 := by decide +kernel
        clear hW hc hf
        simp only [List.take_succ_cons, List.take_zero, List.drop_succ_cons, List.drop_zero]
        repeat still_step
        refine wpStill_nil ?_
        clear wj wr_
        go_wp2
        refine ⟨⟨6, by omega, rfl, ?_⟩, by simp [intOf]; omega⟩
        rw [HV'.out, HR.out]
        exact ⟨HW.out.set 1 1 X rfl⟩
      · as_aux_lemma =>
        subst h
        clear HK
        have hV2 : V < 281474976710656 := hV
        have hy2 : y < 256 := hy
        have hR := rd_6 V y hV2 hy2
        have hx0 : V / 67108864 % 67108864 < 4194304 := by omega
        have hc := (H.out.cell 1 1 rfl (by show _ < 5; decide)).1
        have hf := (H.out.cell 1 1 rfl (by show _ < 5; decide)).2
        have hcv : (limbs V).getD 1 0 = V / 67108864 % 67108864 := rfl
        rw [hcv] at hc
        clear hcv
        have hc1 := (H.out.cell 1 2 rfl (by show _ < 5; decide)).1
        have hf1 := (H.out.cell 1 2 rfl (by show _ < 5; decide)).2
        have hcv1 : (limbs V).getD 2 0 = V / 4503599627370496 % 67108864 := rfl
        have hz1 : V / 4503599627370496 % 67108864 = 0 := by omega
        rw [hcv1, hz1] at hc1
        clear hcv1
        generalize V / 67108864 % 67108864 = X0 at hR hx0 hc
        have E : bits .or .u64 (X0 : Int) (IntKind.u64.wrap (IntKind.u64.wrap (y : Int) * 4194304)) = ((X0 + y * 4194304 : Nat) : Int) := by
          have := or_shl X0 y 4194304 22 rfl (by decide) hx0 hy
          exact this
        have hXb : X0 + y * 4194304 < 17179869184 := by omega
        generalize X0 + y * 4194304 = X at E hR hXb
        have HR := Aside0.mk hR
        have HV' : Aside0 (dv (List.take (6 + 1) (bys s)) = V + 281474976710656 * y) := ⟨HDSk.out⟩
        have t0 : decide ((6 : Int) < (s.size : Int)) = true := decide_eq_true (by omega)
        have hle : 6 < s.size := hlt
        have t00 : (6 : Int) < (s.size : Int) := by omega
        clear hV hV2 hR hx0 hy hy2 h16 HDSk
        simp only [adr] at hc hf hc1 hf1
        rw [show ((6 : Nat) : Int) = 6 from rfl]
        by_cases hov : 67108864 ≤ X
        · as_aux_lemma =>
          have t1 : decide (0 < (X : Int) / 67108864) = true := decide_eq_true (by omega)
          have t2 : decide (0 < X / 67108864) = true := decide_eq_true (by omega)
          have hm := mask26 X (by omega)
          have ho := or_zero64 (X / 67108864) (by omega)
          rw [show ((X / 67108864 : Nat) : Int) = (X : Int) / 67108864 by simp] at ho
          clear hXb hz1
          go_wp2_with (fail)
          refine wp_still_tail 13 (by kernel_rfl) (by kernel_rfl) ?_
          intro W hW
          have g1 : W.cell? ⟨w.heap.size + 1, 1, none⟩ = some (.int .u64 (X0 : Int)) := by rw [hW]; exact hc
          have gf : W.frozen? ⟨w.heap.size + 1, 1, none⟩ = false := by rw [hW]; exact hf
          have HW : Aside0 (PN w [List.replicate 5 0, limbs V] W) := ⟨by rw [hW]; exact H.out.drew⟩
          have wj : IntKind.i64.wrap 1 = 1 := by decide +kernel
          have wr_ : IntKind.i64.wrap 22 = 22 := by decide +kernel
          have g3 : W.cell? ⟨w.heap.size + 1, 2, none⟩ = some (.int .u64 0) := by rw [hW]; exact hc1
          have gf3 : W.frozen? ⟨w.heap.size + 1, 2, none⟩ = false := by rw [hW]; exact hf1
          clear hW hc hf hc1 hf1
          simp only [List.take_succ_cons, List.take_zero, List.drop_succ_cons, List.drop_zero]
          repeat still_step
          refine wpStill_nil ?_
          clear wj wr_
          go_wp2
          refine ⟨⟨7, by omega, rfl, ?_⟩, by simp [intOf]; omega⟩
          rw [HV'.out, HR.out]
          have h1 := (HW.out.set 1 1 X rfl)
          have h2 := (h1.set 1 2 (X / 67108864) (l := (limbs V).set 1 X) rfl)
          have h3 := (h2.set 1 1 (X % 67108864) (l := ((limbs V).set 1 X).set 2 (X / 67108864)) rfl)
          exact ⟨h3⟩
        · as_aux_lemma =>
          have t1 : decide (0 < (X : Int) / 67108864) = false := decide_eq_false (by omega)
          have t2 : decide (0 < X / 67108864) = false := decide_eq_false (by omega)
          have hX0 : X / 67108864 = 0 := by omega
          have hX1 : X % 67108864 = X := by omega
          have HX0 := Aside0.mk hX0
          have HX1 := Aside0.mk hX1
          have hlz : (limbs V).set 2 0 = limbs V := by rw [← hz1]; rfl
          have HLZ := Aside0.mk hlz
          clear hXb hX0 hX1 hlz hz1
          go_wp2_with (fail)
          refine wp_still_tail 13 (by kernel_rfl) (by kernel_rfl) ?_
          intro W hW
          have g1 : W.cell? ⟨w.heap.size + 1, 1, none⟩ = some (.int .u64 (X0 : Int)) := by rw [hW]; exact hc
          have gf : W.frozen? ⟨w.heap.size + 1, 1, none⟩ = false := by rw [hW]; exact hf
          have HW : Aside0 (PN w [List.replicate 5 0, limbs V] W) := ⟨by rw [hW]; exact H.out.drew⟩
          have wj : IntKind.i64.wrap 1 = 1 := by decide +kernel
          have wr_ : IntKind.i64.wrap 22 = 22 := by decide +kernel
          have g3 : W.cell? ⟨w.heap.size + 1, 2, none⟩ = some (.int .u64 0) := by rw [hW]; exact hc1
          have gf3 : W.frozen? ⟨w.heap.size + 1, 2, none⟩ = false := by rw [hW]; exact hf1
          clear hW hc hf hc1 hf1
          simp only [List.take_succ_cons, List.take_zero, List.drop_succ_cons, List.drop_zero]
          repeat still_step
          refine wpStill_nil ?_
          clear wj wr_
          go_wp2
          refine ⟨⟨7, by omega, rfl, ?_⟩, by simp [intOf]; omega⟩
          rw [HV'.out, HR.out]
          rw [HX0.out, HX1.out, HLZ.out]
          exact ⟨HW.out.set 1 1 X rfl⟩
      · as_aux_lemma =>
        subst h
        clear HK
        have hV2 : V < 72057594037927936 := hV
        have hy2 : y < 256 := hy
        have hR := rd_7 V y hV2 hy2
        have hx0 : V / 4503599627370496 % 67108864 < 16 := by omega
        have hc := (H.out.cell 1 2 rfl (by show _ < 5; decide)).1
        have hf := (H.out.cell 1 2 rfl (by show _ < 5; decide)).2
        have hcv : (limbs V).getD 2 0 = V / 4503599627370496 % 67108864 := rfl
        rw [hcv] at hc
        clear hcv
        generalize V / 4503599627370496 % 67108864 = X0 at hR hx0 hc
        have E : bits .or .u64 (X0 : Int) (IntKind.u64.wrap (IntKind.u64.wrap (y : Int) * 16)) = ((X0 + y * 16 : Nat) : Int) := by
          have := or_shl X0 y 16 4 rfl (by decide) hx0 hy
          exact this
        have hXb : X0 + y * 16 < 67108864 := by omega
        generalize X0 + y * 16 = X at E hR hXb
        have HR := Aside0.mk hR
        have HV' : Aside0 (dv (List.take (7 + 1) (bys s)) = V + 72057594037927936 * y) := ⟨HDSk.out⟩
        have t0 : decide ((7 : Int) < (s.size : Int)) = true := decide_eq_true (by omega)
        have hle : 7 < s.size := hlt
        have t00 : (7 : Int) < (s.size : Int) := by omega
        clear hV hV2 hR hx0 hy hy2 h16 HDSk
        simp only [adr] at hc hf
        rw [show ((7 : Nat) : Int) = 7 from rfl]
        have t1 : decide (0 < (X : Int) / 67108864) = false := decide_eq_false (by omega)
        have t2 : decide (0 < X / 67108864) = false := decide_eq_false (by omega)
        clear hXb
        go_wp2_with (fail)
        refine wp_still_tail 13 (by kernel_rfl) (by kernel_rfl) ?_
        intro W hW
        have g1 : W.cell? ⟨w.heap.size + 1, 2, none⟩ = some (.int .u64 (X0 : Int)) := by rw [hW]; exact hc
        have gf : W.frozen? ⟨w.heap.size + 1, 2, none⟩ = false := by rw [hW]; exact hf
        have HW : Aside0 (PN w [List.replicate 5 0, limbs V] W) := ⟨by rw [hW]; exact H.out.drew⟩
        have wj : IntKind.i64.wrap 2 = 2 := by decide +kernel
        have wr_ : IntKind.i64.wrap 4 = 4 := by decide +kernel
        clear hW hc hf
        simp only [List.take_succ_cons, List.take_zero, List.drop_succ_cons, List.drop_zero]
        repeat still_step
        refine wpStill_nil ?_
        clear wj wr_
        go_wp2
        refine ⟨⟨8, by omega, rfl, ?_⟩, by simp [intOf]; omega⟩
        rw [HV'.out, HR.out]
        exact ⟨HW.out.set 1 2 X rfl⟩
      · as_aux_lemma =>
        subst h
        clear HK
        have hV2 : V < 18446744073709551616 := hV
        have hy2 : y < 256 := hy
        have hR := rd_8 V y hV2 hy2
        have hx0 : V / 4503599627370496 % 67108864 < 4096 := by omega
        have hc := (H.out.cell 1 2 rfl (by show _ < 5; decide)).1
        have hf := (H.out.cell 1 2 rfl (by show _ < 5; decide)).2
        have hcv : (limbs V).getD 2 0 = V / 4503599627370496 % 67108864 := rfl
        rw [hcv] at hc
        clear hcv
        generalize V / 4503599627370496 % 67108864 = X0 at hR hx0 hc
        have E : bits .or .u64 (X0 : Int) (IntKind.u64.wrap (IntKind.u64.wrap (y : Int) * 4096)) = ((X0 + y * 4096 : Nat) : Int) := by
          have := or_shl X0 y 4096 12 rfl (by decide) hx0 hy
          exact this
        have hXb : X0 + y * 4096 < 67108864 := by omega
        generalize X0 + y * 4096 = X at E hR hXb
        have HR := Aside0.mk hR
        have HV' : Aside0 (dv (List.take (8 + 1) (bys s)) = V + 18446744073709551616 * y) := ⟨HDSk.out⟩
        have t0 : decide ((8 : Int) < (s.size : Int)) = true := decide_eq_true (by omega)
        have hle : 8 < s.size := hlt
        have t00 : (8 : Int) < (s.size : Int) := by omega
        clear hV hV2 hR hx0 hy hy2 h16 HDSk
        simp only [adr] at hc hf
        rw [show ((8 : Nat) : Int) = 8 from rfl]
        have t1 : decide (0 < (X : Int) / 67108864) = false := decide_eq_false (by omega)
        have t2 : decide (0 < X / 67108864) = false := decide_eq_false (by omega)
        clear hXb
        go_wp2_with (fail)
        refine wp_still_tail 13 (by kernel_rfl) (by kernel_rfl) ?_
        intro W hW
        have g1 : W.cell? ⟨w.heap.size + 1, 2, none⟩ = some (.int .u64 (X0 : Int)) := by rw [hW]; exact hc
        have gf : W.frozen? ⟨w.heap.size + 1, 2, none⟩ = false := by rw [hW]; exact hf
        have HW : Aside0 (PN w [List.replicate 5 0, limbs V] W) := ⟨by rw [hW]; exact H.out.drew⟩
        have wj : IntKind.i64.wrap 2 = 2 := by decide +kernel
        have wr_ : IntKind.i64.wrap 12 = 12 := by decide +kernel
        clear hW hc hf
        simp only [List.take_succ_cons, List.take_zero, List.drop_succ_cons, List.drop_zero]
        repeat still_step
        refine wpStill_nil ?_
        clear wj wr_
        go_wp2
        refine ⟨⟨9, by omega, rfl, ?_⟩, by simp [intOf]; omega⟩
        rw [HV'.out, HR.out]
        exact ⟨HW.out.set 1 2 X rfl⟩
      · as_aux_lemma =>
        subst h
        clear HK
        have hV2 : V < 4722366482869645213696 := hV
        have hy2 : y < 256 := hy
        have hR := rd_9 V y hV2 hy2
        have hx0 : V / 4503599627370496 % 67108864 < 1048576 := by omega
        have hc := (H.out.cell 1 2 rfl (by show _ < 5; decide)).1
        have hf := (H.out.cell 1 2 rfl (by show _ < 5; decide)).2
        have hcv : (limbs V).getD 2 0 = V / 4503599627370496 % 67108864 := rfl
        rw [hcv] at hc
        clear hcv
        have hc1 := (H.out.cell 1 3 rfl (by show _ < 5; decide)).1
        have hf1 := (H.out.cell 1 3 rfl (by show _ < 5; decide)).2
        have hcv1 : (limbs V).getD 3 0 = V / 302231454903657293676544 % 67108864 := rfl
        have hz1 : V / 302231454903657293676544 % 67108864 = 0 := by omega
        rw [hcv1, hz1] at hc1
        clear hcv1
        generalize V / 4503599627370496 % 67108864 = X0 at hR hx0 hc
        have E : bits .or .u64 (X0 : Int) (IntKind.u64.wrap (IntKind.u64.wrap (y : Int) * 1048576)) = ((X0 + y * 1048576 : Nat) : Int) := by
          have := or_shl X0 y 1048576 20 rfl (by decide) hx0 hy
          exact this
        have hXb : X0 + y * 1048576 < 17179869184 := by omega
        generalize X0 + y * 1048576 = X at E hR hXb
        have HR := Aside0.mk hR
        have HV' : Aside0 (dv (List.take (9 + 1) (bys s)) = V + 4722366482869645213696 * y) := ⟨HDSk.out⟩
        have t0 : decide ((9 : Int) < (s.size : Int)) = true := decide_eq_true (by omega)
        have hle : 9 < s.size := hlt
        have t00 : (9 : Int) < (s.size : Int) := by omega
        clear hV hV2 hR hx0 hy hy2 h16 HDSk
        simp only [adr] at hc hf hc1 hf1
        rw [show ((9 : Nat) : Int) = 9 from rfl]
        by_cases hov : 67108864 ≤ X
        · as_aux_lemma =>
          have t1 : decide (0 < (X : Int) / 67108864) = true := decide_eq_true (by omega)
          have t2 : decide (0 < X / 67108864) = true := decide_eq_true (by omega)
          have hm := mask26 X (by omega)
          have ho := or_zero64 (X / 67108864) (by omega)
          rw [show ((X / 67108864 : Nat) : Int) = (X : Int) / 67108864 by simp] at ho
          clear hXb hz1
          go_wp2_with (fail)
          refine wp_still_tail 13 (by kernel_rfl) (by kernel_rfl) ?_
          intro W hW
          have g1 : W.cell? ⟨w.heap.size + 1, 2, none⟩ = some (.int .u64 (X0 : Int)) := by rw [hW]; exact hc
          have gf : W.frozen? ⟨w.heap.size + 1, 2, none⟩ = false := by rw [hW]; exact hf
          have HW : Aside0 (PN w [List.replicate 5 0, limbs V] W) := ⟨by rw [hW]; exact H.out.drew⟩
          have wj : IntKind.i64.wrap 2 = 2 := by decide +kernel
          have wr_ : IntKind.i64.wrap 20 = 20 := by decide +kernel
          have g3 : W.cell? ⟨w.heap.size + 1, 3, none⟩ = some (.int .u64 0) := by rw [hW]; exact hc1
          have gf3 : W.frozen? ⟨w.heap.size + 1, 3, none⟩ = false := by rw [hW]; exact hf1
          clear hW hc hf hc1 hf1
          simp only [List.take_succ_cons, List.take_zero, List.drop_succ_cons, List.drop_zero]
          repeat still_step
          refine wpStill_nil ?_
          clear wj wr_
          go_wp2
          refine ⟨⟨10, by omega, rfl, ?_⟩, by simp [intOf]; omega⟩
          rw [HV'.out, HR.out]
          have h1 := (HW.out.set 1 2 X rfl)
          have h2 := (h1.set 1 3 (X / 67108864) (l := (limbs V).set 2 X) rfl)
          have h3 := (h2.set 1 2 (X % 67108864) (l := ((limbs V).set 2 X).set 3 (X / 67108864)) rfl)
          exact ⟨h3⟩
        · as_aux_lemma =>
          have t1 : decide (0 < (X : Int) / 67108864) = false := decide_eq_false (by omega)
          have t2 : decide (0 < X / 67108864) = false := decide_eq_false (by omega)
          have hX0 : X / 67108864 = 0 := by omega
          have hX1 : X % 67108864 = X := by omega
          have HX0 := Aside0.mk hX0
          have HX1 := Aside0.mk hX1
          have hlz : (limbs V).set 3 0 = limbs V := by rw [← hz1]; rfl
          have HLZ := Aside0.mk hlz
          clear hXb hX0 hX1 hlz hz1
          go_wp2_with (fail)
          refine wp_still_tail 13 (by kernel_rfl) (by kernel_rfl) ?_
          intro W hW
          have g1 : W.cell? ⟨w.heap.size + 1, 2, none⟩ = some (.int .u64 (X0 : Int)) := by rw [hW]; exact hc
          have gf : W.frozen? ⟨w.heap.size + 1, 2, none⟩ = false := by rw [hW]; exact hf
          have HW : Aside0 (PN w [List.replicate 5 0, limbs V] W) := ⟨by rw [hW]; exact H.out.drew⟩
          have wj : IntKind.i64.wrap 2 = 2 := by decide +kernel
          have wr_ : IntKind.i64.wrap 20 = 20 := by decide +kernel
          have g3 : W.cell? ⟨w.heap.size + 1, 3, none⟩ = some (.int .u64 0) := by rw [hW]; exact hc1
          have gf3 : W.frozen? ⟨w.heap.size + 1, 3, none⟩ = false := by rw [hW]; exact hf1
          clear hW hc hf hc1 hf1
          simp only [List.take_succ_cons, List.take_zero, List.drop_succ_cons, List.drop_zero]
          repeat still_step
          refine wpStill_nil ?_
          clear wj wr_
          go_wp2
          refine ⟨⟨10, by omega, rfl, ?_⟩, by simp [intOf]; omega⟩
          rw [HV'.out, HR.out]
          rw [HX0.out, HX1.out, HLZ.out]
          exact ⟨HW.out.set 1 2 X rfl⟩
      · as_aux_lemma =>
        subst h
        clear HK
        have hV2 : V < 1208925819614629174706176 := hV
        have hy2 : y < 256 := hy
        have hR := rd_10 V y hV2 hy2
        have hx0 : V / 302231454903657293676544 % 67108864 < 4 := by omega
        have hc := (H.out.cell 1 3 rfl (by show _ < 5; decide)).1
        have hf := (H.out.cell 1 3 rfl (by show _ < 5; decide)).2
        have hcv : (limbs V).getD 3 0 = V / 302231454903657293676544 % 67108864 := rfl
        rw [hcv] at hc
        clear hcv
        generalize V / 302231454903657293676544 % 67108864 = X0 at hR hx0 hc
        have E : bits .or .u64 (X0 : Int) (IntKind.u64.wrap (IntKind.u64.wrap (y : Int) * 4)) = ((X0 + y * 4 : Nat) : Int) := by
          have := or_shl X0 y 4 2 rfl (by decide) hx0 hy
          exact this
        have hXb : X0 + y * 4 < 67108864 := by omega
        generalize X0 + y * 4 = X at E hR hXb
        have HR := Aside0.mk hR
        have HV' : Aside0 (dv (List.take (10 + 1) (bys s)) = V + 1208925819614629174706176 * y) := ⟨HDSk.out⟩
        have t0 : decide ((10 : Int) < (s.size : Int)) = true := decide_eq_true (by omega)
        have hle : 10 < s.size := hlt
        have t00 : (10 : Int) < (s.size : Int) := by omega
        clear hV hV2 hR hx0 hy hy2 h16 HDSk
        simp only [adr] at hc hf
        rw [show ((10 : Nat) : Int) = 10 from rfl]
        have t1 : decide (0 < (X : Int) / 67108864) = false := decide_eq_false (by omega)
        have t2 : decide (0 < X / 67108864) = false := decide_eq_false (by omega)
        clear hXb
        go_wp2_with (fail)
        refine wp_still_tail 13 (by kernel_rfl) (by kernel_rfl) ?_
        intro W hW
        have g1 : W.cell? ⟨w.heap.size + 1, 3, none⟩ = some (.int .u64 (X0 : Int)) := by rw [hW]; exact hc
        have gf : W.frozen? ⟨w.heap.size + 1, 3, none⟩ = false := by rw [hW]; exact hf
        have HW : Aside0 (PN w [List.replicate 5 0, limbs V] W) := ⟨by rw [hW]; exact H.out.drew⟩
        have wj : IntKind.i64.wrap 3 = 3 := by decide +kernel
        have wr_ : IntKind.i64.wrap 2 = 2 := by decide +kernel
        clear hW hc hf
        simp only [List.take_succ_cons, List.take_zero, List.drop_succ_cons, List.drop_zero]
        repeat still_step
        refine wpStill_nil ?_
        clear wj wr_
        go_wp2
        refine ⟨⟨11, by omega, rfl, ?_⟩, by simp [intOf]; omega⟩
        rw [HV'.out, HR.out]
        exact ⟨HW.out.set 1 3 X rfl⟩
      · as_aux_lemma =>
        subst h
        clear HK
        have hV2 : V < 309485009821345068724781056 := hV
        have hy2 : y < 256 := hy
        have hR := rd_11 V y hV2 hy2
        have hx0 : V / 302231454903657293676544 % 67108864 < 1024 := by omega
        have hc := (H.out.cell 1 3 rfl (by show _ < 5; decide)).1
        have hf := (H.out.cell 1 3 rfl (by show _ < 5; decide)).2
        have hcv : (limbs V).getD 3 0 = V / 302231454903657293676544 % 67108864 := rfl
        rw [hcv] at hc
        clear hcv
        generalize V / 302231454903657293676544 % 67108864 = X0 at hR hx0 hc
        have E : bits .or .u64 (X0 : Int) (IntKind.u64.wrap (IntKind.u64.wrap (y : Int) * 1024)) = ((X0 + y * 1024 : Nat) : Int) := by
          have := or_shl X0 y 1024 10 rfl (by decide) hx0 hy
          exact this
        have hXb : X0 + y * 1024 < 67108864 := by omega
        generalize X0 + y * 1024 = X at E hR hXb
        have HR := Aside0.mk hR
        have HV' : Aside0 (dv (List.take (11 + 1) (bys s)) = V + 309485009821345068724781056 * y) := ⟨HDSk.out⟩
        have t0 : decide ((11 : Int) < (s.size : Int)) = true := decide_eq_true (by omega)
        have hle : 11 < s.size := hlt
        have t00 : (11 : Int) < (s.size : Int) := by omega
        clear hV hV2 hR hx0 hy hy2 h16 HDSk
        simp only [adr] at hc hf
        rw [show ((11 : Nat) : Int) = 11 from rfl]
        have t1 : decide (0 < (X : Int) / 67108864) = false := decide_eq_false (by omega)
        have t2 : decide (0 < X / 67108864) = false := decide_eq_false (by omega)
        clear hXb
        go_wp2_with (fail)
        refine wp_still_tail 13 (by kernel_rfl) (by kernel_rfl) ?_
        intro W hW
        have g1 : W.cell? ⟨w.heap.size + 1, 3, none⟩ = some (.int .u64 (X0 : Int)) := by rw [hW]; exact hc
        have gf : W.frozen? ⟨w.heap.size + 1, 3, none⟩ = false := by rw [hW]; exact hf
        have HW : Aside0 (PN w [List.replicate 5 0, limbs V] W) := ⟨by rw [hW]; exact H.out.drew⟩
        have wj : IntKind.i64.wrap 3 = 3 := by decide +kernel
        have wr_ : IntKind.i64.wrap 10 = 10 := by decide +kernel
        clear hW hc hf
        simp only [List.take_succ_cons, List.take_zero, List.drop_succ_cons, List.drop_zero]
        repeat still_step
        refine wpStill_nil ?_
        clear wj wr_
        go_wp2
        refine ⟨⟨12, by omega, rfl, ?_⟩, by simp [intOf]; omega⟩
        rw [HV'.out, HR.out]
        exact ⟨HW.out.set 1 3 X rfl⟩
      · as_aux_lemma =>
        subst h
        clear HK
        have hV2 : V < 79228162514264337593543950336 := hV
        have hy2 : y < 256 := hy
        have hR := rd_12 V y hV2 hy2
        have hx0 : V / 302231454903657293676544 % 67108864 < 262144 := by omega
        have hc := (H.out.cell 1 3 rfl (by show _ < 5; decide)).1
        have hf := (H.out.cell 1 3 rfl (by show _ < 5; decide)).2
        have hcv : (limbs V).getD 3 0 = V / 302231454903657293676544 % 67108864 := rfl
        rw [hcv] at hc
        clear hcv
        generalize V / 302231454903657293676544 % 67108864 = X0 at hR hx0 hc
        have E : bits .or .u64 (X0 : Int) (IntKind.u64.wrap (IntKind.u64.wrap (y : Int) * 262144)) = ((X0 + y * 262144 : Nat) : Int) := by
          have := or_shl X0 y 262144 18 rfl (by decide) hx0 hy
          exact this
        have hXb : X0 + y * 262144 < 67108864 := by omega
        generalize X0 + y * 262144 = X at E hR hXb
        have HR := Aside0.mk hR
        have HV' : Aside0 (dv (List.take (12 + 1) (bys s)) = V + 79228162514264337593543950336 * y) := ⟨HDSk.out⟩
        have t0 : decide ((12 : Int) < (s.size : Int)) = true := decide_eq_true (by omega)
        have hle : 12 < s.size := hlt
        have t00 : (12 : Int) < (s.size : Int) := by omega
        clear hV hV2 hR hx0 hy hy2 h16 HDSk
        simp only [adr] at hc hf
        rw [show ((12 : Nat) : Int) = 12 from rfl]
        have t1 : decide (0 < (X : Int) / 67108864) = false := decide_eq_false (by omega)
        have t2 : decide (0 < X / 67108864) = false := decide_eq_false (by omega)
        clear hXb
        go_wp2_with (fail)
        refine wp_still_tail 13 (by kernel_rfl) (by kernel_rfl) ?_
        intro W hW
        have g1 : W.cell? ⟨w.heap.size + 1, 3, none⟩ = some (.int .u64 (X0 : Int)) := by rw [hW]; exact hc
        have gf : W.frozen? ⟨w.heap.size + 1, 3, none⟩ = false := by rw [hW]; exact hf
        have HW : Aside0 (PN w [List.replicate 5 0, limbs V] W) := ⟨by rw [hW]; exact H.out.drew⟩
        have wj : IntKind.i64.wrap 3 = 3 := by decide +kernel
        have wr_ : IntKind.i64.wrap 18 = 18 := by decide +kernel
        clear hW hc hf
        simp only [List.take_succ_cons, List.take_zero, List.drop_succ_cons, List.drop_zero]
        repeat still_step
        refine wpStill_nil ?_
        clear wj wr_
        go_wp2
        refine ⟨⟨13, by omega, rfl, ?_⟩, by simp [intOf]; omega⟩
        rw [HV'.out, HR.out]
        exact ⟨HW.out.set 1 3 X rfl⟩
      · as_aux_lemma =>
        subst h
        clear HK
        have hV2 : V < 20282409603651670423947251286016 := hV
        have hy2 : y < 256 := hy
        have hR := rd_13 V y hV2 hy2
        have hx0 : V / 20282409603651670423947251286016 % 67108864 < 1 := by omega
        have hc := (H.out.cell 1 4 rfl (by show _ < 5; decide)).1
        have hf := (H.out.cell 1 4 rfl (by show _ < 5; decide)).2
        have hcv : (limbs V).getD 4 0 = V / 20282409603651670423947251286016 % 67108864 := rfl
        rw [hcv] at hc
        clear hcv
        generalize V / 20282409603651670423947251286016 % 67108864 = X0 at hR hx0 hc
        have E : bits .or .u64 (X0 : Int) (IntKind.u64.wrap (IntKind.u64.wrap (y : Int))) = ((X0 + y * 1 : Nat) : Int) := by
          have := or_shl X0 y 1 0 rfl (by decide) hx0 hy
          rw [show ((1 : Nat) : Int) = 1 from rfl, Int.mul_one, wraps_u64 (y : Int) (by omega) (by omega), wraps_u64 (y : Int) (by omega) (by omega)] at this
          rw [wraps_u64 (y : Int) (by omega) (by omega), wraps_u64 (y : Int) (by omega) (by omega), this, Nat.mul_one]
        have hXb : X0 + y * 1 < 67108864 := by omega
        generalize X0 + y * 1 = X at E hR hXb
        have HR := Aside0.mk hR
        have HV' : Aside0 (dv (List.take (13 + 1) (bys s)) = V + 20282409603651670423947251286016 * y) := ⟨HDSk.out⟩
        have t0 : decide ((13 : Int) < (s.size : Int)) = true := decide_eq_true (by omega)
        have hle : 13 < s.size := hlt
        have t00 : (13 : Int) < (s.size : Int) := by omega
        clear hV hV2 hR hx0 hy hy2 h16 HDSk
        simp only [adr] at hc hf
        rw [show ((13 : Nat) : Int) = 13 from rfl]
        have t1 : decide (0 < (X : Int) / 67108864) = false := decide_eq_false (by omega)
        have t2 : decide (0 < X / 67108864) = false := decide_eq_false (by omega)
        clear hXb
        go_wp2_with (fail)
        refine wp_still_tail 13 (by kernel_rfl) (by kernel_rfl) ?_
        intro W hW
        have g1 : W.cell? ⟨w.heap.size + 1, 4, none⟩ = some (.int .u64 (X0 : Int)) := by rw [hW]; exact hc
        have gf : W.frozen? ⟨w.heap.size + 1, 4, none⟩ = false := by rw [hW]; exact hf
        have HW : Aside0 (PN w [List.replicate 5 0, limbs V] W) := ⟨by rw [hW]; exact H.out.drew⟩
        have wj : IntKind.i64.wrap 4 = 4 := by decide +kernel
        have wr_ : IntKind.i64.wrap 0 = 0 := by decide +kernel
        clear hW hc hf
        simp only [List.take_succ_cons, List.take_zero, List.drop_succ_cons, List.drop_zero]
        repeat still_step
        refine wpStill_nil ?_
        clear wj wr_
        go_wp2
        refine ⟨⟨14, by omega, rfl, ?_⟩, by simp [intOf]; omega⟩
        rw [HV'.out, HR.out]
        exact ⟨HW.out.set 1 4 X rfl⟩
      · as_aux_lemma =>
        subst h
        clear HK
        have hV2 : V < 5192296858534827628530496329220096 := hV
        have hy2 : y < 256 := hy
        have hR := rd_14 V y hV2 hy2
        have hx0 : V / 20282409603651670423947251286016 % 67108864 < 256 := by omega
        have hc := (H.out.cell 1 4 rfl (by show _ < 5; decide)).1
        have hf := (H.out.cell 1 4 rfl (by show _ < 5; decide)).2
        have hcv : (limbs V).getD 4 0 = V / 20282409603651670423947251286016 % 67108864 := rfl
        rw [hcv] at hc
        clear hcv
        generalize V / 20282409603651670423947251286016 % 67108864 = X0 at hR hx0 hc
        have E : bits .or .u64 (X0 : Int) (IntKind.u64.wrap (IntKind.u64.wrap (y : Int) * 256)) = ((X0 + y * 256 : Nat) : Int) := by
          have := or_shl X0 y 256 8 rfl (by decide) hx0 hy
          exact this
        have hXb : X0 + y * 256 < 67108864 := by omega
        generalize X0 + y * 256 = X at E hR hXb
        have HR := Aside0.mk hR
        have HV' : Aside0 (dv (List.take (14 + 1) (bys s)) = V + 5192296858534827628530496329220096 * y) := ⟨HDSk.out⟩
        have t0 : decide ((14 : Int) < (s.size : Int)) = true := decide_eq_true (by omega)
        have hle : 14 < s.size := hlt
        have t00 : (14 : Int) < (s.size : Int) := by omega
        clear hV hV2 hR hx0 hy hy2 h16 HDSk
        simp only [adr] at hc hf
        rw [show ((14 : Nat) : Int) = 14 from rfl]
        have t1 : decide (0 < (X : Int) / 67108864) = false := decide_eq_false (by omega)
        have t2 : decide (0 < X / 67108864) = false := decide_eq_false (by omega)
        clear hXb
        go_wp2_with (fail)
        refine wp_still_tail 13 (by kernel_rfl) (by kernel_rfl) ?_
        intro W hW
        have g1 : W.cell? ⟨w.heap.size + 1, 4, none⟩ = some (.int .u64 (X0 : Int)) := by rw [hW]; exact hc
        have gf : W.frozen? ⟨w.heap.size + 1, 4, none⟩ = false := by rw [hW]; exact hf
        have HW : Aside0 (PN w [List.replicate 5 0, limbs V] W) := ⟨by rw [hW]; exact H.out.drew⟩
        have wj : IntKind.i64.wrap 4 = 4 := by decide +kernel
        have wr_ : IntKind.i64.wrap 8 = 8 := by decide +kernel
        clear hW hc hf
        simp only [List.take_succ_cons, List.take_zero, List.drop_succ_cons, List.drop_zero]
        repeat still_step
        refine wpStill_nil ?_
        clear wj wr_
        go_wp2
        refine ⟨⟨15, by omega, rfl, ?_⟩, by simp [intOf]; omega⟩
        rw [HV'.out, HR.out]
        exact ⟨HW.out.set 1 4 X rfl⟩
      · as_aux_lemma =>
        subst h
        clear HK
        have hV2 : V < 1329227995784915872903807060280344576 := hV
        have hy2 : y < 256 := hy
        have hR := rd_15 V y hV2 hy2
        have hx0 : V / 20282409603651670423947251286016 % 67108864 < 65536 := by omega
        have hc := (H.out.cell 1 4 rfl (by show _ < 5; decide)).1
        have hf := (H.out.cell 1 4 rfl (by show _ < 5; decide)).2
        have hcv : (limbs V).getD 4 0 = V / 20282409603651670423947251286016 % 67108864 := rfl
        rw [hcv] at hc
        clear hcv
        generalize V / 20282409603651670423947251286016 % 67108864 = X0 at hR hx0 hc
        have E : bits .or .u64 (X0 : Int) (IntKind.u64.wrap (IntKind.u64.wrap (y : Int) * 65536)) = ((X0 + y * 65536 : Nat) : Int) := by
          have := or_shl X0 y 65536 16 rfl (by decide) hx0 hy
          exact this
        have hXb : X0 + y * 65536 < 67108864 := by omega
        generalize X0 + y * 65536 = X at E hR hXb
        have HR := Aside0.mk hR
        have HV' : Aside0 (dv (List.take (15 + 1) (bys s)) = V + 1329227995784915872903807060280344576 * y) := ⟨HDSk.out⟩
        have t0 : decide ((15 : Int) < (s.size : Int)) = true := decide_eq_true (by omega)
        have hle : 15 < s.size := hlt
        have t00 : (15 : Int) < (s.size : Int) := by omega
        clear hV hV2 hR hx0 hy hy2 h16 HDSk
        simp only [adr] at hc hf
        rw [show ((15 : Nat) : Int) = 15 from rfl]
        have t1 : decide (0 < (X : Int) / 67108864) = false := decide_eq_false (by omega)
        have t2 : decide (0 < X / 67108864) = false := decide_eq_false (by omega)
        clear hXb
        go_wp2_with (fail)
        refine wp_still_tail 13 (by kernel_rfl) (by kernel_rfl) ?_
        intro W hW
        have g1 : W.cell? ⟨w.heap.size + 1, 4, none⟩ = some (.int .u64 (X0 : Int)) := by rw [hW]; exact hc
        have gf : W.frozen? ⟨w.heap.size + 1, 4, none⟩ = false := by rw [hW]; exact hf
        have HW : Aside0 (PN w [List.replicate 5 0, limbs V] W) := ⟨by rw [hW]; exact H.out.drew⟩
        have wj : IntKind.i64.wrap 4 = 4 := by decide +kernel
        have wr_ : IntKind.i64.wrap 16 = 16 := by decide +kernel
        clear hW hc hf
        simp only [List.take_succ_cons, List.take_zero, List.drop_succ_cons, List.drop_zero]
        repeat still_step
        refine wpStill_nil ?_
        clear wj wr_
        go_wp2
        refine ⟨⟨16, by omega, rfl, ?_⟩, by simp [intOf]; omega⟩
        rw [HV'.out, HR.out]
        exact ⟨HW.out.set 1 4 X rfl⟩
      · as_aux_lemma =>
        subst h
        clear HK
        have hV2 : V < 340282366920938463463374607431768211456 := hV
        have hy2 : y < 4 := h16 rfl
        have hR := rd_16 V y hV2 hy2
        have hx0 : V / 20282409603651670423947251286016 % 67108864 < 16777216 := by omega
        have hc := (H.out.cell 1 4 rfl (by show _ < 5; decide)).1
        have hf := (H.out.cell 1 4 rfl (by show _ < 5; decide)).2
        have hcv : (limbs V).getD 4 0 = V / 20282409603651670423947251286016 % 67108864 := rfl
        rw [hcv] at hc
        clear hcv
        generalize V / 20282409603651670423947251286016 % 67108864 = X0 at hR hx0 hc
        have E : bits .or .u64 (X0 : Int) (IntKind.u64.wrap (IntKind.u64.wrap (y : Int) * 16777216)) = ((X0 + y * 16777216 : Nat) : Int) := by
          have := or_shl X0 y 16777216 24 rfl (by decide) hx0 hy
          exact this
        have hXb : X0 + y * 16777216 < 67108864 := by omega
        generalize X0 + y * 16777216 = X at E hR hXb
        have HR := Aside0.mk hR
        have HV' : Aside0 (dv (List.take (16 + 1) (bys s)) = V + 340282366920938463463374607431768211456 * y) := ⟨HDSk.out⟩
        have t0 : decide ((16 : Int) < (s.size : Int)) = true := decide_eq_true (by omega)
        have hle : 16 < s.size := hlt
        have t00 : (16 : Int) < (s.size : Int) := by omega
        clear hV hV2 hR hx0 hy hy2 h16 HDSk
        simp only [adr] at hc hf
        rw [show ((16 : Nat) : Int) = 16 from rfl]
        have t1 : decide (0 < (X : Int) / 67108864) = false := decide_eq_false (by omega)
        have t2 : decide (0 < X / 67108864) = false := decide_eq_false (by omega)
        clear hXb
        go_wp2_with (fail)
        refine wp_still_tail 13 (by kernel_rfl) (by kernel_rfl) ?_
        intro W hW
        have g1 : W.cell? ⟨w.heap.size + 1, 4, none⟩ = some (.int .u64 (X0 : Int)) := by rw [hW]; exact hc
        have gf : W.frozen? ⟨w.heap.size + 1, 4, none⟩ = false := by rw [hW]; exact hf
        have HW : Aside0 (PN w [List.replicate 5 0, limbs V] W) := ⟨by rw [hW]; exact H.out.drew⟩
        have wj : IntKind.i64.wrap 4 = 4 := by decide +kernel
        have wr_ : IntKind.i64.wrap 24 = 24 := by decide +kernel
        clear hW hc hf
        simp only [List.take_succ_cons, List.take_zero, List.drop_succ_cons, List.drop_zero]
        repeat still_step
        refine wpStill_nil ?_
        clear wj wr_
        go_wp2
        refine ⟨⟨17, by omega, rfl, ?_⟩, by simp [intOf]; omega⟩
        rw [HV'.out, HR.out]
        exact ⟨HW.out.set 1 4 X rfl⟩
    · obtain rfl : k = s.size := by omega
      clear hlt hk
      have hr : dv ((bys s).take s.size) = dv (bys s) := by rw [← bys_length, List.take_length]
      rw [hr] at H
      have HCL := Aside0.mk (show (limbs (dv (bys s))).length = 5 from rfl)
      generalize hR : limbs (dv (bys s)) = r at *
      have HRe := Aside0.mk hR
      clear hR hr
      go_upto_region 12 with (fail)
      have hrow := H.out.rows 1 r rfl
      have hout := H.out.rows 0 _ rfl
      simp only [adr] at hrow hout
      have hsz : (Try.prog.info? 84).map (·.size) = some (u64s r).size := by rw [u64s_size, HCL.out]; exact HI.out
      have hsz2 : (u64s (List.replicate 5 0)).size = (u64s r).size := by rw [u64s_size, u64s_size, HCL.out]; rfl
      have HROW := Aside0.mk hrow
      have HOUT := Aside0.mk hout
      have HSZ := Aside0.mk hsz
      have HSZ2 := Aside0.mk hsz2
      clear hrow hout hsz hsz2
      go_wp2_with (first | (with_reducible refine wpList_load_row rfl 84 (.tmp 3) rfl (w.heap.size + 1) rfl 84 (u64s r) (0, 0) _ HROW.out Try.underlying84 rfl HSZ.out ?_) | (refine wpList_store_row rfl 84 (.tmp 2) (.tmp 49) rfl (w.heap.size) (u64s r) rfl rfl 84 _ HOUT.out HSZ.out HSZ2.out (u64s_one _) ?_))
      exact bodyPost_ret (results_cell_row Try.results77 _ _ (w.heap.size) 84 (u64s r) (0, 0) _ rfl (setRow_heap _ _ _ _ _ _ HOUT.out) Try.underlying84 rfl HSZ.out) rfl ⟨by first | (rw [HRe.out]; done) | (rw [HRe.out]; rfl) | rfl, below_setRow H.out.below (by omega) _⟩
end Go.Proofs.Ytmablneefndedaa.Pr
end

/- chacha.bytes: the walk. -/
import Derived.Test.YtmablneefndedaaHChaP
import Derived.Test.YtmablneefndedaaHShaB
import Derived.StillTailTactics
import Derived.Laws.CopyOwn
import Derived.Test.YtmablneefndedaaWLast
namespace Go.Proofs.Ytmablneefndedaa.Pr
open Go.RowKit Go.Proofs.YtmablneefndedaaW.PrintWords Go.Proofs.YtmablneefndedaaW.PrintLast
set_option maxHeartbeats 1000000
set_option linter.unusedVariables false
set_option linter.unusedSimpArgs false
/-- The words as far as they are filled. -/
def fillC (W : List Nat) (k : Nat) : List Nat := W.take k ++ List.replicate (16 - k) 0
theorem fillC_length (W : List Nat) (k : Nat) (hW : W.length = 16) (hk : k ≤ 16) : (fillC W k).length = 16 := by
  unfold fillC
  rw [List.length_append, List.length_take, List.length_replicate]
  omega
theorem fillC_set (W : List Nat) (k v : Nat) (hW : W.length = 16) (hk : k < 16) (hv : W.getD k 0 = v) : (fillC W k).set k v = fillC W (k + 1) := by
  unfold fillC
  have hT : (W.take k).length = k := by rw [List.length_take]; omega
  rw [List.set_append_right _ _ (by omega), hT, Nat.sub_self, show 16 - k = (16 - (k + 1)) + 1 by omega, List.replicate_succ, List.set_cons_zero,
    List.take_succ_eq_append_getElem (by omega), List.append_assoc]
  rw [← hv]
  simp [show k < W.length by omega]
theorem fillC_full (W : List Nat) (hW : W.length = 16) : fillC W 16 = W := by
  unfold fillC
  rw [List.take_of_length_le (by omega)]
  simp
theorem fillC_get (W : List Nat) (k i : Nat) (hW : W.length = 16) (hk : k ≤ 16) (hi : i < 16) : ∃ v : Nat, (u32s (fillC W k))[i]? = some (.int .u32 (v : Int)) :=
  ⟨_, u32s_get _ _ (by rw [fillC_length W k hW hk]; omega)⟩
theorem lw4_take (l : List Nat) (n : Nat) (h : 4 ≤ n) : lw4 (l.take n) 0 = lw4 l 0 := by
  unfold lw4
  simp only [List.getD_eq_getElem?_getD, List.getElem?_take, Nat.zero_add]
  rw [if_pos (by omega), if_pos (by omega), if_pos (by omega), if_pos (by omega)]
/-- The memory while the words are filled. -/
structure ChA (w : World) (l : List Nat) (W : World) : Prop where
  below : Below w.heap.size w W
  out : W.heap[w.heap.size]? = some (.cells (u8s (List.replicate 64 0)) 49 (0, 0))
  row : W.heap[w.heap.size + 1]? = some (.cells (u32s l) 78 (0, 0))
theorem ChA.set {w W : World} {l : List Nat} (h : ChA w l W) (n k v : Nat) : ChA w (l.set k v) ((W.drewN n).setCell ⟨w.heap.size + 1, k, none⟩ (.int .u32 (v : Int))) :=
  ⟨below_set (pw_below_drewN h.below n) (by omega), blk_far (blk_drewN h.out n) (by simp) _, blk_put (blk_drewN h.row n) k _ (u32s_set l k v)⟩
theorem ChA.set0 {w W : World} {l : List Nat} (h : ChA w l W) (k v : Nat) : ChA w (l.set k v) (W.setCell ⟨w.heap.size + 1, k, none⟩ (.int .u32 (v : Int))) :=
  ⟨below_set h.below (by omega), blk_far h.out (by simp) _, blk_put h.row k _ (u32s_set l k v)⟩
theorem ChA.cell {w W : World} {L : List Nat} {k : Nat} (h : ChA w (fillC L k) W) (hL : L.length = 16) (hk : k ≤ 16) (i : Nat) (hi : i < 16) : (∃ v : Nat, W.cell? ⟨w.heap.size + 1, i, none⟩ = some (.int .u32 (v : Int))) ∧ W.frozen? ⟨w.heap.size + 1, i, none⟩ = false := by
  obtain ⟨v, hv⟩ := fillC_get L k i hL hk hi
  exact ⟨⟨v, (blk_cell h.row i).trans hv⟩, blk_frozen h.row i⟩
theorem ChA.next {w W : World} {L : List Nat} {k v : Nat} (h : ChA w ((fillC L k).set k v) W) (hL : L.length = 16) (hk : k < 16) (hv : L.getD k 0 = v) : ChA w (fillC L (k + 1)) W := by
  rw [← fillC_set L k v hL hk hv]; exact h
theorem ChA.start (w : World) (L : List Nat) : ChA w (fillC L 0) ((w.alloc (.cells (u8s (List.replicate 64 0)) 49)).alloc (.cells (u32s (List.replicate 16 0)) 78)) := by
  refine ⟨below_alloc (below_alloc (Below.refl _ _) _) _, blk_alloc (blk_new _ _) _, ?_⟩
  have := blk_new (w.alloc (.cells (u8s (List.replicate 64 0)) 49)) (.cells (u32s (List.replicate 16 0)) 78)
  rw [show (w.alloc (.cells (u8s (List.replicate 64 0)) 49)).heap.size = w.heap.size + 1 by simp] at this
  rw [show fillC L 0 = List.replicate 16 0 by simp [fillC]]
  exact this
/-- The memory while the rounds go. -/
structure ChR (w : World) (g : Nat) (L l : List Nat) (W : World) : Prop where
  a : ChA w l W
  gt : w.heap.size + 1 < g
  was : W.heap[g]? = some (.cells (u32s L) 78 (0, 0))
theorem ChR.set {w W : World} {g : Nat} {L l : List Nat} (h : ChR w g L l W) (n k v : Nat) : ChR w g L (l.set k v) ((W.drewN n).setCell ⟨w.heap.size + 1, k, none⟩ (.int .u32 (v : Int))) :=
  ⟨h.a.set n k v, h.gt, blk_far (blk_drewN h.was n) (by have := h.gt; simp; omega) _⟩
theorem ChR.set0 {w W : World} {g : Nat} {L l : List Nat} (h : ChR w g L l W) (k v : Nat) : ChR w g L (l.set k v) (W.setCell ⟨w.heap.size + 1, k, none⟩ (.int .u32 (v : Int))) :=
  ⟨h.a.set0 k v, h.gt, blk_far h.was (by have := h.gt; simp; omega) _⟩
/-- Four words of them, and what a quarter round makes of them. -/
structure Quad (L : List Nat) (i j k m x y z v : Nat) : Prop where
  ea : L.getD i 0 = x
  eb : L.getD j 0 = y
  ec : L.getD k 0 = z
  ed : L.getD m 0 = v
  la : x < 4294967296
  lb : y < 4294967296
  lc : z < 4294967296
  ld : v < 4294967296
theorem Quad.eq {l : List Nat} {i j k m x y z v : Nat} (h : Quad l i j k m x y z v) : (((l.set i (qa2 x y z v)).set j (qb2 x y z v)).set k (qc2 x y z v)).set m (qd2 x y z v) = qr l i j k m := by
  unfold qr
  rw [h.ea, h.eb, h.ec, h.ed]
theorem ChR.quad {w W : World} {g : Nat} {L l : List Nat} {i j k m x y z v : Nat} (h : ChR w g L l W) (hq : Quad l i j k m x y z v) (n : Nat) : ChR w g L (qr l i j k m) (((((W.drewN n).setCell ⟨w.heap.size + 1, i, none⟩ (.int .u32 (qa2 x y z v : Nat))).setCell ⟨w.heap.size + 1, j, none⟩ (.int .u32 (qb2 x y z v : Nat))).setCell ⟨w.heap.size + 1, k, none⟩ (.int .u32 (qc2 x y z v : Nat))).setCell ⟨w.heap.size + 1, m, none⟩ (.int .u32 (qd2 x y z v : Nat))) := by
  rw [← hq.eq]
  exact (((h.set n i _).set0 j _).set0 k _).set0 m _
theorem ChR.four {w W : World} {g : Nat} {L l : List Nat} (h : ChR w g L l W) (hs : Small l) (hl : l.length = 16) (i j k m : Nat) (hi : i < 16) (hj : j < 16) (hk : k < 16) (hm : m < 16) :
    ∃ a b c d : Nat, Quad l i j k m a b c d ∧ W.cell? ⟨w.heap.size + 1, i, none⟩ = some (.int .u32 (a : Int)) ∧ W.cell? ⟨w.heap.size + 1, j, none⟩ = some (.int .u32 (b : Int)) ∧ W.cell? ⟨w.heap.size + 1, k, none⟩ = some (.int .u32 (c : Int)) ∧ W.cell? ⟨w.heap.size + 1, m, none⟩ = some (.int .u32 (d : Int)) ∧
      W.frozen? ⟨w.heap.size + 1, i, none⟩ = false ∧ W.frozen? ⟨w.heap.size + 1, j, none⟩ = false ∧ W.frozen? ⟨w.heap.size + 1, k, none⟩ = false ∧ W.frozen? ⟨w.heap.size + 1, m, none⟩ = false :=
  ⟨_, _, _, _, ⟨rfl, rfl, rfl, rfl, hs i, hs j, hs k, hs m⟩, (blk_cell h.a.row i).trans (u32s_get l i (by omega)), (blk_cell h.a.row j).trans (u32s_get l j (by omega)), (blk_cell h.a.row k).trans (u32s_get l k (by omega)), (blk_cell h.a.row m).trans (u32s_get l m (by omega)), blk_frozen h.a.row i, blk_frozen h.a.row j, blk_frozen h.a.row k, blk_frozen h.a.row m⟩
/-- The bytes of sixteen words. -/
def chaO (L : List Nat) : List Nat := (List.range 16).flatMap fun k => le4 ((L.getD k 0 + (dbl L 10).getD k 0) % 4294967296)
/-- The bytes as far as they are put out. -/
def outC (f : Nat → Nat) (k : Nat) : List Nat := (List.range k).flatMap (fun i => le4 (f i)) ++ List.replicate (64 - 4 * k) 0
theorem flatC_length (f : Nat → Nat) (k : Nat) : ((List.range k).flatMap (fun i => le4 (f i))).length = 4 * k := by
  induction k with
  | zero => rfl
  | succ k ih => rw [List.range_succ, List.flatMap_append, List.length_append, ih]; simp [le4]; omega
theorem outC_length (f : Nat → Nat) (k : Nat) (hk : k ≤ 16) : (outC f k).length = 64 := by
  unfold outC
  rw [List.length_append, flatC_length, List.length_replicate]
  omega
theorem outC_set (f : Nat → Nat) (k : Nat) (hk : k < 16) :
    ((((outC f k).set (4 * k) (f k % 256)).set (4 * k + 1) (f k / 256 % 256)).set (4 * k + 2) (f k / 65536 % 256)).set (4 * k + 3) (f k / 16777216 % 256) = outC f (k + 1) := by
  have hF := flatC_length f k
  have hr : List.replicate (64 - 4 * k) 0 = 0 :: 0 :: 0 :: 0 :: List.replicate (64 - 4 * (k + 1)) 0 := by
    rw [show 64 - 4 * k = (64 - 4 * (k + 1)) + 1 + 1 + 1 + 1 by omega]; rfl
  unfold outC
  rw [List.range_succ, List.flatMap_append, hr]
  generalize (List.range k).flatMap (fun i => le4 (f i)) = F at hF
  rw [List.set_append_right _ _ (by omega), List.set_append_right _ _ (by omega), List.set_append_right _ _ (by omega), List.set_append_right _ _ (by omega)]
  rw [show 4 * k - F.length = 0 by omega, show 4 * k + 1 - F.length = 1 by omega, show 4 * k + 2 - F.length = 2 by omega, show 4 * k + 3 - F.length = 3 by omega]
  simp [le4]
theorem outC_full (f : Nat → Nat) : outC f 16 = (List.range 16).flatMap (fun i => le4 (f i)) := by simp [outC]
/-- The memory while the bytes are put out. -/
structure ChO (w : World) (g2 g3 : Nat) (L o : List Nat) (W : World) : Prop where
  below : Below w.heap.size w W
  out : W.heap[w.heap.size]? = some (.cells (u8s (List.replicate 64 0)) 49 (0, 0))
  was : W.heap[g2]? = some (.cells (u32s L) 78 (0, 0))
  row : W.heap[g3]? = some (.cells (u8s o) 49 (0, 0))
  lt2 : w.heap.size + 1 < g2
  lt3 : g2 < g3
theorem ChO.set0 {w W : World} {g2 g3 : Nat} {L o : List Nat} (h : ChO w g2 g3 L o W) (k v : Nat) : ChO w g2 g3 L (o.set k v) (W.setCell ⟨g3, k, none⟩ (.int .u8 (v : Int))) := by
  have h2 := h.lt2
  have h3 := h.lt3
  exact ⟨below_set h.below (by omega), blk_far h.out (by simp; omega) _, blk_far h.was (by simp; omega) _, blk_put h.row k _ (u8s_set o k v), h2, h3⟩
theorem ChO.step {w W : World} {g2 g3 : Nat} {L : List Nat} {f : Nat → Nat} {k : Nat} (h : ChO w g2 g3 L (outC f k) W) (hk : k < 16) (x : Nat) (hx : f k = x) : ChO w g2 g3 L (outC f (k + 1))
    ((((W.setCell ⟨g3, 4 * k, none⟩ (.int .u8 ((x : Int) % 256))).setCell ⟨g3, 4 * k + 1, none⟩ (.int .u8 ((x : Int) / 256 % 256))).setCell ⟨g3, 4 * k + 2, none⟩ (.int .u8 ((x : Int) / 65536 % 256))).setCell ⟨g3, 4 * k + 3, none⟩ (.int .u8 ((x : Int) / 16777216 % 256))) := by
  rw [← outC_set f k hk, hx]
  exact (((h.set0 (4 * k) (x % 256)).set0 (4 * k + 1) (x / 256 % 256)).set0 (4 * k + 2) (x / 65536 % 256)).set0 (4 * k + 3) (x / 16777216 % 256)
theorem ChO.cell {w W : World} {g2 g3 : Nat} {L : List Nat} {f : Nat → Nat} {k : Nat} (h : ChO w g2 g3 L (outC f k) W) (hk : k ≤ 16) (i : Nat) (hi : i < 64) : (∃ v : Nat, W.cell? ⟨g3, i, none⟩ = some (.int .u8 (v : Int))) ∧ W.frozen? ⟨g3, i, none⟩ = false :=
  ⟨⟨_, (blk_cell h.row i).trans (u8s_get _ i (by rw [outC_length f k hk]; exact hi))⟩, blk_frozen h.row i⟩
theorem u8s_one (l : List Nat) : (u8s l).all (·.oneCell') = true := by
  simp [u8s, Value.oneCell']
theorem index_u32 (D : List Nat) (hD : D.length = 16) (k : Nat) (hk : k < 16) (w : World) : (Instr.index 78 (.agg (u32s D)) (.int .i64 (k : Int))).run Try.prog w = .ok (.int .u32 (D.getD k 0 : Nat)) w := by
  refine index_row (D.map fun (n : Nat) => Value.int .u32 (n : Int)) 78 77 16 Try.underlying78 (by kernel_rfl) ?_ k _ ?_ (by simpa using hD) ⟨_, Try.underlying77, rfl⟩ w
  · intro v hv
    rw [List.mem_map] at hv
    obtain ⟨n, _, rfl⟩ := hv
    simp [Value.cells]
  · rw [List.getElem?_map, List.getElem?_eq_getElem (by omega), List.getD_eq_getElem?_getD, List.getElem?_eq_getElem (by omega)]
    rfl
set_option maxRecDepth 100000 in
theorem chacha_bytes_calls (a0 a1 : ByteArray) (m : Nat) (w : World) (h0 : a0.size = 32) (h1 : a1.size = 12) (hm : m < 4294967296) :
    Calls Try.prog 48 #[.string a0, .string a1, .int .i64 m] w fun e w' => e = .returned (.agg (u8s (chaL (bys a0) (bys a1) m))) ∧ Below w.heap.size w w' := by
  have hinf : (Try.prog.info? 49).map (·.size) = some 64 := by kernel_rfl
  have HI := Aside0.mk hinf
  clear hinf
  have HW := Aside0.mk (chaW_length (bys a0) (bys a1) m)
  have HSm := Aside0.mk (chaW_small a0 a1 m)
  have W1 := Aside0.mk (fun k (hk : k < 4) => chaW_head (bys a0) (bys a1) m k hk)
  have W2 := Aside0.mk (fun k (hk : k < 8) => chaW_key (bys a0) (bys a1) m k hk)
  have W3 := Aside0.mk (chaW_count (bys a0) (bys a1) m)
  have W4 := Aside0.mk (fun k (hk : k < 3) => chaW_nonce (bys a0) (bys a1) m k hk)
  have hr : chaL (bys a0) (bys a1) m = chaO (chaW (bys a0) (bys a1) m) := rfl
  rw [hr]
  clear hr
  generalize chaW (bys a0) (bys a1) m = L at HW HSm W1 W2 W3 W4 ⊢
  go_enter Try.func48, Try.ntmps48
  go_wp2_with (fail)
  go_loopw [20] (fun i wr => ∃ k : Nat, k ≤ 4 ∧ i = .int .i64 k ∧ Aside0 (ChA w (fillC L k) wr)) (fun i _ => 4 - (intOf i).toNat)
  case atStart => exact ⟨0, by omega, rfl, ⟨ChA.start w L⟩⟩
  case round =>
    obtain ⟨k, hk, rfl, H⟩ := hrel
    by_cases hlt : k < 4
    · obtain ⟨⟨v, hv⟩, hf⟩ := H.out.cell HW.out (by omega) k (by omega)
      have hx := W1.out k hlt
      generalize L.getD k 0 = x at hx
      have HX := Aside0.mk hx
      have HB := Aside0.mk (show lw4 (bys ((⟨#[101, 120, 112, 97, 110, 100, 32, 51, 50, 45, 98, 121, 116, 101, 32, 107]⟩ : ByteArray).extract (4 * k) 16)) 0 = L.getD k 0 by
        rw [bys_extract, lw4_take _ _ (by omega), lw4_drop, W1.out k hlt]; rfl)
      have HSZ := Aside0.mk (show 4 ≤ ((⟨#[101, 120, 112, 97, 110, 100, 32, 51, 50, 45, 98, 121, 116, 101, 32, 107]⟩ : ByteArray).extract (4 * k) 16).size by rw [ByteArray.size_extract]; exact (show 4 ≤ min 16 16 - 4 * k by omega))
      clear hx
      go_wp2_with (fail)
      refine (small_calls _ _ HSZ.out).mono ?_
      rintro e1 w1 ⟨rfl, n1, rfl⟩
      rw [HB.out]
      generalize hy : L.getD k 0 = y
      have HY := Aside0.mk hy
      clear hy
      go_wp2
      exact ⟨⟨k + 1, by omega, by go_num, ⟨(H.out.set n1 k y).next HW.out (by omega) HY.out⟩⟩, by simp [intOf]; omega⟩
    · obtain rfl : k = 4 := by omega
      clear hlt hk
      rw [show ((4 : Nat) : Int) = 4 from rfl]
      go_wp2_with (fail)
      go_loopw [30] (fun i wr => ∃ k : Nat, k ≤ 8 ∧ i = .int .i64 k ∧ Aside0 (ChA w (fillC L (4 + k)) wr)) (fun i _ => 8 - (intOf i).toNat)
      case atStart => exact ⟨0, by omega, rfl, H⟩
      case round =>
        clear H
        obtain ⟨k, hk, rfl, H⟩ := hrel
        by_cases hlt : k < 8
        · obtain ⟨⟨v, hv⟩, hf⟩ := H.out.cell HW.out (by omega) (4 + k) (by omega)
          have HB := Aside0.mk (show lw4 (bys (a0.extract (4 * k) 32)) 0 = L.getD (4 + k) 0 by
            rw [bys_extract, lw4_take _ _ (by omega), lw4_drop, W2.out k hlt])
          have HSZ := Aside0.mk (show 4 ≤ (a0.extract (4 * k) 32).size by rw [ByteArray.size_extract]; omega)
          go_wp2_with (fail)
          refine (small_calls _ _ HSZ.out).mono ?_
          rintro e1 w1 ⟨rfl, n1, rfl⟩
          rw [HB.out]
          generalize hy : L.getD (4 + k) 0 = y
          have HY := Aside0.mk hy
          clear hy
          go_wp2
          exact ⟨⟨k + 1, by omega, by go_num, ⟨(H.out.set n1 (4 + k) y).next HW.out (by omega) HY.out⟩⟩, by simp [intOf]; omega⟩
        · obtain rfl : k = 8 := by omega
          clear hlt hk
          rw [show ((8 : Nat) : Int) = 8 from rfl]
          obtain ⟨⟨v, hv⟩, hf⟩ := H.out.cell HW.out (by omega) 12 (by omega)
          go_wp2_with (fail)
          have H : Aside0 (ChA w (fillC L (13 + 0)) (wr.setCell { block := w.heap.size + 1, off := 12 } (.int .u32 (m : Int)))) := ⟨(H.out.set0 12 m).next HW.out (by omega) (W3.out.trans (Nat.mod_eq_of_lt hm))⟩
          clear hv hf
          generalize wr.setCell { block := w.heap.size + 1, off := 12 } (.int .u32 (m : Int)) = wr at *
          go_loopw [45] (fun i wr => ∃ k : Nat, k ≤ 3 ∧ i = .int .i64 k ∧ Aside0 (ChA w (fillC L (13 + k)) wr)) (fun i _ => 3 - (intOf i).toNat)
          case atStart => exact ⟨0, by omega, rfl, H⟩
          case round =>
            clear H
            obtain ⟨k, hk, rfl, H⟩ := hrel
            by_cases hlt : k < 3
            · obtain ⟨⟨v, hv⟩, hf⟩ := H.out.cell HW.out (by omega) (13 + k) (by omega)
              have HB := Aside0.mk (show lw4 (bys (a1.extract (4 * k) 12)) 0 = L.getD (13 + k) 0 by
                rw [bys_extract, lw4_take _ _ (by omega), lw4_drop, W4.out k hlt])
              have HSZ := Aside0.mk (show 4 ≤ (a1.extract (4 * k) 12).size by rw [ByteArray.size_extract]; omega)
              go_wp2_with (fail)
              refine (small_calls _ _ HSZ.out).mono ?_
              rintro e1 w1 ⟨rfl, n1, rfl⟩
              rw [HB.out]
              generalize hy : L.getD (13 + k) 0 = y
              have HY := Aside0.mk hy
              clear hy
              go_wp2
              exact ⟨⟨k + 1, by omega, by go_num, ⟨(H.out.set n1 (13 + k) y).next HW.out (by omega) HY.out⟩⟩, by simp [intOf]; omega⟩
            · obtain rfl : k = 3 := by omega
              clear hlt hk
              rw [show ((3 : Nat) : Int) = 3 from rfl]
              have H2 : ChA w L wr := by have := H.out; rwa [fillC_full L HW.out] at this
              have H := Aside0.mk H2
              clear H2
              have hi16 : (Try.prog.info? 78).map (·.size) = some (u32s L).size := by rw [u32s_size, HW.out]; kernel_rfl
              have hi16' : (u32s (List.replicate 16 0)).size = (u32s L).size := by rw [u32s_size, u32s_size, HW.out]; rfl
              have HI16 := Aside0.mk hi16
              have HI16' := Aside0.mk hi16'
              clear hi16 hi16'
              go_wp2_with (first | (refine wpList_load_row rfl 78 (.tmp 7) rfl (w.heap.size + 1) rfl 78 (u32s L) (0, 0) _ H.out.row Try.underlying78 rfl HI16.out ?_) | (refine wpList_store_row rfl 78 (.tmp 11) (.tmp 57) rfl _ (u32s L) rfl rfl 78 _ (heap_alloc_last _ _) HI16.out HI16'.out (u32s_one _) ?_; rw [World.setRow_alloc_new]))
              have H : Aside0 (ChR w wr.heap.size L (dbl L 0) (wr.alloc (.cells (u32s L) 78))) := ⟨⟨⟨below_alloc H.out.below _, blk_alloc H.out.out _, blk_alloc H.out.row _⟩, blk_lt H.out.row, heap_alloc_last _ _⟩⟩
              generalize wr.heap.size = g2 at *
              generalize wr.alloc (.cells (u32s L) 78) = wr at *
              go_loopw [58] (fun i wr => ∃ k : Nat, k ≤ 10 ∧ i = .int .i64 k ∧ Aside0 (ChR w g2 L (dbl L k) wr)) (fun i _ => 10 - (intOf i).toNat)
              case atStart => exact ⟨0, by omega, rfl, H⟩
              case round =>
                clear H
                obtain ⟨n, hn, rfl, H⟩ := hrel
                by_cases hlt : n < 10
                · go_wp2_with (fail)
                  go_loopw [60] (fun i wr => ∃ k : Nat, k ≤ 4 ∧ i = .int .i64 k ∧ Aside0 (ChR w g2 L (col (dbl L n) k) wr)) (fun i _ => 4 - (intOf i).toNat)
                  case atStart => exact ⟨0, by omega, rfl, H⟩
                  case round =>
                    clear H
                    obtain ⟨k, hk, rfl, H⟩ := hrel
                    by_cases hlk : k < 4
                    · obtain ⟨x0, x1, x2, x3, hq, c0, c1, c2, c3, f0, f1, f2, f3⟩ := H.out.four (col_small (dbl_small HSm.out n) k) (by rw [col_length, dbl_length, HW.out]) k (k + 4) (k + 8) (k + 12) (by omega) (by omega) (by omega) (by omega)
                      have HQ := Aside0.mk hq
                      clear hq
                      go_wp2_with (fail)
                      have q0 : (k : Int) < 16 := by omega
                      have j4 : wrap64 ((k : Int) + 4) = (k : Int) + 4 := by unfold wrap64; omega
                      have p4 : 0 ≤ (k : Int) + 4 := by omega
                      have q4 : (k : Int) + 4 < 16 := by omega
                      have n4 : ((k : Int) + 4).toNat = k + 4 := by omega
                      have j8 : wrap64 ((k : Int) + 8) = (k : Int) + 8 := by unfold wrap64; omega
                      have p8 : 0 ≤ (k : Int) + 8 := by omega
                      have q8 : (k : Int) + 8 < 16 := by omega
                      have n8 : ((k : Int) + 8).toNat = k + 8 := by omega
                      have j12 : wrap64 ((k : Int) + 12) = (k : Int) + 12 := by unfold wrap64; omega
                      have p12 : 0 ≤ (k : Int) + 12 := by omega
                      have q12 : (k : Int) + 12 < 16 := by omega
                      have n12 : ((k : Int) + 12).toNat = k + 12 := by omega
                      refine start_ (n := 36) (S := fun w' => w'.cell? ⟨w.heap.size + 1, k, none⟩ = some (.int .u32 (x0 : Int)) ∧ w'.cell? ⟨w.heap.size + 1, k + 4, none⟩ = some (.int .u32 (x1 : Int)) ∧ w'.cell? ⟨w.heap.size + 1, k + 8, none⟩ = some (.int .u32 (x2 : Int)) ∧ w'.cell? ⟨w.heap.size + 1, k + 12, none⟩ = some (.int .u32 (x3 : Int))) (ds := [29, 31, 33, 35]) #[false, false, false, false, false, false, false, false, false, false, false, false, false, false, false, false, false, false, false, false, false, false, false, false, false, false, false, false, false, false, false, false, false, false, false, false] (by kernel_rfl) rfl rfl ⟨(show _ from c0), (show _ from c1), (show _ from c2), (show _ from c3)⟩ (fun hHeld => ?_)
                      refine pure_ (i := 0) (N := some 64) (v := ?_) (a' := ?_) #[true, false, false, false, false, false, false, false, false, false, false, false, false, false, false, false, false, false, false, false, false, false, false, false, false, false, false, false, false, false, false, false, false, false, false, false] rfl rfl (by kernel_rfl) (fun _ _ _ h => h) (Or.inl ⟨by rfl, ?_⟩) ?_ ?_
                      rotate_left
                      · intro w'
                        go_simp
                        with_reducible rfl
                      rotate_left
                      · simp only [Act.put, List.setIfInBounds_toArray, List.set_cons_zero, List.set_cons_succ, i64_w, i32_w]
                        rfl
                      refine pure_ (i := 1) (N := some 65) (v := ?_) (a' := ?_) #[true, true, false, false, false, false, false, false, false, false, false, false, false, false, false, false, false, false, false, false, false, false, false, false, false, false, false, false, false, false, false, false, false, false, false, false] rfl rfl (by kernel_rfl) (fun _ _ _ h => h) (Or.inl ⟨by rfl, ?_⟩) ?_ ?_
                      rotate_left
                      · intro w'
                        go_simp
                        with_reducible rfl
                      rotate_left
                      · simp only [Act.put, List.setIfInBounds_toArray, List.set_cons_zero, List.set_cons_succ, i64_w, i32_w]
                        rfl
                      refine pure_ (i := 2) (N := some 66) (v := ?_) (a' := ?_) #[true, true, true, false, false, false, false, false, false, false, false, false, false, false, false, false, false, false, false, false, false, false, false, false, false, false, false, false, false, false, false, false, false, false, false, false] rfl rfl (by kernel_rfl) (fun _ _ _ h => h) (Or.inl ⟨by rfl, ?_⟩) ?_ ?_
                      rotate_left
                      · intro w'
                        go_simp
                        with_reducible rfl
                      rotate_left
                      · simp only [Act.put, List.setIfInBounds_toArray, List.set_cons_zero, List.set_cons_succ, i64_w, i32_w]
                        rfl
                      refine pure_ (i := 3) (N := some 67) (v := ?_) (a' := ?_) #[true, true, true, true, false, false, false, false, false, false, false, false, false, false, false, false, false, false, false, false, false, false, false, false, false, false, false, false, false, false, false, false, false, false, false, false] rfl rfl (by kernel_rfl) (fun _ _ _ h => h) (Or.inl ⟨by rfl, ?_⟩) ?_ ?_
                      rotate_left
                      · intro w'
                        go_simp
                        with_reducible rfl
                      rotate_left
                      · simp only [Act.put, List.setIfInBounds_toArray, List.set_cons_zero, List.set_cons_succ, i64_w, i32_w]
                        rfl
                      refine pure_ (i := 4) (N := some 68) (v := ?_) (a' := ?_) #[true, true, true, true, true, false, false, false, false, false, false, false, false, false, false, false, false, false, false, false, false, false, false, false, false, false, false, false, false, false, false, false, false, false, false, false] rfl rfl (by kernel_rfl) (fun _ _ _ h => h) (Or.inl ⟨by rfl, ?_⟩) ?_ ?_
                      rotate_left
                      · intro w'
                        go_simp
                        with_reducible rfl
                      rotate_left
                      · simp only [Act.put, List.setIfInBounds_toArray, List.set_cons_zero, List.set_cons_succ, i64_w, i32_w]
                        rfl
                      refine pure_ (i := 5) (N := some 69) (v := ?_) (a' := ?_) #[true, true, true, true, true, true, false, false, false, false, false, false, false, false, false, false, false, false, false, false, false, false, false, false, false, false, false, false, false, false, false, false, false, false, false, false] rfl rfl (by kernel_rfl) (fun _ _ _ h => h) (Or.inl ⟨by rfl, ?_⟩) ?_ ?_
                      rotate_left
                      · intro w'
                        go_simp
                        with_reducible rfl
                      rotate_left
                      · simp only [Act.put, List.setIfInBounds_toArray, List.set_cons_zero, List.set_cons_succ, i64_w, i32_w]
                        rfl
                      refine pure_ (i := 6) (N := some 70) (v := ?_) (a' := ?_) #[true, true, true, true, true, true, true, false, false, false, false, false, false, false, false, false, false, false, false, false, false, false, false, false, false, false, false, false, false, false, false, false, false, false, false, false] rfl rfl (by kernel_rfl) (fun _ _ _ h => h) (Or.inl ⟨by rfl, ?_⟩) ?_ ?_
                      rotate_left
                      · intro w'
                        go_simp
                        with_reducible rfl
                      rotate_left
                      · simp only [Act.put, List.setIfInBounds_toArray, List.set_cons_zero, List.set_cons_succ, i64_w, i32_w]
                        rfl
                      refine pure_ (i := 7) (N := some 71) (v := ?_) (a' := ?_) #[true, true, true, true, true, true, true, true, false, false, false, false, false, false, false, false, false, false, false, false, false, false, false, false, false, false, false, false, false, false, false, false, false, false, false, false] rfl rfl (by kernel_rfl) (fun _ _ _ h => h) (Or.inl ⟨by rfl, ?_⟩) ?_ ?_
                      rotate_left
                      · intro w'
                        go_simp
                        with_reducible rfl
                      rotate_left
                      · simp only [Act.put, List.setIfInBounds_toArray, List.set_cons_zero, List.set_cons_succ, i64_w, i32_w]
                        rfl
                      refine pure_ (i := 8) (N := some 72) (v := ?_) (a' := ?_) #[true, true, true, true, true, true, true, true, true, false, false, false, false, false, false, false, false, false, false, false, false, false, false, false, false, false, false, false, false, false, false, false, false, false, false, false] rfl rfl (by kernel_rfl) (fun _ _ _ h => h) (Or.inl ⟨by rfl, ?_⟩) ?_ ?_
                      rotate_left
                      · intro w'
                        go_simp
                        with_reducible rfl
                      rotate_left
                      · simp only [Act.put, List.setIfInBounds_toArray, List.set_cons_zero, List.set_cons_succ, i64_w, i32_w]
                        rfl
                      refine pure_ (i := 10) (N := some 74) (v := ?_) (a' := ?_) #[true, true, true, true, true, true, true, true, true, false, true, false, false, false, false, false, false, false, false, false, false, false, false, false, false, false, false, false, false, false, false, false, false, false, false, false] rfl rfl (by kernel_rfl) (fun _ _ _ h => h) (Or.inl ⟨by rfl, ?_⟩) ?_ ?_
                      rotate_left
                      · intro w'
                        go_simp
                        with_reducible rfl
                      rotate_left
                      · simp only [Act.put, List.setIfInBounds_toArray, List.set_cons_zero, List.set_cons_succ, i64_w, i32_w]
                        rfl
                      refine pure_ (i := 11) (N := some 75) (v := ?_) (a' := ?_) #[true, true, true, true, true, true, true, true, true, false, true, true, false, false, false, false, false, false, false, false, false, false, false, false, false, false, false, false, false, false, false, false, false, false, false, false] rfl rfl (by kernel_rfl) (fun _ _ _ h => h) (Or.inl ⟨by rfl, ?_⟩) ?_ ?_
                      rotate_left
                      · intro w'
                        go_simp
                        with_reducible rfl
                      rotate_left
                      · simp only [Act.put, List.setIfInBounds_toArray, List.set_cons_zero, List.set_cons_succ, i64_w, i32_w]
                        rfl
                      refine pure_ (i := 12) (N := some 76) (v := ?_) (a' := ?_) #[true, true, true, true, true, true, true, true, true, false, true, true, true, false, false, false, false, false, false, false, false, false, false, false, false, false, false, false, false, false, false, false, false, false, false, false] rfl rfl (by kernel_rfl) (fun _ _ _ h => h) (Or.inl ⟨by rfl, ?_⟩) ?_ ?_
                      rotate_left
                      · intro w'
                        go_simp
                        with_reducible rfl
                      rotate_left
                      · simp only [Act.put, List.setIfInBounds_toArray, List.set_cons_zero, List.set_cons_succ, i64_w, i32_w]
                        rfl
                      refine pure_ (i := 14) (N := some 78) (v := ?_) (a' := ?_) #[true, true, true, true, true, true, true, true, true, false, true, true, true, false, true, false, false, false, false, false, false, false, false, false, false, false, false, false, false, false, false, false, false, false, false, false] rfl rfl (by kernel_rfl) (fun _ _ _ h => h) (Or.inl ⟨by rfl, ?_⟩) ?_ ?_
                      rotate_left
                      · intro w'
                        go_simp
                        with_reducible rfl
                      rotate_left
                      · simp only [Act.put, List.setIfInBounds_toArray, List.set_cons_zero, List.set_cons_succ, i64_w, i32_w]
                        rfl
                      refine pure_ (i := 15) (N := some 79) (v := ?_) (a' := ?_) #[true, true, true, true, true, true, true, true, true, false, true, true, true, false, true, true, false, false, false, false, false, false, false, false, false, false, false, false, false, false, false, false, false, false, false, false] rfl rfl (by kernel_rfl) (fun _ _ _ h => h) (Or.inl ⟨by rfl, ?_⟩) ?_ ?_
                      rotate_left
                      · intro w'
                        go_simp
                        with_reducible rfl
                      rotate_left
                      · simp only [Act.put, List.setIfInBounds_toArray, List.set_cons_zero, List.set_cons_succ, i64_w, i32_w]
                        rfl
                      refine pure_ (i := 16) (N := some 80) (v := ?_) (a' := ?_) #[true, true, true, true, true, true, true, true, true, false, true, true, true, false, true, true, true, false, false, false, false, false, false, false, false, false, false, false, false, false, false, false, false, false, false, false] rfl rfl (by kernel_rfl) (fun _ _ _ h => h) (Or.inl ⟨by rfl, ?_⟩) ?_ ?_
                      rotate_left
                      · intro w'
                        go_simp
                        with_reducible rfl
                      rotate_left
                      · simp only [Act.put, List.setIfInBounds_toArray, List.set_cons_zero, List.set_cons_succ, i64_w, i32_w]
                        rfl
                      refine pure_ (i := 18) (N := some 82) (v := ?_) (a' := ?_) #[true, true, true, true, true, true, true, true, true, false, true, true, true, false, true, true, true, false, true, false, false, false, false, false, false, false, false, false, false, false, false, false, false, false, false, false] rfl rfl (by kernel_rfl) (fun _ _ _ h => h) (Or.inl ⟨by rfl, ?_⟩) ?_ ?_
                      rotate_left
                      · intro w'
                        go_simp
                        with_reducible rfl
                      rotate_left
                      · simp only [Act.put, List.setIfInBounds_toArray, List.set_cons_zero, List.set_cons_succ, i64_w, i32_w]
                        rfl
                      refine pure_ (i := 19) (N := some 83) (v := ?_) (a' := ?_) #[true, true, true, true, true, true, true, true, true, false, true, true, true, false, true, true, true, false, true, true, false, false, false, false, false, false, false, false, false, false, false, false, false, false, false, false] rfl rfl (by kernel_rfl) (fun _ _ _ h => h) (Or.inl ⟨by rfl, ?_⟩) ?_ ?_
                      rotate_left
                      · intro w'
                        go_simp
                        with_reducible rfl
                      rotate_left
                      · simp only [Act.put, List.setIfInBounds_toArray, List.set_cons_zero, List.set_cons_succ, i64_w, i32_w]
                        rfl
                      refine pure_ (i := 20) (N := some 84) (v := ?_) (a' := ?_) #[true, true, true, true, true, true, true, true, true, false, true, true, true, false, true, true, true, false, true, true, true, false, false, false, false, false, false, false, false, false, false, false, false, false, false, false] rfl rfl (by kernel_rfl) (fun _ _ _ h => h) (Or.inl ⟨by rfl, ?_⟩) ?_ ?_
                      rotate_left
                      · intro w'
                        go_simp
                        with_reducible rfl
                      rotate_left
                      · simp only [Act.put, List.setIfInBounds_toArray, List.set_cons_zero, List.set_cons_succ, i64_w, i32_w]
                        rfl
                      refine take_ (i := 9) (N := some 73) (v := ?_) (a' := ?_) #[true, true, true, true, true, true, true, true, true, true, true, true, true, false, true, true, true, false, true, true, true, false, false, false, false, false, false, false, false, false, false, false, false, false, false, false] rfl rfl (by kernel_rfl) (fun _ _ _ h => h) (Or.inl ⟨by rfl, ?_⟩) hHeld ?_ ?_
                      rotate_left
                      · rintro w' ⟨s0, s1, s2, s3⟩
                        go_simp
                        with_reducible rfl
                      rotate_left
                      · simp only [Act.put, List.setIfInBounds_toArray, List.set_cons_zero, List.set_cons_succ, i64_w, i32_w]
                        rfl
                      refine take_ (i := 13) (N := some 77) (v := ?_) (a' := ?_) #[true, true, true, true, true, true, true, true, true, true, true, true, true, true, true, true, true, false, true, true, true, false, false, false, false, false, false, false, false, false, false, false, false, false, false, false] rfl rfl (by kernel_rfl) (fun _ _ _ h => h) (Or.inl ⟨by rfl, ?_⟩) hHeld ?_ ?_
                      rotate_left
                      · rintro w' ⟨s0, s1, s2, s3⟩
                        go_simp
                        with_reducible rfl
                      rotate_left
                      · simp only [Act.put, List.setIfInBounds_toArray, List.set_cons_zero, List.set_cons_succ, i64_w, i32_w]
                        rfl
                      refine take_ (i := 17) (N := some 81) (v := ?_) (a' := ?_) #[true, true, true, true, true, true, true, true, true, true, true, true, true, true, true, true, true, true, true, true, true, false, false, false, false, false, false, false, false, false, false, false, false, false, false, false] rfl rfl (by kernel_rfl) (fun _ _ _ h => h) (Or.inl ⟨by rfl, ?_⟩) hHeld ?_ ?_
                      rotate_left
                      · rintro w' ⟨s0, s1, s2, s3⟩
                        go_simp
                        with_reducible rfl
                      rotate_left
                      · simp only [Act.put, List.setIfInBounds_toArray, List.set_cons_zero, List.set_cons_succ, i64_w, i32_w]
                        rfl
                      refine take_ (i := 21) (N := some 85) (v := ?_) (a' := ?_) #[true, true, true, true, true, true, true, true, true, true, true, true, true, true, true, true, true, true, true, true, true, true, false, false, false, false, false, false, false, false, false, false, false, false, false, false] rfl rfl (by kernel_rfl) (fun _ _ _ h => h) (Or.inl ⟨by rfl, ?_⟩) hHeld ?_ ?_
                      rotate_left
                      · rintro w' ⟨s0, s1, s2, s3⟩
                        go_simp
                        with_reducible rfl
                      rotate_left
                      · simp only [Act.put, List.setIfInBounds_toArray, List.set_cons_zero, List.set_cons_succ, i64_w, i32_w]
                        rfl
                      refine one_ (i := 22) (N := some 86) #[true, true, true, true, true, true, true, true, true, true, true, true, true, true, true, true, true, true, true, true, true, true, true, false, false, false, false, false, false, false, false, false, false, false, false, false] rfl rfl (by kernel_rfl) (by decide) (fun K hK => ?_)
                      refine goes_ Try.func75 (by kernel_rfl) rfl #[.int .u32 (x0 : Int), .int .u32 (x1 : Int), .int .u32 (x2 : Int), .int .u32 (x3 : Int)] (by rfl) rfl rfl (by simp only [List.map_toArray, List.map_cons, List.map_nil]; rfl) ?_
                      with_reducible refine (quarter_calls x0 x1 x2 x3 _ HQ.out.la HQ.out.lb HQ.out.lc HQ.out.ld).mono ?_
                      rintro e w3 ⟨rfl, ⟨nd, rfl⟩⟩
                      refine ⟨_, rfl, ?_⟩
                      refine hK.out _ _ ⟨(show _ from c0), (show _ from c1), (show _ from c2), (show _ from c3)⟩ (fun hHeld => ?_)
                      clear hK K
                      refine norm_ (a' := ?_) ?_ ?_
                      rotate_left
                      · show Act.put _ (some 86) _ = _
                        simp only [Act.put, List.setIfInBounds_toArray, List.set_cons_zero, List.set_cons_succ, i64_w, i32_w]
                        rfl
                      refine pure_ (i := 23) (N := some 63) (v := ?_) (a' := ?_) #[true, true, true, true, true, true, true, true, true, true, true, true, true, true, true, true, true, true, true, true, true, true, true, true, false, false, false, false, false, false, false, false, false, false, false, false] rfl rfl (by kernel_rfl) (fun _ _ _ h => h) (Or.inl ⟨by rfl, ?_⟩) ?_ ?_
                      rotate_left
                      · intro w'
                        go_simp
                        with_reducible rfl
                      rotate_left
                      · simp only [Act.put, List.setIfInBounds_toArray, List.set_cons_zero, List.set_cons_succ, i64_w, i32_w]
                        rfl
                      refine pure_ (i := 24) (N := some 87) (v := ?_) (a' := ?_) #[true, true, true, true, true, true, true, true, true, true, true, true, true, true, true, true, true, true, true, true, true, true, true, true, true, false, false, false, false, false, false, false, false, false, false, false] rfl rfl (by kernel_rfl) (fun _ _ _ h => h) (Or.inl ⟨by rfl, ?_⟩) ?_ ?_
                      rotate_left
                      · intro w'
                        go_simp
                        with_reducible rfl
                      rotate_left
                      · simp only [Act.put, List.setIfInBounds_toArray, List.set_cons_zero, List.set_cons_succ, i64_w, i32_w]
                        rfl
                      refine pure_ (i := 25) (N := some 88) (v := ?_) (a' := ?_) #[true, true, true, true, true, true, true, true, true, true, true, true, true, true, true, true, true, true, true, true, true, true, true, true, true, true, false, false, false, false, false, false, false, false, false, false] rfl rfl (by kernel_rfl) (fun _ _ _ h => h) (Or.inl ⟨by rfl, ?_⟩) ?_ ?_
                      rotate_left
                      · intro w'
                        go_simp
                        with_reducible rfl
                      rotate_left
                      · simp only [Act.put, List.setIfInBounds_toArray, List.set_cons_zero, List.set_cons_succ, i64_w, i32_w]
                        rfl
                      refine pure_ (i := 26) (N := some 89) (v := ?_) (a' := ?_) #[true, true, true, true, true, true, true, true, true, true, true, true, true, true, true, true, true, true, true, true, true, true, true, true, true, true, true, false, false, false, false, false, false, false, false, false] rfl rfl (by kernel_rfl) (fun _ _ _ h => h) (Or.inl ⟨by rfl, ?_⟩) ?_ ?_
                      rotate_left
                      · intro w'
                        go_simp
                        with_reducible rfl
                      rotate_left
                      · simp only [Act.put, List.setIfInBounds_toArray, List.set_cons_zero, List.set_cons_succ, i64_w, i32_w]
                        rfl
                      refine pure_ (i := 27) (N := some 90) (v := ?_) (a' := ?_) #[true, true, true, true, true, true, true, true, true, true, true, true, true, true, true, true, true, true, true, true, true, true, true, true, true, true, true, true, false, false, false, false, false, false, false, false] rfl rfl (by kernel_rfl) (fun _ _ _ h => h) (Or.inl ⟨by rfl, ?_⟩) ?_ ?_
                      rotate_left
                      · intro w'
                        go_simp
                        with_reducible rfl
                      rotate_left
                      · simp only [Act.put, List.setIfInBounds_toArray, List.set_cons_zero, List.set_cons_succ, i64_w, i32_w]
                        rfl
                      refine pure_ (i := 28) (N := some 91) (v := ?_) (a' := ?_) #[true, true, true, true, true, true, true, true, true, true, true, true, true, true, true, true, true, true, true, true, true, true, true, true, true, true, true, true, true, false, false, false, false, false, false, false] rfl rfl (by kernel_rfl) (fun _ _ _ h => h) (Or.inl ⟨by rfl, ?_⟩) ?_ ?_
                      rotate_left
                      · intro w'
                        go_simp
                        with_reducible rfl
                      rotate_left
                      · simp only [Act.put, List.setIfInBounds_toArray, List.set_cons_zero, List.set_cons_succ, i64_w, i32_w]
                        rfl
                      refine last_ (i := 29) (N := none) #[true, true, true, true, true, true, true, true, true, true, true, true, true, true, true, true, true, true, true, true, true, true, true, true, true, true, true, true, true, true, false, false, false, false, false, false] rfl rfl (by kernel_rfl) (by decide) (fun K hK => ?_)
                      refine skip_ (w1 := ?_) (by rfl) rfl ?_ ?_
                      rotate_left
                      · go_simp
                        rfl
                      refine hK.out _ _ ?_
                      clear hK K
                      refine pure_ (i := 30) (N := some 92) (v := ?_) (a' := ?_) #[true, true, true, true, true, true, true, true, true, true, true, true, true, true, true, true, true, true, true, true, true, true, true, true, true, true, true, true, true, true, true, false, false, false, false, false] rfl rfl (by kernel_rfl) (fun _ _ _ h => h) (Or.inl ⟨by rfl, ?_⟩) ?_ ?_
                      rotate_left
                      · intro w'
                        go_simp
                        with_reducible rfl
                      rotate_left
                      · simp only [Act.put, List.setIfInBounds_toArray, List.set_cons_zero, List.set_cons_succ, i64_w, i32_w]
                        rfl
                      refine last_ (i := 31) (N := none) #[true, true, true, true, true, true, true, true, true, true, true, true, true, true, true, true, true, true, true, true, true, true, true, true, true, true, true, true, true, true, true, true, false, false, false, false] rfl rfl (by kernel_rfl) (by decide) (fun K hK => ?_)
                      refine skip_ (w1 := ?_) (by rfl) rfl ?_ ?_
                      rotate_left
                      · go_simp
                        rfl
                      refine hK.out _ _ ?_
                      clear hK K
                      refine pure_ (i := 32) (N := some 93) (v := ?_) (a' := ?_) #[true, true, true, true, true, true, true, true, true, true, true, true, true, true, true, true, true, true, true, true, true, true, true, true, true, true, true, true, true, true, true, true, true, false, false, false] rfl rfl (by kernel_rfl) (fun _ _ _ h => h) (Or.inl ⟨by rfl, ?_⟩) ?_ ?_
                      rotate_left
                      · intro w'
                        go_simp
                        with_reducible rfl
                      rotate_left
                      · simp only [Act.put, List.setIfInBounds_toArray, List.set_cons_zero, List.set_cons_succ, i64_w, i32_w]
                        rfl
                      refine last_ (i := 33) (N := none) #[true, true, true, true, true, true, true, true, true, true, true, true, true, true, true, true, true, true, true, true, true, true, true, true, true, true, true, true, true, true, true, true, true, true, false, false] rfl rfl (by kernel_rfl) (by decide) (fun K hK => ?_)
                      refine skip_ (w1 := ?_) (by rfl) rfl ?_ ?_
                      rotate_left
                      · go_simp
                        rfl
                      refine hK.out _ _ ?_
                      clear hK K
                      refine pure_ (i := 34) (N := some 94) (v := ?_) (a' := ?_) #[true, true, true, true, true, true, true, true, true, true, true, true, true, true, true, true, true, true, true, true, true, true, true, true, true, true, true, true, true, true, true, true, true, true, true, false] rfl rfl (by kernel_rfl) (fun _ _ _ h => h) (Or.inl ⟨by rfl, ?_⟩) ?_ ?_
                      rotate_left
                      · intro w'
                        go_simp
                        with_reducible rfl
                      rotate_left
                      · simp only [Act.put, List.setIfInBounds_toArray, List.set_cons_zero, List.set_cons_succ, i64_w, i32_w]
                        rfl
                      refine last_ (i := 35) (N := none) #[true, true, true, true, true, true, true, true, true, true, true, true, true, true, true, true, true, true, true, true, true, true, true, true, true, true, true, true, true, true, true, true, true, true, true, true] rfl rfl (by kernel_rfl) (by decide) (fun K hK => ?_)
                      refine skip_ (w1 := ?_) (by rfl) rfl ?_ ?_
                      rotate_left
                      · go_simp
                        rfl
                      refine hK.out _ _ ?_
                      clear hK K
                      refine done_ (by kernel_rfl) ?_
                      clear q0 j4 p4 q4 n4 j8 p8 q8 n8 j12 p12 q12 n12 hHeld c0 c1 c2 c3 f0 f1 f2 f3
                      go_wp2
                      exact ⟨⟨k + 1, by omega, by go_num, ⟨H.out.quad HQ.out (1 + nd)⟩⟩, by simp [intOf]; omega⟩
                    · obtain rfl : k = 4 := by omega
                      clear hlk hk
                      rw [show ((4 : Nat) : Int) = 4 from rfl]
                      go_wp2_with (fail)
                      go_loopw [96] (fun i wr => ∃ k : Nat, k ≤ 4 ∧ i = .int .i64 k ∧ Aside0 (ChR w g2 L (dia (col (dbl L n) 4) k) wr)) (fun i _ => 4 - (intOf i).toNat)
                      case atStart => exact ⟨0, by omega, rfl, H⟩
                      case round =>
                        clear H
                        obtain ⟨k, hk, rfl, H⟩ := hrel
                        by_cases hlk : k < 4
                        · have eb : 4 + ((k : Int) + 1) % 4 = ((4 + (k + 1) % 4 : Nat) : Int) := by omega
                          have ec : 8 + ((k : Int) + 2) % 4 = ((8 + (k + 2) % 4 : Nat) : Int) := by omega
                          have ed : 12 + ((k : Int) + 3) % 4 = ((12 + (k + 3) % 4 : Nat) : Int) := by omega
                          have EB := Aside0.mk eb
                          have EC := Aside0.mk ec
                          have ED := Aside0.mk ed
                          clear eb ec ed
                          go_wp2_with (fail)
                          rw [EB.out, EC.out, ED.out]
                          have b4 : 4 ≤ 4 + (k + 1) % 4 := by omega
                          have b8 : 4 + (k + 1) % 4 < 8 := by omega
                          have d8 : 8 ≤ 8 + (k + 2) % 4 := by omega
                          have d12 : 8 + (k + 2) % 4 < 12 := by omega
                          have e12 : 12 ≤ 12 + (k + 3) % 4 := by omega
                          have e16 : 12 + (k + 3) % 4 < 16 := by omega
                          have hdia : dia (col (dbl L n) 4) (k + 1) = qr (dia (col (dbl L n) 4) k) k (4 + (k + 1) % 4) (8 + (k + 2) % 4) (12 + (k + 3) % 4) := rfl
                          generalize 4 + (k + 1) % 4 = b at *
                          generalize 8 + (k + 2) % 4 = c at *
                          generalize 12 + (k + 3) % 4 = d at *
                          have HD := Aside0.mk hdia
                          clear hdia EB EC ED
                          obtain ⟨x0, x1, x2, x3, hq, c0, c1, c2, c3, f0, f1, f2, f3⟩ := H.out.four (dia_small (col_small (dbl_small HSm.out n) 4) k) (by rw [dia_length, col_length, dbl_length, HW.out]) k b c d (by omega) (by omega) (by omega) (by omega)
                          have HQ := Aside0.mk hq
                          clear hq
                          have n1 : ¬ b = k := by omega
                          have n2 : ¬ c = k := by omega
                          have n3 : ¬ d = k := by omega
                          have n4 : ¬ c = b := by omega
                          have n5 : ¬ d = b := by omega
                          have n6 : ¬ d = c := by omega
                          have m1 : ¬ k = b := by omega
                          have m2 : ¬ k = c := by omega
                          have m3 : ¬ k = d := by omega
                          have m4 : ¬ b = c := by omega
                          have m5 : ¬ b = d := by omega
                          have m6 : ¬ c = d := by omega
                          have q0 : (k : Int) < 16 := by omega
                          have q4 : (b : Int) < 16 := by omega
                          have q8 : (c : Int) < 16 := by omega
                          have q12 : (d : Int) < 16 := by omega
                          refine start_ (n := 30) (S := fun w' => w'.cell? ⟨w.heap.size + 1, k, none⟩ = some (.int .u32 (x0 : Int)) ∧ w'.cell? ⟨w.heap.size + 1, b, none⟩ = some (.int .u32 (x1 : Int)) ∧ w'.cell? ⟨w.heap.size + 1, c, none⟩ = some (.int .u32 (x2 : Int)) ∧ w'.cell? ⟨w.heap.size + 1, d, none⟩ = some (.int .u32 (x3 : Int))) (ds := [23, 25, 27, 29]) #[false, false, false, false, false, false, false, false, false, false, false, false, false, false, false, false, false, false, false, false, false, false, false, false, false, false, false, false, false, false] (by kernel_rfl) rfl rfl ⟨(show _ from c0), (show _ from c1), (show _ from c2), (show _ from c3)⟩ (fun hHeld => ?_)
                          refine pure_ (i := 0) (N := some 112) (v := ?_) (a' := ?_) #[true, false, false, false, false, false, false, false, false, false, false, false, false, false, false, false, false, false, false, false, false, false, false, false, false, false, false, false, false, false] rfl rfl (by kernel_rfl) (fun _ _ _ h => h) (Or.inl ⟨by rfl, ?_⟩) ?_ ?_
                          rotate_left
                          · intro w'
                            go_simp
                            with_reducible rfl
                          rotate_left
                          · simp only [Act.put, List.setIfInBounds_toArray, List.set_cons_zero, List.set_cons_succ, i64_w, i32_w]
                            rfl
                          refine pure_ (i := 1) (N := some 113) (v := ?_) (a' := ?_) #[true, true, false, false, false, false, false, false, false, false, false, false, false, false, false, false, false, false, false, false, false, false, false, false, false, false, false, false, false, false] rfl rfl (by kernel_rfl) (fun _ _ _ h => h) (Or.inl ⟨by rfl, ?_⟩) ?_ ?_
                          rotate_left
                          · intro w'
                            go_simp
                            with_reducible rfl
                          rotate_left
                          · simp only [Act.put, List.setIfInBounds_toArray, List.set_cons_zero, List.set_cons_succ, i64_w, i32_w]
                            rfl
                          refine pure_ (i := 2) (N := some 114) (v := ?_) (a' := ?_) #[true, true, true, false, false, false, false, false, false, false, false, false, false, false, false, false, false, false, false, false, false, false, false, false, false, false, false, false, false, false] rfl rfl (by kernel_rfl) (fun _ _ _ h => h) (Or.inl ⟨by rfl, ?_⟩) ?_ ?_
                          rotate_left
                          · intro w'
                            go_simp
                            with_reducible rfl
                          rotate_left
                          · simp only [Act.put, List.setIfInBounds_toArray, List.set_cons_zero, List.set_cons_succ, i64_w, i32_w]
                            rfl
                          refine pure_ (i := 3) (N := some 115) (v := ?_) (a' := ?_) #[true, true, true, true, false, false, false, false, false, false, false, false, false, false, false, false, false, false, false, false, false, false, false, false, false, false, false, false, false, false] rfl rfl (by kernel_rfl) (fun _ _ _ h => h) (Or.inl ⟨by rfl, ?_⟩) ?_ ?_
                          rotate_left
                          · intro w'
                            go_simp
                            with_reducible rfl
                          rotate_left
                          · simp only [Act.put, List.setIfInBounds_toArray, List.set_cons_zero, List.set_cons_succ, i64_w, i32_w]
                            rfl
                          refine pure_ (i := 4) (N := some 116) (v := ?_) (a' := ?_) #[true, true, true, true, true, false, false, false, false, false, false, false, false, false, false, false, false, false, false, false, false, false, false, false, false, false, false, false, false, false] rfl rfl (by kernel_rfl) (fun _ _ _ h => h) (Or.inl ⟨by rfl, ?_⟩) ?_ ?_
                          rotate_left
                          · intro w'
                            go_simp
                            with_reducible rfl
                          rotate_left
                          · simp only [Act.put, List.setIfInBounds_toArray, List.set_cons_zero, List.set_cons_succ, i64_w, i32_w]
                            rfl
                          refine pure_ (i := 5) (N := some 117) (v := ?_) (a' := ?_) #[true, true, true, true, true, true, false, false, false, false, false, false, false, false, false, false, false, false, false, false, false, false, false, false, false, false, false, false, false, false] rfl rfl (by kernel_rfl) (fun _ _ _ h => h) (Or.inl ⟨by rfl, ?_⟩) ?_ ?_
                          rotate_left
                          · intro w'
                            go_simp
                            with_reducible rfl
                          rotate_left
                          · simp only [Act.put, List.setIfInBounds_toArray, List.set_cons_zero, List.set_cons_succ, i64_w, i32_w]
                            rfl
                          refine pure_ (i := 7) (N := some 119) (v := ?_) (a' := ?_) #[true, true, true, true, true, true, false, true, false, false, false, false, false, false, false, false, false, false, false, false, false, false, false, false, false, false, false, false, false, false] rfl rfl (by kernel_rfl) (fun _ _ _ h => h) (Or.inl ⟨by rfl, ?_⟩) ?_ ?_
                          rotate_left
                          · intro w'
                            go_simp
                            with_reducible rfl
                          rotate_left
                          · simp only [Act.put, List.setIfInBounds_toArray, List.set_cons_zero, List.set_cons_succ, i64_w, i32_w]
                            rfl
                          refine pure_ (i := 8) (N := some 120) (v := ?_) (a' := ?_) #[true, true, true, true, true, true, false, true, true, false, false, false, false, false, false, false, false, false, false, false, false, false, false, false, false, false, false, false, false, false] rfl rfl (by kernel_rfl) (fun _ _ _ h => h) (Or.inl ⟨by rfl, ?_⟩) ?_ ?_
                          rotate_left
                          · intro w'
                            go_simp
                            with_reducible rfl
                          rotate_left
                          · simp only [Act.put, List.setIfInBounds_toArray, List.set_cons_zero, List.set_cons_succ, i64_w, i32_w]
                            rfl
                          refine pure_ (i := 10) (N := some 122) (v := ?_) (a' := ?_) #[true, true, true, true, true, true, false, true, true, false, true, false, false, false, false, false, false, false, false, false, false, false, false, false, false, false, false, false, false, false] rfl rfl (by kernel_rfl) (fun _ _ _ h => h) (Or.inl ⟨by rfl, ?_⟩) ?_ ?_
                          rotate_left
                          · intro w'
                            go_simp
                            with_reducible rfl
                          rotate_left
                          · simp only [Act.put, List.setIfInBounds_toArray, List.set_cons_zero, List.set_cons_succ, i64_w, i32_w]
                            rfl
                          refine pure_ (i := 11) (N := some 123) (v := ?_) (a' := ?_) #[true, true, true, true, true, true, false, true, true, false, true, true, false, false, false, false, false, false, false, false, false, false, false, false, false, false, false, false, false, false] rfl rfl (by kernel_rfl) (fun _ _ _ h => h) (Or.inl ⟨by rfl, ?_⟩) ?_ ?_
                          rotate_left
                          · intro w'
                            go_simp
                            with_reducible rfl
                          rotate_left
                          · simp only [Act.put, List.setIfInBounds_toArray, List.set_cons_zero, List.set_cons_succ, i64_w, i32_w]
                            rfl
                          refine pure_ (i := 13) (N := some 125) (v := ?_) (a' := ?_) #[true, true, true, true, true, true, false, true, true, false, true, true, false, true, false, false, false, false, false, false, false, false, false, false, false, false, false, false, false, false] rfl rfl (by kernel_rfl) (fun _ _ _ h => h) (Or.inl ⟨by rfl, ?_⟩) ?_ ?_
                          rotate_left
                          · intro w'
                            go_simp
                            with_reducible rfl
                          rotate_left
                          · simp only [Act.put, List.setIfInBounds_toArray, List.set_cons_zero, List.set_cons_succ, i64_w, i32_w]
                            rfl
                          refine pure_ (i := 14) (N := some 126) (v := ?_) (a' := ?_) #[true, true, true, true, true, true, false, true, true, false, true, true, false, true, true, false, false, false, false, false, false, false, false, false, false, false, false, false, false, false] rfl rfl (by kernel_rfl) (fun _ _ _ h => h) (Or.inl ⟨by rfl, ?_⟩) ?_ ?_
                          rotate_left
                          · intro w'
                            go_simp
                            with_reducible rfl
                          rotate_left
                          · simp only [Act.put, List.setIfInBounds_toArray, List.set_cons_zero, List.set_cons_succ, i64_w, i32_w]
                            rfl
                          refine take_ (i := 6) (N := some 118) (v := ?_) (a' := ?_) #[true, true, true, true, true, true, true, true, true, false, true, true, false, true, true, false, false, false, false, false, false, false, false, false, false, false, false, false, false, false] rfl rfl (by kernel_rfl) (fun _ _ _ h => h) (Or.inl ⟨by rfl, ?_⟩) hHeld ?_ ?_
                          rotate_left
                          · rintro w' ⟨s0, s1, s2, s3⟩
                            go_simp
                            with_reducible rfl
                          rotate_left
                          · simp only [Act.put, List.setIfInBounds_toArray, List.set_cons_zero, List.set_cons_succ, i64_w, i32_w]
                            rfl
                          refine take_ (i := 9) (N := some 121) (v := ?_) (a' := ?_) #[true, true, true, true, true, true, true, true, true, true, true, true, false, true, true, false, false, false, false, false, false, false, false, false, false, false, false, false, false, false] rfl rfl (by kernel_rfl) (fun _ _ _ h => h) (Or.inl ⟨by rfl, ?_⟩) hHeld ?_ ?_
                          rotate_left
                          · rintro w' ⟨s0, s1, s2, s3⟩
                            go_simp
                            with_reducible rfl
                          rotate_left
                          · simp only [Act.put, List.setIfInBounds_toArray, List.set_cons_zero, List.set_cons_succ, i64_w, i32_w]
                            rfl
                          refine take_ (i := 12) (N := some 124) (v := ?_) (a' := ?_) #[true, true, true, true, true, true, true, true, true, true, true, true, true, true, true, false, false, false, false, false, false, false, false, false, false, false, false, false, false, false] rfl rfl (by kernel_rfl) (fun _ _ _ h => h) (Or.inl ⟨by rfl, ?_⟩) hHeld ?_ ?_
                          rotate_left
                          · rintro w' ⟨s0, s1, s2, s3⟩
                            go_simp
                            with_reducible rfl
                          rotate_left
                          · simp only [Act.put, List.setIfInBounds_toArray, List.set_cons_zero, List.set_cons_succ, i64_w, i32_w]
                            rfl
                          refine take_ (i := 15) (N := some 127) (v := ?_) (a' := ?_) #[true, true, true, true, true, true, true, true, true, true, true, true, true, true, true, true, false, false, false, false, false, false, false, false, false, false, false, false, false, false] rfl rfl (by kernel_rfl) (fun _ _ _ h => h) (Or.inl ⟨by rfl, ?_⟩) hHeld ?_ ?_
                          rotate_left
                          · rintro w' ⟨s0, s1, s2, s3⟩
                            go_simp
                            with_reducible rfl
                          rotate_left
                          · simp only [Act.put, List.setIfInBounds_toArray, List.set_cons_zero, List.set_cons_succ, i64_w, i32_w]
                            rfl
                          refine one_ (i := 16) (N := some 128) #[true, true, true, true, true, true, true, true, true, true, true, true, true, true, true, true, true, false, false, false, false, false, false, false, false, false, false, false, false, false] rfl rfl (by kernel_rfl) (by decide) (fun K hK => ?_)
                          refine goes_ Try.func75 (by kernel_rfl) rfl #[.int .u32 (x0 : Int), .int .u32 (x1 : Int), .int .u32 (x2 : Int), .int .u32 (x3 : Int)] (by rfl) rfl rfl (by simp only [List.map_toArray, List.map_cons, List.map_nil]; rfl) ?_
                          with_reducible refine (quarter_calls x0 x1 x2 x3 _ HQ.out.la HQ.out.lb HQ.out.lc HQ.out.ld).mono ?_
                          rintro e w3 ⟨rfl, ⟨nd, rfl⟩⟩
                          refine ⟨_, rfl, ?_⟩
                          refine hK.out _ _ ⟨(show _ from c0), (show _ from c1), (show _ from c2), (show _ from c3)⟩ (fun hHeld => ?_)
                          clear hK K
                          refine norm_ (a' := ?_) ?_ ?_
                          rotate_left
                          · show Act.put _ (some 128) _ = _
                            simp only [Act.put, List.setIfInBounds_toArray, List.set_cons_zero, List.set_cons_succ, i64_w, i32_w]
                            rfl
                          refine pure_ (i := 17) (N := some 111) (v := ?_) (a' := ?_) #[true, true, true, true, true, true, true, true, true, true, true, true, true, true, true, true, true, true, false, false, false, false, false, false, false, false, false, false, false, false] rfl rfl (by kernel_rfl) (fun _ _ _ h => h) (Or.inl ⟨by rfl, ?_⟩) ?_ ?_
                          rotate_left
                          · intro w'
                            go_simp
                            with_reducible rfl
                          rotate_left
                          · simp only [Act.put, List.setIfInBounds_toArray, List.set_cons_zero, List.set_cons_succ, i64_w, i32_w]
                            rfl
                          refine pure_ (i := 18) (N := some 129) (v := ?_) (a' := ?_) #[true, true, true, true, true, true, true, true, true, true, true, true, true, true, true, true, true, true, true, false, false, false, false, false, false, false, false, false, false, false] rfl rfl (by kernel_rfl) (fun _ _ _ h => h) (Or.inl ⟨by rfl, ?_⟩) ?_ ?_
                          rotate_left
                          · intro w'
                            go_simp
                            with_reducible rfl
                          rotate_left
                          · simp only [Act.put, List.setIfInBounds_toArray, List.set_cons_zero, List.set_cons_succ, i64_w, i32_w]
                            rfl
                          refine pure_ (i := 19) (N := some 130) (v := ?_) (a' := ?_) #[true, true, true, true, true, true, true, true, true, true, true, true, true, true, true, true, true, true, true, true, false, false, false, false, false, false, false, false, false, false] rfl rfl (by kernel_rfl) (fun _ _ _ h => h) (Or.inl ⟨by rfl, ?_⟩) ?_ ?_
                          rotate_left
                          · intro w'
                            go_simp
                            with_reducible rfl
                          rotate_left
                          · simp only [Act.put, List.setIfInBounds_toArray, List.set_cons_zero, List.set_cons_succ, i64_w, i32_w]
                            rfl
                          refine pure_ (i := 20) (N := some 131) (v := ?_) (a' := ?_) #[true, true, true, true, true, true, true, true, true, true, true, true, true, true, true, true, true, true, true, true, true, false, false, false, false, false, false, false, false, false] rfl rfl (by kernel_rfl) (fun _ _ _ h => h) (Or.inl ⟨by rfl, ?_⟩) ?_ ?_
                          rotate_left
                          · intro w'
                            go_simp
                            with_reducible rfl
                          rotate_left
                          · simp only [Act.put, List.setIfInBounds_toArray, List.set_cons_zero, List.set_cons_succ, i64_w, i32_w]
                            rfl
                          refine pure_ (i := 21) (N := some 132) (v := ?_) (a' := ?_) #[true, true, true, true, true, true, true, true, true, true, true, true, true, true, true, true, true, true, true, true, true, true, false, false, false, false, false, false, false, false] rfl rfl (by kernel_rfl) (fun _ _ _ h => h) (Or.inl ⟨by rfl, ?_⟩) ?_ ?_
                          rotate_left
                          · intro w'
                            go_simp
                            with_reducible rfl
                          rotate_left
                          · simp only [Act.put, List.setIfInBounds_toArray, List.set_cons_zero, List.set_cons_succ, i64_w, i32_w]
                            rfl
                          refine pure_ (i := 22) (N := some 133) (v := ?_) (a' := ?_) #[true, true, true, true, true, true, true, true, true, true, true, true, true, true, true, true, true, true, true, true, true, true, true, false, false, false, false, false, false, false] rfl rfl (by kernel_rfl) (fun _ _ _ h => h) (Or.inl ⟨by rfl, ?_⟩) ?_ ?_
                          rotate_left
                          · intro w'
                            go_simp
                            with_reducible rfl
                          rotate_left
                          · simp only [Act.put, List.setIfInBounds_toArray, List.set_cons_zero, List.set_cons_succ, i64_w, i32_w]
                            rfl
                          refine last_ (i := 23) (N := none) #[true, true, true, true, true, true, true, true, true, true, true, true, true, true, true, true, true, true, true, true, true, true, true, true, false, false, false, false, false, false] rfl rfl (by kernel_rfl) (by decide) (fun K hK => ?_)
                          refine skip_ (w1 := ?_) (by rfl) rfl ?_ ?_
                          rotate_left
                          · go_simp
                            rfl
                          refine hK.out _ _ ?_
                          clear hK K
                          refine pure_ (i := 24) (N := some 134) (v := ?_) (a' := ?_) #[true, true, true, true, true, true, true, true, true, true, true, true, true, true, true, true, true, true, true, true, true, true, true, true, true, false, false, false, false, false] rfl rfl (by kernel_rfl) (fun _ _ _ h => h) (Or.inl ⟨by rfl, ?_⟩) ?_ ?_
                          rotate_left
                          · intro w'
                            go_simp
                            with_reducible rfl
                          rotate_left
                          · simp only [Act.put, List.setIfInBounds_toArray, List.set_cons_zero, List.set_cons_succ, i64_w, i32_w]
                            rfl
                          refine last_ (i := 25) (N := none) #[true, true, true, true, true, true, true, true, true, true, true, true, true, true, true, true, true, true, true, true, true, true, true, true, true, true, false, false, false, false] rfl rfl (by kernel_rfl) (by decide) (fun K hK => ?_)
                          refine skip_ (w1 := ?_) (by rfl) rfl ?_ ?_
                          rotate_left
                          · go_simp
                            rfl
                          refine hK.out _ _ ?_
                          clear hK K
                          refine pure_ (i := 26) (N := some 135) (v := ?_) (a' := ?_) #[true, true, true, true, true, true, true, true, true, true, true, true, true, true, true, true, true, true, true, true, true, true, true, true, true, true, true, false, false, false] rfl rfl (by kernel_rfl) (fun _ _ _ h => h) (Or.inl ⟨by rfl, ?_⟩) ?_ ?_
                          rotate_left
                          · intro w'
                            go_simp
                            with_reducible rfl
                          rotate_left
                          · simp only [Act.put, List.setIfInBounds_toArray, List.set_cons_zero, List.set_cons_succ, i64_w, i32_w]
                            rfl
                          refine last_ (i := 27) (N := none) #[true, true, true, true, true, true, true, true, true, true, true, true, true, true, true, true, true, true, true, true, true, true, true, true, true, true, true, true, false, false] rfl rfl (by kernel_rfl) (by decide) (fun K hK => ?_)
                          refine skip_ (w1 := ?_) (by rfl) rfl ?_ ?_
                          rotate_left
                          · go_simp
                            rfl
                          refine hK.out _ _ ?_
                          clear hK K
                          refine pure_ (i := 28) (N := some 136) (v := ?_) (a' := ?_) #[true, true, true, true, true, true, true, true, true, true, true, true, true, true, true, true, true, true, true, true, true, true, true, true, true, true, true, true, true, false] rfl rfl (by kernel_rfl) (fun _ _ _ h => h) (Or.inl ⟨by rfl, ?_⟩) ?_ ?_
                          rotate_left
                          · intro w'
                            go_simp
                            with_reducible rfl
                          rotate_left
                          · simp only [Act.put, List.setIfInBounds_toArray, List.set_cons_zero, List.set_cons_succ, i64_w, i32_w]
                            rfl
                          refine last_ (i := 29) (N := none) #[true, true, true, true, true, true, true, true, true, true, true, true, true, true, true, true, true, true, true, true, true, true, true, true, true, true, true, true, true, true] rfl rfl (by kernel_rfl) (by decide) (fun K hK => ?_)
                          refine skip_ (w1 := ?_) (by rfl) rfl ?_ ?_
                          rotate_left
                          · go_simp
                            rfl
                          refine hK.out _ _ ?_
                          clear hK K
                          refine done_ (by kernel_rfl) ?_
                          clear n1 n2 n3 n4 n5 n6 m1 m2 m3 m4 m5 m6 q0 q4 q8 q12 hHeld c0 c1 c2 c3 f0 f1 f2 f3
                          go_wp2
                          exact ⟨⟨k + 1, by omega, by go_num, ⟨by rw [HD.out]; exact H.out.quad HQ.out (1 + nd)⟩⟩, by simp [intOf]; omega⟩
                        · obtain rfl : k = 4 := by omega
                          clear hlk hk
                          rw [show ((4 : Nat) : Int) = 4 from rfl]
                          go_wp2
                          exact ⟨⟨n + 1, by omega, by go_num, H⟩, by simp [intOf]; omega⟩
                · obtain rfl : n = 10 := by omega
                  clear hlt hn
                  rw [show ((10 : Nat) : Int) = 10 from rfl]
                  go_wp2_with (refine wpList_load_row rfl 78 (.tmp 7) rfl (w.heap.size + 1) rfl 78 (u32s (dbl L 10)) (0, 0) _ (blk_alloc H.out.a.row _) Try.underlying78 rfl (by rw [u32s_size, dbl_length, HW.out]; kernel_rfl) ?_)
                  have H : Aside0 (ChO w g2 wr.heap.size L (outC (fun k => (L.getD k 0 + (dbl L 10).getD k 0) % 4294967296) 0) (wr.alloc (.cells (u8s (List.replicate 64 0)) 49))) := ⟨⟨below_alloc H.out.a.below _, blk_alloc H.out.a.out _, blk_alloc H.out.was _, blk_new _ _, H.out.gt, blk_lt H.out.was⟩⟩
                  have HDl := Aside0.mk (show (dbl L 10).length = 16 by rw [dbl_length, HW.out])
                  generalize hD : dbl L 10 = D at *
                  have HDe := Aside0.mk hD
                  clear hD
                  generalize wr.heap.size = g3 at *
                  go_loopw [140] (fun i wr => ∃ k : Nat, k ≤ 16 ∧ i = .int .i64 k ∧ Aside0 (ChO w g2 g3 L (outC (fun k => (L.getD k 0 + D.getD k 0) % 4294967296) k) wr)) (fun i _ => 16 - (intOf i).toNat)
                  case atStart => exact ⟨0, by omega, rfl, H⟩
                  case round =>
                    clear H
                    obtain ⟨k, hk, rfl, H⟩ := hrel
                    by_cases hlt : k < 16
                    · have hj := fun w => index_u32 D HDl.out k hlt w
                      generalize hx : D.getD k 0 = x at hj
                      have HX := Aside0.mk hx
                      clear hx
                      have hw := (blk_cell H.out.was k).trans (u32s_get L k (by rw [HW.out]; exact hlt))
                      generalize hy : L.getD k 0 = y at hw
                      have HY := Aside0.mk hy
                      clear hy
                      obtain ⟨⟨v0, c0⟩, f0⟩ := H.out.cell hk (4 * k) (by omega)
                      obtain ⟨⟨v1, c1⟩, f1⟩ := H.out.cell hk (4 * k + 1) (by omega)
                      obtain ⟨⟨v2, c2⟩, f2⟩ := H.out.cell hk (4 * k + 2) (by omega)
                      obtain ⟨⟨v3, c3⟩, f3⟩ := H.out.cell hk (4 * k + 3) (by omega)
                      go_wp2
                      have HN : Aside0 (ChO w g2 g3 L (outC (fun k => (L.getD k 0 + D.getD k 0) % 4294967296) (k + 1)) _) := ⟨H.out.step hlt ((y + x) % 4294967296) (by show (L.getD k 0 + D.getD k 0) % 4294967296 = _; rw [HY.out, HX.out])⟩
                      rw [Nat.add_comm y x] at HN
                      refine ⟨⟨k + 1, by omega, by go_num, ?_⟩, by simp [intOf]; omega⟩
                      rw [show ((x : Int) + (y : Int)) % 4294967296 / 16777216 = (((x + y) % 4294967296 : Nat) : Int) / 16777216 % 256 by omega, show ((x : Int) + (y : Int)) % 256 = (((x + y) % 4294967296 : Nat) : Int) % 256 by omega, show ((x : Int) + (y : Int)) % 4294967296 = (((x + y) % 4294967296 : Nat) : Int) by omega]
                      exact HN
                    · obtain rfl : k = 16 := by omega
                      clear hlt hk
                      rw [show ((16 : Nat) : Int) = 16 from rfl]
                      have hrow := H.out.row
                      rw [outC_full] at hrow
                      have hlen : ((List.range 16).flatMap (fun i => le4 ((fun k => (L.getD k 0 + D.getD k 0) % 4294967296) i))).length = 64 := flatC_length _ 16
                      generalize hO : (List.range 16).flatMap (fun i => le4 ((fun k => (L.getD k 0 + D.getD k 0) % 4294967296) i)) = O at *
                      have HO := Aside0.mk hO
                      clear hO
                      have HR := Aside0.mk hrow
                      have HL := Aside0.mk hlen
                      clear hrow hlen
                      have hi64 : (Try.prog.info? 49).map (·.size) = some (u8s O).size := by rw [u8s_size, HL.out]; exact HI.out
                      have HI64 := Aside0.mk hi64
                      clear hi64
                      go_wp2_with (first | (refine wpList_load_row rfl 49 (.tmp 17) rfl g3 rfl 49 (u8s O) (0, 0) _ HR.out Try.underlying49 rfl HI64.out ?_) | (refine wpList_store_row rfl 49 (.tmp 6) (.tmp 176) rfl w.heap.size (u8s O) rfl rfl 49 _ H.out.out HI64.out (by rw [u8s_size, u8s_size, HL.out]; rfl) (u8s_one _) ?_))
                      refine bodyPost_ret (results_cell_row Try.results48 _ _ w.heap.size 49 (u8s O) (0, 0) _ rfl (setRow_heap _ _ _ _ _ _ H.out.out) Try.underlying49 rfl HI64.out) rfl ⟨?_, ?_⟩
                      · rw [← HO.out, ← HDe.out]; rfl
                      · exact below_setRow H.out.below (Nat.le_refl _) _
end Go.Proofs.Ytmablneefndedaa.Pr

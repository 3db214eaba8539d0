/- code.Out: what is written, part by part: the words. -/
import Derived.Test.YtpeliaknceigdaaWWords
import Derived.Test.YtpeliaknceigdaaWLast
import Derived.Test.YtpeliaknceigdaaWMore
import Derived.Test.YtpeliaknceigdaaHTxtA
import Derived.WalkKit
import Derived.KernelRfl
import Derived.Deep.LoopGhost
import Derived.Deep.AppendLies
import Derived.Deep.RegionLaw
import Derived.Laws.BytesArg
import Derived.StillTailTactics
import Derived.Deep.Light
import Derived.Lib.AppendStr
import Derived.Deep.RegionHeldLaw
import Derived.Deep.DrawnRows
import Derived.BigQuiet
import Derived.Deep.QuietTactic
import Derived.Test.YtpeliaknceigdaaPrxf39
import Derived.Test.YtpeliaknceigdaaPrxf31
import Derived.Deep.RegionHeld3
namespace Go.Proofs.Ytpeliaknceigdaa.Pr
open Go.RowKit Go.Deep Go.Proofs.YtpeliaknceigdaaW.PrintWords Go.Proofs.YtpeliaknceigdaaW.PrintLast Go.Proofs.YtpeliaknceigdaaW.PrintMore
set_option maxHeartbeats 1000000
set_option linter.unusedVariables false
set_option linter.unusedSimpArgs false
/-- Bytes as a row's cells. -/
def cellsN (l : List Nat) : List Value := l.map fun (n : Nat) => Value.int .u8 (n : Int)
theorem cellsN_length (l : List Nat) : (cellsN l).length = l.length := by simp [cellsN]
theorem cellsN_append (a b : List Nat) : cellsN (a ++ b) = cellsN a ++ cellsN b := by simp [cellsN]
theorem cellsN_one (l : List Nat) : ∀ u ∈ cellsN l, u.oneCell' = true := by
  intro u hu
  unfold cellsN at hu
  rw [List.mem_map] at hu
  obtain ⟨n, _, rfl⟩ := hu
  rfl
/-- All blocks but those of an Out and of bytes are as they were. -/
def FrO (w w' : World) : Prop := w.heap.size ≤ w'.heap.size ∧ ∀ (k : Nat) (o : Obj), w.heap[k]? = some o → (∀ cs t z, o = Obj.cells cs t z → t ≠ 51 ∧ t ≠ 5) → w'.heap[k]? = some o
section
variable {w w' w1 w2 : World} {g : Nat} {cs : Array Value} {t : TypeId} {z : Nat × Nat} {B : Nat} {mk bad : Bool} {L : List Nat}
theorem FrO.refl (w : World) : FrO w w := ⟨Nat.le_refl _, fun _ _ h _ => h⟩
theorem FrO.trans (h : FrO w w1) (k : FrO w1 w2) : FrO w w2 := ⟨Nat.le_trans h.1 k.1, fun i o hi ho => k.2 i o (h.2 i o hi ho) ho⟩
theorem FrO.of_below (h : Below w.heap.size w w') : FrO w w' := ⟨h.size, fun k o hk _ => (h.block k (by
  rcases Nat.lt_or_ge k w.heap.size with h1 | h1
  · exact h1
  · rw [Array.getElem?_eq_none h1] at hk; cases hk)).trans hk⟩
theorem FrO.blk (h : FrO w w') (hb : w.heap[g]? = some (.cells cs t z)) (h1 : t ≠ 51) (h2 : t ≠ 5) : w'.heap[g]? = some (.cells cs t z) :=
  h.2 g _ hb (fun _ _ _ e => by injection e with _ e _; rw [← e]; exact ⟨h1, h2⟩)
theorem FrO.put (h : FrO w w1) (hb : w1.heap[g]? = some (.cells cs t z)) (ht : t = 51 ∨ t = 5) (j : Nat) (u : Value) : FrO w (w1.setCell ⟨g, j, none⟩ u) := by
  refine h.trans ⟨by simp [World.setCell], fun k o hk ho => ?_⟩
  by_cases e : k = g
  · subst e
    rw [hb] at hk
    injection hk with hk
    have := ho _ _ _ hk.symm
    rcases ht with ht | ht
    · exact absurd ht this.1
    · exact absurd ht this.2
  · exact (Below.heap_setCell w1 ⟨g, j, none⟩ u k e).trans hk
theorem FrO.new (h : FrO w w1) (hg : w.heap.size ≤ g) (j : Nat) (u : Value) : FrO w (w1.setCell ⟨g, j, none⟩ u) := by
  refine ⟨by simpa [World.setCell] using h.1, fun k o hk ho => ?_⟩
  have hlt : k < w.heap.size := by
    rcases Nat.lt_or_ge k w.heap.size with h1 | h1
    · exact h1
    · rw [Array.getElem?_eq_none h1] at hk; cases hk
  exact (Below.heap_setCell w1 ⟨g, j, none⟩ u k (by show k ≠ g; omega)).trans (h.2 k o hk ho)
theorem FrO.alloc (h : FrO w w1) (o : Obj) : FrO w (w1.alloc o) := h.trans (FrO.of_below (below_alloc (Below.refl _ _) o))
theorem FrO.drewN (h : FrO w w1) (n : Nat) : FrO w (w1.drewN n) := h
theorem FrO.below (h : FrO w w1) (k : Below w1.heap.size w1 w2) : FrO w w2 := h.trans (FrO.of_below k)
theorem FrO.grown {row : Option Nat} (h : FrO w w1) (hg : w1.grownBy w2 row) (hr : ∀ k, row = some k → ∃ cs z, w1.heap[k]? = some (.cells cs 5 z)) : FrO w w2 := by
  refine h.trans ⟨hg.size, fun k o hk ho => ?_⟩
  by_cases e : row = some k
  · obtain ⟨cs, z, hc⟩ := hr k e
    rw [hc] at hk
    injection hk with hk
    exact absurd rfl (ho _ _ _ hk.symm).2
  · have hlt : k < w1.heap.size := by
      rcases Nat.lt_or_ge k w1.heap.size with h1 | h1
      · exact h1
      · rw [Array.getElem?_eq_none h1] at hk; cases hk
    exact (hg.block k hlt (fun h => e h.symm)).trans hk
/-- An Out at block g: made or not, bad or not, and its bytes. -/
def OutAt (B g : Nat) (mk bad : Bool) (L : List Nat) (w : World) : Prop :=
  B ≤ g ∧ ∃ v, w.heap[g]? = some (.cells #[.bool mk, .bool bad, v] 51 (0, 0)) ∧ w.ownsRow B 5 1 v L.length (cellsN L)
theorem own_u8 {v : Value} {n : Nat} {xs : List Value} (h : w.ownsRow B 5 1 v n xs) : ∀ k, v.ownBlock = some k → ∃ cs z, w.heap[k]? = some (.cells cs 5 z) := by
  intro k hk
  rcases h.2 with ⟨rfl, _⟩ | ⟨g', cap, cur, rfl, _, hh, _⟩
  · simp [Value.ownBlock] at hk
  · have : g' = k := by simpa [Value.ownBlock] using hk
    subst this
    exact ⟨_, _, hh⟩
theorem own_ne {v : Value} {n : Nat} {xs : List Value} (h : w.ownsRow B 5 1 v n xs) (hb : w.heap[g]? = some (.cells cs t z)) (ht : t ≠ 5) : v.ownBlock ≠ some g := by
  intro e
  obtain ⟨cs', z', hc⟩ := own_u8 h g e
  rw [hb] at hc
  injection hc with hc
  injection hc with _ hc _
  exact ht hc
theorem OutAt.lt (h : OutAt B g mk bad L w) : g < w.heap.size := by
  obtain ⟨_, v, hb, _⟩ := h
  exact blk_lt hb
theorem OutAt.below (h : OutAt B g mk bad L w) (hb : Below w.heap.size w w1) : OutAt B g mk bad L w1 := by
  obtain ⟨h0, v, h1, h2⟩ := h
  exact ⟨h0, v, blk_below h1 hb, pw_own_below h2 hb⟩
theorem OutAt.alloc (h : OutAt B g mk bad L w) (o : Obj) : OutAt B g mk bad L (w.alloc o) := h.below (below_alloc (Below.refl _ _) o)
theorem OutAt.drewN (h : OutAt B g mk bad L w) (n : Nat) : OutAt B g mk bad L (w.drewN n) := h.below (pw_below_drewN (Below.refl _ _) n)
theorem own_far {v : Value} {n : Nat} {xs : List Value} (h : w.ownsRow B 5 1 v n xs) {p : Nat} (hp : v.ownBlock ≠ some p) (j : Nat) (u : Value) : (w.setCell ⟨p, j, none⟩ u).ownsRow B 5 1 v n xs := by
  refine ⟨h.1, ?_⟩
  rcases h.2 with ⟨rfl, h2⟩ | ⟨g', cap, cur, rfl, hb, hh, hc, hr⟩
  · exact .inl ⟨rfl, h2⟩
  · have hne : g' ≠ p := fun e => hp (by simp [Value.ownBlock, e])
    exact .inr ⟨g', cap, cur, rfl, hb, (Below.heap_setCell w ⟨p, j, none⟩ u g' hne).trans hh, hc, hr⟩
theorem OutAt.far (h : OutAt B g mk bad L w) {p : Nat} (hp : w.heap[p]? = some (.cells cs t z)) (h1 : t ≠ 51) (h2 : t ≠ 5) (j : Nat) (u : Value) : OutAt B g mk bad L (w.setCell ⟨p, j, none⟩ u) := by
  obtain ⟨h0, v, hb, ho⟩ := h
  have hne : g ≠ p := by
    rintro rfl
    rw [hb] at hp
    injection hp with hp
    injection hp with _ hp _
    exact h1 hp.symm
  exact ⟨h0, v, (Below.heap_setCell w ⟨p, j, none⟩ u g hne).trans hb, own_far ho (own_ne ho hp h2) j u⟩
theorem blk_thaw {fr : World} (h : fr.heap[g]? = some (.cells cs t (0, 0))) (i : Nat) : fr.frozen? ⟨g, i, none⟩ = false := by simp [World.frozen?, h]
theorem OutAt.flag (h : OutAt B g mk bad L w) (b : Bool) : OutAt B g mk b L (w.setCell ⟨g, 1, none⟩ (.bool b)) := by
  obtain ⟨h0, v, hb, ho⟩ := h
  exact ⟨h0, v, blk_put hb 1 _ rfl, own_far ho (own_ne ho hb (by decide)) 1 _⟩
theorem OutAt.fro (h : OutAt B g mk bad L w1) (hF : FrO w w1) (j : Nat) (u : Value) : FrO w (w1.setCell ⟨g, j, none⟩ u) := by
  obtain ⟨h0, v, hb, ho⟩ := h
  exact hF.put hb (.inl rfl) j u
theorem OutAt.appended {v v5 : Value} {n n5 : Nat} {M : List Nat} {w5 : World} (hB : B ≤ g) (hb : w.heap[g]? = some (.cells #[.bool mk, .bool bad, v] 51 (0, 0))) (hown : w.ownsRow B 5 1 v n (cellsN L)) (hg : w.grownBy w5 v.ownBlock)
    (hown5 : w5.ownsRow B 5 1 v5 n5 (cellsN L ++ cellsN M)) (hn : n5 = L.length + M.length) : OutAt B g mk bad (L ++ M) (w5.setCell ⟨g, 2, none⟩ v5) := by
  subst hn
  have hb5 : w5.heap[g]? = some (.cells #[.bool mk, .bool bad, v] 51 (0, 0)) := (hg.block g (blk_lt hb) (fun e => own_ne hown hb (by decide) e.symm)).trans hb
  refine ⟨hB, v5, blk_put hb5 2 _ rfl, ?_⟩
  rw [List.length_append, cellsN_append]
  exact own_far hown5 (own_ne hown5 hb5 (by decide)) 2 _
theorem FrO.appended {w0 w5 : World} {v v5 : Value} {n : Nat} {xs : List Value} (hF : FrO w0 w) (hb : w.heap[g]? = some (.cells #[.bool mk, .bool bad, v] 51 (0, 0))) (hown : w.ownsRow B 5 1 v n xs) (hg : w.grownBy w5 v.ownBlock) : FrO w0 (w5.setCell ⟨g, 2, none⟩ v5) := by
  have hb5 : w5.heap[g]? = some (.cells #[.bool mk, .bool bad, v] 51 (0, 0)) := (hg.block g (blk_lt hb) (fun e => own_ne hown hb (by decide) e.symm)).trans hb
  exact (hF.grown hg (own_u8 hown)).put hb5 (.inl rfl) 2 _
theorem below_appended {w0 w5 : World} {v v5 : Value} {n : Nat} {xs : List Value} (hW : Below B w0 w) (hB : B ≤ g) (hBw : B ≤ w.heap.size) (hown : w.ownsRow B 5 1 v n xs) (hg : w.grownBy w5 v.ownBlock) : Below B w0 (w5.setCell ⟨g, 2, none⟩ v5) :=
  (hW.grown hg hBw (fun k hk => own_base hown k hk)).setCell (p := ⟨g, 2, none⟩) hB _
end
/-- The eight bytes of a number, the highest first; of which k are written. -/
def roomL (p : Int) (k : Nat) : List Nat := (List.range 8).map fun i => if i < k then (p / 2 ^ (8 * (7 - i)) % 256).toNat else 0
/-- The last m of them. -/
def byN (p : Int) (m : Nat) : List Nat := (roomL p 8).drop (8 - m)
theorem roomL_length (p : Int) (k : Nat) : (roomL p k).length = 8 := by simp [roomL]
theorem byN_length (p : Int) (m : Nat) (h : m ≤ 8) : (byN p m).length = m := by rw [byN, List.length_drop, roomL_length]; omega
theorem roomL_succ (p : Int) (k : Nat) (hk : k < 8) : (roomL p k).set k (p / 2 ^ (8 * (7 - k)) % 256).toNat = roomL p (k + 1) := by
  apply List.ext_getElem?
  intro i
  rw [List.getElem?_set]
  unfold roomL
  rw [List.length_map, List.length_range]
  by_cases e : k = i
  · subst e
    rw [if_pos rfl, if_pos hk, List.getElem?_map, List.getElem?_range hk]
    simp
  · rw [if_neg e, List.getElem?_map, List.getElem?_map]
    by_cases hi : i < 8
    · rw [List.getElem?_range hi]
      by_cases h2 : i < k
      · simp [h2, show i < k + 1 by omega]
      · simp [h2, show ¬ i < k + 1 by omega]
    · rw [List.getElem?_eq_none (by simpa using hi)]
      rfl
section
open Go.RowKit Go.Deep Go.Proofs.YtpeliaknceigdaaW.PrintWords Go.Proofs.YtpeliaknceigdaaW.PrintLast Go.Proofs.YtpeliaknceigdaaW.PrintMore
set_option maxHeartbeats 1000000
set_option linter.unusedVariables false
set_option linter.unusedSimpArgs false
attribute [local go_sem ↓] Go.wp_at_zero Go.wp_at_succ
/-- Pairs as cells. -/
def pairsV (ps : List (Int × Nat)) : List Value := ps.flatMap fun p => [.int .i64 p.1, .int .i64 (p.2 : Int)]
def sumN (ps : List (Int × Nat)) : Nat := (ps.map (·.2)).foldl (· + ·) 0
def byAll (ps : List (Int × Nat)) : List Nat := ps.flatMap fun p => byN p.1 p.2
theorem foldl_add (l : List Nat) (a : Nat) : l.foldl (· + ·) a = a + l.foldl (· + ·) 0 := by
  induction l generalizing a with
  | nil => simp
  | cons x l ih => rw [List.foldl_cons, ih, List.foldl_cons, ih (0 + x)]; omega
theorem sumN_cons (p : Int × Nat) (ps : List (Int × Nat)) : sumN (p :: ps) = p.2 + sumN ps := by
  unfold sumN
  rw [List.map_cons, List.foldl_cons, foldl_add]
  omega
theorem sumN_append (a b : List (Int × Nat)) : sumN (a ++ b) = sumN a + sumN b := by
  unfold sumN
  rw [List.map_append, List.foldl_append, foldl_add]
theorem sum_le {n m : Nat} {ps : List (Int × Nat)} (h : n + m + sumN ps ≤ 65536) (k : Nat) : m + sumN (ps.take k) ≤ 65536 := by
  have := sumN_append (ps.take k) (ps.drop k)
  rw [List.take_append_drop] at this
  omega
theorem sum_le3 {n m : Nat} {ps : List (Int × Nat)} (h : n + m + sumN ps ≤ 65536) (k : Nat) : n + m + sumN (ps.take k) ≤ 65536 := by
  have := sumN_append (ps.take k) (ps.drop k)
  rw [List.take_append_drop] at this
  omega
theorem slice_room1 (gr : Nat) (W : World) : (Instr.sliceAt 83 (.pointer (some ⟨gr, 0, none⟩)) (some (.int .i64 (IntKind.i64.wrap (8 - (((1 : Nat) : Int) : Int))))) (some (.int .i64 8)) (some (.int .i64 8))).run Try.prog W = .ok (.slice (some ⟨gr, 8 - 1, none⟩) 1 1) W := by kernel_rfl
theorem slice_room2 (gr : Nat) (W : World) : (Instr.sliceAt 83 (.pointer (some ⟨gr, 0, none⟩)) (some (.int .i64 (IntKind.i64.wrap (8 - (((2 : Nat) : Int) : Int))))) (some (.int .i64 8)) (some (.int .i64 8))).run Try.prog W = .ok (.slice (some ⟨gr, 8 - 2, none⟩) 2 2) W := by kernel_rfl
theorem slice_room3 (gr : Nat) (W : World) : (Instr.sliceAt 83 (.pointer (some ⟨gr, 0, none⟩)) (some (.int .i64 (IntKind.i64.wrap (8 - (((3 : Nat) : Int) : Int))))) (some (.int .i64 8)) (some (.int .i64 8))).run Try.prog W = .ok (.slice (some ⟨gr, 8 - 3, none⟩) 3 3) W := by kernel_rfl
theorem slice_room4 (gr : Nat) (W : World) : (Instr.sliceAt 83 (.pointer (some ⟨gr, 0, none⟩)) (some (.int .i64 (IntKind.i64.wrap (8 - (((4 : Nat) : Int) : Int))))) (some (.int .i64 8)) (some (.int .i64 8))).run Try.prog W = .ok (.slice (some ⟨gr, 8 - 4, none⟩) 4 4) W := by kernel_rfl
theorem slice_room5 (gr : Nat) (W : World) : (Instr.sliceAt 83 (.pointer (some ⟨gr, 0, none⟩)) (some (.int .i64 (IntKind.i64.wrap (8 - (((5 : Nat) : Int) : Int))))) (some (.int .i64 8)) (some (.int .i64 8))).run Try.prog W = .ok (.slice (some ⟨gr, 8 - 5, none⟩) 5 5) W := by kernel_rfl
theorem slice_room6 (gr : Nat) (W : World) : (Instr.sliceAt 83 (.pointer (some ⟨gr, 0, none⟩)) (some (.int .i64 (IntKind.i64.wrap (8 - (((6 : Nat) : Int) : Int))))) (some (.int .i64 8)) (some (.int .i64 8))).run Try.prog W = .ok (.slice (some ⟨gr, 8 - 6, none⟩) 6 6) W := by kernel_rfl
theorem slice_room7 (gr : Nat) (W : World) : (Instr.sliceAt 83 (.pointer (some ⟨gr, 0, none⟩)) (some (.int .i64 (IntKind.i64.wrap (8 - (((7 : Nat) : Int) : Int))))) (some (.int .i64 8)) (some (.int .i64 8))).run Try.prog W = .ok (.slice (some ⟨gr, 8 - 7, none⟩) 7 7) W := by kernel_rfl
theorem slice_room8 (gr : Nat) (W : World) : (Instr.sliceAt 83 (.pointer (some ⟨gr, 0, none⟩)) (some (.int .i64 (IntKind.i64.wrap (8 - (((8 : Nat) : Int) : Int))))) (some (.int .i64 8)) (some (.int .i64 8))).run Try.prog W = .ok (.slice (some ⟨gr, 8 - 8, none⟩) 8 8) W := by kernel_rfl
theorem slice_room (gr m : Nat) (h1 : 1 ≤ m) (h2 : m ≤ 8) (W : World) : (Instr.sliceAt 83 (.pointer (some ⟨gr, 0, none⟩)) (some (.int .i64 (IntKind.i64.wrap (8 - (m : Int))))) (some (.int .i64 8)) (some (.int .i64 8))).run Try.prog W = .ok (.slice (some ⟨gr, 8 - m, none⟩) m m) W := by
  have h : m = 1 ∨ m = 2 ∨ m = 3 ∨ m = 4 ∨ m = 5 ∨ m = 6 ∨ m = 7 ∨ m = 8 := by omega
  rcases h with rfl | rfl | rfl | rfl | rfl | rfl | rfl | rfl
  · exact slice_room1 gr W
  · exact slice_room2 gr W
  · exact slice_room3 gr W
  · exact slice_room4 gr W
  · exact slice_room5 gr W
  · exact slice_room6 gr W
  · exact slice_room7 gr W
  · exact slice_room8 gr W
theorem sum_next {ps : List (Int × Nat)} {k : Nat} {p : Int × Nat} (h : ps[k]? = some p) : sumN (ps.take (k + 1)) = sumN (ps.take k) + p.2 := by
  obtain ⟨hk, rfl⟩ := List.getElem?_eq_some_iff.1 h
  rw [List.take_succ_eq_append_getElem hk, sumN_append, sumN_cons]
  rfl
theorem pairsV_get : ∀ (ps : List (Int × Nat)) (k : Nat) (p : Int × Nat), ps[k]? = some p → ∀ j, (pairsV ps)[k * 2 + j]? = if j < 2 then [Value.int .i64 p.1, Value.int .i64 (p.2 : Int)][j]? else (pairsV ps)[k * 2 + j]?
  | [], k, p, h => by simp at h
  | q :: ps, 0, p, h => by
    intro j
    simp only [List.getElem?_cons_zero, Option.some.injEq] at h
    subst h
    match j with
    | 0 => rfl
    | 1 => rfl
    | j + 2 => rw [if_neg (by omega)]
  | q :: ps, k + 1, p, h => by
    intro j
    have h' : ps[k]? = some p := by simpa using h
    have := pairsV_get ps k p h' j
    have e : pairsV (q :: ps) = Value.int .i64 q.1 :: Value.int .i64 (q.2 : Int) :: pairsV ps := rfl
    rw [e, show (k + 1) * 2 + j = (k * 2 + j) + 1 + 1 by omega, List.getElem?_cons_succ, List.getElem?_cons_succ]
    exact this
theorem pair_cell {w wr : World} {gp t : Nat} {ps : List (Int × Nat)} {z : Nat × Nat} (hb : Below w.heap.size w wr) (hgp : w.heap[gp]? = some (.cells (pairsV ps).toArray t z)) {k : Nat} {p : Int × Nat} (hp : ps[k]? = some p) (j : Nat) (hj : j < 2) :
    wr.cell? ⟨gp, k * 2 + j, none⟩ = [Value.int .i64 p.1, Value.int .i64 (p.2 : Int)][j]? := by
  rw [cell_of_row wr gp _ _ _ _ (blk_below hgp hb), List.getElem?_toArray, pairsV_get ps k p hp j, if_pos hj]
theorem cellsN_set (l : List Nat) (i n : Nat) : cellsN (l.set i n) = (cellsN l).set i (.int .u8 (n : Int)) := by simp [cellsN, List.map_set]
theorem nat_byte (x : Int) : x % 256 = ((x % 256).toNat : Int) := by omega
theorem byAll_length (ps : List (Int × Nat)) (h : ∀ p ∈ ps, p.2 ≤ 8) : (byAll ps).length = sumN ps := by
  induction ps with
  | nil => rfl
  | cons p ps ih =>
    have e : byAll (p :: ps) = byN p.1 p.2 ++ byAll ps := rfl
    rw [e, List.length_append, sumN_cons, byN_length _ _ (h p (List.mem_cons_self ..)), ih (fun q hq => h q (List.mem_cons_of_mem _ hq))]
theorem byAll_next {ps : List (Int × Nat)} {k : Nat} {p : Int × Nat} (h : ps[k]? = some p) : byAll (ps.take (k + 1)) = byAll (ps.take k) ++ byN p.1 p.2 := by
  obtain ⟨hk, rfl⟩ := List.getElem?_eq_some_iff.1 h
  rw [List.take_succ_eq_append_getElem hk, byAll, List.flatMap_append]
  simp [byAll]
theorem grown_of_drew {w w' : World} {r : Option Nat} (h : w.drew.grownBy w' r) : w.grownBy w' r := ⟨h.os, h.tape, h.output, h.size, h.block⟩
theorem strCells_bys (s : ByteArray) : Lib.strCells s = cellsN (bys s) := by
  simp [Lib.strCells, cellsN, bys]
theorem Try.info_u8 : (Try.prog.info? 5).map (fun i => (i.zero, i.size, i.bytes)) = some (some (.int .u8 0), 1, 1) := by kernel_rfl
theorem room_news {w : World} {gr t m : Nat} {p : Int} {z : Nat × Nat} (h : w.heap[gr]? = some (.cells (cellsN (roomL p 8)).toArray t z)) (hm : m ≤ 8) :
    ∀ (j : Nat) (u : Value), (cellsN (byN p m))[j]? = some u → w.drew.cell? ((⟨gr, 8 - m, none⟩ : Addr).add j) = some u := by
  intro j u hu
  rw [add_at]
  have h' : w.drew.heap[gr]? = some (.cells (cellsN (roomL p 8)).toArray t z) := h
  rw [cell_of_row _ _ _ _ _ _ h', List.getElem?_toArray]
  unfold byN cellsN at hu
  rw [List.map_drop, List.getElem?_drop] at hu
  exact hu
theorem app_max {m n : Nat} (h : n + m ≤ 65536) : n + m ≤ maxLen := by
  unfold maxLen; omega
theorem app_bytes {m n : Nat} (h : n + m ≤ 65536) : (n + m) * 1 ≤ 140737488355328 := by omega
set_option maxRecDepth 100000 in
theorem puts_ok (B g gp : Nat) (mk : Bool) (L : List Nat) (s : ByteArray) (ps : List (Int × Nat)) (w : World) (hO : OutAt B g mk false L w) (hgp : w.heap[gp]? = some (.cells (pairsV ps).toArray 76 (0, 0)))
    (hps : ∀ p ∈ ps, 1 ≤ p.2 ∧ p.2 ≤ 8) (hpl : ps.length ≤ 2) (hL : L.length + s.size + sumN ps ≤ 65536) (hB : B ≤ w.heap.size) :
    Calls Try.prog 38 #[.pointer (some ⟨g, 0, none⟩), .bool true, .string s, .slice (some ⟨gp, 0, none⟩) ps.length ps.length] w fun e w' => e = .returned (.tuple #[]) ∧ OutAt B g mk false (L ++ byAll ps ++ bys s) w' ∧ FrO w w' ∧ Below B w w' := by
  go_enter Try.func38, Try.ntmps38
  go_wp2_with (fail)
  go_loopw [8, 21] (fun n i wr => ∃ k : Nat, k ≤ ps.length ∧ i = .int .i64 k ∧ n = .int .i64 ((s.size + sumN (ps.take k) : Nat) : Int) ∧ Aside0 (Below w.heap.size w wr)) (fun _ i _ => ps.length - (intOf i).toNat)
  case atStart => exact ⟨0, by omega, rfl, rfl, ⟨Below.refl _ _⟩⟩
  case round =>
    obtain ⟨k, hk, rfl, rfl, HB1⟩ := hrel
    have hsum : s.size + sumN (ps.take k) ≤ 65536 := sum_le hL k
    by_cases hlt : k < ps.length
    · obtain ⟨⟨p, m⟩, hp⟩ : ∃ p, ps[k]? = some p := ⟨_, List.getElem?_eq_getElem hlt⟩
      have hm := hps _ (List.mem_of_getElem? hp)
      have hm1 : m ≤ 8 := hm.2
      have c0 : wr.cell? ⟨gp, k * 2, none⟩ = some (.int .i64 p) := pair_cell HB1.out hgp hp 0 (by omega)
      have c1 : wr.cell? ⟨gp, k * 2 + 1, none⟩ = some (.int .i64 (m : Int)) := pair_cell HB1.out hgp hp 1 (by omega)
      have HP := Aside0.mk hp
      clear hp hm
      go_wp2_with (fail)
      refine ⟨⟨k + 1, by omega, by go_num, ?_, ⟨below_alloc HB1.out _⟩⟩, by simp [intOf]; omega⟩
      rw [sum_next HP.out, ← Nat.add_assoc]
      go_num
    · obtain rfl : k = ps.length := by omega
      clear hlt hk
      rw [List.take_length] at hsum ⊢
      have HO1 := Aside0.mk (hO.below HB1.out)
      have HG1 := Aside0.mk (blk_below hgp HB1.out)
      have hN2 : L.length + (s.size + sumN ps) ≤ 65536 := by omega
      generalize hN : s.size + sumN ps = N at hsum hN2
      have HN := Aside0.mk hN
      clear hN
      obtain ⟨hBg, v, hbk, hown⟩ := HO1.out
      obtain ⟨A, c, rfl⟩ := own_slice hown
      have g1 : wr.cell? ⟨g, 1, none⟩ = some (.bool false) := by rw [cell_of_row wr g _ _ _ _ hbk]; rfl
      have g2 : wr.cell? ⟨g, 2, none⟩ = some (.slice A L.length c) := by rw [cell_of_row wr g _ _ _ _ hbk]; rfl
      have f1 : wr.frozen? ⟨g, 1, none⟩ = false := blk_thaw hbk 1
      have d1 : decide (65536 < (L.length : Int) + (N : Int)) = false := decide_eq_false (by omega)
      have HBK := Aside0.mk hbk
      have HOWN := Aside0.mk hown
      have HO2 := Aside0.mk (HO1.out.flag false)
      have HG2 := Aside0.mk (show (wr.setCell ⟨g, 1, none⟩ (.bool false)).heap[gp]? = _ from (HO1.out.fro (FrO.refl wr) 1 (.bool false)).blk HG1.out (by decide) (by decide))
      have HF2 := Aside0.mk (HO1.out.fro (FrO.of_below HB1.out) 1 (.bool false))
      have HB2 := Aside0.mk (((HB1.out.mono hB).setCell (p := ⟨g, 1, none⟩) hBg (.bool false)))
      clear hbk hown hgp hO
      go_wp2_with (fail)
      clear d1 g1 g2 f1
      generalize wr.setCell ⟨g, 1, none⟩ (.bool false) = w2 at HO2 HG2 HF2 HB2 ⊢
      clear HO1 HG1 HB1 HBK HOWN
      go_loopw [57] (fun i wr => ∃ k : Nat, k ≤ ps.length ∧ i = .int .i64 k ∧ Aside0 (OutAt B g mk false (L ++ byAll (ps.take k)) wr) ∧ Aside0 (wr.heap[gp]? = some (.cells (pairsV ps).toArray 76 (0, 0))) ∧ Aside0 (FrO w wr) ∧ Aside0 (Below B w wr)) (fun i _ => ps.length - (intOf i).toNat)
      case atStart => exact ⟨0, by omega, rfl, ⟨by simpa [byAll] using HO2.out⟩, HG2, HF2, HB2⟩
      case round =>
        obtain ⟨k, hk, rfl, HO3, HG3, HF3, HB3⟩ := hrel
        by_cases hlt : k < ps.length
        · obtain ⟨⟨p, m⟩, hp⟩ : ∃ p, ps[k]? = some p := ⟨_, List.getElem?_eq_getElem hlt⟩
          have hm := hps _ (List.mem_of_getElem? hp)
          have hm1 : m ≤ 8 := hm.2
          have hm0 : 1 ≤ m := hm.1
          have c0 : wr.cell? ⟨gp, k * 2, none⟩ = some (.int .i64 p) := pair_cell (Below.refl _ _) HG3.out hp 0 (by omega)
          have c1 : wr.cell? ⟨gp, k * 2 + 1, none⟩ = some (.int .i64 (m : Int)) := pair_cell (Below.refl _ _) HG3.out hp 1 (by omega)
          have HP := Aside0.mk hp
          clear hp hm
          go_wp2_with (fail)
          clear c0 c1
          obtain ⟨wo, hwo⟩ : ∃ wo : World, wo = wr := ⟨_, rfl⟩
          subst hwo
          go_loopw [61] (fun i W => ∃ j : Nat, j ≤ 8 ∧ i = .int .i64 j ∧ Aside0 (OutAt B g mk false (L ++ byAll (ps.take k)) W) ∧ Aside0 (W.heap[gp]? = some (.cells (pairsV ps).toArray 76 (0, 0))) ∧ Aside0 (FrO w W) ∧ Aside0 (Below B w W) ∧ Aside0 (W.heap[wo.heap.size]? = some (.cells #[.int .i64 p, .int .i64 (m : Int)] 76 (0, 0))) ∧ Aside0 (W.heap[wo.heap.size + 1]? = some (.cells (cellsN (roomL p j)).toArray 83 (0, 0)))) (fun i _ => 8 - (intOf i).toNat)
          case atStart =>
            refine ⟨0, by omega, rfl, ⟨(HO3.out.alloc _).alloc _⟩, ⟨blk_alloc (blk_alloc HG3.out _) _⟩, ⟨(HF3.out.alloc _).alloc _⟩, ⟨(HB3.out.alloc (Nat.le_trans hB HF3.out.1) _).alloc (by have := HF3.out.1; simp; omega) _⟩, ⟨blk_alloc (heap_alloc_new wo _) _⟩, ⟨?_⟩⟩
            have := heap_alloc_new (wo.alloc (.cells #[.int .i64 p, .int .i64 (m : Int)] 76)) (.cells (cellsN (roomL p 0)).toArray 83)
            simpa [roomL, cellsN, List.range, List.range.loop] using this
          case round =>
            obtain ⟨j, hj, rfl, HO4, HG4, HF4, HB4, HQ4, HR4⟩ := hrel
            by_cases hlj : j < 8
            · have q0 : wr.cell? ⟨wo.heap.size, 0, none⟩ = some (.int .i64 p) := by rw [cell_of_row wr _ _ _ _ _ HQ4.out]; rfl
              obtain ⟨r0, hr0⟩ : ∃ x, (cellsN (roomL p j))[j]? = some x := ⟨_, List.getElem?_eq_getElem (by rw [cellsN_length, roomL_length]; exact hlj)⟩
              have r1 : wr.cell? ⟨wo.heap.size + 1, j, none⟩ = some r0 := by rw [cell_of_row wr _ _ _ _ _ HR4.out, List.getElem?_toArray]; exact hr0
              have r2 : wr.frozen? ⟨wo.heap.size + 1, j, none⟩ = false := blk_thaw HR4.out j
              clear hr0
              go_wp2_with (fail)
              refine ⟨⟨j + 1, by omega, by go_num, ⟨HO4.out.far HR4.out (by decide) (by decide) j _⟩, ⟨blk_far HG4.out (fun e => by have := blk_lt HG3.out; have e2 : gp = wo.heap.size + 1 := e; omega) _⟩, ⟨HF4.out.new (by have := HF3.out.1; omega) j _⟩, ⟨HB4.out.setCell (p := ⟨wo.heap.size + 1, j, none⟩) (by have := HF3.out.1; show B ≤ wo.heap.size + 1; omega) _⟩, ⟨blk_far HQ4.out (fun e => by have e2 : wo.heap.size = wo.heap.size + 1 := e; omega) _⟩, ⟨blk_put HR4.out j _ ?_⟩⟩, by simp [intOf]; omega⟩
              rw [← roomL_succ p j hlj, List.setIfInBounds_toArray, cellsN_set, ← nat_byte]
            · obtain rfl : j = 8 := by omega
              clear hlj hj
              have hlen : L.length + (byAll (ps.take k)).length + m ≤ 65536 := by
                rw [byAll_length _ (fun q hq => (hps q (List.mem_of_mem_take hq)).2)]
                have := sum_le3 hL (k + 1)
                rw [sum_next HP.out] at this
                omega
              rw [← List.length_append] at hlen
              generalize hL2 : L ++ byAll (ps.take k) = L2 at HO4 hlen
              have HL2 := Aside0.mk hL2
              clear hL2
              obtain ⟨hBg3, v3, hbk, hown⟩ := HO4.out
              obtain ⟨A3, c3, rfl⟩ := own_slice hown
              have g2 : wr.cell? ⟨g, 2, none⟩ = some (.slice A3 L2.length c3) := by rw [cell_of_row wr g _ _ _ _ hbk]; rfl
              have f2 : wr.frozen? ⟨g, 2, none⟩ = false := blk_thaw hbk 2
              have q1 : wr.cell? ⟨wo.heap.size, 1, none⟩ = some (.int .i64 (m : Int)) := by rw [cell_of_row wr _ _ _ _ _ HQ4.out]; rfl
              have HBK := Aside0.mk hbk
              have HOWN := Aside0.mk hown
              have HLEN := Aside0.mk hlen
              have hne := own_ne hown hbk (by decide)
              have hne2 := own_ne hown HQ4.out (by decide)
              have b0 := hown.lt
              have i0 : (0 : Int) ≤ 8 - (m : Int) := by omega
              have i1 : (8 : Int) - (m : Int) ≤ 8 := by omega
              have hgl : g < wr.heap.size := blk_lt hbk
              have hql : wo.heap.size < wr.heap.size := blk_lt HQ4.out
              obtain ⟨ie, hi, hz0, hz1, hz2⟩ := info_parts Try.info_u8
              have hBw : B ≤ wr.heap.size := by omega
              have hsl := slice_room (wo.heap.size + 1) m hm0 hm1
              clear hbk hown hlen
              go_wp2_with (fail)
              go_region_law
                ((refine step_append_lies _ (by rfl) _ _ _ (by rfl) B 5 ie (.int .u8 0) 1 1 Try.underlying49 hi hz0 hz1 hz2 rfl (by omega) (.slice A3 L2.length c3) L2.length (cellsN L2) (by rfl) HOWN.out.drew
                    ⟨wo.heap.size + 1, 8 - m, none⟩ m m (cellsN (byN p m)) (by rfl) (by rw [cellsN_length, byN_length p m hm1, Nat.mul_one]) (room_news HR4.out hm1) (cellsN_one _)
                    (by omega) (app_max HLEN.out) (app_bytes HLEN.out) (by simpa using hBw) wr.heap.size (by simp) ?_; intro gg cap w5 hown1 hgrow hat hlt5; have e2 : w5.cell? ⟨g, 2, none⟩ = some (.slice A3 L2.length c3) := (by rw [hgrow.cell_far _ (by simpa using hgl) (Ne.symm hne)]; exact g2); have ef : w5.frozen? ⟨g, 2, none⟩ = false := (by rw [hgrow.frozen_far _ (by simpa using hgl) (Ne.symm hne)]; exact f2)))
              all_goals
                have hgrow := grown_of_drew hgrow
                have hMl : m = (byN p m).length := (byN_length p m hm1).symm
                have HO5 := Aside0.mk (OutAt.appended (M := byN p m) hBg3 HBK.out HOWN.out hgrow hown1 (by rw [← hMl]))
                have HF5 := Aside0.mk (HF4.out.appended HBK.out HOWN.out hgrow (v5 := .slice (some ⟨gg, 0, none⟩) (L2.length + m) cap))
                have HB5 := Aside0.mk (below_appended HB4.out hBg3 hBw HOWN.out hgrow (v5 := .slice (some ⟨gg, 0, none⟩) (L2.length + m) cap))
                have HG5 := Aside0.mk (((FrO.refl wr).appended HBK.out HOWN.out hgrow (v5 := .slice (some ⟨gg, 0, none⟩) (L2.length + m) cap)).blk HG4.out (by decide) (by decide))
                clear hMl hown1 hgrow hat e2 ef
                generalize w5.setCell ⟨g, 2, none⟩ (.slice (some ⟨gg, 0, none⟩) (L2.length + m) cap) = w6 at HO5 HF5 HB5 HG5 ⊢
                go_wp2_with (fail)
                refine ⟨⟨k + 1, by omega, by go_num, ⟨?_⟩, HG5, HF5, HB5⟩, by simp [intOf]; omega⟩
                rw [byAll_next HP.out, ← List.append_assoc, HL2.out]
                exact HO5.out
        · obtain rfl : k = ps.length := by omega
          clear hlt hk
          rw [List.take_length] at HO3
          have hlen : L.length + (byAll ps).length + s.size ≤ 65536 := by
            rw [byAll_length _ (fun q hq => (hps q hq).2)]
            omega
          rw [← List.length_append] at hlen
          generalize hL2 : L ++ byAll ps = L2 at HO3 hlen
          have HL2 := Aside0.mk hL2
          clear hL2
          obtain ⟨hBg3, v3, hbk, hown⟩ := HO3.out
          obtain ⟨A3, c3, rfl⟩ := own_slice hown
          have g2 : wr.cell? ⟨g, 2, none⟩ = some (.slice A3 L2.length c3) := by rw [cell_of_row wr g _ _ _ _ hbk]; rfl
          have HBK := Aside0.mk hbk
          have HOWN := Aside0.mk hown
          obtain ⟨ie, hi, hz0, hz1, hz2⟩ := info_parts Try.info_u8
          have hBw : B ≤ wr.heap.size := by have := blk_lt hbk; omega
          have hm1 : L2.length + s.size ≤ maxLen := app_max hlen
          have hm2 : L2.length + s.size ≤ 140737488355328 := by omega
          clear hbk hown hlen
          go_wp2_with (at_builtin; refine Lib.wpList_append_own_string _ rfl _ _ 49 9 rfl B 5 ie Try.underlying49 Try.underlying9 hi hz0 hz1 hz2 _ _ _ rfl HOWN.out s rfl hm1 hm2 hBw ?_)
          intro v5 w5 hown5 hgrow _
          rw [strCells_bys] at hown5
          obtain ⟨A5, c5, rfl⟩ := own_slice hown5
          have hb5 : w5.heap[g]? = _ := (hgrow.block g (blk_lt HBK.out) (fun e => own_ne HOWN.out HBK.out (by decide) e.symm)).trans HBK.out
          have e2 : w5.cell? ⟨g, 2, none⟩ = some (.slice A3 L2.length c3) := by rw [cell_of_row w5 g _ _ _ _ hb5]; rfl
          have ef : w5.frozen? ⟨g, 2, none⟩ = false := blk_thaw hb5 2
          have HO5 := Aside0.mk (OutAt.appended (M := bys s) hBg3 HBK.out HOWN.out hgrow hown5 (by rw [bys_length]))
          have HF5 := Aside0.mk (HF3.out.appended HBK.out HOWN.out hgrow (v5 := .slice A5 (L2.length + s.size) c5))
          have HB5 := Aside0.mk (below_appended HB3.out hBg3 hBw HOWN.out hgrow (v5 := .slice A5 (L2.length + s.size) c5))
          clear hb5 hown5 hgrow g2
          go_wp2_with (fail)
          go_end0
          rw [HL2.out]
          exact ⟨rfl, HO5.out, HF5.out, HB5.out⟩
end
section
open Go.RowKit Go.Deep Go.Proofs.YtpeliaknceigdaaW.PrintWords Go.Proofs.YtpeliaknceigdaaW.PrintLast Go.Proofs.YtpeliaknceigdaaW.PrintMore
set_option maxHeartbeats 1000000
set_option linter.unusedVariables false
set_option linter.unusedSimpArgs false
attribute [local go_sem ↓] Go.wp_at_zero Go.wp_at_succ
theorem sum_small : ∀ (ps : List (Int × Nat)), ps.length ≤ 2 → (∀ q ∈ ps, q.2 ≤ 8) → sumN ps ≤ 16
  | [], _, _ => by decide
  | [a], _, h => by rw [sumN_cons]; have := h a (by simp); simp [sumN]; omega
  | [a, b], _, h => by rw [sumN_cons, sumN_cons]; have := h a (by simp); have := h b (by simp); simp [sumN]; omega
  | a :: b :: c :: l, h, _ => by simp at h
theorem sum_take_le (ps : List (Int × Nat)) (k : Nat) : sumN (ps.take k) ≤ sumN ps := by
  have := sumN_append (ps.take k) (ps.drop k)
  rw [List.take_append_drop] at this
  omega
set_option maxRecDepth 100000 in
theorem puts_spoilt (B g gp : Nat) (mk ok : Bool) (L : List Nat) (s : ByteArray) (ps : List (Int × Nat)) (w : World) (hO : OutAt B g mk true L w) (hgp : w.heap[gp]? = some (.cells (pairsV ps).toArray 76 (0, 0)))
    (hps : ∀ p ∈ ps, 1 ≤ p.2 ∧ p.2 ≤ 8) (hpl : ps.length ≤ 2) (hs : s.size ≤ 140737488351232) (hl : L.length ≤ 65536) (hB : B ≤ w.heap.size) :
    Calls Try.prog 38 #[.pointer (some ⟨g, 0, none⟩), .bool ok, .string s, .slice (some ⟨gp, 0, none⟩) ps.length ps.length] w fun e w' => e = .returned (.tuple #[]) ∧ OutAt B g mk true L w' ∧ FrO w w' ∧ Below B w w' := by
  have hsm : sumN ps ≤ 16 := sum_small ps hpl (fun q hq => (hps q hq).2)
  go_enter Try.func38, Try.ntmps38
  go_wp2_with (fail)
  go_loopw [8, 21] (fun n i wr => ∃ k : Nat, k ≤ ps.length ∧ i = .int .i64 k ∧ n = .int .i64 ((s.size + sumN (ps.take k) : Nat) : Int) ∧ Aside0 (Below w.heap.size w wr)) (fun _ i _ => ps.length - (intOf i).toNat)
  case atStart => exact ⟨0, by omega, rfl, rfl, ⟨Below.refl _ _⟩⟩
  case round =>
    obtain ⟨k, hk, rfl, rfl, HB1⟩ := hrel
    have hsum : s.size + sumN (ps.take k) ≤ 140737488351248 := by have := sum_take_le ps k; omega
    by_cases hlt : k < ps.length
    · obtain ⟨⟨p, m⟩, hp⟩ : ∃ p, ps[k]? = some p := ⟨_, List.getElem?_eq_getElem hlt⟩
      have hm := hps _ (List.mem_of_getElem? hp)
      have hm1 : m ≤ 8 := hm.2
      have c0 : wr.cell? ⟨gp, k * 2, none⟩ = some (.int .i64 p) := pair_cell HB1.out hgp hp 0 (by omega)
      have c1 : wr.cell? ⟨gp, k * 2 + 1, none⟩ = some (.int .i64 (m : Int)) := pair_cell HB1.out hgp hp 1 (by omega)
      have HP := Aside0.mk hp
      clear hp hm
      go_wp2_with (fail)
      refine ⟨⟨k + 1, by omega, by go_num, ?_, ⟨below_alloc HB1.out _⟩⟩, by simp [intOf]; omega⟩
      rw [sum_next HP.out, ← Nat.add_assoc]
      go_num
    · obtain rfl : k = ps.length := by omega
      clear hlt hk
      rw [List.take_length] at hsum ⊢
      have HO1 := Aside0.mk (hO.below HB1.out)
      generalize hN : s.size + sumN ps = N at hsum ⊢
      have HN := Aside0.mk hN
      obtain ⟨hBg, v, hbk, hown⟩ := HO1.out
      obtain ⟨A, c, rfl⟩ := own_slice hown
      have g1 : wr.cell? ⟨g, 1, none⟩ = some (.bool true) := by rw [cell_of_row wr g _ _ _ _ hbk]; rfl
      have g2 : wr.cell? ⟨g, 2, none⟩ = some (.slice A L.length c) := by rw [cell_of_row wr g _ _ _ _ hbk]; rfl
      have f1 : wr.frozen? ⟨g, 1, none⟩ = false := blk_thaw hbk 1
      have HO2 := Aside0.mk (HO1.out.flag true)
      have HF2 := Aside0.mk (HO1.out.fro (FrO.of_below HB1.out) 1 (.bool true))
      have HB2 := Aside0.mk (((HB1.out.mono hB).setCell (p := ⟨g, 1, none⟩) hBg (.bool true)))
      clear hN hbk hown hgp hO
      go_wp2_with (fail)
      refine bodyPost_ret (v := .tuple #[]) (by simp [results, Try.results38, go_sem]) rfl ?_
      exact ⟨rfl, HO2.out, HF2.out, HB2.out⟩
set_option maxRecDepth 100000 in
theorem puts_no (B g gp : Nat) (mk : Bool) (L : List Nat) (s : ByteArray) (ps : List (Int × Nat)) (w : World) (hO : OutAt B g mk false L w) (hgp : w.heap[gp]? = some (.cells (pairsV ps).toArray 76 (0, 0)))
    (hps : ∀ p ∈ ps, 1 ≤ p.2 ∧ p.2 ≤ 8) (hpl : ps.length ≤ 2) (hs : s.size ≤ 140737488351232) (hl : L.length ≤ 65536) (hB : B ≤ w.heap.size) :
    Calls Try.prog 38 #[.pointer (some ⟨g, 0, none⟩), .bool false, .string s, .slice (some ⟨gp, 0, none⟩) ps.length ps.length] w fun e w' => e = .returned (.tuple #[]) ∧ OutAt B g mk true L w' ∧ FrO w w' ∧ Below B w w' := by
  have hsm : sumN ps ≤ 16 := sum_small ps hpl (fun q hq => (hps q hq).2)
  go_enter Try.func38, Try.ntmps38
  go_wp2_with (fail)
  go_loopw [8, 21] (fun n i wr => ∃ k : Nat, k ≤ ps.length ∧ i = .int .i64 k ∧ n = .int .i64 ((s.size + sumN (ps.take k) : Nat) : Int) ∧ Aside0 (Below w.heap.size w wr)) (fun _ i _ => ps.length - (intOf i).toNat)
  case atStart => exact ⟨0, by omega, rfl, rfl, ⟨Below.refl _ _⟩⟩
  case round =>
    obtain ⟨k, hk, rfl, rfl, HB1⟩ := hrel
    have hsum : s.size + sumN (ps.take k) ≤ 140737488351248 := by have := sum_take_le ps k; omega
    by_cases hlt : k < ps.length
    · obtain ⟨⟨p, m⟩, hp⟩ : ∃ p, ps[k]? = some p := ⟨_, List.getElem?_eq_getElem hlt⟩
      have hm := hps _ (List.mem_of_getElem? hp)
      have hm1 : m ≤ 8 := hm.2
      have c0 : wr.cell? ⟨gp, k * 2, none⟩ = some (.int .i64 p) := pair_cell HB1.out hgp hp 0 (by omega)
      have c1 : wr.cell? ⟨gp, k * 2 + 1, none⟩ = some (.int .i64 (m : Int)) := pair_cell HB1.out hgp hp 1 (by omega)
      have HP := Aside0.mk hp
      clear hp hm
      go_wp2_with (fail)
      refine ⟨⟨k + 1, by omega, by go_num, ?_, ⟨below_alloc HB1.out _⟩⟩, by simp [intOf]; omega⟩
      rw [sum_next HP.out, ← Nat.add_assoc]
      go_num
    · obtain rfl : k = ps.length := by omega
      clear hlt hk
      rw [List.take_length] at hsum ⊢
      have HO1 := Aside0.mk (hO.below HB1.out)
      generalize hN : s.size + sumN ps = N at hsum ⊢
      have HN := Aside0.mk hN
      obtain ⟨hBg, v, hbk, hown⟩ := HO1.out
      obtain ⟨A, c, rfl⟩ := own_slice hown
      have g1 : wr.cell? ⟨g, 1, none⟩ = some (.bool false) := by rw [cell_of_row wr g _ _ _ _ hbk]; rfl
      have g2 : wr.cell? ⟨g, 2, none⟩ = some (.slice A L.length c) := by rw [cell_of_row wr g _ _ _ _ hbk]; rfl
      have f1 : wr.frozen? ⟨g, 1, none⟩ = false := blk_thaw hbk 1
      have HO2 := Aside0.mk (HO1.out.flag true)
      have HF2 := Aside0.mk (HO1.out.fro (FrO.of_below HB1.out) 1 (.bool true))
      have HB2 := Aside0.mk (((HB1.out.mono hB).setCell (p := ⟨g, 1, none⟩) hBg (.bool true)))
      clear hN hbk hown hgp hO
      go_wp2_with (fail)
      refine bodyPost_ret (v := .tuple #[]) (by simp [results, Try.results38, go_sem]) rfl ?_
      exact ⟨rfl, HO2.out, HF2.out, HB2.out⟩
set_option maxRecDepth 100000 in
theorem puts_big (B g gp : Nat) (mk : Bool) (L : List Nat) (s : ByteArray) (ps : List (Int × Nat)) (w : World) (hO : OutAt B g mk false L w) (hgp : w.heap[gp]? = some (.cells (pairsV ps).toArray 76 (0, 0)))
    (hps : ∀ p ∈ ps, 1 ≤ p.2 ∧ p.2 ≤ 8) (hpl : ps.length ≤ 2) (hs : s.size ≤ 140737488351232) (hl : L.length ≤ 65536) (hbig : 65536 < L.length + s.size + sumN ps) (hB : B ≤ w.heap.size) :
    Calls Try.prog 38 #[.pointer (some ⟨g, 0, none⟩), .bool true, .string s, .slice (some ⟨gp, 0, none⟩) ps.length ps.length] w fun e w' => e = .returned (.tuple #[]) ∧ OutAt B g mk true L w' ∧ FrO w w' ∧ Below B w w' := by
  have hsm : sumN ps ≤ 16 := sum_small ps hpl (fun q hq => (hps q hq).2)
  go_enter Try.func38, Try.ntmps38
  go_wp2_with (fail)
  go_loopw [8, 21] (fun n i wr => ∃ k : Nat, k ≤ ps.length ∧ i = .int .i64 k ∧ n = .int .i64 ((s.size + sumN (ps.take k) : Nat) : Int) ∧ Aside0 (Below w.heap.size w wr)) (fun _ i _ => ps.length - (intOf i).toNat)
  case atStart => exact ⟨0, by omega, rfl, rfl, ⟨Below.refl _ _⟩⟩
  case round =>
    obtain ⟨k, hk, rfl, rfl, HB1⟩ := hrel
    have hsum : s.size + sumN (ps.take k) ≤ 140737488351248 := by have := sum_take_le ps k; omega
    by_cases hlt : k < ps.length
    · obtain ⟨⟨p, m⟩, hp⟩ : ∃ p, ps[k]? = some p := ⟨_, List.getElem?_eq_getElem hlt⟩
      have hm := hps _ (List.mem_of_getElem? hp)
      have hm1 : m ≤ 8 := hm.2
      have c0 : wr.cell? ⟨gp, k * 2, none⟩ = some (.int .i64 p) := pair_cell HB1.out hgp hp 0 (by omega)
      have c1 : wr.cell? ⟨gp, k * 2 + 1, none⟩ = some (.int .i64 (m : Int)) := pair_cell HB1.out hgp hp 1 (by omega)
      have HP := Aside0.mk hp
      clear hp hm
      go_wp2_with (fail)
      refine ⟨⟨k + 1, by omega, by go_num, ?_, ⟨below_alloc HB1.out _⟩⟩, by simp [intOf]; omega⟩
      rw [sum_next HP.out, ← Nat.add_assoc]
      go_num
    · obtain rfl : k = ps.length := by omega
      clear hlt hk
      rw [List.take_length] at hsum ⊢
      have HO1 := Aside0.mk (hO.below HB1.out)
      generalize hN : s.size + sumN ps = N at hsum ⊢
      have HN := Aside0.mk hN
      obtain ⟨hBg, v, hbk, hown⟩ := HO1.out
      obtain ⟨A, c, rfl⟩ := own_slice hown
      have g1 : wr.cell? ⟨g, 1, none⟩ = some (.bool false) := by rw [cell_of_row wr g _ _ _ _ hbk]; rfl
      have g2 : wr.cell? ⟨g, 2, none⟩ = some (.slice A L.length c) := by rw [cell_of_row wr g _ _ _ _ hbk]; rfl
      have f1 : wr.frozen? ⟨g, 1, none⟩ = false := blk_thaw hbk 1
      have d1 : decide (65536 < (L.length : Int) + (N : Int)) = true := decide_eq_true (by omega)
      have HO2 := Aside0.mk (HO1.out.flag true)
      have HF2 := Aside0.mk (HO1.out.fro (FrO.of_below HB1.out) 1 (.bool true))
      have HB2 := Aside0.mk (((HB1.out.mono hB).setCell (p := ⟨g, 1, none⟩) hBg (.bool true)))
      clear hN hbk hown hgp hO hbig
      go_wp2_with (fail)
      refine bodyPost_ret (v := .tuple #[]) (by simp [results, Try.results38, go_sem]) rfl ?_
      exact ⟨rfl, HO2.out, HF2.out, HB2.out⟩
theorem puts_nil (ok : Bool) (s : ByteArray) (v : Value) (w : World) :
    Calls Try.prog 38 #[.pointer none, .bool ok, .string s, v] w fun e w' => e = .returned (.tuple #[]) ∧ w = w' := by
  go_enter Try.func38, Try.ntmps38
  go_wp2_with (fail)
  refine bodyPost_ret (v := .tuple #[]) (by simp [results, Try.results38, go_sem]) rfl ?_
  exact ⟨rfl, rfl⟩
/-- A part more: as it goes with what is there. -/
def outStep (bad : Bool) (L : List Nat) (ok : Bool) (M : List Nat) : Bool × List Nat :=
  if bad = true ∨ ok = false ∨ 65536 < L.length + M.length then (true, L) else (false, L ++ M)
theorem outStep_len (bad : Bool) (L : List Nat) (ok : Bool) (M : List Nat) (h : L.length ≤ 65536) : (outStep bad L ok M).2.length ≤ 65536 := by
  unfold outStep
  split
  · exact h
  · rename_i hn
    have h3 : ¬ 65536 < L.length + M.length := fun h3 => hn (.inr (.inr h3))
    show (L ++ M).length ≤ 65536
    rw [List.length_append]; omega
theorem puts_all (B g gp : Nat) (mk bad ok : Bool) (L : List Nat) (s : ByteArray) (ps : List (Int × Nat)) (w : World) (hO : OutAt B g mk bad L w) (hgp : w.heap[gp]? = some (.cells (pairsV ps).toArray 76 (0, 0)))
    (hps : ∀ p ∈ ps, 1 ≤ p.2 ∧ p.2 ≤ 8) (hpl : ps.length ≤ 2) (hs : s.size ≤ 140737488351232) (hl : L.length ≤ 65536) (hB : B ≤ w.heap.size) :
    Calls Try.prog 38 #[.pointer (some ⟨g, 0, none⟩), .bool ok, .string s, .slice (some ⟨gp, 0, none⟩) ps.length ps.length] w fun e w' => e = .returned (.tuple #[]) ∧
      OutAt B g mk (outStep bad L ok (byAll ps ++ bys s)).1 (outStep bad L ok (byAll ps ++ bys s)).2 w' ∧ FrO w w' ∧ Below B w w' := by
  have hlen : (byAll ps ++ bys s).length = s.size + sumN ps := by rw [List.length_append, byAll_length _ (fun q hq => (hps q hq).2), bys_length, Nat.add_comm]
  cases bad with
  | true => rw [show outStep true L ok (byAll ps ++ bys s) = (true, L) from if_pos (.inl rfl)]; exact puts_spoilt B g gp mk ok L s ps w hO hgp hps hpl hs hl hB
  | false =>
    cases ok with
    | false => rw [show outStep false L false (byAll ps ++ bys s) = (true, L) from if_pos (.inr (.inl rfl))]; exact puts_no B g gp mk L s ps w hO hgp hps hpl hs hl hB
    | true =>
      by_cases hb : 65536 < L.length + s.size + sumN ps
      · rw [show outStep false L true (byAll ps ++ bys s) = (true, L) from if_pos (.inr (.inr (by omega)))]; exact puts_big B g gp mk L s ps w hO hgp hps hpl hs hl hb hB
      · rw [show outStep false L true (byAll ps ++ bys s) = (false, L ++ (byAll ps ++ bys s)) from if_neg (by rintro (h | h | h); cases h; cases h; omega), ← List.append_assoc]
        exact puts_ok B g gp mk L s ps w hO hgp hps hpl (by omega) hB
def oneB (n : Int) : Bool := decide (0 ≤ n ∧ n ≤ 255)
def timeB (n : Int) : Bool := decide (0 ≤ n ∧ n ≤ 1099511627775)
theorem one_f (n : Int) : code_one.f n = some (oneB n) := by
  unfold code_one.f oneB
  split
  · rename_i h
    congr 1
    simp only [decide_eq_decide]
    omega
  · rename_i h
    rw [decide_eq_false (by omega)]
theorem time_f (n : Int) : code_time.f n = some (timeB n) := by
  unfold code_time.f timeB
  split
  · rename_i h
    congr 1
    simp only [decide_eq_decide]
    omega
  · rename_i h
    rw [decide_eq_false (by omega)]
theorem pair_one (n : Int) (m : Nat) : (pairsV [(n, m)]).toArray = #[.int .i64 n, .int .i64 (m : Int)] := rfl
theorem Out_Byte (B g : Nat) (mk bad : Bool) (L : List Nat) (n : Int) (w : World) (hO : OutAt B g mk bad L w) (hl : L.length ≤ 65536) (hB : B ≤ w.heap.size) :
    Calls Try.prog 22 #[.pointer (some ⟨g, 0, none⟩), .int .i64 n] w fun e w' => e = .returned (.tuple #[]) ∧
      OutAt B g mk (outStep bad L (oneB n) (byN n 1)).1 (outStep bad L (oneB n) (byN n 1)).2 w' ∧ FrO w w' ∧ Below B w w' := by
  have HO := Aside0.mk hO
  have h1 := Aside0.mk (one_f n)
  clear hO
  go_enter Try.func22, Try.ntmps22
  go_wp2_with (fail)
  refine (code_one.calls n _ w h1.out).mono ?_
  rintro e w1 ⟨rfl, ⟨nd, rfl⟩⟩
  go_wp2_with (fail)
  have hO1 : OutAt B g mk bad L ((w.drewN nd).alloc (.cells #[.int .i64 n, .int .i64 1] 76)) := (HO.out.drewN nd).alloc _
  have hp : ((w.drewN nd).alloc (.cells #[.int .i64 n, .int .i64 1] 76)).heap[w.heap.size]? = some (.cells (pairsV [(n, 1)]).toArray 76 (0, 0)) := heap_alloc_new (w.drewN nd) _
  have hF : FrO w ((w.drewN nd).alloc (.cells #[.int .i64 n, .int .i64 1] 76)) := ((FrO.refl w).drewN nd).alloc _
  have hBl : Below B w ((w.drewN nd).alloc (.cells #[.int .i64 n, .int .i64 1] 76)) := (pw_below_drewN (Below.refl B w) nd).alloc hB _
  refine (puts_all B g w.heap.size mk bad (oneB n) L ⟨#[]⟩ [(n, 1)] _ hO1 hp (by simp) (by simp) (by decide) hl (Nat.le_trans hB hF.1)).mono ?_
  rintro e w1 ⟨rfl, h2, h3, h4⟩
  have H2 := Aside0.mk h2
  have H3 := Aside0.mk (hF.trans h3)
  have H4 := Aside0.mk (hBl.trans h4)
  clear h2 h3 h4 hO1 hp hF hBl
  go_wp2_with (fail)
  go_end0
  exact ⟨rfl, by simpa [byAll, bys] using H2.out, H3.out, H4.out⟩
theorem Out_Num (B g : Nat) (mk bad : Bool) (L : List Nat) (n : Int) (w : World) (hO : OutAt B g mk bad L w) (hl : L.length ≤ 65536) (hB : B ≤ w.heap.size) :
    Calls Try.prog 23 #[.pointer (some ⟨g, 0, none⟩), .int .i64 n] w fun e w' => e = .returned (.tuple #[]) ∧
      OutAt B g mk (outStep bad L (timeB n) (byN n 6)).1 (outStep bad L (timeB n) (byN n 6)).2 w' ∧ FrO w w' ∧ Below B w w' := by
  have HO := Aside0.mk hO
  have h1 := Aside0.mk (time_f n)
  clear hO
  go_enter Try.func23, Try.ntmps23
  go_wp2_with (fail)
  refine (code_time.calls n _ w h1.out).mono ?_
  rintro e w1 ⟨rfl, ⟨nd, rfl⟩⟩
  go_wp2_with (fail)
  have hO1 : OutAt B g mk bad L ((w.drewN nd).alloc (.cells #[.int .i64 n, .int .i64 6] 76)) := (HO.out.drewN nd).alloc _
  have hp : ((w.drewN nd).alloc (.cells #[.int .i64 n, .int .i64 6] 76)).heap[w.heap.size]? = some (.cells (pairsV [(n, 6)]).toArray 76 (0, 0)) := heap_alloc_new (w.drewN nd) _
  have hF : FrO w ((w.drewN nd).alloc (.cells #[.int .i64 n, .int .i64 6] 76)) := ((FrO.refl w).drewN nd).alloc _
  have hBl : Below B w ((w.drewN nd).alloc (.cells #[.int .i64 n, .int .i64 6] 76)) := (pw_below_drewN (Below.refl B w) nd).alloc hB _
  refine (puts_all B g w.heap.size mk bad (timeB n) L ⟨#[]⟩ [(n, 6)] _ hO1 hp (by simp) (by simp) (by decide) hl (Nat.le_trans hB hF.1)).mono ?_
  rintro e w1 ⟨rfl, h2, h3, h4⟩
  have H2 := Aside0.mk h2
  have H3 := Aside0.mk (hF.trans h3)
  have H4 := Aside0.mk (hBl.trans h4)
  clear h2 h3 h4 hO1 hp hF hBl
  go_wp2_with (fail)
  go_end0
  exact ⟨rfl, by simpa [byAll, bys] using H2.out, H3.out, H4.out⟩
theorem bys_nil : bys ⟨#[]⟩ = [] := rfl
theorem Out_Text (B g : Nat) (mk bad : Bool) (L : List Nat) (s : ByteArray) (w : World) (hO : OutAt B g mk bad L w) (hl : L.length ≤ 65536) (hs : s.size ≤ 140737488351232) (hB : B ≤ w.heap.size) :
    Calls Try.prog 25 #[.pointer (some ⟨g, 0, none⟩), .string s] w fun e w' => e = .returned (.tuple #[]) ∧
      OutAt B g mk (outStep bad L (decide (s.size ≤ 65535)) (byN (s.size : Int) 2 ++ bys s)).1 (outStep bad L (decide (s.size ≤ 65535)) (byN (s.size : Int) 2 ++ bys s)).2 w' ∧ FrO w w' ∧ Below B w w' := by
  have HO := Aside0.mk hO
  clear hO
  have hO1 : OutAt B g mk bad L (w.alloc (.cells #[.int .i64 (s.size : Int), .int .i64 2] 76)) := HO.out.alloc _
  have hp : (w.alloc (.cells #[.int .i64 (s.size : Int), .int .i64 2] 76)).heap[w.heap.size]? = some (.cells (pairsV [((s.size : Int), 2)]).toArray 76 (0, 0)) := heap_alloc_new w _
  have hF : FrO w (w.alloc (.cells #[.int .i64 (s.size : Int), .int .i64 2] 76)) := (FrO.refl w).alloc _
  have hBl : Below B w (w.alloc (.cells #[.int .i64 (s.size : Int), .int .i64 2] 76)) := (Below.refl B w).alloc hB _
  have hde : decide ((s.size : Int) ≤ 65535) = decide (s.size ≤ 65535) := by simp only [decide_eq_decide]; omega
  rw [← hde]
  have HDE := Aside0.mk hde
  have hc := puts_all B g w.heap.size mk bad (decide ((s.size : Int) ≤ 65535)) L s [((s.size : Int), 2)] _ hO1 hp (by simp) (by simp) hs hl (Nat.le_trans hB hF.1)
  rw [List.length_singleton] at hc
  have HC := Aside0.mk hc
  have HF := Aside0.mk hF
  have HL := Aside0.mk hBl
  clear hO1 hp hF hBl hde hc
  go_enter Try.func25, Try.ntmps25
  go_wp2_with (fail)
  with_reducible refine HC.out.mono ?_
  rintro e w1 ⟨rfl, h2, h3, h4⟩
  have H2 := Aside0.mk h2
  have H3 := Aside0.mk (HF.out.trans h3)
  have H4 := Aside0.mk (HL.out.trans h4)
  clear h2 h3 h4
  go_wp2_with (fail)
  go_end0
  exact ⟨rfl, by simpa [byAll] using H2.out, H3.out, H4.out⟩
theorem cellsN_nums (l : List Nat) : cellsN l = nums .u8 (l.map fun (n : Nat) => (n : Int)) := by simp [cellsN, nums]
/-- What was written. -/
theorem Out_Done (B g : Nat) (L : List Nat) (w : World) (hO : OutAt B g true false L w) :
    Calls Try.prog 12 #[.pointer (some ⟨g, 0, none⟩)] w fun e w' => e = .returned (.tuple #[.string (txt L), .int .i64 0]) ∧ w = w' := by
  obtain ⟨hBg, v, hbk, hown⟩ := hO
  obtain ⟨A, c, rfl⟩ := own_slice hown
  have g0 : w.cell? ⟨g, 0, none⟩ = some (.bool true) := by rw [cell_of_row w g _ _ _ _ hbk]; rfl
  have g1 : w.cell? ⟨g, 1, none⟩ = some (.bool false) := by rw [cell_of_row w g _ _ _ _ hbk]; rfl
  have g2 : w.cell? ⟨g, 2, none⟩ = some (.slice A L.length c) := by rw [cell_of_row w g _ _ _ _ hbk]; rfl
  rw [cellsN_nums, ← List.length_map (f := fun (n : Nat) => (n : Int))] at hown
  have hcv := own_string (P := Try.prog) Try.underlying49 Try.underlying5 Try.underlying9 hown
  rw [str_nats, List.length_map] at hcv
  clear hbk hown
  go_enter Try.func12, Try.ntmps12
  go_wp2_with (fail)
  go_ret2
  exact ⟨rfl, rfl⟩
/-- Nothing, where a part may not be. -/
theorem Out_Done_bad (B g : Nat) (mk bad : Bool) (L : List Nat) (w : World) (hO : OutAt B g mk bad L w) (hm : mk = false ∨ bad = true) :
    Calls Try.prog 12 #[.pointer (some ⟨g, 0, none⟩)] w fun e w' => e = .returned (.tuple #[.string ⟨#[]⟩, .int .i64 1]) ∧ w = w' := by
  obtain ⟨hBg, v, hbk, hown⟩ := hO
  have g0 : w.cell? ⟨g, 0, none⟩ = some (.bool mk) := by rw [cell_of_row w g _ _ _ _ hbk]; rfl
  have g1 : w.cell? ⟨g, 1, none⟩ = some (.bool bad) := by rw [cell_of_row w g _ _ _ _ hbk]; rfl
  clear hbk hown
  cases mk with
  | false =>
    go_enter Try.func12, Try.ntmps12
    go_wp2_with (fail)
    go_ret2
    exact ⟨rfl, rfl⟩
  | true =>
    obtain rfl : bad = true := by rcases hm with h | h; cases h; exact h
    go_enter Try.func12, Try.ntmps12
    go_wp2_with (fail)
    go_ret2
    exact ⟨rfl, rfl⟩
theorem Out_Done_nil (w : World) :
    Calls Try.prog 12 #[.pointer none] w fun e w' => e = .returned (.tuple #[.string ⟨#[]⟩, .int .i64 1]) ∧ w = w' := by
  go_enter Try.func12, Try.ntmps12
  go_wp2_with (fail)
  go_ret2
  exact ⟨rfl, rfl⟩
theorem NewOut_calls (B : Nat) (w : World) (hB : B ≤ w.heap.size) :
    Calls Try.prog 8 #[] w fun e w' => e = .returned (.pointer (some ⟨w.heap.size, 0, none⟩)) ∧ OutAt B w.heap.size true false [] w' ∧ Below w.heap.size w w' := by
  go_enter Try.func8, Try.ntmps8
  go_wp2_with (fail)
  go_ret
  exact ⟨rfl, ⟨hB, _, heap_alloc_new w _, own_nil _ _ _ _⟩, below_alloc (Below.refl _ _) _⟩
section
open Go.RowKit Go.Deep Go.Proofs.YtpeliaknceigdaaW.PrintWords Go.Proofs.YtpeliaknceigdaaW.PrintLast Go.Proofs.YtpeliaknceigdaaW.PrintMore
set_option maxHeartbeats 1000000
set_option linter.unusedVariables false
set_option linter.unusedSimpArgs false
attribute [local go_sem ↓] Go.wp_at_zero Go.wp_at_succ
theorem pair_two (n k : Int) : (pairsV [(n, 6), (k, 1)]).toArray = #[.int .i64 n, .int .i64 6, .int .i64 k, .int .i64 1] := rfl
theorem below_allocB {B : Nat} {w W : World} (hB : B ≤ w.heap.size) (h : Below B w W) (o : Obj) : Below B w (W.alloc o) := h.alloc (Nat.le_trans hB h.size) o
theorem new_at {W : World} {k : Nat} (h : W.heap.size = k) (o : Obj) : (W.alloc o).heap[k]? = some o := by subst h; exact heap_alloc_new W o
theorem OutAt.drew {B g : Nat} {mk bad : Bool} {L : List Nat} {w : World} (h : OutAt B g mk bad L w) : OutAt B g mk bad L w.drew := h.below (below_drew (Below.refl _ _))
theorem FrO.drew {w w1 : World} (h : FrO w w1) : FrO w w1.drew := h
theorem stamp_c0 {W : World} {b : Nat} {n k : Int} (h : W.heap[b]? = some (.cells #[.int .i64 n, .int .i64 k] 40 (0, 0))) : W.cell? ⟨b, 0, none⟩ = some (.int .i64 n) := by rw [cell_of_row _ _ _ _ _ _ h]; rfl
theorem stamp_c1 {W : World} {b : Nat} {n k : Int} (h : W.heap[b]? = some (.cells #[.int .i64 n, .int .i64 k] 40 (0, 0))) : W.cell? ⟨b, 1, none⟩ = some (.int .i64 k) := by rw [cell_of_row _ _ _ _ _ _ h]; rfl
/-- puts, at any world behind the stamp's box. -/
theorem stamp_puts (B g : Nat) (mk bad ok : Bool) (L : List Nat) (n k : Int) (w W : World) (hl : L.length ≤ 65536) (hB : B ≤ w.heap.size) (hO : OutAt B g mk bad L W) (hF : FrO w W) (hBl : Below B w W)
    (hp : W.heap[w.heap.size + 1]? = some (.cells #[.int .i64 n, .int .i64 6, .int .i64 k, .int .i64 1] 76 (0, 0))) (hs : W.heap[w.heap.size]? = some (.cells #[.int .i64 n, .int .i64 k] 40 (0, 0))) :
    Calls Try.prog 38 #[.pointer (some ⟨g, 0, none⟩), .bool ok, .string ⟨#[]⟩, .slice (some ⟨w.heap.size + 1, 0, none⟩) 2 2] W fun e w' => e = .returned (.tuple #[]) ∧
      Aside0 (OutAt B g mk (outStep bad L ok (byN n 6 ++ byN k 1)).1 (outStep bad L ok (byN n 6 ++ byN k 1)).2 w') ∧ Aside0 (FrO w w') ∧ Aside0 (Below B w w') ∧ w'.cell? ⟨w.heap.size, 0, none⟩ = some (.int .i64 n) ∧ w'.cell? ⟨w.heap.size, 1, none⟩ = some (.int .i64 k) := by
  have h := puts_all B g (w.heap.size + 1) mk bad ok L ⟨#[]⟩ [(n, 6), (k, 1)] W hO hp (by simp) (by simp) (by decide) hl (Nat.le_trans hB hF.1)
  refine h.mono ?_
  rintro e w' ⟨rfl, h1, h2, h3⟩
  have hs' := h2.blk hs (by decide) (by decide)
  refine ⟨rfl, ⟨?_⟩, ⟨hF.trans h2⟩, ⟨hBl.trans h3⟩, ?_, ?_⟩
  · simpa [byAll, bys] using h1
  · rw [cell_of_row _ _ _ _ _ _ hs']; rfl
  · rw [cell_of_row _ _ _ _ _ _ hs']; rfl
set_option maxRecDepth 100000 in
theorem Out_Stamp (B g : Nat) (mk bad : Bool) (L : List Nat) (n k : Int) (w : World) (hO : OutAt B g mk bad L w) (hl : L.length ≤ 65536) (hB : B ≤ w.heap.size) :
    Calls Try.prog 24 #[.pointer (some ⟨g, 0, none⟩), .agg #[.int .i64 n, .int .i64 k]] w fun e w' => e = .returned (.tuple #[]) ∧
      OutAt B g mk (outStep bad L (timeB n && oneB k) (byN n 6 ++ byN k 1)).1 (outStep bad L (timeB n && oneB k) (byN n 6 ++ byN k 1)).2 w' ∧ FrO w w' ∧ Below B w w' := by
  have HO := Aside0.mk hO
  have h1 := Aside0.mk (time_f n)
  have h2 := Aside0.mk (one_f k)
  clear hO
  cases hT : timeB n with
  | true =>
    rw [hT] at h1
    clear hT
    go_enter Try.func24, Try.ntmps24
    go_wp2_with (fail)
    have HO1 := Aside0.mk (HO.out.alloc (.cells #[.int .i64 n, .int .i64 k] 40))
    have HF1 := Aside0.mk ((FrO.refl w).alloc (.cells #[.int .i64 n, .int .i64 k] 40))
    have HB1 := Aside0.mk ((Below.refl B w).alloc hB (.cells #[.int .i64 n, .int .i64 k] 40))
    have hB1 : B ≤ (w.alloc (.cells #[.int .i64 n, .int .i64 k] 40)).heap.size := by simp; omega
    have s0 : (w.alloc (.cells #[.int .i64 n, .int .i64 k] 40)).cell? ⟨w.heap.size, 0, none⟩ = some (.int .i64 n) := by rw [cell_of_row _ _ _ _ _ _ (heap_alloc_new w _)]; rfl
    have s1 : (w.alloc (.cells #[.int .i64 n, .int .i64 k] 40)).cell? ⟨w.heap.size, 1, none⟩ = some (.int .i64 k) := by rw [cell_of_row _ _ _ _ _ _ (heap_alloc_new w _)]; rfl
    go_region_held3 (fun w' => w'.cell? ⟨w.heap.size, 0, none⟩ = some (.int .i64 n) ∧ w'.cell? ⟨w.heap.size, 1, none⟩ = some (.int .i64 k))
      (first | go_keep | exact ⟨c0, c1⟩)
      (first
        | (go_at_call 31; (with_reducible refine (code_time.calls n _ _ h1.out).mono ?_); rintro e w1 ⟨rfl, ⟨nd, rfl⟩⟩)
        | (go_at_call 39; (with_reducible refine (code_one.calls k _ _ h2.out).mono ?_); rintro e w1 ⟨rfl, ⟨nd, rfl⟩⟩)
        | (go_at_call 38; (with_reducible refine (stamp_puts B g mk bad _ L n k w _ hl hB (by repeat (first | exact HO1.out | apply OutAt.alloc | apply OutAt.drewN)) (by repeat (first | exact HF1.out | apply FrO.alloc | apply FrO.drewN)) (by repeat (first | exact HB1.out | apply below_allocB hB | apply pw_below_drewN)) (by repeat (first | exact new_at (by simp) _ | refine blk_drewN ?_ _ | refine blk_alloc ?_ _)) (by repeat (first | exact heap_alloc_new w _ | refine blk_drewN ?_ _ | refine blk_alloc ?_ _))).mono ?_); rintro e w1 ⟨rfl, H2, H3, H4, c0, c1⟩))
    all_goals
      go_wp2_with (fail)
      go_end0
      exact ⟨rfl, H2.out, H3.out, H4.out⟩
  | false =>
    rw [hT] at h1
    clear hT
    go_enter Try.func24, Try.ntmps24
    go_wp2_with (fail)
    have HO1 := Aside0.mk (HO.out.alloc (.cells #[.int .i64 n, .int .i64 k] 40))
    have HF1 := Aside0.mk ((FrO.refl w).alloc (.cells #[.int .i64 n, .int .i64 k] 40))
    have HB1 := Aside0.mk ((Below.refl B w).alloc hB (.cells #[.int .i64 n, .int .i64 k] 40))
    have hB1 : B ≤ (w.alloc (.cells #[.int .i64 n, .int .i64 k] 40)).heap.size := by simp; omega
    refine start_ (n := 17) (S := fun w' => w'.cell? ⟨w.heap.size, 0, none⟩ = some (.int .i64 n) ∧ w'.cell? ⟨w.heap.size, 1, none⟩ = some (.int .i64 k)) (ds := []) #[false, false, false, false, false, false, false, false, false, false, false, false, false, false, false, false, false] (by kernel_rfl) rfl rfl ⟨(stamp_c0 (by repeat (first | exact heap_alloc_new w _ | refine blk_drewN ?_ _ | refine blk_drew ?_ | refine blk_alloc ?_ _))), (stamp_c1 (by repeat (first | exact heap_alloc_new w _ | refine blk_drewN ?_ _ | refine blk_drew ?_ | refine blk_alloc ?_ _)))⟩ (fun hHeld => ?_)
    refine pure_ (i := 0) (N := some 4) (v := ?_) (a' := ?_) #[true, false, false, false, false, false, false, false, false, false, false, false, false, false, false, false, false] rfl rfl (by kernel_rfl) (fun _ _ _ h => h) (Or.inl ⟨by rfl, ?_⟩) ?_ ?_
    rotate_left
    · intro w'
      go_simp
      with_reducible rfl
    rotate_left
    · simp only [Act.put, List.setIfInBounds_toArray, List.set_cons_zero, List.set_cons_succ, i64_w, i32_w]
      rfl
    refine pure_ (i := 1) (N := some 5) (v := ?_) (a' := ?_) #[true, true, false, false, false, false, false, false, false, false, false, false, false, false, false, false, false] rfl rfl (by kernel_rfl) (fun _ _ _ h => h) (Or.inl ⟨by rfl, ?_⟩) ?_ ?_
    rotate_left
    · intro w'
      go_simp
      with_reducible rfl
    rotate_left
    · simp only [Act.put, List.setIfInBounds_toArray, List.set_cons_zero, List.set_cons_succ, i64_w, i32_w]
      rfl
    refine pure_ (i := 9) (N := some 13) (v := ?_) (a' := ?_) #[true, true, false, false, false, false, false, false, false, true, false, false, false, false, false, false, false] rfl rfl (by kernel_rfl) (fun _ _ _ h => h) (Or.inl ⟨by rfl, ?_⟩) ?_ ?_
    rotate_left
    · intro w'
      go_simp
      with_reducible rfl
    rotate_left
    · simp only [Act.put, List.setIfInBounds_toArray, List.set_cons_zero, List.set_cons_succ, i64_w, i32_w]
      rfl
    refine pure_ (i := 12) (N := some 16) (v := ?_) (a' := ?_) #[true, true, false, false, false, false, false, false, false, true, false, false, true, false, false, false, false] rfl rfl (by kernel_rfl) (fun _ _ _ h => h) (Or.inl ⟨by rfl, ?_⟩) ?_ ?_
    rotate_left
    · intro w'
      go_simp
      with_reducible rfl
    rotate_left
    · simp only [Act.put, List.setIfInBounds_toArray, List.set_cons_zero, List.set_cons_succ, i64_w, i32_w]
      rfl
    refine take_ (i := 2) (N := some 6) (v := ?_) (a' := ?_) #[true, true, true, false, false, false, false, false, false, true, false, false, true, false, false, false, false] rfl rfl (by kernel_rfl) (fun _ _ _ h => h) (Or.inl ⟨by rfl, ?_⟩) hHeld ?_ ?_
    rotate_left
    · rintro w' ⟨s0, s1⟩
      go_simp
      with_reducible rfl
    rotate_left
    · simp only [Act.put, List.setIfInBounds_toArray, List.set_cons_zero, List.set_cons_succ, i64_w, i32_w]
      rfl
    refine take_ (i := 10) (N := some 14) (v := ?_) (a' := ?_) #[true, true, true, false, false, false, false, false, false, true, true, false, true, false, false, false, false] rfl rfl (by kernel_rfl) (fun _ _ _ h => h) (Or.inl ⟨by rfl, ?_⟩) hHeld ?_ ?_
    rotate_left
    · rintro w' ⟨s0, s1⟩
      go_simp
      with_reducible rfl
    rotate_left
    · simp only [Act.put, List.setIfInBounds_toArray, List.set_cons_zero, List.set_cons_succ, i64_w, i32_w]
      rfl
    refine pure_ (i := 11) (N := some 15) (v := ?_) (a' := ?_) #[true, true, true, false, false, false, false, false, false, true, true, true, true, false, false, false, false] rfl rfl (by kernel_rfl) (fun _ _ _ h => h) (Or.inl ⟨by rfl, ?_⟩) ?_ ?_
    rotate_left
    · intro w'
      go_simp
      with_reducible rfl
    rotate_left
    · simp only [Act.put, List.setIfInBounds_toArray, List.set_cons_zero, List.set_cons_succ, i64_w, i32_w]
      rfl
    refine take_ (i := 13) (N := some 17) (v := ?_) (a' := ?_) #[true, true, true, false, false, false, false, false, false, true, true, true, true, true, false, false, false] rfl rfl (by kernel_rfl) (fun _ _ _ h => h) (Or.inl ⟨by rfl, ?_⟩) hHeld ?_ ?_
    rotate_left
    · rintro w' ⟨s0, s1⟩
      go_simp
      with_reducible rfl
    rotate_left
    · simp only [Act.put, List.setIfInBounds_toArray, List.set_cons_zero, List.set_cons_succ, i64_w, i32_w]
      rfl
    refine pure_ (i := 14) (N := some 18) (v := ?_) (a' := ?_) #[true, true, true, false, false, false, false, false, false, true, true, true, true, true, true, false, false] rfl rfl (by kernel_rfl) (fun _ _ _ h => h) (Or.inl ⟨by rfl, ?_⟩) ?_ ?_
    rotate_left
    · intro w'
      go_simp
      with_reducible rfl
    rotate_left
    · simp only [Act.put, List.setIfInBounds_toArray, List.set_cons_zero, List.set_cons_succ, i64_w, i32_w]
      rfl
    refine join_ (σ := Unit) 1 #[true, true, true, true, true, true, true, true, true, true, true, true, true, true, true, true, false] (fun _ => [(7, .bool false), (8, .bool false), (9, undef), (10, undef), (11, undef), (12, .bool false), (19, .slice (some ⟨w.heap.size + 1, 0, none⟩) 2 2)]) (fun _ w' => OutAt B g mk bad L w' ∧ FrO w w' ∧ Below B w w' ∧ w'.heap[w.heap.size + 1]? = some (.cells #[.int .i64 n, .int .i64 6, .int .i64 k, .int .i64 1] 76 (0, 0)) ∧ w'.heap[w.heap.size]? = some (.cells #[.int .i64 n, .int .i64 k] 40 (0, 0))) ?_ ?_
    rotate_left
    · intro hCont
      refine two_ (i := 3) (j := 15) (Ni := some 7) (Nj := some 19) #[true, true, true, true, false, false, false, false, false, true, true, true, true, true, true, false, false] #[true, true, true, false, false, false, false, false, false, true, true, true, true, true, true, true, false] rfl rfl rfl rfl (by kernel_rfl) (by decide) (by decide) (fun K hK => ?_) (fun K hK => ?_)
      · skip
        refine goes_ Try.func31 (by kernel_rfl) rfl #[.int .i64 n] (by rfl) rfl rfl (by simp only [List.map_toArray, List.map_cons, List.map_nil]; rfl) ?_
        with_reducible refine (code_time.calls n _ _ h1.out).mono ?_
        rintro e w3 ⟨rfl, ⟨nd, rfl⟩⟩
        refine ⟨_, rfl, ?_⟩
        refine hK.out _ _ ⟨(show _ from (stamp_c0 (by repeat (first | exact heap_alloc_new w _ | refine blk_drewN ?_ _ | refine blk_drew ?_ | refine blk_alloc ?_ _)))), (show _ from (stamp_c1 (by repeat (first | exact heap_alloc_new w _ | refine blk_drewN ?_ _ | refine blk_drew ?_ | refine blk_alloc ?_ _))))⟩ (fun hHeld => ?_)
        clear hK K
        refine norm_ (a' := ?_) ?_ ?_
        rotate_left
        · show Act.put _ (some 7) _ = _
          simp only [Act.put, List.setIfInBounds_toArray, List.set_cons_zero, List.set_cons_succ, i64_w, i32_w]
          rfl
        refine pure_ (i := 4) (N := some 8) (v := ?_) (a' := ?_) #[true, true, true, true, true, false, false, false, false, true, true, true, true, true, true, false, false] rfl rfl (by kernel_rfl) (fun _ _ _ h => h) (Or.inl ⟨by rfl, ?_⟩) ?_ ?_
        rotate_left
        · intro w'
          go_simp
          with_reducible rfl
        rotate_left
        · simp only [Act.put, List.setIfInBounds_toArray, List.set_cons_zero, List.set_cons_succ, i64_w, i32_w]
          rfl
        refine pure_ (i := 5) (N := some 9) (v := undef) (a' := ?_) #[true, true, true, true, true, true, false, false, false, true, true, true, true, true, true, false, false] rfl rfl (by kernel_rfl) (fun _ _ _ h => h) (Or.inr ⟨by rfl, rfl⟩) ?_ ?_
        rotate_left
        · simp only [Act.put, List.setIfInBounds_toArray, List.set_cons_zero, List.set_cons_succ, i64_w, i32_w]
          rfl
        refine pure_ (i := 6) (N := some 10) (v := undef) (a' := ?_) #[true, true, true, true, true, true, true, false, false, true, true, true, true, true, true, false, false] rfl rfl (by kernel_rfl) (fun _ _ _ h => h) (Or.inr ⟨by rfl, rfl⟩) ?_ ?_
        rotate_left
        · simp only [Act.put, List.setIfInBounds_toArray, List.set_cons_zero, List.set_cons_succ, i64_w, i32_w]
          rfl
        refine pure_ (i := 7) (N := some 11) (v := undef) (a' := ?_) #[true, true, true, true, true, true, true, true, false, true, true, true, true, true, true, false, false] rfl rfl (by kernel_rfl) (fun _ _ _ h => h) (Or.inr ⟨by rfl, rfl⟩) ?_ ?_
        rotate_left
        · simp only [Act.put, List.setIfInBounds_toArray, List.set_cons_zero, List.set_cons_succ, i64_w, i32_w]
          rfl
        refine pure_ (i := 8) (N := some 12) (v := ?_) (a' := ?_) #[true, true, true, true, true, true, true, true, true, true, true, true, true, true, true, false, false] rfl rfl (by kernel_rfl) (fun _ _ _ h => h) (Or.inl ⟨by rfl, ?_⟩) ?_ ?_
        rotate_left
        · intro w'
          go_simp
          with_reducible rfl
        rotate_left
        · simp only [Act.put, List.setIfInBounds_toArray, List.set_cons_zero, List.set_cons_succ, i64_w, i32_w]
          rfl
        refine one_ (i := 15) (N := some 19) #[true, true, true, true, true, true, true, true, true, true, true, true, true, true, true, true, false] rfl rfl (by kernel_rfl) (by decide) (fun K hK => ?_)
        refine value_ (w1 := ?_) (v := ?_) (by rfl) rfl ?_ ?_
        rotate_left 2
        · go_simp
          constructor
          · rfl
          · rfl
        refine hK.out _ _ ⟨(stamp_c0 (by repeat (first | exact heap_alloc_new w _ | refine blk_drewN ?_ _ | refine blk_drew ?_ | refine blk_alloc ?_ _))), (stamp_c1 (by repeat (first | exact heap_alloc_new w _ | refine blk_drewN ?_ _ | refine blk_drew ?_ | refine blk_alloc ?_ _)))⟩ (fun hHeld => ?_)
        clear hK K
        refine norm_ (a' := ?_) ?_ ?_
        rotate_left
        · show Act.put _ (some 19) _ = _
          simp only [Act.put, List.setIfInBounds_toArray, List.set_cons_zero, List.set_cons_succ, i64_w, i32_w]
          rfl
        exact norm_ (by simp only [putAll, Act.put, List.setIfInBounds_toArray, List.set_cons_zero, List.set_cons_succ]) (hCont () _ ⟨(by repeat (first | exact HO1.out | apply OutAt.alloc | apply OutAt.drewN | apply OutAt.drew)), (by repeat (first | exact HF1.out | apply FrO.alloc | apply FrO.drewN | apply FrO.drew)), (by repeat (first | exact HB1.out | apply below_allocB hB | apply pw_below_drewN | apply below_drew)), (by repeat (first | exact new_at (by simp) _ | refine blk_drewN ?_ _ | refine blk_drew ?_ | refine blk_alloc ?_ _)), (by repeat (first | exact heap_alloc_new w _ | refine blk_drewN ?_ _ | refine blk_drew ?_ | refine blk_alloc ?_ _))⟩)
      · skip
        refine value_ (w1 := ?_) (v := ?_) (by rfl) rfl ?_ ?_
        rotate_left 2
        · go_simp
          constructor
          · rfl
          · rfl
        refine hK.out _ _ ⟨(stamp_c0 (by repeat (first | exact heap_alloc_new w _ | refine blk_drewN ?_ _ | refine blk_drew ?_ | refine blk_alloc ?_ _))), (stamp_c1 (by repeat (first | exact heap_alloc_new w _ | refine blk_drewN ?_ _ | refine blk_drew ?_ | refine blk_alloc ?_ _)))⟩ (fun hHeld => ?_)
        clear hK K
        refine norm_ (a' := ?_) ?_ ?_
        rotate_left
        · show Act.put _ (some 19) _ = _
          simp only [Act.put, List.setIfInBounds_toArray, List.set_cons_zero, List.set_cons_succ, i64_w, i32_w]
          rfl
        refine one_ (i := 3) (N := some 7) #[true, true, true, true, false, false, false, false, false, true, true, true, true, true, true, true, false] rfl rfl (by kernel_rfl) (by decide) (fun K hK => ?_)
        refine goes_ Try.func31 (by kernel_rfl) rfl #[.int .i64 n] (by rfl) rfl rfl (by simp only [List.map_toArray, List.map_cons, List.map_nil]; rfl) ?_
        with_reducible refine (code_time.calls n _ _ h1.out).mono ?_
        rintro e w3 ⟨rfl, ⟨nd, rfl⟩⟩
        refine ⟨_, rfl, ?_⟩
        refine hK.out _ _ ⟨(show _ from (stamp_c0 (by repeat (first | exact heap_alloc_new w _ | refine blk_drewN ?_ _ | refine blk_drew ?_ | refine blk_alloc ?_ _)))), (show _ from (stamp_c1 (by repeat (first | exact heap_alloc_new w _ | refine blk_drewN ?_ _ | refine blk_drew ?_ | refine blk_alloc ?_ _))))⟩ (fun hHeld => ?_)
        clear hK K
        refine norm_ (a' := ?_) ?_ ?_
        rotate_left
        · show Act.put _ (some 7) _ = _
          simp only [Act.put, List.setIfInBounds_toArray, List.set_cons_zero, List.set_cons_succ, i64_w, i32_w]
          rfl
        refine pure_ (i := 4) (N := some 8) (v := ?_) (a' := ?_) #[true, true, true, true, true, false, false, false, false, true, true, true, true, true, true, true, false] rfl rfl (by kernel_rfl) (fun _ _ _ h => h) (Or.inl ⟨by rfl, ?_⟩) ?_ ?_
        rotate_left
        · intro w'
          go_simp
          with_reducible rfl
        rotate_left
        · simp only [Act.put, List.setIfInBounds_toArray, List.set_cons_zero, List.set_cons_succ, i64_w, i32_w]
          rfl
        refine pure_ (i := 5) (N := some 9) (v := undef) (a' := ?_) #[true, true, true, true, true, true, false, false, false, true, true, true, true, true, true, true, false] rfl rfl (by kernel_rfl) (fun _ _ _ h => h) (Or.inr ⟨by rfl, rfl⟩) ?_ ?_
        rotate_left
        · simp only [Act.put, List.setIfInBounds_toArray, List.set_cons_zero, List.set_cons_succ, i64_w, i32_w]
          rfl
        refine pure_ (i := 6) (N := some 10) (v := undef) (a' := ?_) #[true, true, true, true, true, true, true, false, false, true, true, true, true, true, true, true, false] rfl rfl (by kernel_rfl) (fun _ _ _ h => h) (Or.inr ⟨by rfl, rfl⟩) ?_ ?_
        rotate_left
        · simp only [Act.put, List.setIfInBounds_toArray, List.set_cons_zero, List.set_cons_succ, i64_w, i32_w]
          rfl
        refine pure_ (i := 7) (N := some 11) (v := undef) (a' := ?_) #[true, true, true, true, true, true, true, true, false, true, true, true, true, true, true, true, false] rfl rfl (by kernel_rfl) (fun _ _ _ h => h) (Or.inr ⟨by rfl, rfl⟩) ?_ ?_
        rotate_left
        · simp only [Act.put, List.setIfInBounds_toArray, List.set_cons_zero, List.set_cons_succ, i64_w, i32_w]
          rfl
        refine pure_ (i := 8) (N := some 12) (v := ?_) (a' := ?_) #[true, true, true, true, true, true, true, true, true, true, true, true, true, true, true, true, false] rfl rfl (by kernel_rfl) (fun _ _ _ h => h) (Or.inl ⟨by rfl, ?_⟩) ?_ ?_
        rotate_left
        · intro w'
          go_simp
          with_reducible rfl
        rotate_left
        · simp only [Act.put, List.setIfInBounds_toArray, List.set_cons_zero, List.set_cons_succ, i64_w, i32_w]
          rfl
        exact norm_ (by simp only [putAll, Act.put, List.setIfInBounds_toArray, List.set_cons_zero, List.set_cons_succ]) (hCont () _ ⟨(by repeat (first | exact HO1.out | apply OutAt.alloc | apply OutAt.drewN | apply OutAt.drew)), (by repeat (first | exact HF1.out | apply FrO.alloc | apply FrO.drewN | apply FrO.drew)), (by repeat (first | exact HB1.out | apply below_allocB hB | apply pw_below_drewN | apply below_drew)), (by repeat (first | exact new_at (by simp) _ | refine blk_drewN ?_ _ | refine blk_drew ?_ | refine blk_alloc ?_ _)), (by repeat (first | exact heap_alloc_new w _ | refine blk_drewN ?_ _ | refine blk_drew ?_ | refine blk_alloc ?_ _))⟩)
    rintro s w5 ⟨q1, q2, q3, q4, q5⟩
    have hHeld := And.intro (stamp_c0 q5) (stamp_c1 q5)
    refine norm_ (a' := ?_) ?_ ?_
    rotate_left
    · simp only [putAll, Act.put, List.setIfInBounds_toArray, List.set_cons_zero, List.set_cons_succ]
      rfl
    refine one_ (i := 16) (N := some 20) #[true, true, true, true, true, true, true, true, true, true, true, true, true, true, true, true, true] rfl rfl (by kernel_rfl) (by decide) (fun K hK => ?_)
    refine goes_ Try.func38 (by kernel_rfl) rfl #[.pointer (some ⟨g, 0, none⟩), .bool false, .string ⟨#[]⟩, .slice (some ⟨w.heap.size + 1, 0, none⟩) 2 2] (by rfl) rfl rfl (by simp only [List.map_toArray, List.map_cons, List.map_nil]; rfl) ?_
    with_reducible refine (stamp_puts B g mk bad false L n k w _ hl hB q1 q2 q3 q4 q5).mono ?_
    rintro e w6 ⟨rfl, H2, H3, H4, c0, c1⟩
    refine ⟨_, rfl, ?_⟩
    refine hK.out _ _ ⟨c0, c1⟩ (fun hHeld => ?_)
    clear hK K
    refine norm_ (a' := ?_) ?_ ?_
    rotate_left
    · show Act.put _ (some 20) _ = _
      simp only [Act.put, List.setIfInBounds_toArray, List.set_cons_zero, List.set_cons_succ, i64_w, i32_w]
      rfl
    refine done_ (by kernel_rfl) ?_
    go_wp2_with (fail)
    go_end0
    exact ⟨rfl, H2.out, H3.out, H4.out⟩
theorem Out_Byte_nil (n : Int) (w : World) : Calls Try.prog 22 #[.pointer none, .int .i64 n] w fun e w' => e = .returned (.tuple #[]) ∧ Below w.heap.size w w' := by
  have h1 := Aside0.mk (one_f n)
  go_enter Try.func22, Try.ntmps22
  go_wp2_with (fail)
  refine (code_one.calls n _ w h1.out).mono ?_
  rintro e w1 ⟨rfl, ⟨nd, rfl⟩⟩
  go_wp2_with (go_at_call 38; refine (puts_nil _ _ _ _).mono ?_; rintro e w1 ⟨rfl, rfl⟩)
  go_end0
  exact ⟨rfl, below_alloc (pw_below_drewN (Below.refl _ _) _) _⟩
theorem Out_Num_nil (n : Int) (w : World) : Calls Try.prog 23 #[.pointer none, .int .i64 n] w fun e w' => e = .returned (.tuple #[]) ∧ Below w.heap.size w w' := by
  have h1 := Aside0.mk (time_f n)
  go_enter Try.func23, Try.ntmps23
  go_wp2_with (fail)
  refine (code_time.calls n _ w h1.out).mono ?_
  rintro e w1 ⟨rfl, ⟨nd, rfl⟩⟩
  go_wp2_with (go_at_call 38; refine (puts_nil _ _ _ _).mono ?_; rintro e w1 ⟨rfl, rfl⟩)
  go_end0
  exact ⟨rfl, below_alloc (pw_below_drewN (Below.refl _ _) _) _⟩
theorem Out_Text_nil (s : ByteArray) (w : World) : Calls Try.prog 25 #[.pointer none, .string s] w fun e w' => e = .returned (.tuple #[]) ∧ Below w.heap.size w w' := by
  go_enter Try.func25, Try.ntmps25
  go_wp2_with (go_at_call 38; refine (puts_nil _ _ _ _).mono ?_; rintro e w1 ⟨rfl, rfl⟩)
  go_end0
  exact ⟨rfl, below_alloc (Below.refl _ _) _⟩
end
end
end Go.Proofs.Ytpeliaknceigdaa.Pr

/- code.Out: what is written, part by part: the words. -/
import Derived.Test.YtpeliaknceigdaaWWords
import Derived.Test.YtpeliaknceigdaaWLast
import Derived.Test.YtpeliaknceigdaaWMore
import Derived.Test.YtpeliaknceigdaaHTxtA
import Derived.WalkKit
import Derived.KernelRfl
import Derived.Deep.LoopGhost
import Derived.Deep.AppendLies
import Derived.Deep.RegionLaw
import Derived.Laws.BytesArg
namespace Go.Proofs.Ytpeliaknceigdaa.Pr
open Go.RowKit Go.Deep Go.Proofs.YtpeliaknceigdaaW.PrintWords Go.Proofs.YtpeliaknceigdaaW.PrintLast Go.Proofs.YtpeliaknceigdaaW.PrintMore
set_option maxHeartbeats 1000000
set_option linter.unusedVariables false
set_option linter.unusedSimpArgs false
/-- Bytes as a row's cells. -/
def cellsN (l : List Nat) : List Value := l.map fun (n : Nat) => Value.int .u8 (n : Int)
theorem cellsN_length (l : List Nat) : (cellsN l).length = l.length := by simp [cellsN]
theorem cellsN_append (a b : List Nat) : cellsN (a ++ b) = cellsN a ++ cellsN b := by simp [cellsN]
theorem cellsN_one (l : List Nat) : ∀ u ∈ cellsN l, u.oneCell' = true := by
  intro u hu
  unfold cellsN at hu
  rw [List.mem_map] at hu
  obtain ⟨n, _, rfl⟩ := hu
  rfl
/-- All blocks but those of an Out and of bytes are as they were. -/
def FrO (w w' : World) : Prop := w.heap.size ≤ w'.heap.size ∧ ∀ (k : Nat) (o : Obj), w.heap[k]? = some o → (∀ cs t z, o = Obj.cells cs t z → t ≠ 51 ∧ t ≠ 5) → w'.heap[k]? = some o
section
variable {w w' w1 w2 : World} {g : Nat} {cs : Array Value} {t : TypeId} {z : Nat × Nat} {B : Nat} {mk bad : Bool} {L : List Nat}
theorem FrO.refl (w : World) : FrO w w := ⟨Nat.le_refl _, fun _ _ h _ => h⟩
theorem FrO.trans (h : FrO w w1) (k : FrO w1 w2) : FrO w w2 := ⟨Nat.le_trans h.1 k.1, fun i o hi ho => k.2 i o (h.2 i o hi ho) ho⟩
theorem FrO.of_below (h : Below w.heap.size w w') : FrO w w' := ⟨h.size, fun k o hk _ => (h.block k (by
  rcases Nat.lt_or_ge k w.heap.size with h1 | h1
  · exact h1
  · rw [Array.getElem?_eq_none h1] at hk; cases hk)).trans hk⟩
theorem FrO.blk (h : FrO w w') (hb : w.heap[g]? = some (.cells cs t z)) (h1 : t ≠ 51) (h2 : t ≠ 5) : w'.heap[g]? = some (.cells cs t z) :=
  h.2 g _ hb (fun _ _ _ e => by injection e with _ e _; rw [← e]; exact ⟨h1, h2⟩)
theorem FrO.put (h : FrO w w1) (hb : w1.heap[g]? = some (.cells cs t z)) (ht : t = 51 ∨ t = 5) (j : Nat) (u : Value) : FrO w (w1.setCell ⟨g, j, none⟩ u) := by
  refine h.trans ⟨by simp [World.setCell], fun k o hk ho => ?_⟩
  by_cases e : k = g
  · subst e
    rw [hb] at hk
    injection hk with hk
    have := ho _ _ _ hk.symm
    rcases ht with ht | ht
    · exact absurd ht this.1
    · exact absurd ht this.2
  · exact (Below.heap_setCell w1 ⟨g, j, none⟩ u k e).trans hk
theorem FrO.new (h : FrO w w1) (hg : w.heap.size ≤ g) (j : Nat) (u : Value) : FrO w (w1.setCell ⟨g, j, none⟩ u) := by
  refine ⟨by simpa [World.setCell] using h.1, fun k o hk ho => ?_⟩
  have hlt : k < w.heap.size := by
    rcases Nat.lt_or_ge k w.heap.size with h1 | h1
    · exact h1
    · rw [Array.getElem?_eq_none h1] at hk; cases hk
  exact (Below.heap_setCell w1 ⟨g, j, none⟩ u k (by show k ≠ g; omega)).trans (h.2 k o hk ho)
theorem FrO.alloc (h : FrO w w1) (o : Obj) : FrO w (w1.alloc o) := h.trans (FrO.of_below (below_alloc (Below.refl _ _) o))
theorem FrO.drewN (h : FrO w w1) (n : Nat) : FrO w (w1.drewN n) := h
theorem FrO.below (h : FrO w w1) (k : Below w1.heap.size w1 w2) : FrO w w2 := h.trans (FrO.of_below k)
theorem FrO.grown {row : Option Nat} (h : FrO w w1) (hg : w1.grownBy w2 row) (hr : ∀ k, row = some k → ∃ cs z, w1.heap[k]? = some (.cells cs 5 z)) : FrO w w2 := by
  refine h.trans ⟨hg.size, fun k o hk ho => ?_⟩
  by_cases e : row = some k
  · obtain ⟨cs, z, hc⟩ := hr k e
    rw [hc] at hk
    injection hk with hk
    exact absurd rfl (ho _ _ _ hk.symm).2
  · have hlt : k < w1.heap.size := by
      rcases Nat.lt_or_ge k w1.heap.size with h1 | h1
      · exact h1
      · rw [Array.getElem?_eq_none h1] at hk; cases hk
    exact (hg.block k hlt (fun h => e h.symm)).trans hk
/-- An Out at block g: made or not, bad or not, and its bytes. -/
def OutAt (B g : Nat) (mk bad : Bool) (L : List Nat) (w : World) : Prop :=
  B ≤ g ∧ ∃ v, w.heap[g]? = some (.cells #[.bool mk, .bool bad, v] 51 (0, 0)) ∧ w.ownsRow B 5 1 v L.length (cellsN L)
theorem own_u8 {v : Value} {n : Nat} {xs : List Value} (h : w.ownsRow B 5 1 v n xs) : ∀ k, v.ownBlock = some k → ∃ cs z, w.heap[k]? = some (.cells cs 5 z) := by
  intro k hk
  rcases h.2 with ⟨rfl, _⟩ | ⟨g', cap, cur, rfl, _, hh, _⟩
  · simp [Value.ownBlock] at hk
  · have : g' = k := by simpa [Value.ownBlock] using hk
    subst this
    exact ⟨_, _, hh⟩
theorem own_ne {v : Value} {n : Nat} {xs : List Value} (h : w.ownsRow B 5 1 v n xs) (hb : w.heap[g]? = some (.cells cs t z)) (ht : t ≠ 5) : v.ownBlock ≠ some g := by
  intro e
  obtain ⟨cs', z', hc⟩ := own_u8 h g e
  rw [hb] at hc
  injection hc with hc
  injection hc with _ hc _
  exact ht hc
theorem OutAt.lt (h : OutAt B g mk bad L w) : g < w.heap.size := by
  obtain ⟨_, v, hb, _⟩ := h
  exact blk_lt hb
theorem OutAt.below (h : OutAt B g mk bad L w) (hb : Below w.heap.size w w1) : OutAt B g mk bad L w1 := by
  obtain ⟨h0, v, h1, h2⟩ := h
  exact ⟨h0, v, blk_below h1 hb, pw_own_below h2 hb⟩
theorem OutAt.alloc (h : OutAt B g mk bad L w) (o : Obj) : OutAt B g mk bad L (w.alloc o) := h.below (below_alloc (Below.refl _ _) o)
theorem OutAt.drewN (h : OutAt B g mk bad L w) (n : Nat) : OutAt B g mk bad L (w.drewN n) := h.below (pw_below_drewN (Below.refl _ _) n)
theorem own_far {v : Value} {n : Nat} {xs : List Value} (h : w.ownsRow B 5 1 v n xs) {p : Nat} (hp : v.ownBlock ≠ some p) (j : Nat) (u : Value) : (w.setCell ⟨p, j, none⟩ u).ownsRow B 5 1 v n xs := by
  refine ⟨h.1, ?_⟩
  rcases h.2 with ⟨rfl, h2⟩ | ⟨g', cap, cur, rfl, hb, hh, hc, hr⟩
  · exact .inl ⟨rfl, h2⟩
  · have hne : g' ≠ p := fun e => hp (by simp [Value.ownBlock, e])
    exact .inr ⟨g', cap, cur, rfl, hb, (Below.heap_setCell w ⟨p, j, none⟩ u g' hne).trans hh, hc, hr⟩
theorem OutAt.far (h : OutAt B g mk bad L w) {p : Nat} (hp : w.heap[p]? = some (.cells cs t z)) (h1 : t ≠ 51) (h2 : t ≠ 5) (j : Nat) (u : Value) : OutAt B g mk bad L (w.setCell ⟨p, j, none⟩ u) := by
  obtain ⟨h0, v, hb, ho⟩ := h
  have hne : g ≠ p := by
    rintro rfl
    rw [hb] at hp
    injection hp with hp
    injection hp with _ hp _
    exact h1 hp.symm
  exact ⟨h0, v, (Below.heap_setCell w ⟨p, j, none⟩ u g hne).trans hb, own_far ho (own_ne ho hp h2) j u⟩
theorem blk_thaw {fr : World} (h : fr.heap[g]? = some (.cells cs t (0, 0))) (i : Nat) : fr.frozen? ⟨g, i, none⟩ = false := by simp [World.frozen?, h]
theorem OutAt.flag (h : OutAt B g mk bad L w) (b : Bool) : OutAt B g mk b L (w.setCell ⟨g, 1, none⟩ (.bool b)) := by
  obtain ⟨h0, v, hb, ho⟩ := h
  exact ⟨h0, v, blk_put hb 1 _ rfl, own_far ho (own_ne ho hb (by decide)) 1 _⟩
theorem OutAt.fro (h : OutAt B g mk bad L w1) (hF : FrO w w1) (j : Nat) (u : Value) : FrO w (w1.setCell ⟨g, j, none⟩ u) := by
  obtain ⟨h0, v, hb, ho⟩ := h
  exact hF.put hb (.inl rfl) j u
theorem OutAt.appended {v v5 : Value} {n n5 : Nat} {M : List Nat} {w5 : World} (hB : B ≤ g) (hb : w.heap[g]? = some (.cells #[.bool mk, .bool bad, v] 51 (0, 0))) (hown : w.ownsRow B 5 1 v n (cellsN L)) (hg : w.grownBy w5 v.ownBlock)
    (hown5 : w5.ownsRow B 5 1 v5 n5 (cellsN L ++ cellsN M)) (hn : n5 = L.length + M.length) : OutAt B g mk bad (L ++ M) (w5.setCell ⟨g, 2, none⟩ v5) := by
  subst hn
  have hb5 : w5.heap[g]? = some (.cells #[.bool mk, .bool bad, v] 51 (0, 0)) := (hg.block g (blk_lt hb) (fun e => own_ne hown hb (by decide) e.symm)).trans hb
  refine ⟨hB, v5, blk_put hb5 2 _ rfl, ?_⟩
  rw [List.length_append, cellsN_append]
  exact own_far hown5 (own_ne hown5 hb5 (by decide)) 2 _
theorem FrO.appended {w0 w5 : World} {v v5 : Value} {n : Nat} {xs : List Value} (hF : FrO w0 w) (hb : w.heap[g]? = some (.cells #[.bool mk, .bool bad, v] 51 (0, 0))) (hown : w.ownsRow B 5 1 v n xs) (hg : w.grownBy w5 v.ownBlock) : FrO w0 (w5.setCell ⟨g, 2, none⟩ v5) := by
  have hb5 : w5.heap[g]? = some (.cells #[.bool mk, .bool bad, v] 51 (0, 0)) := (hg.block g (blk_lt hb) (fun e => own_ne hown hb (by decide) e.symm)).trans hb
  exact (hF.grown hg (own_u8 hown)).put hb5 (.inl rfl) 2 _
theorem below_appended {w0 w5 : World} {v v5 : Value} {n : Nat} {xs : List Value} (hW : Below B w0 w) (hB : B ≤ g) (hBw : B ≤ w.heap.size) (hown : w.ownsRow B 5 1 v n xs) (hg : w.grownBy w5 v.ownBlock) : Below B w0 (w5.setCell ⟨g, 2, none⟩ v5) :=
  (hW.grown hg hBw (fun k hk => own_base hown k hk)).setCell (p := ⟨g, 2, none⟩) hB _
end
/-- The eight bytes of a number, the highest first; of which k are written. -/
def roomL (p : Int) (k : Nat) : List Nat := (List.range 8).map fun i => if i < k then (p / 2 ^ (8 * (7 - i)) % 256).toNat else 0
/-- The last m of them. -/
def byN (p : Int) (m : Nat) : List Nat := (roomL p 8).drop (8 - m)
theorem roomL_length (p : Int) (k : Nat) : (roomL p k).length = 8 := by simp [roomL]
theorem byN_length (p : Int) (m : Nat) (h : m ≤ 8) : (byN p m).length = m := by rw [byN, List.length_drop, roomL_length]; omega
theorem roomL_succ (p : Int) (k : Nat) (hk : k < 8) : (roomL p k).set k (p / 2 ^ (8 * (7 - k)) % 256).toNat = roomL p (k + 1) := by
  apply List.ext_getElem?
  intro i
  rw [List.getElem?_set]
  unfold roomL
  rw [List.length_map, List.length_range]
  by_cases e : k = i
  · subst e
    rw [if_pos rfl, if_pos hk, List.getElem?_map, List.getElem?_range hk]
    simp
  · rw [if_neg e, List.getElem?_map, List.getElem?_map]
    by_cases hi : i < 8
    · rw [List.getElem?_range hi]
      by_cases h2 : i < k
      · simp [h2, show i < k + 1 by omega]
      · simp [h2, show ¬ i < k + 1 by omega]
    · rw [List.getElem?_eq_none (by simpa using hi)]
      rfl
end Go.Proofs.Ytpeliaknceigdaa.Pr

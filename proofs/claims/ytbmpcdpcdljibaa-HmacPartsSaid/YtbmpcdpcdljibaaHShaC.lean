/- sha.Block: the walk. -/
-- NEEDS samphire/sha.big
-- HAND samphire/sha.Block sha_Block 0 1
import Derived.Test.YtbmpcdpcdljibaaHShaB
import Derived.Deep.WholeRow
namespace Go.Proofs.Ytbmpcdpcdljibaa.Pr
open Go.RowKit Go.Deep Go.Proofs.YtbmpcdpcdljibaaW.PrintWords
set_option maxHeartbeats 2000000
set_option linter.unusedVariables false
set_option linter.unusedSimpArgs false
theorem u32s_one (l : List Nat) : (u32s l).all (·.oneCell') = true := by
  simp [u32s, Value.oneCell']
set_option maxRecDepth 100000 in
theorem constants.calls (w : World) : Calls Try.prog 43 #[] w fun e w' => e = .returned (.agg (u32s shaK)) ∧ Below w.heap.size w w' := by
  have hinf : (Try.prog.info? 50).map (·.size) = some 64 := by kernel_rfl
  go_enter Try.func43, Try.ntmps43
  go_wp2_with (refine wpList_store_row rfl 50 (.tmp 0) (.tmp 1) rfl _ (u32s shaK) rfl rfl 50 _ (heap_alloc_last _ _) hinf (by rfl) (u32s_one _) ?_; rw [World.setRow_alloc_new])
  exact bodyPost_ret (results_cell_row Try.results43 _ _ w.heap.size 50 (u32s shaK) (0, 0) _ rfl (heap_alloc_last _ _) Try.underlying50 rfl hinf) rfl ⟨rfl, (Below.refl _ _).alloc (Nat.le_refl _) _⟩
/-- The state's words, as far as they are read. -/
def bAt (l : List Nat) (k : Nat) : List Nat := (List.range 8).map fun i => if i < k then be4 l (4 * i) else 0
theorem bAt_get (l : List Nat) (k : Nat) (hk : k < 8) : (u32s (bAt l k))[k]? = some (.int .u32 0) := by
  rw [u32s_get _ _ (by simp [bAt]; omega)]
  simp [bAt, hk]
theorem bAt_set (l : List Nat) (k : Nat) (hk : k < 8) : (bAt l k).set k (be4 l (4 * k)) = bAt l (k + 1) := by
  apply List.ext_getElem
  · simp [bAt]
  · intro i h1 h2
    rw [List.getElem_set]
    simp only [bAt, List.getElem_map, List.getElem_range]
    by_cases e : k = i
    · subst e; simp
    · rw [if_neg e]
      by_cases h : i < k
      · rw [if_pos h, if_pos (by omega)]
      · rw [if_neg h, if_neg (by omega)]
theorem be4_lt (l : List Nat) (hb : ∀ i, l.getD i 0 < 256) (i : Nat) : be4 l i < 4294967296 := by
  unfold be4
  have := hb i
  have := hb (i + 1)
  have := hb (i + 2)
  have := hb (i + 3)
  omega
theorem stOf_ok (s : ByteArray) : (stOf (bys s)).ok :=
  ⟨be4_lt _ (bys_lt s) _, be4_lt _ (bys_lt s) _, be4_lt _ (bys_lt s) _, be4_lt _ (bys_lt s) _, be4_lt _ (bys_lt s) _, be4_lt _ (bys_lt s) _, be4_lt _ (bys_lt s) _, be4_lt _ (bys_lt s) _⟩
theorem cell_row8 {w : World} {g : Nat} {t : TypeId} {x0 x1 x2 x3 x4 x5 x6 x7 : Value} (h : w.heap[g]? = some (.cells #[x0, x1, x2, x3, x4, x5, x6, x7] t (0, 0))) :
    w.cell? ⟨g, 0, none⟩ = some x0 ∧ w.cell? ⟨g, 1, none⟩ = some x1 ∧ w.cell? ⟨g, 2, none⟩ = some x2 ∧ w.cell? ⟨g, 3, none⟩ = some x3 ∧ w.cell? ⟨g, 4, none⟩ = some x4 ∧ w.cell? ⟨g, 5, none⟩ = some x5 ∧ w.cell? ⟨g, 6, none⟩ = some x6 ∧ w.cell? ⟨g, 7, none⟩ = some x7 := by
  have h' := fun i => blk_cell h i
  exact ⟨(h' 0).trans rfl, (h' 1).trans rfl, (h' 2).trans rfl, (h' 3).trans rfl, (h' 4).trans rfl, (h' 5).trans rfl, (h' 6).trans rfl, (h' 7).trans rfl⟩
def sha_Block.f (a0 a1 : ByteArray) : Option (ByteArray × Int) :=
  if a0.size = 32 ∧ a1.size = 64 then some (txt (stp (stOf (bys a0)) (bys a1)).bytes, 0) else some (⟨#[]⟩, 1)
set_option maxRecDepth 100000 in
theorem sha_Block.yes (a0 a1 : ByteArray) (w : World) (h0 : a0.size = 32) (h1 : a1.size = 64) :
    Calls Try.prog 19 #[.string a0, .string a1] w fun e w' => e = .returned (.tuple #[.string (txt (stp (stOf (bys a0)) (bys a1)).bytes), .int .i64 0]) ∧ Below w.heap.size w w' := by
  have hinf : (Try.prog.info? 50).map (·.size) = some 64 := by kernel_rfl
  have g0 : (((32 : Nat) : Int) != 32) = false := by decide
  have g1 : (((64 : Nat) : Int) != 64) = false := by decide
  have HI := Aside0.mk hinf
  clear hinf
  go_enter Try.func19, Try.ntmps19
  go_wp2
  go_loopw [17] (fun i wr => ∃ (k n : Nat), k ≤ 8 ∧ i = .int .i64 k ∧ wr = (w.alloc (.cells (u32s (bAt (bys a0) k)) 45)).drewN n) (fun i _ => 8 - (intOf i).toNat)
  case atStart => exact ⟨0, 0, by omega, rfl, rfl⟩
  case round =>
    obtain ⟨k, n, hk, rfl, rfl⟩ := hrel
    by_cases hlt : k < 8
    · have hw := bAt_get (bys a0) k hlt
      have hle : 4 * k ≤ 32 := by omega
      go_wp2_with (go_at_call 42; refine (big_calls _ _ ?_).mono ?_)
      · have e1 : (a0.extract (4 * k) 32).size = 32 - 4 * k := by simp [h0]
        omega
      · rintro e1 w1 ⟨rfl, n1, rfl⟩
        have HB4 := Aside0.mk (show be4 (bys (a0.extract (4 * k) 32)) 0 = be4 (bys a0) (4 * k) by rw [bys_extract, be4_drop _ _ _ (by omega)])
        generalize be4 (bys (a0.extract (4 * k) 32)) 0 = xb at *
        go_wp2
        refine ⟨⟨k + 1, n + n1, by omega, by go_num, ?_⟩, by simp [intOf]; omega⟩
        rw [setN_last _ _ _ _ _ _ _ rfl, HB4.out, bAt_set _ _ hlt]
    · have hk8 : k = 8 := by omega
      subst hk8
      clear hlt hk
      have e1 : u32s (bAt (bys a0) 8) = #[.int .u32 ((stOf (bys a0)).a : Int), .int .u32 ((stOf (bys a0)).b : Int), .int .u32 ((stOf (bys a0)).c : Int), .int .u32 ((stOf (bys a0)).d : Int), .int .u32 ((stOf (bys a0)).e : Int), .int .u32 ((stOf (bys a0)).f : Int), .int .u32 ((stOf (bys a0)).g : Int), .int .u32 ((stOf (bys a0)).h : Int)] := rfl
      have hok := stOf_ok a0
      rw [e1]
      clear e1
      generalize hst : stOf (bys a0) = st at hok
      obtain ⟨a, b, c, d, e, f, g, hh⟩ := st
      have HST := Aside0.mk hst
      clear hst
      have HOK := Aside0.mk hok
      have H1 := Aside0.mk h1
      clear hok

      generalize hW : (w.alloc (Obj.cells #[.int .u32 (a : Int), .int .u32 (b : Int), .int .u32 (c : Int), .int .u32 (d : Int), .int .u32 (e : Int), .int .u32 (f : Int), .int .u32 (g : Int), .int .u32 (hh : Int)] 45)).drewN n = W
      have hbW : Below w.heap.size w W := by rw [← hW]; exact pw_below_drewN (below_alloc (Below.refl _ _) _) _
      have hcW : W.heap[w.heap.size]? = some (.cells #[.int .u32 (a : Int), .int .u32 (b : Int), .int .u32 (c : Int), .int .u32 (d : Int), .int .u32 (e : Int), .int .u32 (f : Int), .int .u32 (g : Int), .int .u32 (hh : Int)] 45 (0, 0)) := by rw [← hW]; exact heap_alloc_last _ _
      have HBW := Aside0.mk hbW
      have HCW := Aside0.mk hcW
      clear hW hbW hcW
      have hinf := HI.out
      go_wp2_with (first | (go_at_call 43; refine (constants.calls _).mono ?_; rintro e w1 ⟨rfl, hb1⟩; have HB1 := Aside0.mk hb1; clear hb1) | (refine wpList_store_row rfl 50 (.tmp 8) (.tmp 28) rfl _ (u32s shaK) rfl rfl 50 _ (heap_alloc_last _ _) hinf (by rfl) (u32s_one _) ?_; rw [World.setRow_alloc_new]; have hcv := cell_row8 (blk_alloc (blk_below HCW.out HB1.out) (.cells (u32s shaK) 50))))
      refine (sums_step.calls a b c d e f g hh _ a1 _ HOK.out H1.out (heap_alloc_last _ _)).mono ?_
      rintro e w2 ⟨⟨s', hs', rfl⟩, hb2⟩
      have HS := Aside0.mk hs'
      have HB2 := Aside0.mk hb2
      clear hs' hb2 hcv
      go_wp2_with (go_at_call 40; refine (sums_text.calls _ _ _ _ _ _ _ _ _).mono ?_; rintro e w3 ⟨rfl, hb3⟩)
      go_ret2
      refine ⟨?_, ?_⟩
      · exact congrArg (fun z => Ending.returned (Value.tuple #[.string z, .int .i64 0])) (show txt (St.mk s'.a s'.b s'.c s'.d s'.e s'.f s'.g s'.h).bytes = txt (stp (stOf (bys a0)) (bys a1)).bytes by rw [HST.out, ← HS.out])
      · have q1 : Below w.heap.size w w1 := below_then HBW.out HBW.out.size HB1.out
        have q2 : Below w.heap.size w (w1.alloc (.cells (u32s shaK) 50)) := below_alloc q1 _
        have q3 : Below w.heap.size w w2 := below_then q2 q2.size HB2.out
        exact below_then q3 q3.size hb3
set_option maxRecDepth 100000 in
theorem sha_Block.no (a0 a1 : ByteArray) (w : World) (h0 : ¬ (a0.size = 32 ∧ a1.size = 64)) :
    Calls Try.prog 19 #[.string a0, .string a1] w fun e w' => e = .returned (.tuple #[.string ⟨#[]⟩, .int .i64 1]) ∧ Below w.heap.size w w' := by
  by_cases h1 : a0.size = 32
  · have h2 : ((a1.size : Int) != 64) = true := by
      rw [bne_iff_ne]
      omega
    have h3 : ((a0.size : Int) != 32) = false := by
      rw [bne_eq_false_iff_eq]
      omega
    clear h0 h1
    go_enter Try.func19, Try.ntmps19
    go_wp2
    go_ret2
    exact ⟨rfl, Below.refl _ _⟩
  · have h2 : ((a0.size : Int) != 32) = true := by
      rw [bne_iff_ne]
      omega
    clear h0 h1
    go_enter Try.func19, Try.ntmps19
    go_wp2
    go_ret2
    exact ⟨rfl, Below.refl _ _⟩
theorem sha_Block.calls (a0 : ByteArray) (a1 : ByteArray) (r1 : ByteArray) (r2 : Int) (w : World) (h : sha_Block.f a0 a1 = some (r1, r2)) :
    Calls Try.prog 19 #[.string a0, .string a1] w fun e w' => e = .returned (.tuple #[.string r1, .int .i64 r2]) ∧ Below w.heap.size w w' := by
  unfold sha_Block.f at h
  by_cases hc : a0.size = 32 ∧ a1.size = 64
  · rw [if_pos hc] at h
    simp only [Option.some.injEq, Prod.mk.injEq] at h
    obtain ⟨rfl, rfl⟩ := h
    exact sha_Block.yes a0 a1 w hc.1 hc.2
  · rw [if_neg hc] at h
    simp only [Option.some.injEq, Prod.mk.injEq] at h
    obtain ⟨rfl, rfl⟩ := h
    exact sha_Block.no a0 a1 w hc
end Go.Proofs.Ytbmpcdpcdljibaa.Pr

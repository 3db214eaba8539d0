/- code.Out's puts: the walk. -/
import Derived.Test.YtpeliaknceigdaaHCodeA
import Derived.StillTailTactics
import Derived.Deep.Light
import Derived.Lib.AppendStr
import Derived.Deep.RegionHeldLaw
import Derived.Deep.DrawnRows
import Derived.BigQuiet
import Derived.Deep.QuietTactic
namespace Go.Proofs.Ytpeliaknceigdaa.Pr
open Go.RowKit Go.Deep Go.Proofs.YtpeliaknceigdaaW.PrintWords Go.Proofs.YtpeliaknceigdaaW.PrintLast Go.Proofs.YtpeliaknceigdaaW.PrintMore
set_option maxHeartbeats 1000000
set_option linter.unusedVariables false
set_option linter.unusedSimpArgs false
attribute [local go_sem ↓] Go.wp_at_zero Go.wp_at_succ
/-- Pairs as cells. -/
def pairsV (ps : List (Int × Nat)) : List Value := ps.flatMap fun p => [.int .i64 p.1, .int .i64 (p.2 : Int)]
def sumN (ps : List (Int × Nat)) : Nat := (ps.map (·.2)).foldl (· + ·) 0
def byAll (ps : List (Int × Nat)) : List Nat := ps.flatMap fun p => byN p.1 p.2
theorem foldl_add (l : List Nat) (a : Nat) : l.foldl (· + ·) a = a + l.foldl (· + ·) 0 := by
  induction l generalizing a with
  | nil => simp
  | cons x l ih => rw [List.foldl_cons, ih, List.foldl_cons, ih (0 + x)]; omega
theorem sumN_cons (p : Int × Nat) (ps : List (Int × Nat)) : sumN (p :: ps) = p.2 + sumN ps := by
  unfold sumN
  rw [List.map_cons, List.foldl_cons, foldl_add]
  omega
theorem sumN_append (a b : List (Int × Nat)) : sumN (a ++ b) = sumN a + sumN b := by
  unfold sumN
  rw [List.map_append, List.foldl_append, foldl_add]
theorem sum_le {n m : Nat} {ps : List (Int × Nat)} (h : n + m + sumN ps ≤ 65536) (k : Nat) : m + sumN (ps.take k) ≤ 65536 := by
  have := sumN_append (ps.take k) (ps.drop k)
  rw [List.take_append_drop] at this
  omega
theorem sum_le3 {n m : Nat} {ps : List (Int × Nat)} (h : n + m + sumN ps ≤ 65536) (k : Nat) : n + m + sumN (ps.take k) ≤ 65536 := by
  have := sumN_append (ps.take k) (ps.drop k)
  rw [List.take_append_drop] at this
  omega
theorem slice_room1 (gr : Nat) (W : World) : (Instr.sliceAt 83 (.pointer (some ⟨gr, 0, none⟩)) (some (.int .i64 (IntKind.i64.wrap (8 - (((1 : Nat) : Int) : Int))))) (some (.int .i64 8)) (some (.int .i64 8))).run Try.prog W = .ok (.slice (some ⟨gr, 8 - 1, none⟩) 1 1) W := by kernel_rfl
theorem slice_room2 (gr : Nat) (W : World) : (Instr.sliceAt 83 (.pointer (some ⟨gr, 0, none⟩)) (some (.int .i64 (IntKind.i64.wrap (8 - (((2 : Nat) : Int) : Int))))) (some (.int .i64 8)) (some (.int .i64 8))).run Try.prog W = .ok (.slice (some ⟨gr, 8 - 2, none⟩) 2 2) W := by kernel_rfl
theorem slice_room3 (gr : Nat) (W : World) : (Instr.sliceAt 83 (.pointer (some ⟨gr, 0, none⟩)) (some (.int .i64 (IntKind.i64.wrap (8 - (((3 : Nat) : Int) : Int))))) (some (.int .i64 8)) (some (.int .i64 8))).run Try.prog W = .ok (.slice (some ⟨gr, 8 - 3, none⟩) 3 3) W := by kernel_rfl
theorem slice_room4 (gr : Nat) (W : World) : (Instr.sliceAt 83 (.pointer (some ⟨gr, 0, none⟩)) (some (.int .i64 (IntKind.i64.wrap (8 - (((4 : Nat) : Int) : Int))))) (some (.int .i64 8)) (some (.int .i64 8))).run Try.prog W = .ok (.slice (some ⟨gr, 8 - 4, none⟩) 4 4) W := by kernel_rfl
theorem slice_room5 (gr : Nat) (W : World) : (Instr.sliceAt 83 (.pointer (some ⟨gr, 0, none⟩)) (some (.int .i64 (IntKind.i64.wrap (8 - (((5 : Nat) : Int) : Int))))) (some (.int .i64 8)) (some (.int .i64 8))).run Try.prog W = .ok (.slice (some ⟨gr, 8 - 5, none⟩) 5 5) W := by kernel_rfl
theorem slice_room6 (gr : Nat) (W : World) : (Instr.sliceAt 83 (.pointer (some ⟨gr, 0, none⟩)) (some (.int .i64 (IntKind.i64.wrap (8 - (((6 : Nat) : Int) : Int))))) (some (.int .i64 8)) (some (.int .i64 8))).run Try.prog W = .ok (.slice (some ⟨gr, 8 - 6, none⟩) 6 6) W := by kernel_rfl
theorem slice_room7 (gr : Nat) (W : World) : (Instr.sliceAt 83 (.pointer (some ⟨gr, 0, none⟩)) (some (.int .i64 (IntKind.i64.wrap (8 - (((7 : Nat) : Int) : Int))))) (some (.int .i64 8)) (some (.int .i64 8))).run Try.prog W = .ok (.slice (some ⟨gr, 8 - 7, none⟩) 7 7) W := by kernel_rfl
theorem slice_room8 (gr : Nat) (W : World) : (Instr.sliceAt 83 (.pointer (some ⟨gr, 0, none⟩)) (some (.int .i64 (IntKind.i64.wrap (8 - (((8 : Nat) : Int) : Int))))) (some (.int .i64 8)) (some (.int .i64 8))).run Try.prog W = .ok (.slice (some ⟨gr, 8 - 8, none⟩) 8 8) W := by kernel_rfl
theorem slice_room (gr m : Nat) (h1 : 1 ≤ m) (h2 : m ≤ 8) (W : World) : (Instr.sliceAt 83 (.pointer (some ⟨gr, 0, none⟩)) (some (.int .i64 (IntKind.i64.wrap (8 - (m : Int))))) (some (.int .i64 8)) (some (.int .i64 8))).run Try.prog W = .ok (.slice (some ⟨gr, 8 - m, none⟩) m m) W := by
  have h : m = 1 ∨ m = 2 ∨ m = 3 ∨ m = 4 ∨ m = 5 ∨ m = 6 ∨ m = 7 ∨ m = 8 := by omega
  rcases h with rfl | rfl | rfl | rfl | rfl | rfl | rfl | rfl
  · exact slice_room1 gr W
  · exact slice_room2 gr W
  · exact slice_room3 gr W
  · exact slice_room4 gr W
  · exact slice_room5 gr W
  · exact slice_room6 gr W
  · exact slice_room7 gr W
  · exact slice_room8 gr W
theorem sum_next {ps : List (Int × Nat)} {k : Nat} {p : Int × Nat} (h : ps[k]? = some p) : sumN (ps.take (k + 1)) = sumN (ps.take k) + p.2 := by
  obtain ⟨hk, rfl⟩ := List.getElem?_eq_some_iff.1 h
  rw [List.take_succ_eq_append_getElem hk, sumN_append, sumN_cons]
  rfl
theorem pairsV_get : ∀ (ps : List (Int × Nat)) (k : Nat) (p : Int × Nat), ps[k]? = some p → ∀ j, (pairsV ps)[k * 2 + j]? = if j < 2 then [Value.int .i64 p.1, Value.int .i64 (p.2 : Int)][j]? else (pairsV ps)[k * 2 + j]?
  | [], k, p, h => by simp at h
  | q :: ps, 0, p, h => by
    intro j
    simp only [List.getElem?_cons_zero, Option.some.injEq] at h
    subst h
    match j with
    | 0 => rfl
    | 1 => rfl
    | j + 2 => rw [if_neg (by omega)]
  | q :: ps, k + 1, p, h => by
    intro j
    have h' : ps[k]? = some p := by simpa using h
    have := pairsV_get ps k p h' j
    have e : pairsV (q :: ps) = Value.int .i64 q.1 :: Value.int .i64 (q.2 : Int) :: pairsV ps := rfl
    rw [e, show (k + 1) * 2 + j = (k * 2 + j) + 1 + 1 by omega, List.getElem?_cons_succ, List.getElem?_cons_succ]
    exact this
theorem pair_cell {w wr : World} {gp t : Nat} {ps : List (Int × Nat)} {z : Nat × Nat} (hb : Below w.heap.size w wr) (hgp : w.heap[gp]? = some (.cells (pairsV ps).toArray t z)) {k : Nat} {p : Int × Nat} (hp : ps[k]? = some p) (j : Nat) (hj : j < 2) :
    wr.cell? ⟨gp, k * 2 + j, none⟩ = [Value.int .i64 p.1, Value.int .i64 (p.2 : Int)][j]? := by
  rw [cell_of_row wr gp _ _ _ _ (blk_below hgp hb), List.getElem?_toArray, pairsV_get ps k p hp j, if_pos hj]
theorem cellsN_set (l : List Nat) (i n : Nat) : cellsN (l.set i n) = (cellsN l).set i (.int .u8 (n : Int)) := by simp [cellsN, List.map_set]
theorem nat_byte (x : Int) : x % 256 = ((x % 256).toNat : Int) := by omega
theorem byAll_length (ps : List (Int × Nat)) (h : ∀ p ∈ ps, p.2 ≤ 8) : (byAll ps).length = sumN ps := by
  induction ps with
  | nil => rfl
  | cons p ps ih =>
    have e : byAll (p :: ps) = byN p.1 p.2 ++ byAll ps := rfl
    rw [e, List.length_append, sumN_cons, byN_length _ _ (h p (List.mem_cons_self ..)), ih (fun q hq => h q (List.mem_cons_of_mem _ hq))]
theorem byAll_next {ps : List (Int × Nat)} {k : Nat} {p : Int × Nat} (h : ps[k]? = some p) : byAll (ps.take (k + 1)) = byAll (ps.take k) ++ byN p.1 p.2 := by
  obtain ⟨hk, rfl⟩ := List.getElem?_eq_some_iff.1 h
  rw [List.take_succ_eq_append_getElem hk, byAll, List.flatMap_append]
  simp [byAll]
theorem grown_of_drew {w w' : World} {r : Option Nat} (h : w.drew.grownBy w' r) : w.grownBy w' r := ⟨h.os, h.tape, h.output, h.size, h.block⟩
theorem strCells_bys (s : ByteArray) : Lib.strCells s = cellsN (bys s) := by
  simp [Lib.strCells, cellsN, bys]
theorem Try.info_u8 : (Try.prog.info? 5).map (fun i => (i.zero, i.size, i.bytes)) = some (some (.int .u8 0), 1, 1) := by kernel_rfl
theorem room_news {w : World} {gr t m : Nat} {p : Int} {z : Nat × Nat} (h : w.heap[gr]? = some (.cells (cellsN (roomL p 8)).toArray t z)) (hm : m ≤ 8) :
    ∀ (j : Nat) (u : Value), (cellsN (byN p m))[j]? = some u → w.drew.cell? ((⟨gr, 8 - m, none⟩ : Addr).add j) = some u := by
  intro j u hu
  rw [add_at]
  have h' : w.drew.heap[gr]? = some (.cells (cellsN (roomL p 8)).toArray t z) := h
  rw [cell_of_row _ _ _ _ _ _ h', List.getElem?_toArray]
  unfold byN cellsN at hu
  rw [List.map_drop, List.getElem?_drop] at hu
  exact hu
theorem app_max {m n : Nat} (h : n + m ≤ 65536) : n + m ≤ maxLen := by
  unfold maxLen; omega
theorem app_bytes {m n : Nat} (h : n + m ≤ 65536) : (n + m) * 1 ≤ 140737488355328 := by omega
set_option maxRecDepth 100000 in
theorem puts_ok (B g gp : Nat) (mk : Bool) (L : List Nat) (s : ByteArray) (ps : List (Int × Nat)) (w : World) (hO : OutAt B g mk false L w) (hgp : w.heap[gp]? = some (.cells (pairsV ps).toArray 76 (0, 0)))
    (hps : ∀ p ∈ ps, 1 ≤ p.2 ∧ p.2 ≤ 8) (hpl : ps.length ≤ 2) (hL : L.length + s.size + sumN ps ≤ 65536) (hB : B ≤ w.heap.size) :
    Calls Try.prog 38 #[.pointer (some ⟨g, 0, none⟩), .bool true, .string s, .slice (some ⟨gp, 0, none⟩) ps.length ps.length] w fun e w' => e = .returned (.tuple #[]) ∧ OutAt B g mk false (L ++ byAll ps ++ bys s) w' ∧ FrO w w' ∧ Below B w w' := by
  go_enter Try.func38, Try.ntmps38
  go_wp2_with (fail)
  go_loopw [8, 21] (fun n i wr => ∃ k : Nat, k ≤ ps.length ∧ i = .int .i64 k ∧ n = .int .i64 ((s.size + sumN (ps.take k) : Nat) : Int) ∧ Aside0 (Below w.heap.size w wr)) (fun _ i _ => ps.length - (intOf i).toNat)
  case atStart => exact ⟨0, by omega, rfl, rfl, ⟨Below.refl _ _⟩⟩
  case round =>
    obtain ⟨k, hk, rfl, rfl, HB1⟩ := hrel
    have hsum : s.size + sumN (ps.take k) ≤ 65536 := sum_le hL k
    by_cases hlt : k < ps.length
    · obtain ⟨⟨p, m⟩, hp⟩ : ∃ p, ps[k]? = some p := ⟨_, List.getElem?_eq_getElem hlt⟩
      have hm := hps _ (List.mem_of_getElem? hp)
      have hm1 : m ≤ 8 := hm.2
      have c0 : wr.cell? ⟨gp, k * 2, none⟩ = some (.int .i64 p) := pair_cell HB1.out hgp hp 0 (by omega)
      have c1 : wr.cell? ⟨gp, k * 2 + 1, none⟩ = some (.int .i64 (m : Int)) := pair_cell HB1.out hgp hp 1 (by omega)
      have HP := Aside0.mk hp
      clear hp hm
      go_wp2_with (fail)
      refine ⟨⟨k + 1, by omega, by go_num, ?_, ⟨below_alloc HB1.out _⟩⟩, by simp [intOf]; omega⟩
      rw [sum_next HP.out, ← Nat.add_assoc]
      go_num
    · obtain rfl : k = ps.length := by omega
      clear hlt hk
      rw [List.take_length] at hsum ⊢
      have HO1 := Aside0.mk (hO.below HB1.out)
      have HG1 := Aside0.mk (blk_below hgp HB1.out)
      have hN2 : L.length + (s.size + sumN ps) ≤ 65536 := by omega
      generalize hN : s.size + sumN ps = N at hsum hN2
      have HN := Aside0.mk hN
      clear hN
      obtain ⟨hBg, v, hbk, hown⟩ := HO1.out
      obtain ⟨A, c, rfl⟩ := own_slice hown
      have g1 : wr.cell? ⟨g, 1, none⟩ = some (.bool false) := by rw [cell_of_row wr g _ _ _ _ hbk]; rfl
      have g2 : wr.cell? ⟨g, 2, none⟩ = some (.slice A L.length c) := by rw [cell_of_row wr g _ _ _ _ hbk]; rfl
      have f1 : wr.frozen? ⟨g, 1, none⟩ = false := blk_thaw hbk 1
      have d1 : decide (65536 < (L.length : Int) + (N : Int)) = false := decide_eq_false (by omega)
      have HBK := Aside0.mk hbk
      have HOWN := Aside0.mk hown
      have HO2 := Aside0.mk (HO1.out.flag false)
      have HG2 := Aside0.mk (show (wr.setCell ⟨g, 1, none⟩ (.bool false)).heap[gp]? = _ from (HO1.out.fro (FrO.refl wr) 1 (.bool false)).blk HG1.out (by decide) (by decide))
      have HF2 := Aside0.mk (HO1.out.fro (FrO.of_below HB1.out) 1 (.bool false))
      have HB2 := Aside0.mk (((HB1.out.mono hB).setCell (p := ⟨g, 1, none⟩) hBg (.bool false)))
      clear hbk hown hgp hO
      go_wp2_with (fail)
      clear d1 g1 g2 f1
      generalize wr.setCell ⟨g, 1, none⟩ (.bool false) = w2 at HO2 HG2 HF2 HB2 ⊢
      clear HO1 HG1 HB1 HBK HOWN
      go_loopw [57] (fun i wr => ∃ k : Nat, k ≤ ps.length ∧ i = .int .i64 k ∧ Aside0 (OutAt B g mk false (L ++ byAll (ps.take k)) wr) ∧ Aside0 (wr.heap[gp]? = some (.cells (pairsV ps).toArray 76 (0, 0))) ∧ Aside0 (FrO w wr) ∧ Aside0 (Below B w wr)) (fun i _ => ps.length - (intOf i).toNat)
      case atStart => exact ⟨0, by omega, rfl, ⟨by simpa [byAll] using HO2.out⟩, HG2, HF2, HB2⟩
      case round =>
        obtain ⟨k, hk, rfl, HO3, HG3, HF3, HB3⟩ := hrel
        by_cases hlt : k < ps.length
        · obtain ⟨⟨p, m⟩, hp⟩ : ∃ p, ps[k]? = some p := ⟨_, List.getElem?_eq_getElem hlt⟩
          have hm := hps _ (List.mem_of_getElem? hp)
          have hm1 : m ≤ 8 := hm.2
          have hm0 : 1 ≤ m := hm.1
          have c0 : wr.cell? ⟨gp, k * 2, none⟩ = some (.int .i64 p) := pair_cell (Below.refl _ _) HG3.out hp 0 (by omega)
          have c1 : wr.cell? ⟨gp, k * 2 + 1, none⟩ = some (.int .i64 (m : Int)) := pair_cell (Below.refl _ _) HG3.out hp 1 (by omega)
          have HP := Aside0.mk hp
          clear hp hm
          go_wp2_with (fail)
          clear c0 c1
          obtain ⟨wo, hwo⟩ : ∃ wo : World, wo = wr := ⟨_, rfl⟩
          subst hwo
          go_loopw [61] (fun i W => ∃ j : Nat, j ≤ 8 ∧ i = .int .i64 j ∧ Aside0 (OutAt B g mk false (L ++ byAll (ps.take k)) W) ∧ Aside0 (W.heap[gp]? = some (.cells (pairsV ps).toArray 76 (0, 0))) ∧ Aside0 (FrO w W) ∧ Aside0 (Below B w W) ∧ Aside0 (W.heap[wo.heap.size]? = some (.cells #[.int .i64 p, .int .i64 (m : Int)] 76 (0, 0))) ∧ Aside0 (W.heap[wo.heap.size + 1]? = some (.cells (cellsN (roomL p j)).toArray 83 (0, 0)))) (fun i _ => 8 - (intOf i).toNat)
          case atStart =>
            refine ⟨0, by omega, rfl, ⟨(HO3.out.alloc _).alloc _⟩, ⟨blk_alloc (blk_alloc HG3.out _) _⟩, ⟨(HF3.out.alloc _).alloc _⟩, ⟨(HB3.out.alloc (Nat.le_trans hB HF3.out.1) _).alloc (by have := HF3.out.1; simp; omega) _⟩, ⟨blk_alloc (heap_alloc_new wo _) _⟩, ⟨?_⟩⟩
            have := heap_alloc_new (wo.alloc (.cells #[.int .i64 p, .int .i64 (m : Int)] 76)) (.cells (cellsN (roomL p 0)).toArray 83)
            simpa [roomL, cellsN, List.range, List.range.loop] using this
          case round =>
            obtain ⟨j, hj, rfl, HO4, HG4, HF4, HB4, HQ4, HR4⟩ := hrel
            by_cases hlj : j < 8
            · have q0 : wr.cell? ⟨wo.heap.size, 0, none⟩ = some (.int .i64 p) := by rw [cell_of_row wr _ _ _ _ _ HQ4.out]; rfl
              obtain ⟨r0, hr0⟩ : ∃ x, (cellsN (roomL p j))[j]? = some x := ⟨_, List.getElem?_eq_getElem (by rw [cellsN_length, roomL_length]; exact hlj)⟩
              have r1 : wr.cell? ⟨wo.heap.size + 1, j, none⟩ = some r0 := by rw [cell_of_row wr _ _ _ _ _ HR4.out, List.getElem?_toArray]; exact hr0
              have r2 : wr.frozen? ⟨wo.heap.size + 1, j, none⟩ = false := blk_thaw HR4.out j
              clear hr0
              go_wp2_with (fail)
              refine ⟨⟨j + 1, by omega, by go_num, ⟨HO4.out.far HR4.out (by decide) (by decide) j _⟩, ⟨blk_far HG4.out (fun e => by have := blk_lt HG3.out; have e2 : gp = wo.heap.size + 1 := e; omega) _⟩, ⟨HF4.out.new (by have := HF3.out.1; omega) j _⟩, ⟨HB4.out.setCell (p := ⟨wo.heap.size + 1, j, none⟩) (by have := HF3.out.1; show B ≤ wo.heap.size + 1; omega) _⟩, ⟨blk_far HQ4.out (fun e => by have e2 : wo.heap.size = wo.heap.size + 1 := e; omega) _⟩, ⟨blk_put HR4.out j _ ?_⟩⟩, by simp [intOf]; omega⟩
              rw [← roomL_succ p j hlj, List.setIfInBounds_toArray, cellsN_set, ← nat_byte]
            · obtain rfl : j = 8 := by omega
              clear hlj hj
              have hlen : L.length + (byAll (ps.take k)).length + m ≤ 65536 := by
                rw [byAll_length _ (fun q hq => (hps q (List.mem_of_mem_take hq)).2)]
                have := sum_le3 hL (k + 1)
                rw [sum_next HP.out] at this
                omega
              rw [← List.length_append] at hlen
              generalize hL2 : L ++ byAll (ps.take k) = L2 at HO4 hlen
              have HL2 := Aside0.mk hL2
              clear hL2
              obtain ⟨hBg3, v3, hbk, hown⟩ := HO4.out
              obtain ⟨A3, c3, rfl⟩ := own_slice hown
              have g2 : wr.cell? ⟨g, 2, none⟩ = some (.slice A3 L2.length c3) := by rw [cell_of_row wr g _ _ _ _ hbk]; rfl
              have f2 : wr.frozen? ⟨g, 2, none⟩ = false := blk_thaw hbk 2
              have q1 : wr.cell? ⟨wo.heap.size, 1, none⟩ = some (.int .i64 (m : Int)) := by rw [cell_of_row wr _ _ _ _ _ HQ4.out]; rfl
              have HBK := Aside0.mk hbk
              have HOWN := Aside0.mk hown
              have HLEN := Aside0.mk hlen
              have hne := own_ne hown hbk (by decide)
              have hne2 := own_ne hown HQ4.out (by decide)
              have b0 := hown.lt
              have i0 : (0 : Int) ≤ 8 - (m : Int) := by omega
              have i1 : (8 : Int) - (m : Int) ≤ 8 := by omega
              have hgl : g < wr.heap.size := blk_lt hbk
              have hql : wo.heap.size < wr.heap.size := blk_lt HQ4.out
              obtain ⟨ie, hi, hz0, hz1, hz2⟩ := info_parts Try.info_u8
              have hBw : B ≤ wr.heap.size := by omega
              have hsl := slice_room (wo.heap.size + 1) m hm0 hm1
              clear hbk hown hlen
              go_wp2_with (fail)
              go_region_law
                ((refine step_append_lies _ (by rfl) _ _ _ (by rfl) B 5 ie (.int .u8 0) 1 1 Try.underlying49 hi hz0 hz1 hz2 rfl (by omega) (.slice A3 L2.length c3) L2.length (cellsN L2) (by rfl) HOWN.out.drew
                    ⟨wo.heap.size + 1, 8 - m, none⟩ m m (cellsN (byN p m)) (by rfl) (by rw [cellsN_length, byN_length p m hm1, Nat.mul_one]) (room_news HR4.out hm1) (cellsN_one _)
                    (by omega) (app_max HLEN.out) (app_bytes HLEN.out) (by simpa using hBw) wr.heap.size (by simp) ?_; intro gg cap w5 hown1 hgrow hat hlt5; have e2 : w5.cell? ⟨g, 2, none⟩ = some (.slice A3 L2.length c3) := (by rw [hgrow.cell_far _ (by simpa using hgl) (Ne.symm hne)]; exact g2); have ef : w5.frozen? ⟨g, 2, none⟩ = false := (by rw [hgrow.frozen_far _ (by simpa using hgl) (Ne.symm hne)]; exact f2)))
              all_goals
                have hgrow := grown_of_drew hgrow
                have hMl : m = (byN p m).length := (byN_length p m hm1).symm
                have HO5 := Aside0.mk (OutAt.appended (M := byN p m) hBg3 HBK.out HOWN.out hgrow hown1 (by rw [← hMl]))
                have HF5 := Aside0.mk (HF4.out.appended HBK.out HOWN.out hgrow (v5 := .slice (some ⟨gg, 0, none⟩) (L2.length + m) cap))
                have HB5 := Aside0.mk (below_appended HB4.out hBg3 hBw HOWN.out hgrow (v5 := .slice (some ⟨gg, 0, none⟩) (L2.length + m) cap))
                have HG5 := Aside0.mk (((FrO.refl wr).appended HBK.out HOWN.out hgrow (v5 := .slice (some ⟨gg, 0, none⟩) (L2.length + m) cap)).blk HG4.out (by decide) (by decide))
                clear hMl hown1 hgrow hat e2 ef
                generalize w5.setCell ⟨g, 2, none⟩ (.slice (some ⟨gg, 0, none⟩) (L2.length + m) cap) = w6 at HO5 HF5 HB5 HG5 ⊢
                go_wp2_with (fail)
                refine ⟨⟨k + 1, by omega, by go_num, ⟨?_⟩, HG5, HF5, HB5⟩, by simp [intOf]; omega⟩
                rw [byAll_next HP.out, ← List.append_assoc, HL2.out]
                exact HO5.out
        · obtain rfl : k = ps.length := by omega
          clear hlt hk
          rw [List.take_length] at HO3
          have hlen : L.length + (byAll ps).length + s.size ≤ 65536 := by
            rw [byAll_length _ (fun q hq => (hps q hq).2)]
            omega
          rw [← List.length_append] at hlen
          generalize hL2 : L ++ byAll ps = L2 at HO3 hlen
          have HL2 := Aside0.mk hL2
          clear hL2
          obtain ⟨hBg3, v3, hbk, hown⟩ := HO3.out
          obtain ⟨A3, c3, rfl⟩ := own_slice hown
          have g2 : wr.cell? ⟨g, 2, none⟩ = some (.slice A3 L2.length c3) := by rw [cell_of_row wr g _ _ _ _ hbk]; rfl
          have HBK := Aside0.mk hbk
          have HOWN := Aside0.mk hown
          obtain ⟨ie, hi, hz0, hz1, hz2⟩ := info_parts Try.info_u8
          have hBw : B ≤ wr.heap.size := by have := blk_lt hbk; omega
          have hm1 : L2.length + s.size ≤ maxLen := app_max hlen
          have hm2 : L2.length + s.size ≤ 140737488355328 := by omega
          clear hbk hown hlen
          go_wp2_with (at_builtin; refine Lib.wpList_append_own_string _ rfl _ _ 49 9 rfl B 5 ie Try.underlying49 Try.underlying9 hi hz0 hz1 hz2 _ _ _ rfl HOWN.out s rfl hm1 hm2 hBw ?_)
          intro v5 w5 hown5 hgrow _
          rw [strCells_bys] at hown5
          obtain ⟨A5, c5, rfl⟩ := own_slice hown5
          have hb5 : w5.heap[g]? = _ := (hgrow.block g (blk_lt HBK.out) (fun e => own_ne HOWN.out HBK.out (by decide) e.symm)).trans HBK.out
          have e2 : w5.cell? ⟨g, 2, none⟩ = some (.slice A3 L2.length c3) := by rw [cell_of_row w5 g _ _ _ _ hb5]; rfl
          have ef : w5.frozen? ⟨g, 2, none⟩ = false := blk_thaw hb5 2
          have HO5 := Aside0.mk (OutAt.appended (M := bys s) hBg3 HBK.out HOWN.out hgrow hown5 (by rw [bys_length]))
          have HF5 := Aside0.mk (HF3.out.appended HBK.out HOWN.out hgrow (v5 := .slice A5 (L2.length + s.size) c5))
          have HB5 := Aside0.mk (below_appended HB3.out hBg3 hBw HOWN.out hgrow (v5 := .slice A5 (L2.length + s.size) c5))
          clear hb5 hown5 hgrow g2
          go_wp2_with (fail)
          go_end0
          rw [HL2.out]
          exact ⟨rfl, HO5.out, HF5.out, HB5.out⟩
end Go.Proofs.Ytpeliaknceigdaa.Pr

/- poly's numbers: the walks. -/
import Derived.Test.YtmablneefndedaaHPolP
import Derived.Test.YtmablneefndedaaHShaB
import Derived.StillTailTactics
import Derived.Laws.CopyOwn
namespace Go.Proofs.Ytmablneefndedaa.Pr
open Go.RowKit Go.Deep Go.Proofs.YtmablneefndedaaW.PrintWords Go.Proofs.YtmablneefndedaaW.PrintLast Go.Proofs.YtmablneefndedaaW.PrintMore
set_option maxHeartbeats 2000000
set_option linter.unusedVariables false
set_option linter.unusedSimpArgs false
def u64s (l : List Nat) : Array Value := (l.map fun (n : Nat) => Value.int .u64 (n : Int)).toArray
theorem u64s_size (l : List Nat) : (u64s l).size = l.length := by simp [u64s]
theorem u64s_get (l : List Nat) (i : Nat) (h : i < l.length) : (u64s l)[i]? = some (.int .u64 (l.getD i 0 : Nat)) := by
  simp [u64s, h]
theorem u64s_set (l : List Nat) (i v : Nat) : (u64s l).setIfInBounds i (.int .u64 (v : Int)) = u64s (l.set i v) := by
  simp [u64s]
theorem u64s_one (l : List Nat) : (u64s l).all (·.oneCell') = true := by
  simp [u64s, Value.oneCell']
def adr (n : Nat) : Nat → Nat
  | 0 => n
  | i + 1 => adr n i + 1
theorem adr_eq (n : Nat) : ∀ i, adr n i = n + i
  | 0 => rfl
  | i + 1 => by rw [adr, adr_eq n i]; omega
/-- Numbers in the boxes behind a world. -/
structure PN (w : World) (R : List (List Nat)) (W : World) : Prop where
  below : Below w.heap.size w W
  rows : ∀ i l, R[i]? = some l → W.heap[adr w.heap.size i]? = some (.cells (u64s l) 84 (0, 0))
  size : W.heap.size = w.heap.size + R.length
theorem PN.nil (w : World) : PN w [] w := ⟨Below.refl _ _, by simp, rfl⟩
theorem PN.push {w W : World} {R : List (List Nat)} (h : PN w R W) (l : List Nat) : PN w (R ++ [l]) (W.alloc (.cells (u64s l) 84)) := by
  refine ⟨below_alloc h.below _, ?_, by simp [h.size]; omega⟩
  intro i l' hi
  by_cases hlt : i < R.length
  · rw [List.getElem?_append_left hlt] at hi
    exact blk_alloc (h.rows i l' hi) _
  · have hi2 : i = R.length := by
      have := (List.getElem?_eq_some_iff.1 hi).1
      simp at this; omega
    subst hi2
    simp at hi
    subst hi
    rw [adr_eq, ← h.size]
    exact blk_new _ _
theorem PN.drewN {w W : World} {R : List (List Nat)} (h : PN w R W) (n : Nat) : PN w R (W.drewN n) := ⟨pw_below_drewN h.below n, h.rows, h.size⟩
theorem PN.drew {w W : World} {R : List (List Nat)} (h : PN w R W) : PN w R W.drew := ⟨below_drew h.below, h.rows, h.size⟩
theorem PN.cell {w W : World} {R : List (List Nat)} (h : PN w R W) (i k : Nat) {l : List Nat} (hl : R[i]? = some l) (hk : k < l.length) : W.cell? ⟨adr w.heap.size i, k, none⟩ = some (.int .u64 (l.getD k 0 : Nat)) ∧ W.frozen? ⟨adr w.heap.size i, k, none⟩ = false :=
  ⟨(blk_cell (h.rows i l hl) k).trans (u64s_get l k hk), blk_frozen (h.rows i l hl) k⟩
theorem PN.set {w W : World} {R : List (List Nat)} (h : PN w R W) (i k v : Nat) {l : List Nat} (hl : R[i]? = some l) : PN w (R.set i (l.set k v)) (W.setCell ⟨adr w.heap.size i, k, none⟩ (.int .u64 (v : Int))) := by
  refine ⟨below_set h.below (by rw [adr_eq]; omega), ?_, by rw [List.length_set]; simp [h.size]⟩
  intro j l' hj
  rw [List.getElem?_set] at hj
  by_cases e : i = j
  · subst e
    have hlt := (List.getElem?_eq_some_iff.1 hl).1
    rw [if_pos rfl, if_pos hlt] at hj
    obtain rfl := Option.some.inj hj
    exact blk_put (h.rows i l hl) k _ (u64s_set l k v)
  · rw [if_neg e] at hj
    exact blk_far (h.rows j l' hj) (by rw [adr_eq, adr_eq]; simp; omega) _
theorem PN.set2 {w W : World} {R : List (List Nat)} (h : PN w R W) (i k u v : Nat) {l : List Nat} (hl : R[i]? = some l) : PN w (R.set i (l.set k v)) ((W.setCell ⟨adr w.heap.size i, k, none⟩ (.int .u64 (u : Int))).setCell ⟨adr w.heap.size i, k, none⟩ (.int .u64 (v : Int))) := by
  have hlt := (List.getElem?_eq_some_iff.1 hl).1
  have := (h.set i k u hl).set i k v (l := l.set k u) (by rw [List.getElem?_set]; simp [hlt])
  rwa [List.set_set, List.set_set] at this
theorem wraps_u64 (n : Int) (h₀ : 0 ≤ n) (h₁ : n < 2 ^ 64) : IntKind.u64.wrap n = n := by rw [IntKind.wrap_u64]; omega
theorem and64 (a b : Nat) (ha : a < 18446744073709551616) (hb : b < 18446744073709551616) : bits .and .u64 (a : Int) (b : Int) = ((a &&& b : Nat) : Int) :=
  (bits_nat .u64 64 (by decide) wraps_u64 a b (by simpa using ha) (by simpa using hb)).1
theorem or64 (a b : Nat) (ha : a < 18446744073709551616) (hb : b < 18446744073709551616) : bits .or .u64 (a : Int) (b : Int) = ((a ||| b : Nat) : Int) :=
  (bits_nat .u64 64 (by decide) wraps_u64 a b (by simpa using ha) (by simpa using hb)).2
theorem mask26 (a : Nat) (ha : a < 18446744073709551616) : bits .and .u64 (a : Int) 67108863 = ((a % 67108864 : Nat) : Int) := by
  have := and64 a 67108863 ha (by decide)
  rw [show ((67108863 : Nat) : Int) = 67108863 from rfl] at this
  rw [this, show (67108863 : Nat) = 2 ^ 26 - 1 from rfl, Nat.and_two_pow_sub_one_eq_mod]
set_option maxRecDepth 100000 in
theorem carried_calls (l : List Nat) (w : World) (h : Lim 9223372036854775808 l) :
    Calls Try.prog 105 #[.agg (u64s l)] w fun e w' => e = .returned (.agg (u64s (car l))) ∧ Below w.heap.size w w' := by
  have hi : (Try.prog.info? 84).map (·.size) = some 5 := by kernel_rfl
  have HI := Aside0.mk hi
  have HL := Aside0.mk h
  clear hi h
  go_enter Try.func105, Try.ntmps105
  go_wp2_with (fail)
  have H : Aside0 (PN w [l, List.replicate 5 0] ((w.alloc (.cells (u64s l) 84)).alloc (.cells (u64s (List.replicate 5 0)) 84))) := ⟨((PN.nil w).push l).push _⟩
  go_loopw [3, 5] (fun c i wr => ∃ k : Nat, k ≤ 5 ∧ i = .int .i64 k ∧ c = .int .u64 ((carL l k).2 : Nat) ∧ Aside0 (PN w [(carL l k).1, List.replicate 5 0] wr)) (fun _ i _ => 5 - (intOf i).toNat)
  case atStart => exact ⟨0, by omega, rfl, rfl, H⟩
  case round =>
    clear H
    obtain ⟨k, hk, rfl, rfl, H⟩ := hrel
    by_cases hlt : k < 5
    · obtain ⟨hx, hf⟩ := H.out.cell 0 k rfl (by rw [carL_length, HL.out.len]; exact hlt)
      have hs : carL l (k + 1) = cstep (carL l k) k := rfl
      unfold cstep at hs
      have hb := carL_lt HL.out k hlt
      generalize (carL l k).1.getD k 0 = x at hx hs hb
      generalize (carL l k).2 = c at hs hb ⊢
      generalize (carL l k).1 = m at hs H
      have hxc : (x : Int) + (c : Int) ≤ 18446744073709551615 := by omega
      have hm := mask26 (x + c) hb
      rw [show ((x + c : Nat) : Int) = (x : Int) + (c : Int) by omega] at hm
      have HS := Aside0.mk hs
      clear hs
      simp only [adr] at hx hf
      go_wp2
      have HN : PN w [(carL l (k + 1)).1, List.replicate 5 0] ((wr.setCell ⟨w.heap.size, k, none⟩ (.int .u64 ((x : Int) + (c : Int)))).setCell ⟨w.heap.size, k, none⟩ (.int .u64 (((x : Int) + (c : Int)) % 67108864))) := by rw [HS.out]; exact H.out.set2 0 k (x + c) ((x + c) % 67108864) rfl
      exact ⟨⟨k + 1, by omega, by go_num, by rw [HS.out]; go_num, ⟨HN⟩⟩, by simp [intOf]; omega⟩
    · obtain rfl : k = 5 := by omega
      clear hlt hk
      obtain ⟨e1, e2, e3, e4⟩ := carL_end HL.out
      have hcar : car l = (((carL l 5).1.set 0 (((carL l 5).1.getD 0 0 + 5 * (carL l 5).2) % 67108864)).set 1 ((carL l 5).1.getD 1 0 + ((carL l 5).1.getD 0 0 + 5 * (carL l 5).2) / 67108864)) := rfl
      have hml : (carL l 5).1.length = 5 := by rw [carL_length, HL.out.len]
      have hcl : (car l).length = 5 := by rw [car_length, HL.out.len]
      obtain ⟨hx0, hf0⟩ := H.out.cell 0 0 rfl (by omega)
      obtain ⟨hx1, hf1⟩ := H.out.cell 0 1 rfl (by omega)
      generalize (carL l 5).1.getD 0 0 = x at *
      generalize (carL l 5).1.getD 1 0 = y at *
      generalize (carL l 5).2 = c at *
      generalize (carL l 5).1 = m at *
      generalize hr : car l = r at *
      have HRe := Aside0.mk hr
      clear hr
      have hm := mask26 (x + 5 * c) e1
      rw [show ((x + 5 * c : Nat) : Int) = (x : Int) + 5 * (c : Int) by omega] at hm
      have b1 : (x : Int) + 5 * (c : Int) ≤ 18446744073709551615 := by omega
      have b2 : 5 * (c : Int) ≤ 18446744073709551615 := by omega
      have b3 : (y : Int) + ((x : Int) + 5 * (c : Int)) / 67108864 ≤ 18446744073709551615 := by omega
      have HC := Aside0.mk hcar
      have HML := Aside0.mk hml
      have HCL := Aside0.mk hcl
      clear hcar hml hcl
      simp only [adr] at hx0 hf0 hx1 hf1
      rw [show ((5 : Nat) : Int) = 5 from rfl]
      have HN : PN w [r, List.replicate 5 0] (((wr.setCell ⟨w.heap.size, 0, none⟩ (.int .u64 ((x : Int) + 5 * (c : Int)))).setCell ⟨w.heap.size, 0, none⟩ (.int .u64 (((x : Int) + 5 * (c : Int)) % 67108864))).setCell ⟨w.heap.size, 1, none⟩ (.int .u64 ((y : Int) + ((x : Int) + 5 * (c : Int)) / 67108864))) := by
        rw [HC.out]
        exact (H.out.set2 0 0 (x + 5 * c) ((x + 5 * c) % 67108864) rfl).set 0 1 (y + (x + 5 * c) / 67108864) rfl
      have HN := Aside0.mk HN
      go_upto_region 13 with (fail)
      generalize ((wr.setCell ⟨w.heap.size, 0, none⟩ (.int .u64 ((x : Int) + 5 * (c : Int)))).setCell ⟨w.heap.size, 0, none⟩ (.int .u64 (((x : Int) + 5 * (c : Int)) % 67108864))).setCell ⟨w.heap.size, 1, none⟩ (.int .u64 ((y : Int) + ((x : Int) + 5 * (c : Int)) / 67108864)) = w2 at HN ⊢
      have hrow : w2.heap[w.heap.size]? = _ := HN.out.rows 0 r rfl
      have hout : w2.heap[w.heap.size + 1]? = _ := HN.out.rows 1 _ rfl
      have hsz : (Try.prog.info? 84).map (·.size) = some (u64s r).size := by rw [u64s_size, HCL.out]; exact HI.out
      have hsz2 : (u64s (List.replicate 5 0)).size = (u64s r).size := by rw [u64s_size, u64s_size, HCL.out]; rfl
      have HROW := Aside0.mk hrow
      have HOUT := Aside0.mk hout
      have HSZ := Aside0.mk hsz
      have HSZ2 := Aside0.mk hsz2
      clear hrow hout hsz hsz2 hm b1 b2 b3 hx0 hx1 hf0 hf1
      go_wp2_with (first | (with_reducible refine wpList_load_row rfl 84 (.tmp 1) rfl w.heap.size rfl 84 (u64s r) (0, 0) _ HROW.out Try.underlying84 rfl HSZ.out ?_) | (refine wpList_store_row rfl 84 (.tmp 2) (.tmp 42) rfl (w.heap.size + 1) (u64s r) rfl rfl 84 _ HOUT.out HSZ.out HSZ2.out (u64s_one _) ?_))
      exact bodyPost_ret (results_cell_row Try.results105 _ _ (w.heap.size + 1) 84 (u64s r) (0, 0) _ rfl (setRow_heap _ _ _ _ _ _ HOUT.out) Try.underlying84 rfl HSZ.out) rfl ⟨by rw [HRe.out], below_setRow HN.out.below (by omega) _⟩
/-- Sums of limbs, as far as they are made. -/
theorem addT_set (l m : List Nat) (k : Nat) (hl : l.length = 5) (hk : k < 5) : (addT l m k).set k (l.getD k 0 + m.getD k 0) = addT l m (k + 1) := by
  apply List.ext_getElem
  · simp [addT]
  · intro j h1 h2
    rw [List.getElem_set]
    simp only [addT, List.getElem_map, List.getElem_range]
    by_cases e : k = j
    · subst e; rw [if_pos rfl, if_pos (by omega)]
    · rw [if_neg e]
      by_cases h : j < k
      · rw [if_pos h, if_pos (by omega)]
      · rw [if_neg h, if_neg (by omega)]
theorem addT_length (l m : List Nat) (k : Nat) : (addT l m k).length = 5 := by simp [addT]
theorem addT_zero (l m : List Nat) (hl : l.length = 5) : addT l m 0 = l := by
  obtain ⟨a, b, c, d, e, rfl⟩ := five hl
  rfl
theorem addT_get (l m : List Nat) (k : Nat) (hk : k < 5) : (addT l m k).getD k 0 = l.getD k 0 := by
  simp [addT, List.getD_eq_getElem?_getD, hk]
set_option maxRecDepth 100000 in
theorem number_add_calls (l m : List Nat) (w : World) (hl : Lim 9223372036854775808 l) (hm : Lim 9223372036854775808 m) :
    Calls Try.prog 78 #[.agg (u64s l), .agg (u64s m)] w fun e w' => e = .returned (.agg (u64s (addL l m))) ∧ Below w.heap.size w w' := by
  have hi : (Try.prog.info? 84).map (·.size) = some 5 := by kernel_rfl
  have HI := Aside0.mk hi
  have HL := Aside0.mk hl
  have HM := Aside0.mk hm
  clear hi hl hm
  go_enter Try.func78, Try.ntmps78
  go_wp2_with (fail)
  have H : Aside0 (PN w [addT l m 0, m, List.replicate 5 0] (((w.alloc (.cells (u64s l) 84)).alloc (.cells (u64s m) 84)).alloc (.cells (u64s (List.replicate 5 0)) 84))) := ⟨by rw [addT_zero l m HL.out.len]; exact (((PN.nil w).push l).push m).push _⟩
  go_loopw [6] (fun i wr => ∃ k : Nat, k ≤ 5 ∧ i = .int .i64 k ∧ Aside0 (PN w [addT l m k, m, List.replicate 5 0] wr)) (fun i _ => 5 - (intOf i).toNat)
  case atStart => exact ⟨0, by omega, rfl, H⟩
  case round =>
    clear H
    obtain ⟨k, hk, rfl, H⟩ := hrel
    by_cases hlt : k < 5
    · obtain ⟨hx, hf⟩ := H.out.cell 0 k rfl (by rw [addT_length]; exact hlt)
      obtain ⟨hy, hfy⟩ := H.out.cell 1 k rfl (by rw [HM.out.len]; exact hlt)
      rw [addT_get l m k hlt] at hx
      have hn := addT_set l m k HL.out.len hlt
      have bx := HL.out.lt k
      have by_ := HM.out.lt k
      generalize l.getD k 0 = x at hx hn bx
      generalize m.getD k 0 = y at hy hn by_
      have HN := Aside0.mk hn
      have hxy : (x : Int) + (y : Int) ≤ 18446744073709551615 := by omega
      have q5 : (k : Int) < 5 := by omega
      clear hn bx by_ hfy
      simp only [adr] at hx hf hy
      go_wp2_with (fail)
      refine wp_still_tail 8 (by kernel_rfl) (by kernel_rfl) ?_
      intro W hW
      have g1 : W.cell? ⟨w.heap.size, k, none⟩ = some (.int .u64 (x : Int)) := by rw [hW]; exact hx
      have g2 : W.cell? ⟨w.heap.size + 1, k, none⟩ = some (.int .u64 (y : Int)) := by rw [hW]; exact hy
      have gf : W.frozen? ⟨w.heap.size, k, none⟩ = false := by rw [hW]; exact hf
      have HW : Aside0 (PN w [addT l m k, m, List.replicate 5 0] W) := ⟨by rw [hW]; exact H.out.drew⟩
      clear hW hx hy hf H
      simp only [List.take_succ_cons, List.take_zero, List.drop_succ_cons, List.drop_zero]
      repeat still_step
      refine wpStill_nil ?_
      go_wp2
      refine ⟨⟨k + 1, by omega, by go_num, ?_⟩, by simp [intOf]; omega⟩
      rw [← HN.out]
      exact ⟨HW.out.set 0 k (x + y) rfl⟩
    · obtain rfl : k = 5 := by omega
      clear hlt hk
      rw [show ((5 : Nat) : Int) = 5 from rfl]
      have HCL := Aside0.mk (addT_length l m 5)
      have HRe : Aside0 (addL l m = addT l m 5) := ⟨rfl⟩
      generalize addT l m 5 = r at *
      go_upto_region 6 with (fail)
      have hrow := H.out.rows 0 r rfl
      have hout := H.out.rows 2 _ rfl
      simp only [adr] at hrow hout
      have hsz : (Try.prog.info? 84).map (·.size) = some (u64s r).size := by rw [u64s_size, HCL.out]; exact HI.out
      have hsz2 : (u64s (List.replicate 5 0)).size = (u64s r).size := by rw [u64s_size, u64s_size, HCL.out]; rfl
      have HROW := Aside0.mk hrow
      have HOUT := Aside0.mk hout
      have HSZ := Aside0.mk hsz
      have HSZ2 := Aside0.mk hsz2
      clear hrow hout hsz hsz2
      go_wp2_with (first | (with_reducible refine wpList_load_row rfl 84 (.tmp 2) rfl (w.heap.size) rfl 84 (u64s r) (0, 0) _ HROW.out Try.underlying84 rfl HSZ.out ?_) | (refine wpList_store_row rfl 84 (.tmp 4) (.tmp 18) rfl (w.heap.size + 1 + 1) (u64s r) rfl rfl 84 _ HOUT.out HSZ.out HSZ2.out (u64s_one _) ?_))
      exact bodyPost_ret (results_cell_row Try.results78 _ _ (w.heap.size + 1 + 1) 84 (u64s r) (0, 0) _ rfl (setRow_heap _ _ _ _ _ _ HOUT.out) Try.underlying84 rfl HSZ.out) rfl ⟨by rw [HRe.out], below_setRow H.out.below (by omega) _⟩
/-- A product's limbs as far as they are summed. -/
def mulS (n m : List Nat) (k i : Nat) : List Nat := (List.range 5).map fun q => if q < k then mulT n m q 5 else if q = k then mulT n m k i else 0
theorem mulS_length (n m : List Nat) (k i : Nat) : (mulS n m k i).length = 5 := by simp [mulS]
theorem mulS_get (n m : List Nat) (k i : Nat) (hk : k < 5) : (mulS n m k i).getD k 0 = mulT n m k i := by
  simp [mulS, List.getD_eq_getElem?_getD, hk]
theorem mulS_set (n m : List Nat) (k i : Nat) (hk : k < 5) : (mulS n m k i).set k (mulT n m k (i + 1)) = mulS n m k (i + 1) := by
  apply List.ext_getElem
  · simp [mulS]
  · intro j h1 h2
    rw [List.getElem_set]
    simp only [mulS, List.getElem_map, List.getElem_range]
    by_cases e : k = j
    · subst e; rw [if_pos rfl, if_neg (by omega), if_pos rfl]
    · rw [if_neg e]
      by_cases h : j < k
      · rw [if_pos h, if_pos h]
      · rw [if_neg h, if_neg (by omega), if_neg h, if_neg (by omega)]
theorem mulS_next (n m : List Nat) (k : Nat) : mulS n m k 5 = mulS n m (k + 1) 0 := by
  unfold mulS
  apply List.map_congr_left
  intro q _
  by_cases h : q < k
  · rw [if_pos h, if_pos (by omega)]
  · rw [if_neg h]
    by_cases e : q = k
    · subst e; rw [if_pos rfl, if_pos (by omega)]
    · rw [if_neg e, if_neg (by omega)]; simp [mulT]
theorem mulS_zero (n m : List Nat) : mulS n m 0 0 = List.replicate 5 0 := rfl
theorem mulS_all (n m : List Nat) : mulS n m 5 0 = mulL n m := by
  unfold mulS mulL
  apply List.map_congr_left
  intro q hq
  rw [List.mem_range] at hq
  rw [if_pos hq]
set_option maxRecDepth 100000 in
theorem number_times_calls (n m : List Nat) (w : World) (hn : Lim 268435456 n) (hm : Lim 67108864 m) :
    Calls Try.prog 79 #[.agg (u64s n), .agg (u64s m)] w fun e w' => e = .returned (.agg (u64s (car (mulL n m)))) ∧ Below w.heap.size w w' := by
  have hi : (Try.prog.info? 84).map (·.size) = some 5 := by kernel_rfl
  have HI := Aside0.mk hi
  have HN := Aside0.mk hn
  have HM := Aside0.mk hm
  clear hi hn hm
  go_enter Try.func79, Try.ntmps79
  go_wp2_with (fail)
  have H : Aside0 (PN w [n, m, List.replicate 5 0, mulS n m 0 0] ((((w.alloc (.cells (u64s n) 84)).alloc (.cells (u64s m) 84)).alloc (.cells (u64s (List.replicate 5 0)) 84)).alloc (.cells (u64s (List.replicate 5 0)) 84))) := ⟨by rw [mulS_zero]; exact ((((PN.nil w).push n).push m).push _).push _⟩
  go_loopw [10] (fun i wr => ∃ k : Nat, k ≤ 5 ∧ i = .int .i64 k ∧ Aside0 (PN w [n, m, List.replicate 5 0, mulS n m k 0] wr)) (fun i _ => 5 - (intOf i).toNat)
  case atStart => exact ⟨0, by omega, rfl, H⟩
  case round =>
    clear H
    obtain ⟨k, hk, rfl, H⟩ := hrel
    by_cases hlt : k < 5
    · have q5 : (k : Int) < 5 := by omega
      go_wp2_with (fail)
      go_loopw [13] (fun i wr => ∃ k' : Nat, k' ≤ 5 ∧ i = .int .i64 k' ∧ Aside0 (PN w [n, m, List.replicate 5 0, mulS n m k k'] wr)) (fun i _ => 5 - (intOf i).toNat)
      case atStart => exact ⟨0, by omega, rfl, H⟩
      case round =>
        clear H
        obtain ⟨i, hi, rfl, H⟩ := hrel
        by_cases hli : i < 5
        · obtain ⟨hx, hfx⟩ := H.out.cell 0 i rfl (by rw [HN.out.len]; exact hli)
          obtain ⟨hs, hfs⟩ := H.out.cell 3 k rfl (by rw [mulS_length]; exact hlt)
          rw [mulS_get n m k i hlt] at hs
          have hset := mulS_set n m k i hlt
          have bs := mulT_lt HN.out HM.out k i
          have bx := HN.out.lt i
          have r5 : (i : Int) < 5 := by omega
          have hT : mulT n m k (i + 1) = mulT n m k i + if i ≤ k then n.getD i 0 * m.getD (k - i) 0 else 5 * n.getD i 0 * m.getD (k + 5 - i) 0 := rfl
          clear hfx
          by_cases hik : i ≤ k
          · obtain ⟨hz, hfz⟩ := H.out.cell 1 (k - i) rfl (by rw [HM.out.len]; omega)
            have bz := HM.out.lt (k - i)
            rw [if_pos hik] at hT
            generalize n.getD i 0 = x at hx hT bx
            generalize m.getD (k - i) 0 = z at hz hT bz
            have bxz : x * z ≤ 18014398509481984 := by
              have := Nat.mul_le_mul (Nat.le_of_lt bx) (Nat.le_of_lt bz)
              simpa using this
            rw [hT] at hset
            generalize mulT n m k i = s at hs hset bs
            have HSET := Aside0.mk hset
            have b1 : (x : Int) * (z : Int) ≤ 18446744073709551615 := by
              have : ((x * z : Nat) : Int) ≤ 18014398509481984 := by omega
              rw [Int.natCast_mul] at this; omega
            have b2 : (s : Int) + (x : Int) * (z : Int) ≤ 18446744073709551615 := by
              have : ((x * z : Nat) : Int) ≤ 18014398509481984 := by omega
              rw [Int.natCast_mul] at this; omega
            have b3 : 0 ≤ (x : Int) * (z : Int) := Int.mul_nonneg (by omega) (by omega)
            have t1 : decide (0 ≤ (k : Int) - (i : Int)) = true := decide_eq_true (by omega)
            have t2 : decide ((i : Int) ≤ (k : Int)) = true := decide_eq_true (by omega)
            have t3 : decide (i ≤ k) = true := decide_eq_true hik
            have n1 : ((k : Int) - (i : Int)).toNat = k - i := by omega
            have n2 : (k : Int) - (i : Int) < 5 := by omega
            have e1 : IntKind.u64.wrap ((x : Int) * (z : Int)) = (x : Int) * (z : Int) := wraps_u64 _ b3 (by omega)
            have e2 : IntKind.u64.wrap ((s : Int) + (x : Int) * (z : Int)) = (s : Int) + (x : Int) * (z : Int) := wraps_u64 _ (by omega) (by omega)
            clear hset hT bxz bs bx bz hfz
            simp only [adr] at hx hs hz hfs
            go_wp2_with (fail)
            refine wp_still_tail 10 (by kernel_rfl) (by kernel_rfl) ?_
            intro W hW
            have g2 : W.cell? ⟨w.heap.size + 1, k - i, none⟩ = some (.int .u64 (z : Int)) := by rw [hW]; exact hz
            have g3 : W.cell? ⟨w.heap.size + 1 + 1 + 1, k, none⟩ = some (.int .u64 (s : Int)) := by rw [hW]; exact hs
            have gf : W.frozen? ⟨w.heap.size + 1 + 1 + 1, k, none⟩ = false := by rw [hW]; exact hfs
            have HW : Aside0 (PN w [n, m, List.replicate 5 0, mulS n m k i] W) := ⟨by rw [hW]; exact H.out.drew⟩
            clear hW hx hz hs hfs H
            simp only [List.take_succ_cons, List.take_zero, List.drop_succ_cons, List.drop_zero]
            repeat still_step
            refine wpStill_nil ?_
            go_wp2
            refine ⟨⟨i + 1, by omega, by go_num, ?_⟩, by simp [intOf]; omega⟩
            rw [← HSET.out]
            exact ⟨HW.out.set 3 k (s + x * z) rfl⟩
          · obtain ⟨hz, hfz⟩ := H.out.cell 1 (k + 5 - i) rfl (by rw [HM.out.len]; omega)
            have bz := HM.out.lt (k + 5 - i)
            rw [if_neg hik] at hT
            generalize n.getD i 0 = x at hx hT bx
            generalize m.getD (k + 5 - i) 0 = z at hz hT bz
            have bxz : x * z ≤ 18014398509481984 := by
              have := Nat.mul_le_mul (Nat.le_of_lt bx) (Nat.le_of_lt bz)
              simpa using this
            rw [hT] at hset
            generalize mulT n m k i = s at hs hset bs
            have HSET := Aside0.mk hset
            have b0 : 5 * (x : Int) ≤ 18446744073709551615 := by omega
            have b1 : 5 * (x : Int) * (z : Int) ≤ 18446744073709551615 := by
              have : ((x * z : Nat) : Int) ≤ 18014398509481984 := by omega
              rw [Int.natCast_mul] at this; rw [Int.mul_assoc]; omega
            have b2 : (s : Int) + 5 * (x : Int) * (z : Int) ≤ 18446744073709551615 := by
              have : ((x * z : Nat) : Int) ≤ 18014398509481984 := by omega
              rw [Int.natCast_mul] at this; rw [Int.mul_assoc]; omega
            have b3 : 0 ≤ 5 * (x : Int) * (z : Int) := Int.mul_nonneg (by omega) (by omega)
            have t1 : decide (0 ≤ (k : Int) - (i : Int)) = false := decide_eq_false (by omega)
            have t2 : decide ((i : Int) ≤ (k : Int)) = false := decide_eq_false (by omega)
            have t3 : decide (i ≤ k) = false := decide_eq_false hik
            have n1 : ((k : Int) - (i : Int) + 5).toNat = k + 5 - i := by omega
            have n2 : (k : Int) - (i : Int) + 5 < 5 := by omega
            have n3 : 0 ≤ (k : Int) - (i : Int) + 5 := by omega
            have n4 : IntKind.i64.wrap ((k : Int) - (i : Int) + 5) = (k : Int) - (i : Int) + 5 := IntWalk.i64_in _ (by omega)
            have e0 : IntKind.u64.wrap (5 * (x : Int)) = 5 * (x : Int) := wraps_u64 _ (by omega) (by omega)
            have e1 : IntKind.u64.wrap (5 * (x : Int) * (z : Int)) = 5 * (x : Int) * (z : Int) := wraps_u64 _ b3 (by omega)
            have e2 : IntKind.u64.wrap ((s : Int) + 5 * (x : Int) * (z : Int)) = (s : Int) + 5 * (x : Int) * (z : Int) := wraps_u64 _ (by omega) (by omega)
            clear hset hT bxz bs bx bz hfz
            simp only [adr] at hx hs hz hfs
            go_wp2_with (fail)
            refine wp_still_tail 12 (by kernel_rfl) (by kernel_rfl) ?_
            intro W hW
            have g2 : W.cell? ⟨w.heap.size + 1, k + 5 - i, none⟩ = some (.int .u64 (z : Int)) := by rw [hW]; exact hz
            have g3 : W.cell? ⟨w.heap.size + 1 + 1 + 1, k, none⟩ = some (.int .u64 (s : Int)) := by rw [hW]; exact hs
            have gf : W.frozen? ⟨w.heap.size + 1 + 1 + 1, k, none⟩ = false := by rw [hW]; exact hfs
            have HW : Aside0 (PN w [n, m, List.replicate 5 0, mulS n m k i] W) := ⟨by rw [hW]; exact H.out.drew⟩
            clear hW hx hz hs hfs H
            simp only [List.take_succ_cons, List.take_zero, List.drop_succ_cons, List.drop_zero]
            repeat still_step
            refine wpStill_nil ?_
            go_wp2
            refine ⟨⟨i + 1, by omega, by go_num, ?_⟩, by simp [intOf]; omega⟩
            rw [← HSET.out]
            exact ⟨HW.out.set 3 k (s + 5 * x * z) rfl⟩
        · obtain rfl : i = 5 := by omega
          clear hli hi
          rw [show ((5 : Nat) : Int) = 5 from rfl]
          go_wp2
          refine ⟨⟨k + 1, by omega, by go_num, ?_⟩, by simp [intOf]; omega⟩
          rw [← mulS_next]
          exact H
    · obtain rfl : k = 5 := by omega
      clear hlt hk
      rw [show ((5 : Nat) : Int) = 5 from rfl]
      have hP := H.out
      rw [mulS_all] at hP
      have HLM := Aside0.mk (mulL_lim HN.out HM.out)
      have hPl : (mulL n m).length = 5 := by simp [mulL]
      have hCl : (car (mulL n m)).length = 5 := by rw [car_length]; exact hPl
      generalize hP0 : mulL n m = P at *
      have HRe := Aside0.mk hP0
      clear hP0
      have HP := Aside0.mk hP
      have HPl := Aside0.mk hPl
      have HC := Aside0.mk (fun W => carried_calls P W HLM.out)
      have hrow := HP.out.rows 3 P rfl
      simp only [adr] at hrow
      have hszp : (Try.prog.info? 84).map (·.size) = some (u64s P).size := by rw [u64s_size, HPl.out]; exact HI.out
      have HROWP := Aside0.mk hrow
      have HSZP := Aside0.mk hszp
      have HCL := Aside0.mk hCl
      clear hP hPl hrow hszp hCl
      go_upto_region 15 with (fail)
      go_wp2_with (first | (with_reducible refine wpList_load_row rfl 84 (.tmp 5) rfl (w.heap.size + 1 + 1 + 1) rfl 84 (u64s P) (0, 0) _ HROWP.out Try.underlying84 rfl HSZP.out ?_))
      refine (HC.out _).mono ?_
      rintro e w3 ⟨rfl, hb⟩
      have hout := blk_below (HP.out.rows 2 _ rfl) hb
      simp only [adr] at hout
      have HBE := Aside0.mk (below_then HP.out.below HP.out.below.size hb)
      have hsz : (Try.prog.info? 84).map (·.size) = some (u64s (car P)).size := by rw [u64s_size, HCL.out]; exact HI.out
      have hsz2 : (u64s (List.replicate 5 0)).size = (u64s (car P)).size := by rw [u64s_size, u64s_size, HCL.out]; rfl
      have HOUT := Aside0.mk hout
      have HSZ := Aside0.mk hsz
      have HSZ2 := Aside0.mk hsz2
      clear hout hsz hsz2 hb
      generalize hr : car P = r at *
      have HRr := Aside0.mk hr
      clear hr
      go_wp2_with (refine wpList_store_row rfl 84 (.tmp 4) (.tmp 49) rfl (w.heap.size + 1 + 1) (u64s r) rfl rfl 84 _ HOUT.out HSZ.out HSZ2.out (u64s_one _) ?_)
      exact bodyPost_ret (results_cell_row Try.results79 _ _ (w.heap.size + 1 + 1) 84 (u64s r) (0, 0) _ rfl (setRow_heap _ _ _ _ _ _ HOUT.out) Try.underlying84 rfl HSZ.out) rfl ⟨by rw [HRe.out, HRr.out], below_setRow HBE.out (by omega) _⟩
end Go.Proofs.Ytmablneefndedaa.Pr

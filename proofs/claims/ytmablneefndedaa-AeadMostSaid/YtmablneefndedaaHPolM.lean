/- poly.Mac: the walk. -/
-- HAND samphire/poly.Mac poly_Mac 0 1
import Derived.Test.YtmablneefndedaaHPolA
import Derived.Test.YtmablneefndedaaHPolC
import Derived.Test.YtmablneefndedaaHPolD
import Derived.Test.YtmablneefndedaaHPolE
namespace Go.Proofs.Ytmablneefndedaa.Pr
open Go.RowKit Go.Deep Go.Proofs.YtmablneefndedaaW.PrintWords Go.Proofs.YtmablneefndedaaW.PrintLast Go.Proofs.YtmablneefndedaaW.PrintMore
set_option maxHeartbeats 2000000
set_option linter.unusedVariables false
set_option linter.unusedSimpArgs false
/-- A text's block as a number. -/
def blkN (s : List Nat) (j : Nat) : Nat := dv ((s.drop (16 * j)).take 16 ++ [1])
/-- The limbs behind so many blocks. -/
def accL (r s : List Nat) : Nat → List Nat
  | 0 => List.replicate 5 0
  | j + 1 => car (mulL (addL (accL r s j) (limbs (blkN s j))) r)
def pmacL (key s : List Nat) : List Nat := outT (lv (whole (accL (limbs (dv (clampL (key.take 16)))) s ((s.length + 15) / 16)))) (key.drop 16) 16
theorem accL_lim {r : List Nat} (hr : Lim 67108864 r) (s : List Nat) : ∀ j, Lim 67141632 (accL r s j)
  | 0 => by
    have : accL r s 0 = [0, 0, 0, 0, 0] := rfl
    rw [this]; apply Lim.mk5 <;> decide
  | j + 1 => car_lim (mulL_lim ((addL_lim (accL_lim hr s j) (limbs_lim _)).mono (by decide)) hr)
def PN5 (r : List Nat) (a b c d e : Nat) : Prop := r = [a, b, c, d, e]
/-- The memory of Mac: the key's number, and the sum's. -/
structure MA (w : World) (gr ga : Nat) (r a : List Nat) (W : World) : Prop where
  below : Below w.heap.size w W
  rrow : W.heap[gr]? = some (.cells (u64s r) 84 (0, 0))
  arow : W.heap[ga]? = some (.cells (u64s a) 84 (0, 0))
  ne : gr ≠ ga
  ge : w.heap.size ≤ ga
theorem MA.put5 {w W : World} {gr ga : Nat} {r a : List Nat} (h : MA w gr ga r a W) {x0 x1 x2 x3 x4 : Nat} (y0 y1 y2 y3 y4 : Nat) (ha : a = [x0, x1, x2, x3, x4] := by rfl) : MA w gr ga r [y0, y1, y2, y3, y4] (((((W.setCell ⟨ga, 0, none⟩ (.int .u64 (y0 : Int))).setCell ⟨ga, 1, none⟩ (.int .u64 (y1 : Int))).setCell ⟨ga, 2, none⟩ (.int .u64 (y2 : Int))).setCell ⟨ga, 3, none⟩ (.int .u64 (y3 : Int))).setCell ⟨ga, 4, none⟩ (.int .u64 (y4 : Int))) := by
  subst ha
  have hn := h.ne
  have hg := h.ge
  refine ⟨?_, ?_, ?_, hn, hg⟩
  · exact below_set (below_set (below_set (below_set (below_set h.below hg) hg) hg) hg) hg
  · exact blk_far (blk_far (blk_far (blk_far (blk_far h.rrow hn _) hn _) hn _) hn _) hn _
  · exact blk_put (blk_put (blk_put (blk_put (blk_put h.arow 0 _ rfl) 1 _ rfl) 2 _ rfl) 3 _ rfl) 4 _ rfl
set_option maxRecDepth 100000 in
theorem poly_Mac.yes (a0 a1 : ByteArray) (w : World) (h0 : a0.size = 32) (h1 : a1.size ≤ 65536) :
    Calls Try.prog 50 #[.string a0, .string a1] w fun E w' => E = .returned (.tuple #[.string (txt (pmacL (bys a0) (bys a1))), .int .i64 0]) ∧ Below w.heap.size w w' := by
  have hcl := poly_Clamp.yes (a0.extract 0 16)
  have hks : (a0.extract 0 16).size = 16 := by rw [ByteArray.size_extract]; omega
  have HCL := Aside0.mk (fun W => hcl W hks)
  clear hcl hks
  have hsz : (txt (clampL (bys (a0.extract 0 16)))).size = 16 := by rw [txt_size, clampL_length, bys_length, ByteArray.size_extract]; omega
  have hb : bys (txt (clampL (bys (a0.extract 0 16)))) = clampL (bys (a0.extract 0 16)) := bys_txt (clampL_lt _ (bys_lt _))
  have hrd := fun W => poly_read_calls (txt (clampL (bys (a0.extract 0 16)))) W (by omega) (by rw [List.getD_eq_getElem?_getD, List.getElem?_eq_none (by rw [bys_length]; omega)]; decide)
  rw [hb] at hrd
  have HRD := Aside0.mk hrd
  clear hrd hb hsz
  have t1 : ((a0.size : Int) != 32) = false := by rw [bne_eq_false_iff_eq]; omega
  have t2 : decide (65536 < (a1.size : Int)) = false := decide_eq_false (by omega)
  go_enter Try.func50, Try.ntmps50
  go_wp2_with (fail)
  refine (HCL.out _).mono ?_
  rintro e w1 ⟨rfl, hb1⟩
  have HKe : Aside0 (clampL (bys (a0.extract 0 16)) = clampL ((bys a0).take 16)) := ⟨by rw [bys_extract]; rfl⟩
  have hrl := limbs_lim (dv (clampL (bys (a0.extract 0 16))))
  have HRe : Aside0 (limbs (dv (clampL (bys (a0.extract 0 16)))) = limbs (dv (clampL ((bys a0).take 16)))) := ⟨by rw [HKe.out]⟩
  have hi : ∀ m : List Nat, m.length = 5 → (Try.prog.info? 84).map (·.size) = some (u64s m).size := by intro m hm; rw [u64s_size, hm]; kernel_rfl
  have HI := Aside0.mk hi
  clear hi
  go_wp2_with (fail)
  refine (HRD.out _).mono ?_
  generalize limbs (dv (clampL (bys (a0.extract 0 16)))) = r at hrl HRe ⊢
  have HRL := Aside0.mk hrl
  clear hrl HRD
  rintro e w2 ⟨rfl, hb2⟩
  go_upto_region 5 with (refine wpList_store_row rfl 84 (.tmp 8) (.tmp 26) rfl _ (u64s r) rfl rfl 84 _ (heap_alloc_last _ _) (HI.out r HRL.out.len) (by rw [u64s_size, HRL.out.len]; rfl) (u64s_one _) ?_; rw [World.setRow_alloc_new])
  go_wp2_with (fail)
  have HS : Aside0 (a1 = a1.extract (min (16 * 0) a1.size) a1.size) := ⟨by simp⟩
  have H : Aside0 (MA w w2.heap.size (w2.heap.size + 1) r (accL r (bys a1) 0) ((w2.alloc (.cells (u64s r) 84)).alloc (.cells (u64s (List.replicate 5 0)) 84))) := ⟨⟨below_alloc (below_alloc (below_then hb1 hb1.size hb2) _) _, blk_alloc (blk_new _ _) _, by
    have := blk_new (w2.alloc (.cells (u64s r) 84)) (.cells (u64s (List.replicate 5 0)) 84)
    rwa [show (w2.alloc (.cells (u64s r) 84)).heap.size = w2.heap.size + 1 by simp] at this, by omega, Nat.le_succ_of_le (Nat.le_trans hb1.size hb2.size)⟩⟩
  have e5 : #[Value.int IntKind.u64 0, Value.int IntKind.u64 0, Value.int IntKind.u64 0, Value.int IntKind.u64 0, Value.int IntKind.u64 0] = u64s (List.replicate 5 0) := rfl
  rw [e5]
  clear e5 hb1 hb2
  generalize (w2.alloc (.cells (u64s r) 84)).alloc (.cells (u64s (List.replicate 5 0)) 84) = W0 at H ⊢
  generalize w2.heap.size + 1 = ga at H ⊢
  generalize w2.heap.size = gr at H ⊢
  go_loopw [1] (fun s wr => ∃ j : Nat, 16 * j < a1.size + 16 ∧ s = .string (a1.extract (min (16 * j) a1.size) a1.size) ∧ Aside0 (MA w gr ga r (accL r (bys a1) j) wr)) (fun s _ => (match s with | .string t => t.size | _ => 0))
  case atStart => exact ⟨0, by omega, by rw [← HS.out], H⟩
  case round =>
    clear H
    obtain ⟨j, hj, rfl, H⟩ := hrel
    have hts : (a1.extract (min (16 * j) a1.size) a1.size).size = a1.size - 16 * j := by rw [ByteArray.size_extract]; omega
    have htb : bys (a1.extract (min (16 * j) a1.size) a1.size) = (bys a1).drop (16 * j) := by
      rw [bys_extract]
      by_cases hc : 16 * j ≤ a1.size
      · rw [Nat.min_eq_left hc, List.take_of_length_le (by rw [List.length_drop, bys_length]; omega)]
      · rw [Nat.min_eq_right (by omega), List.drop_of_length_le (by rw [bys_length]; omega), List.drop_of_length_le (by rw [bys_length]; omega)]; simp
    have hte : ∀ q, q ≤ a1.size - 16 * j → (a1.extract (min (16 * j) a1.size) a1.size).extract q (a1.size - 16 * j) = a1.extract (min (16 * j) a1.size + q) a1.size := by
      intro q hq
      rw [ByteArray.extract_extract]
      congr 1
      omega
    by_cases hlt : 16 * j < a1.size
    · generalize a1.extract (min (16 * j) a1.size) a1.size = τ at hts htb hte ⊢
      have hne : τ.toList.isEmpty = false := by
        rw [ByteArray.toList_eq]
        cases hl : τ.data.toList with
        | nil => have := data_length τ; rw [hl] at this; simp at this; omega
        | cons x l => rfl
      have HTB := Aside0.mk htb
      have HTE := Aside0.mk hte
      have HTS := Aside0.mk hts
      have hpos : 0 < τ.size := by omega
      have hle : τ.size ≤ 65536 := by omega
      clear htb hte hts
      go_upto_region 8 with (fail)
      rw [show min 16 (τ.size : Int) = ((min 16 τ.size : Nat) : Int) by omega]
      have hq1 : min 16 τ.size ≤ τ.size := by omega
      have hq2 : min 16 τ.size ≤ 16 := by omega
      have hq3 : 0 < min 16 τ.size := by omega
      have HQ : Aside0 (min 16 τ.size = 16 ∨ min 16 τ.size = τ.size) := ⟨by omega⟩
      generalize min 16 τ.size = q at hq1 hq2 hq3 HQ ⊢
      have hT : bys (τ.extract 0 q ++ ⟨#[1]⟩) = ((bys a1).drop (16 * j)).take 16 ++ [1] := by
        rw [bys_append, bys_extract, HTB.out, List.drop_zero, Nat.sub_zero]
        congr 1
        rcases HQ.out with h | h
        · rw [h]
        · rw [h, HTS.out, List.take_of_length_le (by rw [List.length_drop, bys_length]; omega), List.take_of_length_le (by rw [List.length_drop, bys_length]; have := HTS.out; omega)]
      have hTs : (τ.extract 0 q ++ (⟨#[1]⟩ : ByteArray)).size ≤ 17 := by
        rw [ByteArray.size_append, ByteArray.size_extract]; show min q τ.size - 0 + 1 ≤ 17; omega
      have h16 : (bys (τ.extract 0 q ++ ⟨#[1]⟩)).getD 16 0 < 4 := by
        rw [hT, List.getD_eq_getElem?_getD]
        generalize hB : ((bys a1).drop (16 * j)).take 16 = B
        have hBl : B.length ≤ 16 := by rw [← hB, List.length_take]; omega
        by_cases hB16 : B.length = 16
        · rw [List.getElem?_append_right (by omega), hB16]; decide
        · rw [List.getElem?_eq_none (by rw [List.length_append]; simp; omega)]; decide
      have HRT : Aside0 (∀ W, Calls Try.prog 77 #[.string (τ.extract 0 q ++ ⟨#[1]⟩)] W fun E w' => E = .returned (.agg (u64s (limbs (blkN (bys a1) j)))) ∧ Below W.heap.size W w') := ⟨fun W => by
        have := poly_read_calls _ W hTs h16
        rw [hT] at this
        exact this⟩
      have hNl := limbs_lim (blkN (bys a1) j)
      have hacc : accL r (bys a1) (j + 1) = car (mulL (addL (accL r (bys a1) j) (limbs (blkN (bys a1) j))) r) := rfl
      have hAl := accL_lim HRL.out (bys a1) j
      generalize limbs (blkN (bys a1) j) = N at HRT hNl hacc
      have hAD := fun W => number_add_calls (accL r (bys a1) j) N W (hAl.mono (by decide)) (hNl.mono (by decide))
      have hDl : Lim 268435456 (addL (accL r (bys a1) j) N) := (addL_lim hAl hNl).mono (by decide)
      generalize addL (accL r (bys a1) j) N = D at hacc hAD hDl
      have hTM := fun W => number_times_calls D r W hDl HRL.out
      have hCl : (car (mulL D r)).length = 5 := by rw [car_length]; simp [mulL]
      rw [← hacc] at hTM hCl
      obtain ⟨y0, y1, y2, y3, y4, hy⟩ := five hCl
      obtain ⟨x0, x1, x2, x3, x4, hx⟩ := five hAl.len
      obtain ⟨r0, r1, r2, r3, r4, hr⟩ := five HRL.out.len
      have HY := Aside0.mk hy
      rw [hy] at hTM
      rw [hx] at hAD H
      rw [hr] at hTM
      have HRr : Aside0 (PN5 r r0 r1 r2 r3 r4) := ⟨hr⟩
      have hrr := H.out.rrow
      rw [hr] at hrr
      have HAD : Aside0 (∀ W, Calls Try.prog 78 #[.agg #[.int .u64 (x0 : Int), .int .u64 (x1 : Int), .int .u64 (x2 : Int), .int .u64 (x3 : Int), .int .u64 (x4 : Int)], .agg (u64s N)] W fun e w' => e = .returned (.agg (u64s D)) ∧ Below W.heap.size W w') := ⟨hAD⟩
      have HTM : Aside0 (∀ W, Calls Try.prog 79 #[.agg (u64s D), .agg #[.int .u64 (r0 : Int), .int .u64 (r1 : Int), .int .u64 (r2 : Int), .int .u64 (r3 : Int), .int .u64 (r4 : Int)]] W fun e w' => e = .returned (.agg #[.int .u64 (y0 : Int), .int .u64 (y1 : Int), .int .u64 (y2 : Int), .int .u64 (y3 : Int), .int .u64 (y4 : Int)]) ∧ Below W.heap.size W w') := ⟨hTM⟩
      have ca0 : wr.cell? ⟨ga, 0, none⟩ = some (.int .u64 (x0 : Int)) := blk_cell H.out.arow 0
      have ca1 : wr.cell? ⟨ga, 1, none⟩ = some (.int .u64 (x1 : Int)) := blk_cell H.out.arow 1
      have ca2 : wr.cell? ⟨ga, 2, none⟩ = some (.int .u64 (x2 : Int)) := blk_cell H.out.arow 2
      have ca3 : wr.cell? ⟨ga, 3, none⟩ = some (.int .u64 (x3 : Int)) := blk_cell H.out.arow 3
      have ca4 : wr.cell? ⟨ga, 4, none⟩ = some (.int .u64 (x4 : Int)) := blk_cell H.out.arow 4
      have cr0 : wr.cell? ⟨gr, 0, none⟩ = some (.int .u64 (r0 : Int)) := blk_cell hrr 0
      have cr1 : wr.cell? ⟨gr, 1, none⟩ = some (.int .u64 (r1 : Int)) := blk_cell hrr 1
      have cr2 : wr.cell? ⟨gr, 2, none⟩ = some (.int .u64 (r2 : Int)) := blk_cell hrr 2
      have cr3 : wr.cell? ⟨gr, 3, none⟩ = some (.int .u64 (r3 : Int)) := blk_cell hrr 3
      have cr4 : wr.cell? ⟨gr, 4, none⟩ = some (.int .u64 (r4 : Int)) := blk_cell hrr 4
      have k3 : (9223372036854775807 < q + 1) = False := eq_false (by omega)
      have kq : (q : Int) ≤ (τ.size : Int) := by omega
      clear hT hTs h16 hNl hacc hAl hAD hDl hTM hCl hy hx hr hrr
      refine start_ (n := 10) (S := fun w' => w'.cell? ⟨ga, 0, none⟩ = some (.int .u64 (x0 : Int)) ∧ w'.cell? ⟨ga, 1, none⟩ = some (.int .u64 (x1 : Int)) ∧ w'.cell? ⟨ga, 2, none⟩ = some (.int .u64 (x2 : Int)) ∧ w'.cell? ⟨ga, 3, none⟩ = some (.int .u64 (x3 : Int)) ∧ w'.cell? ⟨ga, 4, none⟩ = some (.int .u64 (x4 : Int)) ∧ w'.cell? ⟨gr, 0, none⟩ = some (.int .u64 (r0 : Int)) ∧ w'.cell? ⟨gr, 1, none⟩ = some (.int .u64 (r1 : Int)) ∧ w'.cell? ⟨gr, 2, none⟩ = some (.int .u64 (r2 : Int)) ∧ w'.cell? ⟨gr, 3, none⟩ = some (.int .u64 (r3 : Int)) ∧ w'.cell? ⟨gr, 4, none⟩ = some (.int .u64 (r4 : Int))) (ds := [9]) #[false, false, false, false, false, false, false, false, false, false] (by kernel_rfl) rfl rfl ⟨(show _ from ca0), (show _ from ca1), (show _ from ca2), (show _ from ca3), (show _ from ca4), (show _ from cr0), (show _ from cr1), (show _ from cr2), (show _ from cr3), (show _ from cr4)⟩ (fun hHeld => ?_)
      refine pure_ (i := 1) (N := some 33) (v := ?_) (a' := ?_) #[false, true, false, false, false, false, false, false, false, false] rfl rfl (by kernel_rfl) (fun _ _ _ h => h) (Or.inl ⟨by rfl, ?_⟩) ?_ ?_
      rotate_left
      · intro w'
        go_simp
        with_reducible rfl
      rotate_left
      · simp only [Act.put, List.setIfInBounds_toArray, List.set_cons_zero, List.set_cons_succ, i64_w, i32_w]
        rfl
      refine pure_ (i := 2) (N := some 34) (v := ?_) (a' := ?_) #[false, true, true, false, false, false, false, false, false, false] rfl rfl (by kernel_rfl) (fun _ _ _ h => h) (Or.inl ⟨by rfl, ?_⟩) ?_ ?_
      rotate_left
      · intro w'
        go_simp
        with_reducible rfl
      rotate_left
      · simp only [Act.put, List.setIfInBounds_toArray, List.set_cons_zero, List.set_cons_succ, i64_w, i32_w]
        rfl
      refine pure_ (i := 3) (N := some 35) (v := ?_) (a' := ?_) #[false, true, true, true, false, false, false, false, false, false] rfl rfl (by kernel_rfl) (fun _ _ _ h => h) (Or.inl ⟨by rfl, ?_⟩) ?_ ?_
      rotate_left
      · intro w'
        go_simp
        with_reducible rfl
      rotate_left
      · simp only [Act.put, List.setIfInBounds_toArray, List.set_cons_zero, List.set_cons_succ, i64_w, i32_w]
        rfl
      refine pure_ (i := 4) (N := some 36) (v := ?_) (a' := ?_) #[false, true, true, true, true, false, false, false, false, false] rfl rfl (by kernel_rfl) (fun _ _ _ h => h) (Or.inl ⟨by rfl, ?_⟩) ?_ ?_
      rotate_left
      · intro w'
        go_simp
        with_reducible rfl
      rotate_left
      · simp only [Act.put, List.setIfInBounds_toArray, List.set_cons_zero, List.set_cons_succ, i64_w, i32_w]
        rfl
      refine take_ (i := 0) (N := some 32) (v := ?_) (a' := ?_) #[true, true, true, true, true, false, false, false, false, false] rfl rfl (by kernel_rfl) (fun _ _ _ h => h) (Or.inl ⟨by rfl, ?_⟩) hHeld ?_ ?_
      rotate_left
      · rintro w' ⟨s0, s1, s2, s3, s4, s5, s6, s7, s8, s9⟩
        go_simp
        with_reducible rfl
      rotate_left
      · simp only [Act.put, List.setIfInBounds_toArray, List.set_cons_zero, List.set_cons_succ, i64_w, i32_w]
        rfl
      refine take_ (i := 7) (N := some 39) (v := ?_) (a' := ?_) #[true, true, true, true, true, false, false, true, false, false] rfl rfl (by kernel_rfl) (fun _ _ _ h => h) (Or.inl ⟨by rfl, ?_⟩) hHeld ?_ ?_
      rotate_left
      · rintro w' ⟨s0, s1, s2, s3, s4, s5, s6, s7, s8, s9⟩
        go_simp
        with_reducible rfl
      rotate_left
      · simp only [Act.put, List.setIfInBounds_toArray, List.set_cons_zero, List.set_cons_succ, i64_w, i32_w]
        rfl
      refine one_ (i := 5) (N := some 37) #[true, true, true, true, true, true, false, true, false, false] rfl rfl (by kernel_rfl) (by decide) (fun K hK => ?_)
      refine goes_ Try.func77 (by kernel_rfl) rfl #[.string (τ.extract 0 q ++ ⟨#[1]⟩)] (by rfl) rfl rfl (by simp only [List.map_toArray, List.map_cons, List.map_nil]; rfl) ?_
      with_reducible refine (HRT.out _).mono ?_
      rintro e w3 ⟨rfl, hb3⟩
      refine ⟨_, rfl, ?_⟩
      refine hK.out _ _ ⟨(pw_cell_below hb3 (show _ from ca0)), (pw_cell_below hb3 (show _ from ca1)), (pw_cell_below hb3 (show _ from ca2)), (pw_cell_below hb3 (show _ from ca3)), (pw_cell_below hb3 (show _ from ca4)), (pw_cell_below hb3 (show _ from cr0)), (pw_cell_below hb3 (show _ from cr1)), (pw_cell_below hb3 (show _ from cr2)), (pw_cell_below hb3 (show _ from cr3)), (pw_cell_below hb3 (show _ from cr4))⟩ (fun hHeld => ?_)
      clear hK K
      refine norm_ (a' := ?_) ?_ ?_
      rotate_left
      · show Act.put _ (some 37) _ = _
        simp only [Act.put, List.setIfInBounds_toArray, List.set_cons_zero, List.set_cons_succ, i64_w, i32_w]
        rfl
      refine one_ (i := 6) (N := some 38) #[true, true, true, true, true, true, true, true, false, false] rfl rfl (by kernel_rfl) (by decide) (fun K hK => ?_)
      refine goes_ Try.func78 (by kernel_rfl) rfl #[.agg #[.int .u64 (x0 : Int), .int .u64 (x1 : Int), .int .u64 (x2 : Int), .int .u64 (x3 : Int), .int .u64 (x4 : Int)], .agg (u64s N)] (by rfl) rfl rfl (by simp only [List.map_toArray, List.map_cons, List.map_nil]; rfl) ?_
      with_reducible refine (HAD.out _).mono ?_
      rintro e w4 ⟨rfl, hb4⟩
      refine ⟨_, rfl, ?_⟩
      refine hK.out _ _ ⟨(pw_cell_below hb4 (pw_cell_below hb3 (show _ from ca0))), (pw_cell_below hb4 (pw_cell_below hb3 (show _ from ca1))), (pw_cell_below hb4 (pw_cell_below hb3 (show _ from ca2))), (pw_cell_below hb4 (pw_cell_below hb3 (show _ from ca3))), (pw_cell_below hb4 (pw_cell_below hb3 (show _ from ca4))), (pw_cell_below hb4 (pw_cell_below hb3 (show _ from cr0))), (pw_cell_below hb4 (pw_cell_below hb3 (show _ from cr1))), (pw_cell_below hb4 (pw_cell_below hb3 (show _ from cr2))), (pw_cell_below hb4 (pw_cell_below hb3 (show _ from cr3))), (pw_cell_below hb4 (pw_cell_below hb3 (show _ from cr4)))⟩ (fun hHeld => ?_)
      clear hK K
      refine norm_ (a' := ?_) ?_ ?_
      rotate_left
      · show Act.put _ (some 38) _ = _
        simp only [Act.put, List.setIfInBounds_toArray, List.set_cons_zero, List.set_cons_succ, i64_w, i32_w]
        rfl
      refine one_ (i := 8) (N := some 40) #[true, true, true, true, true, true, true, true, true, false] rfl rfl (by kernel_rfl) (by decide) (fun K hK => ?_)
      refine goes_ Try.func79 (by kernel_rfl) rfl #[.agg (u64s D), .agg #[.int .u64 (r0 : Int), .int .u64 (r1 : Int), .int .u64 (r2 : Int), .int .u64 (r3 : Int), .int .u64 (r4 : Int)]] (by rfl) rfl rfl (by simp only [List.map_toArray, List.map_cons, List.map_nil]; rfl) ?_
      with_reducible refine (HTM.out _).mono ?_
      rintro e w5 ⟨rfl, hb5⟩
      refine ⟨_, rfl, ?_⟩
      have hrow5 := blk_below (blk_below (blk_below (blk_drew H.out.arow) hb3) hb4) hb5
      have hbel5 := below_then (below_then (below_then (below_drew H.out.below) H.out.below.size hb3) (Nat.le_trans H.out.below.size hb3.size) hb4) (Nat.le_trans (Nat.le_trans H.out.below.size hb3.size) hb4.size) hb5
      have hrr5 := blk_below (blk_below (blk_below (blk_drew H.out.rrow) hb3) hb4) hb5
      have kf : ∀ i, w5.frozen? ⟨ga, i, none⟩ = false := fun i => blk_frozen hrow5 i
      refine hK.out _ _ ⟨(pw_cell_below hb5 (pw_cell_below hb4 (pw_cell_below hb3 (show _ from ca0)))), (pw_cell_below hb5 (pw_cell_below hb4 (pw_cell_below hb3 (show _ from ca1)))), (pw_cell_below hb5 (pw_cell_below hb4 (pw_cell_below hb3 (show _ from ca2)))), (pw_cell_below hb5 (pw_cell_below hb4 (pw_cell_below hb3 (show _ from ca3)))), (pw_cell_below hb5 (pw_cell_below hb4 (pw_cell_below hb3 (show _ from ca4)))), (pw_cell_below hb5 (pw_cell_below hb4 (pw_cell_below hb3 (show _ from cr0)))), (pw_cell_below hb5 (pw_cell_below hb4 (pw_cell_below hb3 (show _ from cr1)))), (pw_cell_below hb5 (pw_cell_below hb4 (pw_cell_below hb3 (show _ from cr2)))), (pw_cell_below hb5 (pw_cell_below hb4 (pw_cell_below hb3 (show _ from cr3)))), (pw_cell_below hb5 (pw_cell_below hb4 (pw_cell_below hb3 (show _ from cr4))))⟩ (fun hHeld => ?_)
      clear hK K
      refine norm_ (a' := ?_) ?_ ?_
      rotate_left
      · show Act.put _ (some 40) _ = _
        simp only [Act.put, List.setIfInBounds_toArray, List.set_cons_zero, List.set_cons_succ, i64_w, i32_w]
        rfl
      refine last_ (i := 9) (N := none) #[true, true, true, true, true, true, true, true, true, true] rfl rfl (by kernel_rfl) (by decide) (fun K hK => ?_)
      refine skip_ (w1 := ?_) (by rfl) rfl ?_ ?_
      rotate_left
      · go_simp
        rfl
      refine hK.out _ _ ?_
      clear hK K
      refine done_ (by kernel_rfl) ?_
      have HN : Aside0 (MA w gr ga r (accL r (bys a1) (j + 1)) (((((w5.setCell ⟨ga, 0, none⟩ (.int .u64 (y0 : Int))).setCell ⟨ga, 1, none⟩ (.int .u64 (y1 : Int))).setCell ⟨ga, 2, none⟩ (.int .u64 (y2 : Int))).setCell ⟨ga, 3, none⟩ (.int .u64 (y3 : Int))).setCell ⟨ga, 4, none⟩ (.int .u64 (y4 : Int)))) := ⟨by
        rw [HY.out]
        exact MA.put5 ⟨hbel5, hrr5, hrow5, H.out.ne, H.out.ge⟩ y0 y1 y2 y3 y4⟩
      clear ca0 ca1 ca2 ca3 ca4 cr0 cr1 cr2 cr3 cr4 hHeld kf k3 hrow5 hbel5 hrr5 hb3 hb4 hb5 H
      generalize (((((w5.setCell ⟨ga, 0, none⟩ (.int .u64 (y0 : Int))).setCell ⟨ga, 1, none⟩ (.int .u64 (y1 : Int))).setCell ⟨ga, 2, none⟩ (.int .u64 (y2 : Int))).setCell ⟨ga, 3, none⟩ (.int .u64 (y3 : Int))).setCell ⟨ga, 4, none⟩ (.int .u64 (y4 : Int))) = W6 at HN ⊢
      go_wp2
      rw [show τ.extract q τ.size = a1.extract (min (16 * (j + 1)) a1.size) a1.size by
        have := HTE.out q (by have := HTS.out; omega)
        rw [← HTS.out] at this
        rw [this]
        congr 1
        have := HTS.out
        rcases HQ.out with h | h <;> omega]
      refine ⟨⟨j + 1, by omega, rfl, HN⟩, ?_⟩
      show (a1.extract (min (16 * (j + 1)) a1.size) a1.size).size < τ.size
      rw [ByteArray.size_extract, HTS.out]
      omega
    · have he : a1.extract (min (16 * j) a1.size) a1.size = ⟨#[]⟩ := by
        apply ByteArray.ext
        apply Array.eq_empty_of_size_eq_zero
        show (a1.extract (min (16 * j) a1.size) a1.size).size = 0
        omega
      have hjn : (a1.size + 15) / 16 = j := by omega
      rw [he]
      clear hts htb hte he
      have HM : Aside0 (pmacL (bys a0) (bys a1) = outT (lv (whole (accL r (bys a1) j))) ((bys a0).drop 16) 16) := ⟨by
        unfold pmacL
        rw [bys_length, hjn, ← HRe.out]⟩
      have hAl := accL_lim HRL.out (bys a1) j
      generalize accL r (bys a1) j = A at H HM hAl
      have hWl : Lim 67108864 (whole A) := whole_lim (hAl.mono (by decide))
      have hWH := fun W => number_whole_calls A W (hAl.mono (by decide))
      obtain ⟨x0, x1, x2, x3, x4, hx⟩ := five hAl.len
      obtain ⟨z0, z1, z2, z3, z4, hz⟩ := five hWl.len
      rw [hz] at hWH HM hWl
      rw [hx] at hWH H
      have hBY := fun W => number_bytes_calls z0 z1 z2 z3 z4 (a0.extract 16 32) W hWl (by rw [ByteArray.size_extract]; omega)
      have hbk : bys (a0.extract 16 32) = (bys a0).drop 16 := by
        rw [bys_extract, List.take_of_length_le (by rw [List.length_drop, bys_length]; omega)]
      rw [hbk] at hBY
      have HWH : Aside0 (∀ W, Calls Try.prog 80 #[.agg #[.int .u64 (x0 : Int), .int .u64 (x1 : Int), .int .u64 (x2 : Int), .int .u64 (x3 : Int), .int .u64 (x4 : Int)]] W fun e w' => e = .returned (.agg #[.int .u64 (z0 : Int), .int .u64 (z1 : Int), .int .u64 (z2 : Int), .int .u64 (z3 : Int), .int .u64 (z4 : Int)]) ∧ Below W.heap.size W w') := ⟨hWH⟩
      have HBY : Aside0 (∀ W, Calls Try.prog 81 #[.agg #[.int .u64 (z0 : Int), .int .u64 (z1 : Int), .int .u64 (z2 : Int), .int .u64 (z3 : Int), .int .u64 (z4 : Int)], .string (a0.extract 16 32)] W fun e w' => e = .returned (.string (txt (outT (lv [z0, z1, z2, z3, z4]) ((bys a0).drop 16) 16))) ∧ Below W.heap.size W w') := ⟨hBY⟩
      have HHM := HM
      generalize outT (lv [z0, z1, z2, z3, z4]) ((bys a0).drop 16) 16 = M at HHM HBY
      have ca0 : wr.cell? ⟨ga, 0, none⟩ = some (.int .u64 (x0 : Int)) := blk_cell H.out.arow 0
      have ca1 : wr.cell? ⟨ga, 1, none⟩ = some (.int .u64 (x1 : Int)) := blk_cell H.out.arow 1
      have ca2 : wr.cell? ⟨ga, 2, none⟩ = some (.int .u64 (x2 : Int)) := blk_cell H.out.arow 2
      have ca3 : wr.cell? ⟨ga, 3, none⟩ = some (.int .u64 (x3 : Int)) := blk_cell H.out.arow 3
      have ca4 : wr.cell? ⟨ga, 4, none⟩ = some (.int .u64 (x4 : Int)) := blk_cell H.out.arow 4
      have HBE := Aside0.mk H.out.below
      have k32 : (16 : Int) ≤ (a0.size : Int) := by omega
      clear hjn hAl hWl hWH hBY hx hz hbk HM hlt hj t1 t2
      go_upto_region 10 with (fail)
      refine start_ (n := 7) (S := fun w' => w'.cell? ⟨ga, 0, none⟩ = some (.int .u64 (x0 : Int)) ∧ w'.cell? ⟨ga, 1, none⟩ = some (.int .u64 (x1 : Int)) ∧ w'.cell? ⟨ga, 2, none⟩ = some (.int .u64 (x2 : Int)) ∧ w'.cell? ⟨ga, 3, none⟩ = some (.int .u64 (x3 : Int)) ∧ w'.cell? ⟨ga, 4, none⟩ = some (.int .u64 (x4 : Int))) (ds := []) #[false, false, false, false, false, false, false] (by kernel_rfl) rfl rfl ⟨(show _ from ca0), (show _ from ca1), (show _ from ca2), (show _ from ca3), (show _ from ca4)⟩ (fun hHeld => ?_)
      refine pure_ (i := 2) (N := some 46) (v := ?_) (a' := ?_) #[false, false, true, false, false, false, false] rfl rfl (by kernel_rfl) (fun _ _ _ h => h) (Or.inl ⟨by rfl, ?_⟩) ?_ ?_
      rotate_left
      · intro w'
        go_simp
        with_reducible rfl
      rotate_left
      · simp only [Act.put, List.setIfInBounds_toArray, List.set_cons_zero, List.set_cons_succ, i64_w, i32_w]
        rfl
      refine pure_ (i := 3) (N := some 47) (v := ?_) (a' := ?_) #[false, false, true, true, false, false, false] rfl rfl (by kernel_rfl) (fun _ _ _ h => h) (Or.inl ⟨by rfl, ?_⟩) ?_ ?_
      rotate_left
      · intro w'
        go_simp
        with_reducible rfl
      rotate_left
      · simp only [Act.put, List.setIfInBounds_toArray, List.set_cons_zero, List.set_cons_succ, i64_w, i32_w]
        rfl
      refine take_ (i := 0) (N := some 44) (v := ?_) (a' := ?_) #[true, false, true, true, false, false, false] rfl rfl (by kernel_rfl) (fun _ _ _ h => h) (Or.inl ⟨by rfl, ?_⟩) hHeld ?_ ?_
      rotate_left
      · rintro w' ⟨s0, s1, s2, s3, s4⟩
        go_simp
        with_reducible rfl
      rotate_left
      · simp only [Act.put, List.setIfInBounds_toArray, List.set_cons_zero, List.set_cons_succ, i64_w, i32_w]
        rfl
      refine one_ (i := 1) (N := some 45) #[true, true, true, true, false, false, false] rfl rfl (by kernel_rfl) (by decide) (fun K hK => ?_)
      refine goes_ Try.func80 (by kernel_rfl) rfl #[.agg #[.int .u64 (x0 : Int), .int .u64 (x1 : Int), .int .u64 (x2 : Int), .int .u64 (x3 : Int), .int .u64 (x4 : Int)]] (by rfl) rfl rfl (by simp only [List.map_toArray, List.map_cons, List.map_nil]; rfl) ?_
      with_reducible refine (HWH.out _).mono ?_
      rintro e w3 ⟨rfl, hb3⟩
      refine ⟨_, rfl, ?_⟩
      refine hK.out _ _ ⟨(pw_cell_below hb3 (show _ from ca0)), (pw_cell_below hb3 (show _ from ca1)), (pw_cell_below hb3 (show _ from ca2)), (pw_cell_below hb3 (show _ from ca3)), (pw_cell_below hb3 (show _ from ca4))⟩ (fun hHeld => ?_)
      clear hK K
      refine norm_ (a' := ?_) ?_ ?_
      rotate_left
      · show Act.put _ (some 45) _ = _
        simp only [Act.put, List.setIfInBounds_toArray, List.set_cons_zero, List.set_cons_succ, i64_w, i32_w]
        rfl
      refine one_ (i := 4) (N := some 48) #[true, true, true, true, true, false, false] rfl rfl (by kernel_rfl) (by decide) (fun K hK => ?_)
      refine goes_ Try.func81 (by kernel_rfl) rfl #[.agg #[.int .u64 (z0 : Int), .int .u64 (z1 : Int), .int .u64 (z2 : Int), .int .u64 (z3 : Int), .int .u64 (z4 : Int)], .string (a0.extract 16 32)] (by rfl) rfl rfl (by simp only [List.map_toArray, List.map_cons, List.map_nil]; rfl) ?_
      with_reducible refine (HBY.out _).mono ?_
      rintro e w4 ⟨rfl, hb4⟩
      refine ⟨_, rfl, ?_⟩
      refine hK.out _ _ ⟨(pw_cell_below hb4 (pw_cell_below hb3 (show _ from ca0))), (pw_cell_below hb4 (pw_cell_below hb3 (show _ from ca1))), (pw_cell_below hb4 (pw_cell_below hb3 (show _ from ca2))), (pw_cell_below hb4 (pw_cell_below hb3 (show _ from ca3))), (pw_cell_below hb4 (pw_cell_below hb3 (show _ from ca4)))⟩ (fun hHeld => ?_)
      clear hK K
      refine norm_ (a' := ?_) ?_ ?_
      rotate_left
      · show Act.put _ (some 48) _ = _
        simp only [Act.put, List.setIfInBounds_toArray, List.set_cons_zero, List.set_cons_succ, i64_w, i32_w]
        rfl
      refine pure_ (i := 5) (N := some 4) (v := ?_) (a' := ?_) #[true, true, true, true, true, true, false] rfl rfl (by kernel_rfl) (fun _ _ _ h => h) (Or.inl ⟨by rfl, ?_⟩) ?_ ?_
      rotate_left
      · intro w'
        go_simp
        with_reducible rfl
      rotate_left
      · simp only [Act.put, List.setIfInBounds_toArray, List.set_cons_zero, List.set_cons_succ, i64_w, i32_w]
        rfl
      refine pure_ (i := 6) (N := some 5) (v := ?_) (a' := ?_) #[true, true, true, true, true, true, true] rfl rfl (by kernel_rfl) (fun _ _ _ h => h) (Or.inl ⟨by rfl, ?_⟩) ?_ ?_
      rotate_left
      · intro w'
        go_simp
        with_reducible rfl
      rotate_left
      · simp only [Act.put, List.setIfInBounds_toArray, List.set_cons_zero, List.set_cons_succ, i64_w, i32_w]
        rfl
      refine done_ (by kernel_rfl) ?_
      have hbel := below_then (below_then (below_drew HBE.out) HBE.out.size hb3) (Nat.le_trans HBE.out.size hb3.size) hb4
      have HBL := Aside0.mk hbel
      clear hbel hb3 hb4 hHeld ca0 ca1 ca2 ca3 ca4 k32
      go_wp2
      go_ret2
      exact ⟨by first | (rw [HHM.out]; done) | (rw [HHM.out]; rfl), HBL.out⟩
set_option maxRecDepth 100000 in
theorem poly_Mac.no (a0 a1 : ByteArray) (w : World) (h : ¬ (a0.size = 32 ∧ a1.size ≤ 65536)) : Calls Try.prog 50 #[.string a0, .string a1] w fun e w' => e = .returned (.tuple #[.string ⟨#[]⟩, .int .i64 1]) ∧ Below w.heap.size w w' := by
  by_cases h0 : a0.size = 32
  · have t1 : ((a0.size : Int) != 32) = false := by rw [bne_eq_false_iff_eq]; omega
    have t2 : decide (65536 < (a1.size : Int)) = true := decide_eq_true (by omega)
    clear h h0
    go_enter Try.func50, Try.ntmps50
    go_wp2
    go_ret2
    exact ⟨rfl, Below.refl _ _⟩
  · have t1 : ((a0.size : Int) != 32) = true := by rw [bne_iff_ne]; omega
    clear h h0
    go_enter Try.func50, Try.ntmps50
    go_wp2
    go_ret2
    exact ⟨rfl, Below.refl _ _⟩
def poly_Mac.f (a0 a1 : ByteArray) : Option (ByteArray × Int) := if a0.size = 32 ∧ a1.size ≤ 65536 then some (txt (pmacL (bys a0) (bys a1)), 0) else some (⟨#[]⟩, 1)
theorem poly_Mac.calls (a0 : ByteArray) (a1 : ByteArray) (r1 : ByteArray) (r2 : Int) (w : World) (h : poly_Mac.f a0 a1 = some (r1, r2)) :
    Calls Try.prog 50 #[.string a0, .string a1] w fun e w' => e = .returned (.tuple #[.string r1, .int .i64 r2]) ∧ Below w.heap.size w w' := by
  unfold poly_Mac.f at h
  by_cases hc : a0.size = 32 ∧ a1.size ≤ 65536
  · rw [if_pos hc] at h
    simp only [Option.some.injEq, Prod.mk.injEq] at h
    obtain ⟨rfl, rfl⟩ := h
    exact poly_Mac.yes a0 a1 w hc.1 hc.2
  · rw [if_neg hc] at h
    simp only [Option.some.injEq, Prod.mk.injEq] at h
    obtain ⟨rfl, rfl⟩ := h
    exact poly_Mac.no a0 a1 w hc
end Go.Proofs.Ytmablneefndedaa.Pr

/- Joined texts (pack.py): what the statement's proof needs, part 3 of 6. No condition. -/
import Derived.Below
import Derived.Deep.Draws
import Derived.Deep.AppendLies
import Derived.Maps.AppendAt
import Derived.OwnWalk
import Derived.Laws.BytesArg
import Derived.Laws.MakeOwn
import Derived.Laws.OwnMore
import Derived.Deep.OwnRows
import Derived.Tactics
import Derived.Lib.ConvBytes
import Derived.Laws.Slices
import Derived.WalkKit
import Derived.KernelRfl
import Derived.RowKit3
import Derived.Deep.LoopGhost
import Derived.Deep.QuietTactic
import Derived.BigQuiet
import Derived.WideLaws
import Derived.Deep.DeepCutAuto
import Derived.Deep.CutBlock
import Derived.Deep.RegionHeld3
import Derived.Laws.Rows
import Derived.Lib.AppendStr
import Derived.ArgAppend
import Derived.Laws.IdiomCopy
import Derived.RowKit
import Derived.OrdersHeld
import Derived.Laws.BitsLemmas
import Derived.Laws.StructEq
import Derived.Test.YtmablneefndedaaProg
import Derived.Shelf.Strings.Builder1
import Derived.Shelf.Strings.Builder2
import Derived.Shelf.Strings.BuilderF
import Derived.Shelf.Strings.Prefix
import Derived.Shelf.Bits.Mul64
import Derived.Shelf.Strings.Repeat
import Derived.StillTailTactics
import Derived.IntWalk
import Derived.Deep.Light
import Derived.Deep.WholeRow
import Derived.Laws.CopyOwn
import Derived.Test.YtmablneefndedaaRows
import Derived.ProofKit
import Derived.OpenShut
import Derived.ShutString
import Derived.ChangeOld
import Derived.SizedLaws
import Derived.Test.YtmablneefndedaaZO1
import Derived.Test.YtmablneefndedaaZO2
section
namespace Go.Proofs.Ytmablneefndedaa.Pr
open Go.RowKit Go.Deep Go.Proofs.YtmablneefndedaaW.PrintWords Go.Proofs.YtmablneefndedaaW.PrintLast Go.Proofs.YtmablneefndedaaW.PrintMore
set_option maxHeartbeats 2000000
set_option linter.unusedVariables false
set_option linter.unusedSimpArgs false
def blkN (s : List Nat) (j : Nat) : Nat := dv ((s.drop (16 * j)).take 16 ++ [1])
def accL (r s : List Nat) : Nat → List Nat
  | 0 => List.replicate 5 0
  | j + 1 => car (mulL (addL (accL r s j) (limbs (blkN s j))) r)
def pmacL (key s : List Nat) : List Nat := outT (lv (whole (accL (limbs (dv (clampL (key.take 16)))) s ((s.length + 15) / 16)))) (key.drop 16) 16
theorem accL_lim {r : List Nat} (hr : Lim 67108864 r) (s : List Nat) : ∀ j, Lim 67141632 (accL r s j)
  | 0 => by
    have : accL r s 0 = [0, 0, 0, 0, 0] := rfl
    rw [this]; apply Lim.mk5 <;> decide
  | j + 1 => car_lim (mulL_lim ((addL_lim (accL_lim hr s j) (limbs_lim _)).mono (by decide)) hr)
def PN5 (r : List Nat) (a b c d e : Nat) : Prop := r = [a, b, c, d, e]
structure MA (w : World) (gr ga : Nat) (r a : List Nat) (W : World) : Prop where
  below : Below w.heap.size w W
  rrow : W.heap[gr]? = some (.cells (u64s r) 84 (0, 0))
  arow : W.heap[ga]? = some (.cells (u64s a) 84 (0, 0))
  ne : gr ≠ ga
  ge : w.heap.size ≤ ga
theorem MA.put5 {w W : World} {gr ga : Nat} {r a : List Nat} (h : MA w gr ga r a W) {x0 x1 x2 x3 x4 : Nat} (y0 y1 y2 y3 y4 : Nat) (ha : a = [x0, x1, x2, x3, x4] := by rfl) : MA w gr ga r [y0, y1, y2, y3, y4] (((((W.setCell ⟨ga, 0, none⟩ (.int .u64 (y0 : Int))).setCell ⟨ga, 1, none⟩ (.int .u64 (y1 : Int))).setCell ⟨ga, 2, none⟩ (.int .u64 (y2 : Int))).setCell ⟨ga, 3, none⟩ (.int .u64 (y3 : Int))).setCell ⟨ga, 4, none⟩ (.int .u64 (y4 : Int))) := by
  subst ha
  have hn := h.ne
  have hg := h.ge
  refine ⟨?_, ?_, ?_, hn, hg⟩
  · exact below_set (below_set (below_set (below_set (below_set h.below hg) hg) hg) hg) hg
  · exact blk_far (blk_far (blk_far (blk_far (blk_far h.rrow hn _) hn _) hn _) hn _) hn _
  · exact blk_put (blk_put (blk_put (blk_put (blk_put h.arow 0 _ rfl) 1 _ rfl) 2 _ rfl) 3 _ rfl) 4 _ rfl
set_option maxRecDepth 100000 in
theorem poly_Mac.yes (a0 a1 : ByteArray) (w : World) (h0 : a0.size = 32) (h1 : a1.size ≤ 65536) :
    Calls Try.prog 50 #[.string a0, .string a1] w fun E w' => E = .returned (.tuple #[.string (txt (pmacL (bys a0) (bys a1))), .int .i64 0]) ∧ Below w.heap.size w w' := by
  have hcl := poly_Clamp.yes (a0.extract 0 16)
  have hks : (a0.extract 0 16).size = 16 := by rw [ByteArray.size_extract]; omega
  have HCL := Aside0.mk (fun W => hcl W hks)
  clear hcl hks
  have hsz : (txt (clampL (bys (a0.extract 0 16)))).size = 16 := by rw [txt_size, clampL_length, bys_length, ByteArray.size_extract]; omega
  have hb : bys (txt (clampL (bys (a0.extract 0 16)))) = clampL (bys (a0.extract 0 16)) := bys_txt (clampL_lt _ (bys_lt _))
  have hrd := fun W => poly_read_calls (txt (clampL (bys (a0.extract 0 16)))) W (by omega) (by rw [List.getD_eq_getElem?_getD, List.getElem?_eq_none (by rw [bys_length]; omega)]; decide)
  rw [hb] at hrd
  have HRD := Aside0.mk hrd
  clear hrd hb hsz
  have t1 : ((a0.size : Int) != 32) = false := by rw [bne_eq_false_iff_eq]; omega
  have t2 : decide (65536 < (a1.size : Int)) = false := decide_eq_false (by omega)
  go_enter Try.func50, Try.ntmps50
  go_wp2_with (fail)
  refine (HCL.out _).mono ?_
  rintro e w1 ⟨rfl, hb1⟩
  have HKe : Aside0 (clampL (bys (a0.extract 0 16)) = clampL ((bys a0).take 16)) := ⟨by rw [bys_extract]; rfl⟩
  have hrl := limbs_lim (dv (clampL (bys (a0.extract 0 16))))
  have HRe : Aside0 (limbs (dv (clampL (bys (a0.extract 0 16)))) = limbs (dv (clampL ((bys a0).take 16)))) := ⟨by rw [HKe.out]⟩
  have hi : ∀ m : List Nat, m.length = 5 → (Try.prog.info? 84).map (·.size) = some (u64s m).size := by intro m hm; rw [u64s_size, hm]; kernel_rfl
  have HI := Aside0.mk hi
  clear hi
  go_wp2_with (fail)
  refine (HRD.out _).mono ?_
  generalize limbs (dv (clampL (bys (a0.extract 0 16)))) = r at hrl HRe ⊢
  have HRL := Aside0.mk hrl
  clear hrl HRD
  rintro e w2 ⟨rfl, hb2⟩
  go_upto_region 5 with (refine wpList_store_row rfl 84 (.tmp 8) (.tmp 26) rfl _ (u64s r) rfl rfl 84 _ (heap_alloc_last _ _) (HI.out r HRL.out.len) (by rw [u64s_size, HRL.out.len]; rfl) (u64s_one _) ?_; rw [World.setRow_alloc_new])
  go_wp2_with (fail)
  have HS : Aside0 (a1 = a1.extract (min (16 * 0) a1.size) a1.size) := ⟨by simp⟩
  have H : Aside0 (MA w w2.heap.size (w2.heap.size + 1) r (accL r (bys a1) 0) ((w2.alloc (.cells (u64s r) 84)).alloc (.cells (u64s (List.replicate 5 0)) 84))) := ⟨⟨below_alloc (below_alloc (below_then hb1 hb1.size hb2) _) _, blk_alloc (blk_new _ _) _, by
    have := blk_new (w2.alloc (.cells (u64s r) 84)) (.cells (u64s (List.replicate 5 0)) 84)
    rwa [show (w2.alloc (.cells (u64s r) 84)).heap.size = w2.heap.size + 1 by simp] at this, by omega, Nat.le_succ_of_le (Nat.le_trans hb1.size hb2.size)⟩⟩
  have e5 : #[Value.int IntKind.u64 0, Value.int IntKind.u64 0, Value.int IntKind.u64 0, Value.int IntKind.u64 0, Value.int IntKind.u64 0] = u64s (List.replicate 5 0) := rfl
  rw [e5]
  clear e5 hb1 hb2
  generalize (w2.alloc (.cells (u64s r) 84)).alloc (.cells (u64s (List.replicate 5 0)) 84) = W0 at H ⊢
  generalize w2.heap.size + 1 = ga at H ⊢
  generalize w2.heap.size = gr at H ⊢
  go_loopw [1] (fun s wr => ∃ j : Nat, 16 * j < a1.size + 16 ∧ s = .string (a1.extract (min (16 * j) a1.size) a1.size) ∧ Aside0 (MA w gr ga r (accL r (bys a1) j) wr)) (fun s _ => (match s with | .string t => t.size | _ => 0))
  case atStart => exact ⟨0, by omega, by rw [← HS.out], H⟩
  case round =>
    clear H
    obtain ⟨j, hj, rfl, H⟩ := hrel
    have hts : (a1.extract (min (16 * j) a1.size) a1.size).size = a1.size - 16 * j := by rw [ByteArray.size_extract]; omega
    have htb : bys (a1.extract (min (16 * j) a1.size) a1.size) = (bys a1).drop (16 * j) := by
      rw [bys_extract]
      by_cases hc : 16 * j ≤ a1.size
      · rw [Nat.min_eq_left hc, List.take_of_length_le (by rw [List.length_drop, bys_length]; omega)]
      · rw [Nat.min_eq_right (by omega), List.drop_of_length_le (by rw [bys_length]; omega), List.drop_of_length_le (by rw [bys_length]; omega)]; simp
    have hte : ∀ q, q ≤ a1.size - 16 * j → (a1.extract (min (16 * j) a1.size) a1.size).extract q (a1.size - 16 * j) = a1.extract (min (16 * j) a1.size + q) a1.size := by
      intro q hq
      rw [ByteArray.extract_extract]
      congr 1
      omega
    by_cases hlt : 16 * j < a1.size
    · generalize a1.extract (min (16 * j) a1.size) a1.size = τ at hts htb hte ⊢
      have hne : τ.toList.isEmpty = false := by
        rw [ByteArray.toList_eq]
        cases hl : τ.data.toList with
        | nil => have := data_length τ; rw [hl] at this; simp at this; omega
        | cons x l => rfl
      have HTB := Aside0.mk htb
      have HTE := Aside0.mk hte
      have HTS := Aside0.mk hts
      have hpos : 0 < τ.size := by omega
      have hle : τ.size ≤ 65536 := by omega
      clear htb hte hts
      go_upto_region 8 with (fail)
      rw [show min 16 (τ.size : Int) = ((min 16 τ.size : Nat) : Int) by omega]
      have hq1 : min 16 τ.size ≤ τ.size := by omega
      have hq2 : min 16 τ.size ≤ 16 := by omega
      have hq3 : 0 < min 16 τ.size := by omega
      have HQ : Aside0 (min 16 τ.size = 16 ∨ min 16 τ.size = τ.size) := ⟨by omega⟩
      generalize min 16 τ.size = q at hq1 hq2 hq3 HQ ⊢
      have hT : bys (τ.extract 0 q ++ ⟨#[1]⟩) = ((bys a1).drop (16 * j)).take 16 ++ [1] := by
        rw [bys_append, bys_extract, HTB.out, List.drop_zero, Nat.sub_zero]
        congr 1
        rcases HQ.out with h | h
        · rw [h]
        · rw [h, HTS.out, List.take_of_length_le (by rw [List.length_drop, bys_length]; omega), List.take_of_length_le (by rw [List.length_drop, bys_length]; have := HTS.out; omega)]
      have hTs : (τ.extract 0 q ++ (⟨#[1]⟩ : ByteArray)).size ≤ 17 := by
        rw [ByteArray.size_append, ByteArray.size_extract]; show min q τ.size - 0 + 1 ≤ 17; omega
      have h16 : (bys (τ.extract 0 q ++ ⟨#[1]⟩)).getD 16 0 < 4 := by
        rw [hT, List.getD_eq_getElem?_getD]
        generalize hB : ((bys a1).drop (16 * j)).take 16 = B
        have hBl : B.length ≤ 16 := by rw [← hB, List.length_take]; omega
        by_cases hB16 : B.length = 16
        · rw [List.getElem?_append_right (by omega), hB16]; decide
        · rw [List.getElem?_eq_none (by rw [List.length_append]; simp; omega)]; decide
      have HRT : Aside0 (∀ W, Calls Try.prog 77 #[.string (τ.extract 0 q ++ ⟨#[1]⟩)] W fun E w' => E = .returned (.agg (u64s (limbs (blkN (bys a1) j)))) ∧ Below W.heap.size W w') := ⟨fun W => by
        have := poly_read_calls _ W hTs h16
        rw [hT] at this
        exact this⟩
      have hNl := limbs_lim (blkN (bys a1) j)
      have hacc : accL r (bys a1) (j + 1) = car (mulL (addL (accL r (bys a1) j) (limbs (blkN (bys a1) j))) r) := rfl
      have hAl := accL_lim HRL.out (bys a1) j
      generalize limbs (blkN (bys a1) j) = N at HRT hNl hacc
      have hAD := fun W => number_add_calls (accL r (bys a1) j) N W (hAl.mono (by decide)) (hNl.mono (by decide))
      have hDl : Lim 268435456 (addL (accL r (bys a1) j) N) := (addL_lim hAl hNl).mono (by decide)
      generalize addL (accL r (bys a1) j) N = D at hacc hAD hDl
      have hTM := fun W => number_times_calls D r W hDl HRL.out
      have hCl : (car (mulL D r)).length = 5 := by rw [car_length]; simp [mulL]
      rw [← hacc] at hTM hCl
      obtain ⟨y0, y1, y2, y3, y4, hy⟩ := five hCl
      obtain ⟨x0, x1, x2, x3, x4, hx⟩ := five hAl.len
      obtain ⟨r0, r1, r2, r3, r4, hr⟩ := five HRL.out.len
      have HY := Aside0.mk hy
      rw [hy] at hTM
      rw [hx] at hAD H
      rw [hr] at hTM
      have HRr : Aside0 (PN5 r r0 r1 r2 r3 r4) := ⟨hr⟩
      have hrr := H.out.rrow
      rw [hr] at hrr
      have HAD : Aside0 (∀ W, Calls Try.prog 78 #[.agg #[.int .u64 (x0 : Int), .int .u64 (x1 : Int), .int .u64 (x2 : Int), .int .u64 (x3 : Int), .int .u64 (x4 : Int)], .agg (u64s N)] W fun e w' => e = .returned (.agg (u64s D)) ∧ Below W.heap.size W w') := ⟨hAD⟩
      have HTM : Aside0 (∀ W, Calls Try.prog 79 #[.agg (u64s D), .agg #[.int .u64 (r0 : Int), .int .u64 (r1 : Int), .int .u64 (r2 : Int), .int .u64 (r3 : Int), .int .u64 (r4 : Int)]] W fun e w' => e = .returned (.agg #[.int .u64 (y0 : Int), .int .u64 (y1 : Int), .int .u64 (y2 : Int), .int .u64 (y3 : Int), .int .u64 (y4 : Int)]) ∧ Below W.heap.size W w') := ⟨hTM⟩
      have ca0 : wr.cell? ⟨ga, 0, none⟩ = some (.int .u64 (x0 : Int)) := blk_cell H.out.arow 0
      have ca1 : wr.cell? ⟨ga, 1, none⟩ = some (.int .u64 (x1 : Int)) := blk_cell H.out.arow 1
      have ca2 : wr.cell? ⟨ga, 2, none⟩ = some (.int .u64 (x2 : Int)) := blk_cell H.out.arow 2
      have ca3 : wr.cell? ⟨ga, 3, none⟩ = some (.int .u64 (x3 : Int)) := blk_cell H.out.arow 3
      have ca4 : wr.cell? ⟨ga, 4, none⟩ = some (.int .u64 (x4 : Int)) := blk_cell H.out.arow 4
      have cr0 : wr.cell? ⟨gr, 0, none⟩ = some (.int .u64 (r0 : Int)) := blk_cell hrr 0
      have cr1 : wr.cell? ⟨gr, 1, none⟩ = some (.int .u64 (r1 : Int)) := blk_cell hrr 1
      have cr2 : wr.cell? ⟨gr, 2, none⟩ = some (.int .u64 (r2 : Int)) := blk_cell hrr 2
      have cr3 : wr.cell? ⟨gr, 3, none⟩ = some (.int .u64 (r3 : Int)) := blk_cell hrr 3
      have cr4 : wr.cell? ⟨gr, 4, none⟩ = some (.int .u64 (r4 : Int)) := blk_cell hrr 4
      have k3 : (9223372036854775807 < q + 1) = False := eq_false (by omega)
      have kq : (q : Int) ≤ (τ.size : Int) := by omega
      clear hT hTs h16 hNl hacc hAl hAD hDl hTM hCl hy hx hr hrr
      refine start_ (n := 10) (S := fun w' => w'.cell? ⟨ga, 0, none⟩ = some (.int .u64 (x0 : Int)) ∧ w'.cell? ⟨ga, 1, none⟩ = some (.int .u64 (x1 : Int)) ∧ w'.cell? ⟨ga, 2, none⟩ = some (.int .u64 (x2 : Int)) ∧ w'.cell? ⟨ga, 3, none⟩ = some (.int .u64 (x3 : Int)) ∧ w'.cell? ⟨ga, 4, none⟩ = some (.int .u64 (x4 : Int)) ∧ w'.cell? ⟨gr, 0, none⟩ = some (.int .u64 (r0 : Int)) ∧ w'.cell? ⟨gr, 1, none⟩ = some (.int .u64 (r1 : Int)) ∧ w'.cell? ⟨gr, 2, none⟩ = some (.int .u64 (r2 : Int)) ∧ w'.cell? ⟨gr, 3, none⟩ = some (.int .u64 (r3 : Int)) ∧ w'.cell? ⟨gr, 4, none⟩ = some (.int .u64 (r4 : Int))) (ds := [9]) #[false, false, false, false, false, false, false, false, false, false] (by kernel_rfl) rfl rfl ⟨(show _ from ca0), (show _ from ca1), (show _ from ca2), (show _ from ca3), (show _ from ca4), (show _ from cr0), (show _ from cr1), (show _ from cr2), (show _ from cr3), (show _ from cr4)⟩ (fun hHeld => ?_)
      refine pure_ (i := 1) (N := some 33) (v := ?_) (a' := ?_) #[false, true, false, false, false, false, false, false, false, false] rfl rfl (by kernel_rfl) (fun _ _ _ h => h) (Or.inl ⟨by rfl, ?_⟩) ?_ ?_
      rotate_left
      · intro w'
        go_simp
        with_reducible rfl
      rotate_left
      · simp only [Act.put, List.setIfInBounds_toArray, List.set_cons_zero, List.set_cons_succ, i64_w, i32_w]
        rfl
      refine pure_ (i := 2) (N := some 34) (v := ?_) (a' := ?_) #[false, true, true, false, false, false, false, false, false, false] rfl rfl (by kernel_rfl) (fun _ _ _ h => h) (Or.inl ⟨by rfl, ?_⟩) ?_ ?_
      rotate_left
      · intro w'
        go_simp
        with_reducible rfl
      rotate_left
      · simp only [Act.put, List.setIfInBounds_toArray, List.set_cons_zero, List.set_cons_succ, i64_w, i32_w]
        rfl
      refine pure_ (i := 3) (N := some 35) (v := ?_) (a' := ?_) #[false, true, true, true, false, false, false, false, false, false] rfl rfl (by kernel_rfl) (fun _ _ _ h => h) (Or.inl ⟨by rfl, ?_⟩) ?_ ?_
      rotate_left
      · intro w'
        go_simp
        with_reducible rfl
      rotate_left
      · simp only [Act.put, List.setIfInBounds_toArray, List.set_cons_zero, List.set_cons_succ, i64_w, i32_w]
        rfl
      refine pure_ (i := 4) (N := some 36) (v := ?_) (a' := ?_) #[false, true, true, true, true, false, false, false, false, false] rfl rfl (by kernel_rfl) (fun _ _ _ h => h) (Or.inl ⟨by rfl, ?_⟩) ?_ ?_
      rotate_left
      · intro w'
        go_simp
        with_reducible rfl
      rotate_left
      · simp only [Act.put, List.setIfInBounds_toArray, List.set_cons_zero, List.set_cons_succ, i64_w, i32_w]
        rfl
      refine take_ (i := 0) (N := some 32) (v := ?_) (a' := ?_) #[true, true, true, true, true, false, false, false, false, false] rfl rfl (by kernel_rfl) (fun _ _ _ h => h) (Or.inl ⟨by rfl, ?_⟩) hHeld ?_ ?_
      rotate_left
      · rintro w' ⟨s0, s1, s2, s3, s4, s5, s6, s7, s8, s9⟩
        go_simp
        with_reducible rfl
      rotate_left
      · simp only [Act.put, List.setIfInBounds_toArray, List.set_cons_zero, List.set_cons_succ, i64_w, i32_w]
        rfl
      refine take_ (i := 7) (N := some 39) (v := ?_) (a' := ?_) #[true, true, true, true, true, false, false, true, false, false] rfl rfl (by kernel_rfl) (fun _ _ _ h => h) (Or.inl ⟨by rfl, ?_⟩) hHeld ?_ ?_
      rotate_left
      · rintro w' ⟨s0, s1, s2, s3, s4, s5, s6, s7, s8, s9⟩
        go_simp
        with_reducible rfl
      rotate_left
      · simp only [Act.put, List.setIfInBounds_toArray, List.set_cons_zero, List.set_cons_succ, i64_w, i32_w]
        rfl
      refine one_ (i := 5) (N := some 37) #[true, true, true, true, true, true, false, true, false, false] rfl rfl (by kernel_rfl) (by decide) (fun K hK => ?_)
      refine goes_ Try.func77 (by kernel_rfl) rfl #[.string (τ.extract 0 q ++ ⟨#[1]⟩)] (by rfl) rfl rfl (by simp only [List.map_toArray, List.map_cons, List.map_nil]; rfl) ?_
      with_reducible refine (HRT.out _).mono ?_
      rintro e w3 ⟨rfl, hb3⟩
      refine ⟨_, rfl, ?_⟩
      refine hK.out _ _ ⟨(pw_cell_below hb3 (show _ from ca0)), (pw_cell_below hb3 (show _ from ca1)), (pw_cell_below hb3 (show _ from ca2)), (pw_cell_below hb3 (show _ from ca3)), (pw_cell_below hb3 (show _ from ca4)), (pw_cell_below hb3 (show _ from cr0)), (pw_cell_below hb3 (show _ from cr1)), (pw_cell_below hb3 (show _ from cr2)), (pw_cell_below hb3 (show _ from cr3)), (pw_cell_below hb3 (show _ from cr4))⟩ (fun hHeld => ?_)
      clear hK K
      refine norm_ (a' := ?_) ?_ ?_
      rotate_left
      · show Act.put _ (some 37) _ = _
        simp only [Act.put, List.setIfInBounds_toArray, List.set_cons_zero, List.set_cons_succ, i64_w, i32_w]
        rfl
      refine one_ (i := 6) (N := some 38) #[true, true, true, true, true, true, true, true, false, false] rfl rfl (by kernel_rfl) (by decide) (fun K hK => ?_)
      refine goes_ Try.func78 (by kernel_rfl) rfl #[.agg #[.int .u64 (x0 : Int), .int .u64 (x1 : Int), .int .u64 (x2 : Int), .int .u64 (x3 : Int), .int .u64 (x4 : Int)], .agg (u64s N)] (by rfl) rfl rfl (by simp only [List.map_toArray, List.map_cons, List.map_nil]; rfl) ?_
      with_reducible refine (HAD.out _).mono ?_
      rintro e w4 ⟨rfl, hb4⟩
      refine ⟨_, rfl, ?_⟩
      refine hK.out _ _ ⟨(pw_cell_below hb4 (pw_cell_below hb3 (show _ from ca0))), (pw_cell_below hb4 (pw_cell_below hb3 (show _ from ca1))), (pw_cell_below hb4 (pw_cell_below hb3 (show _ from ca2))), (pw_cell_below hb4 (pw_cell_below hb3 (show _ from ca3))), (pw_cell_below hb4 (pw_cell_below hb3 (show _ from ca4))), (pw_cell_below hb4 (pw_cell_below hb3 (show _ from cr0))), (pw_cell_below hb4 (pw_cell_below hb3 (show _ from cr1))), (pw_cell_below hb4 (pw_cell_below hb3 (show _ from cr2))), (pw_cell_below hb4 (pw_cell_below hb3 (show _ from cr3))), (pw_cell_below hb4 (pw_cell_below hb3 (show _ from cr4)))⟩ (fun hHeld => ?_)
      clear hK K
      refine norm_ (a' := ?_) ?_ ?_
      rotate_left
      · show Act.put _ (some 38) _ = _
        simp only [Act.put, List.setIfInBounds_toArray, List.set_cons_zero, List.set_cons_succ, i64_w, i32_w]
        rfl
      refine one_ (i := 8) (N := some 40) #[true, true, true, true, true, true, true, true, true, false] rfl rfl (by kernel_rfl) (by decide) (fun K hK => ?_)
      refine goes_ Try.func79 (by kernel_rfl) rfl #[.agg (u64s D), .agg #[.int .u64 (r0 : Int), .int .u64 (r1 : Int), .int .u64 (r2 : Int), .int .u64 (r3 : Int), .int .u64 (r4 : Int)]] (by rfl) rfl rfl (by simp only [List.map_toArray, List.map_cons, List.map_nil]; rfl) ?_
      with_reducible refine (HTM.out _).mono ?_
      rintro e w5 ⟨rfl, hb5⟩
      refine ⟨_, rfl, ?_⟩
      have hrow5 := blk_below (blk_below (blk_below (blk_drew H.out.arow) hb3) hb4) hb5
      have hbel5 := below_then (below_then (below_then (below_drew H.out.below) H.out.below.size hb3) (Nat.le_trans H.out.below.size hb3.size) hb4) (Nat.le_trans (Nat.le_trans H.out.below.size hb3.size) hb4.size) hb5
      have hrr5 := blk_below (blk_below (blk_below (blk_drew H.out.rrow) hb3) hb4) hb5
      have kf : ∀ i, w5.frozen? ⟨ga, i, none⟩ = false := fun i => blk_frozen hrow5 i
      refine hK.out _ _ ⟨(pw_cell_below hb5 (pw_cell_below hb4 (pw_cell_below hb3 (show _ from ca0)))), (pw_cell_below hb5 (pw_cell_below hb4 (pw_cell_below hb3 (show _ from ca1)))), (pw_cell_below hb5 (pw_cell_below hb4 (pw_cell_below hb3 (show _ from ca2)))), (pw_cell_below hb5 (pw_cell_below hb4 (pw_cell_below hb3 (show _ from ca3)))), (pw_cell_below hb5 (pw_cell_below hb4 (pw_cell_below hb3 (show _ from ca4)))), (pw_cell_below hb5 (pw_cell_below hb4 (pw_cell_below hb3 (show _ from cr0)))), (pw_cell_below hb5 (pw_cell_below hb4 (pw_cell_below hb3 (show _ from cr1)))), (pw_cell_below hb5 (pw_cell_below hb4 (pw_cell_below hb3 (show _ from cr2)))), (pw_cell_below hb5 (pw_cell_below hb4 (pw_cell_below hb3 (show _ from cr3)))), (pw_cell_below hb5 (pw_cell_below hb4 (pw_cell_below hb3 (show _ from cr4))))⟩ (fun hHeld => ?_)
      clear hK K
      refine norm_ (a' := ?_) ?_ ?_
      rotate_left
      · show Act.put _ (some 40) _ = _
        simp only [Act.put, List.setIfInBounds_toArray, List.set_cons_zero, List.set_cons_succ, i64_w, i32_w]
        rfl
      refine last_ (i := 9) (N := none) #[true, true, true, true, true, true, true, true, true, true] rfl rfl (by kernel_rfl) (by decide) (fun K hK => ?_)
      refine skip_ (w1 := ?_) (by rfl) rfl ?_ ?_
      rotate_left
      · go_simp
        rfl
      refine hK.out _ _ ?_
      clear hK K
      refine done_ (by kernel_rfl) ?_
      have HN : Aside0 (MA w gr ga r (accL r (bys a1) (j + 1)) (((((w5.setCell ⟨ga, 0, none⟩ (.int .u64 (y0 : Int))).setCell ⟨ga, 1, none⟩ (.int .u64 (y1 : Int))).setCell ⟨ga, 2, none⟩ (.int .u64 (y2 : Int))).setCell ⟨ga, 3, none⟩ (.int .u64 (y3 : Int))).setCell ⟨ga, 4, none⟩ (.int .u64 (y4 : Int)))) := ⟨by
        rw [HY.out]
        exact MA.put5 ⟨hbel5, hrr5, hrow5, H.out.ne, H.out.ge⟩ y0 y1 y2 y3 y4⟩
      clear ca0 ca1 ca2 ca3 ca4 cr0 cr1 cr2 cr3 cr4 hHeld kf k3 hrow5 hbel5 hrr5 hb3 hb4 hb5 H
      generalize (((((w5.setCell ⟨ga, 0, none⟩ (.int .u64 (y0 : Int))).setCell ⟨ga, 1, none⟩ (.int .u64 (y1 : Int))).setCell ⟨ga, 2, none⟩ (.int .u64 (y2 : Int))).setCell ⟨ga, 3, none⟩ (.int .u64 (y3 : Int))).setCell ⟨ga, 4, none⟩ (.int .u64 (y4 : Int))) = W6 at HN ⊢
      go_wp2
      rw [show τ.extract q τ.size = a1.extract (min (16 * (j + 1)) a1.size) a1.size by
        have := HTE.out q (by have := HTS.out; omega)
        rw [← HTS.out] at this
        rw [this]
        congr 1
        have := HTS.out
        rcases HQ.out with h | h <;> omega]
      refine ⟨⟨j + 1, by omega, rfl, HN⟩, ?_⟩
      show (a1.extract (min (16 * (j + 1)) a1.size) a1.size).size < τ.size
      rw [ByteArray.size_extract, HTS.out]
      omega
    · have he : a1.extract (min (16 * j) a1.size) a1.size = ⟨#[]⟩ := by
        apply ByteArray.ext
        apply Array.eq_empty_of_size_eq_zero
        show (a1.extract (min (16 * j) a1.size) a1.size).size = 0
        omega
      have hjn : (a1.size + 15) / 16 = j := by omega
      rw [he]
      clear hts htb hte he
      have HM : Aside0 (pmacL (bys a0) (bys a1) = outT (lv (whole (accL r (bys a1) j))) ((bys a0).drop 16) 16) := ⟨by
        unfold pmacL
        rw [bys_length, hjn, ← HRe.out]⟩
      have hAl := accL_lim HRL.out (bys a1) j
      generalize accL r (bys a1) j = A at H HM hAl
      have hWl : Lim 67108864 (whole A) := whole_lim (hAl.mono (by decide))
      have hWH := fun W => number_whole_calls A W (hAl.mono (by decide))
      obtain ⟨x0, x1, x2, x3, x4, hx⟩ := five hAl.len
      obtain ⟨z0, z1, z2, z3, z4, hz⟩ := five hWl.len
      rw [hz] at hWH HM hWl
      rw [hx] at hWH H
      have hBY := fun W => number_bytes_calls z0 z1 z2 z3 z4 (a0.extract 16 32) W hWl (by rw [ByteArray.size_extract]; omega)
      have hbk : bys (a0.extract 16 32) = (bys a0).drop 16 := by
        rw [bys_extract, List.take_of_length_le (by rw [List.length_drop, bys_length]; omega)]
      rw [hbk] at hBY
      have HWH : Aside0 (∀ W, Calls Try.prog 80 #[.agg #[.int .u64 (x0 : Int), .int .u64 (x1 : Int), .int .u64 (x2 : Int), .int .u64 (x3 : Int), .int .u64 (x4 : Int)]] W fun e w' => e = .returned (.agg #[.int .u64 (z0 : Int), .int .u64 (z1 : Int), .int .u64 (z2 : Int), .int .u64 (z3 : Int), .int .u64 (z4 : Int)]) ∧ Below W.heap.size W w') := ⟨hWH⟩
      have HBY : Aside0 (∀ W, Calls Try.prog 81 #[.agg #[.int .u64 (z0 : Int), .int .u64 (z1 : Int), .int .u64 (z2 : Int), .int .u64 (z3 : Int), .int .u64 (z4 : Int)], .string (a0.extract 16 32)] W fun e w' => e = .returned (.string (txt (outT (lv [z0, z1, z2, z3, z4]) ((bys a0).drop 16) 16))) ∧ Below W.heap.size W w') := ⟨hBY⟩
      have HHM := HM
      generalize outT (lv [z0, z1, z2, z3, z4]) ((bys a0).drop 16) 16 = M at HHM HBY
      have ca0 : wr.cell? ⟨ga, 0, none⟩ = some (.int .u64 (x0 : Int)) := blk_cell H.out.arow 0
      have ca1 : wr.cell? ⟨ga, 1, none⟩ = some (.int .u64 (x1 : Int)) := blk_cell H.out.arow 1
      have ca2 : wr.cell? ⟨ga, 2, none⟩ = some (.int .u64 (x2 : Int)) := blk_cell H.out.arow 2
      have ca3 : wr.cell? ⟨ga, 3, none⟩ = some (.int .u64 (x3 : Int)) := blk_cell H.out.arow 3
      have ca4 : wr.cell? ⟨ga, 4, none⟩ = some (.int .u64 (x4 : Int)) := blk_cell H.out.arow 4
      have HBE := Aside0.mk H.out.below
      have k32 : (16 : Int) ≤ (a0.size : Int) := by omega
      clear hjn hAl hWl hWH hBY hx hz hbk HM hlt hj t1 t2
      go_upto_region 10 with (fail)
      refine start_ (n := 7) (S := fun w' => w'.cell? ⟨ga, 0, none⟩ = some (.int .u64 (x0 : Int)) ∧ w'.cell? ⟨ga, 1, none⟩ = some (.int .u64 (x1 : Int)) ∧ w'.cell? ⟨ga, 2, none⟩ = some (.int .u64 (x2 : Int)) ∧ w'.cell? ⟨ga, 3, none⟩ = some (.int .u64 (x3 : Int)) ∧ w'.cell? ⟨ga, 4, none⟩ = some (.int .u64 (x4 : Int))) (ds := []) #[false, false, false, false, false, false, false] (by kernel_rfl) rfl rfl ⟨(show _ from ca0), (show _ from ca1), (show _ from ca2), (show _ from ca3), (show _ from ca4)⟩ (fun hHeld => ?_)
      refine pure_ (i := 2) (N := some 46) (v := ?_) (a' := ?_) #[false, false, true, false, false, false, false] rfl rfl (by kernel_rfl) (fun _ _ _ h => h) (Or.inl ⟨by rfl, ?_⟩) ?_ ?_
      rotate_left
      · intro w'
        go_simp
        with_reducible rfl
      rotate_left
      · simp only [Act.put, List.setIfInBounds_toArray, List.set_cons_zero, List.set_cons_succ, i64_w, i32_w]
        rfl
      refine pure_ (i := 3) (N := some 47) (v := ?_) (a' := ?_) #[false, false, true, true, false, false, false] rfl rfl (by kernel_rfl) (fun _ _ _ h => h) (Or.inl ⟨by rfl, ?_⟩) ?_ ?_
      rotate_left
      · intro w'
        go_simp
        with_reducible rfl
      rotate_left
      · simp only [Act.put, List.setIfInBounds_toArray, List.set_cons_zero, List.set_cons_succ, i64_w, i32_w]
        rfl
      refine take_ (i := 0) (N := some 44) (v := ?_) (a' := ?_) #[true, false, true, true, false, false, false] rfl rfl (by kernel_rfl) (fun _ _ _ h => h) (Or.inl ⟨by rfl, ?_⟩) hHeld ?_ ?_
      rotate_left
      · rintro w' ⟨s0, s1, s2, s3, s4⟩
        go_simp
        with_reducible rfl
      rotate_left
      · simp only [Act.put, List.setIfInBounds_toArray, List.set_cons_zero, List.set_cons_succ, i64_w, i32_w]
        rfl
      refine one_ (i := 1) (N := some 45) #[true, true, true, true, false, false, false] rfl rfl (by kernel_rfl) (by decide) (fun K hK => ?_)
      refine goes_ Try.func80 (by kernel_rfl) rfl #[.agg #[.int .u64 (x0 : Int), .int .u64 (x1 : Int), .int .u64 (x2 : Int), .int .u64 (x3 : Int), .int .u64 (x4 : Int)]] (by rfl) rfl rfl (by simp only [List.map_toArray, List.map_cons, List.map_nil]; rfl) ?_
      with_reducible refine (HWH.out _).mono ?_
      rintro e w3 ⟨rfl, hb3⟩
      refine ⟨_, rfl, ?_⟩
      refine hK.out _ _ ⟨(pw_cell_below hb3 (show _ from ca0)), (pw_cell_below hb3 (show _ from ca1)), (pw_cell_below hb3 (show _ from ca2)), (pw_cell_below hb3 (show _ from ca3)), (pw_cell_below hb3 (show _ from ca4))⟩ (fun hHeld => ?_)
      clear hK K
      refine norm_ (a' := ?_) ?_ ?_
      rotate_left
      · show Act.put _ (some 45) _ = _
        simp only [Act.put, List.setIfInBounds_toArray, List.set_cons_zero, List.set_cons_succ, i64_w, i32_w]
        rfl
      refine one_ (i := 4) (N := some 48) #[true, true, true, true, true, false, false] rfl rfl (by kernel_rfl) (by decide) (fun K hK => ?_)
      refine goes_ Try.func81 (by kernel_rfl) rfl #[.agg #[.int .u64 (z0 : Int), .int .u64 (z1 : Int), .int .u64 (z2 : Int), .int .u64 (z3 : Int), .int .u64 (z4 : Int)], .string (a0.extract 16 32)] (by rfl) rfl rfl (by simp only [List.map_toArray, List.map_cons, List.map_nil]; rfl) ?_
      with_reducible refine (HBY.out _).mono ?_
      rintro e w4 ⟨rfl, hb4⟩
      refine ⟨_, rfl, ?_⟩
      refine hK.out _ _ ⟨(pw_cell_below hb4 (pw_cell_below hb3 (show _ from ca0))), (pw_cell_below hb4 (pw_cell_below hb3 (show _ from ca1))), (pw_cell_below hb4 (pw_cell_below hb3 (show _ from ca2))), (pw_cell_below hb4 (pw_cell_below hb3 (show _ from ca3))), (pw_cell_below hb4 (pw_cell_below hb3 (show _ from ca4)))⟩ (fun hHeld => ?_)
      clear hK K
      refine norm_ (a' := ?_) ?_ ?_
      rotate_left
      · show Act.put _ (some 48) _ = _
        simp only [Act.put, List.setIfInBounds_toArray, List.set_cons_zero, List.set_cons_succ, i64_w, i32_w]
        rfl
      refine pure_ (i := 5) (N := some 4) (v := ?_) (a' := ?_) #[true, true, true, true, true, true, false] rfl rfl (by kernel_rfl) (fun _ _ _ h => h) (Or.inl ⟨by rfl, ?_⟩) ?_ ?_
      rotate_left
      · intro w'
        go_simp
        with_reducible rfl
      rotate_left
      · simp only [Act.put, List.setIfInBounds_toArray, List.set_cons_zero, List.set_cons_succ, i64_w, i32_w]
        rfl
      refine pure_ (i := 6) (N := some 5) (v := ?_) (a' := ?_) #[true, true, true, true, true, true, true] rfl rfl (by kernel_rfl) (fun _ _ _ h => h) (Or.inl ⟨by rfl, ?_⟩) ?_ ?_
      rotate_left
      · intro w'
        go_simp
        with_reducible rfl
      rotate_left
      · simp only [Act.put, List.setIfInBounds_toArray, List.set_cons_zero, List.set_cons_succ, i64_w, i32_w]
        rfl
      refine done_ (by kernel_rfl) ?_
      have hbel := below_then (below_then (below_drew HBE.out) HBE.out.size hb3) (Nat.le_trans HBE.out.size hb3.size) hb4
      have HBL := Aside0.mk hbel
      clear hbel hb3 hb4 hHeld ca0 ca1 ca2 ca3 ca4 k32
      go_wp2
      go_ret2
      exact ⟨by first | (rw [HHM.out]; done) | (rw [HHM.out]; rfl), HBL.out⟩
end Go.Proofs.Ytmablneefndedaa.Pr
end

section
namespace Go.Proofs.Ytmablneefndedaa.Pr
open Go.RowKit Go.Proofs.YtmablneefndedaaW.PrintWords Go.Proofs.YtmablneefndedaaW.PrintLast Go.Proofs.YtmablneefndedaaW.PrintMore
attribute [local go_sem] max2_int min2_int max_two min_two max_three min_three max_four min_four   -- for this text's walks alone
set_option linter.unusedVariables false
set_option linter.unusedSimpArgs false
def word_PutSmall.f (l0 : List Int) : Option (ByteArray) := (word_put.f l0 true).bind fun t101 => (some t101)
set_option maxHeartbeats 8000000 in
set_option maxRecDepth 100000 in
theorem word_PutSmall.calls (A0 : Option Addr) (c0 : Nat) (l0 : List Int) (r : ByteArray) (w : World) (hr0 : Kd.C (Kd.int .i64) w A0 l0.length l0) (hc0 : l0.length ≤ c0) (h : word_PutSmall.f l0 = some r) :
    Calls Try.prog 52 #[.slice A0 l0.length c0] w fun e w' => e = .returned (.string r) ∧ Below w.heap.size w w' := by
  have HR0 := Aside0.mk hr0
  have HC0 := Aside0.mk hc0
  clear hr0 hc0
  have HB := Aside0.mk (Below.refl w.heap.size w)
  have H : ((word_put.f l0 true).bind fun t101 => (some t101)) = some r := h
  clear h
  replace H := Option.bind_eq_some_iff.mp H
  obtain ⟨t101, A20, H⟩ := H
  replace H : (some t101) = some r := H
  have A2 := Aside0.mk A20
  clear A20
  obtain rfl := Option.some.inj H
  go_enter Try.func52, Try.ntmps52
  go_wp2_with (first | ((with_reducible refine gate_callee (f := 82) rfl ?_); refine goesL_ (some 4) rfl rfl Try.func82 (by kernel_rfl) rfl #[.slice A0 l0.length c0, .bool true] rfl (by (try simp only [List.map_toArray, List.map_cons, List.map_nil]); first | done | rfl | (simp only [List.length_drop, List.length_take]; rfl)) ?_; (with_reducible refine (word_put.calls _ _ l0 true t101 _ ?side1 ?side2 A2.out).mono ?_); (case side1 => repeat (first | exact HR0.out | (with_reducible refine Kd.C_alloc ?_ _) | (with_reducible refine Kd.C_drewN ?_ _) | (with_reducible refine Kd.C_drew ?_))); (case side2 => exact HC0.out); rintro e w3 ⟨rfl, hb⟩; refine ⟨_, rfl, ?_⟩; have n0_ := Aside0.mk (below_step (by repeat (first | (with_reducible first | exact HB.out | apply below_alloc | apply pw_below_drewN | apply below_drew1) | exact HB.out)) hb); clear HB; have HB := n0_; clear n0_; (try clear hb); (try clear hb2); (try clear hk); (try clear hi)))
  go_ret
  exact ⟨by first | rfl | (simp [errW_none, errW_some] <;> rfl) | (simp [*, errW_none, errW_some] <;> rfl), by repeat (first | (with_reducible first | exact HB.out | apply below_alloc | apply pw_below_drewN | apply below_drew1) | exact HB.out)⟩
end Go.Proofs.Ytmablneefndedaa.Pr
end

section
namespace Go.Proofs.Ytmablneefndedaa.Pr
open Go.RowKit Go.Deep Go.Proofs.YtmablneefndedaaW.PrintWords Go.Proofs.YtmablneefndedaaW.PrintLast Go.Proofs.YtmablneefndedaaW.PrintMore
set_option maxHeartbeats 2000000
set_option linter.unusedVariables false
set_option linter.unusedSimpArgs false
def lenL (x y : Nat) : List Nat := [x, 0, y, 0].flatMap le4
theorem lenL_lt (x y : Nat) : ∀ z ∈ lenL x y, z < 256 := by
  intro z hz
  unfold lenL at hz
  rw [List.mem_flatMap] at hz
  obtain ⟨k, _, h⟩ := hz
  simp only [le4, List.mem_cons, List.not_mem_nil, or_false] at h
  rcases h with h | h | h | h <;> rw [h] <;> exact Nat.mod_lt _ (by decide)
theorem lenL_length (x y : Nat) : (lenL x y).length = 16 := rfl
theorem ps4 (g : Nat) (W : World) (x y : Nat) (hg : W.heap[g]? = some (.cells #[.int .i64 (x : Int), .int .i64 0, .int .i64 (y : Int), .int .i64 0] 3 (0, 0))) :
    Calls Try.prog 52 #[.slice (some ⟨g, 0, none⟩) 4 4] W fun e w' => e = .returned (.string (txt (lenL x y))) ∧ Below W.heap.size W w' := by
  have hC : (Kd.int .i64).C W (some ⟨g, 0, none⟩) [(x : Int), 0, (y : Int), 0].length [(x : Int), 0, (y : Int), 0] := by
    refine Kd.C_of_reads (enc := Value.int .i64) (d := (0 : Int)) (h1 := fun _ => rfl) ⟨rfl, by simp, fun _ => ⟨_, rfl, fun j hj => ?_⟩⟩
    rw [add_plain, blk_cell hg]
    have : j = 0 ∨ j = 1 ∨ j = 2 ∨ j = 3 := by simp at hj; omega
    rcases this with rfl | rfl | rfl | rfl <;> rfl
  have := word_PutSmall.calls (some ⟨g, 0, none⟩) 4 [(x : Int), 0, (y : Int), 0] (txt (lenL x y)) W hC (by simp) (by
    unfold word_PutSmall.f word_put.f
    rw [if_pos (by simp)]
    simp only [Option.bind_some, Option.some.injEq]
    rw [← str_nats]
    congr 1)
  exact this
theorem filled3 (g : Nat) (a b c : ByteArray) (W : World) (hg : W.heap[g]? = some (.cells #[.string a, .string b, .string c] 9 (0, 0))) (ha : a.size ≤ 1000000) (hb : b.size ≤ 1000000) (hc : c.size ≤ 1000000) :
    Calls Try.prog 51 #[.slice (some ⟨g, 0, none⟩) 3 3] W fun e w' => e = .returned (.string (txt (fill16 (bys a) ++ fill16 (bys b) ++ fill16 (bys c)))) ∧ Below W.heap.size W w' := by
  have := filled_calls g 3 [a, b, c] W hg (by
    intro t ht
    simp only [List.mem_cons, List.not_mem_nil, or_false] at ht
    rcases ht with rfl | rfl | rfl <;> assumption) (by simp) (by simp)
  have e : fillT [a, b, c] [a, b, c].length = fill16 (bys a) ++ fill16 (bys b) ++ fill16 (bys c) := by
    simp [fillT]
  rw [e] at this
  exact this
def tagL (key nonce bound c : List Nat) : List Nat := pmacL ((chaL key nonce 0).take 32) (fill16 bound ++ fill16 c ++ fill16 (lenL bound.length c.length))
def aead_tag.f (a0 a1 a2 a3 : ByteArray) : Option ByteArray :=
  if a0.size = 32 ∧ a1.size = 12 ∧ a2.size + a3.size ≤ 32768 then some (txt (tagL (bys a0) (bys a1) (bys a2) (bys a3))) else none
set_option maxRecDepth 100000 in
theorem aead_tag.yes (a0 a1 a2 a3 : ByteArray) (w : World) (h0 : a0.size = 32) (h1 : a1.size = 12) (h23 : a2.size + a3.size ≤ 32768) :
    Calls Try.prog 29 #[.string a0, .string a1, .string a2, .string a3] w fun e w' => e = .returned (.string (txt (tagL (bys a0) (bys a1) (bys a2) (bys a3)))) ∧ Below w.heap.size w w' := by
  have HBK := Aside0.mk (fun W => chacha_Block.calls a0 a1 0 (txt (chaL (bys a0) (bys a1) 0)) 0 W (by unfold chacha_Block.f; rw [if_pos ⟨h0, h1, by decide, by decide⟩]; rfl))
  have hks : (txt (chaL (bys a0) (bys a1) 0)).size = 64 := by rw [txt_size, chaL_length]
  have hkx : (txt (chaL (bys a0) (bys a1) 0)).extract 0 32 = txt ((chaL (bys a0) (bys a1) 0).take 32) := by rw [txt_extract]; rfl
  have hkb : bys (txt ((chaL (bys a0) (bys a1) 0).take 32)) = (chaL (bys a0) (bys a1) 0).take 32 := bys_txt (fun n hn => chaL_lt _ _ _ n (List.mem_of_mem_take hn))
  have hkl : (txt ((chaL (bys a0) (bys a1) 0).take 32)).size = 32 := by rw [txt_size, List.length_take, chaL_length]; rfl
  have hpl : bys (txt (lenL a2.size a3.size)) = lenL a2.size a3.size := bys_txt (lenL_lt _ _)
  have HPL : Aside0 ((txt (lenL a2.size a3.size)).size ≤ 1000000) := ⟨by rw [txt_size, lenL_length]; decide⟩
  have htag : tagL (bys a0) (bys a1) (bys a2) (bys a3) = pmacL ((chaL (bys a0) (bys a1) 0).take 32) (fill16 (bys a2) ++ fill16 (bys a3) ++ fill16 (lenL a2.size a3.size)) := by
    unfold tagL; rw [bys_length, bys_length]
  generalize chaL (bys a0) (bys a1) 0 = C at HBK hks hkx hkb hkl htag
  generalize hT : txt C = T at HBK hks hkx
  have HTX := Aside0.mk hkx
  have hlt : ∀ x ∈ fill16 (bys a2) ++ fill16 (bys a3) ++ fill16 (bys (txt (lenL a2.size a3.size))), x < 256 := by
    intro x hx
    have hz : ∀ l : List Nat, (∀ y ∈ l, y < 256) → ∀ y ∈ fill16 l, y < 256 := by
      intro l hl y hy
      unfold fill16 at hy
      rw [List.mem_append, List.mem_replicate] at hy
      rcases hy with h | h
      · exact hl y h
      · omega
    rw [List.mem_append, List.mem_append] at hx
    rcases hx with (h | h) | h
    · exact hz _ (bys_lt' _) x h
    · exact hz _ (bys_lt' _) x h
    · exact hz _ (bys_lt' _) x h
  have hmb : bys (txt (fill16 (bys a2) ++ fill16 (bys a3) ++ fill16 (bys (txt (lenL a2.size a3.size))))) = fill16 (bys a2) ++ fill16 (bys a3) ++ fill16 (lenL a2.size a3.size) := by
    rw [bys_txt hlt, hpl]
  have hml : (txt (fill16 (bys a2) ++ fill16 (bys a3) ++ fill16 (bys (txt (lenL a2.size a3.size))))).size ≤ 65536 := by
    rw [txt_size, List.length_append, List.length_append]
    have e1 := fill16_length (bys a2)
    have e2 := fill16_length (bys a3)
    have e3 := fill16_length (bys (txt (lenL a2.size a3.size)))
    rw [bys_length] at e1 e2
    rw [hpl, lenL_length] at e3
    rw [hpl]
    omega
  have hMC := fun W => poly_Mac.yes (txt (C.take 32)) _ W hkl hml
  rw [hkb, hmb, ← htag, ← hkx] at hMC
  have HMC := Aside0.mk hMC
  have h2 : a2.size ≤ 1000000 := by omega
  have h3 : a3.size ≤ 1000000 := by omega
  clear hkb hkl hpl htag hT hlt hmb hml hMC hkx
  generalize txt (tagL (bys a0) (bys a1) (bys a2) (bys a3)) = R at HMC ⊢
  have k32 : (32 : Int) ≤ (T.size : Int) := by omega
  clear hks
  go_enter Try.func29, Try.ntmps29
  go_upto_region 2 with (go_at_call 49; refine (HBK.out _).mono ?_; rintro e w1 ⟨rfl, hb1⟩)
  refine start_ (n := 18) (S := fun w' => True) (ds := []) #[false, false, false, false, false, false, false, false, false, false, false, false, false, false, false, false, false, false] (by kernel_rfl) rfl rfl trivial (fun hHeld => ?_)
  refine pure_ (i := 0) (N := some 20) (v := ?_) (a' := ?_) #[true, false, false, false, false, false, false, false, false, false, false, false, false, false, false, false, false, false] rfl rfl (by kernel_rfl) (fun _ _ _ h => h) (Or.inl ⟨by rfl, ?_⟩) ?_ ?_
  rotate_left
  · intro w'
    go_simp
    with_reducible rfl
  rotate_left
  · simp only [Act.put, List.setIfInBounds_toArray, List.set_cons_zero, List.set_cons_succ, i64_w, i32_w]
    rfl
  refine pure_ (i := 1) (N := some 21) (v := ?_) (a' := ?_) #[true, true, false, false, false, false, false, false, false, false, false, false, false, false, false, false, false, false] rfl rfl (by kernel_rfl) (fun _ _ _ h => h) (Or.inl ⟨by rfl, ?_⟩) ?_ ?_
  rotate_left
  · intro w'
    go_simp
    with_reducible rfl
  rotate_left
  · simp only [Act.put, List.setIfInBounds_toArray, List.set_cons_zero, List.set_cons_succ, i64_w, i32_w]
    rfl
  refine pure_ (i := 2) (N := some 22) (v := ?_) (a' := ?_) #[true, true, true, false, false, false, false, false, false, false, false, false, false, false, false, false, false, false] rfl rfl (by kernel_rfl) (fun _ _ _ h => h) (Or.inl ⟨by rfl, ?_⟩) ?_ ?_
  rotate_left
  · intro w'
    go_simp
    with_reducible rfl
  rotate_left
  · simp only [Act.put, List.setIfInBounds_toArray, List.set_cons_zero, List.set_cons_succ, i64_w, i32_w]
    rfl
  refine pure_ (i := 3) (N := some 23) (v := ?_) (a' := ?_) #[true, true, true, true, false, false, false, false, false, false, false, false, false, false, false, false, false, false] rfl rfl (by kernel_rfl) (fun _ _ _ h => h) (Or.inl ⟨by rfl, ?_⟩) ?_ ?_
  rotate_left
  · intro w'
    go_simp
    with_reducible rfl
  rotate_left
  · simp only [Act.put, List.setIfInBounds_toArray, List.set_cons_zero, List.set_cons_succ, i64_w, i32_w]
    rfl
  refine pure_ (i := 4) (N := some 24) (v := ?_) (a' := ?_) #[true, true, true, true, true, false, false, false, false, false, false, false, false, false, false, false, false, false] rfl rfl (by kernel_rfl) (fun _ _ _ h => h) (Or.inl ⟨by rfl, ?_⟩) ?_ ?_
  rotate_left
  · intro w'
    go_simp
    with_reducible rfl
  rotate_left
  · simp only [Act.put, List.setIfInBounds_toArray, List.set_cons_zero, List.set_cons_succ, i64_w, i32_w]
    rfl
  refine pure_ (i := 5) (N := some 25) (v := ?_) (a' := ?_) #[true, true, true, true, true, true, false, false, false, false, false, false, false, false, false, false, false, false] rfl rfl (by kernel_rfl) (fun _ _ _ h => h) (Or.inl ⟨by rfl, ?_⟩) ?_ ?_
  rotate_left
  · intro w'
    go_simp
    with_reducible rfl
  rotate_left
  · simp only [Act.put, List.setIfInBounds_toArray, List.set_cons_zero, List.set_cons_succ, i64_w, i32_w]
    rfl
  refine pure_ (i := 6) (N := some 26) (v := ?_) (a' := ?_) #[true, true, true, true, true, true, true, false, false, false, false, false, false, false, false, false, false, false] rfl rfl (by kernel_rfl) (fun _ _ _ h => h) (Or.inl ⟨by rfl, ?_⟩) ?_ ?_
  rotate_left
  · intro w'
    go_simp
    with_reducible rfl
  rotate_left
  · simp only [Act.put, List.setIfInBounds_toArray, List.set_cons_zero, List.set_cons_succ, i64_w, i32_w]
    rfl
  refine pure_ (i := 7) (N := some 27) (v := ?_) (a' := ?_) #[true, true, true, true, true, true, true, true, false, false, false, false, false, false, false, false, false, false] rfl rfl (by kernel_rfl) (fun _ _ _ h => h) (Or.inl ⟨by rfl, ?_⟩) ?_ ?_
  rotate_left
  · intro w'
    go_simp
    with_reducible rfl
  rotate_left
  · simp only [Act.put, List.setIfInBounds_toArray, List.set_cons_zero, List.set_cons_succ, i64_w, i32_w]
    rfl
  refine one_ (i := 8) (N := some 28) #[true, true, true, true, true, true, true, true, true, false, false, false, false, false, false, false, false, false] rfl rfl (by kernel_rfl) (by decide) (fun K hK => ?_)
  refine value_ (w1 := ?_) (v := ?_) (by rfl) rfl ?_ ?_
  rotate_left 2
  · go_simp
    constructor
    · rfl
    · rfl
  refine hK.out _ _ trivial (fun hHeld => ?_)
  clear hK K
  refine norm_ (a' := ?_) ?_ ?_
  rotate_left
  · show Act.put _ (some 28) _ = _
    simp only [Act.put, List.setIfInBounds_toArray, List.set_cons_zero, List.set_cons_succ, i64_w, i32_w]
    rfl
  refine one_ (i := 9) (N := some 29) #[true, true, true, true, true, true, true, true, true, true, false, false, false, false, false, false, false, false] rfl rfl (by kernel_rfl) (by decide) (fun K hK => ?_)
  refine goes_ Try.func52 (by kernel_rfl) rfl #[.slice (some ⟨w1.heap.size, 0, none⟩) 4 4] (by rfl) rfl rfl (by simp only [List.map_toArray, List.map_cons, List.map_nil]; rfl) ?_
  with_reducible refine (ps4 w1.heap.size _ a2.size a3.size (blk_drew (blk_new w1 _))).mono ?_
  rintro e w3 ⟨rfl, hb3⟩
  refine ⟨_, rfl, ?_⟩
  refine hK.out _ _ trivial (fun hHeld => ?_)
  clear hK K
  refine norm_ (a' := ?_) ?_ ?_
  rotate_left
  · show Act.put _ (some 29) _ = _
    simp only [Act.put, List.setIfInBounds_toArray, List.set_cons_zero, List.set_cons_succ, i64_w, i32_w]
    rfl
  refine one_ (i := 10) (N := some 30) #[true, true, true, true, true, true, true, true, true, true, true, false, false, false, false, false, false, false] rfl rfl (by kernel_rfl) (by decide) (fun K hK => ?_)
  refine value_ (w1 := ?_) (v := ?_) (by rfl) rfl ?_ ?_
  rotate_left 2
  · go_simp
    constructor
    · rfl
    · rfl
  refine hK.out _ _ trivial (fun hHeld => ?_)
  clear hK K
  refine norm_ (a' := ?_) ?_ ?_
  rotate_left
  · show Act.put _ (some 30) _ = _
    simp only [Act.put, List.setIfInBounds_toArray, List.set_cons_zero, List.set_cons_succ, i64_w, i32_w]
    rfl
  refine one_ (i := 11) (N := some 31) #[true, true, true, true, true, true, true, true, true, true, true, true, false, false, false, false, false, false] rfl rfl (by kernel_rfl) (by decide) (fun K hK => ?_)
  refine goes_ Try.func51 (by kernel_rfl) rfl #[.slice (some ⟨w3.heap.size, 0, none⟩) 3 3] (by rfl) rfl rfl (by simp only [List.map_toArray, List.map_cons, List.map_nil]; rfl) ?_
  with_reducible refine (filled3 w3.heap.size a2 a3 _ _ (blk_new w3 _) h2 h3 HPL.out).mono ?_
  rintro e w4 ⟨rfl, hb4⟩
  refine ⟨_, rfl, ?_⟩
  refine hK.out _ _ trivial (fun hHeld => ?_)
  clear hK K
  refine norm_ (a' := ?_) ?_ ?_
  rotate_left
  · show Act.put _ (some 31) _ = _
    simp only [Act.put, List.setIfInBounds_toArray, List.set_cons_zero, List.set_cons_succ, i64_w, i32_w]
    rfl
  refine one_ (i := 12) (N := some 32) #[true, true, true, true, true, true, true, true, true, true, true, true, true, false, false, false, false, false] rfl rfl (by kernel_rfl) (by decide) (fun K hK => ?_)
  refine goes_ Try.func50 (by kernel_rfl) rfl #[.string (T.extract 0 32), .string (txt (fill16 (bys a2) ++ fill16 (bys a3) ++ fill16 (bys (txt (lenL a2.size a3.size)))))] (by rfl) rfl rfl (by simp only [List.map_toArray, List.map_cons, List.map_nil]; rfl) ?_
  with_reducible refine (HMC.out _).mono ?_
  rintro e w5 ⟨rfl, hb5⟩
  refine ⟨_, rfl, ?_⟩
  refine hK.out _ _ trivial (fun hHeld => ?_)
  clear hK K
  refine norm_ (a' := ?_) ?_ ?_
  rotate_left
  · show Act.put _ (some 32) _ = _
    simp only [Act.put, List.setIfInBounds_toArray, List.set_cons_zero, List.set_cons_succ, i64_w, i32_w]
    rfl
  refine pure_ (i := 13) (N := some 19) (v := ?_) (a' := ?_) #[true, true, true, true, true, true, true, true, true, true, true, true, true, true, false, false, false, false] rfl rfl (by kernel_rfl) (fun _ _ _ h => h) (Or.inl ⟨by rfl, ?_⟩) ?_ ?_
  rotate_left
  · intro w'
    go_simp
    with_reducible rfl
  rotate_left
  · simp only [Act.put, List.setIfInBounds_toArray, List.set_cons_zero, List.set_cons_succ, i64_w, i32_w]
    rfl
  refine pure_ (i := 14) (N := some 33) (v := ?_) (a' := ?_) #[true, true, true, true, true, true, true, true, true, true, true, true, true, true, true, false, false, false] rfl rfl (by kernel_rfl) (fun _ _ _ h => h) (Or.inl ⟨by rfl, ?_⟩) ?_ ?_
  rotate_left
  · intro w'
    go_simp
    with_reducible rfl
  rotate_left
  · simp only [Act.put, List.setIfInBounds_toArray, List.set_cons_zero, List.set_cons_succ, i64_w, i32_w]
    rfl
  refine pure_ (i := 15) (N := some 34) (v := ?_) (a' := ?_) #[true, true, true, true, true, true, true, true, true, true, true, true, true, true, true, true, false, false] rfl rfl (by kernel_rfl) (fun _ _ _ h => h) (Or.inl ⟨by rfl, ?_⟩) ?_ ?_
  rotate_left
  · intro w'
    go_simp
    with_reducible rfl
  rotate_left
  · simp only [Act.put, List.setIfInBounds_toArray, List.set_cons_zero, List.set_cons_succ, i64_w, i32_w]
    rfl
  refine pure_ (i := 16) (N := some 11) (v := ?_) (a' := ?_) #[true, true, true, true, true, true, true, true, true, true, true, true, true, true, true, true, true, false] rfl rfl (by kernel_rfl) (fun _ _ _ h => h) (Or.inl ⟨by rfl, ?_⟩) ?_ ?_
  rotate_left
  · intro w'
    go_simp
    with_reducible rfl
  rotate_left
  · simp only [Act.put, List.setIfInBounds_toArray, List.set_cons_zero, List.set_cons_succ, i64_w, i32_w]
    rfl
  refine pure_ (i := 17) (N := some 12) (v := ?_) (a' := ?_) #[true, true, true, true, true, true, true, true, true, true, true, true, true, true, true, true, true, true] rfl rfl (by kernel_rfl) (fun _ _ _ h => h) (Or.inl ⟨by rfl, ?_⟩) ?_ ?_
  rotate_left
  · intro w'
    go_simp
    with_reducible rfl
  rotate_left
  · simp only [Act.put, List.setIfInBounds_toArray, List.set_cons_zero, List.set_cons_succ, i64_w, i32_w]
    rfl
  refine done_ (by kernel_rfl) ?_
  have hbel : Below w.heap.size w w5 := by
    have q1 := below_drew (below_alloc hb1 (.cells #[.int .i64 (a2.size : Int), .int .i64 0, .int .i64 (a3.size : Int), .int .i64 0] 3))
    have q2 := below_then q1 q1.size hb3
    have q3 := below_alloc q2 (.cells #[.string a2, .string a3, .string (txt (lenL a2.size a3.size))] 9)
    have q4 := below_then q3 q3.size hb4
    exact below_then q4 q4.size hb5
  have HBL := Aside0.mk hbel
  clear hbel hb5 hb4 hb3 hb1 hHeld
  go_wp2
  go_ret
  exact ⟨rfl, HBL.out⟩
theorem aead_tag.calls (a0 a1 a2 a3 : ByteArray) (r : ByteArray) (w : World) (h : aead_tag.f a0 a1 a2 a3 = some r) :
    Calls Try.prog 29 #[.string a0, .string a1, .string a2, .string a3] w fun e w' => e = .returned (.string r) ∧ Below w.heap.size w w' := by
  unfold aead_tag.f at h
  by_cases hc : a0.size = 32 ∧ a1.size = 12 ∧ a2.size + a3.size ≤ 32768
  · rw [if_pos hc] at h
    obtain rfl := Option.some.inj h
    exact aead_tag.yes a0 a1 a2 a3 w hc.1 hc.2.1 hc.2.2
  · rw [if_neg hc] at h
    cases h
end Go.Proofs.Ytmablneefndedaa.Pr
end

section
namespace Go.Proofs.Ytmablneefndedaa.Pr
open Go.RowKit Go.Proofs.YtmablneefndedaaW.PrintWords Go.Proofs.YtmablneefndedaaW.PrintLast Go.Proofs.YtmablneefndedaaW.PrintMore
attribute [local go_sem] max2_int min2_int max_two min_two max_three min_three max_four min_four   -- for this text's walks alone
set_option linter.unusedVariables false
set_option linter.unusedSimpArgs false
def aead_may.f (a0 : ByteArray) (a1 : ByteArray) (a2 : Int) (a3 : Int) : Option (Bool) := if (a0.size : Int) = 32 then (if (a1.size : Int) = 12 then (if a2 ≤ 32768 then (some (decide (a3 ≤ (wrap64 (32768 - a2))))) else (some false)) else (some false)) else (some false)
set_option maxHeartbeats 8000000 in
set_option maxRecDepth 100000 in
theorem aead_may.calls (a0 : ByteArray) (a1 : ByteArray) (a2 : Int) (a3 : Int) (r : Bool) (w : World) (h : aead_may.f a0 a1 a2 a3 = some r) :
    Calls Try.prog 27 #[.string a0, .string a1, .int .i64 a2, .int .i64 a3] w fun e w' => e = .returned (.bool r) ∧ Drawn0 w w' := by
  have H : (if (a0.size : Int) = 32 then (if (a1.size : Int) = 12 then (if a2 ≤ 32768 then (some (decide (a3 ≤ (wrap64 (32768 - a2))))) else (some false)) else (some false)) else (some false)) = some r := h
  clear h
  by_cases c5 : (a0.size : Int) = 32
  · rw [if_pos c5] at H
    have c5b0 : ((a0.size : Int) == 32) = true := beq_iff_eq.mpr c5
    have c5b1 : ((a0.size : Int) != 32) = false := bne_eq_false_iff_eq.mpr c5
    clear c5
    by_cases c6 : (a1.size : Int) = 12
    · rw [if_pos c6] at H
      have c6b0 : ((a1.size : Int) == 12) = true := beq_iff_eq.mpr c6
      have c6b1 : ((a1.size : Int) != 12) = false := bne_eq_false_iff_eq.mpr c6
      clear c6
      by_cases c7 : a2 ≤ 32768
      · rw [if_pos c7] at H
        have c7b0 : decide (a2 ≤ 32768) = true := decide_eq_true c7
        clear c7
        obtain rfl := Option.some.inj H
        go_enter Try.func27, Try.ntmps27
        go_wp2
        go_ret
        exact ⟨by first | rfl | (simp; done) | (simp [*]; done), by repeat (first | exact Drawn0.refl _ | apply Drawn0.step)⟩
      · rw [if_neg c7] at H
        have c7b0 : decide (a2 ≤ 32768) = false := decide_eq_false c7
        clear c7
        obtain rfl := Option.some.inj H
        go_enter Try.func27, Try.ntmps27
        go_wp2
        go_ret
        exact ⟨by first | rfl | (simp; done) | (simp [*]; done), by repeat (first | exact Drawn0.refl _ | apply Drawn0.step)⟩
    · rw [if_neg c6] at H
      have c6b0 : ((a1.size : Int) == 12) = false := beq_eq_false_iff_ne.mpr c6
      have c6b1 : ((a1.size : Int) != 12) = true := bne_iff_ne.mpr c6
      obtain rfl := Option.some.inj H
      go_enter Try.func27, Try.ntmps27
      go_wp2
      go_ret
      exact ⟨by first | rfl | (simp; done) | (simp [*]; done), by repeat (first | exact Drawn0.refl _ | apply Drawn0.step)⟩
  · rw [if_neg c5] at H
    have c5b0 : ((a0.size : Int) == 32) = false := beq_eq_false_iff_ne.mpr c5
    have c5b1 : ((a0.size : Int) != 32) = true := bne_iff_ne.mpr c5
    obtain rfl := Option.some.inj H
    go_enter Try.func27, Try.ntmps27
    go_wp2
    go_ret
    exact ⟨by first | rfl | (simp; done) | (simp [*]; done), by repeat (first | exact Drawn0.refl _ | apply Drawn0.step)⟩
end Go.Proofs.Ytmablneefndedaa.Pr
end

section
namespace Go.Proofs.Ytmablneefndedaa.Pr
open Go.RowKit Go.Proofs.YtmablneefndedaaW.PrintWords Go.Proofs.YtmablneefndedaaW.PrintLast
set_option maxHeartbeats 1000000
set_option linter.unusedVariables false
set_option linter.unusedSimpArgs false
theorem strB_lt (a b : List Nat) (n i : Nat) : strB a b n i < 256 := by
  unfold strB
  have hl : i % 64 < (chaL a b (n + i / 64)).length := by rw [chaL_length]; exact Nat.mod_lt _ (by decide)
  rw [List.getD_eq_getElem?_getD, List.getElem?_eq_getElem hl]
  exact chaL_lt _ _ _ _ (List.getElem_mem hl)
theorem streamL_length (a b : List Nat) (n : Nat) (s : List Nat) : (streamL a b n s).length = s.length := xorAt_length _ _ _
theorem streamL_get (a b : List Nat) (n : Nat) (s : List Nat) (i : Nat) (hi : i < s.length) : (streamL a b n s)[i]? = some (s.getD i 0 ^^^ strB a b n i) := by
  unfold streamL xorAt
  simp [hi]
theorem streamL_lt (a b : List Nat) (n : Nat) (s : List Nat) (hs : ∀ x ∈ s, x < 256) : ∀ x ∈ streamL a b n s, x < 256 := by
  intro x hx
  obtain ⟨i, hi, rfl⟩ := List.getElem_of_mem hx
  have hi' : i < s.length := by rw [← streamL_length a b n s]; exact hi
  have h := streamL_get a b n s i hi'
  rw [List.getElem?_eq_getElem hi] at h
  rw [Option.some.inj h]
  have h1 : s.getD i 0 < 256 := by
    rw [List.getD_eq_getElem?_getD, List.getElem?_eq_getElem hi']
    exact hs _ (List.getElem_mem hi')
  exact Nat.xor_lt_two_pow (n := 8) h1 (strB_lt a b n i)
theorem streamL_twice (a b : List Nat) (n : Nat) (s : List Nat) : streamL a b n (streamL a b n s) = s := by
  apply List.ext_getElem?
  intro i
  by_cases hi : i < s.length
  · rw [streamL_get _ _ _ _ _ (by rw [streamL_length]; exact hi), List.getD_eq_getElem?_getD, streamL_get _ _ _ _ _ hi]
    simp only [Option.getD_some]
    rw [Nat.xor_assoc, Nat.xor_self, Nat.xor_zero, List.getD_eq_getElem?_getD, List.getElem?_eq_getElem hi]
    rfl
  · rw [List.getElem?_eq_none (by rw [streamL_length, streamL_length]; omega), List.getElem?_eq_none (by omega)]
theorem tagL_length (a b c d : List Nat) : (tagL a b c d).length = 16 := outT_length _ _ _
theorem tagL_lt (a b c d : List Nat) : ∀ x ∈ tagL a b c d, x < 256 := outT_lt _ _ _
def aeadOK (a0 a1 : ByteArray) (x y : Nat) : Prop := a0.size = 32 ∧ a1.size = 12 ∧ x ≤ 32768 ∧ y ≤ 32768 - x
instance (a0 a1 : ByteArray) (x y : Nat) : Decidable (aeadOK a0 a1 x y) := by unfold aeadOK; infer_instance
theorem aead_may_f (a0 a1 : ByteArray) (x y : Nat) (hx : x ≤ 1000000000000000) (hy : y ≤ 1000000000000000) : aead_may.f a0 a1 (x : Int) (y : Int) = some (decide (aeadOK a0 a1 x y)) := by
  unfold aead_may.f aeadOK
  by_cases h0 : a0.size = 32
  · rw [if_pos (by omega)]
    by_cases h1 : a1.size = 12
    · rw [if_pos (by omega)]
      by_cases h2 : x ≤ 32768
      · rw [if_pos (by omega)]
        congr 1
        have hw : wrap64 (32768 - (x : Int)) = 32768 - (x : Int) := by unfold wrap64; omega
        rw [hw]
        apply decide_eq_decide.2
        omega
      · rw [if_neg (by omega)]; congr 1; exact (decide_eq_false (by omega)).symm
    · rw [if_neg (by omega)]; congr 1; exact (decide_eq_false (by omega)).symm
  · rw [if_neg (by omega)]; congr 1; exact (decide_eq_false (by omega)).symm
def sealF (a0 a1 a2 a3 : ByteArray) : ByteArray × Int :=
  if aeadOK a0 a1 a2.size a3.size then (txt (streamL (bys a0) (bys a1) 1 (bys a3) ++ tagL (bys a0) (bys a1) (bys a2) (streamL (bys a0) (bys a1) 1 (bys a3))), 0) else (⟨#[]⟩, 1)
theorem stream_f (a0 a1 a3 : ByteArray) (h0 : a0.size = 32) (h1 : a1.size = 12) (h3 : a3.size ≤ 32768) : chacha_Stream.f a0 a1 1 a3 = some (txt (streamL (bys a0) (bys a1) 1 (bys a3)), 0) := by
  unfold chacha_Stream.f
  rw [if_pos (by omega), if_pos ⟨⟨h0, h1, by decide, by decide⟩, by omega, by omega⟩]
  rfl
def openF (a0 a1 a2 a3 : ByteArray) : ByteArray × Int :=
  if aeadOK a0 a1 a2.size (a3.size - 16) then
    (if a3.size < 16 then (⟨#[]⟩, 70) else if tagL (bys a0) (bys a1) (bys a2) ((bys a3).take (a3.size - 16)) = (bys a3).drop (a3.size - 16) then (txt (streamL (bys a0) (bys a1) 1 ((bys a3).take (a3.size - 16))), 0) else (⟨#[]⟩, 70))
  else (⟨#[]⟩, 1)
theorem open_seal (a0 a1 a2 a3 : ByteArray) (h : aeadOK a0 a1 a2.size a3.size) : openF a0 a1 a2 (sealF a0 a1 a2 a3).1 = (a3, 0) ∧ (sealF a0 a1 a2 a3).2 = 0 ∧ (sealF a0 a1 a2 a3).1.size = a3.size + 16 ∧ bys (sealF a0 a1 a2 a3).1 = streamL (bys a0) (bys a1) 1 (bys a3) ++ tagL (bys a0) (bys a1) (bys a2) (streamL (bys a0) (bys a1) 1 (bys a3)) := by
  have hsz : (sealF a0 a1 a2 a3).1.size = a3.size + 16 := by
    unfold sealF
    rw [if_pos h, txt_size, List.length_append, streamL_length, tagL_length, bys_length]
  have hb : bys (sealF a0 a1 a2 a3).1 = streamL (bys a0) (bys a1) 1 (bys a3) ++ tagL (bys a0) (bys a1) (bys a2) (streamL (bys a0) (bys a1) 1 (bys a3)) := by
    unfold sealF
    rw [if_pos h]
    refine bys_txt ?_
    intro x hx
    rw [List.mem_append] at hx
    rcases hx with hx | hx
    · exact streamL_lt _ _ _ _ (bys_lt' _) x hx
    · exact tagL_lt _ _ _ _ x hx
  refine ⟨?_, by unfold sealF; rw [if_pos h], hsz, hb⟩
  obtain ⟨k0, k1, k2, k3⟩ := h
  have hl : (streamL (bys a0) (bys a1) 1 (bys a3)).length = a3.size := by rw [streamL_length, bys_length]
  unfold openF
  rw [hsz, Nat.add_sub_cancel, if_pos ⟨k0, k1, k2, k3⟩, if_neg (by omega), hb, List.take_left' hl, List.drop_left' hl, if_pos rfl, streamL_twice, txt_bys]
end Go.Proofs.Ytmablneefndedaa.Pr
end

section
namespace Go.Proofs.Ytmablneefndedaa.Pr
open Go.RowKit Go.Proofs.YtmablneefndedaaW.PrintWords Go.Proofs.YtmablneefndedaaW.PrintLast Go.Proofs.YtmablneefndedaaW.PrintMore
attribute [local go_sem] max2_int min2_int max_two min_two max_three min_three max_four min_four   -- for this text's walks alone
set_option linter.unusedVariables false
set_option linter.unusedSimpArgs false
def word_Same.l0 : Nat → ByteArray → ByteArray → Int → Int → Int → Option (Bool)
  | 0, _, _, _, _, _ => none
  | k + 1, x0, x1, x5, x13, x14 => if x14 < x13 then (if 0 ≤ x14 then (if x14 < (x0.size : Int) then (if x14 < (x1.size : Int) then (word_Same.l0 k x0 x1 (Go.bits .or .u8 x5 (Go.bits .xor .u8 (bt x0 x14) (bt x1 x14))) x13 (wrap64 (x14 + 1))) else (none)) else (none)) else (none)) else (some (x5 == 0))
def word_Same.f (k : Nat) (a0 : ByteArray) (a1 : ByteArray) : Option (Bool) := if (a0.size : Int) = (a1.size : Int) then (word_Same.l0 k a0 a1 0 (a0.size : Int) 0) else (some false)
theorem word_Same.mono_l : ∀ k, (∀ y0 y1 y2 y3 y4, LeO (word_Same.l0 k y0 y1 y2 y3 y4) (word_Same.l0 (k + 1) y0 y1 y2 y3 y4))
  | 0 => fun _ _ _ _ _ r h => by simp [word_Same.l0] at h
  | k + 1 => by
    have ih0 := word_Same.mono_l k
    · intro y0 y1 y2 y3 y4
      unfold word_Same.l0
      repeat' first
      | (with_reducible exact ih0 _ _ _ _ _)
      | (with_reducible exact LeO.refl _)
      | (with_reducible exact LeO.none _)
      | (with_reducible refine LeO.ite ?_ ?_)
      | (with_reducible refine LeO.bind ?_ (fun _ => ?_))
      | exact ih0 _ _ _ _ _
      | exact LeO.none _
      | refine LeO.ite ?_ ?_
      | refine LeO.bind ?_ (fun _ => ?_)
set_option maxHeartbeats 8000000 in
set_option maxRecDepth 100000 in
theorem word_Same.calls (k : Nat) (a0 : ByteArray) (a1 : ByteArray) (r : Bool) (w : World) (h : word_Same.f k a0 a1 = some r) :
    Calls Try.prog 33 #[.string a0, .string a1] w fun e w' => e = .returned (.bool r) ∧ Drawn0 w w' := by
  have H : (if (a0.size : Int) = (a1.size : Int) then (word_Same.l0 k a0 a1 0 (a0.size : Int) 0) else (some false)) = some r := h
  clear h
  by_cases c3 : (a0.size : Int) = (a1.size : Int)
  · rw [if_pos c3] at H
    have c3b0 : ((a0.size : Int) == (a1.size : Int)) = true := beq_iff_eq.mpr c3
    have c3b1 : ((a0.size : Int) != (a1.size : Int)) = false := bne_eq_false_iff_eq.mpr c3
    have c3b2 : (a0.size == a1.size) = true := by first | simpa using c3 | (simp at c3 ⊢; omega)
    clear c3
    have H' := Aside0.mk H
    clear H
    go_enter Try.func33, Try.ntmps33
    go_wp2
    repeat (go_quiet (fail); try go_wp2)
    go_loopg [5, 14] k (fun kq v5 v14 w' => ∃ (x5_1 : Int) (x14_1 : Int), v5 = .int .u8 x5_1 ∧ v14 = .int .i64 x14_1 ∧ Aside0 (word_Same.l0 kq a0 a1 x5_1 (a0.size : Int) x14_1 = some r) ∧ Aside0 (kq ≤ k) ∧ Drawn0 w w')
    case atStart => exact ⟨(0), (0), (by first | rfl | (simp; done) | (simp [*]; done)), (by first | rfl | (simp; done) | (simp [*]; done)), H', ⟨Nat.le_refl _⟩, by repeat (first | exact Drawn0.refl _ | apply Drawn0.step)⟩
    case round =>
      clear H'
      try clear p2
      try clear c3
      try clear c3b0
      try clear c3b1
      try clear c3b2
      obtain ⟨x5_1, x14_1, rfl, rfl, HA, HK1, ⟨m1, rfl⟩⟩ := hrel
      cases gk with
      | zero => exact absurd HA.out (by simp [word_Same.l0])
      | succ k1 =>
        have H := HA.out
        clear HA
        simp only [word_Same.l0] at H
        by_cases c4 : x14_1 < (a0.size : Int)
        · rw [if_pos c4] at H
          have c4b0 : decide (x14_1 < (a0.size : Int)) = true := decide_eq_true c4
          clear c4
          by_cases c5 : 0 ≤ x14_1
          · rw [if_pos c5] at H
            have c5b0 : decide (0 ≤ x14_1) = true := decide_eq_true c5
            clear c5
            by_cases c6 : x14_1 < (a0.size : Int)
            · rw [if_pos c6] at H
              have c6b0 : decide (x14_1 < (a0.size : Int)) = true := decide_eq_true c6
              clear c6
              by_cases c8 : x14_1 < (a1.size : Int)
              · rw [if_pos c8] at H
                have c8b0 : decide (x14_1 < (a1.size : Int)) = true := decide_eq_true c8
                clear c8
                have H' := Aside0.mk H
                clear H
                have p7 : 0 ≤ (x14_1 : Int) := of_decide_eq_true (by first | (with_reducible assumption) | assumption)
                have q7 : x14_1 < (a0.size : Int) := of_decide_eq_true (by first | (with_reducible assumption) | assumption)
                have hx7 := bt_at a0 x14_1
                replace p7 := eq_true p7
                replace q7 := eq_true q7
                have p9 : 0 ≤ (x14_1 : Int) := of_decide_eq_true (by first | (with_reducible assumption) | assumption)
                have q9 : x14_1 < (a1.size : Int) := of_decide_eq_true (by first | (with_reducible assumption) | assumption)
                have hx9 := bt_at a1 x14_1
                replace p9 := eq_true p9
                replace q9 := eq_true q9
                go_wp2
                repeat (go_quiet (fail); try go_wp2)
                go_roundg k1
                case measure => have := HK1.out; omega
                case rel => exact ⟨(Go.bits .or .u8 x5_1 (Go.bits .xor .u8 (bt a0 x14_1) (bt a1 x14_1))), (wrap64 (x14_1 + 1)), (by first | rfl | (simp; done) | (simp [*]; done)), (by first | rfl | (simp; done) | (simp [*]; done)), H', ⟨by have := HK1.out; omega⟩, by repeat (first | exact Drawn0.refl _ | apply Drawn0.step)⟩
              · rw [if_neg c8] at H
                exact absurd H (by simp)
            · rw [if_neg c6] at H
              exact absurd H (by simp)
          · rw [if_neg c5] at H
            exact absurd H (by simp)
        · rw [if_neg c4] at H
          have c4b0 : decide (x14_1 < (a0.size : Int)) = false := decide_eq_false c4
          clear c4
          obtain rfl := Option.some.inj H
          go_wp2
          repeat (go_quiet (fail); try go_wp2)
          go_ret
          exact ⟨by first | rfl | (simp; done) | (simp [*]; done), by repeat (first | exact Drawn0.refl _ | apply Drawn0.step)⟩
  · rw [if_neg c3] at H
    have c3b0 : ((a0.size : Int) == (a1.size : Int)) = false := beq_eq_false_iff_ne.mpr c3
    have c3b1 : ((a0.size : Int) != (a1.size : Int)) = true := bne_iff_ne.mpr c3
    have c3b2 : (a0.size == a1.size) = false := by first | simpa using c3 | (simp at c3 ⊢; omega)
    obtain rfl := Option.some.inj H
    go_enter Try.func33, Try.ntmps33
    go_wp2
    repeat (go_quiet (fail); try go_wp2)
    go_ret
    exact ⟨by first | rfl | (simp; done) | (simp [*]; done), by repeat (first | exact Drawn0.refl _ | apply Drawn0.step)⟩
end Go.Proofs.Ytmablneefndedaa.Pr
end

section
namespace Go.Proofs.Ytmablneefndedaa.Pr
open Go.RowKit Go.Deep Go.Proofs.YtmablneefndedaaW.PrintWords Go.Proofs.YtmablneefndedaaW.PrintLast Go.Proofs.YtmablneefndedaaW.PrintMore
set_option maxHeartbeats 1000000
set_option linter.unusedVariables false
set_option linter.unusedSimpArgs false
theorem same_loop (x y : ByteArray) (n : Nat) (hx : x.size = n) (hy : y.size = n) (hn : n ≤ 1000000000000) : ∀ (d i acc : Nat), i + d = n → acc < 256 → (acc = 0 ↔ (bys x).take i = (bys y).take i) →
    word_Same.l0 (d + 1) x y (acc : Int) (n : Int) (i : Int) = some (decide (bys x = bys y))
  | 0, i, acc, h, ha, hr => by
    rw [word_Same.l0, if_neg (by omega)]
    rw [List.take_of_length_le (by rw [bys_length]; omega), List.take_of_length_le (by rw [bys_length]; omega)] at hr
    congr 1
    by_cases hc : acc = 0
    · rw [decide_eq_true (hr.1 hc), hc]
      rfl
    · rw [decide_eq_false (fun h => hc (hr.2 h)), beq_eq_false_iff_ne]
      omega
  | d + 1, i, acc, h, ha, hr => by
    have hw : wrap64 ((i : Int) + 1) = ((i + 1 : Nat) : Int) := by rw [wrapN _ (by omega) (by omega)]; omega
    have hxi : i < (bys x).length := by rw [bys_length]; omega
    have hyi : i < (bys y).length := by rw [bys_length]; omega
    have hxor : (bys x).getD i 0 ^^^ (bys y).getD i 0 < 256 := Nat.xor_lt_two_pow (n := 8) (bys_lt x i) (bys_lt y i)
    rw [word_Same.l0, if_pos (by omega), if_pos (by omega), if_pos (by omega), if_pos (by omega), bt_nat _ _ (by omega), bt_nat _ _ (by omega), u8_xor_nat _ _ (bys_lt _ _) (bys_lt _ _), u8_or_nat _ _ ha hxor, hw]
    refine same_loop x y n hx hy hn d (i + 1) _ (by omega) (Nat.or_lt_two_pow (n := 8) ha hxor) ?_
    rw [or_zero, xor_zero, hr, List.take_succ_eq_append_getElem hxi, List.take_succ_eq_append_getElem hyi]
    have e1 : (bys x).getD i 0 = (bys x)[i] := by simp [hxi]
    have e2 : (bys y).getD i 0 = (bys y)[i] := by simp [hyi]
    rw [e1, e2]
    constructor
    · rintro ⟨h1, h2⟩
      rw [h1, h2]
    · intro h
      have := List.append_inj' h rfl
      exact ⟨this.1, by simpa using this.2⟩
theorem word_Same_f (x y : ByteArray) (hx : x.size ≤ 1000000000000) (k : Nat) (hk : x.size + 1 ≤ k) : word_Same.f k x y = some (decide (bys x = bys y)) := by
  unfold word_Same.f
  by_cases hc : x.size = y.size
  · rw [if_pos (by omega)]
    have h0 := same_loop x y x.size rfl hc.symm hx x.size 0 0 (by omega) (by decide) (by simp)
    have h1 : ∀ j, x.size + 1 ≤ j → word_Same.l0 j x y 0 (x.size : Int) 0 = some (decide (bys x = bys y)) := by
      intro j hj
      induction hj with
      | refl => exact h0
      | step _ ih => exact word_Same.mono_l _ _ _ _ _ _ _ ih
    exact h1 k hk
  · rw [if_neg (by omega), decide_eq_false]
    intro h
    apply hc
    rw [← bys_length, ← bys_length, h]
end Go.Proofs.Ytmablneefndedaa.Pr
end

section
namespace Go.Proofs.Ytmablneefndedaa.Pr
open Go.RowKit Go.Deep Go.Proofs.YtmablneefndedaaW.PrintWords Go.Proofs.YtmablneefndedaaW.PrintLast Go.Proofs.YtmablneefndedaaW.PrintMore
set_option maxHeartbeats 2000000
set_option linter.unusedVariables false
set_option linter.unusedSimpArgs false
def aead_Open.f (a0 a1 a2 a3 : ByteArray) : Option (ByteArray × Int) :=
  if a2.size ≤ 1000000000000000 ∧ a3.size ≤ 1000000000000000 then some (openF a0 a1 a2 a3) else none
theorem aead_Open_f (a0 a1 a2 a3 : ByteArray) (h2 : a2.size ≤ 1000000000000000) (h3 : a3.size ≤ 1000000000000000) : aead_Open.f a0 a1 a2 a3 = some (openF a0 a1 a2 a3) := if_pos ⟨h2, h3⟩
set_option maxRecDepth 100000 in
theorem aead_Open.short (a0 a1 a2 a3 : ByteArray) (w : World) (h2 : a2.size ≤ 1000000000000000) (h3 : a3.size < 16) :
    Calls Try.prog 15 #[.string a0, .string a1, .string a2, .string a3] w fun e w' => e = .returned (.tuple #[.string (openF a0 a1 a2 a3).1, .int .i64 (openF a0 a1 a2 a3).2]) ∧ Below w.heap.size w w' := by
  have hm0 : a3.size - 16 = 0 := by omega
  have HMay := Aside0.mk (fun W => aead_may.calls a0 a1 (a2.size : Int) 0 _ W (aead_may_f a0 a1 a2.size 0 h2 (by omega)))
  have HO : Aside0 (openF a0 a1 a2 a3 = if aeadOK a0 a1 a2.size 0 then (⟨#[]⟩, 70) else (⟨#[]⟩, 1)) := ⟨by
    unfold openF
    rw [hm0, if_pos h3]⟩
  have hmx : max ((a3.size : Int) - 16) 0 = 0 := by omega
  have t1 : decide ((a3.size : Int) - 16 < 0) = true := decide_eq_true (by omega)
  rw [HO.out]
  clear h2 hm0
  by_cases hc : aeadOK a0 a1 a2.size 0
  · have hd : decide (aeadOK a0 a1 a2.size 0) = true := decide_eq_true hc
    rw [if_pos hc]
    have HD := Aside0.mk hd
    clear hc hd
    go_enter Try.func15, Try.ntmps15
    go_wp2_with (fail)
    refine (HMay.out _).mono ?_
    rw [HD.out]
    rintro e w1 ⟨rfl, ⟨n1, rfl⟩⟩
    go_upto_region 4 with (fail)
    refine start_ (n := 17) (S := fun w' => True) (ds := []) #[false, false, false, false, false, false, false, false, false, false, false, false, false, false, false, false, false] (by kernel_rfl) rfl rfl trivial (fun hHeld => ?_)
    refine pure_ (i := 0) (N := some 26) (v := ?_) (a' := ?_) #[true, false, false, false, false, false, false, false, false, false, false, false, false, false, false, false, false] rfl rfl (by kernel_rfl) (fun _ _ _ h => h) (Or.inl ⟨by rfl, ?_⟩) ?_ ?_
    rotate_left
    · intro w'
      go_simp
      with_reducible rfl
    rotate_left
    · simp only [Act.put, List.setIfInBounds_toArray, List.set_cons_zero, List.set_cons_succ, i64_w, i32_w]
      rfl
    refine pure_ (i := 1) (N := some 27) (v := ?_) (a' := ?_) #[true, true, false, false, false, false, false, false, false, false, false, false, false, false, false, false, false] rfl rfl (by kernel_rfl) (fun _ _ _ h => h) (Or.inl ⟨by rfl, ?_⟩) ?_ ?_
    rotate_left
    · intro w'
      go_simp
      with_reducible rfl
    rotate_left
    · simp only [Act.put, List.setIfInBounds_toArray, List.set_cons_zero, List.set_cons_succ, i64_w, i32_w]
      rfl
    refine pure_ (i := 2) (N := some 28) (v := ?_) (a' := ?_) #[true, true, true, false, false, false, false, false, false, false, false, false, false, false, false, false, false] rfl rfl (by kernel_rfl) (fun _ _ _ h => h) (Or.inl ⟨by rfl, ?_⟩) ?_ ?_
    rotate_left
    · intro w'
      go_simp
      with_reducible rfl
    rotate_left
    · simp only [Act.put, List.setIfInBounds_toArray, List.set_cons_zero, List.set_cons_succ, i64_w, i32_w]
      rfl
    refine pure_ (i := 3) (N := some 29) (v := undef) (a' := ?_) #[true, true, true, true, false, false, false, false, false, false, false, false, false, false, false, false, false] rfl rfl (by kernel_rfl) (fun _ _ _ h => h) (Or.inr ⟨by rfl, rfl⟩) ?_ ?_
    rotate_left
    · simp only [Act.put, List.setIfInBounds_toArray, List.set_cons_zero, List.set_cons_succ, i64_w, i32_w]
      rfl
    refine pure_ (i := 4) (N := some 30) (v := undef) (a' := ?_) #[true, true, true, true, true, false, false, false, false, false, false, false, false, false, false, false, false] rfl rfl (by kernel_rfl) (fun _ _ _ h => h) (Or.inr ⟨by rfl, rfl⟩) ?_ ?_
    rotate_left
    · simp only [Act.put, List.setIfInBounds_toArray, List.set_cons_zero, List.set_cons_succ, i64_w, i32_w]
      rfl
    refine pure_ (i := 5) (N := some 31) (v := undef) (a' := ?_) #[true, true, true, true, true, true, false, false, false, false, false, false, false, false, false, false, false] rfl rfl (by kernel_rfl) (fun _ _ _ h => h) (Or.inr ⟨by rfl, rfl⟩) ?_ ?_
    rotate_left
    · simp only [Act.put, List.setIfInBounds_toArray, List.set_cons_zero, List.set_cons_succ, i64_w, i32_w]
      rfl
    refine pure_ (i := 6) (N := some 32) (v := undef) (a' := ?_) #[true, true, true, true, true, true, true, false, false, false, false, false, false, false, false, false, false] rfl rfl (by kernel_rfl) (fun _ _ _ h => h) (Or.inr ⟨by rfl, rfl⟩) ?_ ?_
    rotate_left
    · simp only [Act.put, List.setIfInBounds_toArray, List.set_cons_zero, List.set_cons_succ, i64_w, i32_w]
      rfl
    refine pure_ (i := 7) (N := some 33) (v := undef) (a' := ?_) #[true, true, true, true, true, true, true, true, false, false, false, false, false, false, false, false, false] rfl rfl (by kernel_rfl) (fun _ _ _ h => h) (Or.inr ⟨by rfl, rfl⟩) ?_ ?_
    rotate_left
    · simp only [Act.put, List.setIfInBounds_toArray, List.set_cons_zero, List.set_cons_succ, i64_w, i32_w]
      rfl
    refine pure_ (i := 8) (N := some 34) (v := undef) (a' := ?_) #[true, true, true, true, true, true, true, true, true, false, false, false, false, false, false, false, false] rfl rfl (by kernel_rfl) (fun _ _ _ h => h) (Or.inr ⟨by rfl, rfl⟩) ?_ ?_
    rotate_left
    · simp only [Act.put, List.setIfInBounds_toArray, List.set_cons_zero, List.set_cons_succ, i64_w, i32_w]
      rfl
    refine pure_ (i := 9) (N := some 35) (v := undef) (a' := ?_) #[true, true, true, true, true, true, true, true, true, true, false, false, false, false, false, false, false] rfl rfl (by kernel_rfl) (fun _ _ _ h => h) (Or.inr ⟨by rfl, rfl⟩) ?_ ?_
    rotate_left
    · simp only [Act.put, List.setIfInBounds_toArray, List.set_cons_zero, List.set_cons_succ, i64_w, i32_w]
      rfl
    refine pure_ (i := 10) (N := some 36) (v := undef) (a' := ?_) #[true, true, true, true, true, true, true, true, true, true, true, false, false, false, false, false, false] rfl rfl (by kernel_rfl) (fun _ _ _ h => h) (Or.inr ⟨by rfl, rfl⟩) ?_ ?_
    rotate_left
    · simp only [Act.put, List.setIfInBounds_toArray, List.set_cons_zero, List.set_cons_succ, i64_w, i32_w]
      rfl
    refine pure_ (i := 11) (N := some 37) (v := undef) (a' := ?_) #[true, true, true, true, true, true, true, true, true, true, true, true, false, false, false, false, false] rfl rfl (by kernel_rfl) (fun _ _ _ h => h) (Or.inr ⟨by rfl, rfl⟩) ?_ ?_
    rotate_left
    · simp only [Act.put, List.setIfInBounds_toArray, List.set_cons_zero, List.set_cons_succ, i64_w, i32_w]
      rfl
    refine pure_ (i := 12) (N := some 38) (v := undef) (a' := ?_) #[true, true, true, true, true, true, true, true, true, true, true, true, true, false, false, false, false] rfl rfl (by kernel_rfl) (fun _ _ _ h => h) (Or.inr ⟨by rfl, rfl⟩) ?_ ?_
    rotate_left
    · simp only [Act.put, List.setIfInBounds_toArray, List.set_cons_zero, List.set_cons_succ, i64_w, i32_w]
      rfl
    refine pure_ (i := 13) (N := some 39) (v := undef) (a' := ?_) #[true, true, true, true, true, true, true, true, true, true, true, true, true, true, false, false, false] rfl rfl (by kernel_rfl) (fun _ _ _ h => h) (Or.inr ⟨by rfl, rfl⟩) ?_ ?_
    rotate_left
    · simp only [Act.put, List.setIfInBounds_toArray, List.set_cons_zero, List.set_cons_succ, i64_w, i32_w]
      rfl
    refine pure_ (i := 14) (N := some 40) (v := undef) (a' := ?_) #[true, true, true, true, true, true, true, true, true, true, true, true, true, true, true, false, false] rfl rfl (by kernel_rfl) (fun _ _ _ h => h) (Or.inr ⟨by rfl, rfl⟩) ?_ ?_
    rotate_left
    · simp only [Act.put, List.setIfInBounds_toArray, List.set_cons_zero, List.set_cons_succ, i64_w, i32_w]
      rfl
    refine pure_ (i := 15) (N := some 41) (v := ?_) (a' := ?_) #[true, true, true, true, true, true, true, true, true, true, true, true, true, true, true, true, false] rfl rfl (by kernel_rfl) (fun _ _ _ h => h) (Or.inl ⟨by rfl, ?_⟩) ?_ ?_
    rotate_left
    · intro w'
      go_simp
      with_reducible rfl
    rotate_left
    · simp only [Act.put, List.setIfInBounds_toArray, List.set_cons_zero, List.set_cons_succ, i64_w, i32_w]
      rfl
    refine pure_ (i := 16) (N := some 25) (v := ?_) (a' := ?_) #[true, true, true, true, true, true, true, true, true, true, true, true, true, true, true, true, true] rfl rfl (by kernel_rfl) (fun _ _ _ h => h) (Or.inl ⟨by rfl, ?_⟩) ?_ ?_
    rotate_left
    · intro w'
      go_simp
      with_reducible rfl
    rotate_left
    · simp only [Act.put, List.setIfInBounds_toArray, List.set_cons_zero, List.set_cons_succ, i64_w, i32_w]
      rfl
    refine done_ (by kernel_rfl) ?_
    go_wp2
    go_ret2
    exact ⟨rfl, below_drew (pw_below_drewN (Below.refl _ w) _)⟩
  · have hd : decide (aeadOK a0 a1 a2.size 0) = false := decide_eq_false hc
    rw [if_neg hc]
    have HD := Aside0.mk hd
    clear hc hd
    go_enter Try.func15, Try.ntmps15
    go_wp2_with (fail)
    refine (HMay.out _).mono ?_
    rw [HD.out]
    rintro e w1 ⟨rfl, ⟨n1, rfl⟩⟩
    go_wp2
    go_ret2
    exact ⟨rfl, pw_below_drewN (Below.refl _ w) _⟩
set_option maxRecDepth 100000 in
theorem aead_Open.long (a0 a1 a2 a3 : ByteArray) (q : Nat) (w : World) (h2 : a2.size ≤ 1000000000000000) (h3 : a3.size ≤ 1000000000000000) (hq : a3.size = q + 16) :
    Calls Try.prog 15 #[.string a0, .string a1, .string a2, .string a3] w fun e w' => e = .returned (.tuple #[.string (openF a0 a1 a2 a3).1, .int .i64 (openF a0 a1 a2 a3).2]) ∧ Below w.heap.size w w' := by
  have hm0 : a3.size - 16 = q := by omega
  have HMay := Aside0.mk (fun W => aead_may.calls a0 a1 (a2.size : Int) (q : Int) _ W (aead_may_f a0 a1 a2.size q h2 (by omega)))
  have hxs : (a3.extract 0 q).size = q := by rw [ByteArray.size_extract]; omega
  have hxb : bys (a3.extract 0 q) = (bys a3).take q := by rw [bys_extract]; rfl
  have hyb : bys (a3.extract q a3.size) = (bys a3).drop q := by
    rw [bys_extract, List.take_of_length_le (by rw [List.length_drop, bys_length]; omega)]
  have HO : Aside0 (openF a0 a1 a2 a3 = if aeadOK a0 a1 a2.size q then (if tagL (bys a0) (bys a1) (bys a2) ((bys a3).take q) = (bys a3).drop q then (txt (streamL (bys a0) (bys a1) 1 ((bys a3).take q)), 0) else (⟨#[]⟩, 70)) else (⟨#[]⟩, 1)) := ⟨by
    unfold openF
    rw [hm0, if_neg (show ¬ a3.size < 16 by omega)]⟩
  have hmx : max ((a3.size : Int) - 16) 0 = (q : Int) := by omega
  have hn : (a3.size : Int) - 16 = (q : Int) := by omega
  have HMX := Aside0.mk hmx
  have HN := Aside0.mk hn
  have t1 : decide ((q : Int) < 0) = false := decide_eq_false (by omega)
  rw [HO.out]
  have hmq : max (q : Int) 0 = (q : Int) := by omega
  have HQ := Aside0.mk hq
  have hq1 : (q : Int) ≤ (a3.size : Int) := by omega
  clear h2 hm0 hmx hn
  by_cases hc : aeadOK a0 a1 a2.size q
  · have hd : decide (aeadOK a0 a1 a2.size q) = true := decide_eq_true hc
    rw [if_pos hc]
    have HD := Aside0.mk hd
    obtain ⟨k0, k1, k2, k3⟩ := hc
    have htg := fun W => aead_tag.yes a0 a1 a2 (a3.extract 0 q) W k0 k1 (by rw [hxs]; omega)
    rw [hxb] at htg
    have hTs : (txt (tagL (bys a0) (bys a1) (bys a2) ((bys a3).take q))).size = 16 := by rw [txt_size, tagL_length]
    have hTb : bys (txt (tagL (bys a0) (bys a1) (bys a2) ((bys a3).take q))) = tagL (bys a0) (bys a1) (bys a2) ((bys a3).take q) := bys_txt (tagL_lt _ _ _ _)
    have hsm := fun W => word_Same.calls 17 (txt (tagL (bys a0) (bys a1) (bys a2) ((bys a3).take q))) (a3.extract q a3.size) _ W (word_Same_f _ _ (by rw [hTs]; decide) 17 (by rw [hTs]; decide))
    rw [hTb, hyb] at hsm
    have hst := fun W => chacha_Stream.yes a0 a1 (a3.extract 0 q) 1 W k0 k1 (by decide) (by rw [hxs]; omega) (by rw [hxs]; omega)
    rw [hxb] at hst
    have HST := Aside0.mk hst
    have HTG := Aside0.mk htg
    generalize txt (tagL (bys a0) (bys a1) (bys a2) ((bys a3).take q)) = T at HTG hsm hTs hTb
    clear hq
    by_cases ht : tagL (bys a0) (bys a1) (bys a2) ((bys a3).take q) = (bys a3).drop q
    · have hd2 : decide (tagL (bys a0) (bys a1) (bys a2) ((bys a3).take q) = (bys a3).drop q) = true := decide_eq_true ht
      rw [if_pos ht]
      simp only [hd2] at hsm
      have HSM := Aside0.mk hsm
      clear hd2 ht hsm htg hst hTs hTb hd hxs hxb hyb
      go_enter Try.func15, Try.ntmps15
      go_upto_region 2 with (fail)
      rw [HN.out]
      go_wp2_with (fail)
      refine (HMay.out _).mono ?_
      rw [HD.out]
      rintro e w1 ⟨rfl, ⟨n1, rfl⟩⟩
      go_upto_region 4 with (fail)
      refine start_ (n := 17) (S := fun w' => True) (ds := []) #[false, false, false, false, false, false, false, false, false, false, false, false, false, false, false, false, false] (by kernel_rfl) rfl rfl trivial (fun hHeld => ?_)
      refine pure_ (i := 0) (N := some 26) (v := ?_) (a' := ?_) #[true, false, false, false, false, false, false, false, false, false, false, false, false, false, false, false, false] rfl rfl (by kernel_rfl) (fun _ _ _ h => h) (Or.inl ⟨by rfl, ?_⟩) ?_ ?_
      rotate_left
      · intro w'
        go_simp
        with_reducible rfl
      rotate_left
      · simp only [Act.put, List.setIfInBounds_toArray, List.set_cons_zero, List.set_cons_succ, i64_w, i32_w]
        rfl
      refine pure_ (i := 1) (N := some 27) (v := ?_) (a' := ?_) #[true, true, false, false, false, false, false, false, false, false, false, false, false, false, false, false, false] rfl rfl (by kernel_rfl) (fun _ _ _ h => h) (Or.inl ⟨by rfl, ?_⟩) ?_ ?_
      rotate_left
      · intro w'
        go_simp
        with_reducible rfl
      rotate_left
      · simp only [Act.put, List.setIfInBounds_toArray, List.set_cons_zero, List.set_cons_succ, i64_w, i32_w]
        rfl
      refine pure_ (i := 2) (N := some 28) (v := ?_) (a' := ?_) #[true, true, true, false, false, false, false, false, false, false, false, false, false, false, false, false, false] rfl rfl (by kernel_rfl) (fun _ _ _ h => h) (Or.inl ⟨by rfl, ?_⟩) ?_ ?_
      rotate_left
      · intro w'
        go_simp
        with_reducible rfl
      rotate_left
      · simp only [Act.put, List.setIfInBounds_toArray, List.set_cons_zero, List.set_cons_succ, i64_w, i32_w]
        rfl
      refine pure_ (i := 3) (N := some 29) (v := ?_) (a' := ?_) #[true, true, true, true, false, false, false, false, false, false, false, false, false, false, false, false, false] rfl rfl (by kernel_rfl) (fun _ _ _ h => h) (Or.inl ⟨by rfl, ?_⟩) ?_ ?_
      rotate_left
      · intro w'
        go_simp
        with_reducible rfl
      rotate_left
      · simp only [Act.put, List.setIfInBounds_toArray, List.set_cons_zero, List.set_cons_succ, i64_w, i32_w]
        rfl
      refine pure_ (i := 4) (N := some 30) (v := ?_) (a' := ?_) #[true, true, true, true, true, false, false, false, false, false, false, false, false, false, false, false, false] rfl rfl (by kernel_rfl) (fun _ _ _ h => h) (Or.inl ⟨by rfl, ?_⟩) ?_ ?_
      rotate_left
      · intro w'
        go_simp
        with_reducible rfl
      rotate_left
      · simp only [Act.put, List.setIfInBounds_toArray, List.set_cons_zero, List.set_cons_succ, i64_w, i32_w]
        rfl
      refine pure_ (i := 5) (N := some 31) (v := ?_) (a' := ?_) #[true, true, true, true, true, true, false, false, false, false, false, false, false, false, false, false, false] rfl rfl (by kernel_rfl) (fun _ _ _ h => h) (Or.inl ⟨by rfl, ?_⟩) ?_ ?_
      rotate_left
      · intro w'
        go_simp
        with_reducible rfl
      rotate_left
      · simp only [Act.put, List.setIfInBounds_toArray, List.set_cons_zero, List.set_cons_succ, i64_w, i32_w]
        rfl
      refine pure_ (i := 6) (N := some 32) (v := ?_) (a' := ?_) #[true, true, true, true, true, true, true, false, false, false, false, false, false, false, false, false, false] rfl rfl (by kernel_rfl) (fun _ _ _ h => h) (Or.inl ⟨by rfl, ?_⟩) ?_ ?_
      rotate_left
      · intro w'
        go_simp
        with_reducible rfl
      rotate_left
      · simp only [Act.put, List.setIfInBounds_toArray, List.set_cons_zero, List.set_cons_succ, i64_w, i32_w]
        rfl
      refine pure_ (i := 7) (N := some 33) (v := ?_) (a' := ?_) #[true, true, true, true, true, true, true, true, false, false, false, false, false, false, false, false, false] rfl rfl (by kernel_rfl) (fun _ _ _ h => h) (Or.inl ⟨by rfl, ?_⟩) ?_ ?_
      rotate_left
      · intro w'
        go_simp
        with_reducible rfl
      rotate_left
      · simp only [Act.put, List.setIfInBounds_toArray, List.set_cons_zero, List.set_cons_succ, i64_w, i32_w]
        rfl
      refine pure_ (i := 8) (N := some 34) (v := ?_) (a' := ?_) #[true, true, true, true, true, true, true, true, true, false, false, false, false, false, false, false, false] rfl rfl (by kernel_rfl) (fun _ _ _ h => h) (Or.inl ⟨by rfl, ?_⟩) ?_ ?_
      rotate_left
      · intro w'
        go_simp
        with_reducible rfl
      rotate_left
      · simp only [Act.put, List.setIfInBounds_toArray, List.set_cons_zero, List.set_cons_succ, i64_w, i32_w]
        rfl
      refine pure_ (i := 10) (N := some 36) (v := ?_) (a' := ?_) #[true, true, true, true, true, true, true, true, true, false, true, false, false, false, false, false, false] rfl rfl (by kernel_rfl) (fun _ _ _ h => h) (Or.inl ⟨by rfl, ?_⟩) ?_ ?_
      rotate_left
      · intro w'
        go_simp
        with_reducible rfl
      rotate_left
      · simp only [Act.put, List.setIfInBounds_toArray, List.set_cons_zero, List.set_cons_succ, i64_w, i32_w]
        rfl
      refine pure_ (i := 11) (N := some 37) (v := ?_) (a' := ?_) #[true, true, true, true, true, true, true, true, true, false, true, true, false, false, false, false, false] rfl rfl (by kernel_rfl) (fun _ _ _ h => h) (Or.inl ⟨by rfl, ?_⟩) ?_ ?_
      rotate_left
      · intro w'
        go_simp
        with_reducible rfl
      rotate_left
      · simp only [Act.put, List.setIfInBounds_toArray, List.set_cons_zero, List.set_cons_succ, i64_w, i32_w]
        rfl
      refine pure_ (i := 12) (N := some 38) (v := ?_) (a' := ?_) #[true, true, true, true, true, true, true, true, true, false, true, true, true, false, false, false, false] rfl rfl (by kernel_rfl) (fun _ _ _ h => h) (Or.inl ⟨by rfl, ?_⟩) ?_ ?_
      rotate_left
      · intro w'
        go_simp
        with_reducible rfl
      rotate_left
      · simp only [Act.put, List.setIfInBounds_toArray, List.set_cons_zero, List.set_cons_succ, i64_w, i32_w]
        rfl
      refine one_ (i := 9) (N := some 35) #[true, true, true, true, true, true, true, true, true, true, true, true, true, false, false, false, false] rfl rfl (by kernel_rfl) (by decide) (fun K hK => ?_)
      refine goes_ Try.func29 (by kernel_rfl) rfl #[.string a0, .string a1, .string a2, .string (a3.extract 0 q)] (by rfl) rfl rfl (by simp only [List.map_toArray, List.map_cons, List.map_nil]; rfl) ?_
      with_reducible refine (HTG.out _).mono ?_
      rintro e w3 ⟨rfl, hb3⟩
      refine ⟨_, rfl, ?_⟩
      refine hK.out _ _ trivial (fun hHeld => ?_)
      clear hK K
      refine norm_ (a' := ?_) ?_ ?_
      rotate_left
      · show Act.put _ (some 35) _ = _
        simp only [Act.put, List.setIfInBounds_toArray, List.set_cons_zero, List.set_cons_succ, i64_w, i32_w]
        rfl
      refine one_ (i := 13) (N := some 39) #[true, true, true, true, true, true, true, true, true, true, true, true, true, true, false, false, false] rfl rfl (by kernel_rfl) (by decide) (fun K hK => ?_)
      refine goes_ Try.func33 (by kernel_rfl) rfl #[.string T, .string (a3.extract q a3.size)] (by rfl) rfl rfl (by simp only [List.map_toArray, List.map_cons, List.map_nil]; rfl) ?_
      with_reducible refine (HSM.out _).mono ?_
      rintro e w4 ⟨rfl, ⟨n4, rfl⟩⟩
      refine ⟨_, rfl, ?_⟩
      refine hK.out _ _ trivial (fun hHeld => ?_)
      clear hK K
      refine norm_ (a' := ?_) ?_ ?_
      rotate_left
      · show Act.put _ (some 39) _ = _
        simp only [Act.put, List.setIfInBounds_toArray, List.set_cons_zero, List.set_cons_succ, i64_w, i32_w]
        rfl
      refine pure_ (i := 14) (N := some 40) (v := ?_) (a' := ?_) #[true, true, true, true, true, true, true, true, true, true, true, true, true, true, true, false, false] rfl rfl (by kernel_rfl) (fun _ _ _ h => h) (Or.inl ⟨by rfl, ?_⟩) ?_ ?_
      rotate_left
      · intro w'
        go_simp
        with_reducible rfl
      rotate_left
      · simp only [Act.put, List.setIfInBounds_toArray, List.set_cons_zero, List.set_cons_succ, i64_w, i32_w]
        rfl
      refine pure_ (i := 15) (N := some 41) (v := ?_) (a' := ?_) #[true, true, true, true, true, true, true, true, true, true, true, true, true, true, true, true, false] rfl rfl (by kernel_rfl) (fun _ _ _ h => h) (Or.inl ⟨by rfl, ?_⟩) ?_ ?_
      rotate_left
      · intro w'
        go_simp
        with_reducible rfl
      rotate_left
      · simp only [Act.put, List.setIfInBounds_toArray, List.set_cons_zero, List.set_cons_succ, i64_w, i32_w]
        rfl
      refine pure_ (i := 16) (N := some 25) (v := ?_) (a' := ?_) #[true, true, true, true, true, true, true, true, true, true, true, true, true, true, true, true, true] rfl rfl (by kernel_rfl) (fun _ _ _ h => h) (Or.inl ⟨by rfl, ?_⟩) ?_ ?_
      rotate_left
      · intro w'
        go_simp
        with_reducible rfl
      rotate_left
      · simp only [Act.put, List.setIfInBounds_toArray, List.set_cons_zero, List.set_cons_succ, i64_w, i32_w]
        rfl
      refine done_ (by kernel_rfl) ?_
      go_wp2_with (fail)
      refine (HST.out _).mono ?_
      rintro e w5 ⟨rfl, hb5⟩
      have HBL : Aside0 (Below w.heap.size w w5) := ⟨below_then (pw_below_drewN (below_then (below_drew (pw_below_drewN (Below.refl _ w) n1)) (Nat.le_refl _) hb3) n4) hb3.size hb5⟩
      clear hb3 hb5 hHeld
      go_wp2
      go_ret2
      exact ⟨rfl, HBL.out⟩
    · have hd2 : decide (tagL (bys a0) (bys a1) (bys a2) ((bys a3).take q) = (bys a3).drop q) = false := decide_eq_false ht
      rw [if_neg ht]
      simp only [hd2] at hsm
      have HSM := Aside0.mk hsm
      clear hd2 ht hsm htg hst hTs hTb hd hxs hxb hyb
      go_enter Try.func15, Try.ntmps15
      go_upto_region 2 with (fail)
      rw [HN.out]
      go_wp2_with (fail)
      refine (HMay.out _).mono ?_
      rw [HD.out]
      rintro e w1 ⟨rfl, ⟨n1, rfl⟩⟩
      go_upto_region 4 with (fail)
      refine start_ (n := 17) (S := fun w' => True) (ds := []) #[false, false, false, false, false, false, false, false, false, false, false, false, false, false, false, false, false] (by kernel_rfl) rfl rfl trivial (fun hHeld => ?_)
      refine pure_ (i := 0) (N := some 26) (v := ?_) (a' := ?_) #[true, false, false, false, false, false, false, false, false, false, false, false, false, false, false, false, false] rfl rfl (by kernel_rfl) (fun _ _ _ h => h) (Or.inl ⟨by rfl, ?_⟩) ?_ ?_
      rotate_left
      · intro w'
        go_simp
        with_reducible rfl
      rotate_left
      · simp only [Act.put, List.setIfInBounds_toArray, List.set_cons_zero, List.set_cons_succ, i64_w, i32_w]
        rfl
      refine pure_ (i := 1) (N := some 27) (v := ?_) (a' := ?_) #[true, true, false, false, false, false, false, false, false, false, false, false, false, false, false, false, false] rfl rfl (by kernel_rfl) (fun _ _ _ h => h) (Or.inl ⟨by rfl, ?_⟩) ?_ ?_
      rotate_left
      · intro w'
        go_simp
        with_reducible rfl
      rotate_left
      · simp only [Act.put, List.setIfInBounds_toArray, List.set_cons_zero, List.set_cons_succ, i64_w, i32_w]
        rfl
      refine pure_ (i := 2) (N := some 28) (v := ?_) (a' := ?_) #[true, true, true, false, false, false, false, false, false, false, false, false, false, false, false, false, false] rfl rfl (by kernel_rfl) (fun _ _ _ h => h) (Or.inl ⟨by rfl, ?_⟩) ?_ ?_
      rotate_left
      · intro w'
        go_simp
        with_reducible rfl
      rotate_left
      · simp only [Act.put, List.setIfInBounds_toArray, List.set_cons_zero, List.set_cons_succ, i64_w, i32_w]
        rfl
      refine pure_ (i := 3) (N := some 29) (v := ?_) (a' := ?_) #[true, true, true, true, false, false, false, false, false, false, false, false, false, false, false, false, false] rfl rfl (by kernel_rfl) (fun _ _ _ h => h) (Or.inl ⟨by rfl, ?_⟩) ?_ ?_
      rotate_left
      · intro w'
        go_simp
        with_reducible rfl
      rotate_left
      · simp only [Act.put, List.setIfInBounds_toArray, List.set_cons_zero, List.set_cons_succ, i64_w, i32_w]
        rfl
      refine pure_ (i := 4) (N := some 30) (v := ?_) (a' := ?_) #[true, true, true, true, true, false, false, false, false, false, false, false, false, false, false, false, false] rfl rfl (by kernel_rfl) (fun _ _ _ h => h) (Or.inl ⟨by rfl, ?_⟩) ?_ ?_
      rotate_left
      · intro w'
        go_simp
        with_reducible rfl
      rotate_left
      · simp only [Act.put, List.setIfInBounds_toArray, List.set_cons_zero, List.set_cons_succ, i64_w, i32_w]
        rfl
      refine pure_ (i := 5) (N := some 31) (v := ?_) (a' := ?_) #[true, true, true, true, true, true, false, false, false, false, false, false, false, false, false, false, false] rfl rfl (by kernel_rfl) (fun _ _ _ h => h) (Or.inl ⟨by rfl, ?_⟩) ?_ ?_
      rotate_left
      · intro w'
        go_simp
        with_reducible rfl
      rotate_left
      · simp only [Act.put, List.setIfInBounds_toArray, List.set_cons_zero, List.set_cons_succ, i64_w, i32_w]
        rfl
      refine pure_ (i := 6) (N := some 32) (v := ?_) (a' := ?_) #[true, true, true, true, true, true, true, false, false, false, false, false, false, false, false, false, false] rfl rfl (by kernel_rfl) (fun _ _ _ h => h) (Or.inl ⟨by rfl, ?_⟩) ?_ ?_
      rotate_left
      · intro w'
        go_simp
        with_reducible rfl
      rotate_left
      · simp only [Act.put, List.setIfInBounds_toArray, List.set_cons_zero, List.set_cons_succ, i64_w, i32_w]
        rfl
      refine pure_ (i := 7) (N := some 33) (v := ?_) (a' := ?_) #[true, true, true, true, true, true, true, true, false, false, false, false, false, false, false, false, false] rfl rfl (by kernel_rfl) (fun _ _ _ h => h) (Or.inl ⟨by rfl, ?_⟩) ?_ ?_
      rotate_left
      · intro w'
        go_simp
        with_reducible rfl
      rotate_left
      · simp only [Act.put, List.setIfInBounds_toArray, List.set_cons_zero, List.set_cons_succ, i64_w, i32_w]
        rfl
      refine pure_ (i := 8) (N := some 34) (v := ?_) (a' := ?_) #[true, true, true, true, true, true, true, true, true, false, false, false, false, false, false, false, false] rfl rfl (by kernel_rfl) (fun _ _ _ h => h) (Or.inl ⟨by rfl, ?_⟩) ?_ ?_
      rotate_left
      · intro w'
        go_simp
        with_reducible rfl
      rotate_left
      · simp only [Act.put, List.setIfInBounds_toArray, List.set_cons_zero, List.set_cons_succ, i64_w, i32_w]
        rfl
      refine pure_ (i := 10) (N := some 36) (v := ?_) (a' := ?_) #[true, true, true, true, true, true, true, true, true, false, true, false, false, false, false, false, false] rfl rfl (by kernel_rfl) (fun _ _ _ h => h) (Or.inl ⟨by rfl, ?_⟩) ?_ ?_
      rotate_left
      · intro w'
        go_simp
        with_reducible rfl
      rotate_left
      · simp only [Act.put, List.setIfInBounds_toArray, List.set_cons_zero, List.set_cons_succ, i64_w, i32_w]
        rfl
      refine pure_ (i := 11) (N := some 37) (v := ?_) (a' := ?_) #[true, true, true, true, true, true, true, true, true, false, true, true, false, false, false, false, false] rfl rfl (by kernel_rfl) (fun _ _ _ h => h) (Or.inl ⟨by rfl, ?_⟩) ?_ ?_
      rotate_left
      · intro w'
        go_simp
        with_reducible rfl
      rotate_left
      · simp only [Act.put, List.setIfInBounds_toArray, List.set_cons_zero, List.set_cons_succ, i64_w, i32_w]
        rfl
      refine pure_ (i := 12) (N := some 38) (v := ?_) (a' := ?_) #[true, true, true, true, true, true, true, true, true, false, true, true, true, false, false, false, false] rfl rfl (by kernel_rfl) (fun _ _ _ h => h) (Or.inl ⟨by rfl, ?_⟩) ?_ ?_
      rotate_left
      · intro w'
        go_simp
        with_reducible rfl
      rotate_left
      · simp only [Act.put, List.setIfInBounds_toArray, List.set_cons_zero, List.set_cons_succ, i64_w, i32_w]
        rfl
      refine one_ (i := 9) (N := some 35) #[true, true, true, true, true, true, true, true, true, true, true, true, true, false, false, false, false] rfl rfl (by kernel_rfl) (by decide) (fun K hK => ?_)
      refine goes_ Try.func29 (by kernel_rfl) rfl #[.string a0, .string a1, .string a2, .string (a3.extract 0 q)] (by rfl) rfl rfl (by simp only [List.map_toArray, List.map_cons, List.map_nil]; rfl) ?_
      with_reducible refine (HTG.out _).mono ?_
      rintro e w3 ⟨rfl, hb3⟩
      refine ⟨_, rfl, ?_⟩
      refine hK.out _ _ trivial (fun hHeld => ?_)
      clear hK K
      refine norm_ (a' := ?_) ?_ ?_
      rotate_left
      · show Act.put _ (some 35) _ = _
        simp only [Act.put, List.setIfInBounds_toArray, List.set_cons_zero, List.set_cons_succ, i64_w, i32_w]
        rfl
      refine one_ (i := 13) (N := some 39) #[true, true, true, true, true, true, true, true, true, true, true, true, true, true, false, false, false] rfl rfl (by kernel_rfl) (by decide) (fun K hK => ?_)
      refine goes_ Try.func33 (by kernel_rfl) rfl #[.string T, .string (a3.extract q a3.size)] (by rfl) rfl rfl (by simp only [List.map_toArray, List.map_cons, List.map_nil]; rfl) ?_
      with_reducible refine (HSM.out _).mono ?_
      rintro e w4 ⟨rfl, ⟨n4, rfl⟩⟩
      refine ⟨_, rfl, ?_⟩
      refine hK.out _ _ trivial (fun hHeld => ?_)
      clear hK K
      refine norm_ (a' := ?_) ?_ ?_
      rotate_left
      · show Act.put _ (some 39) _ = _
        simp only [Act.put, List.setIfInBounds_toArray, List.set_cons_zero, List.set_cons_succ, i64_w, i32_w]
        rfl
      refine pure_ (i := 14) (N := some 40) (v := ?_) (a' := ?_) #[true, true, true, true, true, true, true, true, true, true, true, true, true, true, true, false, false] rfl rfl (by kernel_rfl) (fun _ _ _ h => h) (Or.inl ⟨by rfl, ?_⟩) ?_ ?_
      rotate_left
      · intro w'
        go_simp
        with_reducible rfl
      rotate_left
      · simp only [Act.put, List.setIfInBounds_toArray, List.set_cons_zero, List.set_cons_succ, i64_w, i32_w]
        rfl
      refine pure_ (i := 15) (N := some 41) (v := ?_) (a' := ?_) #[true, true, true, true, true, true, true, true, true, true, true, true, true, true, true, true, false] rfl rfl (by kernel_rfl) (fun _ _ _ h => h) (Or.inl ⟨by rfl, ?_⟩) ?_ ?_
      rotate_left
      · intro w'
        go_simp
        with_reducible rfl
      rotate_left
      · simp only [Act.put, List.setIfInBounds_toArray, List.set_cons_zero, List.set_cons_succ, i64_w, i32_w]
        rfl
      refine pure_ (i := 16) (N := some 25) (v := ?_) (a' := ?_) #[true, true, true, true, true, true, true, true, true, true, true, true, true, true, true, true, true] rfl rfl (by kernel_rfl) (fun _ _ _ h => h) (Or.inl ⟨by rfl, ?_⟩) ?_ ?_
      rotate_left
      · intro w'
        go_simp
        with_reducible rfl
      rotate_left
      · simp only [Act.put, List.setIfInBounds_toArray, List.set_cons_zero, List.set_cons_succ, i64_w, i32_w]
        rfl
      refine done_ (by kernel_rfl) ?_
      have HBL : Aside0 (Below w.heap.size w (w3.drewN n4)) := ⟨pw_below_drewN (below_then (below_drew (pw_below_drewN (Below.refl _ w) n1)) (Nat.le_refl _) hb3) n4⟩
      clear hb3 hHeld
      go_wp2
      go_ret2
      exact ⟨rfl, HBL.out⟩
  · have hd : decide (aeadOK a0 a1 a2.size q) = false := decide_eq_false hc
    rw [if_neg hc]
    have HD := Aside0.mk hd
    clear hc hd hxs hxb hyb hq
    go_enter Try.func15, Try.ntmps15
    go_upto_region 2 with (fail)
    rw [HN.out]
    go_wp2_with (fail)
    refine (HMay.out _).mono ?_
    rw [HD.out]
    rintro e w1 ⟨rfl, ⟨n1, rfl⟩⟩
    go_wp2
    go_ret2
    exact ⟨rfl, pw_below_drewN (Below.refl _ w) _⟩
theorem aead_Open.calls (a0 a1 a2 a3 : ByteArray) (r1 : ByteArray) (r2 : Int) (w : World) (h : aead_Open.f a0 a1 a2 a3 = some (r1, r2)) :
    Calls Try.prog 15 #[.string a0, .string a1, .string a2, .string a3] w fun e w' => e = .returned (.tuple #[.string r1, .int .i64 r2]) ∧ Below w.heap.size w w' := by
  unfold aead_Open.f at h
  by_cases hc : a2.size ≤ 1000000000000000 ∧ a3.size ≤ 1000000000000000
  · rw [if_pos hc] at h
    have h := Option.some.inj h
    have e1 : r1 = (openF a0 a1 a2 a3).1 := by rw [h]
    have e2 : r2 = (openF a0 a1 a2 a3).2 := by rw [h]
    rw [e1, e2]
    by_cases h16 : a3.size < 16
    · exact aead_Open.short a0 a1 a2 a3 w hc.1 h16
    · exact aead_Open.long a0 a1 a2 a3 (a3.size - 16) w hc.1 hc.2 (by omega)
  · rw [if_neg hc] at h
    cases h
end Go.Proofs.Ytmablneefndedaa.Pr
end

section
namespace Go.Proofs.Ytmablneefndedaa.Pr
open Go.RowKit Go.Proofs.YtmablneefndedaaW.PrintWords Go.Proofs.YtmablneefndedaaW.PrintLast Go.Proofs.YtmablneefndedaaW.PrintMore
attribute [local go_sem] max2_int min2_int max_two min_two max_three min_three max_four min_four   -- for this text's walks alone
set_option linter.unusedVariables false
set_option linter.unusedSimpArgs false
def aead_Seal.f (a0 : ByteArray) (a1 : ByteArray) (a2 : ByteArray) (a3 : ByteArray) : Option (ByteArray × Int) := (aead_may.f a0 a1 (a2.size : Int) (a3.size : Int)).bind fun t102 => (if t102 = true then ((chacha_Stream.f a0 a1 1 a3).bind fun bt103 => ((aead_tag.f a0 a1 a2 bt103.1).bind fun t105 => (if bt103.1.size + t105.size ≤ 9223372036854775807 then (some (bt103.1 ++ t105, 0)) else (none)))) else (some ((⟨#[]⟩ : ByteArray), 1)))
set_option maxHeartbeats 8000000 in
set_option maxRecDepth 100000 in
theorem aead_Seal.calls (a0 : ByteArray) (a1 : ByteArray) (a2 : ByteArray) (a3 : ByteArray) (r1 : ByteArray) (r2 : Int) (w : World) (h : aead_Seal.f a0 a1 a2 a3 = some (r1, r2)) :
    Calls Try.prog 13 #[.string a0, .string a1, .string a2, .string a3] w fun e w' => e = .returned (.tuple #[.string r1, .int .i64 r2]) ∧ Below w.heap.size w w' := by
  have HB := Aside0.mk (Below.refl w.heap.size w)
  have H : ((aead_may.f a0 a1 (a2.size : Int) (a3.size : Int)).bind fun t102 => (if t102 = true then ((chacha_Stream.f a0 a1 1 a3).bind fun bt103 => ((aead_tag.f a0 a1 a2 bt103.1).bind fun t105 => (if bt103.1.size + t105.size ≤ 9223372036854775807 then (some (bt103.1 ++ t105, 0)) else (none)))) else (some ((⟨#[]⟩ : ByteArray), 1)))) = some (r1, r2) := h
  clear h
  replace H := Option.bind_eq_some_iff.mp H
  obtain ⟨t102, A50, H⟩ := H
  replace H : (if t102 = true then ((chacha_Stream.f a0 a1 1 a3).bind fun bt103 => ((aead_tag.f a0 a1 a2 bt103.1).bind fun t105 => (if bt103.1.size + t105.size ≤ 9223372036854775807 then (some (bt103.1 ++ t105, 0)) else (none)))) else (some ((⟨#[]⟩ : ByteArray), 1))) = some (r1, r2) := H
  have A5 := Aside0.mk A50
  clear A50
  by_cases c6 : t102 = true
  · subst c6
    have H1 : ((chacha_Stream.f a0 a1 1 a3).bind fun bt103 => ((aead_tag.f a0 a1 a2 bt103.1).bind fun t105 => (if bt103.1.size + t105.size ≤ 9223372036854775807 then (some (bt103.1 ++ t105, 0)) else (none)))) = some (r1, r2) := by rw [if_pos rfl] at H; exact H
    clear H
    have H := H1
    clear H1
    replace H := Option.bind_eq_some_iff.mp H
    obtain ⟨⟨t103, t104⟩, A70, H⟩ := H
    replace H : ((aead_tag.f a0 a1 a2 t103).bind fun t105 => (if t103.size + t105.size ≤ 9223372036854775807 then (some (t103 ++ t105, 0)) else (none))) = some (r1, r2) := H
    have A7 := Aside0.mk A70
    clear A70
    replace H := Option.bind_eq_some_iff.mp H
    obtain ⟨t105, A80, H⟩ := H
    replace H : (if t103.size + t105.size ≤ 9223372036854775807 then (some (t103 ++ t105, 0)) else (none)) = some (r1, r2) := H
    have A8 := Aside0.mk A80
    clear A80
    by_cases c9 : t103.size + t105.size ≤ 9223372036854775807
    · rw [if_pos c9] at H
      have c9b0 := eq_true c9
      have c9b1 : decide (t103.size + t105.size ≤ 9223372036854775807) = true := decide_eq_true c9
      try have c9b2 : (9223372036854775807 < t103.size + t105.size) = False := eq_false (Nat.not_lt.2 c9)
      simp only [Option.some.injEq, Prod.mk.injEq] at H
      obtain ⟨rfl, rfl⟩ := H
      go_enter Try.func13, Try.ntmps13
      go_wp2_with (first | ((with_reducible refine gate_callee (f := 27) rfl ?_); refine goesL_ (some 18) rfl rfl Try.func27 (by kernel_rfl) rfl #[.string a0, .string a1, .int .i64 (a2.size : Int), .int .i64 (a3.size : Int)] rfl (by (try simp only [List.map_toArray, List.map_cons, List.map_nil]); first | done | rfl | (simp only [List.length_drop, List.length_take]; rfl)) ?_; (with_reducible refine (aead_may.calls a0 a1 (a2.size : Int) (a3.size : Int) true _ A5.out).mono ?_); rintro e w' ⟨rfl, ⟨nd, rfl⟩⟩; refine ⟨_, rfl, ?_⟩) | ((with_reducible refine gate_callee (f := 28) rfl ?_); refine goesL_ (some 24) rfl rfl Try.func28 (by kernel_rfl) rfl #[.string a0, .string a1, .int .i64 1, .string a3] rfl (by (try simp only [List.map_toArray, List.map_cons, List.map_nil]); first | done | rfl | (simp only [List.length_drop, List.length_take]; rfl)) ?_; (with_reducible refine (chacha_Stream.calls a0 a1 1 a3 t103 t104 _ A7.out).mono ?_); rintro e w10 ⟨rfl, hb⟩; refine ⟨_, rfl, ?_⟩; have n0_ := Aside0.mk (below_step (by repeat (first | (with_reducible first | exact HB.out | apply below_alloc | apply pw_below_drewN | apply below_drew1) | exact HB.out)) hb); clear HB; have HB := n0_; clear n0_; (try clear hb); (try clear hb2); (try clear hk); (try clear hi)) | ((with_reducible refine gate_callee (f := 29) rfl ?_); refine goesL_ (some 32) rfl rfl Try.func29 (by kernel_rfl) rfl #[.string a0, .string a1, .string a2, .string t103] rfl (by (try simp only [List.map_toArray, List.map_cons, List.map_nil]); first | done | rfl | (simp only [List.length_drop, List.length_take]; rfl)) ?_; (with_reducible refine (aead_tag.calls a0 a1 a2 t103 t105 _ A8.out).mono ?_); rintro e w11 ⟨rfl, hb⟩; refine ⟨_, rfl, ?_⟩; have n0_ := Aside0.mk (below_step (by repeat (first | (with_reducible first | exact HB.out | apply below_alloc | apply pw_below_drewN | apply below_drew1) | exact HB.out)) hb); clear HB; have HB := n0_; clear n0_; (try clear hb); (try clear hb2); (try clear hk); (try clear hi)))
      go_ret2
      exact ⟨by first | rfl | (simp [errW_none, errW_some] <;> rfl) | (simp [*, errW_none, errW_some] <;> rfl), by repeat (first | (with_reducible first | exact HB.out | apply below_alloc | apply pw_below_drewN | apply below_drew1) | exact HB.out)⟩
    · rw [if_neg c9] at H
      exact absurd H (by simp)
  · replace c6 := Bool.eq_false_iff.mpr c6
    subst c6
    have H1 : (some ((⟨#[]⟩ : ByteArray), 1)) = some (r1, r2) := by rw [if_neg (show ¬ (false = true) by decide)] at H; exact H
    clear H
    have H := H1
    clear H1
    simp only [Option.some.injEq, Prod.mk.injEq] at H
    obtain ⟨rfl, rfl⟩ := H
    go_enter Try.func13, Try.ntmps13
    go_wp2_with (first | ((with_reducible refine gate_callee (f := 27) rfl ?_); refine goesL_ (some 18) rfl rfl Try.func27 (by kernel_rfl) rfl #[.string a0, .string a1, .int .i64 (a2.size : Int), .int .i64 (a3.size : Int)] rfl (by (try simp only [List.map_toArray, List.map_cons, List.map_nil]); first | done | rfl | (simp only [List.length_drop, List.length_take]; rfl)) ?_; (with_reducible refine (aead_may.calls a0 a1 (a2.size : Int) (a3.size : Int) false _ A5.out).mono ?_); rintro e w' ⟨rfl, ⟨nd, rfl⟩⟩; refine ⟨_, rfl, ?_⟩))
    go_ret2
    exact ⟨by first | rfl | (simp [errW_none, errW_some] <;> rfl) | (simp [*, errW_none, errW_some] <;> rfl), by repeat (first | (with_reducible first | exact HB.out | apply below_alloc | apply pw_below_drewN | apply below_drew1) | exact HB.out)⟩
end Go.Proofs.Ytmablneefndedaa.Pr
end

section
namespace Go.Proofs.Ytmablneefndedaa.Pr
open Go.RowKit Go.Proofs.YtmablneefndedaaW.PrintWords Go.Proofs.YtmablneefndedaaW.PrintLast Go.Proofs.YtmablneefndedaaW.PrintMore
attribute [local go_sem] max2_int min2_int max_two min_two max_three min_three max_four min_four   -- for this text's walks alone
set_option linter.unusedVariables false
set_option linter.unusedSimpArgs false
def samphirelaw07_light.f (a0 : ByteArray) (a1 : ByteArray) (a2 : ByteArray) : Option (Bool) := if (a0.size : Int) ≤ 512 then (if (a1.size : Int) ≤ 512 then (some (decide ((a2.size : Int) ≤ 512))) else (some false)) else (some false)
set_option maxHeartbeats 8000000 in
set_option maxRecDepth 100000 in
theorem samphirelaw07_light.calls (a0 : ByteArray) (a1 : ByteArray) (a2 : ByteArray) (r : Bool) (w : World) (h : samphirelaw07_light.f a0 a1 a2 = some r) :
    Calls Try.prog 11 #[.string a0, .string a1, .string a2] w fun e w' => e = .returned (.bool r) ∧ Drawn0 w w' := by
  have H : (if (a0.size : Int) ≤ 512 then (if (a1.size : Int) ≤ 512 then (some (decide ((a2.size : Int) ≤ 512))) else (some false)) else (some false)) = some r := h
  clear h
  by_cases c4 : (a0.size : Int) ≤ 512
  · rw [if_pos c4] at H
    have c4b0 : decide ((a0.size : Int) ≤ 512) = true := decide_eq_true c4
    have c4b1 : decide (a0.size ≤ 512) = true := decide_eq_true (by omega)
    clear c4
    by_cases c5 : (a1.size : Int) ≤ 512
    · rw [if_pos c5] at H
      have c5b0 : decide ((a1.size : Int) ≤ 512) = true := decide_eq_true c5
      have c5b1 : decide (a1.size ≤ 512) = true := decide_eq_true (by omega)
      clear c5
      obtain rfl := Option.some.inj H
      go_enter Try.func11, Try.ntmps11
      go_wp2
      go_ret
      exact ⟨by first | rfl | (simp; done) | (simp [*]; done), by repeat (first | exact Drawn0.refl _ | apply Drawn0.step)⟩
    · rw [if_neg c5] at H
      have c5b0 : decide ((a1.size : Int) ≤ 512) = false := decide_eq_false c5
      have c5b1 : decide (a1.size ≤ 512) = false := decide_eq_false (by omega)
      clear c5
      obtain rfl := Option.some.inj H
      go_enter Try.func11, Try.ntmps11
      go_wp2
      go_ret
      exact ⟨by first | rfl | (simp; done) | (simp [*]; done), by repeat (first | exact Drawn0.refl _ | apply Drawn0.step)⟩
  · rw [if_neg c4] at H
    have c4b0 : decide ((a0.size : Int) ≤ 512) = false := decide_eq_false c4
    have c4b1 : decide (a0.size ≤ 512) = false := decide_eq_false (by omega)
    clear c4
    obtain rfl := Option.some.inj H
    go_enter Try.func11, Try.ntmps11
    go_wp2
    go_ret
    exact ⟨by first | rfl | (simp; done) | (simp [*]; done), by repeat (first | exact Drawn0.refl _ | apply Drawn0.step)⟩
end Go.Proofs.Ytmablneefndedaa.Pr
end

section
namespace Go.Proofs.Ytmablneefndedaa.Pr
open Go.RowKit Go.Proofs.YtmablneefndedaaW.PrintWords Go.Proofs.YtmablneefndedaaW.PrintLast
set_option maxHeartbeats 1000000
set_option linter.unusedVariables false
set_option linter.unusedSimpArgs false
theorem aead_Seal_f (a0 a1 a2 a3 : ByteArray) (h2 : a2.size ≤ 1000000000000000) (h3 : a3.size ≤ 1000000000000000) : aead_Seal.f a0 a1 a2 a3 = some (sealF a0 a1 a2 a3) := by
  unfold aead_Seal.f sealF
  rw [aead_may_f a0 a1 _ _ h2 h3, Option.bind_some]
  by_cases hc : aeadOK a0 a1 a2.size a3.size
  · rw [if_pos hc, if_pos (decide_eq_true hc)]
    obtain ⟨k0, k1, k2, k3⟩ := hc
    have hb : bys (txt (streamL (bys a0) (bys a1) 1 (bys a3))) = streamL (bys a0) (bys a1) 1 (bys a3) := bys_txt (streamL_lt _ _ _ _ (bys_lt' _))
    have hz : (txt (streamL (bys a0) (bys a1) 1 (bys a3))).size = a3.size := by rw [txt_size, streamL_length, bys_length]
    rw [stream_f a0 a1 a3 k0 k1 (by omega), Option.bind_some]
    unfold aead_tag.f
    rw [if_pos ⟨k0, k1, by rw [hz]; omega⟩, Option.bind_some, hb, if_pos (by rw [hz, txt_size, tagL_length]; omega), txt_append]
  · rw [if_neg hc, if_neg (by rw [decide_eq_false hc]; decide)]
theorem light_f (a b c : ByteArray) : samphirelaw07_light.f a b c = some (decide (a.size ≤ 512 ∧ b.size ≤ 512 ∧ c.size ≤ 512)) := by
  unfold samphirelaw07_light.f
  by_cases h1 : a.size ≤ 512
  · rw [if_pos (by omega)]
    by_cases h2 : b.size ≤ 512
    · rw [if_pos (by omega)]
      congr 1
      rw [decide_eq_decide]
      omega
    · rw [if_neg (by omega), decide_eq_false (by omega)]
  · rw [if_neg (by omega), decide_eq_false (by omega)]
def wakeC : List Nat := streamL (List.replicate 32 0) (List.replicate 12 0) 1 [116, 101, 120, 116]
theorem wake_tell : tagL (List.replicate 32 0) (List.replicate 12 0) [99] wakeC ≠ tagL (List.replicate 32 0) (List.replicate 12 0) [98] wakeC := by decide +kernel
end Go.Proofs.Ytmablneefndedaa.Pr
end

section
namespace Go.Proofs.Ytmablneefndedaa.Pr
open Go.RowKit Go.Proofs.YtmablneefndedaaW.PrintWords Go.Proofs.YtmablneefndedaaW.PrintLast Go.Proofs.YtmablneefndedaaW.PrintMore
attribute [local go_sem] max2_int min2_int max_two min_two max_three min_three max_four min_four
set_option linter.unusedVariables false
set_option linter.unusedSimpArgs false
def samphirelaw07_awake.f  : Option (Bool) := if 32 ≤ 281474976710656 then ((some (List.replicate 32 0 : List Int)).bind fun y106 => (if 12 ≤ 281474976710656 then ((some (List.replicate 12 0 : List Int)).bind fun y109 => ((aead_Seal.f (strOfNums y106) (strOfNums y109) (⟨#[98]⟩ : ByteArray) (⟨#[116, 101, 120, 116]⟩ : ByteArray)).bind fun bt112 => ((aead_Open.f (strOfNums y106) (strOfNums y109) (⟨#[98]⟩ : ByteArray) bt112.1).bind fun bt114 => ((aead_Open.f (strOfNums y106) (strOfNums y109) (⟨#[99]⟩ : ByteArray) bt112.1).bind fun bt116 => (if bt112.2 = 0 then (if (bt112.1.size : Int) = 20 then (if bt114.1.toList = ([116, 101, 120, 116] : List UInt8) then (if bt114.2 = 0 then (some (bt116.2 == 70)) else (some false)) else (some false)) else (some false)) else (some false)))))) else (none))) else (none)
set_option maxHeartbeats 1000000 in
theorem awake07_f : samphirelaw07_awake.f = some true := by
  unfold samphirelaw07_awake.f
  rw [if_pos (by decide), Option.bind_some, if_pos (by decide), Option.bind_some]
  have e1 : strOfNums (List.replicate 32 0) = txt (List.replicate 32 0) := by
    rw [← str_nats]; rfl
  have e2 : strOfNums (List.replicate 12 0) = txt (List.replicate 12 0) := by
    rw [← str_nats]; rfl
  rw [e1, e2]
  have s1 : (txt (List.replicate 32 0)).size = 32 := rfl
  have s2 : (txt (List.replicate 12 0)).size = 12 := rfl
  have b1 : bys (txt (List.replicate 32 0)) = List.replicate 32 0 := bys_txt (by intro n hn; rw [List.mem_replicate] at hn; omega)
  have b2 : bys (txt (List.replicate 12 0)) = List.replicate 12 0 := bys_txt (by intro n hn; rw [List.mem_replicate] at hn; omega)
  have hok : aeadOK (txt (List.replicate 32 0)) (txt (List.replicate 12 0)) (⟨#[98]⟩ : ByteArray).size (⟨#[116, 101, 120, 116]⟩ : ByteArray).size := ⟨s1, s2, by decide, by decide⟩
  obtain ⟨o1, o2, o3, o4⟩ := open_seal _ _ _ _ hok
  rw [b1, b2] at o4
  generalize txt (List.replicate 32 0) = K at *
  generalize txt (List.replicate 12 0) = N at *
  rw [aead_Seal_f K N _ _ (by decide) (by decide), Option.bind_some]
  generalize sealF K N (⟨#[98]⟩ : ByteArray) (⟨#[116, 101, 120, 116]⟩ : ByteArray) = c at *
  have hcs : c.1.size = 20 := o3
  rw [aead_Open_f K N _ _ (by decide) (by omega), Option.bind_some, aead_Open_f K N _ _ (by decide) (by omega), Option.bind_some, o1, if_pos o2, if_pos (by omega)]
  have hx : openF K N (⟨#[99]⟩ : ByteArray) c.1 = (⟨#[]⟩, 70) := by
    unfold openF
    rw [hcs, if_pos ⟨s1, s2, by decide, by decide⟩, if_neg (by decide), if_neg]
    have e4 : bys (⟨#[116, 101, 120, 116]⟩ : ByteArray) = [116, 101, 120, 116] := rfl
    have e5 : bys (⟨#[98]⟩ : ByteArray) = [98] := rfl
    have e6 : bys (⟨#[99]⟩ : ByteArray) = [99] := rfl
    rw [e4, e5] at o4
    have hl : wakeC.length = 20 - 16 := by unfold wakeC; rw [streamL_length]; rfl
    have o5 : bys c.1 = wakeC ++ tagL (List.replicate 32 0) (List.replicate 12 0) [98] wakeC := o4
    rw [o5, b1, b2, e6, List.take_left' hl, List.drop_left' hl]
    exact wake_tell
  rw [hx, if_pos (by simp only [ByteArray.toList_eq]), if_pos rfl]
  rfl
set_option maxHeartbeats 8000000 in
set_option maxRecDepth 100000 in
theorem samphirelaw07_awake.calls  (r : Bool) (w : World) (h : samphirelaw07_awake.f  = some r) :
    Calls Try.prog 12 #[] w fun e w' => e = .returned (.bool r) ∧ Below w.heap.size w w' := by
  have HB := Aside0.mk (Below.refl w.heap.size w)
  have H : (if 32 ≤ 281474976710656 then ((some (List.replicate 32 0 : List Int)).bind fun y106 => (if 12 ≤ 281474976710656 then ((some (List.replicate 12 0 : List Int)).bind fun y109 => ((aead_Seal.f (strOfNums y106) (strOfNums y109) (⟨#[98]⟩ : ByteArray) (⟨#[116, 101, 120, 116]⟩ : ByteArray)).bind fun bt112 => ((aead_Open.f (strOfNums y106) (strOfNums y109) (⟨#[98]⟩ : ByteArray) bt112.1).bind fun bt114 => ((aead_Open.f (strOfNums y106) (strOfNums y109) (⟨#[99]⟩ : ByteArray) bt112.1).bind fun bt116 => (if bt112.2 = 0 then (if (bt112.1.size : Int) = 20 then (if bt114.1.toList = ([116, 101, 120, 116] : List UInt8) then (if bt114.2 = 0 then (some (bt116.2 == 70)) else (some false)) else (some false)) else (some false)) else (some false)))))) else (none))) else (none)) = some r := h
  have hr : r = true := (Option.some.inj (awake07_f.symm.trans h)).symm
  clear h
  by_cases c1 : 32 ≤ 281474976710656
  · rw [if_pos c1] at H
    have c1b0 := eq_true c1
    have c1b1 : decide (32 ≤ 281474976710656) = true := decide_eq_true c1
    clear c1
    obtain ⟨y106, hy106⟩ : ∃ y_ : List Int, y_ = (List.replicate 32 0) := ⟨_, rfl⟩
    replace H : (if 12 ≤ 281474976710656 then ((some (List.replicate 12 0 : List Int)).bind fun y109 => ((aead_Seal.f (strOfNums y106) (strOfNums y109) (⟨#[98]⟩ : ByteArray) (⟨#[116, 101, 120, 116]⟩ : ByteArray)).bind fun bt112 => ((aead_Open.f (strOfNums y106) (strOfNums y109) (⟨#[98]⟩ : ByteArray) bt112.1).bind fun bt114 => ((aead_Open.f (strOfNums y106) (strOfNums y109) (⟨#[99]⟩ : ByteArray) bt112.1).bind fun bt116 => (if bt112.2 = 0 then (if (bt112.1.size : Int) = 20 then (if bt114.1.toList = ([116, 101, 120, 116] : List UInt8) then (if bt114.2 = 0 then (some (bt116.2 == 70)) else (some false)) else (some false)) else (some false)) else (some false)))))) else (none)) = some r := by first | (rw [hy106]; with_reducible exact H) | (have H2_ := (Option.bind_some _ _).symm.trans H; rw [hy106]; with_reducible exact H2_) | (have H2_ := (Option.bind_some _ _).symm.trans H; with_reducible exact H2_) | with_reducible exact H | (rw [hy106]; exact H) | exact H
    have Ny106 := Aside0.mk hy106
    clear hy106
    by_cases c2 : 12 ≤ 281474976710656
    · rw [if_pos c2] at H
      have c2b0 := eq_true c2
      have c2b1 : decide (12 ≤ 281474976710656) = true := decide_eq_true c2
      clear c2
      obtain ⟨y109, hy109⟩ : ∃ y_ : List Int, y_ = (List.replicate 12 0) := ⟨_, rfl⟩
      replace H : ((aead_Seal.f (strOfNums y106) (strOfNums y109) (⟨#[98]⟩ : ByteArray) (⟨#[116, 101, 120, 116]⟩ : ByteArray)).bind fun bt112 => ((aead_Open.f (strOfNums y106) (strOfNums y109) (⟨#[98]⟩ : ByteArray) bt112.1).bind fun bt114 => ((aead_Open.f (strOfNums y106) (strOfNums y109) (⟨#[99]⟩ : ByteArray) bt112.1).bind fun bt116 => (if bt112.2 = 0 then (if (bt112.1.size : Int) = 20 then (if bt114.1.toList = ([116, 101, 120, 116] : List UInt8) then (if bt114.2 = 0 then (some (bt116.2 == 70)) else (some false)) else (some false)) else (some false)) else (some false))))) = some r := by first | (rw [hy109]; with_reducible exact H) | (have H2_ := (Option.bind_some _ _).symm.trans H; rw [hy109]; with_reducible exact H2_) | (have H2_ := (Option.bind_some _ _).symm.trans H; with_reducible exact H2_) | with_reducible exact H | (rw [hy109]; exact H) | exact H
      have Ny109 := Aside0.mk hy109
      clear hy109
      replace H := Option.bind_eq_some_iff.mp H
      obtain ⟨⟨t112, t113⟩, A30, H⟩ := H
      replace H : ((aead_Open.f (strOfNums y106) (strOfNums y109) (⟨#[98]⟩ : ByteArray) t112).bind fun bt114 => ((aead_Open.f (strOfNums y106) (strOfNums y109) (⟨#[99]⟩ : ByteArray) t112).bind fun bt116 => (if t113 = 0 then (if (t112.size : Int) = 20 then (if bt114.1.toList = ([116, 101, 120, 116] : List UInt8) then (if bt114.2 = 0 then (some (bt116.2 == 70)) else (some false)) else (some false)) else (some false)) else (some false)))) = some r := H
      have A3 := Aside0.mk A30
      clear A30
      replace H := Option.bind_eq_some_iff.mp H
      obtain ⟨⟨t114, t115⟩, A40, H⟩ := H
      replace H : ((aead_Open.f (strOfNums y106) (strOfNums y109) (⟨#[99]⟩ : ByteArray) t112).bind fun bt116 => (if t113 = 0 then (if (t112.size : Int) = 20 then (if t114.toList = ([116, 101, 120, 116] : List UInt8) then (if t115 = 0 then (some (bt116.2 == 70)) else (some false)) else (some false)) else (some false)) else (some false))) = some r := H
      have A4 := Aside0.mk A40
      clear A40
      replace H := Option.bind_eq_some_iff.mp H
      obtain ⟨⟨t116, t117⟩, A50, H⟩ := H
      replace H : (if t113 = 0 then (if (t112.size : Int) = 20 then (if t114.toList = ([116, 101, 120, 116] : List UInt8) then (if t115 = 0 then (some (t117 == 70)) else (some false)) else (some false)) else (some false)) else (some false)) = some r := H
      have A5 := Aside0.mk A50
      clear A50
      by_cases c6 : t113 = 0
      · rw [if_pos c6] at H
        have c6b0 : (t113 == 0) = true := beq_iff_eq.mpr c6
        have c6b1 : (t113 != 0) = false := bne_eq_false_iff_eq.mpr c6
        clear c6
        by_cases c7 : (t112.size : Int) = 20
        · rw [if_pos c7] at H
          have c7b0 : ((t112.size : Int) == 20) = true := beq_iff_eq.mpr c7
          have c7b1 : ((t112.size : Int) != 20) = false := bne_eq_false_iff_eq.mpr c7
          clear c7
          by_cases c8 : t114.toList = ([116, 101, 120, 116] : List UInt8)
          · rw [if_pos c8] at H
            have c8b0 : (t114.toList == ([116, 101, 120, 116] : List UInt8)) = true := beq_iff_eq.mpr c8
            have c8b1 : (t114.toList != ([116, 101, 120, 116] : List UInt8)) = false := bne_eq_false_iff_eq.mpr c8
            clear c8
            by_cases c9 : t115 = 0
            · rw [if_pos c9] at H
              have c9b0 : (t115 == 0) = true := beq_iff_eq.mpr c9
              have c9b1 : (t115 != 0) = false := bne_eq_false_iff_eq.mpr c9
              clear c9
              obtain rfl := Option.some.inj H
              go_enter Try.func12, Try.ntmps12
              try go_wp2
              have n0_ := Aside0.mk (below_drew1 HB.out)
              clear HB
              have HB := n0_
              clear n0_
              refine start_ (n := 6) (S := fun w' => True) (ds := []) #[false, false, false, false, false, false] (by kernel_rfl) rfl rfl trivial (fun hHeld => ?_)
              generalize w.drew = w10 at HB hHeld ⊢
              refine join_ (σ := Value × Value) 1 #[true, true, true, true, true, false] (fun s_ => [(9, s_.1), (10, .string (strOfNums y106)), (11, s_.2), (12, .string (strOfNums y109)), (1, .string (strOfNums y106))]) (fun s_ w' => (Kd.R (Kd.int .u8) 5 w' w.heap.size (fun k_ => some k_ ≠ (s_.2 : Value).ownBlock) s_.1 y106) ∧ (Kd.R (Kd.int .u8) 5 w' w.heap.size (fun k_ => some k_ ≠ (s_.1 : Value).ownBlock) s_.2 y109) ∧ (Below w.heap.size w w')) ?_ ?_
              rotate_left
              · intro hJ0_1_2_3
                refine join_ (σ := Value × Value) 2 #[true, true, true, false, true, false] (fun s_ => [(9, s_.1), (10, .string (strOfNums y106)), (11, s_.2), (1, .string (strOfNums y106))]) (fun s_ w' => (Kd.R (Kd.int .u8) 5 w' w.heap.size (fun k_ => some k_ ≠ (s_.2 : Value).ownBlock) s_.1 y106) ∧ (Kd.R (Kd.int .u8) 5 w' w.heap.size (fun k_ => some k_ ≠ (s_.1 : Value).ownBlock) s_.2 y109) ∧ (Below w.heap.size w w')) ?_ ?_
                rotate_left
                · intro hJ0_1_2
                  refine join_ (σ := Value × Value) 3 #[true, false, true, true, false, false] (fun s_ => [(9, s_.1), (11, s_.2), (12, .string (strOfNums y109))]) (fun s_ w' => (Kd.R (Kd.int .u8) 5 w' w.heap.size (fun k_ => some k_ ≠ (s_.2 : Value).ownBlock) s_.1 y106) ∧ (Kd.R (Kd.int .u8) 5 w' w.heap.size (fun k_ => some k_ ≠ (s_.1 : Value).ownBlock) s_.2 y109) ∧ (Below w.heap.size w w')) ?_ ?_
                  rotate_left
                  · intro hJ0_2_3
                    refine join_ (σ := Value) 3 #[true, true, false, false, true, false] (fun s_ => [(9, s_), (10, .string (strOfNums y106)), (1, .string (strOfNums y106))]) (fun s_ w' => (Kd.R (Kd.int .u8) 5 w' w.heap.size (fun _ => True) s_ y106) ∧ (Below w.heap.size w w')) ?_ ?_
                    rotate_left
                    · intro hJ0_1
                      refine join_ (σ := Value × Value) 4 #[true, false, true, false, false, false] (fun s_ => [(9, s_.1), (11, s_.2)]) (fun s_ w' => (Kd.R (Kd.int .u8) 5 w' w.heap.size (fun k_ => some k_ ≠ (s_.2 : Value).ownBlock) s_.1 y106) ∧ (Kd.R (Kd.int .u8) 5 w' w.heap.size (fun k_ => some k_ ≠ (s_.1 : Value).ownBlock) s_.2 y109) ∧ (Below w.heap.size w w')) ?_ ?_
                      rotate_left
                      · intro hJ0_2
                        refine join_ (σ := Value) 4 #[false, false, true, true, false, false] (fun s_ => [(11, s_), (12, .string (strOfNums y109))]) (fun s_ w' => (Kd.R (Kd.int .u8) 5 w' w.heap.size (fun _ => True) s_ y109) ∧ (Below w.heap.size w w')) ?_ ?_
                        rotate_left
                        · intro hJ2_3
                          refine join_ (σ := Value) 5 #[true, false, false, false, false, false] (fun s_ => [(9, s_)]) (fun s_ w' => (Kd.R (Kd.int .u8) 5 w' w.heap.size (fun _ => True) s_ y106) ∧ (Below w.heap.size w w')) ?_ ?_
                          rotate_left
                          · intro hJ0
                            refine join_ (σ := Value) 5 #[false, false, true, false, false, false] (fun s_ => [(11, s_)]) (fun s_ w' => (Kd.R (Kd.int .u8) 5 w' w.heap.size (fun _ => True) s_ y109) ∧ (Below w.heap.size w w')) ?_ ?_
                            rotate_left
                            · intro hJ2
                              refine two_ (i := 0) (j := 2) (Ni := some 9) (Nj := some 11) #[true, false, false, false, false, false] #[false, false, true, false, false, false] rfl rfl rfl rfl (by kernel_rfl) (by decide) (by decide) (fun K hK => ?_) (fun K hK => ?_)
                              · skip
                                refine Kd.R_make_step (Kd.int .u8) _ 5 (by rfl) (N := 9) rfl 28 _ _ rfl 32 rfl rfl Try.underlying28 (.int .u8 0) 1 info5 rfl (by decide) (by omega) 0 (ok := fun _ => True) (okp := fun _ => True) rfl (fun _ hk => hk) trivial (by omega) (by omega) (Below.refl _ _) (Nat.le_refl _) ?_
                                intro v107 w11 ho12 hb hg_ hnew_
                                clear hg_ hnew_
                                (first | rw [← Ny106.out] at ho12 | (simp only [Int.reduceToNat] at ho12; rw [← Ny106.out] at ho12))
                                have n0_ := Aside0.mk (Kd.R_lower ho12 (below_size (by repeat (first | (with_reducible first | exact HB.out | apply below_alloc | apply pw_below_drewN | apply below_drew1) | exact HB.out))))
                                have n1_ := Aside0.mk (below_step (by repeat (first | (with_reducible first | exact HB.out | apply below_alloc | apply pw_below_drewN | apply below_drew1) | exact HB.out)) hb)
                                clear HB
                                have HO108 := n0_
                                have HB := n1_
                                clear n0_ n1_
                                clear hb ho12
                                refine hK.out _ _ trivial (fun hHeld => ?_)
                                clear hK K
                                refine norm_ (a' := ?_) ?_ ?_
                                rotate_left
                                · show Act.put _ (some 9) _ = _
                                  simp only [Act.put, List.setIfInBounds_toArray, List.set_cons_zero, List.set_cons_succ, i64_w, i32_w]
                                  rfl
                                exact norm_ (by first | (simp only [putAll, Act.put, List.setIfInBounds_toArray, List.set_cons_zero, List.set_cons_succ]; done) | (simp only [putAll, Act.put, List.setIfInBounds_toArray, List.set_cons_zero, List.set_cons_succ]; rfl)) (hJ0 (v107) _ ⟨(by (with_reducible repeat (first | apply Kd.R_alloc | apply Kd.R_drewN | apply Kd.R_drew)); exact HO108.out), (by repeat (first | (with_reducible first | exact HB.out | apply below_alloc | apply pw_below_drewN | apply below_drew1) | exact HB.out))⟩)
                              · skip
                                refine Kd.R_make_step (Kd.int .u8) _ 5 (by rfl) (N := 11) rfl 28 _ _ rfl 12 rfl rfl Try.underlying28 (.int .u8 0) 1 info5 rfl (by decide) (by omega) 0 (ok := fun _ => True) (okp := fun _ => True) rfl (fun _ hk => hk) trivial (by omega) (by omega) (Below.refl _ _) (Nat.le_refl _) ?_
                                intro v110 w11 ho12 hb hg_ hnew_
                                clear hg_ hnew_
                                (first | rw [← Ny109.out] at ho12 | (simp only [Int.reduceToNat] at ho12; rw [← Ny109.out] at ho12))
                                have n0_ := Aside0.mk (Kd.R_lower ho12 (below_size (by repeat (first | (with_reducible first | exact HB.out | apply below_alloc | apply pw_below_drewN | apply below_drew1) | exact HB.out))))
                                have n1_ := Aside0.mk (below_step (by repeat (first | (with_reducible first | exact HB.out | apply below_alloc | apply pw_below_drewN | apply below_drew1) | exact HB.out)) hb)
                                clear HB
                                have HO111 := n0_
                                have HB := n1_
                                clear n0_ n1_
                                clear hb ho12
                                refine hK.out _ _ trivial (fun hHeld => ?_)
                                clear hK K
                                refine norm_ (a' := ?_) ?_ ?_
                                rotate_left
                                · show Act.put _ (some 11) _ = _
                                  simp only [Act.put, List.setIfInBounds_toArray, List.set_cons_zero, List.set_cons_succ, i64_w, i32_w]
                                  rfl
                                exact norm_ (by first | (simp only [putAll, Act.put, List.setIfInBounds_toArray, List.set_cons_zero, List.set_cons_succ]; done) | (simp only [putAll, Act.put, List.setIfInBounds_toArray, List.set_cons_zero, List.set_cons_succ]; rfl)) (hJ2 (v110) _ ⟨(by (with_reducible repeat (first | apply Kd.R_alloc | apply Kd.R_drewN | apply Kd.R_drew)); exact HO111.out), (by repeat (first | (with_reducible first | exact HB.out | apply below_alloc | apply pw_below_drewN | apply below_drew1) | exact HB.out))⟩)
                            · skip
                              rintro v110 w13 ⟨h0_, h1_⟩
                              have n0_ : Aside0 (Kd.R (Kd.int .u8) 5 w13 w.heap.size (fun _ => True) v110 y109) := ⟨h0_⟩
                              have n1_ : Aside0 (Below w.heap.size w w13) := ⟨h1_⟩
                              clear HB
                              clear h0_ h1_
                              have HO111 := n0_
                              have HB := n1_
                              clear n0_ n1_
                              have hHeld := trivial
                              refine norm_ (a' := ?_) ?_ ?_
                              rotate_left
                              · simp only [putAll, Act.put, List.setIfInBounds_toArray, List.set_cons_zero, List.set_cons_succ]
                                rfl
                              refine two_ (i := 0) (j := 3) (Ni := some 9) (Nj := some 12) #[true, false, true, false, false, false] #[false, false, true, true, false, false] rfl rfl rfl rfl (by kernel_rfl) (by decide) (by decide) (fun K hK => ?_) (fun K hK => ?_)
                              · skip
                                refine Kd.R_make_step (Kd.int .u8) _ 5 (by rfl) (N := 9) rfl 28 _ _ rfl 32 rfl rfl Try.underlying28 (.int .u8 0) 1 info5 rfl (by decide) (by omega) 0 (ok := fun _ => True) (okp := fun _ => True) rfl (fun _ hk => hk) trivial (by omega) (by omega) (Below.refl _ _) (Nat.le_refl _) ?_
                                intro v107 w14 ho15 hb hg_ hnew_
                                clear hg_ hnew_
                                (first | rw [← Ny106.out] at ho15 | (simp only [Int.reduceToNat] at ho15; rw [← Ny106.out] at ho15))
                                have n0_ := Aside0.mk (Kd.R_elder' (by (with_reducible repeat (first | apply Kd.R_alloc | apply Kd.R_drewN | apply Kd.R_drew)); exact HO111.out) (Kd.R_base ho15) hb)
                                have n1_ := Aside0.mk (Kd.R_lower (Kd.R_new' ho15 (Kd.R_lt (by (with_reducible repeat (first | apply Kd.R_alloc | apply Kd.R_drewN | apply Kd.R_drew)); exact HO111.out))) (below_size (by repeat (first | (with_reducible first | exact HB.out | apply below_alloc | apply pw_below_drewN | apply below_drew1) | exact HB.out))))
                                have n2_ := Aside0.mk (below_step (by repeat (first | (with_reducible first | exact HB.out | apply below_alloc | apply pw_below_drewN | apply below_drew1) | exact HB.out)) hb)
                                clear HO111
                                clear HB
                                have HO111 := n0_
                                have HO108 := n1_
                                have HB := n2_
                                clear n0_ n1_ n2_
                                clear hb ho15
                                refine hK.out _ _ trivial (fun hHeld => ?_)
                                clear hK K
                                refine norm_ (a' := ?_) ?_ ?_
                                rotate_left
                                · show Act.put _ (some 9) _ = _
                                  simp only [Act.put, List.setIfInBounds_toArray, List.set_cons_zero, List.set_cons_succ, i64_w, i32_w]
                                  rfl
                                exact norm_ (by first | (simp only [putAll, Act.put, List.setIfInBounds_toArray, List.set_cons_zero, List.set_cons_succ]; done) | (simp only [putAll, Act.put, List.setIfInBounds_toArray, List.set_cons_zero, List.set_cons_succ]; rfl)) (hJ0_2 (v107, v110) _ ⟨(by (with_reducible repeat (first | apply Kd.R_alloc | apply Kd.R_drewN | apply Kd.R_drew)); exact Kd.R_mono HO108.out (fun _ hk => hk.2)), (by (with_reducible repeat (first | apply Kd.R_alloc | apply Kd.R_drewN | apply Kd.R_drew)); exact Kd.R_mono HO111.out (fun _ hk => hk.2)), (by repeat (first | (with_reducible first | exact HB.out | apply below_alloc | apply pw_below_drewN | apply below_drew1) | exact HB.out))⟩)
                              · skip
                                have hcv14 := own_string (P := Try.prog) Try.underlying28 Try.underlying5 Try.underlying9 (Kd.own_of_R HO111.out)
                                refine value_ (w1 := ?_) (v := ?_) (by rfl) rfl ?_ ?_
                                rotate_left 2
                                · go_simp
                                  constructor
                                  · rfl
                                  · rfl
                                clear hcv14
                                refine hK.out _ _ trivial (fun hHeld => ?_)
                                clear hK K
                                refine norm_ (a' := ?_) ?_ ?_
                                rotate_left
                                · show Act.put _ (some 12) _ = _
                                  simp only [Act.put, List.setIfInBounds_toArray, List.set_cons_zero, List.set_cons_succ, i64_w, i32_w]
                                  rfl
                                exact norm_ (by first | (simp only [putAll, Act.put, List.setIfInBounds_toArray, List.set_cons_zero, List.set_cons_succ]; done) | (simp only [putAll, Act.put, List.setIfInBounds_toArray, List.set_cons_zero, List.set_cons_succ]; rfl)) (hJ2_3 (v110) _ ⟨(by (with_reducible repeat (first | apply Kd.R_alloc | apply Kd.R_drewN | apply Kd.R_drew)); exact HO111.out), (by repeat (first | (with_reducible first | exact HB.out | apply below_alloc | apply pw_below_drewN | apply below_drew1) | exact HB.out))⟩)
                          · skip
                            rintro v107 w13 ⟨h0_, h1_⟩
                            have n0_ : Aside0 (Kd.R (Kd.int .u8) 5 w13 w.heap.size (fun _ => True) v107 y106) := ⟨h0_⟩
                            have n1_ : Aside0 (Below w.heap.size w w13) := ⟨h1_⟩
                            clear HB
                            clear h0_ h1_
                            have HO108 := n0_
                            have HB := n1_
                            clear n0_ n1_
                            have hHeld := trivial
                            refine norm_ (a' := ?_) ?_ ?_
                            rotate_left
                            · simp only [putAll, Act.put, List.setIfInBounds_toArray, List.set_cons_zero, List.set_cons_succ]
                              rfl
                            refine two_ (i := 1) (j := 2) (Ni := some 10) (Nj := some 11) #[true, true, false, false, false, false] #[true, false, true, false, false, false] rfl rfl rfl rfl (by kernel_rfl) (by decide) (by decide) (fun K hK => ?_) (fun K hK => ?_)
                            · skip
                              have hcv14 := own_string (P := Try.prog) Try.underlying28 Try.underlying5 Try.underlying9 (Kd.own_of_R HO108.out)
                              refine value_ (w1 := ?_) (v := ?_) (by rfl) rfl ?_ ?_
                              rotate_left 2
                              · go_simp
                                constructor
                                · rfl
                                · rfl
                              clear hcv14
                              refine hK.out _ _ trivial (fun hHeld => ?_)
                              clear hK K
                              refine norm_ (a' := ?_) ?_ ?_
                              rotate_left
                              · show Act.put _ (some 10) _ = _
                                simp only [Act.put, List.setIfInBounds_toArray, List.set_cons_zero, List.set_cons_succ, i64_w, i32_w]
                                rfl
                              refine pure_ (i := 4) (N := some 1) (v := ?_) (a' := ?_) #[true, true, false, false, true, false] rfl rfl (by kernel_rfl) (fun _ _ _ h => h) (Or.inl ⟨by rfl, ?_⟩) ?_ ?_
                              rotate_left
                              · intro w'
                                go_simp
                                with_reducible rfl
                              rotate_left
                              · simp only [Act.put, List.setIfInBounds_toArray, List.set_cons_zero, List.set_cons_succ, i64_w, i32_w]
                                rfl
                              exact norm_ (by first | (simp only [putAll, Act.put, List.setIfInBounds_toArray, List.set_cons_zero, List.set_cons_succ]; done) | (simp only [putAll, Act.put, List.setIfInBounds_toArray, List.set_cons_zero, List.set_cons_succ]; rfl)) (hJ0_1 (v107) _ ⟨(by (with_reducible repeat (first | apply Kd.R_alloc | apply Kd.R_drewN | apply Kd.R_drew)); exact HO108.out), (by repeat (first | (with_reducible first | exact HB.out | apply below_alloc | apply pw_below_drewN | apply below_drew1) | exact HB.out))⟩)
                            · skip
                              refine Kd.R_make_step (Kd.int .u8) _ 5 (by rfl) (N := 11) rfl 28 _ _ rfl 12 rfl rfl Try.underlying28 (.int .u8 0) 1 info5 rfl (by decide) (by omega) 0 (ok := fun _ => True) (okp := fun _ => True) rfl (fun _ hk => hk) trivial (by omega) (by omega) (Below.refl _ _) (Nat.le_refl _) ?_
                              intro v110 w14 ho15 hb hg_ hnew_
                              clear hg_ hnew_
                              (first | rw [← Ny109.out] at ho15 | (simp only [Int.reduceToNat] at ho15; rw [← Ny109.out] at ho15))
                              have n0_ := Aside0.mk (Kd.R_elder' (by (with_reducible repeat (first | apply Kd.R_alloc | apply Kd.R_drewN | apply Kd.R_drew)); exact HO108.out) (Kd.R_base ho15) hb)
                              have n1_ := Aside0.mk (Kd.R_lower (Kd.R_new' ho15 (Kd.R_lt (by (with_reducible repeat (first | apply Kd.R_alloc | apply Kd.R_drewN | apply Kd.R_drew)); exact HO108.out))) (below_size (by repeat (first | (with_reducible first | exact HB.out | apply below_alloc | apply pw_below_drewN | apply below_drew1) | exact HB.out))))
                              have n2_ := Aside0.mk (below_step (by repeat (first | (with_reducible first | exact HB.out | apply below_alloc | apply pw_below_drewN | apply below_drew1) | exact HB.out)) hb)
                              clear HO108
                              clear HB
                              have HO108 := n0_
                              have HO111 := n1_
                              have HB := n2_
                              clear n0_ n1_ n2_
                              clear hb ho15
                              refine hK.out _ _ trivial (fun hHeld => ?_)
                              clear hK K
                              refine norm_ (a' := ?_) ?_ ?_
                              rotate_left
                              · show Act.put _ (some 11) _ = _
                                simp only [Act.put, List.setIfInBounds_toArray, List.set_cons_zero, List.set_cons_succ, i64_w, i32_w]
                                rfl
                              exact norm_ (by first | (simp only [putAll, Act.put, List.setIfInBounds_toArray, List.set_cons_zero, List.set_cons_succ]; done) | (simp only [putAll, Act.put, List.setIfInBounds_toArray, List.set_cons_zero, List.set_cons_succ]; rfl)) (hJ0_2 (v107, v110) _ ⟨(by (with_reducible repeat (first | apply Kd.R_alloc | apply Kd.R_drewN | apply Kd.R_drew)); exact Kd.R_mono HO108.out (fun _ hk => hk.2)), (by (with_reducible repeat (first | apply Kd.R_alloc | apply Kd.R_drewN | apply Kd.R_drew)); exact Kd.R_mono HO111.out (fun _ hk => hk.2)), (by repeat (first | (with_reducible first | exact HB.out | apply below_alloc | apply pw_below_drewN | apply below_drew1) | exact HB.out))⟩)
                        · skip
                          rintro v110 w14 ⟨h0_, h1_⟩
                          have n0_ : Aside0 (Kd.R (Kd.int .u8) 5 w14 w.heap.size (fun _ => True) v110 y109) := ⟨h0_⟩
                          have n1_ : Aside0 (Below w.heap.size w w14) := ⟨h1_⟩
                          clear HB
                          clear h0_ h1_
                          have HO111 := n0_
                          have HB := n1_
                          clear n0_ n1_
                          have hHeld := trivial
                          refine norm_ (a' := ?_) ?_ ?_
                          rotate_left
                          · simp only [putAll, Act.put, List.setIfInBounds_toArray, List.set_cons_zero, List.set_cons_succ]
                            rfl
                          refine one_ (i := 0) (N := some 9) #[true, false, true, true, false, false] rfl rfl (by kernel_rfl) (by decide) (fun K hK => ?_)
                          refine Kd.R_make_step (Kd.int .u8) _ 5 (by rfl) (N := 9) rfl 28 _ _ rfl 32 rfl rfl Try.underlying28 (.int .u8 0) 1 info5 rfl (by decide) (by omega) 0 (ok := fun _ => True) (okp := fun _ => True) rfl (fun _ hk => hk) trivial (by omega) (by omega) (Below.refl _ _) (Nat.le_refl _) ?_
                          intro v107 w15 ho16 hb hg_ hnew_
                          clear hg_ hnew_
                          (first | rw [← Ny106.out] at ho16 | (simp only [Int.reduceToNat] at ho16; rw [← Ny106.out] at ho16))
                          have n0_ := Aside0.mk (Kd.R_elder' (by (with_reducible repeat (first | apply Kd.R_alloc | apply Kd.R_drewN | apply Kd.R_drew)); exact HO111.out) (Kd.R_base ho16) hb)
                          have n1_ := Aside0.mk (Kd.R_lower (Kd.R_new' ho16 (Kd.R_lt (by (with_reducible repeat (first | apply Kd.R_alloc | apply Kd.R_drewN | apply Kd.R_drew)); exact HO111.out))) (below_size (by repeat (first | (with_reducible first | exact HB.out | apply below_alloc | apply pw_below_drewN | apply below_drew1) | exact HB.out))))
                          have n2_ := Aside0.mk (below_step (by repeat (first | (with_reducible first | exact HB.out | apply below_alloc | apply pw_below_drewN | apply below_drew1) | exact HB.out)) hb)
                          clear HO111
                          clear HB
                          have HO111 := n0_
                          have HO108 := n1_
                          have HB := n2_
                          clear n0_ n1_ n2_
                          clear hb ho16
                          refine hK.out _ _ trivial (fun hHeld => ?_)
                          clear hK K
                          refine norm_ (a' := ?_) ?_ ?_
                          rotate_left
                          · show Act.put _ (some 9) _ = _
                            simp only [Act.put, List.setIfInBounds_toArray, List.set_cons_zero, List.set_cons_succ, i64_w, i32_w]
                            rfl
                          exact norm_ (by first | (simp only [putAll, Act.put, List.setIfInBounds_toArray, List.set_cons_zero, List.set_cons_succ]; done) | (simp only [putAll, Act.put, List.setIfInBounds_toArray, List.set_cons_zero, List.set_cons_succ]; rfl)) (hJ0_2_3 (v107, v110) _ ⟨(by (with_reducible repeat (first | apply Kd.R_alloc | apply Kd.R_drewN | apply Kd.R_drew)); exact Kd.R_mono HO108.out (fun _ hk => hk.2)), (by (with_reducible repeat (first | apply Kd.R_alloc | apply Kd.R_drewN | apply Kd.R_drew)); exact Kd.R_mono HO111.out (fun _ hk => hk.2)), (by repeat (first | (with_reducible first | exact HB.out | apply below_alloc | apply pw_below_drewN | apply below_drew1) | exact HB.out))⟩)
                      · skip
                        rintro ⟨v107, v110⟩ w15 ⟨h0_, h1_, h2_⟩
                        have n0_ : Aside0 (Kd.R (Kd.int .u8) 5 w15 w.heap.size (fun k_ => some k_ ≠ (v110 : Value).ownBlock) v107 y106) := ⟨h0_⟩
                        have n1_ : Aside0 (Kd.R (Kd.int .u8) 5 w15 w.heap.size (fun k_ => some k_ ≠ (v107 : Value).ownBlock) v110 y109) := ⟨h1_⟩
                        have n2_ : Aside0 (Below w.heap.size w w15) := ⟨h2_⟩
                        clear HB
                        clear h0_ h1_ h2_
                        have HO108 := n0_
                        have HO111 := n1_
                        have HB := n2_
                        clear n0_ n1_ n2_
                        have hHeld := trivial
                        refine norm_ (a' := ?_) ?_ ?_
                        rotate_left
                        · simp only [putAll, Act.put, List.setIfInBounds_toArray, List.set_cons_zero, List.set_cons_succ]
                          rfl
                        refine two_ (i := 1) (j := 3) (Ni := some 10) (Nj := some 12) #[true, true, true, false, false, false] #[true, false, true, true, false, false] rfl rfl rfl rfl (by kernel_rfl) (by decide) (by decide) (fun K hK => ?_) (fun K hK => ?_)
                        · skip
                          have hcv16 := own_string (P := Try.prog) Try.underlying28 Try.underlying5 Try.underlying9 (Kd.own_of_R HO108.out)
                          refine value_ (w1 := ?_) (v := ?_) (by rfl) rfl ?_ ?_
                          rotate_left 2
                          · go_simp
                            constructor
                            · rfl
                            · rfl
                          clear hcv16
                          refine hK.out _ _ trivial (fun hHeld => ?_)
                          clear hK K
                          refine norm_ (a' := ?_) ?_ ?_
                          rotate_left
                          · show Act.put _ (some 10) _ = _
                            simp only [Act.put, List.setIfInBounds_toArray, List.set_cons_zero, List.set_cons_succ, i64_w, i32_w]
                            rfl
                          refine pure_ (i := 4) (N := some 1) (v := ?_) (a' := ?_) #[true, true, true, false, true, false] rfl rfl (by kernel_rfl) (fun _ _ _ h => h) (Or.inl ⟨by rfl, ?_⟩) ?_ ?_
                          rotate_left
                          · intro w'
                            go_simp
                            with_reducible rfl
                          rotate_left
                          · simp only [Act.put, List.setIfInBounds_toArray, List.set_cons_zero, List.set_cons_succ, i64_w, i32_w]
                            rfl
                          exact norm_ (by first | (simp only [putAll, Act.put, List.setIfInBounds_toArray, List.set_cons_zero, List.set_cons_succ]; done) | (simp only [putAll, Act.put, List.setIfInBounds_toArray, List.set_cons_zero, List.set_cons_succ]; rfl)) (hJ0_1_2 (v107, v110) _ ⟨(by (with_reducible repeat (first | apply Kd.R_alloc | apply Kd.R_drewN | apply Kd.R_drew)); exact HO108.out), (by (with_reducible repeat (first | apply Kd.R_alloc | apply Kd.R_drewN | apply Kd.R_drew)); exact HO111.out), (by repeat (first | (with_reducible first | exact HB.out | apply below_alloc | apply pw_below_drewN | apply below_drew1) | exact HB.out))⟩)
                        · skip
                          have hcv16 := own_string (P := Try.prog) Try.underlying28 Try.underlying5 Try.underlying9 (Kd.own_of_R HO111.out)
                          refine value_ (w1 := ?_) (v := ?_) (by rfl) rfl ?_ ?_
                          rotate_left 2
                          · go_simp
                            constructor
                            · rfl
                            · rfl
                          clear hcv16
                          refine hK.out _ _ trivial (fun hHeld => ?_)
                          clear hK K
                          refine norm_ (a' := ?_) ?_ ?_
                          rotate_left
                          · show Act.put _ (some 12) _ = _
                            simp only [Act.put, List.setIfInBounds_toArray, List.set_cons_zero, List.set_cons_succ, i64_w, i32_w]
                            rfl
                          exact norm_ (by first | (simp only [putAll, Act.put, List.setIfInBounds_toArray, List.set_cons_zero, List.set_cons_succ]; done) | (simp only [putAll, Act.put, List.setIfInBounds_toArray, List.set_cons_zero, List.set_cons_succ]; rfl)) (hJ0_2_3 (v107, v110) _ ⟨(by (with_reducible repeat (first | apply Kd.R_alloc | apply Kd.R_drewN | apply Kd.R_drew)); exact HO108.out), (by (with_reducible repeat (first | apply Kd.R_alloc | apply Kd.R_drewN | apply Kd.R_drew)); exact HO111.out), (by repeat (first | (with_reducible first | exact HB.out | apply below_alloc | apply pw_below_drewN | apply below_drew1) | exact HB.out))⟩)
                    · skip
                      rintro v107 w14 ⟨h0_, h1_⟩
                      have n0_ : Aside0 (Kd.R (Kd.int .u8) 5 w14 w.heap.size (fun _ => True) v107 y106) := ⟨h0_⟩
                      have n1_ : Aside0 (Below w.heap.size w w14) := ⟨h1_⟩
                      clear HB
                      clear h0_ h1_
                      have HO108 := n0_
                      have HB := n1_
                      clear n0_ n1_
                      have hHeld := trivial
                      refine norm_ (a' := ?_) ?_ ?_
                      rotate_left
                      · simp only [putAll, Act.put, List.setIfInBounds_toArray, List.set_cons_zero, List.set_cons_succ]
                        rfl
                      refine one_ (i := 2) (N := some 11) #[true, true, true, false, true, false] rfl rfl (by kernel_rfl) (by decide) (fun K hK => ?_)
                      refine Kd.R_make_step (Kd.int .u8) _ 5 (by rfl) (N := 11) rfl 28 _ _ rfl 12 rfl rfl Try.underlying28 (.int .u8 0) 1 info5 rfl (by decide) (by omega) 0 (ok := fun _ => True) (okp := fun _ => True) rfl (fun _ hk => hk) trivial (by omega) (by omega) (Below.refl _ _) (Nat.le_refl _) ?_
                      intro v110 w15 ho16 hb hg_ hnew_
                      clear hg_ hnew_
                      (first | rw [← Ny109.out] at ho16 | (simp only [Int.reduceToNat] at ho16; rw [← Ny109.out] at ho16))
                      have n0_ := Aside0.mk (Kd.R_elder' (by (with_reducible repeat (first | apply Kd.R_alloc | apply Kd.R_drewN | apply Kd.R_drew)); exact HO108.out) (Kd.R_base ho16) hb)
                      have n1_ := Aside0.mk (Kd.R_lower (Kd.R_new' ho16 (Kd.R_lt (by (with_reducible repeat (first | apply Kd.R_alloc | apply Kd.R_drewN | apply Kd.R_drew)); exact HO108.out))) (below_size (by repeat (first | (with_reducible first | exact HB.out | apply below_alloc | apply pw_below_drewN | apply below_drew1) | exact HB.out))))
                      have n2_ := Aside0.mk (below_step (by repeat (first | (with_reducible first | exact HB.out | apply below_alloc | apply pw_below_drewN | apply below_drew1) | exact HB.out)) hb)
                      clear HO108
                      clear HB
                      have HO108 := n0_
                      have HO111 := n1_
                      have HB := n2_
                      clear n0_ n1_ n2_
                      clear hb ho16
                      refine hK.out _ _ trivial (fun hHeld => ?_)
                      clear hK K
                      refine norm_ (a' := ?_) ?_ ?_
                      rotate_left
                      · show Act.put _ (some 11) _ = _
                        simp only [Act.put, List.setIfInBounds_toArray, List.set_cons_zero, List.set_cons_succ, i64_w, i32_w]
                        rfl
                      exact norm_ (by first | (simp only [putAll, Act.put, List.setIfInBounds_toArray, List.set_cons_zero, List.set_cons_succ]; done) | (simp only [putAll, Act.put, List.setIfInBounds_toArray, List.set_cons_zero, List.set_cons_succ]; rfl)) (hJ0_1_2 (v107, v110) _ ⟨(by (with_reducible repeat (first | apply Kd.R_alloc | apply Kd.R_drewN | apply Kd.R_drew)); exact Kd.R_mono HO108.out (fun _ hk => hk.2)), (by (with_reducible repeat (first | apply Kd.R_alloc | apply Kd.R_drewN | apply Kd.R_drew)); exact Kd.R_mono HO111.out (fun _ hk => hk.2)), (by repeat (first | (with_reducible first | exact HB.out | apply below_alloc | apply pw_below_drewN | apply below_drew1) | exact HB.out))⟩)
                  · skip
                    rintro ⟨v107, v110⟩ w16 ⟨h0_, h1_, h2_⟩
                    have n0_ : Aside0 (Kd.R (Kd.int .u8) 5 w16 w.heap.size (fun k_ => some k_ ≠ (v110 : Value).ownBlock) v107 y106) := ⟨h0_⟩
                    have n1_ : Aside0 (Kd.R (Kd.int .u8) 5 w16 w.heap.size (fun k_ => some k_ ≠ (v107 : Value).ownBlock) v110 y109) := ⟨h1_⟩
                    have n2_ : Aside0 (Below w.heap.size w w16) := ⟨h2_⟩
                    clear HB
                    clear h0_ h1_ h2_
                    have HO108 := n0_
                    have HO111 := n1_
                    have HB := n2_
                    clear n0_ n1_ n2_
                    have hHeld := trivial
                    refine norm_ (a' := ?_) ?_ ?_
                    rotate_left
                    · simp only [putAll, Act.put, List.setIfInBounds_toArray, List.set_cons_zero, List.set_cons_succ]
                      rfl
                    refine one_ (i := 1) (N := some 10) #[true, true, true, true, false, false] rfl rfl (by kernel_rfl) (by decide) (fun K hK => ?_)
                    have hcv17 := own_string (P := Try.prog) Try.underlying28 Try.underlying5 Try.underlying9 (Kd.own_of_R HO108.out)
                    refine value_ (w1 := ?_) (v := ?_) (by rfl) rfl ?_ ?_
                    rotate_left 2
                    · go_simp
                      constructor
                      · rfl
                      · rfl
                    clear hcv17
                    refine hK.out _ _ trivial (fun hHeld => ?_)
                    clear hK K
                    refine norm_ (a' := ?_) ?_ ?_
                    rotate_left
                    · show Act.put _ (some 10) _ = _
                      simp only [Act.put, List.setIfInBounds_toArray, List.set_cons_zero, List.set_cons_succ, i64_w, i32_w]
                      rfl
                    refine pure_ (i := 4) (N := some 1) (v := ?_) (a' := ?_) #[true, true, true, true, true, false] rfl rfl (by kernel_rfl) (fun _ _ _ h => h) (Or.inl ⟨by rfl, ?_⟩) ?_ ?_
                    rotate_left
                    · intro w'
                      go_simp
                      with_reducible rfl
                    rotate_left
                    · simp only [Act.put, List.setIfInBounds_toArray, List.set_cons_zero, List.set_cons_succ, i64_w, i32_w]
                      rfl
                    exact norm_ (by first | (simp only [putAll, Act.put, List.setIfInBounds_toArray, List.set_cons_zero, List.set_cons_succ]; done) | (simp only [putAll, Act.put, List.setIfInBounds_toArray, List.set_cons_zero, List.set_cons_succ]; rfl)) (hJ0_1_2_3 (v107, v110) _ ⟨(by (with_reducible repeat (first | apply Kd.R_alloc | apply Kd.R_drewN | apply Kd.R_drew)); exact HO108.out), (by (with_reducible repeat (first | apply Kd.R_alloc | apply Kd.R_drewN | apply Kd.R_drew)); exact HO111.out), (by repeat (first | (with_reducible first | exact HB.out | apply below_alloc | apply pw_below_drewN | apply below_drew1) | exact HB.out))⟩)
                · skip
                  rintro ⟨v107, v110⟩ w16 ⟨h0_, h1_, h2_⟩
                  have n0_ : Aside0 (Kd.R (Kd.int .u8) 5 w16 w.heap.size (fun k_ => some k_ ≠ (v110 : Value).ownBlock) v107 y106) := ⟨h0_⟩
                  have n1_ : Aside0 (Kd.R (Kd.int .u8) 5 w16 w.heap.size (fun k_ => some k_ ≠ (v107 : Value).ownBlock) v110 y109) := ⟨h1_⟩
                  have n2_ : Aside0 (Below w.heap.size w w16) := ⟨h2_⟩
                  clear HB
                  clear h0_ h1_ h2_
                  have HO108 := n0_
                  have HO111 := n1_
                  have HB := n2_
                  clear n0_ n1_ n2_
                  have hHeld := trivial
                  refine norm_ (a' := ?_) ?_ ?_
                  rotate_left
                  · simp only [putAll, Act.put, List.setIfInBounds_toArray, List.set_cons_zero, List.set_cons_succ]
                    rfl
                  refine one_ (i := 3) (N := some 12) #[true, true, true, true, true, false] rfl rfl (by kernel_rfl) (by decide) (fun K hK => ?_)
                  have hcv17 := own_string (P := Try.prog) Try.underlying28 Try.underlying5 Try.underlying9 (Kd.own_of_R HO111.out)
                  refine value_ (w1 := ?_) (v := ?_) (by rfl) rfl ?_ ?_
                  rotate_left 2
                  · go_simp
                    constructor
                    · rfl
                    · rfl
                  clear hcv17
                  refine hK.out _ _ trivial (fun hHeld => ?_)
                  clear hK K
                  refine norm_ (a' := ?_) ?_ ?_
                  rotate_left
                  · show Act.put _ (some 12) _ = _
                    simp only [Act.put, List.setIfInBounds_toArray, List.set_cons_zero, List.set_cons_succ, i64_w, i32_w]
                    rfl
                  exact norm_ (by first | (simp only [putAll, Act.put, List.setIfInBounds_toArray, List.set_cons_zero, List.set_cons_succ]; done) | (simp only [putAll, Act.put, List.setIfInBounds_toArray, List.set_cons_zero, List.set_cons_succ]; rfl)) (hJ0_1_2_3 (v107, v110) _ ⟨(by (with_reducible repeat (first | apply Kd.R_alloc | apply Kd.R_drewN | apply Kd.R_drew)); exact HO108.out), (by (with_reducible repeat (first | apply Kd.R_alloc | apply Kd.R_drewN | apply Kd.R_drew)); exact HO111.out), (by repeat (first | (with_reducible first | exact HB.out | apply below_alloc | apply pw_below_drewN | apply below_drew1) | exact HB.out))⟩)
              rintro ⟨v107, v110⟩ w17 ⟨h0_, h1_, h2_⟩
              have n0_ : Aside0 (Kd.R (Kd.int .u8) 5 w17 w.heap.size (fun k_ => some k_ ≠ (v110 : Value).ownBlock) v107 y106) := ⟨h0_⟩
              have n1_ : Aside0 (Kd.R (Kd.int .u8) 5 w17 w.heap.size (fun k_ => some k_ ≠ (v107 : Value).ownBlock) v110 y109) := ⟨h1_⟩
              have n2_ : Aside0 (Below w.heap.size w w17) := ⟨h2_⟩
              clear HB
              clear h0_ h1_ h2_
              have HO108 := n0_
              have HO111 := n1_
              have HB := n2_
              clear n0_ n1_ n2_
              have hHeld := trivial
              refine norm_ (a' := ?_) ?_ ?_
              rotate_left
              · simp only [putAll, Act.put, List.setIfInBounds_toArray, List.set_cons_zero, List.set_cons_succ]
                rfl
              refine pure_ (i := 5) (N := some 2) (v := ?_) (a' := ?_) #[true, true, true, true, true, true] rfl rfl (by kernel_rfl) (fun _ _ _ h => h) (Or.inl ⟨by rfl, ?_⟩) ?_ ?_
              rotate_left
              · intro w'
                go_simp
                with_reducible rfl
              rotate_left
              · simp only [Act.put, List.setIfInBounds_toArray, List.set_cons_zero, List.set_cons_succ, i64_w, i32_w]
                rfl
              refine done_ (by kernel_rfl) ?_
              try go_wp2_with (first | ((with_reducible refine gate_callee (f := 13) rfl ?_); refine goesL_ (some 16) rfl rfl Try.func13 (by kernel_rfl) rfl #[.string (strOfNums y106), .string (strOfNums y109), .string (⟨#[98]⟩ : ByteArray), .string (⟨#[116, 101, 120, 116]⟩ : ByteArray)] rfl (by (try simp only [List.map_toArray, List.map_cons, List.map_nil]); first | done | rfl | (simp only [List.length_drop, List.length_take]; rfl)) ?_; (with_reducible refine (aead_Seal.calls (strOfNums y106) (strOfNums y109) (⟨#[98]⟩ : ByteArray) (⟨#[116, 101, 120, 116]⟩ : ByteArray) t112 t113 _ A3.out).mono ?_); rintro e w18 ⟨rfl, hb⟩; refine ⟨_, rfl, ?_⟩; have n0_ := Aside0.mk (Kd.R_below (by (with_reducible repeat (first | apply Kd.R_alloc | apply Kd.R_drewN | apply Kd.R_drew)); exact HO108.out) hb); have n1_ := Aside0.mk (Kd.R_below (by (with_reducible repeat (first | apply Kd.R_alloc | apply Kd.R_drewN | apply Kd.R_drew)); exact HO111.out) hb); have n2_ := Aside0.mk (below_step (by repeat (first | (with_reducible first | exact HB.out | apply below_alloc | apply pw_below_drewN | apply below_drew1) | exact HB.out)) hb); clear HO108; clear HO111; clear HB; have HO108 := n0_; have HO111 := n1_; have HB := n2_; clear n0_ n1_ n2_; (try clear hb); (try clear hb2); (try clear hk); (try clear hi)) | ((with_reducible refine gate_callee (f := 15) rfl ?_); refine goesL_ (some 23) rfl rfl Try.func15 (by kernel_rfl) rfl #[.string (strOfNums y106), .string (strOfNums y109), .string (⟨#[98]⟩ : ByteArray), .string t112] rfl (by (try simp only [List.map_toArray, List.map_cons, List.map_nil]); first | done | rfl | (simp only [List.length_drop, List.length_take]; rfl)) ?_; (with_reducible refine (aead_Open.calls (strOfNums y106) (strOfNums y109) (⟨#[98]⟩ : ByteArray) t112 t114 t115 _ A4.out).mono ?_); rintro e w19 ⟨rfl, hb⟩; refine ⟨_, rfl, ?_⟩; have n0_ := Aside0.mk (Kd.R_below (by (with_reducible repeat (first | apply Kd.R_alloc | apply Kd.R_drewN | apply Kd.R_drew)); exact HO108.out) hb); have n1_ := Aside0.mk (Kd.R_below (by (with_reducible repeat (first | apply Kd.R_alloc | apply Kd.R_drewN | apply Kd.R_drew)); exact HO111.out) hb); have n2_ := Aside0.mk (below_step (by repeat (first | (with_reducible first | exact HB.out | apply below_alloc | apply pw_below_drewN | apply below_drew1) | exact HB.out)) hb); clear HO108; clear HO111; clear HB; have HO108 := n0_; have HO111 := n1_; have HB := n2_; clear n0_ n1_ n2_; (try clear hb); (try clear hb2); (try clear hk); (try clear hi)) | ((with_reducible refine gate_callee (f := 15) rfl ?_); refine goesL_ (some 30) rfl rfl Try.func15 (by kernel_rfl) rfl #[.string (strOfNums y106), .string (strOfNums y109), .string (⟨#[99]⟩ : ByteArray), .string t112] rfl (by (try simp only [List.map_toArray, List.map_cons, List.map_nil]); first | done | rfl | (simp only [List.length_drop, List.length_take]; rfl)) ?_; (with_reducible refine (aead_Open.calls (strOfNums y106) (strOfNums y109) (⟨#[99]⟩ : ByteArray) t112 t116 t117 _ A5.out).mono ?_); rintro e w20 ⟨rfl, hb⟩; refine ⟨_, rfl, ?_⟩; have n0_ := Aside0.mk (Kd.R_below (by (with_reducible repeat (first | apply Kd.R_alloc | apply Kd.R_drewN | apply Kd.R_drew)); exact HO108.out) hb); have n1_ := Aside0.mk (Kd.R_below (by (with_reducible repeat (first | apply Kd.R_alloc | apply Kd.R_drewN | apply Kd.R_drew)); exact HO111.out) hb); have n2_ := Aside0.mk (below_step (by repeat (first | (with_reducible first | exact HB.out | apply below_alloc | apply pw_below_drewN | apply below_drew1) | exact HB.out)) hb); clear HO108; clear HO111; clear HB; have HO108 := n0_; have HO111 := n1_; have HB := n2_; clear n0_ n1_ n2_; (try clear hb); (try clear hb2); (try clear hk); (try clear hi)))
              go_ret
              exact ⟨by first | rfl | (simp [errW_none, errW_some] <;> rfl) | (simp [*, errW_none, errW_some] <;> rfl), by repeat (first | (with_reducible first | exact HB.out | apply below_alloc | apply pw_below_drewN | apply below_drew1) | exact HB.out)⟩
            · rw [if_neg c9] at H
              exact absurd (H.trans (congrArg some hr)) (by decide)
          · rw [if_neg c8] at H
            exact absurd (H.trans (congrArg some hr)) (by decide)
        · rw [if_neg c7] at H
          exact absurd (H.trans (congrArg some hr)) (by decide)
      · rw [if_neg c6] at H
        exact absurd (H.trans (congrArg some hr)) (by decide)
    · rw [if_neg c2] at H
      exact absurd H (by simp)
  · rw [if_neg c1] at H
    exact absurd H (by simp)
end Go.Proofs.Ytmablneefndedaa.Pr
end

section
namespace Go.Proofs.Ytmablneefndedaa.Pr
open Go.RowKit Go.Proofs.YtmablneefndedaaW.PrintWords Go.Proofs.YtmablneefndedaaW.PrintLast Go.Proofs.YtmablneefndedaaW.PrintMore
attribute [local go_sem] max2_int min2_int max_two min_two max_three min_three max_four min_four   -- for this text's walks alone
set_option linter.unusedVariables false
set_option linter.unusedSimpArgs false
def samphireref07_may.f (a0 : ByteArray) (a1 : ByteArray) (a2 : Int) (a3 : Int) : Option (Bool) := if (a0.size : Int) = 32 then (if (a1.size : Int) = 12 then (if a2 ≤ 32768 then (some (decide (a3 ≤ (wrap64 (32768 - a2))))) else (some false)) else (some false)) else (some false)
set_option maxHeartbeats 8000000 in
set_option maxRecDepth 100000 in
theorem samphireref07_may.calls (a0 : ByteArray) (a1 : ByteArray) (a2 : Int) (a3 : Int) (r : Bool) (w : World) (h : samphireref07_may.f a0 a1 a2 a3 = some r) :
    Calls Try.prog 30 #[.string a0, .string a1, .int .i64 a2, .int .i64 a3] w fun e w' => e = .returned (.bool r) ∧ Drawn0 w w' := by
  have H : (if (a0.size : Int) = 32 then (if (a1.size : Int) = 12 then (if a2 ≤ 32768 then (some (decide (a3 ≤ (wrap64 (32768 - a2))))) else (some false)) else (some false)) else (some false)) = some r := h
  clear h
  by_cases c5 : (a0.size : Int) = 32
  · rw [if_pos c5] at H
    have c5b0 : ((a0.size : Int) == 32) = true := beq_iff_eq.mpr c5
    have c5b1 : ((a0.size : Int) != 32) = false := bne_eq_false_iff_eq.mpr c5
    clear c5
    by_cases c6 : (a1.size : Int) = 12
    · rw [if_pos c6] at H
      have c6b0 : ((a1.size : Int) == 12) = true := beq_iff_eq.mpr c6
      have c6b1 : ((a1.size : Int) != 12) = false := bne_eq_false_iff_eq.mpr c6
      clear c6
      by_cases c7 : a2 ≤ 32768
      · rw [if_pos c7] at H
        have c7b0 : decide (a2 ≤ 32768) = true := decide_eq_true c7
        clear c7
        obtain rfl := Option.some.inj H
        go_enter Try.func30, Try.ntmps30
        go_wp2
        go_ret
        exact ⟨by first | rfl | (simp; done) | (simp [*]; done), by repeat (first | exact Drawn0.refl _ | apply Drawn0.step)⟩
      · rw [if_neg c7] at H
        have c7b0 : decide (a2 ≤ 32768) = false := decide_eq_false c7
        clear c7
        obtain rfl := Option.some.inj H
        go_enter Try.func30, Try.ntmps30
        go_wp2
        go_ret
        exact ⟨by first | rfl | (simp; done) | (simp [*]; done), by repeat (first | exact Drawn0.refl _ | apply Drawn0.step)⟩
    · rw [if_neg c6] at H
      have c6b0 : ((a1.size : Int) == 12) = false := beq_eq_false_iff_ne.mpr c6
      have c6b1 : ((a1.size : Int) != 12) = true := bne_iff_ne.mpr c6
      obtain rfl := Option.some.inj H
      go_enter Try.func30, Try.ntmps30
      go_wp2
      go_ret
      exact ⟨by first | rfl | (simp; done) | (simp [*]; done), by repeat (first | exact Drawn0.refl _ | apply Drawn0.step)⟩
  · rw [if_neg c5] at H
    have c5b0 : ((a0.size : Int) == 32) = false := beq_eq_false_iff_ne.mpr c5
    have c5b1 : ((a0.size : Int) != 32) = true := bne_iff_ne.mpr c5
    obtain rfl := Option.some.inj H
    go_enter Try.func30, Try.ntmps30
    go_wp2
    go_ret
    exact ⟨by first | rfl | (simp; done) | (simp [*]; done), by repeat (first | exact Drawn0.refl _ | apply Drawn0.step)⟩
end Go.Proofs.Ytmablneefndedaa.Pr
end

section
namespace Go.Proofs.Ytmablneefndedaa.Pr
open Go.RowKit Go.Proofs.YtmablneefndedaaW.PrintWords
set_option maxHeartbeats 1000000
set_option linter.unusedVariables false
set_option linter.unusedSimpArgs false
set_option maxRecDepth 100000 in
theorem rQuarter_calls (a b c d : Nat) (w : World) (ha : a < 4294967296) (hb : b < 4294967296) (hc : c < 4294967296) (hd : d < 4294967296) :
    Calls Try.prog 109 #[.agg #[.int .i64 a, .int .i64 b, .int .i64 c, .int .i64 d]] w fun e w' => e = .returned (.agg #[.int .i64 (qa2 a b c d : Nat), .int .i64 (qb2 a b c d : Nat), .int .i64 (qc2 a b c d : Nat), .int .i64 (qd2 a b c d : Nat)]) ∧ Below w.heap.size w w' := by
  obtain ⟨k1, k2, k3, k4, k5, k6, k7, k8⟩ := qbounds a b c d ha hb hc hd
  have word : ∀ (z : Int) (n r : Nat), z = (n : Int) → n % 4294967296 = r → n < 4611686018427387904 → ∀ W, Calls Try.prog 114 #[.int .i64 z] W fun e w' => e = .returned (.int .i64 (r : Nat)) ∧ w' = W := by
    intro z n r hz hr hn W
    subst hz; subst hr
    exact word_any n W hn
  have c1 := Aside0.mk (word ((a : Int) + b) (a + b) (qa1 a b) (by omega) rfl (by omega))
  have c2 := Aside0.mk (word ((c : Int) + ((qd1 a b d : Nat) : Int)) (c + qd1 a b d) (qc1 a b c d) (by omega) rfl (by omega))
  have c3 := Aside0.mk (word (((qa1 a b : Nat) : Int) + ((qb1 a b c d : Nat) : Int)) (qa1 a b + qb1 a b c d) (qa2 a b c d) (by omega) rfl (by omega))
  have c4 := Aside0.mk (word (((qc1 a b c d : Nat) : Int) + ((qd2 a b c d : Nat) : Int)) (qc1 a b c d + qd2 a b c d) (qc2 a b c d) (by omega) rfl (by omega))
  have r1 : Aside0 (∀ W, Calls Try.prog 122 #[.int .i64 (bits .xor .i64 (d : Int) ((qa1 a b : Nat) : Int)), .int .i64 16] W fun e w' => e = .returned (.int .i64 (qd1 a b d : Nat)) ∧ ∃ n, w' = W.drewN n) := ⟨fun W => by
    rw [xor62 _ _ (by omega) (by omega)]; exact rot_16 _ W (xlt32 hd k1)⟩
  have r2 : Aside0 (∀ W, Calls Try.prog 122 #[.int .i64 (bits .xor .i64 (b : Int) ((qc1 a b c d : Nat) : Int)), .int .i64 12] W fun e w' => e = .returned (.int .i64 (qb1 a b c d : Nat)) ∧ ∃ n, w' = W.drewN n) := ⟨fun W => by
    rw [xor62 _ _ (by omega) (by omega)]; exact rot_12 _ W (xlt32 hb k3)⟩
  have r3 : Aside0 (∀ W, Calls Try.prog 122 #[.int .i64 (bits .xor .i64 ((qd1 a b d : Nat) : Int) ((qa2 a b c d : Nat) : Int)), .int .i64 8] W fun e w' => e = .returned (.int .i64 (qd2 a b c d : Nat)) ∧ ∃ n, w' = W.drewN n) := ⟨fun W => by
    rw [xor62 _ _ (by omega) (by omega)]; exact rot_8 _ W (xlt32 k2 k5)⟩
  have r4 : Aside0 (∀ W, Calls Try.prog 122 #[.int .i64 (bits .xor .i64 ((qb1 a b c d : Nat) : Int) ((qc2 a b c d : Nat) : Int)), .int .i64 7] W fun e w' => e = .returned (.int .i64 (qb2 a b c d : Nat)) ∧ ∃ n, w' = W.drewN n) := ⟨fun W => by
    rw [xor62 _ _ (by omega) (by omega)]; exact rot_7 _ W (xlt32 k4 k7)⟩
  have wa := Aside0.mk (word (a : Int) a a rfl (Nat.mod_eq_of_lt ha) (by omega))
  have wb := Aside0.mk (word (b : Int) b b rfl (Nat.mod_eq_of_lt hb) (by omega))
  have wc := Aside0.mk (word (c : Int) c c rfl (Nat.mod_eq_of_lt hc) (by omega))
  have wd := Aside0.mk (word (d : Int) d d rfl (Nat.mod_eq_of_lt hd) (by omega))
  clear word
  generalize qa1 a b = a1 at *
  generalize qd1 a b d = d1 at *
  generalize qc1 a b c d = c1' at *
  generalize qb1 a b c d = b1 at *
  generalize qa2 a b c d = a2 at *
  generalize qd2 a b c d = d2 at *
  generalize qc2 a b c d = c2' at *
  generalize qb2 a b c d = b2 at *
  go_enter Try.func109, Try.ntmps109
  go_wp2_with (fail)
  go_quiet (first | (go_at_call 114; exact Calls.quiet_of_same (wa.out _)) | (go_at_call 114; exact Calls.quiet_of_same (wb.out _)) | (go_at_call 114; exact Calls.quiet_of_same (wc.out _)) | (go_at_call 114; exact Calls.quiet_of_same (wd.out _)))
  go_wp2_with (fail)
  refine (c1.out _).mono ?_
  rintro e w1 ⟨rfl, rfl⟩
  go_wp2_with (fail)
  refine (r1.out _).mono ?_
  rintro e w1 ⟨rfl, ⟨n1, rfl⟩⟩
  go_wp2_with (fail)
  refine (c2.out _).mono ?_
  rintro e w1 ⟨rfl, rfl⟩
  go_wp2_with (fail)
  refine (r2.out _).mono ?_
  rintro e w1 ⟨rfl, ⟨n3, rfl⟩⟩
  go_wp2_with (fail)
  refine (c3.out _).mono ?_
  rintro e w1 ⟨rfl, rfl⟩
  go_wp2_with (fail)
  refine (r3.out _).mono ?_
  rintro e w1 ⟨rfl, ⟨n5, rfl⟩⟩
  go_wp2_with (fail)
  refine (c4.out _).mono ?_
  rintro e w1 ⟨rfl, rfl⟩
  go_wp2_with (fail)
  refine (r4.out _).mono ?_
  rintro e w1 ⟨rfl, ⟨n7, rfl⟩⟩
  go_wp2_with (fail)
  have hb0 : (((w.alloc (.cells #[.int .i64 a, .int .i64 b, .int .i64 c, .int .i64 d] 111)).alloc (.cells #[.int .i64 0, .int .i64 0, .int .i64 0, .int .i64 0] 111)).drewN (nq + n1 + n3 + n5 + n7)).heap[w.heap.size + 1]? = some (.cells #[.int .i64 0, .int .i64 0, .int .i64 0, .int .i64 0] 111 (0, 0)) := by
    have := heap_alloc_new (w.alloc (.cells #[.int .i64 a, .int .i64 b, .int .i64 c, .int .i64 d] 111)) (.cells #[.int .i64 0, .int .i64 0, .int .i64 0, .int .i64 0] 111)
    rwa [show (w.alloc (.cells #[.int .i64 a, .int .i64 b, .int .i64 c, .int .i64 d] 111)).heap.size = w.heap.size + 1 by simp] at this
  refine bodyPost_ret (results_cell_row rfl _ _ (w.heap.size + 1) 111 #[.int .i64 a2, .int .i64 b2, .int .i64 c2', .int .i64 d2] (0, 0) _ rfl (blk_put (blk_put (blk_put (blk_put hb0 0 _ rfl) 1 _ rfl) 2 _ rfl) 3 _ rfl) Try.underlying111 rfl (by kernel_rfl)) rfl ?_
  refine ⟨rfl, ?_⟩
  have hB := pw_below_drewN (below_alloc (below_alloc (Below.refl w.heap.size w) (.cells #[.int .i64 a, .int .i64 b, .int .i64 c, .int .i64 d] 111)) (.cells #[.int .i64 0, .int .i64 0, .int .i64 0, .int .i64 0] 111)) (nq + n1 + n3 + n5 + n7)
  exact (((hB.setCell (by simp) _).setCell (by simp) _).setCell (by simp) _).setCell (by simp) _
end Go.Proofs.Ytmablneefndedaa.Pr
end

section
namespace Go.Proofs.Ytmablneefndedaa.Pr
open Go.RowKit Go.Proofs.YtmablneefndedaaW.PrintWords Go.Proofs.YtmablneefndedaaW.PrintLast Go.Proofs.YtmablneefndedaaW.PrintMore
attribute [local go_sem] max2_int min2_int max_two min_two max_three min_three max_four min_four   -- for this text's walks alone
set_option linter.unusedVariables false
set_option linter.unusedSimpArgs false
def samphireref01_PutBig.l0 : Nat → List Int → List Int → Int → Option (ByteArray)
  | 0, _, _, _ => none
  | k + 1, x0, x3, x4 => if x4 < (x0.length : Int) then (if 0 ≤ x4 then ((samphireref01_Word.f (rd x0 x4)).bind fun t119 => (if x3.length < 140737488355328 then ((some (x3 ++ [(t119 / 16777216) % 256] : List Int)).bind fun y120 => (if y120.length < 140737488355328 then ((some (y120 ++ [(Go.bits .and .i64 (t119 / 65536) 255) % 256] : List Int)).bind fun y123 => (if y123.length < 140737488355328 then ((some (y123 ++ [(Go.bits .and .i64 (t119 / 256) 255) % 256] : List Int)).bind fun y126 => (if y126.length < 140737488355328 then (samphireref01_PutBig.l0 k x0 (y126 ++ [(Go.bits .and .i64 t119 255) % 256]) (wrap64 (x4 + 1))) else (none))) else (none))) else (none))) else (none))) else (none)) else (some (strOfNums x3))
def samphireref01_PutBig.f (k : Nat) (l0 : List Int) : Option (ByteArray) := samphireref01_PutBig.l0 k l0 ([] : List Int) 0
set_option maxHeartbeats 8000000 in
set_option maxRecDepth 100000 in
theorem samphireref01_PutBig.calls (k : Nat) (A0 : Option Addr) (c0 : Nat) (l0 : List Int) (r : ByteArray) (w : World) (hr0 : Kd.C (Kd.int .i64) w A0 l0.length l0) (hc0 : l0.length ≤ c0) (h : samphireref01_PutBig.f k l0 = some r) :
    Calls Try.prog 91 #[.slice A0 l0.length c0] w fun e w' => e = .returned (.string r) ∧ Below w.heap.size w w' := by
  have HR0 := Aside0.mk hr0
  have HC0 := Aside0.mk hc0
  clear hr0 hc0
  have HB := Aside0.mk (Below.refl w.heap.size w)
  have H : (samphireref01_PutBig.l0 k l0 ([] : List Int) 0) = some r := h
  clear h
  have H' := Aside0.mk H
  clear H
  go_enter Try.func91, Try.ntmps91
  go_wp2
  go_loopg [3, 4] k (fun kq v3 v4 w' => ∃ (x3_1 : List Int) (x4_1 : Int), v4 = .int .i64 x4_1 ∧ Aside0 (samphireref01_PutBig.l0 kq l0 x3_1 x4_1 = some r) ∧ Aside0 (kq ≤ k) ∧ Aside0 (Kd.R (Kd.int .u8) 5 w' w.heap.size (fun _ => True) v3 x3_1) ∧ Aside0 (Below w.heap.size w w'))
  case atStart => exact ⟨(([] : List Int)), (0), (by first | rfl | (simp; done) | (simp [*]; done)), H', ⟨Nat.le_refl _⟩, ⟨by first | exact Kd.R_nil _ _ _ _ _ | exact Kd.N_nil _ _ _ _ _ | exact Kd.V_nil _ _ _ _ _ | exact Kd.Q_nil _ _ _ _ _ | exact Kd.S_nil _ _ _ _ _⟩, ⟨by repeat (first | (with_reducible first | exact HB.out | apply below_alloc | apply pw_below_drewN | apply below_drew1) | exact HB.out)⟩⟩
  case round =>
    clear H'
    obtain ⟨x3_1, x4_1, rfl, HA, HK1, HO_3, HB⟩ := hrel
    cases gk with
    | zero => exact absurd HA.out (by simp [samphireref01_PutBig.l0])
    | succ k1 =>
      have H := HA.out
      clear HA
      simp only [samphireref01_PutBig.l0] at H
      by_cases c2 : x4_1 < (l0.length : Int)
      · rw [if_pos c2] at H
        have c2b0 : decide (x4_1 < (l0.length : Int)) = true := decide_eq_true c2
        clear c2
        by_cases c3 : 0 ≤ x4_1
        · rw [if_pos c3] at H
          have c3b0 : decide (0 ≤ x4_1) = true := decide_eq_true c3
          clear c3
          replace H := Option.bind_eq_some_iff.mp H
          obtain ⟨t119, A40, H⟩ := H
          replace H : (if x3_1.length < 140737488355328 then ((some (x3_1 ++ [(t119 / 16777216) % 256] : List Int)).bind fun y120 => (if y120.length < 140737488355328 then ((some (y120 ++ [(Go.bits .and .i64 (t119 / 65536) 255) % 256] : List Int)).bind fun y123 => (if y123.length < 140737488355328 then ((some (y123 ++ [(Go.bits .and .i64 (t119 / 256) 255) % 256] : List Int)).bind fun y126 => (if y126.length < 140737488355328 then (samphireref01_PutBig.l0 k1 l0 (y126 ++ [(Go.bits .and .i64 t119 255) % 256]) (wrap64 (x4_1 + 1))) else (none))) else (none))) else (none))) else (none)) = some r := H
          have A4 := Aside0.mk A40
          clear A40
          by_cases c5 : x3_1.length < 140737488355328
          · rw [if_pos c5] at H
            have LMc5 := Aside0.mk c5
            clear c5
            obtain ⟨y120, hy120⟩ : ∃ y_ : List Int, y_ = (x3_1 ++ [(t119 / 16777216) % 256]) := ⟨_, rfl⟩
            replace H : (if y120.length < 140737488355328 then ((some (y120 ++ [(Go.bits .and .i64 (t119 / 65536) 255) % 256] : List Int)).bind fun y123 => (if y123.length < 140737488355328 then ((some (y123 ++ [(Go.bits .and .i64 (t119 / 256) 255) % 256] : List Int)).bind fun y126 => (if y126.length < 140737488355328 then (samphireref01_PutBig.l0 k1 l0 (y126 ++ [(Go.bits .and .i64 t119 255) % 256]) (wrap64 (x4_1 + 1))) else (none))) else (none))) else (none)) = some r := by first | (rw [hy120]; with_reducible exact H) | (have H2_ := (Option.bind_some _ _).symm.trans H; rw [hy120]; with_reducible exact H2_) | (have H2_ := (Option.bind_some _ _).symm.trans H; with_reducible exact H2_) | with_reducible exact H | (rw [hy120]; exact H) | exact H
            have Ny120 := Aside0.mk hy120
            clear hy120
            by_cases c6 : y120.length < 140737488355328
            · rw [if_pos c6] at H
              have LMc6 := Aside0.mk c6
              clear c6
              obtain ⟨y123, hy123⟩ : ∃ y_ : List Int, y_ = (y120 ++ [(Go.bits .and .i64 (t119 / 65536) 255) % 256]) := ⟨_, rfl⟩
              replace H : (if y123.length < 140737488355328 then ((some (y123 ++ [(Go.bits .and .i64 (t119 / 256) 255) % 256] : List Int)).bind fun y126 => (if y126.length < 140737488355328 then (samphireref01_PutBig.l0 k1 l0 (y126 ++ [(Go.bits .and .i64 t119 255) % 256]) (wrap64 (x4_1 + 1))) else (none))) else (none)) = some r := by first | (rw [hy123]; with_reducible exact H) | (have H2_ := (Option.bind_some _ _).symm.trans H; rw [hy123]; with_reducible exact H2_) | (have H2_ := (Option.bind_some _ _).symm.trans H; with_reducible exact H2_) | with_reducible exact H | (rw [hy123]; exact H) | exact H
              have Ny123 := Aside0.mk hy123
              clear hy123
              by_cases c7 : y123.length < 140737488355328
              · rw [if_pos c7] at H
                have LMc7 := Aside0.mk c7
                clear c7
                obtain ⟨y126, hy126⟩ : ∃ y_ : List Int, y_ = (y123 ++ [(Go.bits .and .i64 (t119 / 256) 255) % 256]) := ⟨_, rfl⟩
                replace H : (if y126.length < 140737488355328 then (samphireref01_PutBig.l0 k1 l0 (y126 ++ [(Go.bits .and .i64 t119 255) % 256]) (wrap64 (x4_1 + 1))) else (none)) = some r := by first | (rw [hy126]; with_reducible exact H) | (have H2_ := (Option.bind_some _ _).symm.trans H; rw [hy126]; with_reducible exact H2_) | (have H2_ := (Option.bind_some _ _).symm.trans H; with_reducible exact H2_) | with_reducible exact H | (rw [hy126]; exact H) | exact H
                have Ny126 := Aside0.mk hy126
                clear hy126
                by_cases c8 : y126.length < 140737488355328
                · rw [if_pos c8] at H
                  have LMc8 := Aside0.mk c8
                  clear c8
                  obtain ⟨y129, hy129⟩ : ∃ y_ : List Int, y_ = (y126 ++ [(Go.bits .and .i64 t119 255) % 256]) := ⟨_, rfl⟩
                  replace H : (samphireref01_PutBig.l0 k1 l0 y129 (wrap64 (x4_1 + 1))) = some r := by first | (rw [hy129]; with_reducible exact H) | (have H2_ := (Option.bind_some _ _).symm.trans H; rw [hy129]; with_reducible exact H2_) | (have H2_ := (Option.bind_some _ _).symm.trans H; with_reducible exact H2_) | with_reducible exact H | (rw [hy129]; exact H) | exact H
                  have Ny129 := Aside0.mk hy129
                  clear hy129
                  have H' := Aside0.mk H
                  clear H
                  have p118 : 0 ≤ (x4_1 : Int) := of_decide_eq_true (by first | (with_reducible assumption) | assumption)
                  have q118 : x4_1 < (l0.length : Int) := of_decide_eq_true (by first | (with_reducible assumption) | assumption)
                  obtain ⟨ad118, e118, hx118_0⟩ := Kd.at_int HR0.out x4_1 p118 q118
                  cases e118
                  replace hx118_0 := (HB.out.cell (World.block_lt_of_cell? w _ hx118_0)).trans hx118_0
                  replace p118 := eq_true p118
                  replace q118 := eq_true q118
                  go_wp2_with (first | ((with_reducible refine gate_callee (f := 114) rfl ?_); refine goesL_ (some 16) rfl rfl Try.func114 (by kernel_rfl) rfl #[.int .i64 (rd l0 x4_1)] rfl (by (try simp only [List.map_toArray, List.map_cons, List.map_nil]); first | done | rfl | (simp only [List.length_drop, List.length_take]; rfl)) ?_; (with_reducible refine (samphireref01_Word.calls (rd l0 x4_1) t119 _ A4.out).mono ?_); rintro e w' ⟨rfl, ⟨nd, rfl⟩⟩; refine ⟨_, rfl, ?_⟩) | ((with_reducible refine gate_builtin (b := .append) (xs := #[.tmp 17, .tmp 21]) rfl ?_); at_builtin; refine Kd.R_append (Kd.int .u8) (w0 := w) w.heap.size rfl (.tmp 17) (.tmp 21) 28 5 (.int .u8 0) 1 rfl Try.underlying28 info5 rfl (by decide) (by omega) u3 x3_1 ((t119 / 16777216) % 256) [.int .u8 ((t119 / 16777216) % 256)] (fun _ => True) (fun _ => False) rfl rfl ?aP (fun _ hk => hk.elim) ?aF ?aO ?aB ?aS ?aL ?_; (case aP => exact rfl); (case aB => exact (by repeat (first | (with_reducible first | exact HB.out | apply below_alloc | apply pw_below_drewN | apply below_drew1) | exact HB.out))); (case aF => exact (fun _ _ => trivial)); (case aO => exact (by (with_reducible repeat (first | apply Kd.R_alloc | apply Kd.R_drewN | apply Kd.R_drew)); exact HO_3.out)); (case aS => exact (below_size (by repeat (first | (with_reducible first | exact HB.out | apply below_alloc | apply pw_below_drewN | apply below_drew1) | exact HB.out)))); (case aL => have := LMc5.out; omega); intro v121 w9 ho hb hg hat; rw [← Ny120.out] at ho; have n0_ := Aside0.mk (hb); have n1_ := Aside0.mk (ho); clear HB; clear HO_3; have HB := n0_; have HO122 := n1_; clear n0_ n1_; clear ho hb hg hat) | ((with_reducible refine gate_builtin (b := .append) (xs := #[.tmp 23, .tmp 28]) rfl ?_); at_builtin; refine Kd.R_append (Kd.int .u8) (w0 := w) w.heap.size rfl (.tmp 23) (.tmp 28) 28 5 (.int .u8 0) 1 rfl Try.underlying28 info5 rfl (by decide) (by omega) v121 y120 ((Go.bits .and .i64 (t119 / 65536) 255) % 256) [.int .u8 ((Go.bits .and .i64 (t119 / 65536) 255) % 256)] (fun _ => True) (fun _ => False) rfl rfl ?aP (fun _ hk => hk.elim) ?aF ?aO ?aB ?aS ?aL ?_; (case aP => exact rfl); (case aB => exact (by repeat (first | (with_reducible first | exact HB.out | apply below_alloc | apply pw_below_drewN | apply below_drew1) | exact HB.out))); (case aF => exact (fun _ _ => trivial)); (case aO => exact (by (with_reducible repeat (first | apply Kd.R_alloc | apply Kd.R_drewN | apply Kd.R_drew)); exact HO122.out)); (case aS => exact (below_size (by repeat (first | (with_reducible first | exact HB.out | apply below_alloc | apply pw_below_drewN | apply below_drew1) | exact HB.out)))); (case aL => have := LMc6.out; omega); intro v124 w10 ho hb hg hat; rw [← Ny123.out] at ho; have n0_ := Aside0.mk (hb); have n1_ := Aside0.mk (ho); clear HB; clear HO122; have HB := n0_; have HO125 := n1_; clear n0_ n1_; clear ho hb hg hat) | ((with_reducible refine gate_builtin (b := .append) (xs := #[.tmp 30, .tmp 35]) rfl ?_); at_builtin; refine Kd.R_append (Kd.int .u8) (w0 := w) w.heap.size rfl (.tmp 30) (.tmp 35) 28 5 (.int .u8 0) 1 rfl Try.underlying28 info5 rfl (by decide) (by omega) v124 y123 ((Go.bits .and .i64 (t119 / 256) 255) % 256) [.int .u8 ((Go.bits .and .i64 (t119 / 256) 255) % 256)] (fun _ => True) (fun _ => False) rfl rfl ?aP (fun _ hk => hk.elim) ?aF ?aO ?aB ?aS ?aL ?_; (case aP => exact rfl); (case aB => exact (by repeat (first | (with_reducible first | exact HB.out | apply below_alloc | apply pw_below_drewN | apply below_drew1) | exact HB.out))); (case aF => exact (fun _ _ => trivial)); (case aO => exact (by (with_reducible repeat (first | apply Kd.R_alloc | apply Kd.R_drewN | apply Kd.R_drew)); exact HO125.out)); (case aS => exact (below_size (by repeat (first | (with_reducible first | exact HB.out | apply below_alloc | apply pw_below_drewN | apply below_drew1) | exact HB.out)))); (case aL => have := LMc7.out; omega); intro v127 w11 ho hb hg hat; rw [← Ny126.out] at ho; have n0_ := Aside0.mk (hb); have n1_ := Aside0.mk (ho); clear HB; clear HO125; have HB := n0_; have HO128 := n1_; clear n0_ n1_; clear ho hb hg hat) | ((with_reducible refine gate_builtin (b := .append) (xs := #[.tmp 37, .tmp 41]) rfl ?_); at_builtin; refine Kd.R_append (Kd.int .u8) (w0 := w) w.heap.size rfl (.tmp 37) (.tmp 41) 28 5 (.int .u8 0) 1 rfl Try.underlying28 info5 rfl (by decide) (by omega) v127 y126 ((Go.bits .and .i64 t119 255) % 256) [.int .u8 ((Go.bits .and .i64 t119 255) % 256)] (fun _ => True) (fun _ => False) rfl rfl ?aP (fun _ hk => hk.elim) ?aF ?aO ?aB ?aS ?aL ?_; (case aP => exact rfl); (case aB => exact (by repeat (first | (with_reducible first | exact HB.out | apply below_alloc | apply pw_below_drewN | apply below_drew1) | exact HB.out))); (case aF => exact (fun _ _ => trivial)); (case aO => exact (by (with_reducible repeat (first | apply Kd.R_alloc | apply Kd.R_drewN | apply Kd.R_drew)); exact HO128.out)); (case aS => exact (below_size (by repeat (first | (with_reducible first | exact HB.out | apply below_alloc | apply pw_below_drewN | apply below_drew1) | exact HB.out)))); (case aL => have := LMc8.out; omega); intro v130 w12 ho hb hg hat; rw [← Ny129.out] at ho; have n0_ := Aside0.mk (hb); have n1_ := Aside0.mk (ho); clear HB; clear HO128; have HB := n0_; have HO131 := n1_; clear n0_ n1_; clear ho hb hg hat))
                  go_roundg k1
                  case measure => have := HK1.out; omega
                  case rel => exact ⟨(y129), (wrap64 (x4_1 + 1)), (by first | rfl | (simp; done) | (simp [*]; done)), H', ⟨by have := HK1.out; omega⟩, ⟨by (with_reducible repeat (first | apply Kd.R_alloc | apply Kd.R_drewN | apply Kd.R_drew)); exact HO131.out⟩, ⟨by repeat (first | (with_reducible first | exact HB.out | apply below_alloc | apply pw_below_drewN | apply below_drew1) | exact HB.out)⟩⟩
                · rw [if_neg c8] at H
                  exact absurd H (by simp)
              · rw [if_neg c7] at H
                exact absurd H (by simp)
            · rw [if_neg c6] at H
              exact absurd H (by simp)
          · rw [if_neg c5] at H
            exact absurd H (by simp)
        · rw [if_neg c3] at H
          exact absurd H (by simp)
      · rw [if_neg c2] at H
        have c2b0 : decide (x4_1 < (l0.length : Int)) = false := decide_eq_false c2
        clear c2
        obtain rfl := Option.some.inj H
        have hcv13 := own_string (P := Try.prog) Try.underlying28 Try.underlying5 Try.underlying9 (Kd.own_of_R HO_3.out)
        go_wp2
        go_ret
        exact ⟨by first | rfl | (simp [errW_none, errW_some] <;> rfl) | (simp [*, errW_none, errW_some] <;> rfl), by repeat (first | (with_reducible first | exact HB.out | apply below_alloc | apply pw_below_drewN | apply below_drew1) | exact HB.out)⟩
end Go.Proofs.Ytmablneefndedaa.Pr
end

section
namespace Go.Proofs.Ytmablneefndedaa.Pr
open Go.RowKit Go.Proofs.YtmablneefndedaaW.PrintWords Go.Proofs.YtmablneefndedaaW.PrintLast Go.Proofs.YtmablneefndedaaW.PrintMore
attribute [local go_sem] max2_int min2_int max_two min_two max_three min_three max_four min_four   -- for this text's walks alone
set_option linter.unusedVariables false
set_option linter.unusedSimpArgs false
def samphireref01_Big.l0 : Nat → ByteArray → List Int → Int → Option (List Int × Int)
  | 0, _, _, _ => none
  | k + 1, x0, x4, x5 => if x5 < (x0.size : Int) then (if 0 ≤ x5 then (if 0 ≤ (wrap64 (x5 + 1)) then (if (wrap64 (x5 + 1)) < (x0.size : Int) then (if 0 ≤ (wrap64 (x5 + 2)) then (if (wrap64 (x5 + 2)) < (x0.size : Int) then (if 0 ≤ (wrap64 (x5 + 3)) then (if (wrap64 (x5 + 3)) < (x0.size : Int) then (if x4.length < 17592186044416 then (samphireref01_Big.l0 k x0 (x4 ++ [Go.bits .or .i64 (Go.bits .or .i64 (Go.bits .or .i64 (wrap64 ((wrap64 (bt x0 x5)) * 16777216)) (wrap64 ((wrap64 (bt x0 (wrap64 (x5 + 1)))) * 65536))) (wrap64 ((wrap64 (bt x0 (wrap64 (x5 + 2)))) * 256))) (wrap64 (bt x0 (wrap64 (x5 + 3))))]) (wrap64 (x5 + 4))) else (none)) else (none)) else (none)) else (none)) else (none)) else (none)) else (none)) else (none)) else (some (x4, 0))
def samphireref01_Big.f (k : Nat) (a0 : ByteArray) : Option (List Int × Int) := if ((a0.size : Int) % 4) = 0 then (samphireref01_Big.l0 k a0 ([] : List Int) 0) else (some (([] : List Int), 1))
def samphireref01_Big.T7 : Bool × List (List Nat × List Nat) := (true, [([], []), ([], []), ([], []), ([1, 2], [1, 2]), ([3], [3]), ([4], [4]), ([], []), ([], []), ([7], [7]), ([6, 8], [6, 8]), ([9], [9]), ([10], [10]), ([5, 11], [5, 11]), ([], []), ([], []), ([14], [14]), ([13, 15], [13, 15]), ([16], [16]), ([17], [17]), ([12, 18], [12, 18]), ([], []), ([], []), ([21], [21]), ([20, 22], [20, 22]), ([23], [23]), ([19, 24], [19, 24]), ([25], [25]), ([0, 26], [0, 26]), ([27, 27, 0, 1, 2, 3, 4, 5, 6, 7, 8, 9, 10, 11, 12, 13, 14, 15, 16, 17, 18, 19, 20, 21, 22, 23, 24, 25, 26, 27], [0, 27])])
def samphireref01_Big.B7 : List Nat := [0, 0, 0, 6, 14, 30, 0, 0, 128, 448, 960, 1984, 4094, 0, 0, 16384, 57344, 122880, 253952, 524286, 0, 0, 2097152, 7340032, 15728640, 33554430, 67108862, 134217727, 268435455]
theorem samphireref01_Big.tab7 : rtab .any (opsOf Try.f108 7) = samphireref01_Big.T7 := by kernel_rfl
theorem samphireref01_Big.bits7 : waitsOk samphireref01_Big.T7.2 samphireref01_Big.B7 = true := by kernel_rfl
set_option maxHeartbeats 8000000 in
set_option maxRecDepth 100000 in
theorem samphireref01_Big.calls (k : Nat) (a0 : ByteArray) (r1 : List Int) (r2 : Int) (w : World) (h : samphireref01_Big.f k a0 = some (r1, r2)) :
    Calls Try.prog 108 #[.string a0] w fun e w' => ∃ v0_ : Value, e = .returned (.tuple #[v0_, .int .i64 r2]) ∧ Kd.R (Kd.int .i64) 3 w' w.heap.size (fun _ => True) v0_ r1 ∧ Below w.heap.size w w' := by
  have HB := Aside0.mk (Below.refl w.heap.size w)
  have H : (if ((a0.size : Int) % 4) = 0 then (samphireref01_Big.l0 k a0 ([] : List Int) 0) else (some (([] : List Int), 1))) = some (r1, r2) := h
  clear h
  by_cases c2 : ((a0.size : Int) % 4) = 0
  · rw [if_pos c2] at H
    have c2b0 : (((a0.size : Int) % 4) == 0) = true := beq_iff_eq.mpr c2
    have c2b1 : (((a0.size : Int) % 4) != 0) = false := bne_eq_false_iff_eq.mpr c2
    clear c2
    have H' := Aside0.mk H
    clear H
    go_enter Try.func108, Try.ntmps108
    go_wp2
    go_loopg [4, 5] k (fun kq v4 v5 w' => ∃ (x4_1 : List Int) (x5_1 : Int), v5 = .int .i64 x5_1 ∧ Aside0 (samphireref01_Big.l0 kq a0 x4_1 x5_1 = some (r1, r2)) ∧ Aside0 (kq ≤ k) ∧ Aside0 (Kd.R (Kd.int .i64) 3 w' w.heap.size (fun _ => True) v4 x4_1) ∧ Aside0 (Below w.heap.size w w'))
    case atStart => exact ⟨(([] : List Int)), (0), (by first | rfl | (simp; done) | (simp [*]; done)), H', ⟨Nat.le_refl _⟩, ⟨by first | exact Kd.R_nil _ _ _ _ _ | exact Kd.N_nil _ _ _ _ _ | exact Kd.V_nil _ _ _ _ _ | exact Kd.Q_nil _ _ _ _ _ | exact Kd.S_nil _ _ _ _ _⟩, ⟨by repeat (first | (with_reducible first | exact HB.out | apply below_alloc | apply pw_below_drewN | apply below_drew1) | exact HB.out)⟩⟩
    case round =>
      clear H'
      try clear c1
      try clear c2
      try clear c2b0
      try clear c2b1
      try clear p2
      obtain ⟨x4_1, x5_1, rfl, HA, HK1, HO_4, HB⟩ := hrel
      cases gk with
      | zero => exact absurd HA.out (by simp [samphireref01_Big.l0])
      | succ k1 =>
        have H := HA.out
        clear HA
        simp only [samphireref01_Big.l0] at H
        by_cases c3 : x5_1 < (a0.size : Int)
        · rw [if_pos c3] at H
          have c3b0 : decide (x5_1 < (a0.size : Int)) = true := decide_eq_true c3
          clear c3
          by_cases c4 : 0 ≤ x5_1
          · rw [if_pos c4] at H
            have c4b0 : decide (0 ≤ x5_1) = true := decide_eq_true c4
            clear c4
            obtain ⟨ji6, hji6⟩ : ∃ j_ : Int, (wrap64 (x5_1 + 1)) = j_ := ⟨_, rfl⟩
            replace H : (if 0 ≤ (ji6) then (if (ji6) < (a0.size : Int) then (if 0 ≤ (wrap64 (x5_1 + 2)) then (if (wrap64 (x5_1 + 2)) < (a0.size : Int) then (if 0 ≤ (wrap64 (x5_1 + 3)) then (if (wrap64 (x5_1 + 3)) < (a0.size : Int) then (if x4_1.length < 17592186044416 then (samphireref01_Big.l0 k1 a0 (x4_1 ++ [Go.bits .or .i64 (Go.bits .or .i64 (Go.bits .or .i64 (wrap64 ((wrap64 (bt a0 x5_1)) * 16777216)) (wrap64 ((wrap64 (bt a0 (ji6))) * 65536))) (wrap64 ((wrap64 (bt a0 (wrap64 (x5_1 + 2)))) * 256))) (wrap64 (bt a0 (wrap64 (x5_1 + 3))))]) (wrap64 (x5_1 + 4))) else (none)) else (none)) else (none)) else (none)) else (none)) else (none)) else (none)) = some (r1, r2) := by first | (rw [hji6] at H; exact H) | (simp only [hji6] at H ⊢; exact H)
            have hji6w : (IntKind.i64.wrap (x5_1 + 1)) = ji6 := (i64_w _).trans hji6
            by_cases c7 : 0 ≤ (ji6)
            · rw [if_pos c7] at H
              have c7b0 : decide (0 ≤ (ji6)) = true := decide_eq_true c7
              clear c7
              by_cases c8 : (ji6) < (a0.size : Int)
              · rw [if_pos c8] at H
                have c8b0 : decide ((ji6) < (a0.size : Int)) = true := decide_eq_true c8
                clear c8
                obtain ⟨ji10, hji10⟩ : ∃ j_ : Int, (wrap64 (x5_1 + 2)) = j_ := ⟨_, rfl⟩
                replace H : (if 0 ≤ (ji10) then (if (ji10) < (a0.size : Int) then (if 0 ≤ (wrap64 (x5_1 + 3)) then (if (wrap64 (x5_1 + 3)) < (a0.size : Int) then (if x4_1.length < 17592186044416 then (samphireref01_Big.l0 k1 a0 (x4_1 ++ [Go.bits .or .i64 (Go.bits .or .i64 (Go.bits .or .i64 (wrap64 ((wrap64 (bt a0 x5_1)) * 16777216)) (wrap64 ((wrap64 (bt a0 (ji6))) * 65536))) (wrap64 ((wrap64 (bt a0 (ji10))) * 256))) (wrap64 (bt a0 (wrap64 (x5_1 + 3))))]) (wrap64 (x5_1 + 4))) else (none)) else (none)) else (none)) else (none)) else (none)) = some (r1, r2) := by first | (rw [hji10] at H; exact H) | (simp only [hji10] at H ⊢; exact H)
                have hji10w : (IntKind.i64.wrap (x5_1 + 2)) = ji10 := (i64_w _).trans hji10
                by_cases c11 : 0 ≤ (ji10)
                · rw [if_pos c11] at H
                  have c11b0 : decide (0 ≤ (ji10)) = true := decide_eq_true c11
                  clear c11
                  by_cases c12 : (ji10) < (a0.size : Int)
                  · rw [if_pos c12] at H
                    have c12b0 : decide ((ji10) < (a0.size : Int)) = true := decide_eq_true c12
                    clear c12
                    obtain ⟨ji14, hji14⟩ : ∃ j_ : Int, (wrap64 (x5_1 + 3)) = j_ := ⟨_, rfl⟩
                    replace H : (if 0 ≤ (ji14) then (if (ji14) < (a0.size : Int) then (if x4_1.length < 17592186044416 then (samphireref01_Big.l0 k1 a0 (x4_1 ++ [Go.bits .or .i64 (Go.bits .or .i64 (Go.bits .or .i64 (wrap64 ((wrap64 (bt a0 x5_1)) * 16777216)) (wrap64 ((wrap64 (bt a0 (ji6))) * 65536))) (wrap64 ((wrap64 (bt a0 (ji10))) * 256))) (wrap64 (bt a0 (ji14)))]) (wrap64 (x5_1 + 4))) else (none)) else (none)) else (none)) = some (r1, r2) := by first | (rw [hji14] at H; exact H) | (simp only [hji14] at H ⊢; exact H)
                    have hji14w : (IntKind.i64.wrap (x5_1 + 3)) = ji14 := (i64_w _).trans hji14
                    by_cases c15 : 0 ≤ (ji14)
                    · rw [if_pos c15] at H
                      have c15b0 : decide (0 ≤ (ji14)) = true := decide_eq_true c15
                      clear c15
                      by_cases c16 : (ji14) < (a0.size : Int)
                      · rw [if_pos c16] at H
                        have c16b0 : decide ((ji14) < (a0.size : Int)) = true := decide_eq_true c16
                        clear c16
                        by_cases c18 : x4_1.length < 17592186044416
                        · rw [if_pos c18] at H
                          have LMc18 := Aside0.mk c18
                          clear c18
                          obtain ⟨y134, hy134⟩ : ∃ y_ : List Int, y_ = (x4_1 ++ [Go.bits .or .i64 (Go.bits .or .i64 (Go.bits .or .i64 (wrap64 ((wrap64 (bt a0 x5_1)) * 16777216)) (wrap64 ((wrap64 (bt a0 (ji6))) * 65536))) (wrap64 ((wrap64 (bt a0 (ji10))) * 256))) (wrap64 (bt a0 (ji14)))]) := ⟨_, rfl⟩
                          replace H : (samphireref01_Big.l0 k1 a0 y134 (wrap64 (x5_1 + 4))) = some (r1, r2) := by first | (rw [hy134]; with_reducible exact H) | (have H2_ := (Option.bind_some _ _).symm.trans H; rw [hy134]; with_reducible exact H2_) | (have H2_ := (Option.bind_some _ _).symm.trans H; with_reducible exact H2_) | with_reducible exact H | (rw [hy134]; exact H) | exact H
                          have Ny134 := Aside0.mk hy134
                          clear hy134
                          have H' := Aside0.mk H
                          clear H
                          try go_wp2
                          have n0_ := Aside0.mk (Kd.R_drew HO_4.out)
                          have n1_ := Aside0.mk (below_drew1 HB.out)
                          clear HO_4
                          clear HB
                          have HO_4 := n0_
                          have HB := n1_
                          clear n0_ n1_
                          have p5 : 0 ≤ (x5_1 : Int) := of_decide_eq_true (by first | (with_reducible assumption) | assumption)
                          have q5 : x5_1 < (a0.size : Int) := of_decide_eq_true (by first | (with_reducible assumption) | assumption)
                          have hx5 := bt_at a0 x5_1
                          replace p5 := eq_true p5
                          replace q5 := eq_true q5
                          have p9 : 0 ≤ ((ji6) : Int) := of_decide_eq_true (by first | (with_reducible assumption) | assumption)
                          have q9 : (ji6) < (a0.size : Int) := of_decide_eq_true (by first | (with_reducible assumption) | assumption)
                          have hx9 := bt_at a0 (ji6)
                          replace p9 := eq_true p9
                          replace q9 := eq_true q9
                          have p13 : 0 ≤ ((ji10) : Int) := of_decide_eq_true (by first | (with_reducible assumption) | assumption)
                          have q13 : (ji10) < (a0.size : Int) := of_decide_eq_true (by first | (with_reducible assumption) | assumption)
                          have hx13 := bt_at a0 (ji10)
                          replace p13 := eq_true p13
                          replace q13 := eq_true q13
                          have p17 : 0 ≤ ((ji14) : Int) := of_decide_eq_true (by first | (with_reducible assumption) | assumption)
                          have q17 : (ji14) < (a0.size : Int) := of_decide_eq_true (by first | (with_reducible assumption) | assumption)
                          have hx17 := bt_at a0 (ji14)
                          replace p17 := eq_true p17
                          replace q17 := eq_true q17
                          refine start_ (n := 29) (S := fun w' => True) (ds := []) #[false, false, false, false, false, false, false, false, false, false, false, false, false, false, false, false, false, false, false, false, false, false, false, false, false, false, false, false, false] (by kernel_rfl) rfl rfl trivial (fun hHeld => ?_); refine with_tabW samphireref01_Big.tab7 samphireref01_Big.bits7 (fun HT_ HW_ => ?_)
                          generalize wr.drew = w19 at HO_4 HB hHeld ⊢
                          refine pure_ (i := 0) (N := some 16) (v := ?_) (a' := ?_) #[true, false, false, false, false, false, false, false, false, false, false, false, false, false, false, false, false, false, false, false, false, false, false, false, false, false, false, false, false] rfl rfl (any_of HT_.out (by kernel_rfl)) (fun _ _ _ h => h) (Or.inl ⟨by rfl, ?_⟩) ?_ ?_
                          rotate_left
                          · intro w'
                            go_simp
                            with_reducible rfl
                          rotate_left
                          · simp only [Act.put, List.setIfInBounds_toArray, List.set_cons_zero, List.set_cons_succ, i64_w, i32_w]
                            rfl
                          refine pure_ (i := 1) (N := some 17) (v := ?_) (a' := ?_) #[true, true, false, false, false, false, false, false, false, false, false, false, false, false, false, false, false, false, false, false, false, false, false, false, false, false, false, false, false] rfl rfl (any_of HT_.out (by kernel_rfl)) (fun _ _ _ h => h) (Or.inl ⟨by rfl, ?_⟩) ?_ ?_
                          rotate_left
                          · intro w'
                            go_simp
                            with_reducible rfl
                          rotate_left
                          · simp only [Act.put, List.setIfInBounds_toArray, List.set_cons_zero, List.set_cons_succ, i64_w, i32_w]
                            rfl
                          refine pure_ (i := 2) (N := some 18) (v := ?_) (a' := ?_) #[true, true, true, false, false, false, false, false, false, false, false, false, false, false, false, false, false, false, false, false, false, false, false, false, false, false, false, false, false] rfl rfl (any_of HT_.out (by kernel_rfl)) (fun _ _ _ h => h) (Or.inl ⟨by rfl, ?_⟩) ?_ ?_
                          rotate_left
                          · intro w'
                            go_simp
                            with_reducible rfl
                          rotate_left
                          · simp only [Act.put, List.setIfInBounds_toArray, List.set_cons_zero, List.set_cons_succ, i64_w, i32_w]
                            rfl
                          refine pure_ (i := 6) (N := some 22) (v := ?_) (a' := ?_) #[true, true, true, false, false, false, true, false, false, false, false, false, false, false, false, false, false, false, false, false, false, false, false, false, false, false, false, false, false] rfl rfl (any_of HT_.out (by kernel_rfl)) (fun _ _ _ h => h) (Or.inl ⟨by rfl, ?_⟩) ?_ ?_
                          rotate_left
                          · intro w'
                            go_simp
                            with_reducible rfl
                          rotate_left
                          · simp only [Act.put, List.setIfInBounds_toArray, List.set_cons_zero, List.set_cons_succ, i64_w, i32_w]
                            rfl
                          refine pure_ (i := 7) (N := some 23) (v := ?_) (a' := ?_) #[true, true, true, false, false, false, true, true, false, false, false, false, false, false, false, false, false, false, false, false, false, false, false, false, false, false, false, false, false] rfl rfl (any_of HT_.out (by kernel_rfl)) (fun _ _ _ h => h) (Or.inl ⟨by rfl, ?_⟩) ?_ ?_
                          rotate_left
                          · intro w'
                            go_simp
                            with_reducible rfl
                          rotate_left
                          · simp only [Act.put, List.setIfInBounds_toArray, List.set_cons_zero, List.set_cons_succ, i64_w, i32_w]
                            rfl
                          refine pure_ (i := 8) (N := some 24) (v := ?_) (a' := ?_) #[true, true, true, false, false, false, true, true, true, false, false, false, false, false, false, false, false, false, false, false, false, false, false, false, false, false, false, false, false] rfl rfl (any_of HT_.out (by kernel_rfl)) (fun _ _ _ h => h) (Or.inl ⟨by rfl, ?_⟩) ?_ ?_
                          rotate_left
                          · intro w'
                            go_simp
                            with_reducible rfl
                          rotate_left
                          · simp only [Act.put, List.setIfInBounds_toArray, List.set_cons_zero, List.set_cons_succ, i64_w, i32_w]
                            rfl
                          refine pure_ (i := 13) (N := some 29) (v := ?_) (a' := ?_) #[true, true, true, false, false, false, true, true, true, false, false, false, false, true, false, false, false, false, false, false, false, false, false, false, false, false, false, false, false] rfl rfl (any_of HT_.out (by kernel_rfl)) (fun _ _ _ h => h) (Or.inl ⟨by rfl, ?_⟩) ?_ ?_
                          rotate_left
                          · intro w'
                            go_simp
                            with_reducible rfl
                          rotate_left
                          · simp only [Act.put, List.setIfInBounds_toArray, List.set_cons_zero, List.set_cons_succ, i64_w, i32_w]
                            rfl
                          refine pure_ (i := 14) (N := some 30) (v := ?_) (a' := ?_) #[true, true, true, false, false, false, true, true, true, false, false, false, false, true, true, false, false, false, false, false, false, false, false, false, false, false, false, false, false] rfl rfl (any_of HT_.out (by kernel_rfl)) (fun _ _ _ h => h) (Or.inl ⟨by rfl, ?_⟩) ?_ ?_
                          rotate_left
                          · intro w'
                            go_simp
                            with_reducible rfl
                          rotate_left
                          · simp only [Act.put, List.setIfInBounds_toArray, List.set_cons_zero, List.set_cons_succ, i64_w, i32_w]
                            rfl
                          refine pure_ (i := 15) (N := some 31) (v := ?_) (a' := ?_) #[true, true, true, false, false, false, true, true, true, false, false, false, false, true, true, true, false, false, false, false, false, false, false, false, false, false, false, false, false] rfl rfl (any_of HT_.out (by kernel_rfl)) (fun _ _ _ h => h) (Or.inl ⟨by rfl, ?_⟩) ?_ ?_
                          rotate_left
                          · intro w'
                            go_simp
                            with_reducible rfl
                          rotate_left
                          · simp only [Act.put, List.setIfInBounds_toArray, List.set_cons_zero, List.set_cons_succ, i64_w, i32_w]
                            rfl
                          refine pure_ (i := 20) (N := some 36) (v := ?_) (a' := ?_) #[true, true, true, false, false, false, true, true, true, false, false, false, false, true, true, true, false, false, false, false, true, false, false, false, false, false, false, false, false] rfl rfl (any_of HT_.out (by kernel_rfl)) (fun _ _ _ h => h) (Or.inl ⟨by rfl, ?_⟩) ?_ ?_
                          rotate_left
                          · intro w'
                            go_simp
                            with_reducible rfl
                          rotate_left
                          · simp only [Act.put, List.setIfInBounds_toArray, List.set_cons_zero, List.set_cons_succ, i64_w, i32_w]
                            rfl
                          refine pure_ (i := 21) (N := some 37) (v := ?_) (a' := ?_) #[true, true, true, false, false, false, true, true, true, false, false, false, false, true, true, true, false, false, false, false, true, true, false, false, false, false, false, false, false] rfl rfl (any_of HT_.out (by kernel_rfl)) (fun _ _ _ h => h) (Or.inl ⟨by rfl, ?_⟩) ?_ ?_
                          rotate_left
                          · intro w'
                            go_simp
                            with_reducible rfl
                          rotate_left
                          · simp only [Act.put, List.setIfInBounds_toArray, List.set_cons_zero, List.set_cons_succ, i64_w, i32_w]
                            rfl
                          refine pure_ (i := 22) (N := some 38) (v := ?_) (a' := ?_) #[true, true, true, false, false, false, true, true, true, false, false, false, false, true, true, true, false, false, false, false, true, true, true, false, false, false, false, false, false] rfl rfl (any_of HT_.out (by kernel_rfl)) (fun _ _ _ h => h) (Or.inl ⟨by rfl, ?_⟩) ?_ ?_
                          rotate_left
                          · intro w'
                            go_simp
                            with_reducible rfl
                          rotate_left
                          · simp only [Act.put, List.setIfInBounds_toArray, List.set_cons_zero, List.set_cons_succ, i64_w, i32_w]
                            rfl
                          refine take_ (i := 3) (N := some 19) (v := ?_) (a' := ?_) #[true, true, true, true, false, false, true, true, true, false, false, false, false, true, true, true, false, false, false, false, true, true, true, false, false, false, false, false, false] rfl rfl (take_ofW HT_.out HW_.out (by kernel_rfl)) (fun _ _ _ h => h) (Or.inl ⟨by rfl, ?_⟩) hHeld ?_ ?_
                          rotate_left
                          · intro w' _
                            go_simp
                            with_reducible rfl
                          rotate_left
                          · simp only [Act.put, List.setIfInBounds_toArray, List.set_cons_zero, List.set_cons_succ, i64_w, i32_w]
                            rfl
                          refine pure_ (i := 4) (N := some 20) (v := ?_) (a' := ?_) #[true, true, true, true, true, false, true, true, true, false, false, false, false, true, true, true, false, false, false, false, true, true, true, false, false, false, false, false, false] rfl rfl (any_of HT_.out (by kernel_rfl)) (fun _ _ _ h => h) (Or.inl ⟨by rfl, ?_⟩) ?_ ?_
                          rotate_left
                          · intro w'
                            go_simp
                            with_reducible rfl
                          rotate_left
                          · simp only [Act.put, List.setIfInBounds_toArray, List.set_cons_zero, List.set_cons_succ, i64_w, i32_w]
                            rfl
                          refine pure_ (i := 5) (N := some 21) (v := ?_) (a' := ?_) #[true, true, true, true, true, true, true, true, true, false, false, false, false, true, true, true, false, false, false, false, true, true, true, false, false, false, false, false, false] rfl rfl (any_of HT_.out (by kernel_rfl)) (fun _ _ _ h => h) (Or.inl ⟨by rfl, ?_⟩) ?_ ?_
                          rotate_left
                          · intro w'
                            go_simp
                            with_reducible rfl
                          rotate_left
                          · simp only [Act.put, List.setIfInBounds_toArray, List.set_cons_zero, List.set_cons_succ, i64_w, i32_w]
                            rfl
                          refine take_ (i := 9) (N := some 25) (v := ?_) (a' := ?_) #[true, true, true, true, true, true, true, true, true, true, false, false, false, true, true, true, false, false, false, false, true, true, true, false, false, false, false, false, false] rfl rfl (take_ofW HT_.out HW_.out (by kernel_rfl)) (fun _ _ _ h => h) (Or.inl ⟨by rfl, ?_⟩) hHeld ?_ ?_
                          rotate_left
                          · intro w' _
                            go_simp
                            with_reducible rfl
                          rotate_left
                          · simp only [Act.put, List.setIfInBounds_toArray, List.set_cons_zero, List.set_cons_succ, i64_w, i32_w]
                            rfl
                          refine pure_ (i := 10) (N := some 26) (v := ?_) (a' := ?_) #[true, true, true, true, true, true, true, true, true, true, true, false, false, true, true, true, false, false, false, false, true, true, true, false, false, false, false, false, false] rfl rfl (any_of HT_.out (by kernel_rfl)) (fun _ _ _ h => h) (Or.inl ⟨by rfl, ?_⟩) ?_ ?_
                          rotate_left
                          · intro w'
                            go_simp
                            with_reducible rfl
                          rotate_left
                          · simp only [Act.put, List.setIfInBounds_toArray, List.set_cons_zero, List.set_cons_succ, i64_w, i32_w]
                            rfl
                          refine pure_ (i := 11) (N := some 27) (v := ?_) (a' := ?_) #[true, true, true, true, true, true, true, true, true, true, true, true, false, true, true, true, false, false, false, false, true, true, true, false, false, false, false, false, false] rfl rfl (any_of HT_.out (by kernel_rfl)) (fun _ _ _ h => h) (Or.inl ⟨by rfl, ?_⟩) ?_ ?_
                          rotate_left
                          · intro w'
                            go_simp
                            with_reducible rfl
                          rotate_left
                          · simp only [Act.put, List.setIfInBounds_toArray, List.set_cons_zero, List.set_cons_succ, i64_w, i32_w]
                            rfl
                          refine pure_ (i := 12) (N := some 28) (v := ?_) (a' := ?_) #[true, true, true, true, true, true, true, true, true, true, true, true, true, true, true, true, false, false, false, false, true, true, true, false, false, false, false, false, false] rfl rfl (any_of HT_.out (by kernel_rfl)) (fun _ _ _ h => h) (Or.inl ⟨by rfl, ?_⟩) ?_ ?_
                          rotate_left
                          · intro w'
                            go_simp
                            with_reducible rfl
                          rotate_left
                          · simp only [Act.put, List.setIfInBounds_toArray, List.set_cons_zero, List.set_cons_succ, i64_w, i32_w]
                            rfl
                          refine take_ (i := 16) (N := some 32) (v := ?_) (a' := ?_) #[true, true, true, true, true, true, true, true, true, true, true, true, true, true, true, true, true, false, false, false, true, true, true, false, false, false, false, false, false] rfl rfl (take_ofW HT_.out HW_.out (by kernel_rfl)) (fun _ _ _ h => h) (Or.inl ⟨by rfl, ?_⟩) hHeld ?_ ?_
                          rotate_left
                          · intro w' _
                            go_simp
                            with_reducible rfl
                          rotate_left
                          · simp only [Act.put, List.setIfInBounds_toArray, List.set_cons_zero, List.set_cons_succ, i64_w, i32_w]
                            rfl
                          refine pure_ (i := 17) (N := some 33) (v := ?_) (a' := ?_) #[true, true, true, true, true, true, true, true, true, true, true, true, true, true, true, true, true, true, false, false, true, true, true, false, false, false, false, false, false] rfl rfl (any_of HT_.out (by kernel_rfl)) (fun _ _ _ h => h) (Or.inl ⟨by rfl, ?_⟩) ?_ ?_
                          rotate_left
                          · intro w'
                            go_simp
                            with_reducible rfl
                          rotate_left
                          · simp only [Act.put, List.setIfInBounds_toArray, List.set_cons_zero, List.set_cons_succ, i64_w, i32_w]
                            rfl
                          refine pure_ (i := 18) (N := some 34) (v := ?_) (a' := ?_) #[true, true, true, true, true, true, true, true, true, true, true, true, true, true, true, true, true, true, true, false, true, true, true, false, false, false, false, false, false] rfl rfl (any_of HT_.out (by kernel_rfl)) (fun _ _ _ h => h) (Or.inl ⟨by rfl, ?_⟩) ?_ ?_
                          rotate_left
                          · intro w'
                            go_simp
                            with_reducible rfl
                          rotate_left
                          · simp only [Act.put, List.setIfInBounds_toArray, List.set_cons_zero, List.set_cons_succ, i64_w, i32_w]
                            rfl
                          refine pure_ (i := 19) (N := some 35) (v := ?_) (a' := ?_) #[true, true, true, true, true, true, true, true, true, true, true, true, true, true, true, true, true, true, true, true, true, true, true, false, false, false, false, false, false] rfl rfl (any_of HT_.out (by kernel_rfl)) (fun _ _ _ h => h) (Or.inl ⟨by rfl, ?_⟩) ?_ ?_
                          rotate_left
                          · intro w'
                            go_simp
                            with_reducible rfl
                          rotate_left
                          · simp only [Act.put, List.setIfInBounds_toArray, List.set_cons_zero, List.set_cons_succ, i64_w, i32_w]
                            rfl
                          refine take_ (i := 23) (N := some 39) (v := ?_) (a' := ?_) #[true, true, true, true, true, true, true, true, true, true, true, true, true, true, true, true, true, true, true, true, true, true, true, true, false, false, false, false, false] rfl rfl (take_ofW HT_.out HW_.out (by kernel_rfl)) (fun _ _ _ h => h) (Or.inl ⟨by rfl, ?_⟩) hHeld ?_ ?_
                          rotate_left
                          · intro w' _
                            go_simp
                            with_reducible rfl
                          rotate_left
                          · simp only [Act.put, List.setIfInBounds_toArray, List.set_cons_zero, List.set_cons_succ, i64_w, i32_w]
                            rfl
                          refine pure_ (i := 24) (N := some 40) (v := ?_) (a' := ?_) #[true, true, true, true, true, true, true, true, true, true, true, true, true, true, true, true, true, true, true, true, true, true, true, true, true, false, false, false, false] rfl rfl (any_of HT_.out (by kernel_rfl)) (fun _ _ _ h => h) (Or.inl ⟨by rfl, ?_⟩) ?_ ?_
                          rotate_left
                          · intro w'
                            go_simp
                            with_reducible rfl
                          rotate_left
                          · simp only [Act.put, List.setIfInBounds_toArray, List.set_cons_zero, List.set_cons_succ, i64_w, i32_w]
                            rfl
                          refine pure_ (i := 25) (N := some 41) (v := ?_) (a' := ?_) #[true, true, true, true, true, true, true, true, true, true, true, true, true, true, true, true, true, true, true, true, true, true, true, true, true, true, false, false, false] rfl rfl (any_of HT_.out (by kernel_rfl)) (fun _ _ _ h => h) (Or.inl ⟨by rfl, ?_⟩) ?_ ?_
                          rotate_left
                          · intro w'
                            go_simp
                            with_reducible rfl
                          rotate_left
                          · simp only [Act.put, List.setIfInBounds_toArray, List.set_cons_zero, List.set_cons_succ, i64_w, i32_w]
                            rfl
                          refine one_ (i := 26) (N := some 42) #[true, true, true, true, true, true, true, true, true, true, true, true, true, true, true, true, true, true, true, true, true, true, true, true, true, true, true, false, false] rfl rfl (one_of HT_.out (by kernel_rfl)) (by decide) (fun K hK => ?_)
                          refine value_ (w1 := ?_) (v := ?_) (by rfl) rfl ?_ ?_
                          rotate_left 2
                          · go_simp
                            constructor
                            · rfl
                            · rfl
                          refine hK.out _ _ trivial (fun hHeld => ?_)
                          clear hK K
                          refine norm_ (a' := ?_) ?_ ?_
                          rotate_left
                          · show Act.put _ (some 42) _ = _
                            simp only [Act.put, List.setIfInBounds_toArray, List.set_cons_zero, List.set_cons_succ, i64_w, i32_w]
                            rfl
                          refine one_ (i := 27) (N := some 43) #[true, true, true, true, true, true, true, true, true, true, true, true, true, true, true, true, true, true, true, true, true, true, true, true, true, true, true, true, false] rfl rfl (one_of HT_.out (by kernel_rfl)) (by decide) (fun K hK => ?_)
                          refine Kd.R_append_step (Kd.int .i64) (w0 := w) w.heap.size (by rfl) (.tmp 16) (.tmp 42) 53 3 (.int .i64 0) 8 rfl Try.underlying53 info3 rfl (by decide) (by omega) u4 x4_1 (Go.bits .or .i64 (Go.bits .or .i64 (Go.bits .or .i64 (wrap64 ((wrap64 (bt a0 x5_1)) * 16777216)) (wrap64 ((wrap64 (bt a0 (ji6))) * 65536))) (wrap64 ((wrap64 (bt a0 (ji10))) * 256))) (wrap64 (bt a0 (ji14)))) [.int .i64 (Go.bits .or .i64 (Go.bits .or .i64 (Go.bits .or .i64 (wrap64 ((wrap64 (bt a0 x5_1)) * 16777216)) (wrap64 ((wrap64 (bt a0 (ji6))) * 65536))) (wrap64 ((wrap64 (bt a0 (ji10))) * 256))) (wrap64 (bt a0 (ji14))))] (fun _ => True) (fun _ => False) rfl rfl ?aP (fun _ hk => hk.elim) ?aF ?aO ?aB ?aS ?aL ?_
                          (case aP => exact rfl)
                          (case aB => exact (by repeat (first | (with_reducible first | exact HB.out | apply below_alloc | apply pw_below_drewN | apply below_drew1) | exact HB.out)))
                          (case aF => exact (fun _ _ => trivial))
                          (case aO => exact (by (with_reducible repeat (first | apply Kd.R_alloc | apply Kd.R_drewN | apply Kd.R_drew)); exact HO_4.out))
                          (case aS => exact (below_size (by repeat (first | (with_reducible first | exact HB.out | apply below_alloc | apply pw_below_drewN | apply below_drew1) | exact HB.out))))
                          (case aL => have := LMc18.out; omega)
                          intro v135 w20 ho hb hg hat
                          rw [← Ny134.out] at ho
                          have n0_ := Aside0.mk (hb)
                          have n1_ := Aside0.mk (ho)
                          clear HB
                          clear HO_4
                          have HB := n0_
                          have HO136 := n1_
                          clear n0_ n1_
                          clear ho hb hg hat
                          refine hK.out _ _ trivial (fun hHeld => ?_)
                          clear hK K
                          refine norm_ (a' := ?_) ?_ ?_
                          rotate_left
                          · show Act.put _ (some 43) _ = _
                            simp only [Act.put, List.setIfInBounds_toArray, List.set_cons_zero, List.set_cons_succ, i64_w, i32_w]
                            rfl
                          refine pure_ (i := 28) (N := some 4) (v := ?_) (a' := ?_) #[true, true, true, true, true, true, true, true, true, true, true, true, true, true, true, true, true, true, true, true, true, true, true, true, true, true, true, true, true] rfl rfl (any_of HT_.out (by kernel_rfl)) (fun _ _ _ h => h) (Or.inl ⟨by rfl, ?_⟩) ?_ ?_
                          rotate_left
                          · intro w'
                            go_simp
                            with_reducible rfl
                          rotate_left
                          · simp only [Act.put, List.setIfInBounds_toArray, List.set_cons_zero, List.set_cons_succ, i64_w, i32_w]
                            rfl
                          refine done_ (done_of HT_.out (by kernel_rfl)) ?_
                          try go_wp2
                          go_roundg k1
                          case measure => have := HK1.out; omega
                          case rel => exact ⟨(y134), (wrap64 (x5_1 + 4)), (by first | rfl | (simp; done) | (simp [*]; done)), H', ⟨by have := HK1.out; omega⟩, ⟨by (with_reducible repeat (first | apply Kd.R_alloc | apply Kd.R_drewN | apply Kd.R_drew)); exact HO136.out⟩, ⟨by repeat (first | (with_reducible first | exact HB.out | apply below_alloc | apply pw_below_drewN | apply below_drew1) | exact HB.out)⟩⟩
                        · rw [if_neg c18] at H
                          exact absurd H (by simp)
                      · rw [if_neg c16] at H
                        exact absurd H (by simp)
                    · rw [if_neg c15] at H
                      exact absurd H (by simp)
                  · rw [if_neg c12] at H
                    exact absurd H (by simp)
                · rw [if_neg c11] at H
                  exact absurd H (by simp)
              · rw [if_neg c8] at H
                exact absurd H (by simp)
            · rw [if_neg c7] at H
              exact absurd H (by simp)
          · rw [if_neg c4] at H
            exact absurd H (by simp)
        · rw [if_neg c3] at H
          have c3b0 : decide (x5_1 < (a0.size : Int)) = false := decide_eq_false c3
          clear c3
          simp only [Option.some.injEq, Prod.mk.injEq] at H
          obtain ⟨rfl, rfl⟩ := H
          go_wp2
          go_ret2
          exact ⟨_, by first | rfl | (simp [errW_none, errW_some] <;> rfl) | (simp [*, errW_none, errW_some] <;> rfl), by (with_reducible repeat (first | apply Kd.R_alloc | apply Kd.R_drewN | apply Kd.R_drew)); exact HO_4.out, by repeat (first | (with_reducible first | exact HB.out | apply below_alloc | apply pw_below_drewN | apply below_drew1) | exact HB.out)⟩
  · rw [if_neg c2] at H
    have c2b0 : (((a0.size : Int) % 4) == 0) = false := beq_eq_false_iff_ne.mpr c2
    have c2b1 : (((a0.size : Int) % 4) != 0) = true := bne_iff_ne.mpr c2
    simp only [Option.some.injEq, Prod.mk.injEq] at H
    obtain ⟨rfl, rfl⟩ := H
    go_enter Try.func108, Try.ntmps108
    go_wp2
    go_ret2
    exact ⟨_, by first | rfl | (simp [errW_none, errW_some] <;> rfl) | (simp [*, errW_none, errW_some] <;> rfl), by first | exact Kd.R_nil _ _ _ _ _ | exact Kd.N_nil _ _ _ _ _ | exact Kd.V_nil _ _ _ _ _ | exact Kd.Q_nil _ _ _ _ _ | exact Kd.S_nil _ _ _ _ _, by repeat (first | (with_reducible first | exact HB.out | apply below_alloc | apply pw_below_drewN | apply below_drew1) | exact HB.out)⟩
end Go.Proofs.Ytmablneefndedaa.Pr
end

section
namespace Go.Proofs.Ytmablneefndedaa.Pr
open Go.RowKit Go.Proofs.YtmablneefndedaaW.PrintWords
set_option maxHeartbeats 1000000
set_option linter.unusedVariables false
set_option linter.unusedSimpArgs false
theorem wr (x : Int) (h0 : 0 ≤ x) (h1 : x < 4611686018427387904) : wrap64 x = x := by unfold wrap64; omega
theorem word_f (a : Nat) (h : a < 4611686018427387904) : samphireref01_Word.f (a : Int) = some ((a % 4294967296 : Nat) : Int) := by
  unfold samphireref01_Word.f
  rw [mask62 a h]
def ints (l : List Nat) : List Int := l.map fun (n : Nat) => (n : Int)
theorem ints_length (l : List Nat) : (ints l).length = l.length := by simp [ints]
theorem ints_append (a b : List Nat) : ints (a ++ b) = ints a ++ ints b := by simp [ints]
theorem rd_ints (l : List Nat) (i : Nat) : rd (ints l) (i : Int) = (l.getD i 0 : Nat) := by
  unfold rd ints
  rw [Int.toNat_natCast, List.getD_eq_getElem?_getD, List.getD_eq_getElem?_getD, List.getElem?_map]
  cases l[i]? <;> simp
theorem str_ints (l : List Nat) : strOfNums (ints l) = txt l := str_nats l
theorem and255 (n : Nat) (h : n < 4611686018427387904) : bits .and .i64 (n : Int) 255 = ((n % 256 : Nat) : Int) := by
  have := and62 n 255 h (by decide)
  rw [show ((255 : Nat) : Int) = 255 from rfl] at this
  rw [this, show (255 : Nat) = 2 ^ 8 - 1 from rfl, Nat.and_two_pow_sub_one_eq_mod]
theorem or_be62 (x y z v : Nat) (hx : x < 256) (hy : y < 256) (hz : z < 256) (hv : v < 256) : bits .or .i64 (bits .or .i64 (bits .or .i64 (wrap64 (wrap64 (x : Int) * 16777216)) (wrap64 (wrap64 (y : Int) * 65536))) (wrap64 (wrap64 (z : Int) * 256))) (wrap64 (v : Int)) = ((x * 16777216 + y * 65536 + z * 256 + v : Nat) : Int) := by
  rw [wr (x : Int) (by omega) (by omega), wr (y : Int) (by omega) (by omega), wr (z : Int) (by omega) (by omega), wr (v : Int) (by omega) (by omega), wr _ (by omega) (by omega), wr _ (by omega) (by omega), wr _ (by omega) (by omega)]
  rw [show ((x : Int) * 16777216) = ((x * 16777216 : Nat) : Int) by omega, show ((y : Int) * 65536) = ((y * 65536 : Nat) : Int) by omega, show ((z : Int) * 256) = ((z * 256 : Nat) : Int) by omega]
  have h1 : x * 16777216 ||| y * 65536 = x * 16777216 + y * 65536 := by
    have := Nat.two_pow_add_eq_or_of_lt (i := 24) (b := y * 65536) (by omega) x
    rw [Nat.mul_comm x]; exact this.symm
  have h2 : (x * 16777216 + y * 65536) ||| z * 256 = x * 16777216 + y * 65536 + z * 256 := by
    have := Nat.two_pow_add_eq_or_of_lt (i := 16) (b := z * 256) (by omega) (x * 256 + y)
    rw [show x * 16777216 + y * 65536 = 2 ^ 16 * (x * 256 + y) by omega]; exact this.symm
  have h3 : (x * 16777216 + y * 65536 + z * 256) ||| v = x * 16777216 + y * 65536 + z * 256 + v := by
    have := Nat.two_pow_add_eq_or_of_lt (i := 8) (b := v) (by omega) (x * 65536 + y * 256 + z)
    rw [show x * 16777216 + y * 65536 + z * 256 = 2 ^ 8 * (x * 65536 + y * 256 + z) by omega]; exact this.symm
  rw [or62 _ _ (by omega) (by omega), h1, or62 _ _ (by omega) (by omega), h2, or62 _ _ (by omega) (by omega), h3]
def wordsL (l : List Nat) (n : Nat) : List Nat := (List.range n).map fun j => be4 l (4 * j)
theorem wordsL_succ (l : List Nat) (n : Nat) : wordsL l (n + 1) = wordsL l n ++ [be4 l (4 * n)] := by simp [wordsL, List.range_succ]
theorem wordsL_length (l : List Nat) (n : Nat) : (wordsL l n).length = n := by simp [wordsL]
theorem big_l0 (s : ByteArray) (m : Nat) (hm : s.size = 4 * m) (hs : m ≤ 1000000) : ∀ (d k j : Nat), j + d = m → d < k →
    samphireref01_Big.l0 k s (ints (wordsL (bys s) j)) ((4 * j : Nat) : Int) = some (ints (wordsL (bys s) m), 0) := by
  intro d
  induction d with
  | zero =>
    intro k j hj hk
    obtain ⟨k, rfl⟩ : ∃ m, k = m + 1 := ⟨k - 1, by omega⟩
    simp only [samphireref01_Big.l0]
    rw [if_neg (by omega)]
    obtain rfl : j = m := by omega
    rfl
  | succ d ih =>
    intro k j hj hk
    obtain ⟨k, rfl⟩ : ∃ m, k = m + 1 := ⟨k - 1, by omega⟩
    simp only [samphireref01_Big.l0]
    rw [wr (((4 * j : Nat) : Int) + 1) (by omega) (by omega), wr (((4 * j : Nat) : Int) + 2) (by omega) (by omega), wr (((4 * j : Nat) : Int) + 3) (by omega) (by omega), wr (((4 * j : Nat) : Int) + 4) (by omega) (by omega)]
    rw [if_pos (by omega), if_pos (by omega), if_pos (by omega), if_pos (by omega), if_pos (by omega), if_pos (by omega), if_pos (by omega), if_pos (by omega), if_pos (by rw [ints_length, wordsL_length]; omega)]
    rw [show (((4 * j : Nat) : Int) + 1) = ((4 * j + 1 : Nat) : Int) by omega, show (((4 * j : Nat) : Int) + 2) = ((4 * j + 2 : Nat) : Int) by omega, show (((4 * j : Nat) : Int) + 3) = ((4 * j + 3 : Nat) : Int) by omega, show (((4 * j : Nat) : Int) + 4) = ((4 * (j + 1) : Nat) : Int) by omega]
    rw [bt_nat s _ (by omega), bt_nat s _ (by omega), bt_nat s _ (by omega), bt_nat s _ (by omega), or_be62 _ _ _ _ (bys_lt s _) (bys_lt s _) (bys_lt s _) (bys_lt s _)]
    have := ih k (j + 1) (by omega) (by omega)
    rw [wordsL_succ, ints_append] at this
    exact this
end Go.Proofs.Ytmablneefndedaa.Pr
end

section
namespace Go.Proofs.Ytmablneefndedaa.Pr
open Go.RowKit Go.Proofs.YtmablneefndedaaW.PrintWords Go.Proofs.YtmablneefndedaaW.PrintLast
set_option maxHeartbeats 2000000
set_option linter.unusedVariables false
set_option linter.unusedSimpArgs false
structure RAt (w : World) (s go cap : Nat) (Y : Array Value) (l : List Nat) (W : World) : Prop where
  own : (Kd.int .i64).R 3 W w.heap.size (fun _ => True) (.slice (some ⟨go, 0, none⟩) 16 cap) (ints l)
  box : W.heap[s]? = some (.cells Y 111 (0, 0))
  bel : Below w.heap.size w W
  ne : s ≠ go
  ge : w.heap.size ≤ go
theorem ints_set (l : List Nat) (i y : Nat) : (ints l).set i (y : Int) = ints (l.set i y) := by simp [ints]
theorem RAt.put {w W : World} {s go cap : Nat} {Y : Array Value} {l : List Nat} (h : RAt w s go cap Y l W) (i y : Nat) : RAt w s go cap Y (l.set i y) (W.setCell ⟨go, i, none⟩ (.int .i64 (y : Int))) := by
  refine ⟨?_, blk_far h.box h.ne _, below_set h.bel h.ge, h.ne, h.ge⟩
  have := Kd.R_putn h.own (i : Int) (y : Int)
  rw [Int.toNat_natCast, ints_set] at this
  exact this
theorem RAt.cell {w W : World} {s go cap : Nat} {Y : Array Value} {l : List Nat} (h : RAt w s go cap Y l W) (i : Nat) (hi : i < 16) : W.cell? ⟨go, i, none⟩ = some (.int .i64 (l.getD i 0 : Nat)) ∧ W.frozen? ⟨go, i, none⟩ = false := by
  obtain ⟨h1, h2⟩ := Kd.R_celln (0 : Int) h.own (i : Int) (by omega) (by omega)
  rw [Int.toNat_natCast] at h1 h2
  have e : rdOf (0 : Int) (ints l) (i : Int) = (l.getD i 0 : Nat) := rd_ints l i
  rw [e] at h1
  exact ⟨h1, h2⟩
set_option maxRecDepth 100000 in
theorem round_yes (ad : Addr) (c0_ : Nat) (L : List Nat) (a b c d : Nat) (w : World) (hL : L.length = 16) (hs : Small L) (ha : a < 16) (hb : b < 16) (hc : c < 16) (hd : d < 16) (hr0 : (Kd.int .i64).C w (some ad) 16 (ints L)) (hc0 : 16 ≤ c0_) :
    Calls Try.prog 84 #[.slice (some ad) 16 c0_, .int .i64 a, .int .i64 b, .int .i64 c, .int .i64 d] w fun e w' => ∃ v0_ : Value, e = .returned v0_ ∧ (Kd.int .i64).R 3 w' w.heap.size (fun _ => True) v0_ (ints (qr L a b c d)) ∧ Below w.heap.size w w' := by
  have cell : ∀ i : Nat, i < 16 → w.cell? (ad.add i) = some (.int .i64 (L.getD i 0 : Nat)) := by
    intro i hi
    obtain ⟨ad', e, h⟩ := Kd.at_int hr0 (i : Int) (by omega) (by omega)
    cases e
    rw [rd_ints] at h
    exact h
  have c0 := cell a ha
  have c1 := cell b hb
  have c2 := cell c hc
  have c3 := cell d hd
  have hq : qr L a b c d = (((L.set a (qa2 (L.getD a 0) (L.getD b 0) (L.getD c 0) (L.getD d 0))).set b (qb2 (L.getD a 0) (L.getD b 0) (L.getD c 0) (L.getD d 0))).set c (qc2 (L.getD a 0) (L.getD b 0) (L.getD c 0) (L.getD d 0))).set d (qd2 (L.getD a 0) (L.getD b 0) (L.getD c 0) (L.getD d 0)) := rfl
  have b0 := hs a
  have b1 := hs b
  have b2 := hs c
  have b3 := hs d
  rw [hq]
  clear hq cell
  generalize L.getD a 0 = x0 at *
  generalize L.getD b 0 = x1 at *
  generalize L.getD c 0 = x2 at *
  generalize L.getD d 0 = x3 at *
  have HR := Aside0.mk hr0
  have HLl := Aside0.mk hL
  have q0 : (a : Int) < 16 := by omega
  have q1 : (b : Int) < 16 := by omega
  have q2 : (c : Int) < 16 := by omega
  have q3 : (d : Int) < 16 := by omega
  clear hr0 hL hs
  go_enter Try.func84, Try.ntmps84
  go_wp2_with (fail)
  refine start_ (n := 20) (S := fun w' => w'.cell? (ad.add a) = some (.int .i64 (x0 : Int)) ∧ w'.cell? (ad.add b) = some (.int .i64 (x1 : Int)) ∧ w'.cell? (ad.add c) = some (.int .i64 (x2 : Int)) ∧ w'.cell? (ad.add d) = some (.int .i64 (x3 : Int))) (ds := [19]) #[false, false, false, false, false, false, false, false, false, false, false, false, false, false, false, false, false, false, false, false] (by kernel_rfl) rfl rfl ⟨(show _ from c0), (show _ from c1), (show _ from c2), (show _ from c3)⟩ (fun hHeld => ?_)
  refine pure_ (i := 0) (N := some 13) (v := ?_) (a' := ?_) #[true, false, false, false, false, false, false, false, false, false, false, false, false, false, false, false, false, false, false, false] rfl rfl (by kernel_rfl) (fun _ _ _ h => h) (Or.inl ⟨by rfl, ?_⟩) ?_ ?_
  rotate_left
  · intro w'
    go_simp
    with_reducible rfl
  rotate_left
  · simp only [Act.put, List.setIfInBounds_toArray, List.set_cons_zero, List.set_cons_succ, i64_w, i32_w]
    rfl
  refine pure_ (i := 1) (N := some 14) (v := ?_) (a' := ?_) #[true, true, false, false, false, false, false, false, false, false, false, false, false, false, false, false, false, false, false, false] rfl rfl (by kernel_rfl) (fun _ _ _ h => h) (Or.inl ⟨by rfl, ?_⟩) ?_ ?_
  rotate_left
  · intro w'
    go_simp
    with_reducible rfl
  rotate_left
  · simp only [Act.put, List.setIfInBounds_toArray, List.set_cons_zero, List.set_cons_succ, i64_w, i32_w]
    rfl
  refine pure_ (i := 2) (N := some 15) (v := ?_) (a' := ?_) #[true, true, true, false, false, false, false, false, false, false, false, false, false, false, false, false, false, false, false, false] rfl rfl (by kernel_rfl) (fun _ _ _ h => h) (Or.inl ⟨by rfl, ?_⟩) ?_ ?_
  rotate_left
  · intro w'
    go_simp
    with_reducible rfl
  rotate_left
  · simp only [Act.put, List.setIfInBounds_toArray, List.set_cons_zero, List.set_cons_succ, i64_w, i32_w]
    rfl
  refine pure_ (i := 4) (N := some 17) (v := ?_) (a' := ?_) #[true, true, true, false, true, false, false, false, false, false, false, false, false, false, false, false, false, false, false, false] rfl rfl (by kernel_rfl) (fun _ _ _ h => h) (Or.inl ⟨by rfl, ?_⟩) ?_ ?_
  rotate_left
  · intro w'
    go_simp
    with_reducible rfl
  rotate_left
  · simp only [Act.put, List.setIfInBounds_toArray, List.set_cons_zero, List.set_cons_succ, i64_w, i32_w]
    rfl
  refine pure_ (i := 5) (N := some 18) (v := ?_) (a' := ?_) #[true, true, true, false, true, true, false, false, false, false, false, false, false, false, false, false, false, false, false, false] rfl rfl (by kernel_rfl) (fun _ _ _ h => h) (Or.inl ⟨by rfl, ?_⟩) ?_ ?_
  rotate_left
  · intro w'
    go_simp
    with_reducible rfl
  rotate_left
  · simp only [Act.put, List.setIfInBounds_toArray, List.set_cons_zero, List.set_cons_succ, i64_w, i32_w]
    rfl
  refine pure_ (i := 6) (N := some 19) (v := ?_) (a' := ?_) #[true, true, true, false, true, true, true, false, false, false, false, false, false, false, false, false, false, false, false, false] rfl rfl (by kernel_rfl) (fun _ _ _ h => h) (Or.inl ⟨by rfl, ?_⟩) ?_ ?_
  rotate_left
  · intro w'
    go_simp
    with_reducible rfl
  rotate_left
  · simp only [Act.put, List.setIfInBounds_toArray, List.set_cons_zero, List.set_cons_succ, i64_w, i32_w]
    rfl
  refine pure_ (i := 8) (N := some 21) (v := ?_) (a' := ?_) #[true, true, true, false, true, true, true, false, true, false, false, false, false, false, false, false, false, false, false, false] rfl rfl (by kernel_rfl) (fun _ _ _ h => h) (Or.inl ⟨by rfl, ?_⟩) ?_ ?_
  rotate_left
  · intro w'
    go_simp
    with_reducible rfl
  rotate_left
  · simp only [Act.put, List.setIfInBounds_toArray, List.set_cons_zero, List.set_cons_succ, i64_w, i32_w]
    rfl
  refine pure_ (i := 9) (N := some 22) (v := ?_) (a' := ?_) #[true, true, true, false, true, true, true, false, true, true, false, false, false, false, false, false, false, false, false, false] rfl rfl (by kernel_rfl) (fun _ _ _ h => h) (Or.inl ⟨by rfl, ?_⟩) ?_ ?_
  rotate_left
  · intro w'
    go_simp
    with_reducible rfl
  rotate_left
  · simp only [Act.put, List.setIfInBounds_toArray, List.set_cons_zero, List.set_cons_succ, i64_w, i32_w]
    rfl
  refine pure_ (i := 10) (N := some 23) (v := ?_) (a' := ?_) #[true, true, true, false, true, true, true, false, true, true, true, false, false, false, false, false, false, false, false, false] rfl rfl (by kernel_rfl) (fun _ _ _ h => h) (Or.inl ⟨by rfl, ?_⟩) ?_ ?_
  rotate_left
  · intro w'
    go_simp
    with_reducible rfl
  rotate_left
  · simp only [Act.put, List.setIfInBounds_toArray, List.set_cons_zero, List.set_cons_succ, i64_w, i32_w]
    rfl
  refine pure_ (i := 12) (N := some 25) (v := ?_) (a' := ?_) #[true, true, true, false, true, true, true, false, true, true, true, false, true, false, false, false, false, false, false, false] rfl rfl (by kernel_rfl) (fun _ _ _ h => h) (Or.inl ⟨by rfl, ?_⟩) ?_ ?_
  rotate_left
  · intro w'
    go_simp
    with_reducible rfl
  rotate_left
  · simp only [Act.put, List.setIfInBounds_toArray, List.set_cons_zero, List.set_cons_succ, i64_w, i32_w]
    rfl
  refine pure_ (i := 13) (N := some 26) (v := ?_) (a' := ?_) #[true, true, true, false, true, true, true, false, true, true, true, false, true, true, false, false, false, false, false, false] rfl rfl (by kernel_rfl) (fun _ _ _ h => h) (Or.inl ⟨by rfl, ?_⟩) ?_ ?_
  rotate_left
  · intro w'
    go_simp
    with_reducible rfl
  rotate_left
  · simp only [Act.put, List.setIfInBounds_toArray, List.set_cons_zero, List.set_cons_succ, i64_w, i32_w]
    rfl
  refine pure_ (i := 14) (N := some 27) (v := ?_) (a' := ?_) #[true, true, true, false, true, true, true, false, true, true, true, false, true, true, true, false, false, false, false, false] rfl rfl (by kernel_rfl) (fun _ _ _ h => h) (Or.inl ⟨by rfl, ?_⟩) ?_ ?_
  rotate_left
  · intro w'
    go_simp
    with_reducible rfl
  rotate_left
  · simp only [Act.put, List.setIfInBounds_toArray, List.set_cons_zero, List.set_cons_succ, i64_w, i32_w]
    rfl
  refine take_ (i := 3) (N := some 16) (v := ?_) (a' := ?_) #[true, true, true, true, true, true, true, false, true, true, true, false, true, true, true, false, false, false, false, false] rfl rfl (by kernel_rfl) (fun _ _ _ h => h) (Or.inl ⟨by rfl, ?_⟩) hHeld ?_ ?_
  rotate_left
  · rintro w' ⟨s0, s1, s2, s3⟩
    go_simp
    with_reducible rfl
  rotate_left
  · simp only [Act.put, List.setIfInBounds_toArray, List.set_cons_zero, List.set_cons_succ, i64_w, i32_w]
    rfl
  refine take_ (i := 7) (N := some 20) (v := ?_) (a' := ?_) #[true, true, true, true, true, true, true, true, true, true, true, false, true, true, true, false, false, false, false, false] rfl rfl (by kernel_rfl) (fun _ _ _ h => h) (Or.inl ⟨by rfl, ?_⟩) hHeld ?_ ?_
  rotate_left
  · rintro w' ⟨s0, s1, s2, s3⟩
    go_simp
    with_reducible rfl
  rotate_left
  · simp only [Act.put, List.setIfInBounds_toArray, List.set_cons_zero, List.set_cons_succ, i64_w, i32_w]
    rfl
  refine take_ (i := 11) (N := some 24) (v := ?_) (a' := ?_) #[true, true, true, true, true, true, true, true, true, true, true, true, true, true, true, false, false, false, false, false] rfl rfl (by kernel_rfl) (fun _ _ _ h => h) (Or.inl ⟨by rfl, ?_⟩) hHeld ?_ ?_
  rotate_left
  · rintro w' ⟨s0, s1, s2, s3⟩
    go_simp
    with_reducible rfl
  rotate_left
  · simp only [Act.put, List.setIfInBounds_toArray, List.set_cons_zero, List.set_cons_succ, i64_w, i32_w]
    rfl
  refine take_ (i := 15) (N := some 28) (v := ?_) (a' := ?_) #[true, true, true, true, true, true, true, true, true, true, true, true, true, true, true, true, false, false, false, false] rfl rfl (by kernel_rfl) (fun _ _ _ h => h) (Or.inl ⟨by rfl, ?_⟩) hHeld ?_ ?_
  rotate_left
  · rintro w' ⟨s0, s1, s2, s3⟩
    go_simp
    with_reducible rfl
  rotate_left
  · simp only [Act.put, List.setIfInBounds_toArray, List.set_cons_zero, List.set_cons_succ, i64_w, i32_w]
    rfl
  refine pure_ (i := 16) (N := some 29) (v := ?_) (a' := ?_) #[true, true, true, true, true, true, true, true, true, true, true, true, true, true, true, true, true, false, false, false] rfl rfl (by kernel_rfl) (fun _ _ _ h => h) (Or.inl ⟨by rfl, ?_⟩) ?_ ?_
  rotate_left
  · intro w'
    go_simp
    with_reducible rfl
  rotate_left
  · simp only [Act.put, List.setIfInBounds_toArray, List.set_cons_zero, List.set_cons_succ, i64_w, i32_w]
    rfl
  refine join_ (σ := Nat) 1 #[true, true, true, true, true, true, true, true, true, true, true, true, true, true, true, true, true, true, true, false] (fun s => [(30, .agg #[.int .i64 (qa2 x0 x1 x2 x3 : Nat), .int .i64 (qb2 x0 x1 x2 x3 : Nat), .int .i64 (qc2 x0 x1 x2 x3 : Nat), .int .i64 (qd2 x0 x1 x2 x3 : Nat)]), (11, .pointer (some ⟨s, 0, none⟩))]) (fun s w' => w'.heap[s]? = some (.cells #[.int .i64 0, .int .i64 0, .int .i64 0, .int .i64 0] 111 (0, 0)) ∧ Below w.heap.size w w' ∧ w.heap.size ≤ s) ?_ ?_
  rotate_left
  · intro hCont
    refine two_ (i := 17) (j := 18) (Ni := some 30) (Nj := some 11) #[true, true, true, true, true, true, true, true, true, true, true, true, true, true, true, true, true, true, false, false] #[true, true, true, true, true, true, true, true, true, true, true, true, true, true, true, true, true, false, true, false] rfl rfl rfl rfl (by kernel_rfl) (by decide) (by decide) (fun K hK => ?_) (fun K hK => ?_)
    · skip
      refine goes_ Try.func109 (by kernel_rfl) rfl #[.agg #[.int .i64 (x0 : Int), .int .i64 (x1 : Int), .int .i64 (x2 : Int), .int .i64 (x3 : Int)]] (by rfl) rfl rfl (by simp only [List.map_toArray, List.map_cons, List.map_nil]; rfl) ?_
      with_reducible refine (rQuarter_calls x0 x1 x2 x3 _ b0 b1 b2 b3).mono ?_
      rintro e w3 ⟨rfl, hb⟩
      refine ⟨_, rfl, ?_⟩
      refine hK.out _ _ ⟨(pw_cell_below hb (by first | exact c0 | (simp only [go_sem]; exact c0) | (simp; exact c0) | exact pw_cell_below (below_alloc (below_drew (Below.refl _ _)) _) c0)), (pw_cell_below hb (by first | exact c1 | (simp only [go_sem]; exact c1) | (simp; exact c1) | exact pw_cell_below (below_alloc (below_drew (Below.refl _ _)) _) c1)), (pw_cell_below hb (by first | exact c2 | (simp only [go_sem]; exact c2) | (simp; exact c2) | exact pw_cell_below (below_alloc (below_drew (Below.refl _ _)) _) c2)), (pw_cell_below hb (by first | exact c3 | (simp only [go_sem]; exact c3) | (simp; exact c3) | exact pw_cell_below (below_alloc (below_drew (Below.refl _ _)) _) c3))⟩ (fun hHeld => ?_)
      clear hK K
      refine norm_ (a' := ?_) ?_ ?_
      rotate_left
      · show Act.put _ (some 30) _ = _
        simp only [Act.put, List.setIfInBounds_toArray, List.set_cons_zero, List.set_cons_succ, i64_w, i32_w]
        rfl
      refine one_ (i := 18) (N := some 11) #[true, true, true, true, true, true, true, true, true, true, true, true, true, true, true, true, true, true, true, false] rfl rfl (by kernel_rfl) (by decide) (fun K hK => ?_)
      refine value_ (w1 := ?_) (v := ?_) (by rfl) rfl ?_ ?_
      rotate_left 2
      · go_simp
        constructor
        · rfl
        · rfl
      refine hK.out _ _ ⟨(pw_cell_below (below_alloc (Below.refl _ _) _) (by first | exact c0 | exact pw_cell_below hb c0)), (pw_cell_below (below_alloc (Below.refl _ _) _) (by first | exact c1 | exact pw_cell_below hb c1)), (pw_cell_below (below_alloc (Below.refl _ _) _) (by first | exact c2 | exact pw_cell_below hb c2)), (pw_cell_below (below_alloc (Below.refl _ _) _) (by first | exact c3 | exact pw_cell_below hb c3))⟩ (fun hHeld => ?_)
      clear hK K
      refine norm_ (a' := ?_) ?_ ?_
      rotate_left
      · show Act.put _ (some 11) _ = _
        simp only [Act.put, List.setIfInBounds_toArray, List.set_cons_zero, List.set_cons_succ, i64_w, i32_w]
        rfl
      exact norm_ (by simp only [putAll, Act.put, List.setIfInBounds_toArray, List.set_cons_zero, List.set_cons_succ]) (hCont _ _ ⟨blk_new _ _, below_alloc (below_then (below_drew (Below.refl _ w)) (Nat.le_refl _) hb) _, hb.size⟩)
    · skip
      refine value_ (w1 := ?_) (v := ?_) (by rfl) rfl ?_ ?_
      rotate_left 2
      · go_simp
        constructor
        · rfl
        · rfl
      refine hK.out _ _ ⟨(pw_cell_below (below_alloc (Below.refl _ _) _) (by first | exact c0 | exact pw_cell_below hb c0)), (pw_cell_below (below_alloc (Below.refl _ _) _) (by first | exact c1 | exact pw_cell_below hb c1)), (pw_cell_below (below_alloc (Below.refl _ _) _) (by first | exact c2 | exact pw_cell_below hb c2)), (pw_cell_below (below_alloc (Below.refl _ _) _) (by first | exact c3 | exact pw_cell_below hb c3))⟩ (fun hHeld => ?_)
      clear hK K
      refine norm_ (a' := ?_) ?_ ?_
      rotate_left
      · show Act.put _ (some 11) _ = _
        simp only [Act.put, List.setIfInBounds_toArray, List.set_cons_zero, List.set_cons_succ, i64_w, i32_w]
        rfl
      refine one_ (i := 17) (N := some 30) #[true, true, true, true, true, true, true, true, true, true, true, true, true, true, true, true, true, true, true, false] rfl rfl (by kernel_rfl) (by decide) (fun K hK => ?_)
      refine goes_ Try.func109 (by kernel_rfl) rfl #[.agg #[.int .i64 (x0 : Int), .int .i64 (x1 : Int), .int .i64 (x2 : Int), .int .i64 (x3 : Int)]] (by rfl) rfl rfl (by simp only [List.map_toArray, List.map_cons, List.map_nil]; rfl) ?_
      with_reducible refine (rQuarter_calls x0 x1 x2 x3 _ b0 b1 b2 b3).mono ?_
      rintro e w3 ⟨rfl, hb⟩
      refine ⟨_, rfl, ?_⟩
      refine hK.out _ _ ⟨(pw_cell_below hb (by first | exact c0 | (simp only [go_sem]; exact c0) | (simp; exact c0) | exact pw_cell_below (below_alloc (below_drew (Below.refl _ _)) _) c0)), (pw_cell_below hb (by first | exact c1 | (simp only [go_sem]; exact c1) | (simp; exact c1) | exact pw_cell_below (below_alloc (below_drew (Below.refl _ _)) _) c1)), (pw_cell_below hb (by first | exact c2 | (simp only [go_sem]; exact c2) | (simp; exact c2) | exact pw_cell_below (below_alloc (below_drew (Below.refl _ _)) _) c2)), (pw_cell_below hb (by first | exact c3 | (simp only [go_sem]; exact c3) | (simp; exact c3) | exact pw_cell_below (below_alloc (below_drew (Below.refl _ _)) _) c3))⟩ (fun hHeld => ?_)
      clear hK K
      refine norm_ (a' := ?_) ?_ ?_
      rotate_left
      · show Act.put _ (some 30) _ = _
        simp only [Act.put, List.setIfInBounds_toArray, List.set_cons_zero, List.set_cons_succ, i64_w, i32_w]
        rfl
      exact norm_ (by simp only [putAll, Act.put, List.setIfInBounds_toArray, List.set_cons_zero, List.set_cons_succ]) (hCont _ _ ⟨blk_below (blk_drew (blk_new w _)) hb, below_then (below_drew (below_alloc (Below.refl _ w) _)) (by simp) hb, Nat.le_refl _⟩)
  rintro s w5 ⟨hbox, hbel, hs⟩
  have k0 := blk_cell hbox 0
  have k1 := blk_cell hbox 1
  have k2 := blk_cell hbox 2
  have k3 := blk_cell hbox 3
  have kf : ∀ i, w5.frozen? ⟨s, i, none⟩ = false := fun i => blk_frozen hbox i
  have hHeld : _ ∧ _ ∧ _ ∧ _ := ⟨pw_cell_below hbel c0, pw_cell_below hbel c1, pw_cell_below hbel c2, pw_cell_below hbel c3⟩
  refine norm_ (a' := ?_) ?_ ?_
  rotate_left
  · simp only [putAll, Act.put, List.setIfInBounds_toArray, List.set_cons_zero, List.set_cons_succ]
    rfl
  refine last_ (i := 19) (N := none) #[true, true, true, true, true, true, true, true, true, true, true, true, true, true, true, true, true, true, true, true] rfl rfl (by kernel_rfl) (by decide) (fun K hK => ?_)
  refine skip_ (w1 := ?_) (by rfl) rfl ?_ ?_
  rotate_left
  · go_simp
    rfl
  refine hK.out _ _ ?_
  clear hK K
  refine done_ (by kernel_rfl) ?_
  have hbox6 : ((((w5.setCell ⟨s, 0, none⟩ (.int .i64 (qa2 x0 x1 x2 x3 : Nat))).setCell ⟨s, 1, none⟩ (.int .i64 (qb2 x0 x1 x2 x3 : Nat))).setCell ⟨s, 2, none⟩ (.int .i64 (qc2 x0 x1 x2 x3 : Nat))).setCell ⟨s, 3, none⟩ (.int .i64 (qd2 x0 x1 x2 x3 : Nat))).heap[s]? = some (.cells #[.int .i64 (qa2 x0 x1 x2 x3 : Nat), .int .i64 (qb2 x0 x1 x2 x3 : Nat), .int .i64 (qc2 x0 x1 x2 x3 : Nat), .int .i64 (qd2 x0 x1 x2 x3 : Nat)] 111 (0, 0)) := blk_put (blk_put (blk_put (blk_put hbox 0 _ rfl) 1 _ rfl) 2 _ rfl) 3 _ rfl
  have hbel6 : Below w.heap.size w ((((w5.setCell ⟨s, 0, none⟩ (.int .i64 (qa2 x0 x1 x2 x3 : Nat))).setCell ⟨s, 1, none⟩ (.int .i64 (qb2 x0 x1 x2 x3 : Nat))).setCell ⟨s, 2, none⟩ (.int .i64 (qc2 x0 x1 x2 x3 : Nat))).setCell ⟨s, 3, none⟩ (.int .i64 (qd2 x0 x1 x2 x3 : Nat))) := below_set (below_set (below_set (below_set hbel hs) hs) hs) hs
  clear k0 k1 k2 k3 kf hHeld c0 c1 c2 c3 hbox hbel b0 b1 b2 b3
  generalize ((((w5.setCell ⟨s, 0, none⟩ (.int .i64 (qa2 x0 x1 x2 x3 : Nat))).setCell ⟨s, 1, none⟩ (.int .i64 (qb2 x0 x1 x2 x3 : Nat))).setCell ⟨s, 2, none⟩ (.int .i64 (qc2 x0 x1 x2 x3 : Nat))).setCell ⟨s, 3, none⟩ (.int .i64 (qd2 x0 x1 x2 x3 : Nat))) = w6 at hbox6 hbel6 ⊢
  generalize e0 : qa2 x0 x1 x2 x3 = y0 at hbox6 hbel6 ⊢
  have E0 := Aside0.mk e0
  clear e0
  generalize e1 : qb2 x0 x1 x2 x3 = y1 at hbox6 hbel6 ⊢
  have E1 := Aside0.mk e1
  clear e1
  generalize e2 : qc2 x0 x1 x2 x3 = y2 at hbox6 hbel6 ⊢
  have E2 := Aside0.mk e2
  clear e2
  generalize e3 : qd2 x0 x1 x2 x3 = y3 at hbox6 hbel6 ⊢
  have E3 := Aside0.mk e3
  clear e3
  have HR6 := Aside0.mk (Kd.C_below HR.out hbel6)
  have HBX := Aside0.mk hbox6
  have HBL := Aside0.mk hbel6
  clear hbox6 hbel6
  go_upto_region 4 with (at_builtin; refine Kd.R_append_row (Value.int .i64) (0 : Int) (w0 := w) w.heap.size rfl (.tmp 31) (.tmp 32) 53 3 (.int .i64 0) 8 rfl Try.underlying53 info3 rfl (by omega) (.slice none 0 0) [] (ints L) (some ad) 16 c0_ (fun _ => True) rfl rfl (fun _ _ => trivial) (Kd.R_nil _ _ _ _ _) HR6.out HBL.out HBL.out.size (by decide) ?_; intro v1 w7 HO hb7 hg hat)
  have hl16 : (ints L).length = 16 := by rw [ints_length]; exact HLl.out
  rw [List.nil_append] at HO
  obtain ⟨go, cap, e1, gb, gl, cl, hG⟩ := Kd.R_form HO (by omega)
  rw [hl16] at e1
  subst e1
  have hbx7 := blk_grown HBX.out hg (by simp [Value.ownBlock])
  have hsg : s ≠ go := blk_ne hbx7 hG (by decide)
  have H := Aside0.mk (RAt.mk (l := L) HO hbx7 hb7 hsg gb)
  clear hbx7 hg hat hb7 hsg gl cl hG hl16 HO
  obtain ⟨hx, hf⟩ := H.out.cell a ha
  generalize List.getD _ a 0 = z at hx
  have k := blk_cell H.out.box 0
  go_upto_region 5 with (fail)
  have H := Aside0.mk (H.out.put a y0)
  clear hx hf k
  generalize World.setCell _ ⟨go, a, none⟩ _ = w8 at H ⊢
  obtain ⟨hx, hf⟩ := H.out.cell b hb
  generalize List.getD _ b 0 = z at hx
  have k := blk_cell H.out.box 1
  go_upto_region 6 with (fail)
  have H := Aside0.mk (H.out.put b y1)
  clear hx hf k
  generalize World.setCell _ ⟨go, b, none⟩ _ = w9 at H ⊢
  obtain ⟨hx, hf⟩ := H.out.cell c hc
  generalize List.getD _ c 0 = z at hx
  have k := blk_cell H.out.box 2
  go_upto_region 7 with (fail)
  have H := Aside0.mk (H.out.put c y2)
  clear hx hf k
  generalize World.setCell _ ⟨go, c, none⟩ _ = w10 at H ⊢
  obtain ⟨hx, hf⟩ := H.out.cell d hd
  generalize List.getD _ d 0 = z at hx
  have k := blk_cell H.out.box 3
  go_upto_region 8 with (fail)
  have H := Aside0.mk (H.out.put d y3)
  clear hx hf k
  generalize World.setCell _ ⟨go, d, none⟩ _ = w11 at H ⊢
  go_wp2
  go_ret
  exact ⟨_, rfl, by rw [E0.out, E1.out, E2.out, E3.out]; exact H.out.own, H.out.bel⟩
end Go.Proofs.Ytmablneefndedaa.Pr
end

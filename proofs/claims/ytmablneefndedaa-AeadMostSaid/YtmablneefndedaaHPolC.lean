/- poly's number below the prime: the walk. -/
import Derived.Test.YtmablneefndedaaHPolB
namespace Go.Proofs.Ytmablneefndedaa.Pr
open Go.RowKit Go.Deep Go.Proofs.YtmablneefndedaaW.PrintWords Go.Proofs.YtmablneefndedaaW.PrintLast Go.Proofs.YtmablneefndedaaW.PrintMore
set_option maxHeartbeats 2000000
set_option linter.unusedVariables false
set_option linter.unusedSimpArgs false
/-- A number and the result's box. -/
structure WN (w : World) (l : List Nat) (W : World) : Prop where
  below : Below w.heap.size w W
  row : W.heap[w.heap.size]? = some (.cells (u64s l) 84 (0, 0))
  ret : W.heap[w.heap.size + 1]? = some (.cells (u64s (List.replicate 5 0)) 84 (0, 0))
theorem WN.drewN {w W : World} {l : List Nat} (h : WN w l W) (n : Nat) : WN w l (W.drewN n) := ⟨pw_below_drewN h.below n, h.row, h.ret⟩
theorem WN.then_ {w W W' : World} {l : List Nat} (h : WN w l W) (hb : Below W.heap.size W W') : WN w l W' := ⟨below_then h.below h.below.size hb, blk_below h.row hb, blk_below h.ret hb⟩
theorem WN.put {w W : World} {l : List Nat} (h : WN w l W) (l' : List Nat) : WN w l' (W.setRow w.heap.size (u64s l')) :=
  ⟨below_setRow h.below (Nat.le_refl _) _, setRow_heap _ _ _ _ _ _ h.row, by rw [setRow_other _ _ _ _ (by omega)]; exact h.ret⟩
/-- A second number beside it. -/
structure WM (w : World) (g : Nat) (l m : List Nat) (W : World) : Prop where
  n : WN w l W
  gt : w.heap.size + 1 < g
  row : W.heap[g]? = some (.cells (u64s m) 84 (0, 0))
theorem WM.set {w W : World} {g : Nat} {l m : List Nat} (h : WM w g l m W) (k v : Nat) : WM w g l (m.set k v) (W.setCell ⟨g, k, none⟩ (.int .u64 (v : Int))) := by
  have hg := h.gt
  exact ⟨⟨below_set h.n.below (by omega), blk_far h.n.row (by simp; omega) _, blk_far h.n.ret (by simp; omega) _⟩, hg, blk_put h.row k _ (u64s_set m k v)⟩
theorem WM.cell {w W : World} {g : Nat} {l m : List Nat} (h : WM w g l m W) (k : Nat) (hk : k < m.length) : W.cell? ⟨g, k, none⟩ = some (.int .u64 (m.getD k 0 : Nat)) ∧ W.frozen? ⟨g, k, none⟩ = false :=
  ⟨(blk_cell h.row k).trans (u64s_get m k hk), blk_frozen h.row k⟩
theorem WM.drew {w W : World} {g : Nat} {l m : List Nat} (h : WM w g l m W) : WM w g l m W.drew := ⟨⟨below_drew h.n.below, h.n.row, h.n.ret⟩, h.gt, h.row⟩
theorem moreT_length (l : List Nat) : ∀ k, (moreT l k).length = l.length
  | 0 => by simp [moreT]
  | k + 1 => by simp [moreT, moreT_length l k]
theorem more_lt {l : List Nat} (h : Lim 67108864 l) : ∀ k, k < 4 → (moreT l k).getD k 0 < 134217728 ∧ (moreT l k).getD (k + 1) 0 < 67108864 := by
  obtain ⟨a, b, c, d, e, rfl, h0, h1, h2, h3, h4⟩ := h.of5
  intro k hk
  match k, hk with
  | 0, _ => exact ⟨show a + 5 < _ by omega, h1⟩
  | 1, _ => exact ⟨show b + (a + 5) / 67108864 < _ by omega, h2⟩
  | 2, _ => exact ⟨show c + (b + (a + 5) / 67108864) / 67108864 < _ by omega, h3⟩
  | 3, _ => exact ⟨show d + (c + (b + (a + 5) / 67108864) / 67108864) / 67108864 < _ by omega, h4⟩
theorem more_top {l : List Nat} (h : Lim 67108864 l) : (moreT l 4).getD 4 0 < 134217728 := by
  obtain ⟨a, b, c, d, e, rfl, h0, h1, h2, h3, h4⟩ := h.of5
  show e + (d + (c + (b + (a + 5) / 67108864) / 67108864) / 67108864) / 67108864 < _
  omega
theorem car2_lim {l : List Nat} (h : Lim 134217728 l) (hn : ¬ (car l).getD 1 0 < 67108864) : (car (car l)).getD 1 0 < 67108864 := by
  have := (norm_lim h).lt 1
  unfold norm at this
  rwa [if_neg hn] at this
def topOf (g : Nat) (W : World) : Nat := match W.cell? ⟨g, 1, none⟩ with
  | some (.int _ v) => v.toNat
  | _ => 0
theorem topOf_eq {w W : World} {l : List Nat} (h : WN w l W) (hl : l.length = 5) : topOf w.heap.size W = l.getD 1 0 := by
  unfold topOf
  rw [(blk_cell h.row 1).trans (u64s_get l 1 (by omega))]
  simp
set_option maxRecDepth 100000 in
theorem number_whole_calls (l : List Nat) (w : World) (h : Lim 134217728 l) :
    Calls Try.prog 80 #[.agg (u64s l)] w fun e w' => e = .returned (.agg (u64s (whole l))) ∧ Below w.heap.size w w' := by
  have hi : ∀ m : List Nat, m.length = 5 → (Try.prog.info? 84).map (·.size) = some (u64s m).size := by intro m hm; rw [u64s_size, hm]; kernel_rfl
  have HI := Aside0.mk hi
  have HL := Aside0.mk h
  have HLl := Aside0.mk h.len
  have HCl := Aside0.mk (show (car l).length = 5 by rw [car_length]; exact h.len)
  have HCCl := Aside0.mk (show (car (car l)).length = 5 by rw [car_length, car_length]; exact h.len)
  have HC1 := Aside0.mk (fun W => carried_calls l W (h.mono (by decide)))
  have HC2 := Aside0.mk (fun W => carried_calls (car l) W ((car_lim (h.mono (by decide))).mono (by decide)))
  clear hi h
  go_enter Try.func80, Try.ntmps80
  go_upto_region 1 with (fail)
  have H : Aside0 (WN w l ((w.alloc (.cells (u64s l) 84)).alloc (.cells (u64s (List.replicate 5 0)) 84))) := ⟨⟨below_alloc (below_alloc (Below.refl _ _) _) _, blk_alloc (blk_new _ _) _, by
    have := blk_new (w.alloc (.cells (u64s l) 84)) (.cells (u64s (List.replicate 5 0)) 84)
    rwa [show (w.alloc (.cells (u64s l) 84)).heap.size = w.heap.size + 1 by simp] at this⟩⟩
  have e5 : #[Value.int IntKind.u64 0, Value.int IntKind.u64 0, Value.int IntKind.u64 0, Value.int IntKind.u64 0, Value.int IntKind.u64 0] = u64s (List.replicate 5 0) := rfl
  rw [e5]
  clear e5
  generalize (w.alloc (.cells (u64s l) 84)).alloc (.cells (u64s (List.replicate 5 0)) 84) = W0 at H ⊢
  go_wp2_with (with_reducible refine wpList_load_row rfl 84 (.tmp 1) rfl w.heap.size rfl 84 (u64s l) (0, 0) _ H.out.row Try.underlying84 rfl (HI.out l HLl.out) ?_)
  refine (HC1.out _).mono ?_
  rintro e w3 ⟨rfl, hb⟩
  have H := Aside0.mk (H.out.then_ hb)
  clear hb
  go_wp2_with (refine wpList_store_row rfl 84 (.tmp 1) (.tmp 6) rfl w.heap.size (u64s (car l)) rfl rfl 84 _ H.out.row (HI.out (car l) HCl.out) (by rw [u64s_size, u64s_size, HLl.out, HCl.out]) (u64s_one _) ?_)
  have H := Aside0.mk (H.out.put (car l))
  generalize w3.setRow w.heap.size (u64s (car l)) = W0 at H ⊢
  simp only [Act.put, List.setIfInBounds_toArray, List.set_cons_zero, List.set_cons_succ]
  go_loopw [] (fun wr => ∃ l', (l' = car l ∨ (l' = car (car l) ∧ ¬ (car l).getD 1 0 < 67108864)) ∧ Aside0 (WN w l' wr)) (fun wr => topOf w.heap.size wr)
  case atStart => exact ⟨car l, Or.inl rfl, H⟩
  case round =>
    clear H
    obtain ⟨l', hl', H⟩ := hrel
    have hll : l'.length = 5 := by
      rcases hl' with h | h
      · rw [h]; exact HCl.out
      · rw [h.1]; exact HCCl.out
    have HLL := Aside0.mk hll
    have HOR := Aside0.mk hl'
    have hc := (blk_cell H.out.row 1).trans (u64s_get l' 1 (by omega))
    have htop := topOf_eq H.out hll
    clear hll hl'
    by_cases hlt : l'.getD 1 0 < 67108864
    · have HN : Aside0 (norm l = l') := ⟨by
        unfold norm
        rcases HOR.out with h | h
        · rw [← h, if_pos hlt]
        · rw [if_neg h.2, h.1]⟩
      generalize l'.getD 1 0 = y at hc hlt
      have t1 : decide (0 < (y : Int) / 67108864) = false := decide_eq_false (by omega)
      have t2 : decide (0 < y / 67108864) = false := decide_eq_false (by omega)
      clear htop
      go_upto_region 4 with (fail)
      have HLN := Aside0.mk (HN.out ▸ norm_lim HL.out)
      have HW : Aside0 (whole l = if (moreT l' 4).getD 4 0 / 67108864 = 0 then l' else (moreT l' 4).set 4 ((moreT l' 4).getD 4 0 % 67108864)) := ⟨by unfold whole; rw [HN.out]⟩
      have hc0 := (blk_cell H.out.row 0).trans (u64s_get l' 0 (by rw [HLL.out]; omega))
      have hm0 : moreT l' 0 = l'.set 0 (l'.getD 0 0 + 5) := rfl
      have hz0 := HLN.out.lt 0
      generalize hzz : l'.getD 0 0 = z at hc0 hm0 hz0
      have HZ := Aside0.mk hzz
      clear hzz
      have hz : (z : Int) + 5 ≤ 18446744073709551615 := by omega
      have HM0 := Aside0.mk hm0
      have hgt := blk_lt H.out.ret
      have HQ : Aside0 (WM w wr.heap.size l' l' (wr.alloc (.cells (u64s l') 84))) := ⟨⟨⟨below_alloc H.out.below _, blk_alloc H.out.row _, blk_alloc H.out.ret _⟩, hgt, blk_new _ _⟩⟩
      clear t1 t2 hc hlt hm0 hz0 hgt HN HOR hc0
      go_upto_region 5 with (first | (with_reducible refine wpList_load_row rfl 84 (.tmp 1) rfl w.heap.size rfl 84 (u64s l') (0, 0) _ H.out.row Try.underlying84 rfl (HI.out l' HLL.out) ?_) | (refine wpList_store_row rfl 84 (.tmp 3) (.tmp 13) rfl wr.heap.size (u64s l') rfl rfl 84 _ (heap_alloc_last _ _) (HI.out l' HLL.out) (by rw [u64s_size, HLL.out]; rfl) (u64s_one _) ?_; rw [World.setRow_alloc_new]))
      simp only [Act.put, List.setIfInBounds_toArray, List.set_cons_zero, List.set_cons_succ]
      obtain ⟨hk0, hf0⟩ := HQ.out.cell 0 (by rw [HLL.out]; omega)
      have hz0 : l'.getD 0 0 = z := HZ.out
      rw [hz0] at hk0
      clear hz0
      have HQ1 : Aside0 (WM w wr.heap.size l' (moreT l' 0) ((wr.alloc (.cells (u64s l') 84)).setCell ⟨wr.heap.size, 0, none⟩ (.int .u64 ((z : Int) + 5)))) := ⟨by rw [HM0.out]; exact HQ.out.set 0 (z + 5)⟩
      generalize wr.alloc (.cells (u64s l') 84) = W1 at HQ HQ1 hk0 hf0 ⊢
      generalize wr.heap.size = g at HQ HQ1 hk0 hf0 ⊢
      go_wp2_with (fail)
      clear hk0 hf0 HQ hz
      go_loopw [18] (fun i wr => ∃ k : Nat, k ≤ 4 ∧ i = .int .i64 k ∧ Aside0 (WM w g l' (moreT l' k) wr)) (fun i _ => 4 - (intOf i).toNat)
      case atStart => exact ⟨0, by omega, rfl, HQ1⟩
      case round =>
        clear HQ1 H
        obtain ⟨k, hk, rfl, H⟩ := hrel
        by_cases hlt : k < 4
        · obtain ⟨bx, by_⟩ := more_lt HLN.out k hlt
          have hml : (moreT l' k).length = 5 := by rw [moreT_length, HLL.out]
          obtain ⟨hx, hfx⟩ := H.out.cell k (by omega)
          obtain ⟨hy, hfy⟩ := H.out.cell (k + 1) (by omega)
          have hs : moreT l' (k + 1) = ((moreT l' k).set (k + 1) ((moreT l' k).getD (k + 1) 0 + (moreT l' k).getD k 0 / 67108864)).set k ((moreT l' k).getD k 0 % 67108864) := rfl
          generalize (moreT l' k).getD k 0 = x at hx hs bx
          generalize (moreT l' k).getD (k + 1) 0 = y at hy hs by_
          have HS := Aside0.mk hs
          have i5 : (k : Int) < 5 := by omega
          clear hs hml
          go_wp2_with (fail)
          have hm := mask26 x (by omega)
          have b1 : (y : Int) + (x : Int) / 67108864 ≤ 18446744073709551615 := by omega
          have e1 : IntKind.u64.wrap ((y : Int) + (x : Int) / 67108864) = (y : Int) + (x : Int) / 67108864 := wraps_u64 _ (by omega) (by omega)
          have i1 : IntKind.i64.wrap ((k : Int) + 1) = (k : Int) + 1 := IntWalk.i64_in _ (by omega)
          have i2 : ((k : Int) + 1).toNat = k + 1 := by omega
          have i3 : 0 ≤ (k : Int) + 1 := by omega
          have i4 : (k : Int) + 1 < 5 := by omega
          clear bx by_
          refine wp_still_tail 10 (by kernel_rfl) (by kernel_rfl) ?_
          intro W hW
          have g1 : W.cell? ⟨g, k, none⟩ = some (.int .u64 (x : Int)) := by rw [hW]; exact hx
          have g2 : W.cell? ⟨g, k + 1, none⟩ = some (.int .u64 (y : Int)) := by rw [hW]; exact hy
          have gf : W.frozen? ⟨g, k, none⟩ = false := by rw [hW]; exact hfx
          have gf2 : W.frozen? ⟨g, k + 1, none⟩ = false := by rw [hW]; exact hfy
          have HW : Aside0 (WM w g l' (moreT l' k) W) := ⟨by rw [hW]; exact H.out.drew⟩
          clear hW hx hy hfx hfy H
          simp only [List.take_succ_cons, List.take_zero, List.drop_succ_cons, List.drop_zero]
          repeat still_step
          refine wpStill_nil ?_
          clear i1
          go_wp2
          refine ⟨⟨k + 1, by omega, by go_num, ?_⟩, by simp [intOf]; omega⟩
          rw [HS.out]
          exact ⟨(HW.out.set (k + 1) (y + x / 67108864)).set k (x % 67108864)⟩
        · obtain rfl : k = 4 := by omega
          clear hlt hk
          rw [show ((4 : Nat) : Int) = 4 from rfl]
          have hml : (moreT l' 4).length = 5 := by rw [moreT_length, HLL.out]
          obtain ⟨hx, hfx⟩ := H.out.cell 4 (by omega)
          have bx := more_top HLN.out
          have HML := Aside0.mk hml
          have HOUT := Aside0.mk H.out.n.ret
          have HBE := Aside0.mk H.out.n.below
          clear hml
          generalize (moreT l' 4).getD 4 0 = x at hx bx HW
          by_cases h0 : x / 67108864 = 0
          · have t1 : ((x : Int) / 67108864 == 0) = true := by rw [beq_iff_eq]; omega
            have HE : Aside0 (whole l = l') := ⟨by rw [HW.out, if_pos h0]⟩
            have HRL := HLL
            clear h0
            go_wp2_with (first | (with_reducible refine wpList_load_row rfl 84 (.tmp 1) rfl w.heap.size rfl 84 (u64s l') (0, 0) _ H.out.n.row Try.underlying84 rfl (HI.out _ HRL.out) ?_) | (refine wpList_store_row rfl 84 (.tmp 2) (.tmp 41) rfl (w.heap.size + 1) (u64s l') rfl rfl 84 _ HOUT.out (HI.out _ HRL.out) (by rw [u64s_size, u64s_size, HRL.out]; rfl) (u64s_one _) ?_))
            exact bodyPost_ret (results_cell_row Try.results80 _ _ (w.heap.size + 1) 84 (u64s l') (0, 0) _ rfl (setRow_heap _ _ _ _ _ _ HOUT.out) Try.underlying84 rfl (HI.out _ HRL.out)) rfl ⟨by rw [HE.out], below_setRow HBE.out (by omega) _⟩
          · have t1 : ((x : Int) / 67108864 == 0) = false := by rw [beq_eq_false_iff_ne]; omega
            have HE : Aside0 (whole l = (moreT l' 4).set 4 (x % 67108864)) := ⟨by rw [HW.out, if_neg h0]⟩
            have hm := mask26 x (by omega)
            clear h0 bx
            go_upto_region 15 with (fail)
            have HX : Aside0 (WM w g l' ((moreT l' 4).set 4 (x % 67108864)) (wr.setCell ⟨g, 4, none⟩ (.int .u64 ((x : Int) % 67108864)))) := ⟨H.out.set 4 (x % 67108864)⟩
            generalize wr.setCell ⟨g, 4, none⟩ (.int .u64 ((x : Int) % 67108864)) = W2 at HX ⊢
            have HRL := Aside0.mk (show ((moreT l' 4).set 4 (x % 67108864)).length = 5 by rw [List.length_set]; exact HML.out)
            generalize (moreT l' 4).set 4 (x % 67108864) = r at HX HRL HE
            have HOUT := Aside0.mk HX.out.n.ret
            have HBE := Aside0.mk HX.out.n.below
            clear hm hx hfx t1
            go_wp2_with (first | (with_reducible refine wpList_load_row rfl 84 (.tmp 3) rfl g rfl 84 (u64s r) (0, 0) _ HX.out.row Try.underlying84 rfl (HI.out _ HRL.out) ?_) | (refine wpList_store_row rfl 84 (.tmp 2) (.tmp 46) rfl (w.heap.size + 1) (u64s r) rfl rfl 84 _ HOUT.out (HI.out _ HRL.out) (by rw [u64s_size, u64s_size, HRL.out]; rfl) (u64s_one _) ?_))
            exact bodyPost_ret (results_cell_row Try.results80 _ _ (w.heap.size + 1) 84 (u64s r) (0, 0) _ rfl (setRow_heap _ _ _ _ _ _ HOUT.out) Try.underlying84 rfl (HI.out _ HRL.out)) rfl ⟨by rw [HE.out], below_setRow HBE.out (by omega) _⟩
    · have h' : l' = car l := by
        rcases HOR.out with h | h
        · exact h
        · exact absurd (h.1 ▸ car2_lim HL.out h.2) hlt
      subst h'
      have HT := Aside0.mk htop
      have HLT := Aside0.mk hlt
      generalize (car l).getD 1 0 = y at hc hlt
      have t1 : decide (0 < (y : Int) / 67108864) = true := decide_eq_true (by omega)
      have t2 : decide (0 < y / 67108864) = true := decide_eq_true (by omega)
      clear htop
      go_wp2_with (with_reducible refine wpList_load_row rfl 84 (.tmp 1) rfl w.heap.size rfl 84 (u64s (car l)) (0, 0) _ H.out.row Try.underlying84 rfl (HI.out (car l) HCl.out) ?_)
      refine (HC2.out _).mono ?_
      rintro e w5 ⟨rfl, hb⟩
      have H := Aside0.mk (H.out.then_ hb)
      clear hb
      go_wp2_with (refine wpList_store_row rfl 84 (.tmp 1) (.tmp 12) rfl w.heap.size (u64s (car (car l))) rfl rfl 84 _ H.out.row (HI.out (car (car l)) HCCl.out) (by rw [u64s_size, u64s_size, HCl.out, HCCl.out]) (u64s_one _) ?_)
      have H := Aside0.mk (H.out.put (car (car l)))
      generalize w5.setRow w.heap.size (u64s (car (car l))) = W1 at H ⊢
      go_roundw
      case rel =>
        repeat apply Exists.intro
        exact ⟨⟨car (car l), Or.inr ⟨rfl, hlt⟩, H⟩, rfl⟩
      case measure =>
        rw [topOf_eq H.out HCCl.out, HT.out]
        have := car2_lim HL.out HLT.out
        have := HLT.out
        omega
end Go.Proofs.Ytmablneefndedaa.Pr

/- CodeWrites: the walk. -/
import Derived.Test.YtpeliaknceigdaaHCodeW
import Derived.Test.YtpeliaknceigdaaPrxf9
import Derived.Test.YtpeliaknceigdaaHPartA
import Derived.Test.YtpeliaknceigdaaPrxf13
import Derived.StillTail
import Derived.StillTailTactics
namespace Go.Proofs.Ytpeliaknceigdaa.Pr
open Go.RowKit Go.Deep Go.Proofs.YtpeliaknceigdaaW.PrintWords Go.Proofs.YtpeliaknceigdaaW.PrintLast Go.Proofs.YtpeliaknceigdaaW.PrintMore
set_option maxHeartbeats 2000000
set_option linter.unusedVariables false
set_option linter.unusedSimpArgs false
theorem wp_still_tailC {P : Program} {id : Nat} {Q : Exit → Act → World → Prop} {a : Act} {w : World} {l : List Oper} (n : Nat) (hm : P.follows .mixedOrders = true) (hB : Region.lexTailB .any l.toArray n = true)
    (h : ∀ W, W = w.drew → wpStill P l.toArray W (fun a' => wpList P l.toArray Q (l.drop n) a' W) (l.take n) a) : (Code.region id l.toArray true).wp P Q a w :=
  wp_region_still_tail n hm hB (h _ rfl)
theorem step_same (bad ok : Bool) (L M : List Nat) : refStep (txt L) bad ok M = (txt (outStep bad L ok M).2, (outStep bad L ok M).1) := by
  unfold refStep outStep
  rw [txt_size]
  by_cases h : ok = false ∨ bad = true ∨ 65536 < L.length + M.length
  · rw [if_pos h, if_pos (by rcases h with h | h | h; exact .inr (.inl h); exact .inl h; exact .inr (.inr h))]
  · rw [if_neg h, if_neg (by rintro (h2 | h2 | h2); exact h (.inr (.inl h2)); exact h (.inl h2); exact h (.inr (.inr h2))), txt_append]
set_option maxRecDepth 100000 in
theorem writes_law (w : World) (A : Option Addr) (c : Nat) (l : List S31) (hr : Kd.C k31 w A l.length l) (hc : l.length ≤ c) (hQ : ∀ y ∈ l, PartQ y) (hM : l.length ≤ maxLen) :
    Calls Try.prog 3 #[.slice A l.length c] w fun e w' => e = .returned (.bool true) ∧ Below w.heap.size w w' := by
  have HR := Aside0.mk hr
  have HC := Aside0.mk hc
  obtain ⟨fb, hf, hfew⟩ := few_loop l (by unfold maxLen at hM; omega) l.length (2 * l.length + 2) 0 (by omega) (by omega) (by omega)
  have HF := Aside0.mk (show samphirelaw09_few.f (2 * l.length + 2) l = some fb from hf)
  have HW := Aside0.mk hfew
  clear hr hc hf hfew
  cases fb with
  | false =>
    go_enter Try.func3, Try.ntmps3
    go_wp2_with (fail)
    refine (NewOut_calls w.heap.size w (Nat.le_refl _)).mono ?_
    rintro e w1 ⟨rfl, h1, b1⟩
    have B1 := Aside0.mk b1
    have HR1 := Aside0.mk (Kd.C_below HR.out b1)
    clear h1 b1
    go_wp2_with (fail)
    refine (samphirelaw09_few.calls _ A c l _ w1 HR1.out HC.out HF.out).mono ?_
    rintro e w2 ⟨rfl, ⟨nd, rfl⟩⟩
    go_wp2_with (fail)
    refine (awake_calls _).mono ?_
    rintro e w3 ⟨rfl, b3⟩
    have B3 := Aside0.mk (below_then (pw_below_drewN B1.out nd) (pw_below_drewN B1.out nd).size b3)
    clear b3
    go_wp2_with (fail)
    go_ret
    exact ⟨rfl, B3.out⟩
  | true =>
    go_enter Try.func3, Try.ntmps3
    go_wp2_with (fail)
    refine (NewOut_calls w.heap.size w (Nat.le_refl _)).mono ?_
    rintro e w1 ⟨rfl, h1, b1⟩
    have H1 := Aside0.mk h1
    have B1 := Aside0.mk b1
    have HR1 := Aside0.mk (Kd.C_below HR.out b1)
    clear h1 b1
    go_wp2_with (fail)
    refine (samphirelaw09_few.calls _ A c l _ w1 HR1.out HC.out HF.out).mono ?_
    rintro e w2 ⟨rfl, ⟨nd, rfl⟩⟩
    have H2 := Aside0.mk (H1.out.drewN nd)
    have B2 := Aside0.mk (pw_below_drewN B1.out nd)
    have HR2 := Aside0.mk (Kd.C_drewN HR1.out nd)
    have hz : w.heap.size < w1.heap.size := H1.out.lt
    clear H1 B1 HR1
    generalize w1.drewN nd = W at H2 B2 HR2 ⊢
    have hlen := (HW.out (by trivial)).1
    go_wp2_with (fail)
    have H3 := Aside0.mk (H2.out.alloc (.cells #[.string (⟨#[]⟩ : ByteArray), .bool false] 28))
    have B3 := Aside0.mk (below_alloc B2.out (.cells #[.string (⟨#[]⟩ : ByteArray), .bool false] 28))
    have Q3 := Aside0.mk (heap_alloc_new W (.cells #[.string (⟨#[]⟩ : ByteArray), .bool false] 28))
    have hq := B2.out.size
    generalize W.alloc (.cells #[.string (⟨#[]⟩ : ByteArray), .bool false] 28) = W3 at H3 B3 Q3 ⊢
    generalize W.heap.size = qb at Q3 hq ⊢
    clear H2 B2 HR2 hz
    go_loopw [5] (fun i wr => ∃ (k : Nat) (bad : Bool) (L : List Nat), k ≤ l.length ∧ i = .int .i64 k ∧ Aside0 (L.length ≤ 65536) ∧ Aside0 (OutAt w.heap.size w.heap.size true bad L wr) ∧ Aside0 (wr.heap[qb]? = some (.cells #[.string (txt L), .bool bad] 28 (0, 0))) ∧ Aside0 (Below w.heap.size w wr)) (fun i _ => l.length - (intOf i).toNat)
    case atStart => exact ⟨0, false, [], by omega, rfl, ⟨by decide⟩, H3, Q3, B3⟩
    case round =>
      obtain ⟨k, bad, L, hk, rfl, HL, HO, HQ, HB⟩ := hrel
      by_cases hlt : k < l.length
      · obtain ⟨ad, hA, c0, c1, c2, c3⟩ := at_T31 (Kd.C_below HR.out HB.out) (k : Int) (by omega) (by omega)
        subst hA
        rw [Int.toNat_natCast] at c0 c1 c2 c3
        have hx : l[k]? = some (rd_T31 l (k : Int)) := by simp [rd_T31, hlt]
        generalize rd_T31 l (k : Int) = x at hx c0 c1 c2 c3
        have hxs := (HW.out trivial).2 k x (by omega) hx
        have HXS := Aside0.mk hxs
        have q0 : wr.cell? ⟨qb, 0, none⟩ = some (.string (txt L)) := by rw [cell_of_row _ _ _ _ _ _ HQ.out]; rfl
        have q1 : wr.cell? ⟨qb, 1, none⟩ = some (.bool bad) := by rw [cell_of_row _ _ _ _ _ _ HQ.out]; rfl
        clear hx hxs
        go_wp2_with (fail)
        refine wp_still_tailC 6 (by kernel_rfl) (by kernel_rfl) ?_
        intro W4 hW4
        have c0' : W4.cell? (ad.add (k * 4)) = some (.int .i64 x.f0) := by rw [hW4]; exact c0
        have c1' : W4.cell? ⟨(ad.add (k * 4)).block, (ad.add (k * 4)).off + 1, none⟩ = some (.int .i64 x.f1) := by rw [hW4]; exact c1
        have c2' : W4.cell? ⟨(ad.add (k * 4)).block, (ad.add (k * 4)).off + 2, none⟩ = some (.int .i64 x.f2) := by rw [hW4]; exact c2
        have c3' : W4.cell? ⟨(ad.add (k * 4)).block, (ad.add (k * 4)).off + 3, none⟩ = some (.string x.f3) := by rw [hW4]; exact c3
        have q0' : W4.cell? ⟨qb, 0, none⟩ = some (.string (txt L)) := by rw [hW4]; exact q0
        have q1' : W4.cell? ⟨qb, 1, none⟩ = some (.bool bad) := by rw [hW4]; exact q1
        have HO4 := Aside0.mk (show OutAt w.heap.size w.heap.size true bad L W4 by rw [hW4]; exact HO.out.drew)
        have HQ4 := Aside0.mk (show W4.heap[qb]? = some (.cells #[.string (txt L), .bool bad] 28 (0, 0)) by rw [hW4]; exact HQ.out)
        have HB4 := Aside0.mk (show Below w.heap.size w W4 by rw [hW4]; exact below_drew HB.out)
        clear hW4 c0 c1 c2 c3 q0 q1
        simp only [List.take_succ_cons, List.take_zero, List.drop_succ_cons, List.drop_zero]
        repeat still_step
        refine wpStill_nil ?_
        go_wp2_with (fail)
        refine (writes_any w.heap.size w.heap.size true bad L (txt L) bad x.f0 x.f1 x.f2 x.f3 W4 HO4.out HL.out (by have := HL.out; rw [txt_size]; omega) (by have := HXS.out; omega) HB4.out.size).mono ?_
        unfold WritesPost
        rw [step_same]
        have hl5 := outStep_len bad L (partOk x.f0 x.f1 x.f2 x.f3) (partBy x.f0 x.f1 x.f2 x.f3) HL.out
        generalize hos : outStep bad L (partOk x.f0 x.f1 x.f2 x.f3) (partBy x.f0 x.f1 x.f2 x.f3) = r at hl5 ⊢
        obtain ⟨bad', L'⟩ := r
        have HOS := Aside0.mk hos
        clear hos
        have HL5 := Aside0.mk (show L'.length ≤ 65536 from hl5)
        rintro e w5 ⟨rfl, h2, h3, h4⟩
        have HO5 := Aside0.mk (show OutAt w.heap.size w.heap.size true bad' L' w5 from h2)
        have HQ5 := Aside0.mk (h3.blk HQ4.out (by decide) (by decide))
        have HB5 := Aside0.mk (HB4.out.trans h4)
        have q0 : w5.cell? ⟨qb, 0, none⟩ = some (.string (txt L)) := by rw [cell_of_row _ _ _ _ _ _ HQ5.out]; rfl
        have q1 : w5.cell? ⟨qb, 1, none⟩ = some (.bool bad) := by rw [cell_of_row _ _ _ _ _ _ HQ5.out]; rfl
        have q2 : w5.frozen? ⟨qb, 0, none⟩ = false := blk_thaw HQ5.out 0
        have q3 : w5.frozen? ⟨qb, 1, none⟩ = false := blk_thaw HQ5.out 1
        have HQ6 := Aside0.mk (show ((w5.setCell ⟨qb, 0, none⟩ (.string (txt L'))).setCell ⟨qb, 1, none⟩ (.bool bad')).heap[qb]? = some (.cells #[.string (txt L'), .bool bad'] 28 (0, 0)) from blk_put (blk_put HQ5.out 0 (.string (txt L')) rfl) 1 (.bool bad') rfl)
        have HO6 := Aside0.mk ((HO5.out.far HQ5.out (by decide) (by decide) 0 (.string (txt L'))).far (blk_put HQ5.out 0 (.string (txt L')) rfl) (by decide) (by decide) 1 (.bool bad'))
        have HB6 := Aside0.mk ((HB5.out.setCell (p := ⟨qb, 0, none⟩) hq (.string (txt L'))).setCell (p := ⟨qb, 1, none⟩) hq (.bool bad'))
        clear h2 h3 h4 hl5 c0' c1' c2' c3' q0' q1'
        cases bad' with
        | true =>
          go_wp2_with (fail)
          refine (Out_Done_bad w.heap.size w.heap.size true true L' _ HO6.out (.inr rfl)).mono ?_
          rintro e w7 ⟨rfl, rfl⟩
          go_wp2_with (fail)
          generalize (w5.setCell ⟨qb, 0, none⟩ (.string (txt L'))).setCell ⟨qb, 1, none⟩ (.bool true) = w6 at HQ6 HO6 HB6 ⊢
          clear q0 q1 q2 q3
          have q0 : w6.cell? ⟨qb, 0, none⟩ = some (.string (txt L')) := by rw [cell_of_row _ _ _ _ _ _ HQ6.out]; rfl
          have q1 : w6.cell? ⟨qb, 1, none⟩ = some (.bool true) := by rw [cell_of_row _ _ _ _ _ _ HQ6.out]; rfl
          go_wp2_with (fail)
          refine (samphireref09_Done.calls (txt L') true _ _ w6 rfl).mono ?_
          rintro e w7 ⟨rfl, hb⟩
          have HQ7 := Aside0.mk (blk_below HQ6.out hb)
          have HO7 := Aside0.mk (HO6.out.below hb)
          have HB7 := Aside0.mk (below_then HB6.out HB6.out.size hb)
          clear hb q0 q1
          go_wp2_with (fail)
          refine ⟨⟨k + 1, true, L', by omega, by go_num, HL5, HO7, HQ7, HB7⟩, by simp [intOf]; omega⟩
        | false =>
          go_wp2_with (fail)
          refine (Out_Done w.heap.size w.heap.size L' _ HO6.out).mono ?_
          rintro e w7 ⟨rfl, rfl⟩
          go_wp2_with (fail)
          generalize (w5.setCell ⟨qb, 0, none⟩ (.string (txt L'))).setCell ⟨qb, 1, none⟩ (.bool false) = w6 at HQ6 HO6 HB6 ⊢
          clear q0 q1 q2 q3
          have q0 : w6.cell? ⟨qb, 0, none⟩ = some (.string (txt L')) := by rw [cell_of_row _ _ _ _ _ _ HQ6.out]; rfl
          have q1 : w6.cell? ⟨qb, 1, none⟩ = some (.bool false) := by rw [cell_of_row _ _ _ _ _ _ HQ6.out]; rfl
          go_wp2_with (fail)
          refine (samphireref09_Done.calls (txt L') false _ _ w6 rfl).mono ?_
          rintro e w7 ⟨rfl, hb⟩
          have HQ7 := Aside0.mk (blk_below HQ6.out hb)
          have HO7 := Aside0.mk (HO6.out.below hb)
          have HB7 := Aside0.mk (below_then HB6.out HB6.out.size hb)
          clear hb q0 q1
          go_wp2_with (fail)
          refine ⟨⟨k + 1, false, L', by omega, by go_num, HL5, HO7, HQ7, HB7⟩, by simp [intOf]; omega⟩
      · obtain rfl : k = l.length := by omega
        clear hlt hk
        go_wp2_with (fail)
        refine (awake_calls _).mono ?_
        rintro e w7 ⟨rfl, b7⟩
        have B7 := Aside0.mk (below_then HB.out HB.out.size b7)
        clear b7
        go_wp2_with (fail)
        go_ret
        exact ⟨rfl, B7.out⟩
end Go.Proofs.Ytpeliaknceigdaa.Pr

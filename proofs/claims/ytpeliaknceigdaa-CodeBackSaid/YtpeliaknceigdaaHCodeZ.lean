/- CodeBack: the walk. -/
import Derived.Test.YtpeliaknceigdaaHCodeX
import Derived.Test.YtpeliaknceigdaaHCodeI
import Derived.Test.YtpeliaknceigdaaPrxf15
import Derived.Test.YtpeliaknceigdaaPrxf17
import Derived.Test.YtpeliaknceigdaaPrxf19
import Derived.Test.YtpeliaknceigdaaPrxe0
import Derived.Deep.RegionHeld3
import Derived.Deep.DrawnRows
import Derived.Test.YtpeliaknceigdaaPrxf9
import Derived.Test.YtpeliaknceigdaaHPartA
import Derived.Test.YtpeliaknceigdaaPrxf13
import Derived.StillTail
import Derived.StillTailTactics
namespace Go.Proofs.Ytpeliaknceigdaa.Pr
open Go.RowKit Go.Deep Go.Proofs.YtpeliaknceigdaaW.PrintWords Go.Proofs.YtpeliaknceigdaaW.PrintLast Go.Proofs.YtpeliaknceigdaaW.PrintMore
set_option maxHeartbeats 2000000
set_option linter.unusedVariables false
set_option linter.unusedSimpArgs false
attribute [local go_sem high] eqA40
attribute [local go_sem ↓] Go.wp_at_zero Go.wp_at_succ
theorem outStep_was {bad ok : Bool} {L M L' : List Nat} (h : outStep bad L ok M = (false, L')) : bad = false ∧ ok = true ∧ L' = L ++ M := by
  unfold outStep at h
  split at h
  · cases h
  · rename_i hn
    refine ⟨?_, ?_, (Prod.mk.inj h).2.symm⟩
    · cases bad
      · rfl
      · exact absurd (.inl rfl) hn
    · cases ok
      · exact absurd (.inr (.inl rfl)) hn
      · rfl
abbrev PartS := S31
def pok (x : PartS) : Bool := partOk x.f0 x.f1 x.f2 x.f3
def pby (x : PartS) : List Nat := partBy x.f0 x.f1 x.f2 x.f3
theorem pby_lt (x : PartS) : ∀ n ∈ pby x, n < 256 := by
  intro n hn
  unfold pby partBy at hn
  split at hn
  · exact byN_lt _ _ n hn
  · split at hn
    · exact byN_lt _ _ n hn
    · split at hn
      · rcases List.mem_append.1 hn with h | h
        · exact byN_lt _ _ n h
        · exact byN_lt _ _ n h
      · rcases List.mem_append.1 hn with h | h
        · exact byN_lt _ _ n h
        · exact bys_lt' _ n h
/-- What was written, where it may be. -/
def Wrote (l : List PartS) (k : Nat) (bad : Bool) (L : List Nat) : Prop := bad = false → L = (l.take k).flatMap pby ∧ ∀ x ∈ l.take k, pok x = true
theorem wrote_next {l : List PartS} {k : Nat} {bad bad' : Bool} {L L' : List Nat} {x : PartS} (h : Wrote l k bad L) (hx : l[k]? = some x) (ho : outStep bad L (pok x) (pby x) = (bad', L')) : Wrote l (k + 1) bad' L' := by
  intro hb
  subst hb
  obtain ⟨h1, h2, h3⟩ := outStep_was ho
  obtain ⟨e1, e2⟩ := h h1
  obtain ⟨hk, rfl⟩ := List.getElem?_eq_some_iff.1 hx
  rw [List.take_succ_eq_append_getElem hk]
  refine ⟨by rw [h3, e1, List.flatMap_append, List.flatMap_cons, List.flatMap_nil, List.append_nil], fun y hy => ?_⟩
  rcases List.mem_append.1 hy with hy | hy
  · exact e2 y hy
  · rw [List.mem_singleton.1 hy]; exact h2
theorem drop_parts {l : List PartS} {k : Nat} {x : PartS} (hx : l[k]? = some x) : (l.drop k).flatMap pby = pby x ++ (l.drop (k + 1)).flatMap pby := by
  obtain ⟨hk, rfl⟩ := List.getElem?_eq_some_iff.1 hx
  rw [List.drop_eq_getElem_cons hk, List.flatMap_cons]
theorem isS_size {W w0 : World} {g : Nat} {a : Bool} {s : ByteArray} {e : Int} (h : IsS57 w0 W g a s e) : g < W.heap.size := IsS57.lt h
set_option maxRecDepth 100000 in
theorem back_law (w : World) (A : Option Addr) (c : Nat) (l : List S31) (hr : Kd.C k31 w A l.length l) (hc : l.length ≤ c) (hQ : ∀ y ∈ l, PartQ y) (hM : l.length ≤ maxLen) :
    Calls Try.prog 5 #[.slice A l.length c] w fun e w' => e = .returned (.bool true) ∧ Below w.heap.size w w' := by
  have HR := Aside0.mk hr
  have HC := Aside0.mk hc
  obtain ⟨fb, hf, hfew⟩ := few_loop l (by unfold maxLen at hM; omega) l.length (2 * l.length + 2) 0 (by omega) (by omega) (by omega)
  have HF := Aside0.mk (show samphirelaw09_few.f (2 * l.length + 2) l = some fb from hf)
  have HW := Aside0.mk hfew
  clear hr hc hf hfew
  cases fb with
  | false =>
    go_enter Try.func5, Try.ntmps5
    go_wp2_with (fail)
    refine (NewOut_calls w.heap.size w (Nat.le_refl _)).mono ?_
    rintro e w1 ⟨rfl, h1, b1⟩
    have B1 := Aside0.mk b1
    have HR1 := Aside0.mk (Kd.C_below HR.out b1)
    clear h1 b1
    go_wp2_with (fail)
    refine (samphirelaw09_few.calls _ A c l _ w1 HR1.out HC.out HF.out).mono ?_
    rintro e w2 ⟨rfl, ⟨nd, rfl⟩⟩
    go_wp2_with (fail)
    refine (awake_calls _).mono ?_
    rintro e w3 ⟨rfl, b3⟩
    have B3 := Aside0.mk (below_then (pw_below_drewN B1.out nd) (pw_below_drewN B1.out nd).size b3)
    clear b3
    go_wp2_with (fail)
    go_ret
    exact ⟨rfl, B3.out⟩
  | true =>
    go_enter Try.func5, Try.ntmps5
    go_wp2_with (fail)
    refine (NewOut_calls w.heap.size w (Nat.le_refl _)).mono ?_
    rintro e w1 ⟨rfl, h1, b1⟩
    have H1 := Aside0.mk h1
    have B1 := Aside0.mk b1
    have HR1 := Aside0.mk (Kd.C_below HR.out b1)
    clear h1 b1
    go_wp2_with (fail)
    refine (samphirelaw09_few.calls _ A c l _ w1 HR1.out HC.out HF.out).mono ?_
    rintro e w2 ⟨rfl, ⟨nd, rfl⟩⟩
    have H2 := Aside0.mk (H1.out.drewN nd)
    have B2 := Aside0.mk (pw_below_drewN B1.out nd)
    have HR2 := Aside0.mk (Kd.C_drewN HR1.out nd)
    have hz : w.heap.size < w1.heap.size := H1.out.lt
    clear H1 B1 HR1
    generalize w1.drewN nd = W at H2 B2 HR2 ⊢
    have hlen := (HW.out (by trivial)).1
    go_wp2_with (fail)
    clear HR2 hz
    go_loopw [4] (fun i wr => ∃ (k : Nat) (bad : Bool) (L : List Nat), k ≤ l.length ∧ i = .int .i64 k ∧ L.length ≤ 65536 ∧ Aside0 (OutAt w.heap.size w.heap.size true bad L wr) ∧ Aside0 (Below w.heap.size w wr) ∧ Aside0 (Wrote l k bad L)) (fun i _ => l.length - (intOf i).toNat)
    case atStart => exact ⟨0, false, [], by omega, rfl, by decide, H2, B2, ⟨fun _ => ⟨rfl, fun x hx => by simp at hx⟩⟩⟩
    case round =>
      obtain ⟨k, bad, L, hk, rfl, hL, HO, HB, HWR⟩ := hrel
      by_cases hlt : k < l.length
      · obtain ⟨ad, hA, c0, c1, c2, c3⟩ := at_T31 (Kd.C_below HR.out HB.out) (k : Int) (by omega) (by omega)
        subst hA
        rw [Int.toNat_natCast] at c0 c1 c2 c3
        have hx : l[k]? = some (rd_T31 l (k : Int)) := by simp [rd_T31, hlt]
        generalize rd_T31 l (k : Int) = x at hx c0 c1 c2 c3
        have hxs := (HW.out trivial).2 k x (by omega) hx
        have HX := Aside0.mk hx
        clear hx
        go_wp2_with (fail)
        refine (writes_any w.heap.size w.heap.size true bad L ⟨#[]⟩ false x.f0 x.f1 x.f2 x.f3 wr HO.out hL (by decide) (by omega) HB.out.size).mono ?_
        unfold WritesPost
        have hl5 := outStep_len bad L (partOk x.f0 x.f1 x.f2 x.f3) (partBy x.f0 x.f1 x.f2 x.f3) hL
        generalize hos : outStep bad L (partOk x.f0 x.f1 x.f2 x.f3) (partBy x.f0 x.f1 x.f2 x.f3) = r at hl5 ⊢
        generalize refStep ⟨#[]⟩ false (partOk x.f0 x.f1 x.f2 x.f3) (partBy x.f0 x.f1 x.f2 x.f3) = r2
        obtain ⟨bad', L'⟩ := r
        obtain ⟨ra, rb⟩ := r2
        rintro e w5 ⟨rfl, h2, h3, h4⟩
        have HWR5 := Aside0.mk (wrote_next HWR.out HX.out hos)
        have HO5 := Aside0.mk (show OutAt w.heap.size w.heap.size true bad' L' w5 from h2)
        have HB5 := Aside0.mk (HB.out.trans h4)
        have hl6 : L'.length ≤ 65536 := hl5
        clear h2 h3 h4 hl5 hos c0 c1 c2 c3
        go_wp2_with (fail)
        refine ⟨⟨k + 1, bad', L', by omega, by go_num, hl6, HO5, HB5, HWR5⟩, by simp [intOf]; omega⟩
      · obtain rfl : k = l.length := by omega
        clear hlt hk
        cases bad with
        | true =>
          go_wp2_with (fail)
          refine (Out_Done_bad w.heap.size w.heap.size true true L _ HO.out (.inr rfl)).mono ?_
          rintro e w7 ⟨rfl, rfl⟩
          go_wp2_with (fail)
          refine (awake_calls _).mono ?_
          rintro e w7 ⟨rfl, b7⟩
          have B7 := Aside0.mk (below_then HB.out HB.out.size b7)
          clear b7
          go_wp2_with (fail)
          go_ret
          exact ⟨rfl, B7.out⟩
        | false =>
          obtain ⟨hLl, hpk⟩ := HWR.out rfl
          rw [List.take_length] at hLl hpk
          have HPK := Aside0.mk hpk
          have HLL := Aside0.mk hLl
          clear hLl hpk
          go_wp2_with (fail)
          refine (Out_Done w.heap.size w.heap.size L _ HO.out).mono ?_
          rintro e w7 ⟨rfl, rfl⟩
          go_wp2_with (fail)
          refine (code_NewIn.calls (txt L) _ _ _ w _ HB.out rfl).mono ?_
          rintro e w8 ⟨gi, rfl, hi8, b8, b9⟩
          rw [HLL.out] at hi8 ⊢
          have HI8 := Aside0.mk hi8
          have HB8 := Aside0.mk b8
          clear hi8 b8 b9
          go_wp2_with (fail)
          go_loopw [8] (fun i wr => ∃ (k : Nat), k ≤ l.length ∧ i = .int .i64 k ∧ Aside0 (IsS57 w wr gi true (txt ((l.drop k).flatMap pby)) 0) ∧ Aside0 (Below w.heap.size w wr)) (fun i _ => l.length - (intOf i).toNat)
          case atStart => exact ⟨0, by omega, rfl, HI8, HB8⟩
          case round =>
          obtain ⟨k, hk, rfl, HI, HB⟩ := hrel
          by_cases hlt : k < l.length
          · obtain ⟨ad, hA, c0, c1, c2, c3⟩ := at_T31 (Kd.C_below HR.out HB.out) (k : Int) (by omega) (by omega)
            subst hA
            rw [Int.toNat_natCast] at c0 c1 c2 c3
            have hx : l[k]? = some (rd_T31 l (k : Int)) := by simp [rd_T31, hlt]
            generalize rd_T31 l (k : Int) = x at hx c0 c1 c2 c3
            have HPX := Aside0.mk (HPK.out x (List.mem_of_getElem? hx))
            have hd := drop_parts hx
            rw [hd] at HI
            clear hx hd
            generalize hRe : (l.drop (k + 1)).flatMap pby = R at HI
            have HRE := Aside0.mk hRe
            clear hRe
            have hgi : gi < wr.heap.size := isS_size HI.out
            have hne : wr.heap.size ≠ gi := by omega
            have hwz : w.heap.size ≤ wr.heap.size := HB.out.size
            have HI5 := Aside0.mk (IsS57.alloc HI.out (.cells #[.int .i64 x.f0, .int .i64 x.f1, .int .i64 x.f2, .string x.f3] 31))
            have HB5 := Aside0.mk (below_alloc HB.out (.cells #[.int .i64 x.f0, .int .i64 x.f1, .int .i64 x.f2, .string x.f3] 31))
            have d0 : (wr.alloc (.cells #[.int .i64 x.f0, .int .i64 x.f1, .int .i64 x.f2, .string x.f3] 31)).cell? ⟨wr.heap.size, 0, none⟩ = some (.int .i64 x.f0) := by rw [cell_of_row _ _ _ _ _ _ (heap_alloc_new wr _)]; rfl
            have d1 : (wr.alloc (.cells #[.int .i64 x.f0, .int .i64 x.f1, .int .i64 x.f2, .string x.f3] 31)).cell? ⟨wr.heap.size, 1, none⟩ = some (.int .i64 x.f1) := by rw [cell_of_row _ _ _ _ _ _ (heap_alloc_new wr _)]; rfl
            have d2 : (wr.alloc (.cells #[.int .i64 x.f0, .int .i64 x.f1, .int .i64 x.f2, .string x.f3] 31)).cell? ⟨wr.heap.size, 2, none⟩ = some (.int .i64 x.f2) := by rw [cell_of_row _ _ _ _ _ _ (heap_alloc_new wr _)]; rfl
            have d3 : (wr.alloc (.cells #[.int .i64 x.f0, .int .i64 x.f1, .int .i64 x.f2, .string x.f3] 31)).cell? ⟨wr.heap.size, 3, none⟩ = some (.string x.f3) := by rw [cell_of_row _ _ _ _ _ _ (heap_alloc_new wr _)]; rfl
            by_cases t1 : x.f0 = 1
            · have q1 : (x.f0 == 1) = true := beq_iff_eq.2 t1
              have e1 : pok x = oneB x.f1 := by unfold pok partOk; rw [if_pos t1]
              have e2 : pby x = byN x.f1 1 := by unfold pby partBy; rw [if_pos t1]
              rw [e2] at HI5
              have hok := HPX.out
              rw [e1] at hok
              have HOK := Aside0.mk hok
              clear e1 e2 hok t1
              go_wp2_with (fail)
              generalize wr.alloc (.cells #[.int .i64 x.f0, .int .i64 x.f1, .int .i64 x.f2, .string x.f3] 31) = W5 at HI5 HB5 d0 d1 d2 d3 ⊢
              have HG := Aside0.mk (byte_good x.f1 R HOK.out)
              go_region_held3 (fun w' => w'.cell? ⟨wr.heap.size, 1, none⟩ = some (.int .i64 x.f1)) (first | go_keep | exact keep_cell hk7 (show World.cell? _ _ = _ from d1) hne)
                ((go_at_call 15; (with_reducible refine (code_In_Byte.calls 10 gi true _ 0 _ _ _ _ w _ (by first | exact HI5.out | exact IsS57.drew HI5.out | exact IsS57.drewN HI5.out _) (by first | exact HB5.out | exact below_drew HB5.out | exact pw_below_drewN HB5.out _) HG.out).mono ?_); rintro e w7 ⟨rfl, hI7, hB7, hk7⟩; have HI7 := Aside0.mk hI7; have HB7 := Aside0.mk hB7; clear hI7 hB7))
              clear d0 d1 d2 d3
              go_wp2_with (fail)
              rw [← HRE.out] at HI7
              refine ⟨⟨k + 1, by omega, by go_num, HI7, HB7⟩, by simp [intOf]; omega⟩
            by_cases t2 : x.f0 = 2
            · have q1 : (x.f0 == 1) = false := beq_eq_false_iff_ne.2 t1
              have q2 : (x.f0 == 2) = true := beq_iff_eq.2 t2
              have e1 : pok x = timeB x.f1 := by unfold pok partOk; rw [if_neg t1, if_pos t2]
              have e2 : pby x = byN x.f1 6 := by unfold pby partBy; rw [if_neg t1, if_pos t2]
              rw [e2] at HI5
              have hok := HPX.out
              rw [e1] at hok
              have HOK := Aside0.mk hok
              clear e1 e2 hok t1 t2
              go_wp2_with (fail)
              generalize wr.alloc (.cells #[.int .i64 x.f0, .int .i64 x.f1, .int .i64 x.f2, .string x.f3] 31) = W5 at HI5 HB5 d0 d1 d2 d3 ⊢
              have HG := Aside0.mk (num_good x.f1 R HOK.out)
              go_region_held3 (fun w' => w'.cell? ⟨wr.heap.size, 1, none⟩ = some (.int .i64 x.f1)) (first | go_keep | exact keep_cell hk7 (show World.cell? _ _ = _ from d1) hne)
                ((go_at_call 16; (with_reducible refine (code_In_Num.calls 10 gi true _ 0 _ _ _ _ w _ (by first | exact HI5.out | exact IsS57.drew HI5.out | exact IsS57.drewN HI5.out _) (by first | exact HB5.out | exact below_drew HB5.out | exact pw_below_drewN HB5.out _) HG.out).mono ?_); rintro e w7 ⟨rfl, hI7, hB7, hk7⟩; have HI7 := Aside0.mk hI7; have HB7 := Aside0.mk hB7; clear hI7 hB7))
              clear d0 d1 d2 d3
              go_wp2_with (fail)
              rw [← HRE.out] at HI7
              refine ⟨⟨k + 1, by omega, by go_num, HI7, HB7⟩, by simp [intOf]; omega⟩
            by_cases t3 : x.f0 = 3
            · have q1 : (x.f0 == 1) = false := beq_eq_false_iff_ne.2 t1
              have q2 : (x.f0 == 2) = false := beq_eq_false_iff_ne.2 t2
              have q3 : (x.f0 == 3) = true := beq_iff_eq.2 t3
              have e1 : pok x = (timeB x.f1 && oneB x.f2) := by unfold pok partOk; rw [if_neg t1, if_neg t2, if_pos t3]
              have e2 : pby x = byN x.f1 6 ++ byN x.f2 1 := by unfold pby partBy; rw [if_neg t1, if_neg t2, if_pos t3]
              rw [e2] at HI5
              have hok := HPX.out
              rw [e1] at hok
              have HOK := Aside0.mk hok
              clear e1 e2 hok t1 t2 t3
              go_wp2_with (fail)
              generalize wr.alloc (.cells #[.int .i64 x.f0, .int .i64 x.f1, .int .i64 x.f2, .string x.f3] 31) = W5 at HI5 HB5 d0 d1 d2 d3 ⊢
              have HG := Aside0.mk (stamp_good x.f1 x.f2 R (Bool.and_eq_true_iff.1 HOK.out).1 (Bool.and_eq_true_iff.1 HOK.out).2)
              go_region_held3 (fun w' => w'.cell? ⟨wr.heap.size, 1, none⟩ = some (.int .i64 x.f1) ∧ w'.cell? ⟨wr.heap.size, 2, none⟩ = some (.int .i64 x.f2)) (first | go_keep | exact ⟨keep_cell hk7 (show World.cell? _ _ = _ from d1) hne, keep_cell hk7 (show World.cell? _ _ = _ from d2) hne⟩)
                ((go_at_call 17; (with_reducible refine (code_In_Stamp.calls 10 gi true _ 0 _ _ _ _ _ w _ (by first | exact HI5.out | exact IsS57.drew HI5.out | exact IsS57.drewN HI5.out _) (by first | exact HB5.out | exact below_drew HB5.out | exact pw_below_drewN HB5.out _) HG.out).mono ?_); rintro e w7 ⟨rfl, hI7, hB7, hk7⟩; have HI7 := Aside0.mk hI7; have HB7 := Aside0.mk hB7; clear hI7 hB7))
              clear d0 d1 d2 d3
              go_wp2_with (fail)
              rw [← HRE.out] at HI7
              refine ⟨⟨k + 1, by omega, by go_num, HI7, HB7⟩, by simp [intOf]; omega⟩
            · have q1 : (x.f0 == 1) = false := beq_eq_false_iff_ne.2 t1
              have q2 : (x.f0 == 2) = false := beq_eq_false_iff_ne.2 t2
              have q3 : (x.f0 == 3) = false := beq_eq_false_iff_ne.2 t3
              have e1 : pok x = decide (x.f3.size ≤ 65535) := by unfold pok partOk; rw [if_neg t1, if_neg t2, if_neg t3]
              have e2 : pby x = byN (x.f3.size : Int) 2 ++ bys x.f3 := by unfold pby partBy; rw [if_neg t1, if_neg t2, if_neg t3]
              rw [e2] at HI5
              have hok := HPX.out
              rw [e1] at hok
              have HOK := Aside0.mk hok
              clear e1 e2 hok t1 t2 t3
              go_wp2_with (fail)
              generalize wr.alloc (.cells #[.int .i64 x.f0, .int .i64 x.f1, .int .i64 x.f2, .string x.f3] 31) = W5 at HI5 HB5 d0 d1 d2 d3 ⊢
              have HG := Aside0.mk (text_good x.f3 R 65536 (of_decide_eq_true HOK.out) (by have := of_decide_eq_true HOK.out; omega))
              go_region_held3 (fun w' => w'.cell? ⟨wr.heap.size, 3, none⟩ = some (.string x.f3)) (first | go_keep | exact keep_cell hk7 (show World.cell? _ _ = _ from d3) hne)
                ((go_at_call 18; (with_reducible refine (code_In_Text.calls 10 gi true _ 0 65536 _ _ _ _ w _ (by first | exact HI5.out | exact IsS57.drew HI5.out | exact IsS57.drewN HI5.out _) (by first | exact HB5.out | exact below_drew HB5.out | exact pw_below_drewN HB5.out _) HG.out).mono ?_); rintro e w7 ⟨rfl, hI7, hB7, hk7⟩; have HI7 := Aside0.mk hI7; have HB7 := Aside0.mk hB7; clear hI7 hB7))
              clear d0 d1 d2 d3
              go_wp2_with (fail)
              rw [← HRE.out] at HI7
              refine ⟨⟨k + 1, by omega, by go_num, HI7, HB7⟩, by simp [intOf]; omega⟩
          · obtain rfl : k = l.length := by omega
            clear hlt hk
            rw [List.drop_length, List.flatMap_nil] at HI
            go_wp2_with (fail)
            refine (code_In_Rest.calls gi _ _ _ _ _ _ _ w _ HI.out HB.out rfl).mono ?_
            rintro e w9 ⟨rfl, hi9, b9, _⟩
            have HI9 := Aside0.mk hi9
            have HB9 := Aside0.mk b9
            clear hi9 b9
            rw [show ((txt []).size : Int) = 0 from rfl]
            go_wp2_with (fail)
            refine (code_In_Done.calls gi true (txt []) 0 0 true (txt []) 0 w _ HI9.out HB9.out (by decide +kernel)).mono ?_
            rintro e w10 ⟨rfl, hi10, b10, _⟩
            have HB10 := Aside0.mk b10
            clear hi10 b10
            go_wp2_with (fail)
            refine (awake_calls _).mono ?_
            rintro e w11 ⟨rfl, b11⟩
            have B11 := Aside0.mk (below_then HB10.out HB10.out.size b11)
            clear b11
            go_wp2_with (fail)
            go_ret
            exact ⟨rfl, B11.out⟩
end Go.Proofs.Ytpeliaknceigdaa.Pr

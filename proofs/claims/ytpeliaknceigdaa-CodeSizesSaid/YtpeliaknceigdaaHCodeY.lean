/- CodeSizes: the walk. -/
import Derived.Test.YtpeliaknceigdaaHCodeX
import Derived.Test.YtpeliaknceigdaaPrxf9
import Derived.Test.YtpeliaknceigdaaHFewA
import Derived.Test.YtpeliaknceigdaaHPartA
import Derived.Test.YtpeliaknceigdaaPrxf13
import Derived.StillTail
import Derived.StillTailTactics
namespace Go.Proofs.Ytpeliaknceigdaa.Pr
open Go.RowKit Go.Deep Go.Proofs.YtpeliaknceigdaaW.PrintWords Go.Proofs.YtpeliaknceigdaaW.PrintLast Go.Proofs.YtpeliaknceigdaaW.PrintMore
set_option maxHeartbeats 2000000
set_option linter.unusedVariables false
set_option linter.unusedSimpArgs false
/-- How many bytes a part has. -/
def partLen (kind : Int) (s : ByteArray) : Nat := if kind = 1 then 1 else if kind = 2 then 6 else if kind = 3 then 7 else 2 + s.size
theorem partBy_length (kind n m : Int) (s : ByteArray) : (partBy kind n m s).length = partLen kind s := by
  unfold partBy partLen
  split
  · exact byN_length _ _ (by decide)
  · split
    · exact byN_length _ _ (by decide)
    · split
      · rw [List.length_append, byN_length _ _ (by decide), byN_length _ _ (by decide)]
      · rw [List.length_append, byN_length _ _ (by decide), bys_length]
theorem outStep_good {bad ok : Bool} {L M L' : List Nat} (h : outStep bad L ok M = (false, L')) : L' = L ++ M := by
  unfold outStep at h
  split at h
  · cases h
  · exact (Prod.mk.inj h).2.symm
set_option maxRecDepth 100000 in
theorem sizes_law (w : World) (A : Option Addr) (c : Nat) (l : List S31) (hr : Kd.C k31 w A l.length l) (hc : l.length ≤ c) (hQ : ∀ y ∈ l, PartQ y) (hM : l.length ≤ maxLen) :
    Calls Try.prog 4 #[.slice A l.length c] w fun e w' => e = .returned (.bool true) ∧ Below w.heap.size w w' := by
  have HR := Aside0.mk hr
  have HC := Aside0.mk hc
  obtain ⟨fb, hf, hfew⟩ := few_loop l (by unfold maxLen at hM; omega) l.length (2 * l.length + 2) 0 (by omega) (by omega) (by omega)
  have HF := Aside0.mk (show samphirelaw09_few.f (2 * l.length + 2) l = some fb from hf)
  have HW := Aside0.mk hfew
  clear hr hc hf hfew
  cases fb with
  | false =>
    go_enter Try.func4, Try.ntmps4
    go_wp2_with (fail)
    refine (NewOut_calls w.heap.size w (Nat.le_refl _)).mono ?_
    rintro e w1 ⟨rfl, h1, b1⟩
    have B1 := Aside0.mk b1
    have HR1 := Aside0.mk (Kd.C_below HR.out b1)
    clear h1 b1
    go_wp2_with (fail)
    refine (samphirelaw09_few.calls _ A c l _ w1 HR1.out HC.out HF.out).mono ?_
    rintro e w2 ⟨rfl, ⟨nd, rfl⟩⟩
    go_wp2_with (fail)
    refine (awake_calls _).mono ?_
    rintro e w3 ⟨rfl, b3⟩
    have B3 := Aside0.mk (below_then (pw_below_drewN B1.out nd) (pw_below_drewN B1.out nd).size b3)
    clear b3
    go_wp2_with (fail)
    go_ret
    exact ⟨rfl, B3.out⟩
  | true =>
    go_enter Try.func4, Try.ntmps4
    go_wp2_with (fail)
    refine (NewOut_calls w.heap.size w (Nat.le_refl _)).mono ?_
    rintro e w1 ⟨rfl, h1, b1⟩
    have H1 := Aside0.mk h1
    have B1 := Aside0.mk b1
    have HR1 := Aside0.mk (Kd.C_below HR.out b1)
    clear h1 b1
    go_wp2_with (fail)
    refine (samphirelaw09_few.calls _ A c l _ w1 HR1.out HC.out HF.out).mono ?_
    rintro e w2 ⟨rfl, ⟨nd, rfl⟩⟩
    have H2 := Aside0.mk (H1.out.drewN nd)
    have B2 := Aside0.mk (pw_below_drewN B1.out nd)
    have HR2 := Aside0.mk (Kd.C_drewN HR1.out nd)
    have hz : w.heap.size < w1.heap.size := H1.out.lt
    clear H1 B1 HR1
    generalize w1.drewN nd = W at H2 B2 HR2 ⊢
    have hlen := (HW.out (by trivial)).1
    go_wp2_with (fail)
    clear HR2 hz
    go_loopw [4, 5] (fun v i wr => ∃ (k : Nat) (L : List Nat), k ≤ l.length ∧ i = .int .i64 k ∧ v = .int .i64 ((L.length : Nat) : Int) ∧ L.length ≤ 65536 ∧ Aside0 (OutAt w.heap.size w.heap.size true false L wr) ∧ Aside0 (Below w.heap.size w wr)) (fun _ i _ => l.length - (intOf i).toNat)
    case atStart => exact ⟨0, [], by omega, rfl, rfl, by decide, H2, B2⟩
    case round =>
      obtain ⟨k, L, hk, rfl, rfl, hL, HO, HB⟩ := hrel
      by_cases hlt : k < l.length
      · obtain ⟨ad, hA, c0, c1, c2, c3⟩ := at_T31 (Kd.C_below HR.out HB.out) (k : Int) (by omega) (by omega)
        subst hA
        rw [Int.toNat_natCast] at c0 c1 c2 c3
        have hx : l[k]? = some (rd_T31 l (k : Int)) := by simp [rd_T31, hlt]
        have hxv := Aside0.mk (rfl : rd_T31 l (k : Int) = rd_T31 l (k : Int))
        generalize hxe : rd_T31 l (k : Int) = x at hx c0 c1 c2 c3
        have HXE := Aside0.mk hxe
        have hxs := (HW.out trivial).2 k x (by omega) hx
        clear hx hxe hxv
        go_wp2_with (fail)
        refine (writes_any w.heap.size w.heap.size true false L ⟨#[]⟩ false x.f0 x.f1 x.f2 x.f3 wr HO.out hL (by decide) (by omega) HB.out.size).mono ?_
        unfold WritesPost
        have hl5 := outStep_len false L (partOk x.f0 x.f1 x.f2 x.f3) (partBy x.f0 x.f1 x.f2 x.f3) hL
        generalize hos : outStep false L (partOk x.f0 x.f1 x.f2 x.f3) (partBy x.f0 x.f1 x.f2 x.f3) = r at hl5 ⊢
        generalize refStep ⟨#[]⟩ false (partOk x.f0 x.f1 x.f2 x.f3) (partBy x.f0 x.f1 x.f2 x.f3) = r2
        obtain ⟨bad', L'⟩ := r
        obtain ⟨ra, rb⟩ := r2
        rintro e w5 ⟨rfl, h2, h3, h4⟩
        have HOS := Aside0.mk hos
        have HO5 := Aside0.mk (show OutAt w.heap.size w.heap.size true bad' L' w5 from h2)
        have HB5 := Aside0.mk (HB.out.trans h4)
        have hl6 : L'.length ≤ 65536 := hl5
        clear h2 h3 h4 hl5 hos c0 c1 c2 c3
        cases bad' with
        | true =>
          go_wp2_with (fail)
          refine (Out_Done_bad w.heap.size w.heap.size true true L' _ HO5.out (.inr rfl)).mono ?_
          rintro e w7 ⟨rfl, rfl⟩
          go_wp2_with (fail)
          refine (awake_calls _).mono ?_
          rintro e w7 ⟨rfl, b7⟩
          have B7 := Aside0.mk (below_then HB5.out HB5.out.size b7)
          clear b7
          go_wp2_with (fail)
          go_ret
          exact ⟨rfl, B7.out⟩
        | false =>
          obtain ⟨ad2, hA2, c0, c1, c2, c3⟩ := at_T31 (Kd.C_below HR.out HB5.out) (k : Int) (by omega) (by omega)
          obtain rfl := Option.some.inj hA2
          clear hA2
          rw [Int.toNat_natCast, HXE.out] at c0 c1 c2 c3
          clear c1 c2
          have hgood := outStep_good HOS.out
          have hlen2 : L'.length = L.length + partLen x.f0 x.f3 := by rw [hgood, List.length_append, partBy_length]
          have hts : (txt L').size = L'.length := txt_size L'
          clear hgood
          go_wp2_with (fail)
          refine (Out_Done w.heap.size w.heap.size L' _ HO5.out).mono ?_
          generalize txt L' = T at hts
          rw [hlen2] at hts
          have HLL := Aside0.mk hlen2
          clear hlen2
          rintro e w7 ⟨rfl, rfl⟩
          by_cases t1 : x.f0 = 1
          · have q1 : (x.f0 == 1) = true := beq_iff_eq.2 t1
            have hp : partLen x.f0 x.f3 = 1 := if_pos t1
            rw [hp] at hts
            have HP := Aside0.mk hp
            have s1 : ((T.size : Int) != (L.length : Int) + 1) = false := by rw [hts]; simp
            clear hts t1 hp
            go_wp2_with (fail)
            refine ⟨⟨k + 1, L', by omega, by go_num, ?_, hl6, HO5, HB5⟩, by simp [intOf]; omega⟩
            rw [HLL.out, HP.out]; go_num
          by_cases t2 : x.f0 = 2
          · have q1 : (x.f0 == 1) = false := beq_eq_false_iff_ne.2 t1
            have q2 : (x.f0 == 2) = true := beq_iff_eq.2 t2
            have hp : partLen x.f0 x.f3 = 6 := by unfold partLen; rw [if_neg t1, if_pos t2]
            rw [hp] at hts
            have HP := Aside0.mk hp
            have s1 : ((T.size : Int) != (L.length : Int) + 6) = false := by rw [hts]; simp
            clear hts t1 t2 hp
            go_wp2_with (fail)
            refine ⟨⟨k + 1, L', by omega, by go_num, ?_, hl6, HO5, HB5⟩, by simp [intOf]; omega⟩
            rw [HLL.out, HP.out]; go_num
          by_cases t3 : x.f0 = 3
          · have q1 : (x.f0 == 1) = false := beq_eq_false_iff_ne.2 t1
            have q2 : (x.f0 == 2) = false := beq_eq_false_iff_ne.2 t2
            have q3 : (x.f0 == 3) = true := beq_iff_eq.2 t3
            have hp : partLen x.f0 x.f3 = 7 := by unfold partLen; rw [if_neg t1, if_neg t2, if_pos t3]
            rw [hp] at hts
            have HP := Aside0.mk hp
            have s1 : ((T.size : Int) != (L.length : Int) + 7) = false := by rw [hts]; simp
            clear hts t1 t2 t3 hp
            go_wp2_with (fail)
            refine ⟨⟨k + 1, L', by omega, by go_num, ?_, hl6, HO5, HB5⟩, by simp [intOf]; omega⟩
            rw [HLL.out, HP.out]; go_num
          · have q1 : (x.f0 == 1) = false := beq_eq_false_iff_ne.2 t1
            have q2 : (x.f0 == 2) = false := beq_eq_false_iff_ne.2 t2
            have q3 : (x.f0 == 3) = false := beq_eq_false_iff_ne.2 t3
            have hp : partLen x.f0 x.f3 = 2 + x.f3.size := by unfold partLen; rw [if_neg t1, if_neg t2, if_neg t3]
            rw [hp] at hts
            have HP := Aside0.mk hp
            have s1 : ((T.size : Int) != (L.length : Int) + 2 + (x.f3.size : Int)) = false := by rw [hts]; simp; omega
            clear hts t1 t2 t3 hp
            go_wp2_with (fail)
            refine ⟨⟨k + 1, L', by omega, by go_num, ?_, hl6, HO5, HB5⟩, by simp [intOf]; omega⟩
            rw [HLL.out, HP.out]; go_num
      · obtain rfl : k = l.length := by omega
        clear hlt hk
        go_wp2_with (fail)
        refine (awake_calls _).mono ?_
        rintro e w7 ⟨rfl, b7⟩
        have B7 := Aside0.mk (below_then HB.out HB.out.size b7)
        clear b7
        go_wp2_with (fail)
        go_ret
        exact ⟨rfl, B7.out⟩
end Go.Proofs.Ytpeliaknceigdaa.Pr

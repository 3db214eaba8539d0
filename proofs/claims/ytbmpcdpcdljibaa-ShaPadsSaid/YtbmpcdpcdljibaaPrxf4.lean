-- Written by wip/hp.py of this session (the kit's printer, with hand-proved functions put in). Lean checks it.
import Derived.Test.YtbmpcdpcdljibaaPrx0
import Derived.Test.YtbmpcdpcdljibaaHShaA
import Derived.Test.YtbmpcdpcdljibaaHShaD
import Derived.Test.YtbmpcdpcdljibaaPrxf18
namespace Go.Proofs.Ytbmpcdpcdljibaa.Pr
open Go.RowKit Go.Proofs.YtbmpcdpcdljibaaW.PrintWords Go.Proofs.YtbmpcdpcdljibaaW.PrintLast Go.Proofs.YtbmpcdpcdljibaaW.PrintMore
attribute [local go_sem] max2_int min2_int max_two min_two max_three min_three max_four min_four   -- for this text's walks alone
set_option linter.unusedVariables false
set_option linter.unusedSimpArgs false

/-! ### samphirelaw02_ShaPads: function 4 -/
def samphirelaw02_ShaPads.j0 : Nat → Int → ByteArray → Int → Bool → Option (Bool)
  | 0, _, _, _, _ => none
  | k + 1, x0, x3, x4, x24 => if x24 = true then (some false) else (if x4 = 0 then (if (Int.tmod (wrap64 (x0 + (x3.size : Int))) 64) = 0 then (if (x3.size : Int) ≥ 9 then (if (x3.size : Int) ≤ 72 then (if 0 < (x3.size : Int) then (some ((bt x3 0) == 128)) else (none)) else (some false)) else (some false)) else (some false)) else ((sha_Begin.f).bind fun t198 => ((samphireref02_Begin.f k).bind fun t199 => (some (t198.toList == t199.toList)))))
def samphirelaw02_ShaPads.f (k : Nat) (a0 : Int) : Option (Bool) := (sha_Pad.f a0).bind fun bt194 => ((samphireref02_Pad.f a0).bind fun bt196 => (if bt194.1.toList = bt196.1.toList then (samphirelaw02_ShaPads.j0 k a0 bt194.1 bt194.2 (bt194.2 != bt196.2)) else (samphirelaw02_ShaPads.j0 k a0 bt194.1 bt194.2 true)))
theorem samphirelaw02_ShaPads.mono_l : ∀ k, (∀ y0 y1 y2 y3, LeO (samphirelaw02_ShaPads.j0 k y0 y1 y2 y3) (samphirelaw02_ShaPads.j0 (k + 1) y0 y1 y2 y3))
  | 0 => fun _ _ _ _ r h => by simp [samphirelaw02_ShaPads.j0] at h
  | k + 1 => by
    have ih0 := samphirelaw02_ShaPads.mono_l k
    · intro y0 y1 y2 y3
      unfold samphirelaw02_ShaPads.j0
      repeat' first
      | (with_reducible exact ih0 _ _ _ _)
      | (with_reducible exact samphireref02_Begin.mono _)
      | (with_reducible exact LeO.refl _)
      | (with_reducible exact LeO.none _)
      | (with_reducible refine LeO.ite ?_ ?_)
      | (with_reducible refine LeO.bind ?_ (fun _ => ?_))
      | exact ih0 _ _ _ _
      | exact samphireref02_Begin.mono _
      | exact LeO.none _
      | refine LeO.ite ?_ ?_
      | refine LeO.bind ?_ (fun _ => ?_)
theorem samphirelaw02_ShaPads.mono : ∀ a0 k, LeO (samphirelaw02_ShaPads.f k a0) (samphirelaw02_ShaPads.f (k + 1) a0) := by
  intro a0 k
  have ih0 := samphirelaw02_ShaPads.mono_l k
  unfold samphirelaw02_ShaPads.f
  repeat' first
      | (with_reducible exact ih0 _ _ _ _)
      | (with_reducible exact samphireref02_Begin.mono _)
      | (with_reducible exact LeO.refl _)
      | (with_reducible exact LeO.none _)
      | (with_reducible refine LeO.ite ?_ ?_)
      | (with_reducible refine LeO.bind ?_ (fun _ => ?_))
      | exact ih0 _ _ _ _
      | exact samphireref02_Begin.mono _
      | exact LeO.none _
      | refine LeO.ite ?_ ?_
      | refine LeO.bind ?_ (fun _ => ?_)
set_option maxHeartbeats 8000000 in
set_option maxRecDepth 100000 in
theorem samphirelaw02_ShaPads.calls (k : Nat) (a0 : Int) (r : Bool) (w : World) (h : samphirelaw02_ShaPads.f k a0 = some r) :
    Calls Try.prog 4 #[.int .i64 a0] w fun e w' => e = .returned (.bool r) ∧ Below w.heap.size w w' := by
  have HB := Aside0.mk (Below.refl w.heap.size w)
  have H : ((sha_Pad.f a0).bind fun bt194 => ((samphireref02_Pad.f a0).bind fun bt196 => (if bt194.1.toList = bt196.1.toList then (samphirelaw02_ShaPads.j0 k a0 bt194.1 bt194.2 (bt194.2 != bt196.2)) else (samphirelaw02_ShaPads.j0 k a0 bt194.1 bt194.2 true)))) = some r := h
  clear h
  replace H := Option.bind_eq_some_iff.mp H
  obtain ⟨⟨t194, t195⟩, A20, H⟩ := H
  replace H : ((samphireref02_Pad.f a0).bind fun bt196 => (if t194.toList = bt196.1.toList then (samphirelaw02_ShaPads.j0 k a0 t194 t195 (t195 != bt196.2)) else (samphirelaw02_ShaPads.j0 k a0 t194 t195 true))) = some r := H
  have A2 := Aside0.mk A20
  clear A20
  replace H := Option.bind_eq_some_iff.mp H
  obtain ⟨⟨t196, t197⟩, A30, H⟩ := H
  replace H : (if t194.toList = t196.toList then (samphirelaw02_ShaPads.j0 k a0 t194 t195 (t195 != t197)) else (samphirelaw02_ShaPads.j0 k a0 t194 t195 true)) = some r := H
  have A3 := Aside0.mk A30
  clear A30
  have HC4 := Aside0.mk H
  clear H
  go_enter Try.func4, Try.ntmps4
  go_upto_region 3 with (first | ((with_reducible refine gate_callee (f := 21) rfl ?_); refine goesL_ (some 9) rfl rfl Try.func21 (by kernel_rfl) rfl #[.int .i64 a0] rfl (by (try simp only [List.map_toArray, List.map_cons, List.map_nil]); first | done | rfl | (simp only [List.length_drop, List.length_take]; rfl)) ?_; (with_reducible refine (sha_Pad.calls a0 t194 t195 _ A2.out).mono ?_); rintro e w5 ⟨rfl, hb⟩; refine ⟨_, rfl, ?_⟩; have n0_ := Aside0.mk (below_step (by repeat (first | (with_reducible first | exact HB.out | apply below_alloc | apply pw_below_drewN | apply below_drew1) | exact HB.out)) hb); clear HB; have HB := n0_; clear n0_; (try clear hb); (try clear hb2); (try clear hk); (try clear hi)) | ((with_reducible refine gate_callee (f := 22) rfl ?_); refine goesL_ (some 14) rfl rfl Try.func22 (by kernel_rfl) rfl #[.int .i64 a0] rfl (by (try simp only [List.map_toArray, List.map_cons, List.map_nil]); first | done | rfl | (simp only [List.length_drop, List.length_take]; rfl)) ?_; (with_reducible refine (samphireref02_Pad.calls a0 t196 t197 _ A3.out).mono ?_); rintro e w6 ⟨rfl, hb⟩; refine ⟨_, rfl, ?_⟩; have n0_ := Aside0.mk (below_step (by repeat (first | (with_reducible first | exact HB.out | apply below_alloc | apply pw_below_drewN | apply below_drew1) | exact HB.out)) hb); clear HB; have HB := n0_; clear n0_; (try clear hb); (try clear hb2); (try clear hk); (try clear hi)))
  (try simp only [Act.put, List.setIfInBounds_toArray, List.set_cons_zero, List.set_cons_succ])
  go_cut [24] (fun v24 wc => ∃ (kq : Nat) (x24_3 : Bool), v24 = .bool x24_3 ∧ Aside0 (samphirelaw02_ShaPads.j0 kq a0 t194 t195 x24_3 = some r) ∧ Aside0 (kq ≤ k) ∧ Aside0 (Below w.heap.size w wc))
  case first =>
    have H := HC4.out
    clear HC4
    by_cases c7 : t194.toList = t196.toList
    · rw [if_pos c7] at H
      have c7b0 : (t194.toList == t196.toList) = true := beq_iff_eq.mpr c7
      have c7b1 : (t194.toList != t196.toList) = false := bne_eq_false_iff_eq.mpr c7
      clear c7
      (first | rw [c7b0] | (simp only [i64_w, i32_w]; rw [c7b0]) | skip)
      have H' := Aside0.mk H
      clear H
      go_wp2
      go_meet
      case rel => exact ⟨_, ((t195 != t197)), (by first | rfl | (simp; done) | (simp [*]; done)), H', ⟨by first | omega | exact Nat.le_refl _⟩, ⟨by repeat (first | (with_reducible first | exact HB.out | apply below_alloc | apply pw_below_drewN | apply below_drew1) | exact HB.out)⟩⟩
    · rw [if_neg c7] at H
      have c7b0 : (t194.toList == t196.toList) = false := beq_eq_false_iff_ne.mpr c7
      have c7b1 : (t194.toList != t196.toList) = true := bne_iff_ne.mpr c7
      (first | rw [c7b0] | (simp only [i64_w, i32_w]; rw [c7b0]) | skip)
      have H' := Aside0.mk H
      clear H
      go_wp2
      go_meet
      case rel => exact ⟨_, (true), (by first | rfl | (simp; done) | (simp [*]; done)), H', ⟨by first | omega | exact Nat.le_refl _⟩, ⟨by repeat (first | (with_reducible first | exact HB.out | apply below_alloc | apply pw_below_drewN | apply below_drew1) | exact HB.out)⟩⟩
  case rest =>
    clear HC4
    try clear c2
    try clear p2
    try clear c4
    try clear c7
    try clear c7b0
    try clear c7b1
    obtain ⟨kq, x24_3, rfl, HA, HJ3, HB⟩ := hcut
    cases kq with
    | zero => exact absurd HA.out (by simp [samphirelaw02_ShaPads.j0])
    | succ kj3 =>
      have H := HA.out
      clear HA
      simp only [samphirelaw02_ShaPads.j0] at H
      by_cases c8 : x24_3 = true
      · subst c8
        have H1 : (some false) = some r := by rw [if_pos rfl] at H; exact H
        clear H
        have H := H1
        clear H1
        obtain rfl := Option.some.inj H
        go_wp2
        go_ret
        exact ⟨by first | rfl | (simp [errW_none, errW_some] <;> rfl) | (simp [*, errW_none, errW_some] <;> rfl), by repeat (first | (with_reducible first | exact HB.out | apply below_alloc | apply pw_below_drewN | apply below_drew1) | exact HB.out)⟩
      · replace c8 := Bool.eq_false_iff.mpr c8
        subst c8
        have H1 : (if t195 = 0 then (if (Int.tmod (wrap64 (a0 + (t194.size : Int))) 64) = 0 then (if (t194.size : Int) ≥ 9 then (if (t194.size : Int) ≤ 72 then (if 0 < (t194.size : Int) then (some ((bt t194 0) == 128)) else (none)) else (some false)) else (some false)) else (some false)) else ((sha_Begin.f).bind fun t198 => ((samphireref02_Begin.f kj3).bind fun t199 => (some (t198.toList == t199.toList))))) = some r := by rw [if_neg (show ¬ (false = true) by decide)] at H; exact H
        clear H
        have H := H1
        clear H1
        by_cases c9 : t195 = 0
        · rw [if_pos c9] at H
          have c9b0 : (t195 == 0) = true := beq_iff_eq.mpr c9
          have c9b1 : (t195 != 0) = false := bne_eq_false_iff_eq.mpr c9
          clear c9
          by_cases c10 : (Int.tmod (wrap64 (a0 + (t194.size : Int))) 64) = 0
          · rw [if_pos c10] at H
            have c10b0 : ((Int.tmod (wrap64 (a0 + (t194.size : Int))) 64) == 0) = true := beq_iff_eq.mpr c10
            have c10b1 : ((Int.tmod (wrap64 (a0 + (t194.size : Int))) 64) != 0) = false := bne_eq_false_iff_eq.mpr c10
            clear c10
            by_cases c11 : (t194.size : Int) ≥ 9
            · rw [if_pos c11] at H
              have c11b0 : decide (9 ≤ (t194.size : Int)) = true := decide_eq_true c11
              have c11b1 : decide (9 ≤ t194.size) = true := decide_eq_true (by omega)
              clear c11
              by_cases c12 : (t194.size : Int) ≤ 72
              · rw [if_pos c12] at H
                have c12b0 : decide ((t194.size : Int) ≤ 72) = true := decide_eq_true c12
                have c12b1 : decide (t194.size ≤ 72) = true := decide_eq_true (by omega)
                clear c12
                by_cases c13 : 0 < (t194.size : Int)
                · rw [if_pos c13] at H
                  have c13b0 : decide (0 < (t194.size : Int)) = true := decide_eq_true c13
                  have c13b1 : decide (0 < t194.size) = true := decide_eq_true (by omega)
                  clear c13
                  obtain rfl := Option.some.inj H
                  have p14 : 0 ≤ (0 : Int) := (by omega)
                  have q14 : 0 < t194.size := (by have : (0 : Int) < (t194.size : Int) := of_decide_eq_true (by first | (with_reducible assumption) | assumption); omega)
                  have hx14 : ∀ h : 0 < t194.size, ((t194[0]'h).toNat : Int) = bt t194 0 := bt_at t194 0
                  clear p14
                  have qi14 : (0 < (t194.size : Int)) = True := eq_true (of_decide_eq_true (by first | (with_reducible assumption) | assumption))
                  replace q14 := eq_true q14
                  go_wp2
                  go_ret
                  exact ⟨by first | rfl | (simp [errW_none, errW_some] <;> rfl) | (simp [*, errW_none, errW_some] <;> rfl), by repeat (first | (with_reducible first | exact HB.out | apply below_alloc | apply pw_below_drewN | apply below_drew1) | exact HB.out)⟩
                · rw [if_neg c13] at H
                  exact absurd H (by simp)
              · rw [if_neg c12] at H
                have c12b0 : decide ((t194.size : Int) ≤ 72) = false := decide_eq_false c12
                have c12b1 : decide (t194.size ≤ 72) = false := decide_eq_false (by omega)
                clear c12
                obtain rfl := Option.some.inj H
                go_wp2
                go_ret
                exact ⟨by first | rfl | (simp [errW_none, errW_some] <;> rfl) | (simp [*, errW_none, errW_some] <;> rfl), by repeat (first | (with_reducible first | exact HB.out | apply below_alloc | apply pw_below_drewN | apply below_drew1) | exact HB.out)⟩
            · rw [if_neg c11] at H
              have c11b0 : decide (9 ≤ (t194.size : Int)) = false := decide_eq_false c11
              have c11b1 : decide (9 ≤ t194.size) = false := decide_eq_false (by omega)
              clear c11
              obtain rfl := Option.some.inj H
              go_wp2
              go_ret
              exact ⟨by first | rfl | (simp [errW_none, errW_some] <;> rfl) | (simp [*, errW_none, errW_some] <;> rfl), by repeat (first | (with_reducible first | exact HB.out | apply below_alloc | apply pw_below_drewN | apply below_drew1) | exact HB.out)⟩
          · rw [if_neg c10] at H
            have c10b0 : ((Int.tmod (wrap64 (a0 + (t194.size : Int))) 64) == 0) = false := beq_eq_false_iff_ne.mpr c10
            have c10b1 : ((Int.tmod (wrap64 (a0 + (t194.size : Int))) 64) != 0) = true := bne_iff_ne.mpr c10
            obtain rfl := Option.some.inj H
            go_wp2
            go_ret
            exact ⟨by first | rfl | (simp [errW_none, errW_some] <;> rfl) | (simp [*, errW_none, errW_some] <;> rfl), by repeat (first | (with_reducible first | exact HB.out | apply below_alloc | apply pw_below_drewN | apply below_drew1) | exact HB.out)⟩
        · rw [if_neg c9] at H
          have c9b0 : (t195 == 0) = false := beq_eq_false_iff_ne.mpr c9
          have c9b1 : (t195 != 0) = true := bne_iff_ne.mpr c9
          replace H := Option.bind_eq_some_iff.mp H
          obtain ⟨t198, A150, H⟩ := H
          replace H : ((samphireref02_Begin.f kj3).bind fun t199 => (some (t198.toList == t199.toList))) = some r := H
          have A15 := Aside0.mk A150
          clear A150
          replace H := Option.bind_eq_some_iff.mp H
          obtain ⟨t199, A160, H⟩ := H
          replace H : (some (t198.toList == t199.toList)) = some r := H
          have A16 := Aside0.mk A160
          clear A160
          obtain rfl := Option.some.inj H
          go_wp2_with (first | ((with_reducible refine gate_callee (f := 17) rfl ?_); refine goesL_ (some 27) rfl rfl Try.func17 (by kernel_rfl) rfl #[] rfl (by (try simp only [List.map_toArray, List.map_cons, List.map_nil]); first | done | rfl | (simp only [List.length_drop, List.length_take]; rfl)) ?_; (with_reducible refine (sha_Begin.calls  t198 _ A15.out).mono ?_); rintro e w17 ⟨rfl, hb⟩; refine ⟨_, rfl, ?_⟩; have n0_ := Aside0.mk (below_step (by repeat (first | (with_reducible first | exact HB.out | apply below_alloc | apply pw_below_drewN | apply below_drew1) | exact HB.out)) hb); clear HB; have HB := n0_; clear n0_; (try clear hb); (try clear hb2); (try clear hk); (try clear hi)) | ((with_reducible refine gate_callee (f := 18) rfl ?_); refine goesL_ (some 28) rfl rfl Try.func18 (by kernel_rfl) rfl #[] rfl (by (try simp only [List.map_toArray, List.map_cons, List.map_nil]); first | done | rfl | (simp only [List.length_drop, List.length_take]; rfl)) ?_; (with_reducible refine (samphireref02_Begin.calls kj3  t199 _ A16.out).mono ?_); rintro e w18 ⟨rfl, hb⟩; refine ⟨_, rfl, ?_⟩; have n0_ := Aside0.mk (below_step (by repeat (first | (with_reducible first | exact HB.out | apply below_alloc | apply pw_below_drewN | apply below_drew1) | exact HB.out)) hb); clear HB; have HB := n0_; clear n0_; (try clear hb); (try clear hb2); (try clear hk); (try clear hi)))
          go_ret
          exact ⟨by first | rfl | (simp [errW_none, errW_some] <;> rfl) | (simp [*, errW_none, errW_some] <;> rfl), by repeat (first | (with_reducible first | exact HB.out | apply below_alloc | apply pw_below_drewN | apply below_drew1) | exact HB.out)⟩

/-- THE ONE PURE STATEMENT of samphirelaw02_ShaPads: yours. -/
def samphirelaw02_ShaPads.Pure : Prop := ∀ (a0 : Int), (Lit.int .i64 a0).wf = true → ∃ k, samphirelaw02_ShaPads.f k a0 = some true
theorem samphirelaw02_ShaPads.walk (P : samphirelaw02_ShaPads.Pure) (a0 : Int) (w : World) (w0 : (Lit.int .i64 a0).wf = true) :
    Calls Try.prog 4 #[.int .i64 a0] w fun e w' => e = .returned (.bool true) ∧ Below w.heap.size w w' := by
  obtain ⟨k, h⟩ := P a0 w0
  refine (samphirelaw02_ShaPads.calls k a0 true w h).mono ?_
  rintro e w' ⟨rfl, hd⟩
  exact ⟨rfl, hd⟩

end Go.Proofs.Ytbmpcdpcdljibaa.Pr

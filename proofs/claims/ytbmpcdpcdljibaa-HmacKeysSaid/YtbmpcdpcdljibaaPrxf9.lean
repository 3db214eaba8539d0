-- Written by wip/hp.py of this session (the kit's printer, with hand-proved functions put in). Lean checks it.
import Derived.Test.YtbmpcdpcdljibaaPrx0
import Derived.Test.YtbmpcdpcdljibaaHShaE
import Derived.Test.YtbmpcdpcdljibaaPrxf27
import Derived.Test.YtbmpcdpcdljibaaPrxf28
namespace Go.Proofs.Ytbmpcdpcdljibaa.Pr
open Go.RowKit Go.Proofs.YtbmpcdpcdljibaaW.PrintWords Go.Proofs.YtbmpcdpcdljibaaW.PrintLast Go.Proofs.YtbmpcdpcdljibaaW.PrintMore
attribute [local go_sem] max2_int min2_int max_two min_two max_three min_three max_four min_four   -- for this text's walks alone
set_option linter.unusedVariables false
set_option linter.unusedSimpArgs false

/-! ### samphirelaw03_HmacKeys: function 9 -/
def samphirelaw03_HmacKeys.j0 : Nat → ByteArray → ByteArray → Int → Bool → Option (Bool)
  | 0, _, _, _, _ => none
  | k + 1, x0, x1, x2, x16 => if x16 = true then ((samphirelaw03_jefe.f k).bind fun t252 => (some t252)) else ((hmac_Mac.f x0 x1).bind fun t253 => (if (x0.size : Int) > 64 then ((sha_Sum.f x0).bind fun t254 => ((hmac_Mac.f t254 x1).bind fun t255 => (if t253.toList = t255.toList then ((samphirelaw03_jefe.f k).bind fun t256 => (some t256)) else (some false)))) else (if (wrap64 (65 - (x0.size : Int))) = 0 then (none) else (if 0 ≤ (Int.tmod (Go.bits .and .i64 x2 255) (wrap64 (65 - (x0.size : Int)))) then (if (Int.tmod (Go.bits .and .i64 x2 255) (wrap64 (65 - (x0.size : Int))) : Int).toNat ≤ 281474976710656 then ((some (List.replicate (Int.tmod (Go.bits .and .i64 x2 255) (wrap64 (65 - (x0.size : Int))) : Int).toNat 0 : List Int)).bind fun y257 => (if x0.size + (strOfNums y257).size ≤ 9223372036854775807 then ((hmac_Mac.f (x0 ++ (strOfNums y257)) x1).bind fun t260 => (if t253.toList = t260.toList then ((samphirelaw03_jefe.f k).bind fun t261 => (some t261)) else (some false))) else (none))) else (none)) else (none)))))
def samphirelaw03_HmacKeys.f (k : Nat) (a0 : ByteArray) (a1 : ByteArray) (a2 : Int) : Option (Bool) := if (a0.size : Int) > 1024 then (samphirelaw03_HmacKeys.j0 k a0 a1 a2 true) else (samphirelaw03_HmacKeys.j0 k a0 a1 a2 (decide ((a1.size : Int) > 1024)))
theorem samphirelaw03_HmacKeys.mono_l : ∀ k, (∀ y0 y1 y2 y3, LeO (samphirelaw03_HmacKeys.j0 k y0 y1 y2 y3) (samphirelaw03_HmacKeys.j0 (k + 1) y0 y1 y2 y3))
  | 0 => fun _ _ _ _ r h => by simp [samphirelaw03_HmacKeys.j0] at h
  | k + 1 => by
    have ih0 := samphirelaw03_HmacKeys.mono_l k
    · intro y0 y1 y2 y3
      unfold samphirelaw03_HmacKeys.j0
      repeat' first
      | (with_reducible exact ih0 _ _ _ _)
      | (with_reducible exact samphirelaw03_jefe.mono _)
      | (with_reducible exact LeO.refl _)
      | (with_reducible exact LeO.none _)
      | (with_reducible refine LeO.ite ?_ ?_)
      | (with_reducible refine LeO.bind ?_ (fun _ => ?_))
      | exact ih0 _ _ _ _
      | exact samphirelaw03_jefe.mono _
      | exact LeO.none _
      | refine LeO.ite ?_ ?_
      | refine LeO.bind ?_ (fun _ => ?_)
theorem samphirelaw03_HmacKeys.mono : ∀ a0 a1 a2 k, LeO (samphirelaw03_HmacKeys.f k a0 a1 a2) (samphirelaw03_HmacKeys.f (k + 1) a0 a1 a2) := by
  intro a0 a1 a2 k
  have ih0 := samphirelaw03_HmacKeys.mono_l k
  unfold samphirelaw03_HmacKeys.f
  repeat' first
      | (with_reducible exact ih0 _ _ _ _)
      | (with_reducible exact samphirelaw03_jefe.mono _)
      | (with_reducible exact LeO.refl _)
      | (with_reducible exact LeO.none _)
      | (with_reducible refine LeO.ite ?_ ?_)
      | (with_reducible refine LeO.bind ?_ (fun _ => ?_))
      | exact ih0 _ _ _ _
      | exact samphirelaw03_jefe.mono _
      | exact LeO.none _
      | refine LeO.ite ?_ ?_
      | refine LeO.bind ?_ (fun _ => ?_)
set_option maxHeartbeats 8000000 in
set_option maxRecDepth 100000 in
theorem samphirelaw03_HmacKeys.calls (k : Nat) (a0 : ByteArray) (a1 : ByteArray) (a2 : Int) (r : Bool) (w : World) (h : samphirelaw03_HmacKeys.f k a0 a1 a2 = some r) :
    Calls Try.prog 9 #[.string a0, .string a1, .int .i64 a2] w fun e w' => e = .returned (.bool r) ∧ Below w.heap.size w w' := by
  have HB := Aside0.mk (Below.refl w.heap.size w)
  have H : (if (a0.size : Int) > 1024 then (samphirelaw03_HmacKeys.j0 k a0 a1 a2 true) else (samphirelaw03_HmacKeys.j0 k a0 a1 a2 (decide ((a1.size : Int) > 1024)))) = some r := h
  clear h
  have HC4 := Aside0.mk H
  clear H
  go_enter Try.func9, Try.ntmps9
  go_upto_region 1 with (fail)
  go_cut [16] (fun v16 wc => ∃ (kq : Nat) (x16_3 : Bool), v16 = .bool x16_3 ∧ Aside0 (samphirelaw03_HmacKeys.j0 kq a0 a1 a2 x16_3 = some r) ∧ Aside0 (kq ≤ k) ∧ Aside0 (Below w.heap.size w wc))
  case first =>
    have H := HC4.out
    clear HC4
    by_cases c5 : (a0.size : Int) > 1024
    · rw [if_pos c5] at H
      have c5b0 : decide (1024 < (a0.size : Int)) = true := decide_eq_true c5
      have c5b1 : decide (1024 < a0.size) = true := decide_eq_true (by omega)
      clear c5
      (first | rw [c5b0] | (simp only [i64_w, i32_w]; rw [c5b0]) | skip)
      have H' := Aside0.mk H
      clear H
      go_wp2
      go_meet
      case rel => exact ⟨_, (true), (by first | rfl | (simp; done) | (simp [*]; done)), H', ⟨by first | omega | exact Nat.le_refl _⟩, ⟨by repeat (first | (with_reducible first | exact HB.out | apply below_alloc | apply pw_below_drewN | apply below_drew1) | exact HB.out)⟩⟩
    · rw [if_neg c5] at H
      have c5b0 : decide (1024 < (a0.size : Int)) = false := decide_eq_false c5
      have c5b1 : decide (1024 < a0.size) = false := decide_eq_false (by omega)
      clear c5
      (first | rw [c5b0] | (simp only [i64_w, i32_w]; rw [c5b0]) | skip)
      have H' := Aside0.mk H
      clear H
      go_wp2
      go_meet
      case rel => exact ⟨_, (decide ((a1.size : Int) > 1024)), (by first | rfl | (simp; done) | (simp [*]; done)), H', ⟨by first | omega | exact Nat.le_refl _⟩, ⟨by repeat (first | (with_reducible first | exact HB.out | apply below_alloc | apply pw_below_drewN | apply below_drew1) | exact HB.out)⟩⟩
  case rest =>
    clear HC4
    try clear p2
    try clear c5
    try clear c5b0
    try clear c5b1
    obtain ⟨kq, x16_3, rfl, HA, HJ3, HB⟩ := hcut
    cases kq with
    | zero => exact absurd HA.out (by simp [samphirelaw03_HmacKeys.j0])
    | succ kj3 =>
      have H := HA.out
      clear HA
      simp only [samphirelaw03_HmacKeys.j0] at H
      by_cases c6 : x16_3 = true
      · subst c6
        have H1 : ((samphirelaw03_jefe.f kj3).bind fun t252 => (some t252)) = some r := by rw [if_pos rfl] at H; exact H
        clear H
        have H := H1
        clear H1
        replace H := Option.bind_eq_some_iff.mp H
        obtain ⟨t252, A70, H⟩ := H
        replace H : (some t252) = some r := H
        have A7 := Aside0.mk A70
        clear A70
        obtain rfl := Option.some.inj H
        go_wp2_with (first | ((with_reducible refine gate_callee (f := 27) rfl ?_); refine goesL_ (some 17) rfl rfl Try.func27 (by kernel_rfl) rfl #[] rfl (by (try simp only [List.map_toArray, List.map_cons, List.map_nil]); first | done | rfl | (simp only [List.length_drop, List.length_take]; rfl)) ?_; (with_reducible refine (samphirelaw03_jefe.calls kj3  t252 _ A7.out).mono ?_); rintro e w8 ⟨rfl, hb⟩; refine ⟨_, rfl, ?_⟩; have n0_ := Aside0.mk (below_step (by repeat (first | (with_reducible first | exact HB.out | apply below_alloc | apply pw_below_drewN | apply below_drew1) | exact HB.out)) hb); clear HB; have HB := n0_; clear n0_; (try clear hb); (try clear hb2); (try clear hk); (try clear hi)))
        go_ret
        exact ⟨by first | rfl | (simp [errW_none, errW_some] <;> rfl) | (simp [*, errW_none, errW_some] <;> rfl), by repeat (first | (with_reducible first | exact HB.out | apply below_alloc | apply pw_below_drewN | apply below_drew1) | exact HB.out)⟩
      · replace c6 := Bool.eq_false_iff.mpr c6
        subst c6
        have H1 : ((hmac_Mac.f a0 a1).bind fun t253 => (if (a0.size : Int) > 64 then ((sha_Sum.f a0).bind fun t254 => ((hmac_Mac.f t254 a1).bind fun t255 => (if t253.toList = t255.toList then ((samphirelaw03_jefe.f kj3).bind fun t256 => (some t256)) else (some false)))) else (if (wrap64 (65 - (a0.size : Int))) = 0 then (none) else (if 0 ≤ (Int.tmod (Go.bits .and .i64 a2 255) (wrap64 (65 - (a0.size : Int)))) then (if (Int.tmod (Go.bits .and .i64 a2 255) (wrap64 (65 - (a0.size : Int))) : Int).toNat ≤ 281474976710656 then ((some (List.replicate (Int.tmod (Go.bits .and .i64 a2 255) (wrap64 (65 - (a0.size : Int))) : Int).toNat 0 : List Int)).bind fun y257 => (if a0.size + (strOfNums y257).size ≤ 9223372036854775807 then ((hmac_Mac.f (a0 ++ (strOfNums y257)) a1).bind fun t260 => (if t253.toList = t260.toList then ((samphirelaw03_jefe.f kj3).bind fun t261 => (some t261)) else (some false))) else (none))) else (none)) else (none))))) = some r := by rw [if_neg (show ¬ (false = true) by decide)] at H; exact H
        clear H
        have H := H1
        clear H1
        replace H := Option.bind_eq_some_iff.mp H
        obtain ⟨t253, A90, H⟩ := H
        replace H : (if (a0.size : Int) > 64 then ((sha_Sum.f a0).bind fun t254 => ((hmac_Mac.f t254 a1).bind fun t255 => (if t253.toList = t255.toList then ((samphirelaw03_jefe.f kj3).bind fun t256 => (some t256)) else (some false)))) else (if (wrap64 (65 - (a0.size : Int))) = 0 then (none) else (if 0 ≤ (Int.tmod (Go.bits .and .i64 a2 255) (wrap64 (65 - (a0.size : Int)))) then (if (Int.tmod (Go.bits .and .i64 a2 255) (wrap64 (65 - (a0.size : Int))) : Int).toNat ≤ 281474976710656 then ((some (List.replicate (Int.tmod (Go.bits .and .i64 a2 255) (wrap64 (65 - (a0.size : Int))) : Int).toNat 0 : List Int)).bind fun y257 => (if a0.size + (strOfNums y257).size ≤ 9223372036854775807 then ((hmac_Mac.f (a0 ++ (strOfNums y257)) a1).bind fun t260 => (if t253.toList = t260.toList then ((samphirelaw03_jefe.f kj3).bind fun t261 => (some t261)) else (some false))) else (none))) else (none)) else (none)))) = some r := H
        have A9 := Aside0.mk A90
        clear A90
        by_cases c10 : (a0.size : Int) > 64
        · rw [if_pos c10] at H
          have c10b0 : decide (64 < (a0.size : Int)) = true := decide_eq_true c10
          have c10b1 : decide (64 < a0.size) = true := decide_eq_true (by omega)
          clear c10
          replace H := Option.bind_eq_some_iff.mp H
          obtain ⟨t254, A110, H⟩ := H
          replace H : ((hmac_Mac.f t254 a1).bind fun t255 => (if t253.toList = t255.toList then ((samphirelaw03_jefe.f kj3).bind fun t256 => (some t256)) else (some false))) = some r := H
          have A11 := Aside0.mk A110
          clear A110
          replace H := Option.bind_eq_some_iff.mp H
          obtain ⟨t255, A120, H⟩ := H
          replace H : (if t253.toList = t255.toList then ((samphirelaw03_jefe.f kj3).bind fun t256 => (some t256)) else (some false)) = some r := H
          have A12 := Aside0.mk A120
          clear A120
          by_cases c13 : t253.toList = t255.toList
          · rw [if_pos c13] at H
            have c13b0 : (t253.toList == t255.toList) = true := beq_iff_eq.mpr c13
            have c13b1 : (t253.toList != t255.toList) = false := bne_eq_false_iff_eq.mpr c13
            clear c13
            replace H := Option.bind_eq_some_iff.mp H
            obtain ⟨t256, A140, H⟩ := H
            replace H : (some t256) = some r := H
            have A14 := Aside0.mk A140
            clear A140
            obtain rfl := Option.some.inj H
            go_wp2_with (first | ((with_reducible refine gate_callee (f := 28) rfl ?_); refine goesL_ (some 20) rfl rfl Try.func28 (by kernel_rfl) rfl #[.string a0, .string a1] rfl (by (try simp only [List.map_toArray, List.map_cons, List.map_nil]); first | done | rfl | (simp only [List.length_drop, List.length_take]; rfl)) ?_; (with_reducible refine (hmac_Mac.calls a0 a1 t253 _ A9.out).mono ?_); rintro e w15 ⟨rfl, hb⟩; refine ⟨_, rfl, ?_⟩; have n0_ := Aside0.mk (below_step (by repeat (first | (with_reducible first | exact HB.out | apply below_alloc | apply pw_below_drewN | apply below_drew1) | exact HB.out)) hb); clear HB; have HB := n0_; clear n0_; (try clear hb); (try clear hb2); (try clear hk); (try clear hi)) | ((with_reducible refine gate_callee (f := 24) rfl ?_); refine goesL_ (some 26) rfl rfl Try.func24 (by kernel_rfl) rfl #[.string a0] rfl (by (try simp only [List.map_toArray, List.map_cons, List.map_nil]); first | done | rfl | (simp only [List.length_drop, List.length_take]; rfl)) ?_; (with_reducible refine (sha_Sum.calls a0 t254 _ A11.out).mono ?_); rintro e w16 ⟨rfl, hb⟩; refine ⟨_, rfl, ?_⟩; have n0_ := Aside0.mk (below_step (by repeat (first | (with_reducible first | exact HB.out | apply below_alloc | apply pw_below_drewN | apply below_drew1) | exact HB.out)) hb); clear HB; have HB := n0_; clear n0_; (try clear hb); (try clear hb2); (try clear hk); (try clear hi)) | ((with_reducible refine gate_callee (f := 28) rfl ?_); refine goesL_ (some 28) rfl rfl Try.func28 (by kernel_rfl) rfl #[.string t254, .string a1] rfl (by (try simp only [List.map_toArray, List.map_cons, List.map_nil]); first | done | rfl | (simp only [List.length_drop, List.length_take]; rfl)) ?_; (with_reducible refine (hmac_Mac.calls t254 a1 t255 _ A12.out).mono ?_); rintro e w17 ⟨rfl, hb⟩; refine ⟨_, rfl, ?_⟩; have n0_ := Aside0.mk (below_step (by repeat (first | (with_reducible first | exact HB.out | apply below_alloc | apply pw_below_drewN | apply below_drew1) | exact HB.out)) hb); clear HB; have HB := n0_; clear n0_; (try clear hb); (try clear hb2); (try clear hk); (try clear hi)) | (go_at_call 27; (with_reducible refine (samphirelaw03_jefe.calls kj3  t256 _ A14.out).mono ?_); rintro e w18 ⟨rfl, hb⟩; have n0_ := Aside0.mk (below_step (by repeat (first | (with_reducible first | exact HB.out | apply below_alloc | apply pw_below_drewN | apply below_drew1) | exact HB.out)) hb); clear HB; have HB := n0_; clear n0_; (try clear hb); (try clear hb2); (try clear hk); (try clear hi)))
            go_ret
            exact ⟨by first | rfl | (simp [errW_none, errW_some] <;> rfl) | (simp [*, errW_none, errW_some] <;> rfl), by repeat (first | (with_reducible first | exact HB.out | apply below_alloc | apply pw_below_drewN | apply below_drew1) | exact HB.out)⟩
          · rw [if_neg c13] at H
            have c13b0 : (t253.toList == t255.toList) = false := beq_eq_false_iff_ne.mpr c13
            have c13b1 : (t253.toList != t255.toList) = true := bne_iff_ne.mpr c13
            obtain rfl := Option.some.inj H
            go_wp2_with (first | ((with_reducible refine gate_callee (f := 28) rfl ?_); refine goesL_ (some 20) rfl rfl Try.func28 (by kernel_rfl) rfl #[.string a0, .string a1] rfl (by (try simp only [List.map_toArray, List.map_cons, List.map_nil]); first | done | rfl | (simp only [List.length_drop, List.length_take]; rfl)) ?_; (with_reducible refine (hmac_Mac.calls a0 a1 t253 _ A9.out).mono ?_); rintro e w19 ⟨rfl, hb⟩; refine ⟨_, rfl, ?_⟩; have n0_ := Aside0.mk (below_step (by repeat (first | (with_reducible first | exact HB.out | apply below_alloc | apply pw_below_drewN | apply below_drew1) | exact HB.out)) hb); clear HB; have HB := n0_; clear n0_; (try clear hb); (try clear hb2); (try clear hk); (try clear hi)) | ((with_reducible refine gate_callee (f := 24) rfl ?_); refine goesL_ (some 26) rfl rfl Try.func24 (by kernel_rfl) rfl #[.string a0] rfl (by (try simp only [List.map_toArray, List.map_cons, List.map_nil]); first | done | rfl | (simp only [List.length_drop, List.length_take]; rfl)) ?_; (with_reducible refine (sha_Sum.calls a0 t254 _ A11.out).mono ?_); rintro e w20 ⟨rfl, hb⟩; refine ⟨_, rfl, ?_⟩; have n0_ := Aside0.mk (below_step (by repeat (first | (with_reducible first | exact HB.out | apply below_alloc | apply pw_below_drewN | apply below_drew1) | exact HB.out)) hb); clear HB; have HB := n0_; clear n0_; (try clear hb); (try clear hb2); (try clear hk); (try clear hi)) | ((with_reducible refine gate_callee (f := 28) rfl ?_); refine goesL_ (some 28) rfl rfl Try.func28 (by kernel_rfl) rfl #[.string t254, .string a1] rfl (by (try simp only [List.map_toArray, List.map_cons, List.map_nil]); first | done | rfl | (simp only [List.length_drop, List.length_take]; rfl)) ?_; (with_reducible refine (hmac_Mac.calls t254 a1 t255 _ A12.out).mono ?_); rintro e w21 ⟨rfl, hb⟩; refine ⟨_, rfl, ?_⟩; have n0_ := Aside0.mk (below_step (by repeat (first | (with_reducible first | exact HB.out | apply below_alloc | apply pw_below_drewN | apply below_drew1) | exact HB.out)) hb); clear HB; have HB := n0_; clear n0_; (try clear hb); (try clear hb2); (try clear hk); (try clear hi)))
            go_ret
            exact ⟨by first | rfl | (simp [errW_none, errW_some] <;> rfl) | (simp [*, errW_none, errW_some] <;> rfl), by repeat (first | (with_reducible first | exact HB.out | apply below_alloc | apply pw_below_drewN | apply below_drew1) | exact HB.out)⟩
        · rw [if_neg c10] at H
          have c10b0 : decide (64 < (a0.size : Int)) = false := decide_eq_false c10
          have c10b1 : decide (64 < a0.size) = false := decide_eq_false (by omega)
          clear c10
          by_cases c22 : (wrap64 (65 - (a0.size : Int))) = 0
          · rw [if_pos c22] at H
            exact absurd H (by simp)
          · rw [if_neg c22] at H
            have c22b0 : ((wrap64 (65 - (a0.size : Int))) == 0) = false := beq_eq_false_iff_ne.mpr c22
            have c22b1 : ((wrap64 (65 - (a0.size : Int))) != 0) = true := bne_iff_ne.mpr c22
            obtain ⟨ji23, hji23⟩ : ∃ j_ : Int, (Int.tmod (Go.bits .and .i64 a2 255) (wrap64 (65 - (a0.size : Int)))) = j_ := ⟨_, rfl⟩
            replace H : (if 0 ≤ (ji23) then (if (ji23 : Int).toNat ≤ 281474976710656 then ((some (List.replicate (ji23 : Int).toNat 0 : List Int)).bind fun y257 => (if a0.size + (strOfNums y257).size ≤ 9223372036854775807 then ((hmac_Mac.f (a0 ++ (strOfNums y257)) a1).bind fun t260 => (if t253.toList = t260.toList then ((samphirelaw03_jefe.f kj3).bind fun t261 => (some t261)) else (some false))) else (none))) else (none)) else (none)) = some r := by first | (rw [hji23] at H; exact H) | (simp only [hji23] at H ⊢; exact H)
            (try rw [hji23] at A9)
            by_cases c24 : 0 ≤ (ji23)
            · rw [if_pos c24] at H
              have c24b0 := eq_true c24
              have c24b1 : decide (0 ≤ (ji23)) = true := decide_eq_true c24
              clear c24
              by_cases c25 : (ji23 : Int).toNat ≤ 281474976710656
              · rw [if_pos c25] at H
                have c25b0 := eq_true c25
                have c25b1 : decide ((ji23 : Int).toNat ≤ 281474976710656) = true := decide_eq_true c25
                clear c25
                obtain ⟨y257, hy257⟩ : ∃ y_ : List Int, y_ = (List.replicate (ji23 : Int).toNat 0) := ⟨_, rfl⟩
                replace H : (if a0.size + (strOfNums y257).size ≤ 9223372036854775807 then ((hmac_Mac.f (a0 ++ (strOfNums y257)) a1).bind fun t260 => (if t253.toList = t260.toList then ((samphirelaw03_jefe.f kj3).bind fun t261 => (some t261)) else (some false))) else (none)) = some r := by first | (rw [hy257]; with_reducible exact H) | (have H2_ := (Option.bind_some _ _).symm.trans H; rw [hy257]; with_reducible exact H2_) | (have H2_ := (Option.bind_some _ _).symm.trans H; with_reducible exact H2_) | with_reducible exact H | (rw [hy257]; exact H) | exact H
                have Ny257 := Aside0.mk hy257
                clear hy257
                by_cases c26 : a0.size + (strOfNums y257).size ≤ 9223372036854775807
                · rw [if_pos c26] at H
                  have c26b0 := eq_true c26
                  have c26b1 : decide (a0.size + (strOfNums y257).size ≤ 9223372036854775807) = true := decide_eq_true c26
                  try have c26b2 : (9223372036854775807 < a0.size + (strOfNums y257).size) = False := eq_false (Nat.not_lt.2 c26)
                  replace H := Option.bind_eq_some_iff.mp H
                  obtain ⟨t260, A270, H⟩ := H
                  replace H : (if t253.toList = t260.toList then ((samphirelaw03_jefe.f kj3).bind fun t261 => (some t261)) else (some false)) = some r := H
                  have A27 := Aside0.mk A270
                  clear A270
                  by_cases c28 : t253.toList = t260.toList
                  · rw [if_pos c28] at H
                    have c28b0 : (t253.toList == t260.toList) = true := beq_iff_eq.mpr c28
                    have c28b1 : (t253.toList != t260.toList) = false := bne_eq_false_iff_eq.mpr c28
                    clear c28
                    replace H := Option.bind_eq_some_iff.mp H
                    obtain ⟨t261, A290, H⟩ := H
                    replace H : (some t261) = some r := H
                    have A29 := Aside0.mk A290
                    clear A290
                    obtain rfl := Option.some.inj H
                    (try (have ew_ : wrap64 (65 - (a0.size : Int)) = 65 - (a0.size : Int) := (by (have hlt_ := of_decide_eq_false (by assumption : decide (64 < (a0.size : Int)) = false)); (unfold wrap64); omega); rw [ew_] at hji23))
                    go_wp2_with (first | ((with_reducible refine gate_callee (f := 28) rfl ?_); refine goesL_ (some 20) rfl rfl Try.func28 (by kernel_rfl) rfl #[.string a0, .string a1] rfl (by (try simp only [List.map_toArray, List.map_cons, List.map_nil]); first | done | rfl | (simp only [List.length_drop, List.length_take]; rfl)) ?_; (with_reducible refine (hmac_Mac.calls a0 a1 t253 _ A9.out).mono ?_); rintro e w30 ⟨rfl, hb⟩; refine ⟨_, rfl, ?_⟩; have n0_ := Aside0.mk (below_step (by repeat (first | (with_reducible first | exact HB.out | apply below_alloc | apply pw_below_drewN | apply below_drew1) | exact HB.out)) hb); clear HB; have HB := n0_; clear n0_; (try clear hb); (try clear hb2); (try clear hk); (try clear hi)) | ((with_reducible refine gate_dst (N := 42) rfl ?_); (try (refine gate_guard (by rfl) ?_; dsimp only)); refine Kd.R_make (Kd.int .u8) _ 5 rfl (N := 42) rfl 32 _ _ rfl ji23 rfl rfl Try.underlying32 (.int .u8 0) 1 info5 rfl (by decide) (by omega) 0 (ok := fun _ => True) (okp := fun _ => True) rfl (fun _ hk => hk) trivial (of_decide_eq_true (by first | (with_reducible assumption) | assumption)) (Nat.le_trans (Nat.mul_le_mul_right _ (of_decide_eq_true (by first | (with_reducible assumption) | assumption) : ji23.toNat ≤ 281474976710656)) (by omega)) (Below.refl _ _) (Nat.le_refl _) ?_; intro v258 w31 ho32 hb hg_ hnew_; clear hg_ hnew_; (first | rw [← Ny257.out] at ho32 | (simp only [Int.reduceToNat] at ho32; rw [← Ny257.out] at ho32)); have n0_ := Aside0.mk (Kd.R_lower ho32 (below_size (by repeat (first | (with_reducible first | exact HB.out | apply below_alloc | apply pw_below_drewN | apply below_drew1) | exact HB.out)))); have n1_ := Aside0.mk (below_step (by repeat (first | (with_reducible first | exact HB.out | apply below_alloc | apply pw_below_drewN | apply below_drew1) | exact HB.out)) hb); clear HB; have HO259 := n0_; have HB := n1_; clear n0_ n1_; clear hb ho32; have hcv33 := own_string (P := Try.prog) Try.underlying32 Try.underlying5 Try.underlying9 (Kd.own_of_R HO259.out)) | ((with_reducible refine gate_callee (f := 28) rfl ?_); refine goesL_ (some 46) rfl rfl Try.func28 (by kernel_rfl) rfl #[.string (a0 ++ (strOfNums y257)), .string a1] rfl (by (try simp only [List.map_toArray, List.map_cons, List.map_nil]); first | done | rfl | (simp only [List.length_drop, List.length_take]; rfl)) ?_; (with_reducible refine (hmac_Mac.calls (a0 ++ (strOfNums y257)) a1 t260 _ A27.out).mono ?_); rintro e w34 ⟨rfl, hb⟩; refine ⟨_, rfl, ?_⟩; have n0_ := Aside0.mk (Kd.R_below (by (with_reducible repeat (first | apply Kd.R_alloc | apply Kd.R_drewN | apply Kd.R_drew)); exact HO259.out) hb); have n1_ := Aside0.mk (below_step (by repeat (first | (with_reducible first | exact HB.out | apply below_alloc | apply pw_below_drewN | apply below_drew1) | exact HB.out)) hb); clear HO259; clear HB; have HO259 := n0_; have HB := n1_; clear n0_ n1_; (try clear hb); (try clear hb2); (try clear hk); (try clear hi)) | (go_at_call 27; (with_reducible refine (samphirelaw03_jefe.calls kj3  t261 _ A29.out).mono ?_); rintro e w35 ⟨rfl, hb⟩; have n0_ := Aside0.mk (Kd.R_below (by (with_reducible repeat (first | apply Kd.R_alloc | apply Kd.R_drewN | apply Kd.R_drew)); exact HO259.out) hb); have n1_ := Aside0.mk (below_step (by repeat (first | (with_reducible first | exact HB.out | apply below_alloc | apply pw_below_drewN | apply below_drew1) | exact HB.out)) hb); clear HO259; clear HB; have HO259 := n0_; have HB := n1_; clear n0_ n1_; (try clear hb); (try clear hb2); (try clear hk); (try clear hi)))
                    go_ret
                    exact ⟨by first | rfl | (simp [errW_none, errW_some] <;> rfl) | (simp only [← hji23]; first | rfl | (simp [errW_none, errW_some] <;> rfl)) | (simp [*, errW_none, errW_some] <;> rfl), by repeat (first | (with_reducible first | exact HB.out | apply below_alloc | apply pw_below_drewN | apply below_drew1) | exact HB.out)⟩
                  · rw [if_neg c28] at H
                    have c28b0 : (t253.toList == t260.toList) = false := beq_eq_false_iff_ne.mpr c28
                    have c28b1 : (t253.toList != t260.toList) = true := bne_iff_ne.mpr c28
                    obtain rfl := Option.some.inj H
                    (try (have ew_ : wrap64 (65 - (a0.size : Int)) = 65 - (a0.size : Int) := (by (have hlt_ := of_decide_eq_false (by assumption : decide (64 < (a0.size : Int)) = false)); (unfold wrap64); omega); rw [ew_] at hji23))
                    go_wp2_with (first | ((with_reducible refine gate_callee (f := 28) rfl ?_); refine goesL_ (some 20) rfl rfl Try.func28 (by kernel_rfl) rfl #[.string a0, .string a1] rfl (by (try simp only [List.map_toArray, List.map_cons, List.map_nil]); first | done | rfl | (simp only [List.length_drop, List.length_take]; rfl)) ?_; (with_reducible refine (hmac_Mac.calls a0 a1 t253 _ A9.out).mono ?_); rintro e w36 ⟨rfl, hb⟩; refine ⟨_, rfl, ?_⟩; have n0_ := Aside0.mk (below_step (by repeat (first | (with_reducible first | exact HB.out | apply below_alloc | apply pw_below_drewN | apply below_drew1) | exact HB.out)) hb); clear HB; have HB := n0_; clear n0_; (try clear hb); (try clear hb2); (try clear hk); (try clear hi)) | ((with_reducible refine gate_dst (N := 42) rfl ?_); (try (refine gate_guard (by rfl) ?_; dsimp only)); refine Kd.R_make (Kd.int .u8) _ 5 rfl (N := 42) rfl 32 _ _ rfl ji23 rfl rfl Try.underlying32 (.int .u8 0) 1 info5 rfl (by decide) (by omega) 0 (ok := fun _ => True) (okp := fun _ => True) rfl (fun _ hk => hk) trivial (of_decide_eq_true (by first | (with_reducible assumption) | assumption)) (Nat.le_trans (Nat.mul_le_mul_right _ (of_decide_eq_true (by first | (with_reducible assumption) | assumption) : ji23.toNat ≤ 281474976710656)) (by omega)) (Below.refl _ _) (Nat.le_refl _) ?_; intro v258 w37 ho38 hb hg_ hnew_; clear hg_ hnew_; (first | rw [← Ny257.out] at ho38 | (simp only [Int.reduceToNat] at ho38; rw [← Ny257.out] at ho38)); have n0_ := Aside0.mk (Kd.R_lower ho38 (below_size (by repeat (first | (with_reducible first | exact HB.out | apply below_alloc | apply pw_below_drewN | apply below_drew1) | exact HB.out)))); have n1_ := Aside0.mk (below_step (by repeat (first | (with_reducible first | exact HB.out | apply below_alloc | apply pw_below_drewN | apply below_drew1) | exact HB.out)) hb); clear HB; have HO259 := n0_; have HB := n1_; clear n0_ n1_; clear hb ho38; have hcv39 := own_string (P := Try.prog) Try.underlying32 Try.underlying5 Try.underlying9 (Kd.own_of_R HO259.out)) | ((with_reducible refine gate_callee (f := 28) rfl ?_); refine goesL_ (some 46) rfl rfl Try.func28 (by kernel_rfl) rfl #[.string (a0 ++ (strOfNums y257)), .string a1] rfl (by (try simp only [List.map_toArray, List.map_cons, List.map_nil]); first | done | rfl | (simp only [List.length_drop, List.length_take]; rfl)) ?_; (with_reducible refine (hmac_Mac.calls (a0 ++ (strOfNums y257)) a1 t260 _ A27.out).mono ?_); rintro e w40 ⟨rfl, hb⟩; refine ⟨_, rfl, ?_⟩; have n0_ := Aside0.mk (Kd.R_below (by (with_reducible repeat (first | apply Kd.R_alloc | apply Kd.R_drewN | apply Kd.R_drew)); exact HO259.out) hb); have n1_ := Aside0.mk (below_step (by repeat (first | (with_reducible first | exact HB.out | apply below_alloc | apply pw_below_drewN | apply below_drew1) | exact HB.out)) hb); clear HO259; clear HB; have HO259 := n0_; have HB := n1_; clear n0_ n1_; (try clear hb); (try clear hb2); (try clear hk); (try clear hi)))
                    go_ret
                    exact ⟨by first | rfl | (simp [errW_none, errW_some] <;> rfl) | (simp only [← hji23]; first | rfl | (simp [errW_none, errW_some] <;> rfl)) | (simp [*, errW_none, errW_some] <;> rfl), by repeat (first | (with_reducible first | exact HB.out | apply below_alloc | apply pw_below_drewN | apply below_drew1) | exact HB.out)⟩
                · rw [if_neg c26] at H
                  exact absurd H (by simp)
              · rw [if_neg c25] at H
                exact absurd H (by simp)
            · rw [if_neg c24] at H
              exact absurd H (by simp)

/-- THE ONE PURE STATEMENT of samphirelaw03_HmacKeys: yours. -/
def samphirelaw03_HmacKeys.Pure : Prop := ∀ (a0 : ByteArray) (a1 : ByteArray) (a2 : Int), a0.size ≤ 140737488351232 → a1.size ≤ 140737488351232 → (Lit.int .i64 a2).wf = true → ∃ k, samphirelaw03_HmacKeys.f k a0 a1 a2 = some true
theorem samphirelaw03_HmacKeys.walk (P : samphirelaw03_HmacKeys.Pure) (a0 : ByteArray) (a1 : ByteArray) (a2 : Int) (w : World) (w0 : a0.size ≤ 140737488351232) (w1 : a1.size ≤ 140737488351232) (w2 : (Lit.int .i64 a2).wf = true) :
    Calls Try.prog 9 #[.string a0, .string a1, .int .i64 a2] w fun e w' => e = .returned (.bool true) ∧ Below w.heap.size w w' := by
  obtain ⟨k, h⟩ := P a0 a1 a2 w0 w1 w2
  refine (samphirelaw03_HmacKeys.calls k a0 a1 a2 true w h).mono ?_
  rintro e w' ⟨rfl, hd⟩
  exact ⟨rfl, hd⟩

end Go.Proofs.Ytbmpcdpcdljibaa.Pr

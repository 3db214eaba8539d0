-- Written by wip/hp.py of this session (the kit's printer, with hand-proved functions put in). Lean checks it.
import Derived.Test.YtbmpcdpcdljibaaPrx0
import Derived.Test.YtbmpcdpcdljibaaHHkA
import Derived.Test.YtbmpcdpcdljibaaPrxf28
import Derived.Test.YtbmpcdpcdljibaaPrxf32
import Derived.Test.YtbmpcdpcdljibaaPrxf33
namespace Go.Proofs.Ytbmpcdpcdljibaa.Pr
open Go.RowKit Go.Proofs.YtbmpcdpcdljibaaW.PrintWords Go.Proofs.YtbmpcdpcdljibaaW.PrintLast Go.Proofs.YtbmpcdpcdljibaaW.PrintMore
attribute [local go_sem] max2_int min2_int max_two min_two max_three min_three max_four min_four   -- for this text's walks alone
set_option linter.unusedVariables false
set_option linter.unusedSimpArgs false

/-! ### samphirelaw04_HkdfChains: function 15 -/
mutual
def samphirelaw04_HkdfChains.j0 : Nat → ByteArray → ByteArray → Int → ByteArray → Bool → Option (Bool)
  | 0, _, _, _, _, _ => none
  | k + 1, x0, x1, x7, x8, x38 => if x38 = true then (some false) else (samphirelaw04_HkdfChains.l0 k x0 x1 x7 x8 (⟨#[]⟩ : ByteArray) 1)
def samphirelaw04_HkdfChains.l0 : Nat → ByteArray → ByteArray → Int → ByteArray → ByteArray → Int → Option (Bool)
  | 0, _, _, _, _, _, _ => none
  | k + 1, x0, x1, x7, x8, x10, x11 => if x11 ≤ x7 then (if x10.size + x1.size ≤ 9223372036854775807 then ((some (([(x11) % 256] : List Int) : List Int)).bind fun y325 => (if (x10 ++ x1).size + (strOfNums y325).size ≤ 9223372036854775807 then ((hmac_Mac.f x0 ((x10 ++ x1) ++ (strOfNums y325))).bind fun t328 => (if 0 ≤ (wrap64 ((wrap64 (32 * x11)) - 32)) then (if (wrap64 ((wrap64 (32 * x11)) - 32)) ≤ (wrap64 (32 * x11)) then (if (wrap64 (32 * x11)) ≤ (x8.size : Int) then (if (x8.extract ((wrap64 ((wrap64 (32 * x11)) - 32)) : Int).toNat ((wrap64 (32 * x11)) : Int).toNat).toList = t328.toList then (samphirelaw04_HkdfChains.l0 k x0 x1 x7 x8 t328 (wrap64 (x11 + 1))) else (some false)) else (none)) else (none)) else (none))) else (none))) else (none)) else ((samphirelaw04_one.f).bind fun t329 => (some t329))
end
def samphirelaw04_HkdfChains.f (k : Nat) (a0 : ByteArray) (a1 : ByteArray) (a2 : Int) : Option (Bool) := (samphirelaw04_light.f k (([a0, a1] : List ByteArray))).bind fun t321 => (if t321 = true then ((hkdf_Expand.f a0 a1 (wrap64 (32 * (wrap64 (1 + (Int.tmod (Go.bits .and .i64 a2 255) 6)))))).bind fun bt323 => (if bt323.2 = 0 then (samphirelaw04_HkdfChains.j0 k a0 a1 (wrap64 (1 + (Int.tmod (Go.bits .and .i64 a2 255) 6))) bt323.1 ((bt323.1.size : Int) != (wrap64 (32 * (wrap64 (1 + (Int.tmod (Go.bits .and .i64 a2 255) 6))))))) else (samphirelaw04_HkdfChains.j0 k a0 a1 (wrap64 (1 + (Int.tmod (Go.bits .and .i64 a2 255) 6))) bt323.1 true))) else ((samphirelaw04_one.f).bind fun t322 => (some t322)))
theorem samphirelaw04_HkdfChains.mono_l : ∀ k, (∀ y0 y1 y2 y3 y4, LeO (samphirelaw04_HkdfChains.j0 k y0 y1 y2 y3 y4) (samphirelaw04_HkdfChains.j0 (k + 1) y0 y1 y2 y3 y4)) ∧ (∀ y0 y1 y2 y3 y4 y5, LeO (samphirelaw04_HkdfChains.l0 k y0 y1 y2 y3 y4 y5) (samphirelaw04_HkdfChains.l0 (k + 1) y0 y1 y2 y3 y4 y5))
  | 0 => ⟨fun _ _ _ _ _ r h => by simp [samphirelaw04_HkdfChains.j0] at h, fun _ _ _ _ _ _ r h => by simp [samphirelaw04_HkdfChains.l0] at h⟩
  | k + 1 => by
    obtain ⟨ih0, ih1⟩ := samphirelaw04_HkdfChains.mono_l k
    refine ⟨?_, ?_⟩
    · intro y0 y1 y2 y3 y4
      unfold samphirelaw04_HkdfChains.j0
      repeat' first
      | (with_reducible exact ih0 _ _ _ _ _)
      | (with_reducible exact ih1 _ _ _ _ _ _)
      | (with_reducible exact samphirelaw04_light.mono _ _)
      | (with_reducible exact LeO.refl _)
      | (with_reducible exact LeO.none _)
      | (with_reducible refine LeO.ite ?_ ?_)
      | (with_reducible refine LeO.bind ?_ (fun _ => ?_))
      | exact ih0 _ _ _ _ _
      | exact ih1 _ _ _ _ _ _
      | exact samphirelaw04_light.mono _ _
      | exact LeO.none _
      | refine LeO.ite ?_ ?_
      | refine LeO.bind ?_ (fun _ => ?_)
    · intro y0 y1 y2 y3 y4 y5
      unfold samphirelaw04_HkdfChains.l0
      repeat' first
      | (with_reducible exact ih0 _ _ _ _ _)
      | (with_reducible exact ih1 _ _ _ _ _ _)
      | (with_reducible exact samphirelaw04_light.mono _ _)
      | (with_reducible exact LeO.refl _)
      | (with_reducible exact LeO.none _)
      | (with_reducible refine LeO.ite ?_ ?_)
      | (with_reducible refine LeO.bind ?_ (fun _ => ?_))
      | exact ih0 _ _ _ _ _
      | exact ih1 _ _ _ _ _ _
      | exact samphirelaw04_light.mono _ _
      | exact LeO.none _
      | refine LeO.ite ?_ ?_
      | refine LeO.bind ?_ (fun _ => ?_)
theorem samphirelaw04_HkdfChains.mono : ∀ a0 a1 a2 k, LeO (samphirelaw04_HkdfChains.f k a0 a1 a2) (samphirelaw04_HkdfChains.f (k + 1) a0 a1 a2) := by
  intro a0 a1 a2 k
  obtain ⟨ih0, ih1⟩ := samphirelaw04_HkdfChains.mono_l k
  unfold samphirelaw04_HkdfChains.f
  repeat' first
      | (with_reducible exact ih0 _ _ _ _ _)
      | (with_reducible exact ih1 _ _ _ _ _ _)
      | (with_reducible exact samphirelaw04_light.mono _ _)
      | (with_reducible exact LeO.refl _)
      | (with_reducible exact LeO.none _)
      | (with_reducible refine LeO.ite ?_ ?_)
      | (with_reducible refine LeO.bind ?_ (fun _ => ?_))
      | exact ih0 _ _ _ _ _
      | exact ih1 _ _ _ _ _ _
      | exact samphirelaw04_light.mono _ _
      | exact LeO.none _
      | refine LeO.ite ?_ ?_
      | refine LeO.bind ?_ (fun _ => ?_)
set_option maxHeartbeats 8000000 in
set_option maxRecDepth 100000 in
theorem samphirelaw04_HkdfChains.calls (k : Nat) (a0 : ByteArray) (a1 : ByteArray) (a2 : Int) (r : Bool) (w : World) (h : samphirelaw04_HkdfChains.f k a0 a1 a2 = some r) :
    Calls Try.prog 15 #[.string a0, .string a1, .int .i64 a2] w fun e w' => e = .returned (.bool r) ∧ Below w.heap.size w w' := by
  have HB := Aside0.mk (Below.refl w.heap.size w)
  have H : ((samphirelaw04_light.f k (([a0, a1] : List ByteArray))).bind fun t321 => (if t321 = true then ((hkdf_Expand.f a0 a1 (wrap64 (32 * (wrap64 (1 + (Int.tmod (Go.bits .and .i64 a2 255) 6)))))).bind fun bt323 => (if bt323.2 = 0 then (samphirelaw04_HkdfChains.j0 k a0 a1 (wrap64 (1 + (Int.tmod (Go.bits .and .i64 a2 255) 6))) bt323.1 ((bt323.1.size : Int) != (wrap64 (32 * (wrap64 (1 + (Int.tmod (Go.bits .and .i64 a2 255) 6))))))) else (samphirelaw04_HkdfChains.j0 k a0 a1 (wrap64 (1 + (Int.tmod (Go.bits .and .i64 a2 255) 6))) bt323.1 true))) else ((samphirelaw04_one.f).bind fun t322 => (some t322)))) = some r := h
  clear h
  obtain ⟨y318, hy318⟩ : ∃ y_ : List ByteArray, y_ = (([a0, a1] : List ByteArray)) := ⟨_, rfl⟩
  replace H : ((samphirelaw04_light.f k y318).bind fun t321 => (if t321 = true then ((hkdf_Expand.f a0 a1 (wrap64 (32 * (wrap64 (1 + (Int.tmod (Go.bits .and .i64 a2 255) 6)))))).bind fun bt323 => (if bt323.2 = 0 then (samphirelaw04_HkdfChains.j0 k a0 a1 (wrap64 (1 + (Int.tmod (Go.bits .and .i64 a2 255) 6))) bt323.1 ((bt323.1.size : Int) != (wrap64 (32 * (wrap64 (1 + (Int.tmod (Go.bits .and .i64 a2 255) 6))))))) else (samphirelaw04_HkdfChains.j0 k a0 a1 (wrap64 (1 + (Int.tmod (Go.bits .and .i64 a2 255) 6))) bt323.1 true))) else ((samphirelaw04_one.f).bind fun t322 => (some t322)))) = some r := by first | (rw [hy318]; with_reducible exact H) | (have H2_ := (Option.bind_some _ _).symm.trans H; rw [hy318]; with_reducible exact H2_) | (have H2_ := (Option.bind_some _ _).symm.trans H; with_reducible exact H2_) | with_reducible exact H | (rw [hy318]; exact H) | exact H
  have Ny318 := Aside0.mk hy318
  clear hy318
  replace H := Option.bind_eq_some_iff.mp H
  obtain ⟨t321, A40, H⟩ := H
  replace H : (if t321 = true then ((hkdf_Expand.f a0 a1 (wrap64 (32 * (wrap64 (1 + (Int.tmod (Go.bits .and .i64 a2 255) 6)))))).bind fun bt323 => (if bt323.2 = 0 then (samphirelaw04_HkdfChains.j0 k a0 a1 (wrap64 (1 + (Int.tmod (Go.bits .and .i64 a2 255) 6))) bt323.1 ((bt323.1.size : Int) != (wrap64 (32 * (wrap64 (1 + (Int.tmod (Go.bits .and .i64 a2 255) 6))))))) else (samphirelaw04_HkdfChains.j0 k a0 a1 (wrap64 (1 + (Int.tmod (Go.bits .and .i64 a2 255) 6))) bt323.1 true))) else ((samphirelaw04_one.f).bind fun t322 => (some t322))) = some r := H
  have A4 := Aside0.mk A40
  clear A40
  by_cases c5 : t321 = true
  · subst c5
    have H1 : ((hkdf_Expand.f a0 a1 (wrap64 (32 * (wrap64 (1 + (Int.tmod (Go.bits .and .i64 a2 255) 6)))))).bind fun bt323 => (if bt323.2 = 0 then (samphirelaw04_HkdfChains.j0 k a0 a1 (wrap64 (1 + (Int.tmod (Go.bits .and .i64 a2 255) 6))) bt323.1 ((bt323.1.size : Int) != (wrap64 (32 * (wrap64 (1 + (Int.tmod (Go.bits .and .i64 a2 255) 6))))))) else (samphirelaw04_HkdfChains.j0 k a0 a1 (wrap64 (1 + (Int.tmod (Go.bits .and .i64 a2 255) 6))) bt323.1 true))) = some r := by rw [if_pos rfl] at H; exact H
    clear H
    have H := H1
    clear H1
    replace H := Option.bind_eq_some_iff.mp H
    obtain ⟨⟨t323, t324⟩, A60, H⟩ := H
    replace H : (if t324 = 0 then (samphirelaw04_HkdfChains.j0 k a0 a1 (wrap64 (1 + (Int.tmod (Go.bits .and .i64 a2 255) 6))) t323 ((t323.size : Int) != (wrap64 (32 * (wrap64 (1 + (Int.tmod (Go.bits .and .i64 a2 255) 6))))))) else (samphirelaw04_HkdfChains.j0 k a0 a1 (wrap64 (1 + (Int.tmod (Go.bits .and .i64 a2 255) 6))) t323 true)) = some r := H
    have A6 := Aside0.mk A60
    clear A60
    have HC7 := Aside0.mk H
    clear H
    go_enter Try.func15, Try.ntmps15
    go_upto_region 5 with (first | ((with_reducible refine gate_dst (N := 14) rfl ?_); (try (refine gate_guard (by rfl) ?_; dsimp only)); refine Kd.R_lit Kd.string _ 9 ?hg (N := 14) ?hd (xs := ([a0, a1] : List ByteArray)) (inner := [.string a0, .string a1]) (ok := fun _ => True) (okp := fun _ => True) ?hr ?hp (fun _ hk => hk) trivial (Below.refl _ _) (Nat.le_refl _) (by simp) ?_; (case hd => rfl); (case hg => rfl); (case hr => first | (go_simp; done) | (go_simp; rfl)); (case hp => exact (Reps.one (show Kd.M Kd.string _ _ _ a0 [.string a0] from rfl) (Reps.one (show Kd.M Kd.string _ _ _ a1 [.string a1] from rfl) (Reps.none _ _)))); intro v319 w8 ho9 hb hg_ hnew_; clear hg_ hnew_; (first | rw [← Ny318.out] at ho9 | (simp only [Int.reduceToNat] at ho9; rw [← Ny318.out] at ho9)); have n0_ := Aside0.mk (Kd.R_lower ho9 (below_size (by repeat (first | (with_reducible first | exact HB.out | apply below_alloc | apply pw_below_drewN | apply below_drew1) | exact HB.out)))); have n1_ := Aside0.mk (below_step (by repeat (first | (with_reducible first | exact HB.out | apply below_alloc | apply pw_below_drewN | apply below_drew1) | exact HB.out)) hb); clear HB; have HO320 := n0_; have HB := n1_; clear n0_ n1_; clear hb ho9; obtain ⟨Ao10, co10, eo10⟩ := Kd.R_slice HO320.out; subst eo10) | ((with_reducible refine gate_callee (f := 32) rfl ?_); refine goesL_ (some 15) rfl rfl Try.func32 (by kernel_rfl) rfl #[.slice Ao10 y318.length co10] rfl (by (try simp only [List.map_toArray, List.map_cons, List.map_nil]); first | done | rfl | (simp only [List.length_drop, List.length_take]; rfl)) ?_; (with_reducible refine (samphirelaw04_light.calls k _ _ y318 true _ ?side1 ?side2 A4.out).mono ?_); (case side1 => repeat (first | exact (Kd.R_reads' HO320.out).2.2 | (with_reducible refine Kd.C_alloc ?_ _) | (with_reducible refine Kd.C_drewN ?_ _) | (with_reducible refine Kd.C_drew ?_))); (case side2 => exact (Kd.R_reads' HO320.out).2.1); rintro e w' ⟨rfl, ⟨nd, rfl⟩⟩; refine ⟨_, rfl, ?_⟩) | ((with_reducible refine gate_callee (f := 34) rfl ?_); refine goesL_ (some 27) rfl rfl Try.func34 (by kernel_rfl) rfl #[.string a0, .string a1, .int .i64 (wrap64 (32 * (wrap64 (1 + (Int.tmod (Go.bits .and .i64 a2 255) 6)))))] rfl (by (try simp only [List.map_toArray, List.map_cons, List.map_nil]); first | done | rfl | (simp only [List.length_drop, List.length_take]; rfl)) ?_; (with_reducible refine (hkdf_Expand.calls a0 a1 (wrap64 (32 * (wrap64 (1 + (Int.tmod (Go.bits .and .i64 a2 255) 6))))) t323 t324 _ A6.out).mono ?_); rintro e w11 ⟨rfl, hb⟩; refine ⟨_, rfl, ?_⟩; have n0_ := Aside0.mk (Kd.R_below (by (with_reducible repeat (first | apply Kd.R_alloc | apply Kd.R_drewN | apply Kd.R_drew)); exact HO320.out) hb); have n1_ := Aside0.mk (below_step (by repeat (first | (with_reducible first | exact HB.out | apply below_alloc | apply pw_below_drewN | apply below_drew1) | exact HB.out)) hb); clear HO320; clear HB; have HO320 := n0_; have HB := n1_; clear n0_ n1_; (try clear hb); (try clear hb2); (try clear hk); (try clear hi)))
    (try simp only [Act.put, List.setIfInBounds_toArray, List.set_cons_zero, List.set_cons_succ])
    go_cut [38] (fun v38 wc => ∃ (kq : Nat) (x38_6 : Bool), v38 = .bool x38_6 ∧ Aside0 (samphirelaw04_HkdfChains.j0 kq a0 a1 (wrap64 (1 + (Int.tmod (Go.bits .and .i64 a2 255) 6))) t323 x38_6 = some r) ∧ Aside0 (kq ≤ k) ∧ Aside0 (Below w.heap.size w wc))
    case first =>
      have H := HC7.out
      clear HC7
      by_cases c12 : t324 = 0
      · rw [if_pos c12] at H
        have c12b0 : (t324 == 0) = true := beq_iff_eq.mpr c12
        have c12b1 : (t324 != 0) = false := bne_eq_false_iff_eq.mpr c12
        clear c12
        (first | rw [c12b0] | (simp only [i64_w, i32_w]; rw [c12b0]) | skip)
        have H' := Aside0.mk H
        clear H
        go_wp2
        go_meet
        case rel => exact ⟨_, (((t323.size : Int) != (wrap64 (32 * (wrap64 (1 + (Int.tmod (Go.bits .and .i64 a2 255) 6))))))), (by first | rfl | (simp; done) | (simp [*]; done)), H', ⟨by first | omega | exact Nat.le_refl _⟩, ⟨by repeat (first | (with_reducible first | exact HB.out | apply below_alloc | apply pw_below_drewN | apply below_drew1) | exact HB.out)⟩⟩
      · rw [if_neg c12] at H
        have c12b0 : (t324 == 0) = false := beq_eq_false_iff_ne.mpr c12
        have c12b1 : (t324 != 0) = true := bne_iff_ne.mpr c12
        (first | rw [c12b0] | (simp only [i64_w, i32_w]; rw [c12b0]) | skip)
        have H' := Aside0.mk H
        clear H
        go_wp2
        go_meet
        case rel => exact ⟨_, (true), (by first | rfl | (simp; done) | (simp [*]; done)), H', ⟨by first | omega | exact Nat.le_refl _⟩, ⟨by repeat (first | (with_reducible first | exact HB.out | apply below_alloc | apply pw_below_drewN | apply below_drew1) | exact HB.out)⟩⟩
    case rest =>
      clear HC7
      try clear c1
      try clear p2
      try clear c3
      try clear c5
      try clear p6
      try clear c12
      try clear c12b0
      try clear c12b1
      obtain ⟨kq, x38_6, rfl, HA, HJ6, HB⟩ := hcut
      cases kq with
      | zero => exact absurd HA.out (by simp [samphirelaw04_HkdfChains.j0])
      | succ kj6 =>
        have H := HA.out
        clear HA
        simp only [samphirelaw04_HkdfChains.j0] at H
        by_cases c13 : x38_6 = true
        · subst c13
          have H1 : (some false) = some r := by rw [if_pos rfl] at H; exact H
          clear H
          have H := H1
          clear H1
          obtain rfl := Option.some.inj H
          go_wp2
          go_ret
          exact ⟨by first | rfl | (simp [errW_none, errW_some] <;> rfl) | (simp [*, errW_none, errW_some] <;> rfl), by repeat (first | (with_reducible first | exact HB.out | apply below_alloc | apply pw_below_drewN | apply below_drew1) | exact HB.out)⟩
        · replace c13 := Bool.eq_false_iff.mpr c13
          subst c13
          have H1 : (samphirelaw04_HkdfChains.l0 kj6 a0 a1 (wrap64 (1 + (Int.tmod (Go.bits .and .i64 a2 255) 6))) t323 (⟨#[]⟩ : ByteArray) 1) = some r := by rw [if_neg (show ¬ (false = true) by decide)] at H; exact H
          clear H
          have H := H1
          clear H1
          have H' := Aside0.mk H
          clear H
          go_wp2
          go_loopg [10, 11] kj6 (fun kq v10 v11 w' => ∃ (x10_2 : ByteArray) (x11_2 : Int), v10 = .string x10_2 ∧ v11 = .int .i64 x11_2 ∧ Aside0 (samphirelaw04_HkdfChains.l0 kq a0 a1 (wrap64 (1 + (Int.tmod (Go.bits .and .i64 a2 255) 6))) t323 x10_2 x11_2 = some r) ∧ Aside0 (kq ≤ kj6) ∧ Aside0 (Below w.heap.size w w'))
          case atStart => exact ⟨((⟨#[]⟩ : ByteArray)), (1), (by first | rfl | (simp; done) | (simp [*]; done)), (by first | rfl | (simp; done) | (simp [*]; done)), H', ⟨Nat.le_refl _⟩, ⟨by repeat (first | (with_reducible first | exact HB.out | apply below_alloc | apply pw_below_drewN | apply below_drew1) | exact HB.out)⟩⟩
          case round =>
            clear H'
            try clear c1
            try clear p2
            try clear c3
            try clear c5
            try clear p6
            try clear c12
            try clear c12b0
            try clear c12b1
            try clear c13
            try clear p2
            try clear p6
            obtain ⟨x10_2, x11_2, rfl, rfl, HA, HK2, HB⟩ := hrel
            cases gk with
            | zero => exact absurd HA.out (by simp [samphirelaw04_HkdfChains.l0])
            | succ k2 =>
              have H := HA.out
              clear HA
              simp only [samphirelaw04_HkdfChains.l0] at H
              by_cases c14 : x11_2 ≤ (wrap64 (1 + (Int.tmod (Go.bits .and .i64 a2 255) 6)))
              · rw [if_pos c14] at H
                have c14b0 : decide (x11_2 ≤ (wrap64 (1 + (Int.tmod (Go.bits .and .i64 a2 255) 6)))) = true := decide_eq_true c14
                clear c14
                by_cases c15 : x10_2.size + a1.size ≤ 9223372036854775807
                · rw [if_pos c15] at H
                  have c15b0 := eq_true c15
                  have c15b1 : decide (x10_2.size + a1.size ≤ 9223372036854775807) = true := decide_eq_true c15
                  try have c15b2 : (9223372036854775807 < x10_2.size + a1.size) = False := eq_false (Nat.not_lt.2 c15)
                  obtain ⟨y325, hy325⟩ : ∃ y_ : List Int, y_ = (([(x11_2) % 256] : List Int)) := ⟨_, rfl⟩
                  replace H : (if (x10_2 ++ a1).size + (strOfNums y325).size ≤ 9223372036854775807 then ((hmac_Mac.f a0 ((x10_2 ++ a1) ++ (strOfNums y325))).bind fun t328 => (if 0 ≤ (wrap64 ((wrap64 (32 * x11_2)) - 32)) then (if (wrap64 ((wrap64 (32 * x11_2)) - 32)) ≤ (wrap64 (32 * x11_2)) then (if (wrap64 (32 * x11_2)) ≤ (t323.size : Int) then (if (t323.extract ((wrap64 ((wrap64 (32 * x11_2)) - 32)) : Int).toNat ((wrap64 (32 * x11_2)) : Int).toNat).toList = t328.toList then (samphirelaw04_HkdfChains.l0 k2 a0 a1 (wrap64 (1 + (Int.tmod (Go.bits .and .i64 a2 255) 6))) t323 t328 (wrap64 (x11_2 + 1))) else (some false)) else (none)) else (none)) else (none))) else (none)) = some r := by first | (rw [hy325]; with_reducible exact H) | (have H2_ := (Option.bind_some _ _).symm.trans H; rw [hy325]; with_reducible exact H2_) | (have H2_ := (Option.bind_some _ _).symm.trans H; with_reducible exact H2_) | with_reducible exact H | (rw [hy325]; exact H) | exact H
                  have Ny325 := Aside0.mk hy325
                  clear hy325
                  by_cases c16 : (x10_2 ++ a1).size + (strOfNums y325).size ≤ 9223372036854775807
                  · rw [if_pos c16] at H
                    have c16b0 := eq_true c16
                    have c16b1 : decide ((x10_2 ++ a1).size + (strOfNums y325).size ≤ 9223372036854775807) = true := decide_eq_true c16
                    try have c16b2 : (9223372036854775807 < (x10_2 ++ a1).size + (strOfNums y325).size) = False := eq_false (Nat.not_lt.2 c16)
                    replace H := Option.bind_eq_some_iff.mp H
                    obtain ⟨t328, A170, H⟩ := H
                    replace H : (if 0 ≤ (wrap64 ((wrap64 (32 * x11_2)) - 32)) then (if (wrap64 ((wrap64 (32 * x11_2)) - 32)) ≤ (wrap64 (32 * x11_2)) then (if (wrap64 (32 * x11_2)) ≤ (t323.size : Int) then (if (t323.extract ((wrap64 ((wrap64 (32 * x11_2)) - 32)) : Int).toNat ((wrap64 (32 * x11_2)) : Int).toNat).toList = t328.toList then (samphirelaw04_HkdfChains.l0 k2 a0 a1 (wrap64 (1 + (Int.tmod (Go.bits .and .i64 a2 255) 6))) t323 t328 (wrap64 (x11_2 + 1))) else (some false)) else (none)) else (none)) else (none)) = some r := H
                    have A17 := Aside0.mk A170
                    clear A170
                    obtain ⟨ji18, hji18⟩ : ∃ j_ : Int, (wrap64 ((wrap64 (32 * x11_2)) - 32)) = j_ := ⟨_, rfl⟩
                    replace H : (if 0 ≤ (ji18) then (if (ji18) ≤ (wrap64 (32 * x11_2)) then (if (wrap64 (32 * x11_2)) ≤ (t323.size : Int) then (if (t323.extract ((ji18) : Int).toNat ((wrap64 (32 * x11_2)) : Int).toNat).toList = t328.toList then (samphirelaw04_HkdfChains.l0 k2 a0 a1 (wrap64 (1 + (Int.tmod (Go.bits .and .i64 a2 255) 6))) t323 t328 (wrap64 (x11_2 + 1))) else (some false)) else (none)) else (none)) else (none)) = some r := by first | (rw [hji18] at H; exact H) | (simp only [hji18] at H ⊢; exact H)
                    (try rw [hji18] at A17)
                    have hji18w : (IntKind.i64.wrap ((wrap64 (32 * x11_2)) - 32)) = ji18 := (i64_w _).trans hji18
                    by_cases c19 : 0 ≤ (ji18)
                    · rw [if_pos c19] at H
                      have c19b0 := eq_true c19
                      have c19b1 : decide (0 ≤ (ji18)) = true := decide_eq_true c19
                      clear c19
                      by_cases c20 : (ji18) ≤ (wrap64 (32 * x11_2))
                      · rw [if_pos c20] at H
                        have c20b0 := eq_true c20
                        have c20b1 : decide ((ji18) ≤ (wrap64 (32 * x11_2))) = true := decide_eq_true c20
                        clear c20
                        by_cases c21 : (wrap64 (32 * x11_2)) ≤ (t323.size : Int)
                        · rw [if_pos c21] at H
                          have c21b0 := eq_true c21
                          have c21b1 : decide ((wrap64 (32 * x11_2)) ≤ (t323.size : Int)) = true := decide_eq_true c21
                          clear c21
                          by_cases c22 : (t323.extract ((ji18) : Int).toNat ((wrap64 (32 * x11_2)) : Int).toNat).toList = t328.toList
                          · rw [if_pos c22] at H
                            have c22b0 : ((t323.extract ((ji18) : Int).toNat ((wrap64 (32 * x11_2)) : Int).toNat).toList == t328.toList) = true := beq_iff_eq.mpr c22
                            have c22b1 : ((t323.extract ((ji18) : Int).toNat ((wrap64 (32 * x11_2)) : Int).toNat).toList != t328.toList) = false := bne_eq_false_iff_eq.mpr c22
                            clear c22
                            have H' := Aside0.mk H
                            clear H
                            go_wp2_with (first | ((with_reducible refine gate_dst (N := 50) rfl ?_); (try (refine gate_guard (by rfl) ?_; dsimp only)); refine Kd.R_lit (Kd.int .u8) _ 5 ?hg (N := 50) ?hd (xs := ([(x11_2) % 256] : List Int)) (inner := [.int .u8 ((x11_2) % 256)]) (ok := fun _ => True) (okp := fun _ => True) ?hr ?hp (fun _ hk => hk) trivial (Below.refl _ _) (Nat.le_refl _) (by simp) ?_; (case hd => rfl); (case hg => rfl); (case hr => first | (go_simp; done) | (go_simp; rfl)); (case hp => exact (Reps.one (show Kd.M (Kd.int .u8) _ _ _ ((x11_2) % 256) [.int .u8 ((x11_2) % 256)] from rfl) (Reps.none _ _))); intro v326 w23 ho24 hb hg_ hnew_; clear hg_ hnew_; (first | rw [← Ny325.out] at ho24 | (simp only [Int.reduceToNat] at ho24; rw [← Ny325.out] at ho24)); have n0_ := Aside0.mk (Kd.R_lower ho24 (below_size (by repeat (first | (with_reducible first | exact HB.out | apply below_alloc | apply pw_below_drewN | apply below_drew1) | exact HB.out)))); have n1_ := Aside0.mk (below_step (by repeat (first | (with_reducible first | exact HB.out | apply below_alloc | apply pw_below_drewN | apply below_drew1) | exact HB.out)) hb); clear HB; have HO327 := n0_; have HB := n1_; clear n0_ n1_; clear hb ho24; have hcv25 := own_string (P := Try.prog) Try.underlying32 Try.underlying5 Try.underlying9 (Kd.own_of_R HO327.out)) | ((with_reducible refine gate_callee (f := 28) rfl ?_); refine goesL_ (some 53) rfl rfl Try.func28 (by kernel_rfl) rfl #[.string a0, .string ((x10_2 ++ a1) ++ (strOfNums y325))] rfl (by (try simp only [List.map_toArray, List.map_cons, List.map_nil]); first | done | rfl | (simp only [List.length_drop, List.length_take]; rfl)) ?_; (with_reducible refine (hmac_Mac.calls a0 ((x10_2 ++ a1) ++ (strOfNums y325)) t328 _ A17.out).mono ?_); rintro e w26 ⟨rfl, hb⟩; refine ⟨_, rfl, ?_⟩; have n0_ := Aside0.mk (Kd.R_below (by (with_reducible repeat (first | apply Kd.R_alloc | apply Kd.R_drewN | apply Kd.R_drew)); exact HO327.out) hb); have n1_ := Aside0.mk (below_step (by repeat (first | (with_reducible first | exact HB.out | apply below_alloc | apply pw_below_drewN | apply below_drew1) | exact HB.out)) hb); clear HO327; clear HB; have HO327 := n0_; have HB := n1_; clear n0_ n1_; (try clear hb); (try clear hb2); (try clear hk); (try clear hi)))
                            go_roundg k2
                            case measure => have := HJ6.out; have := HK2.out; omega
                            case rel => exact ⟨(t328), (wrap64 (x11_2 + 1)), (by first | rfl | (simp; done) | (simp [*]; done)), (by first | rfl | (simp; done) | (simp [*]; done)), H', ⟨by have := HJ6.out; have := HK2.out; omega⟩, ⟨by repeat (first | (with_reducible first | exact HB.out | apply below_alloc | apply pw_below_drewN | apply below_drew1) | exact HB.out)⟩⟩
                          · rw [if_neg c22] at H
                            have c22b0 : ((t323.extract ((ji18) : Int).toNat ((wrap64 (32 * x11_2)) : Int).toNat).toList == t328.toList) = false := beq_eq_false_iff_ne.mpr c22
                            have c22b1 : ((t323.extract ((ji18) : Int).toNat ((wrap64 (32 * x11_2)) : Int).toNat).toList != t328.toList) = true := bne_iff_ne.mpr c22
                            obtain rfl := Option.some.inj H
                            go_wp2_with (first | ((with_reducible refine gate_dst (N := 50) rfl ?_); (try (refine gate_guard (by rfl) ?_; dsimp only)); refine Kd.R_lit (Kd.int .u8) _ 5 ?hg (N := 50) ?hd (xs := ([(x11_2) % 256] : List Int)) (inner := [.int .u8 ((x11_2) % 256)]) (ok := fun _ => True) (okp := fun _ => True) ?hr ?hp (fun _ hk => hk) trivial (Below.refl _ _) (Nat.le_refl _) (by simp) ?_; (case hd => rfl); (case hg => rfl); (case hr => first | (go_simp; done) | (go_simp; rfl)); (case hp => exact (Reps.one (show Kd.M (Kd.int .u8) _ _ _ ((x11_2) % 256) [.int .u8 ((x11_2) % 256)] from rfl) (Reps.none _ _))); intro v326 w27 ho28 hb hg_ hnew_; clear hg_ hnew_; (first | rw [← Ny325.out] at ho28 | (simp only [Int.reduceToNat] at ho28; rw [← Ny325.out] at ho28)); have n0_ := Aside0.mk (Kd.R_lower ho28 (below_size (by repeat (first | (with_reducible first | exact HB.out | apply below_alloc | apply pw_below_drewN | apply below_drew1) | exact HB.out)))); have n1_ := Aside0.mk (below_step (by repeat (first | (with_reducible first | exact HB.out | apply below_alloc | apply pw_below_drewN | apply below_drew1) | exact HB.out)) hb); clear HB; have HO327 := n0_; have HB := n1_; clear n0_ n1_; clear hb ho28; have hcv29 := own_string (P := Try.prog) Try.underlying32 Try.underlying5 Try.underlying9 (Kd.own_of_R HO327.out)) | ((with_reducible refine gate_callee (f := 28) rfl ?_); refine goesL_ (some 53) rfl rfl Try.func28 (by kernel_rfl) rfl #[.string a0, .string ((x10_2 ++ a1) ++ (strOfNums y325))] rfl (by (try simp only [List.map_toArray, List.map_cons, List.map_nil]); first | done | rfl | (simp only [List.length_drop, List.length_take]; rfl)) ?_; (with_reducible refine (hmac_Mac.calls a0 ((x10_2 ++ a1) ++ (strOfNums y325)) t328 _ A17.out).mono ?_); rintro e w30 ⟨rfl, hb⟩; refine ⟨_, rfl, ?_⟩; have n0_ := Aside0.mk (Kd.R_below (by (with_reducible repeat (first | apply Kd.R_alloc | apply Kd.R_drewN | apply Kd.R_drew)); exact HO327.out) hb); have n1_ := Aside0.mk (below_step (by repeat (first | (with_reducible first | exact HB.out | apply below_alloc | apply pw_below_drewN | apply below_drew1) | exact HB.out)) hb); clear HO327; clear HB; have HO327 := n0_; have HB := n1_; clear n0_ n1_; (try clear hb); (try clear hb2); (try clear hk); (try clear hi)))
                            go_ret
                            exact ⟨by first | rfl | (simp [errW_none, errW_some] <;> rfl) | (simp only [← hji18]; first | rfl | (simp [errW_none, errW_some] <;> rfl)) | (simp [*, errW_none, errW_some] <;> rfl), by repeat (first | (with_reducible first | exact HB.out | apply below_alloc | apply pw_below_drewN | apply below_drew1) | exact HB.out)⟩
                        · rw [if_neg c21] at H
                          exact absurd H (by simp)
                      · rw [if_neg c20] at H
                        exact absurd H (by simp)
                    · rw [if_neg c19] at H
                      exact absurd H (by simp)
                  · rw [if_neg c16] at H
                    exact absurd H (by simp)
                · rw [if_neg c15] at H
                  exact absurd H (by simp)
              · rw [if_neg c14] at H
                have c14b0 : decide (x11_2 ≤ (wrap64 (1 + (Int.tmod (Go.bits .and .i64 a2 255) 6)))) = false := decide_eq_false c14
                clear c14
                replace H := Option.bind_eq_some_iff.mp H
                obtain ⟨t329, A310, H⟩ := H
                replace H : (some t329) = some r := H
                have A31 := Aside0.mk A310
                clear A310
                obtain rfl := Option.some.inj H
                go_wp2_with (first | ((with_reducible refine gate_callee (f := 33) rfl ?_); refine goesL_ (some 63) rfl rfl Try.func33 (by kernel_rfl) rfl #[] rfl (by (try simp only [List.map_toArray, List.map_cons, List.map_nil]); first | done | rfl | (simp only [List.length_drop, List.length_take]; rfl)) ?_; (with_reducible refine (samphirelaw04_one.calls  t329 _ A31.out).mono ?_); rintro e w32 ⟨rfl, hb⟩; refine ⟨_, rfl, ?_⟩; have n0_ := Aside0.mk (below_step (by repeat (first | (with_reducible first | exact HB.out | apply below_alloc | apply pw_below_drewN | apply below_drew1) | exact HB.out)) hb); clear HB; have HB := n0_; clear n0_; (try clear hb); (try clear hb2); (try clear hk); (try clear hi)))
                go_ret
                exact ⟨by first | rfl | (simp [errW_none, errW_some] <;> rfl) | (simp [*, errW_none, errW_some] <;> rfl), by repeat (first | (with_reducible first | exact HB.out | apply below_alloc | apply pw_below_drewN | apply below_drew1) | exact HB.out)⟩
  · replace c5 := Bool.eq_false_iff.mpr c5
    subst c5
    have H1 : ((samphirelaw04_one.f).bind fun t322 => (some t322)) = some r := by rw [if_neg (show ¬ (false = true) by decide)] at H; exact H
    clear H
    have H := H1
    clear H1
    replace H := Option.bind_eq_some_iff.mp H
    obtain ⟨t322, A330, H⟩ := H
    replace H : (some t322) = some r := H
    have A33 := Aside0.mk A330
    clear A330
    obtain rfl := Option.some.inj H
    go_enter Try.func15, Try.ntmps15
    go_wp2_with (first | ((with_reducible refine gate_dst (N := 14) rfl ?_); (try (refine gate_guard (by rfl) ?_; dsimp only)); refine Kd.R_lit Kd.string _ 9 ?hg (N := 14) ?hd (xs := ([a0, a1] : List ByteArray)) (inner := [.string a0, .string a1]) (ok := fun _ => True) (okp := fun _ => True) ?hr ?hp (fun _ hk => hk) trivial (Below.refl _ _) (Nat.le_refl _) (by simp) ?_; (case hd => rfl); (case hg => rfl); (case hr => first | (go_simp; done) | (go_simp; rfl)); (case hp => exact (Reps.one (show Kd.M Kd.string _ _ _ a0 [.string a0] from rfl) (Reps.one (show Kd.M Kd.string _ _ _ a1 [.string a1] from rfl) (Reps.none _ _)))); intro v319 w34 ho35 hb hg_ hnew_; clear hg_ hnew_; (first | rw [← Ny318.out] at ho35 | (simp only [Int.reduceToNat] at ho35; rw [← Ny318.out] at ho35)); have n0_ := Aside0.mk (Kd.R_lower ho35 (below_size (by repeat (first | (with_reducible first | exact HB.out | apply below_alloc | apply pw_below_drewN | apply below_drew1) | exact HB.out)))); have n1_ := Aside0.mk (below_step (by repeat (first | (with_reducible first | exact HB.out | apply below_alloc | apply pw_below_drewN | apply below_drew1) | exact HB.out)) hb); clear HB; have HO320 := n0_; have HB := n1_; clear n0_ n1_; clear hb ho35; obtain ⟨Ao36, co36, eo36⟩ := Kd.R_slice HO320.out; subst eo36) | ((with_reducible refine gate_callee (f := 32) rfl ?_); refine goesL_ (some 15) rfl rfl Try.func32 (by kernel_rfl) rfl #[.slice Ao36 y318.length co36] rfl (by (try simp only [List.map_toArray, List.map_cons, List.map_nil]); first | done | rfl | (simp only [List.length_drop, List.length_take]; rfl)) ?_; (with_reducible refine (samphirelaw04_light.calls k _ _ y318 false _ ?side1 ?side2 A4.out).mono ?_); (case side1 => repeat (first | exact (Kd.R_reads' HO320.out).2.2 | (with_reducible refine Kd.C_alloc ?_ _) | (with_reducible refine Kd.C_drewN ?_ _) | (with_reducible refine Kd.C_drew ?_))); (case side2 => exact (Kd.R_reads' HO320.out).2.1); rintro e w' ⟨rfl, ⟨nd, rfl⟩⟩; refine ⟨_, rfl, ?_⟩) | ((with_reducible refine gate_callee (f := 33) rfl ?_); refine goesL_ (some 17) rfl rfl Try.func33 (by kernel_rfl) rfl #[] rfl (by (try simp only [List.map_toArray, List.map_cons, List.map_nil]); first | done | rfl | (simp only [List.length_drop, List.length_take]; rfl)) ?_; (with_reducible refine (samphirelaw04_one.calls  t322 _ A33.out).mono ?_); rintro e w37 ⟨rfl, hb⟩; refine ⟨_, rfl, ?_⟩; have n0_ := Aside0.mk (Kd.R_below (by (with_reducible repeat (first | apply Kd.R_alloc | apply Kd.R_drewN | apply Kd.R_drew)); exact HO320.out) hb); have n1_ := Aside0.mk (below_step (by repeat (first | (with_reducible first | exact HB.out | apply below_alloc | apply pw_below_drewN | apply below_drew1) | exact HB.out)) hb); clear HO320; clear HB; have HO320 := n0_; have HB := n1_; clear n0_ n1_; (try clear hb); (try clear hb2); (try clear hk); (try clear hi)))
    go_ret
    exact ⟨by first | rfl | (simp [errW_none, errW_some] <;> rfl) | (simp [*, errW_none, errW_some] <;> rfl), by repeat (first | (with_reducible first | exact HB.out | apply below_alloc | apply pw_below_drewN | apply below_drew1) | exact HB.out)⟩

/-- THE ONE PURE STATEMENT of samphirelaw04_HkdfChains: yours. -/
def samphirelaw04_HkdfChains.Pure : Prop := ∀ (a0 : ByteArray) (a1 : ByteArray) (a2 : Int), a0.size ≤ 140737488351232 → a1.size ≤ 140737488351232 → (Lit.int .i64 a2).wf = true → ∃ k, samphirelaw04_HkdfChains.f k a0 a1 a2 = some true
theorem samphirelaw04_HkdfChains.walk (P : samphirelaw04_HkdfChains.Pure) (a0 : ByteArray) (a1 : ByteArray) (a2 : Int) (w : World) (w0 : a0.size ≤ 140737488351232) (w1 : a1.size ≤ 140737488351232) (w2 : (Lit.int .i64 a2).wf = true) :
    Calls Try.prog 15 #[.string a0, .string a1, .int .i64 a2] w fun e w' => e = .returned (.bool true) ∧ Below w.heap.size w w' := by
  obtain ⟨k, h⟩ := P a0 a1 a2 w0 w1 w2
  refine (samphirelaw04_HkdfChains.calls k a0 a1 a2 true w h).mono ?_
  rintro e w' ⟨rfl, hd⟩
  exact ⟨rfl, hd⟩

end Go.Proofs.Ytbmpcdpcdljibaa.Pr

/- Joined texts (pack.py): what the statement's proof needs, part 6 of 6. No condition. -/
import Derived.Below
import Derived.Deep.Draws
import Derived.Deep.AppendLies
import Derived.Maps.AppendAt
import Derived.OwnWalk
import Derived.Laws.BytesArg
import Derived.Laws.MakeOwn
import Derived.Laws.OwnMore
import Derived.Deep.OwnRows
import Derived.Tactics
import Derived.Lib.ConvBytes
import Derived.Laws.Slices
import Derived.WalkKit
import Derived.KernelRfl
import Derived.RowKit3
import Derived.Deep.LoopGhost
import Derived.Deep.QuietTactic
import Derived.BigQuiet
import Derived.WideLaws
import Derived.Deep.DeepCutAuto
import Derived.Deep.CutBlock
import Derived.Deep.RegionHeld3
import Derived.Laws.Rows
import Derived.Lib.AppendStr
import Derived.ArgAppend
import Derived.Laws.IdiomCopy
import Derived.RowKit
import Derived.OrdersHeld
import Derived.Laws.BitsLemmas
import Derived.Laws.StructEq
import Derived.Test.YtmablneefndedaaProg
import Derived.Shelf.Strings.Builder1
import Derived.Shelf.Strings.Builder2
import Derived.Shelf.Strings.BuilderF
import Derived.Shelf.Strings.Prefix
import Derived.Shelf.Bits.Mul64
import Derived.Shelf.Strings.Repeat
import Derived.StillTailTactics
import Derived.IntWalk
import Derived.Deep.Light
import Derived.Deep.WholeRow
import Derived.Laws.CopyOwn
import Derived.Test.YtmablneefndedaaRows
import Derived.ProofKit
import Derived.OpenShut
import Derived.ShutString
import Derived.ChangeOld
import Derived.SizedLaws
import Derived.Test.YtmablneefndedaaZO1
import Derived.Test.YtmablneefndedaaZO2
import Derived.Test.YtmablneefndedaaZO3
import Derived.Test.YtmablneefndedaaZO4
import Derived.Test.YtmablneefndedaaZO5
section
namespace Go.Proofs.Ytmablneefndedaa.Pr
open Go.RowKit Go.Proofs.YtmablneefndedaaW.PrintWords Go.Proofs.YtmablneefndedaaW.PrintLast Go.Proofs.YtmablneefndedaaW.PrintMore
attribute [local go_sem] max2_int min2_int max_two min_two max_three min_three max_four min_four   -- for this text's walks alone
set_option linter.unusedVariables false
set_option linter.unusedSimpArgs false
def samphirelaw07_AeadOpens.f (k : Nat) (a0 : ByteArray) (a1 : ByteArray) (a2 : ByteArray) : Option (Bool) := (samphirelaw07_light.f a0 a1 a2).bind fun t297 => (if t297 = true then (if 0 ≤ (mn 32 (a0.size : Int)) then (if (mn 32 (a0.size : Int)) ≤ (a0.size : Int) then ((aead_Open.f (a0.extract 0 ((mn 32 (a0.size : Int)) : Int).toNat) (a0.extract ((mn 32 (a0.size : Int)) : Int).toNat a0.size) a1 a2).bind fun bt298 => ((samphireref07_Open.f k (a0.extract 0 ((mn 32 (a0.size : Int)) : Int).toNat) (a0.extract ((mn 32 (a0.size : Int)) : Int).toNat a0.size) a1 a2).bind fun bt300 => (if bt298.1.toList = bt300.1.toList then (if bt298.2 = bt300.2 then ((samphirelaw07_awake.f).bind fun t302 => (some t302)) else (some false)) else (some false)))) else (none)) else (none)) else ((samphirelaw07_awake.f).bind fun t303 => (some t303)))
def samphirelaw07_AeadOpens.T4 : Bool × List (List Nat × List Nat) := (true, [([], []), ([], []), ([0, 1], [0, 1]), ([], []), ([], []), ([3, 4], [3, 4]), ([], []), ([], []), ([2, 5, 6, 7], [2, 5, 6, 7]), ([8], [8]), ([9], [9]), ([9], [9]), ([10, 8, 0, 1, 2, 3, 4, 5, 6, 7, 8, 9, 10], [10]), ([11, 12, 0, 1, 2, 3, 4, 5, 6, 7, 8, 9, 10, 11, 12], [11])])
def samphirelaw07_AeadOpens.B4 : List Nat := [0, 0, 3, 0, 0, 24, 0, 0, 255, 511, 1023, 1023, 2047, 8191]
theorem samphirelaw07_AeadOpens.tab4 : rtab .any (opsOf Try.f4 4) = samphirelaw07_AeadOpens.T4 := by kernel_rfl
theorem samphirelaw07_AeadOpens.bits4 : waitsOk samphirelaw07_AeadOpens.T4.2 samphirelaw07_AeadOpens.B4 = true := by kernel_rfl
def samphirelaw07_AeadOpens.T5 : Bool × List (List Nat × List Nat) := (true, [([], []), ([], []), ([0, 1], [0, 1]), ([], []), ([], []), ([3, 4], [3, 4]), ([], []), ([], []), ([2, 5, 6, 7], [2, 5, 6, 7]), ([8], [8]), ([9], [9]), ([9], [9]), ([10, 8, 0, 1, 2, 3, 4, 5, 6, 7, 8, 9, 10], [10]), ([11, 12, 0, 1, 2, 3, 4, 5, 6, 7, 8, 9, 10, 11, 12], [11])])
def samphirelaw07_AeadOpens.B5 : List Nat := [0, 0, 3, 0, 0, 24, 0, 0, 255, 511, 1023, 1023, 2047, 8191]
theorem samphirelaw07_AeadOpens.tab5 : rtab .any (opsOf Try.f4 5) = samphirelaw07_AeadOpens.T5 := by kernel_rfl
theorem samphirelaw07_AeadOpens.bits5 : waitsOk samphirelaw07_AeadOpens.T5.2 samphirelaw07_AeadOpens.B5 = true := by kernel_rfl
set_option maxHeartbeats 8000000 in
set_option maxRecDepth 100000 in
theorem samphirelaw07_AeadOpens.calls (k : Nat) (a0 : ByteArray) (a1 : ByteArray) (a2 : ByteArray) (r : Bool) (w : World) (h : samphirelaw07_AeadOpens.f k a0 a1 a2 = some r) :
    Calls Try.prog 4 #[.string a0, .string a1, .string a2] w fun e w' => e = .returned (.bool r) ∧ Below w.heap.size w w' := by
  have HB := Aside0.mk (Below.refl w.heap.size w)
  have H : ((samphirelaw07_light.f a0 a1 a2).bind fun t297 => (if t297 = true then (if 0 ≤ (mn 32 (a0.size : Int)) then (if (mn 32 (a0.size : Int)) ≤ (a0.size : Int) then ((aead_Open.f (a0.extract 0 ((mn 32 (a0.size : Int)) : Int).toNat) (a0.extract ((mn 32 (a0.size : Int)) : Int).toNat a0.size) a1 a2).bind fun bt298 => ((samphireref07_Open.f k (a0.extract 0 ((mn 32 (a0.size : Int)) : Int).toNat) (a0.extract ((mn 32 (a0.size : Int)) : Int).toNat a0.size) a1 a2).bind fun bt300 => (if bt298.1.toList = bt300.1.toList then (if bt298.2 = bt300.2 then ((samphirelaw07_awake.f).bind fun t302 => (some t302)) else (some false)) else (some false)))) else (none)) else (none)) else ((samphirelaw07_awake.f).bind fun t303 => (some t303)))) = some r := h
  clear h
  replace H := Option.bind_eq_some_iff.mp H
  obtain ⟨t297, A40, H⟩ := H
  replace H : (if t297 = true then (if 0 ≤ (mn 32 (a0.size : Int)) then (if (mn 32 (a0.size : Int)) ≤ (a0.size : Int) then ((aead_Open.f (a0.extract 0 ((mn 32 (a0.size : Int)) : Int).toNat) (a0.extract ((mn 32 (a0.size : Int)) : Int).toNat a0.size) a1 a2).bind fun bt298 => ((samphireref07_Open.f k (a0.extract 0 ((mn 32 (a0.size : Int)) : Int).toNat) (a0.extract ((mn 32 (a0.size : Int)) : Int).toNat a0.size) a1 a2).bind fun bt300 => (if bt298.1.toList = bt300.1.toList then (if bt298.2 = bt300.2 then ((samphirelaw07_awake.f).bind fun t302 => (some t302)) else (some false)) else (some false)))) else (none)) else (none)) else ((samphirelaw07_awake.f).bind fun t303 => (some t303))) = some r := H
  have A4 := Aside0.mk A40
  clear A40
  by_cases c5 : t297 = true
  · subst c5
    have H1 : (if 0 ≤ (mn 32 (a0.size : Int)) then (if (mn 32 (a0.size : Int)) ≤ (a0.size : Int) then ((aead_Open.f (a0.extract 0 ((mn 32 (a0.size : Int)) : Int).toNat) (a0.extract ((mn 32 (a0.size : Int)) : Int).toNat a0.size) a1 a2).bind fun bt298 => ((samphireref07_Open.f k (a0.extract 0 ((mn 32 (a0.size : Int)) : Int).toNat) (a0.extract ((mn 32 (a0.size : Int)) : Int).toNat a0.size) a1 a2).bind fun bt300 => (if bt298.1.toList = bt300.1.toList then (if bt298.2 = bt300.2 then ((samphirelaw07_awake.f).bind fun t302 => (some t302)) else (some false)) else (some false)))) else (none)) else (none)) = some r := by rw [if_pos rfl] at H; exact H
    clear H
    have H := H1
    clear H1
    obtain ⟨ji6, hji6⟩ : ∃ j_ : Int, (mn 32 (a0.size : Int)) = j_ := ⟨_, rfl⟩
    replace H : (if 0 ≤ (ji6) then (if (ji6) ≤ (a0.size : Int) then ((aead_Open.f (a0.extract 0 ((ji6) : Int).toNat) (a0.extract ((ji6) : Int).toNat a0.size) a1 a2).bind fun bt298 => ((samphireref07_Open.f k (a0.extract 0 ((ji6) : Int).toNat) (a0.extract ((ji6) : Int).toNat a0.size) a1 a2).bind fun bt300 => (if bt298.1.toList = bt300.1.toList then (if bt298.2 = bt300.2 then ((samphirelaw07_awake.f).bind fun t302 => (some t302)) else (some false)) else (some false)))) else (none)) else (none)) = some r := by first | (rw [hji6] at H; exact H) | (simp only [hji6] at H ⊢; exact H)
    (try rw [hji6] at A4)
    (try (have hji6h : ji6 ≤ 32 := by (rw [← hji6]; unfold mn; (repeat' split) <;> omega)))
    (try (have hji6g : ji6 ≤ 64 := by omega))
    (try (have hji6l : 0 ≤ ji6 := by (rw [← hji6]; unfold mn; (repeat' split) <;> omega)))
    (try (have hji6m : 0 ≤ ji6 := by omega))
    have hji6_ : (if (a0.size : Int) < 32 then (a0.size : Int) else 32) = ji6 := hji6
    by_cases c7 : 0 ≤ (ji6)
    · rw [if_pos c7] at H
      have c7b0 := eq_true c7
      have c7b1 : decide (0 ≤ (ji6)) = true := decide_eq_true c7
      clear c7
      by_cases c8 : (ji6) ≤ (a0.size : Int)
      · rw [if_pos c8] at H
        have c8b0 := eq_true c8
        have c8b1 : decide ((ji6) ≤ (a0.size : Int)) = true := decide_eq_true c8
        clear c8
        have c9b0 := eq_true (of_decide_eq_true (by first | (with_reducible assumption) | assumption) : 0 ≤ (ji6))
        have c10b0 := eq_true (of_decide_eq_true (by first | (with_reducible assumption) | assumption) : (ji6) ≤ (a0.size : Int))
        replace H := Option.bind_eq_some_iff.mp H
        obtain ⟨⟨t298, t299⟩, A110, H⟩ := H
        replace H : ((samphireref07_Open.f k (a0.extract 0 ((ji6) : Int).toNat) (a0.extract ((ji6) : Int).toNat a0.size) a1 a2).bind fun bt300 => (if t298.toList = bt300.1.toList then (if t299 = bt300.2 then ((samphirelaw07_awake.f).bind fun t302 => (some t302)) else (some false)) else (some false))) = some r := H
        have A11 := Aside0.mk A110
        clear A110
        have c12b0 := eq_true (of_decide_eq_true (by first | (with_reducible assumption) | assumption) : 0 ≤ (ji6))
        have c13b0 := eq_true (of_decide_eq_true (by first | (with_reducible assumption) | assumption) : (ji6) ≤ (a0.size : Int))
        have c14b0 := eq_true (of_decide_eq_true (by first | (with_reducible assumption) | assumption) : 0 ≤ (ji6))
        have c15b0 := eq_true (of_decide_eq_true (by first | (with_reducible assumption) | assumption) : (ji6) ≤ (a0.size : Int))
        replace H := Option.bind_eq_some_iff.mp H
        obtain ⟨⟨t300, t301⟩, A160, H⟩ := H
        replace H : (if t298.toList = t300.toList then (if t299 = t301 then ((samphirelaw07_awake.f).bind fun t302 => (some t302)) else (some false)) else (some false)) = some r := H
        have A16 := Aside0.mk A160
        clear A160
        by_cases c17 : t298.toList = t300.toList
        · rw [if_pos c17] at H
          have c17b0 : (t298.toList == t300.toList) = true := beq_iff_eq.mpr c17
          have c17b1 : (t298.toList != t300.toList) = false := bne_eq_false_iff_eq.mpr c17
          clear c17
          by_cases c18 : t299 = t301
          · rw [if_pos c18] at H
            have c18b0 : (t299 == t301) = true := beq_iff_eq.mpr c18
            have c18b1 : (t299 != t301) = false := bne_eq_false_iff_eq.mpr c18
            clear c18
            replace H := Option.bind_eq_some_iff.mp H
            obtain ⟨t302, A190, H⟩ := H
            replace H : (some t302) = some r := H
            have A19 := Aside0.mk A190
            clear A190
            obtain rfl := Option.some.inj H
            go_enter Try.func4, Try.ntmps4
            try go_wp2_with (first | ((with_reducible refine gate_callee (f := 11) rfl ?_); refine goesL_ (some 15) rfl rfl Try.func11 (by kernel_rfl) rfl #[.string a0, .string a1, .string a2] rfl (by (try simp only [List.map_toArray, List.map_cons, List.map_nil]); first | done | rfl | (simp only [List.length_drop, List.length_take]; rfl)) ?_; (with_reducible refine (samphirelaw07_light.calls a0 a1 a2 true _ A4.out).mono ?_); rintro e w' ⟨rfl, ⟨nd, rfl⟩⟩; refine ⟨_, rfl, ?_⟩))
            have n0_ := Aside0.mk (below_drew1 (pw_below_drewN HB.out nd))
            clear HB
            have HB := n0_
            clear n0_
            refine start_ (n := 14) (S := fun w' => True) (ds := []) #[false, false, false, false, false, false, false, false, false, false, false, false, false, false] (by kernel_rfl) rfl rfl trivial (fun hHeld => ?_); refine with_tabW samphirelaw07_AeadOpens.tab4 samphirelaw07_AeadOpens.bits4 (fun HT_ HW_ => ?_)
            generalize (w.drewN nd).drew = w20 at HB hHeld ⊢
            refine pure_ (i := 0) (N := some 22) (v := ?_) (a' := ?_) #[true, false, false, false, false, false, false, false, false, false, false, false, false, false] rfl rfl (any_of HT_.out (by kernel_rfl)) (fun _ _ _ h => h) (Or.inl ⟨by rfl, ?_⟩) ?_ ?_
            rotate_left
            · intro w'
              go_simp
              with_reducible rfl
            rotate_left
            · simp only [Act.put, List.setIfInBounds_toArray, List.set_cons_zero, List.set_cons_succ, i64_w, i32_w]
              rfl
            refine pure_ (i := 1) (N := some 23) (v := ?_) (a' := ?_) #[true, true, false, false, false, false, false, false, false, false, false, false, false, false] rfl rfl (any_of HT_.out (by kernel_rfl)) (fun _ _ _ h => h) (Or.inl ⟨by rfl, ?_⟩) ?_ ?_
            rotate_left
            · intro w'
              go_simp
              with_reducible rfl
            rotate_left
            · simp only [Act.put, List.setIfInBounds_toArray, List.set_cons_zero, List.set_cons_succ, i64_w, i32_w]
              rfl
            refine pure_ (i := 2) (N := some 24) (v := ?_) (a' := ?_) #[true, true, true, false, false, false, false, false, false, false, false, false, false, false] rfl rfl (any_of HT_.out (by kernel_rfl)) (fun _ _ _ h => h) (Or.inl ⟨by rfl, ?_⟩) ?_ ?_
            rotate_left
            · intro w'
              go_simp
              with_reducible rfl
            rotate_left
            · simp only [Act.put, List.setIfInBounds_toArray, List.set_cons_zero, List.set_cons_succ, i64_w, i32_w]
              rfl
            refine pure_ (i := 3) (N := some 25) (v := ?_) (a' := ?_) #[true, true, true, true, false, false, false, false, false, false, false, false, false, false] rfl rfl (any_of HT_.out (by kernel_rfl)) (fun _ _ _ h => h) (Or.inl ⟨by rfl, ?_⟩) ?_ ?_
            rotate_left
            · intro w'
              go_simp
              with_reducible rfl
            rotate_left
            · simp only [Act.put, List.setIfInBounds_toArray, List.set_cons_zero, List.set_cons_succ, i64_w, i32_w]
              rfl
            refine pure_ (i := 4) (N := some 26) (v := ?_) (a' := ?_) #[true, true, true, true, true, false, false, false, false, false, false, false, false, false] rfl rfl (any_of HT_.out (by kernel_rfl)) (fun _ _ _ h => h) (Or.inl ⟨by rfl, ?_⟩) ?_ ?_
            rotate_left
            · intro w'
              go_simp
              with_reducible rfl
            rotate_left
            · simp only [Act.put, List.setIfInBounds_toArray, List.set_cons_zero, List.set_cons_succ, i64_w, i32_w]
              rfl
            refine pure_ (i := 5) (N := some 27) (v := ?_) (a' := ?_) #[true, true, true, true, true, true, false, false, false, false, false, false, false, false] rfl rfl (any_of HT_.out (by kernel_rfl)) (fun _ _ _ h => h) (Or.inl ⟨by rfl, ?_⟩) ?_ ?_
            rotate_left
            · intro w'
              go_simp
              with_reducible rfl
            rotate_left
            · simp only [Act.put, List.setIfInBounds_toArray, List.set_cons_zero, List.set_cons_succ, i64_w, i32_w]
              rfl
            refine pure_ (i := 6) (N := some 28) (v := ?_) (a' := ?_) #[true, true, true, true, true, true, true, false, false, false, false, false, false, false] rfl rfl (any_of HT_.out (by kernel_rfl)) (fun _ _ _ h => h) (Or.inl ⟨by rfl, ?_⟩) ?_ ?_
            rotate_left
            · intro w'
              go_simp
              with_reducible rfl
            rotate_left
            · simp only [Act.put, List.setIfInBounds_toArray, List.set_cons_zero, List.set_cons_succ, i64_w, i32_w]
              rfl
            refine pure_ (i := 7) (N := some 29) (v := ?_) (a' := ?_) #[true, true, true, true, true, true, true, true, false, false, false, false, false, false] rfl rfl (any_of HT_.out (by kernel_rfl)) (fun _ _ _ h => h) (Or.inl ⟨by rfl, ?_⟩) ?_ ?_
            rotate_left
            · intro w'
              go_simp
              with_reducible rfl
            rotate_left
            · simp only [Act.put, List.setIfInBounds_toArray, List.set_cons_zero, List.set_cons_succ, i64_w, i32_w]
              rfl
            refine one_ (i := 8) (N := some 30) #[true, true, true, true, true, true, true, true, true, false, false, false, false, false] rfl rfl (one_of HT_.out (by kernel_rfl)) (by decide) (fun K hK => ?_)
            refine goes_ Try.func15 (by kernel_rfl) rfl #[.string (a0.extract 0 ((ji6) : Int).toNat), .string (a0.extract ((ji6) : Int).toNat a0.size), .string a1, .string a2] (by rfl) rfl rfl (by (try simp only [List.map_toArray, List.map_cons, List.map_nil]); first | done | (simp only [hji6]; rfl) | rfl | (simp only [List.length_drop, List.length_take]; rfl)) ?_
            with_reducible refine (aead_Open.calls (a0.extract 0 ((ji6) : Int).toNat) (a0.extract ((ji6) : Int).toNat a0.size) a1 a2 t298 t299 _ A11.out).mono ?_
            rintro e w21 ⟨rfl, hb⟩
            refine ⟨_, rfl, ?_⟩
            have n0_ := Aside0.mk (below_step (by repeat (first | (with_reducible first | exact HB.out | apply below_alloc | apply pw_below_drewN | apply below_drew1) | exact HB.out)) hb)
            clear HB
            have HB := n0_
            clear n0_
            (try clear hb)
            (try clear hb2)
            (try clear hk)
            (try clear hi)
            refine hK.out _ _ trivial (fun hHeld => ?_)
            clear hK K
            refine norm_ (a' := ?_) ?_ ?_
            rotate_left
            · show Act.put _ (some 30) _ = _
              simp only [Act.put, List.setIfInBounds_toArray, List.set_cons_zero, List.set_cons_succ, i64_w, i32_w]
              rfl
            refine pure_ (i := 9) (N := some 21) (v := ?_) (a' := ?_) #[true, true, true, true, true, true, true, true, true, true, false, false, false, false] rfl rfl (any_of HT_.out (by kernel_rfl)) (fun _ _ _ h => h) (Or.inl ⟨by rfl, ?_⟩) ?_ ?_
            rotate_left
            · intro w'
              go_simp
              with_reducible rfl
            rotate_left
            · simp only [Act.put, List.setIfInBounds_toArray, List.set_cons_zero, List.set_cons_succ, i64_w, i32_w]
              rfl
            refine pure_ (i := 10) (N := some 31) (v := ?_) (a' := ?_) #[true, true, true, true, true, true, true, true, true, true, true, false, false, false] rfl rfl (any_of HT_.out (by kernel_rfl)) (fun _ _ _ h => h) (Or.inl ⟨by rfl, ?_⟩) ?_ ?_
            rotate_left
            · intro w'
              go_simp
              with_reducible rfl
            rotate_left
            · simp only [Act.put, List.setIfInBounds_toArray, List.set_cons_zero, List.set_cons_succ, i64_w, i32_w]
              rfl
            refine pure_ (i := 11) (N := some 32) (v := ?_) (a' := ?_) #[true, true, true, true, true, true, true, true, true, true, true, true, false, false] rfl rfl (any_of HT_.out (by kernel_rfl)) (fun _ _ _ h => h) (Or.inl ⟨by rfl, ?_⟩) ?_ ?_
            rotate_left
            · intro w'
              go_simp
              with_reducible rfl
            rotate_left
            · simp only [Act.put, List.setIfInBounds_toArray, List.set_cons_zero, List.set_cons_succ, i64_w, i32_w]
              rfl
            refine pure_ (i := 12) (N := some 8) (v := ?_) (a' := ?_) #[true, true, true, true, true, true, true, true, true, true, true, true, true, false] rfl rfl (any_of HT_.out (by kernel_rfl)) (fun _ _ _ h => h) (Or.inl ⟨by rfl, ?_⟩) ?_ ?_
            rotate_left
            · intro w'
              go_simp
              with_reducible rfl
            rotate_left
            · simp only [Act.put, List.setIfInBounds_toArray, List.set_cons_zero, List.set_cons_succ, i64_w, i32_w]
              rfl
            refine pure_ (i := 13) (N := some 9) (v := ?_) (a' := ?_) #[true, true, true, true, true, true, true, true, true, true, true, true, true, true] rfl rfl (any_of HT_.out (by kernel_rfl)) (fun _ _ _ h => h) (Or.inl ⟨by rfl, ?_⟩) ?_ ?_
            rotate_left
            · intro w'
              go_simp
              with_reducible rfl
            rotate_left
            · simp only [Act.put, List.setIfInBounds_toArray, List.set_cons_zero, List.set_cons_succ, i64_w, i32_w]
              rfl
            refine done_ (done_of HT_.out (by kernel_rfl)) ?_
            try go_wp2
            have n0_ := Aside0.mk (below_drew1 HB.out)
            clear HB
            have HB := n0_
            clear n0_
            refine start_ (n := 14) (S := fun w' => True) (ds := []) #[false, false, false, false, false, false, false, false, false, false, false, false, false, false] (by kernel_rfl) rfl rfl trivial (fun hHeld => ?_); refine with_tabW samphirelaw07_AeadOpens.tab5 samphirelaw07_AeadOpens.bits5 (fun HT_ HW_ => ?_)
            generalize w21.drew = w22 at HB hHeld ⊢
            refine pure_ (i := 0) (N := some 34) (v := ?_) (a' := ?_) #[true, false, false, false, false, false, false, false, false, false, false, false, false, false] rfl rfl (any_of HT_.out (by kernel_rfl)) (fun _ _ _ h => h) (Or.inl ⟨by rfl, ?_⟩) ?_ ?_
            rotate_left
            · intro w'
              go_simp
              with_reducible rfl
            rotate_left
            · simp only [Act.put, List.setIfInBounds_toArray, List.set_cons_zero, List.set_cons_succ, i64_w, i32_w]
              rfl
            refine pure_ (i := 1) (N := some 35) (v := ?_) (a' := ?_) #[true, true, false, false, false, false, false, false, false, false, false, false, false, false] rfl rfl (any_of HT_.out (by kernel_rfl)) (fun _ _ _ h => h) (Or.inl ⟨by rfl, ?_⟩) ?_ ?_
            rotate_left
            · intro w'
              go_simp
              with_reducible rfl
            rotate_left
            · simp only [Act.put, List.setIfInBounds_toArray, List.set_cons_zero, List.set_cons_succ, i64_w, i32_w]
              rfl
            refine pure_ (i := 2) (N := some 36) (v := ?_) (a' := ?_) #[true, true, true, false, false, false, false, false, false, false, false, false, false, false] rfl rfl (any_of HT_.out (by kernel_rfl)) (fun _ _ _ h => h) (Or.inl ⟨by rfl, ?_⟩) ?_ ?_
            rotate_left
            · intro w'
              go_simp
              with_reducible rfl
            rotate_left
            · simp only [Act.put, List.setIfInBounds_toArray, List.set_cons_zero, List.set_cons_succ, i64_w, i32_w]
              rfl
            refine pure_ (i := 3) (N := some 37) (v := ?_) (a' := ?_) #[true, true, true, true, false, false, false, false, false, false, false, false, false, false] rfl rfl (any_of HT_.out (by kernel_rfl)) (fun _ _ _ h => h) (Or.inl ⟨by rfl, ?_⟩) ?_ ?_
            rotate_left
            · intro w'
              go_simp
              with_reducible rfl
            rotate_left
            · simp only [Act.put, List.setIfInBounds_toArray, List.set_cons_zero, List.set_cons_succ, i64_w, i32_w]
              rfl
            refine pure_ (i := 4) (N := some 38) (v := ?_) (a' := ?_) #[true, true, true, true, true, false, false, false, false, false, false, false, false, false] rfl rfl (any_of HT_.out (by kernel_rfl)) (fun _ _ _ h => h) (Or.inl ⟨by rfl, ?_⟩) ?_ ?_
            rotate_left
            · intro w'
              go_simp
              with_reducible rfl
            rotate_left
            · simp only [Act.put, List.setIfInBounds_toArray, List.set_cons_zero, List.set_cons_succ, i64_w, i32_w]
              rfl
            refine pure_ (i := 5) (N := some 39) (v := ?_) (a' := ?_) #[true, true, true, true, true, true, false, false, false, false, false, false, false, false] rfl rfl (any_of HT_.out (by kernel_rfl)) (fun _ _ _ h => h) (Or.inl ⟨by rfl, ?_⟩) ?_ ?_
            rotate_left
            · intro w'
              go_simp
              with_reducible rfl
            rotate_left
            · simp only [Act.put, List.setIfInBounds_toArray, List.set_cons_zero, List.set_cons_succ, i64_w, i32_w]
              rfl
            refine pure_ (i := 6) (N := some 40) (v := ?_) (a' := ?_) #[true, true, true, true, true, true, true, false, false, false, false, false, false, false] rfl rfl (any_of HT_.out (by kernel_rfl)) (fun _ _ _ h => h) (Or.inl ⟨by rfl, ?_⟩) ?_ ?_
            rotate_left
            · intro w'
              go_simp
              with_reducible rfl
            rotate_left
            · simp only [Act.put, List.setIfInBounds_toArray, List.set_cons_zero, List.set_cons_succ, i64_w, i32_w]
              rfl
            refine pure_ (i := 7) (N := some 41) (v := ?_) (a' := ?_) #[true, true, true, true, true, true, true, true, false, false, false, false, false, false] rfl rfl (any_of HT_.out (by kernel_rfl)) (fun _ _ _ h => h) (Or.inl ⟨by rfl, ?_⟩) ?_ ?_
            rotate_left
            · intro w'
              go_simp
              with_reducible rfl
            rotate_left
            · simp only [Act.put, List.setIfInBounds_toArray, List.set_cons_zero, List.set_cons_succ, i64_w, i32_w]
              rfl
            refine one_ (i := 8) (N := some 42) #[true, true, true, true, true, true, true, true, true, false, false, false, false, false] rfl rfl (one_of HT_.out (by kernel_rfl)) (by decide) (fun K hK => ?_)
            refine goes_ Try.func16 (by kernel_rfl) rfl #[.string (a0.extract 0 ((ji6) : Int).toNat), .string (a0.extract ((ji6) : Int).toNat a0.size), .string a1, .string a2] (by rfl) rfl rfl (by (try simp only [List.map_toArray, List.map_cons, List.map_nil]); first | done | (simp only [hji6]; rfl) | rfl | (simp only [List.length_drop, List.length_take]; rfl)) ?_
            with_reducible refine (samphireref07_Open.calls k (a0.extract 0 ((ji6) : Int).toNat) (a0.extract ((ji6) : Int).toNat a0.size) a1 a2 t300 t301 _ A16.out).mono ?_
            rintro e w23 ⟨rfl, hb⟩
            refine ⟨_, rfl, ?_⟩
            have n0_ := Aside0.mk (below_step (by repeat (first | (with_reducible first | exact HB.out | apply below_alloc | apply pw_below_drewN | apply below_drew1) | exact HB.out)) hb)
            clear HB
            have HB := n0_
            clear n0_
            (try clear hb)
            (try clear hb2)
            (try clear hk)
            (try clear hi)
            refine hK.out _ _ trivial (fun hHeld => ?_)
            clear hK K
            refine norm_ (a' := ?_) ?_ ?_
            rotate_left
            · show Act.put _ (some 42) _ = _
              simp only [Act.put, List.setIfInBounds_toArray, List.set_cons_zero, List.set_cons_succ, i64_w, i32_w]
              rfl
            refine pure_ (i := 9) (N := some 33) (v := ?_) (a' := ?_) #[true, true, true, true, true, true, true, true, true, true, false, false, false, false] rfl rfl (any_of HT_.out (by kernel_rfl)) (fun _ _ _ h => h) (Or.inl ⟨by rfl, ?_⟩) ?_ ?_
            rotate_left
            · intro w'
              go_simp
              with_reducible rfl
            rotate_left
            · simp only [Act.put, List.setIfInBounds_toArray, List.set_cons_zero, List.set_cons_succ, i64_w, i32_w]
              rfl
            refine pure_ (i := 10) (N := some 43) (v := ?_) (a' := ?_) #[true, true, true, true, true, true, true, true, true, true, true, false, false, false] rfl rfl (any_of HT_.out (by kernel_rfl)) (fun _ _ _ h => h) (Or.inl ⟨by rfl, ?_⟩) ?_ ?_
            rotate_left
            · intro w'
              go_simp
              with_reducible rfl
            rotate_left
            · simp only [Act.put, List.setIfInBounds_toArray, List.set_cons_zero, List.set_cons_succ, i64_w, i32_w]
              rfl
            refine pure_ (i := 11) (N := some 44) (v := ?_) (a' := ?_) #[true, true, true, true, true, true, true, true, true, true, true, true, false, false] rfl rfl (any_of HT_.out (by kernel_rfl)) (fun _ _ _ h => h) (Or.inl ⟨by rfl, ?_⟩) ?_ ?_
            rotate_left
            · intro w'
              go_simp
              with_reducible rfl
            rotate_left
            · simp only [Act.put, List.setIfInBounds_toArray, List.set_cons_zero, List.set_cons_succ, i64_w, i32_w]
              rfl
            refine pure_ (i := 12) (N := some 10) (v := ?_) (a' := ?_) #[true, true, true, true, true, true, true, true, true, true, true, true, true, false] rfl rfl (any_of HT_.out (by kernel_rfl)) (fun _ _ _ h => h) (Or.inl ⟨by rfl, ?_⟩) ?_ ?_
            rotate_left
            · intro w'
              go_simp
              with_reducible rfl
            rotate_left
            · simp only [Act.put, List.setIfInBounds_toArray, List.set_cons_zero, List.set_cons_succ, i64_w, i32_w]
              rfl
            refine pure_ (i := 13) (N := some 11) (v := ?_) (a' := ?_) #[true, true, true, true, true, true, true, true, true, true, true, true, true, true] rfl rfl (any_of HT_.out (by kernel_rfl)) (fun _ _ _ h => h) (Or.inl ⟨by rfl, ?_⟩) ?_ ?_
            rotate_left
            · intro w'
              go_simp
              with_reducible rfl
            rotate_left
            · simp only [Act.put, List.setIfInBounds_toArray, List.set_cons_zero, List.set_cons_succ, i64_w, i32_w]
              rfl
            refine done_ (done_of HT_.out (by kernel_rfl)) ?_
            try go_wp2_with (first | (go_at_call 12; (with_reducible refine (samphirelaw07_awake.calls  t302 _ A19.out).mono ?_); rintro e w24 ⟨rfl, hb⟩; have n0_ := Aside0.mk (below_step (by repeat (first | (with_reducible first | exact HB.out | apply below_alloc | apply pw_below_drewN | apply below_drew1) | exact HB.out)) hb); clear HB; have HB := n0_; clear n0_; (try clear hb); (try clear hb2); (try clear hk); (try clear hi)))
            go_ret
            exact ⟨by first | rfl | (simp [errW_none, errW_some] <;> rfl) | (simp only [← hji6]; first | rfl | (simp [errW_none, errW_some] <;> rfl)) | (simp [*, errW_none, errW_some] <;> rfl), by repeat (first | (with_reducible first | exact HB.out | apply below_alloc | apply pw_below_drewN | apply below_drew1) | exact HB.out)⟩
          · rw [if_neg c18] at H
            have c18b0 : (t299 == t301) = false := beq_eq_false_iff_ne.mpr c18
            have c18b1 : (t299 != t301) = true := bne_iff_ne.mpr c18
            obtain rfl := Option.some.inj H
            go_enter Try.func4, Try.ntmps4
            try go_wp2_with (first | ((with_reducible refine gate_callee (f := 11) rfl ?_); refine goesL_ (some 15) rfl rfl Try.func11 (by kernel_rfl) rfl #[.string a0, .string a1, .string a2] rfl (by (try simp only [List.map_toArray, List.map_cons, List.map_nil]); first | done | rfl | (simp only [List.length_drop, List.length_take]; rfl)) ?_; (with_reducible refine (samphirelaw07_light.calls a0 a1 a2 true _ A4.out).mono ?_); rintro e w' ⟨rfl, ⟨nd, rfl⟩⟩; refine ⟨_, rfl, ?_⟩))
            have n0_ := Aside0.mk (below_drew1 (pw_below_drewN HB.out nd))
            clear HB
            have HB := n0_
            clear n0_
            refine start_ (n := 14) (S := fun w' => True) (ds := []) #[false, false, false, false, false, false, false, false, false, false, false, false, false, false] (by kernel_rfl) rfl rfl trivial (fun hHeld => ?_); refine with_tabW samphirelaw07_AeadOpens.tab4 samphirelaw07_AeadOpens.bits4 (fun HT_ HW_ => ?_)
            generalize (w.drewN nd).drew = w25 at HB hHeld ⊢
            refine pure_ (i := 0) (N := some 22) (v := ?_) (a' := ?_) #[true, false, false, false, false, false, false, false, false, false, false, false, false, false] rfl rfl (any_of HT_.out (by kernel_rfl)) (fun _ _ _ h => h) (Or.inl ⟨by rfl, ?_⟩) ?_ ?_
            rotate_left
            · intro w'
              go_simp
              with_reducible rfl
            rotate_left
            · simp only [Act.put, List.setIfInBounds_toArray, List.set_cons_zero, List.set_cons_succ, i64_w, i32_w]
              rfl
            refine pure_ (i := 1) (N := some 23) (v := ?_) (a' := ?_) #[true, true, false, false, false, false, false, false, false, false, false, false, false, false] rfl rfl (any_of HT_.out (by kernel_rfl)) (fun _ _ _ h => h) (Or.inl ⟨by rfl, ?_⟩) ?_ ?_
            rotate_left
            · intro w'
              go_simp
              with_reducible rfl
            rotate_left
            · simp only [Act.put, List.setIfInBounds_toArray, List.set_cons_zero, List.set_cons_succ, i64_w, i32_w]
              rfl
            refine pure_ (i := 2) (N := some 24) (v := ?_) (a' := ?_) #[true, true, true, false, false, false, false, false, false, false, false, false, false, false] rfl rfl (any_of HT_.out (by kernel_rfl)) (fun _ _ _ h => h) (Or.inl ⟨by rfl, ?_⟩) ?_ ?_
            rotate_left
            · intro w'
              go_simp
              with_reducible rfl
            rotate_left
            · simp only [Act.put, List.setIfInBounds_toArray, List.set_cons_zero, List.set_cons_succ, i64_w, i32_w]
              rfl
            refine pure_ (i := 3) (N := some 25) (v := ?_) (a' := ?_) #[true, true, true, true, false, false, false, false, false, false, false, false, false, false] rfl rfl (any_of HT_.out (by kernel_rfl)) (fun _ _ _ h => h) (Or.inl ⟨by rfl, ?_⟩) ?_ ?_
            rotate_left
            · intro w'
              go_simp
              with_reducible rfl
            rotate_left
            · simp only [Act.put, List.setIfInBounds_toArray, List.set_cons_zero, List.set_cons_succ, i64_w, i32_w]
              rfl
            refine pure_ (i := 4) (N := some 26) (v := ?_) (a' := ?_) #[true, true, true, true, true, false, false, false, false, false, false, false, false, false] rfl rfl (any_of HT_.out (by kernel_rfl)) (fun _ _ _ h => h) (Or.inl ⟨by rfl, ?_⟩) ?_ ?_
            rotate_left
            · intro w'
              go_simp
              with_reducible rfl
            rotate_left
            · simp only [Act.put, List.setIfInBounds_toArray, List.set_cons_zero, List.set_cons_succ, i64_w, i32_w]
              rfl
            refine pure_ (i := 5) (N := some 27) (v := ?_) (a' := ?_) #[true, true, true, true, true, true, false, false, false, false, false, false, false, false] rfl rfl (any_of HT_.out (by kernel_rfl)) (fun _ _ _ h => h) (Or.inl ⟨by rfl, ?_⟩) ?_ ?_
            rotate_left
            · intro w'
              go_simp
              with_reducible rfl
            rotate_left
            · simp only [Act.put, List.setIfInBounds_toArray, List.set_cons_zero, List.set_cons_succ, i64_w, i32_w]
              rfl
            refine pure_ (i := 6) (N := some 28) (v := ?_) (a' := ?_) #[true, true, true, true, true, true, true, false, false, false, false, false, false, false] rfl rfl (any_of HT_.out (by kernel_rfl)) (fun _ _ _ h => h) (Or.inl ⟨by rfl, ?_⟩) ?_ ?_
            rotate_left
            · intro w'
              go_simp
              with_reducible rfl
            rotate_left
            · simp only [Act.put, List.setIfInBounds_toArray, List.set_cons_zero, List.set_cons_succ, i64_w, i32_w]
              rfl
            refine pure_ (i := 7) (N := some 29) (v := ?_) (a' := ?_) #[true, true, true, true, true, true, true, true, false, false, false, false, false, false] rfl rfl (any_of HT_.out (by kernel_rfl)) (fun _ _ _ h => h) (Or.inl ⟨by rfl, ?_⟩) ?_ ?_
            rotate_left
            · intro w'
              go_simp
              with_reducible rfl
            rotate_left
            · simp only [Act.put, List.setIfInBounds_toArray, List.set_cons_zero, List.set_cons_succ, i64_w, i32_w]
              rfl
            refine one_ (i := 8) (N := some 30) #[true, true, true, true, true, true, true, true, true, false, false, false, false, false] rfl rfl (one_of HT_.out (by kernel_rfl)) (by decide) (fun K hK => ?_)
            refine goes_ Try.func15 (by kernel_rfl) rfl #[.string (a0.extract 0 ((ji6) : Int).toNat), .string (a0.extract ((ji6) : Int).toNat a0.size), .string a1, .string a2] (by rfl) rfl rfl (by (try simp only [List.map_toArray, List.map_cons, List.map_nil]); first | done | (simp only [hji6]; rfl) | rfl | (simp only [List.length_drop, List.length_take]; rfl)) ?_
            with_reducible refine (aead_Open.calls (a0.extract 0 ((ji6) : Int).toNat) (a0.extract ((ji6) : Int).toNat a0.size) a1 a2 t298 t299 _ A11.out).mono ?_
            rintro e w26 ⟨rfl, hb⟩
            refine ⟨_, rfl, ?_⟩
            have n0_ := Aside0.mk (below_step (by repeat (first | (with_reducible first | exact HB.out | apply below_alloc | apply pw_below_drewN | apply below_drew1) | exact HB.out)) hb)
            clear HB
            have HB := n0_
            clear n0_
            (try clear hb)
            (try clear hb2)
            (try clear hk)
            (try clear hi)
            refine hK.out _ _ trivial (fun hHeld => ?_)
            clear hK K
            refine norm_ (a' := ?_) ?_ ?_
            rotate_left
            · show Act.put _ (some 30) _ = _
              simp only [Act.put, List.setIfInBounds_toArray, List.set_cons_zero, List.set_cons_succ, i64_w, i32_w]
              rfl
            refine pure_ (i := 9) (N := some 21) (v := ?_) (a' := ?_) #[true, true, true, true, true, true, true, true, true, true, false, false, false, false] rfl rfl (any_of HT_.out (by kernel_rfl)) (fun _ _ _ h => h) (Or.inl ⟨by rfl, ?_⟩) ?_ ?_
            rotate_left
            · intro w'
              go_simp
              with_reducible rfl
            rotate_left
            · simp only [Act.put, List.setIfInBounds_toArray, List.set_cons_zero, List.set_cons_succ, i64_w, i32_w]
              rfl
            refine pure_ (i := 10) (N := some 31) (v := ?_) (a' := ?_) #[true, true, true, true, true, true, true, true, true, true, true, false, false, false] rfl rfl (any_of HT_.out (by kernel_rfl)) (fun _ _ _ h => h) (Or.inl ⟨by rfl, ?_⟩) ?_ ?_
            rotate_left
            · intro w'
              go_simp
              with_reducible rfl
            rotate_left
            · simp only [Act.put, List.setIfInBounds_toArray, List.set_cons_zero, List.set_cons_succ, i64_w, i32_w]
              rfl
            refine pure_ (i := 11) (N := some 32) (v := ?_) (a' := ?_) #[true, true, true, true, true, true, true, true, true, true, true, true, false, false] rfl rfl (any_of HT_.out (by kernel_rfl)) (fun _ _ _ h => h) (Or.inl ⟨by rfl, ?_⟩) ?_ ?_
            rotate_left
            · intro w'
              go_simp
              with_reducible rfl
            rotate_left
            · simp only [Act.put, List.setIfInBounds_toArray, List.set_cons_zero, List.set_cons_succ, i64_w, i32_w]
              rfl
            refine pure_ (i := 12) (N := some 8) (v := ?_) (a' := ?_) #[true, true, true, true, true, true, true, true, true, true, true, true, true, false] rfl rfl (any_of HT_.out (by kernel_rfl)) (fun _ _ _ h => h) (Or.inl ⟨by rfl, ?_⟩) ?_ ?_
            rotate_left
            · intro w'
              go_simp
              with_reducible rfl
            rotate_left
            · simp only [Act.put, List.setIfInBounds_toArray, List.set_cons_zero, List.set_cons_succ, i64_w, i32_w]
              rfl
            refine pure_ (i := 13) (N := some 9) (v := ?_) (a' := ?_) #[true, true, true, true, true, true, true, true, true, true, true, true, true, true] rfl rfl (any_of HT_.out (by kernel_rfl)) (fun _ _ _ h => h) (Or.inl ⟨by rfl, ?_⟩) ?_ ?_
            rotate_left
            · intro w'
              go_simp
              with_reducible rfl
            rotate_left
            · simp only [Act.put, List.setIfInBounds_toArray, List.set_cons_zero, List.set_cons_succ, i64_w, i32_w]
              rfl
            refine done_ (done_of HT_.out (by kernel_rfl)) ?_
            try go_wp2
            have n0_ := Aside0.mk (below_drew1 HB.out)
            clear HB
            have HB := n0_
            clear n0_
            refine start_ (n := 14) (S := fun w' => True) (ds := []) #[false, false, false, false, false, false, false, false, false, false, false, false, false, false] (by kernel_rfl) rfl rfl trivial (fun hHeld => ?_); refine with_tabW samphirelaw07_AeadOpens.tab5 samphirelaw07_AeadOpens.bits5 (fun HT_ HW_ => ?_)
            generalize w26.drew = w27 at HB hHeld ⊢
            refine pure_ (i := 0) (N := some 34) (v := ?_) (a' := ?_) #[true, false, false, false, false, false, false, false, false, false, false, false, false, false] rfl rfl (any_of HT_.out (by kernel_rfl)) (fun _ _ _ h => h) (Or.inl ⟨by rfl, ?_⟩) ?_ ?_
            rotate_left
            · intro w'
              go_simp
              with_reducible rfl
            rotate_left
            · simp only [Act.put, List.setIfInBounds_toArray, List.set_cons_zero, List.set_cons_succ, i64_w, i32_w]
              rfl
            refine pure_ (i := 1) (N := some 35) (v := ?_) (a' := ?_) #[true, true, false, false, false, false, false, false, false, false, false, false, false, false] rfl rfl (any_of HT_.out (by kernel_rfl)) (fun _ _ _ h => h) (Or.inl ⟨by rfl, ?_⟩) ?_ ?_
            rotate_left
            · intro w'
              go_simp
              with_reducible rfl
            rotate_left
            · simp only [Act.put, List.setIfInBounds_toArray, List.set_cons_zero, List.set_cons_succ, i64_w, i32_w]
              rfl
            refine pure_ (i := 2) (N := some 36) (v := ?_) (a' := ?_) #[true, true, true, false, false, false, false, false, false, false, false, false, false, false] rfl rfl (any_of HT_.out (by kernel_rfl)) (fun _ _ _ h => h) (Or.inl ⟨by rfl, ?_⟩) ?_ ?_
            rotate_left
            · intro w'
              go_simp
              with_reducible rfl
            rotate_left
            · simp only [Act.put, List.setIfInBounds_toArray, List.set_cons_zero, List.set_cons_succ, i64_w, i32_w]
              rfl
            refine pure_ (i := 3) (N := some 37) (v := ?_) (a' := ?_) #[true, true, true, true, false, false, false, false, false, false, false, false, false, false] rfl rfl (any_of HT_.out (by kernel_rfl)) (fun _ _ _ h => h) (Or.inl ⟨by rfl, ?_⟩) ?_ ?_
            rotate_left
            · intro w'
              go_simp
              with_reducible rfl
            rotate_left
            · simp only [Act.put, List.setIfInBounds_toArray, List.set_cons_zero, List.set_cons_succ, i64_w, i32_w]
              rfl
            refine pure_ (i := 4) (N := some 38) (v := ?_) (a' := ?_) #[true, true, true, true, true, false, false, false, false, false, false, false, false, false] rfl rfl (any_of HT_.out (by kernel_rfl)) (fun _ _ _ h => h) (Or.inl ⟨by rfl, ?_⟩) ?_ ?_
            rotate_left
            · intro w'
              go_simp
              with_reducible rfl
            rotate_left
            · simp only [Act.put, List.setIfInBounds_toArray, List.set_cons_zero, List.set_cons_succ, i64_w, i32_w]
              rfl
            refine pure_ (i := 5) (N := some 39) (v := ?_) (a' := ?_) #[true, true, true, true, true, true, false, false, false, false, false, false, false, false] rfl rfl (any_of HT_.out (by kernel_rfl)) (fun _ _ _ h => h) (Or.inl ⟨by rfl, ?_⟩) ?_ ?_
            rotate_left
            · intro w'
              go_simp
              with_reducible rfl
            rotate_left
            · simp only [Act.put, List.setIfInBounds_toArray, List.set_cons_zero, List.set_cons_succ, i64_w, i32_w]
              rfl
            refine pure_ (i := 6) (N := some 40) (v := ?_) (a' := ?_) #[true, true, true, true, true, true, true, false, false, false, false, false, false, false] rfl rfl (any_of HT_.out (by kernel_rfl)) (fun _ _ _ h => h) (Or.inl ⟨by rfl, ?_⟩) ?_ ?_
            rotate_left
            · intro w'
              go_simp
              with_reducible rfl
            rotate_left
            · simp only [Act.put, List.setIfInBounds_toArray, List.set_cons_zero, List.set_cons_succ, i64_w, i32_w]
              rfl
            refine pure_ (i := 7) (N := some 41) (v := ?_) (a' := ?_) #[true, true, true, true, true, true, true, true, false, false, false, false, false, false] rfl rfl (any_of HT_.out (by kernel_rfl)) (fun _ _ _ h => h) (Or.inl ⟨by rfl, ?_⟩) ?_ ?_
            rotate_left
            · intro w'
              go_simp
              with_reducible rfl
            rotate_left
            · simp only [Act.put, List.setIfInBounds_toArray, List.set_cons_zero, List.set_cons_succ, i64_w, i32_w]
              rfl
            refine one_ (i := 8) (N := some 42) #[true, true, true, true, true, true, true, true, true, false, false, false, false, false] rfl rfl (one_of HT_.out (by kernel_rfl)) (by decide) (fun K hK => ?_)
            refine goes_ Try.func16 (by kernel_rfl) rfl #[.string (a0.extract 0 ((ji6) : Int).toNat), .string (a0.extract ((ji6) : Int).toNat a0.size), .string a1, .string a2] (by rfl) rfl rfl (by (try simp only [List.map_toArray, List.map_cons, List.map_nil]); first | done | (simp only [hji6]; rfl) | rfl | (simp only [List.length_drop, List.length_take]; rfl)) ?_
            with_reducible refine (samphireref07_Open.calls k (a0.extract 0 ((ji6) : Int).toNat) (a0.extract ((ji6) : Int).toNat a0.size) a1 a2 t300 t301 _ A16.out).mono ?_
            rintro e w28 ⟨rfl, hb⟩
            refine ⟨_, rfl, ?_⟩
            have n0_ := Aside0.mk (below_step (by repeat (first | (with_reducible first | exact HB.out | apply below_alloc | apply pw_below_drewN | apply below_drew1) | exact HB.out)) hb)
            clear HB
            have HB := n0_
            clear n0_
            (try clear hb)
            (try clear hb2)
            (try clear hk)
            (try clear hi)
            refine hK.out _ _ trivial (fun hHeld => ?_)
            clear hK K
            refine norm_ (a' := ?_) ?_ ?_
            rotate_left
            · show Act.put _ (some 42) _ = _
              simp only [Act.put, List.setIfInBounds_toArray, List.set_cons_zero, List.set_cons_succ, i64_w, i32_w]
              rfl
            refine pure_ (i := 9) (N := some 33) (v := ?_) (a' := ?_) #[true, true, true, true, true, true, true, true, true, true, false, false, false, false] rfl rfl (any_of HT_.out (by kernel_rfl)) (fun _ _ _ h => h) (Or.inl ⟨by rfl, ?_⟩) ?_ ?_
            rotate_left
            · intro w'
              go_simp
              with_reducible rfl
            rotate_left
            · simp only [Act.put, List.setIfInBounds_toArray, List.set_cons_zero, List.set_cons_succ, i64_w, i32_w]
              rfl
            refine pure_ (i := 10) (N := some 43) (v := ?_) (a' := ?_) #[true, true, true, true, true, true, true, true, true, true, true, false, false, false] rfl rfl (any_of HT_.out (by kernel_rfl)) (fun _ _ _ h => h) (Or.inl ⟨by rfl, ?_⟩) ?_ ?_
            rotate_left
            · intro w'
              go_simp
              with_reducible rfl
            rotate_left
            · simp only [Act.put, List.setIfInBounds_toArray, List.set_cons_zero, List.set_cons_succ, i64_w, i32_w]
              rfl
            refine pure_ (i := 11) (N := some 44) (v := ?_) (a' := ?_) #[true, true, true, true, true, true, true, true, true, true, true, true, false, false] rfl rfl (any_of HT_.out (by kernel_rfl)) (fun _ _ _ h => h) (Or.inl ⟨by rfl, ?_⟩) ?_ ?_
            rotate_left
            · intro w'
              go_simp
              with_reducible rfl
            rotate_left
            · simp only [Act.put, List.setIfInBounds_toArray, List.set_cons_zero, List.set_cons_succ, i64_w, i32_w]
              rfl
            refine pure_ (i := 12) (N := some 10) (v := ?_) (a' := ?_) #[true, true, true, true, true, true, true, true, true, true, true, true, true, false] rfl rfl (any_of HT_.out (by kernel_rfl)) (fun _ _ _ h => h) (Or.inl ⟨by rfl, ?_⟩) ?_ ?_
            rotate_left
            · intro w'
              go_simp
              with_reducible rfl
            rotate_left
            · simp only [Act.put, List.setIfInBounds_toArray, List.set_cons_zero, List.set_cons_succ, i64_w, i32_w]
              rfl
            refine pure_ (i := 13) (N := some 11) (v := ?_) (a' := ?_) #[true, true, true, true, true, true, true, true, true, true, true, true, true, true] rfl rfl (any_of HT_.out (by kernel_rfl)) (fun _ _ _ h => h) (Or.inl ⟨by rfl, ?_⟩) ?_ ?_
            rotate_left
            · intro w'
              go_simp
              with_reducible rfl
            rotate_left
            · simp only [Act.put, List.setIfInBounds_toArray, List.set_cons_zero, List.set_cons_succ, i64_w, i32_w]
              rfl
            refine done_ (done_of HT_.out (by kernel_rfl)) ?_
            try go_wp2
            go_ret
            exact ⟨by first | rfl | (simp [errW_none, errW_some] <;> rfl) | (simp only [← hji6]; first | rfl | (simp [errW_none, errW_some] <;> rfl)) | (simp [*, errW_none, errW_some] <;> rfl), by repeat (first | (with_reducible first | exact HB.out | apply below_alloc | apply pw_below_drewN | apply below_drew1) | exact HB.out)⟩
        · rw [if_neg c17] at H
          have c17b0 : (t298.toList == t300.toList) = false := beq_eq_false_iff_ne.mpr c17
          have c17b1 : (t298.toList != t300.toList) = true := bne_iff_ne.mpr c17
          obtain rfl := Option.some.inj H
          go_enter Try.func4, Try.ntmps4
          try go_wp2_with (first | ((with_reducible refine gate_callee (f := 11) rfl ?_); refine goesL_ (some 15) rfl rfl Try.func11 (by kernel_rfl) rfl #[.string a0, .string a1, .string a2] rfl (by (try simp only [List.map_toArray, List.map_cons, List.map_nil]); first | done | rfl | (simp only [List.length_drop, List.length_take]; rfl)) ?_; (with_reducible refine (samphirelaw07_light.calls a0 a1 a2 true _ A4.out).mono ?_); rintro e w' ⟨rfl, ⟨nd, rfl⟩⟩; refine ⟨_, rfl, ?_⟩))
          have n0_ := Aside0.mk (below_drew1 (pw_below_drewN HB.out nd))
          clear HB
          have HB := n0_
          clear n0_
          refine start_ (n := 14) (S := fun w' => True) (ds := []) #[false, false, false, false, false, false, false, false, false, false, false, false, false, false] (by kernel_rfl) rfl rfl trivial (fun hHeld => ?_); refine with_tabW samphirelaw07_AeadOpens.tab4 samphirelaw07_AeadOpens.bits4 (fun HT_ HW_ => ?_)
          generalize (w.drewN nd).drew = w29 at HB hHeld ⊢
          refine pure_ (i := 0) (N := some 22) (v := ?_) (a' := ?_) #[true, false, false, false, false, false, false, false, false, false, false, false, false, false] rfl rfl (any_of HT_.out (by kernel_rfl)) (fun _ _ _ h => h) (Or.inl ⟨by rfl, ?_⟩) ?_ ?_
          rotate_left
          · intro w'
            go_simp
            with_reducible rfl
          rotate_left
          · simp only [Act.put, List.setIfInBounds_toArray, List.set_cons_zero, List.set_cons_succ, i64_w, i32_w]
            rfl
          refine pure_ (i := 1) (N := some 23) (v := ?_) (a' := ?_) #[true, true, false, false, false, false, false, false, false, false, false, false, false, false] rfl rfl (any_of HT_.out (by kernel_rfl)) (fun _ _ _ h => h) (Or.inl ⟨by rfl, ?_⟩) ?_ ?_
          rotate_left
          · intro w'
            go_simp
            with_reducible rfl
          rotate_left
          · simp only [Act.put, List.setIfInBounds_toArray, List.set_cons_zero, List.set_cons_succ, i64_w, i32_w]
            rfl
          refine pure_ (i := 2) (N := some 24) (v := ?_) (a' := ?_) #[true, true, true, false, false, false, false, false, false, false, false, false, false, false] rfl rfl (any_of HT_.out (by kernel_rfl)) (fun _ _ _ h => h) (Or.inl ⟨by rfl, ?_⟩) ?_ ?_
          rotate_left
          · intro w'
            go_simp
            with_reducible rfl
          rotate_left
          · simp only [Act.put, List.setIfInBounds_toArray, List.set_cons_zero, List.set_cons_succ, i64_w, i32_w]
            rfl
          refine pure_ (i := 3) (N := some 25) (v := ?_) (a' := ?_) #[true, true, true, true, false, false, false, false, false, false, false, false, false, false] rfl rfl (any_of HT_.out (by kernel_rfl)) (fun _ _ _ h => h) (Or.inl ⟨by rfl, ?_⟩) ?_ ?_
          rotate_left
          · intro w'
            go_simp
            with_reducible rfl
          rotate_left
          · simp only [Act.put, List.setIfInBounds_toArray, List.set_cons_zero, List.set_cons_succ, i64_w, i32_w]
            rfl
          refine pure_ (i := 4) (N := some 26) (v := ?_) (a' := ?_) #[true, true, true, true, true, false, false, false, false, false, false, false, false, false] rfl rfl (any_of HT_.out (by kernel_rfl)) (fun _ _ _ h => h) (Or.inl ⟨by rfl, ?_⟩) ?_ ?_
          rotate_left
          · intro w'
            go_simp
            with_reducible rfl
          rotate_left
          · simp only [Act.put, List.setIfInBounds_toArray, List.set_cons_zero, List.set_cons_succ, i64_w, i32_w]
            rfl
          refine pure_ (i := 5) (N := some 27) (v := ?_) (a' := ?_) #[true, true, true, true, true, true, false, false, false, false, false, false, false, false] rfl rfl (any_of HT_.out (by kernel_rfl)) (fun _ _ _ h => h) (Or.inl ⟨by rfl, ?_⟩) ?_ ?_
          rotate_left
          · intro w'
            go_simp
            with_reducible rfl
          rotate_left
          · simp only [Act.put, List.setIfInBounds_toArray, List.set_cons_zero, List.set_cons_succ, i64_w, i32_w]
            rfl
          refine pure_ (i := 6) (N := some 28) (v := ?_) (a' := ?_) #[true, true, true, true, true, true, true, false, false, false, false, false, false, false] rfl rfl (any_of HT_.out (by kernel_rfl)) (fun _ _ _ h => h) (Or.inl ⟨by rfl, ?_⟩) ?_ ?_
          rotate_left
          · intro w'
            go_simp
            with_reducible rfl
          rotate_left
          · simp only [Act.put, List.setIfInBounds_toArray, List.set_cons_zero, List.set_cons_succ, i64_w, i32_w]
            rfl
          refine pure_ (i := 7) (N := some 29) (v := ?_) (a' := ?_) #[true, true, true, true, true, true, true, true, false, false, false, false, false, false] rfl rfl (any_of HT_.out (by kernel_rfl)) (fun _ _ _ h => h) (Or.inl ⟨by rfl, ?_⟩) ?_ ?_
          rotate_left
          · intro w'
            go_simp
            with_reducible rfl
          rotate_left
          · simp only [Act.put, List.setIfInBounds_toArray, List.set_cons_zero, List.set_cons_succ, i64_w, i32_w]
            rfl
          refine one_ (i := 8) (N := some 30) #[true, true, true, true, true, true, true, true, true, false, false, false, false, false] rfl rfl (one_of HT_.out (by kernel_rfl)) (by decide) (fun K hK => ?_)
          refine goes_ Try.func15 (by kernel_rfl) rfl #[.string (a0.extract 0 ((ji6) : Int).toNat), .string (a0.extract ((ji6) : Int).toNat a0.size), .string a1, .string a2] (by rfl) rfl rfl (by (try simp only [List.map_toArray, List.map_cons, List.map_nil]); first | done | (simp only [hji6]; rfl) | rfl | (simp only [List.length_drop, List.length_take]; rfl)) ?_
          with_reducible refine (aead_Open.calls (a0.extract 0 ((ji6) : Int).toNat) (a0.extract ((ji6) : Int).toNat a0.size) a1 a2 t298 t299 _ A11.out).mono ?_
          rintro e w30 ⟨rfl, hb⟩
          refine ⟨_, rfl, ?_⟩
          have n0_ := Aside0.mk (below_step (by repeat (first | (with_reducible first | exact HB.out | apply below_alloc | apply pw_below_drewN | apply below_drew1) | exact HB.out)) hb)
          clear HB
          have HB := n0_
          clear n0_
          (try clear hb)
          (try clear hb2)
          (try clear hk)
          (try clear hi)
          refine hK.out _ _ trivial (fun hHeld => ?_)
          clear hK K
          refine norm_ (a' := ?_) ?_ ?_
          rotate_left
          · show Act.put _ (some 30) _ = _
            simp only [Act.put, List.setIfInBounds_toArray, List.set_cons_zero, List.set_cons_succ, i64_w, i32_w]
            rfl
          refine pure_ (i := 9) (N := some 21) (v := ?_) (a' := ?_) #[true, true, true, true, true, true, true, true, true, true, false, false, false, false] rfl rfl (any_of HT_.out (by kernel_rfl)) (fun _ _ _ h => h) (Or.inl ⟨by rfl, ?_⟩) ?_ ?_
          rotate_left
          · intro w'
            go_simp
            with_reducible rfl
          rotate_left
          · simp only [Act.put, List.setIfInBounds_toArray, List.set_cons_zero, List.set_cons_succ, i64_w, i32_w]
            rfl
          refine pure_ (i := 10) (N := some 31) (v := ?_) (a' := ?_) #[true, true, true, true, true, true, true, true, true, true, true, false, false, false] rfl rfl (any_of HT_.out (by kernel_rfl)) (fun _ _ _ h => h) (Or.inl ⟨by rfl, ?_⟩) ?_ ?_
          rotate_left
          · intro w'
            go_simp
            with_reducible rfl
          rotate_left
          · simp only [Act.put, List.setIfInBounds_toArray, List.set_cons_zero, List.set_cons_succ, i64_w, i32_w]
            rfl
          refine pure_ (i := 11) (N := some 32) (v := ?_) (a' := ?_) #[true, true, true, true, true, true, true, true, true, true, true, true, false, false] rfl rfl (any_of HT_.out (by kernel_rfl)) (fun _ _ _ h => h) (Or.inl ⟨by rfl, ?_⟩) ?_ ?_
          rotate_left
          · intro w'
            go_simp
            with_reducible rfl
          rotate_left
          · simp only [Act.put, List.setIfInBounds_toArray, List.set_cons_zero, List.set_cons_succ, i64_w, i32_w]
            rfl
          refine pure_ (i := 12) (N := some 8) (v := ?_) (a' := ?_) #[true, true, true, true, true, true, true, true, true, true, true, true, true, false] rfl rfl (any_of HT_.out (by kernel_rfl)) (fun _ _ _ h => h) (Or.inl ⟨by rfl, ?_⟩) ?_ ?_
          rotate_left
          · intro w'
            go_simp
            with_reducible rfl
          rotate_left
          · simp only [Act.put, List.setIfInBounds_toArray, List.set_cons_zero, List.set_cons_succ, i64_w, i32_w]
            rfl
          refine pure_ (i := 13) (N := some 9) (v := ?_) (a' := ?_) #[true, true, true, true, true, true, true, true, true, true, true, true, true, true] rfl rfl (any_of HT_.out (by kernel_rfl)) (fun _ _ _ h => h) (Or.inl ⟨by rfl, ?_⟩) ?_ ?_
          rotate_left
          · intro w'
            go_simp
            with_reducible rfl
          rotate_left
          · simp only [Act.put, List.setIfInBounds_toArray, List.set_cons_zero, List.set_cons_succ, i64_w, i32_w]
            rfl
          refine done_ (done_of HT_.out (by kernel_rfl)) ?_
          try go_wp2
          have n0_ := Aside0.mk (below_drew1 HB.out)
          clear HB
          have HB := n0_
          clear n0_
          refine start_ (n := 14) (S := fun w' => True) (ds := []) #[false, false, false, false, false, false, false, false, false, false, false, false, false, false] (by kernel_rfl) rfl rfl trivial (fun hHeld => ?_); refine with_tabW samphirelaw07_AeadOpens.tab5 samphirelaw07_AeadOpens.bits5 (fun HT_ HW_ => ?_)
          generalize w30.drew = w31 at HB hHeld ⊢
          refine pure_ (i := 0) (N := some 34) (v := ?_) (a' := ?_) #[true, false, false, false, false, false, false, false, false, false, false, false, false, false] rfl rfl (any_of HT_.out (by kernel_rfl)) (fun _ _ _ h => h) (Or.inl ⟨by rfl, ?_⟩) ?_ ?_
          rotate_left
          · intro w'
            go_simp
            with_reducible rfl
          rotate_left
          · simp only [Act.put, List.setIfInBounds_toArray, List.set_cons_zero, List.set_cons_succ, i64_w, i32_w]
            rfl
          refine pure_ (i := 1) (N := some 35) (v := ?_) (a' := ?_) #[true, true, false, false, false, false, false, false, false, false, false, false, false, false] rfl rfl (any_of HT_.out (by kernel_rfl)) (fun _ _ _ h => h) (Or.inl ⟨by rfl, ?_⟩) ?_ ?_
          rotate_left
          · intro w'
            go_simp
            with_reducible rfl
          rotate_left
          · simp only [Act.put, List.setIfInBounds_toArray, List.set_cons_zero, List.set_cons_succ, i64_w, i32_w]
            rfl
          refine pure_ (i := 2) (N := some 36) (v := ?_) (a' := ?_) #[true, true, true, false, false, false, false, false, false, false, false, false, false, false] rfl rfl (any_of HT_.out (by kernel_rfl)) (fun _ _ _ h => h) (Or.inl ⟨by rfl, ?_⟩) ?_ ?_
          rotate_left
          · intro w'
            go_simp
            with_reducible rfl
          rotate_left
          · simp only [Act.put, List.setIfInBounds_toArray, List.set_cons_zero, List.set_cons_succ, i64_w, i32_w]
            rfl
          refine pure_ (i := 3) (N := some 37) (v := ?_) (a' := ?_) #[true, true, true, true, false, false, false, false, false, false, false, false, false, false] rfl rfl (any_of HT_.out (by kernel_rfl)) (fun _ _ _ h => h) (Or.inl ⟨by rfl, ?_⟩) ?_ ?_
          rotate_left
          · intro w'
            go_simp
            with_reducible rfl
          rotate_left
          · simp only [Act.put, List.setIfInBounds_toArray, List.set_cons_zero, List.set_cons_succ, i64_w, i32_w]
            rfl
          refine pure_ (i := 4) (N := some 38) (v := ?_) (a' := ?_) #[true, true, true, true, true, false, false, false, false, false, false, false, false, false] rfl rfl (any_of HT_.out (by kernel_rfl)) (fun _ _ _ h => h) (Or.inl ⟨by rfl, ?_⟩) ?_ ?_
          rotate_left
          · intro w'
            go_simp
            with_reducible rfl
          rotate_left
          · simp only [Act.put, List.setIfInBounds_toArray, List.set_cons_zero, List.set_cons_succ, i64_w, i32_w]
            rfl
          refine pure_ (i := 5) (N := some 39) (v := ?_) (a' := ?_) #[true, true, true, true, true, true, false, false, false, false, false, false, false, false] rfl rfl (any_of HT_.out (by kernel_rfl)) (fun _ _ _ h => h) (Or.inl ⟨by rfl, ?_⟩) ?_ ?_
          rotate_left
          · intro w'
            go_simp
            with_reducible rfl
          rotate_left
          · simp only [Act.put, List.setIfInBounds_toArray, List.set_cons_zero, List.set_cons_succ, i64_w, i32_w]
            rfl
          refine pure_ (i := 6) (N := some 40) (v := ?_) (a' := ?_) #[true, true, true, true, true, true, true, false, false, false, false, false, false, false] rfl rfl (any_of HT_.out (by kernel_rfl)) (fun _ _ _ h => h) (Or.inl ⟨by rfl, ?_⟩) ?_ ?_
          rotate_left
          · intro w'
            go_simp
            with_reducible rfl
          rotate_left
          · simp only [Act.put, List.setIfInBounds_toArray, List.set_cons_zero, List.set_cons_succ, i64_w, i32_w]
            rfl
          refine pure_ (i := 7) (N := some 41) (v := ?_) (a' := ?_) #[true, true, true, true, true, true, true, true, false, false, false, false, false, false] rfl rfl (any_of HT_.out (by kernel_rfl)) (fun _ _ _ h => h) (Or.inl ⟨by rfl, ?_⟩) ?_ ?_
          rotate_left
          · intro w'
            go_simp
            with_reducible rfl
          rotate_left
          · simp only [Act.put, List.setIfInBounds_toArray, List.set_cons_zero, List.set_cons_succ, i64_w, i32_w]
            rfl
          refine one_ (i := 8) (N := some 42) #[true, true, true, true, true, true, true, true, true, false, false, false, false, false] rfl rfl (one_of HT_.out (by kernel_rfl)) (by decide) (fun K hK => ?_)
          refine goes_ Try.func16 (by kernel_rfl) rfl #[.string (a0.extract 0 ((ji6) : Int).toNat), .string (a0.extract ((ji6) : Int).toNat a0.size), .string a1, .string a2] (by rfl) rfl rfl (by (try simp only [List.map_toArray, List.map_cons, List.map_nil]); first | done | (simp only [hji6]; rfl) | rfl | (simp only [List.length_drop, List.length_take]; rfl)) ?_
          with_reducible refine (samphireref07_Open.calls k (a0.extract 0 ((ji6) : Int).toNat) (a0.extract ((ji6) : Int).toNat a0.size) a1 a2 t300 t301 _ A16.out).mono ?_
          rintro e w32 ⟨rfl, hb⟩
          refine ⟨_, rfl, ?_⟩
          have n0_ := Aside0.mk (below_step (by repeat (first | (with_reducible first | exact HB.out | apply below_alloc | apply pw_below_drewN | apply below_drew1) | exact HB.out)) hb)
          clear HB
          have HB := n0_
          clear n0_
          (try clear hb)
          (try clear hb2)
          (try clear hk)
          (try clear hi)
          refine hK.out _ _ trivial (fun hHeld => ?_)
          clear hK K
          refine norm_ (a' := ?_) ?_ ?_
          rotate_left
          · show Act.put _ (some 42) _ = _
            simp only [Act.put, List.setIfInBounds_toArray, List.set_cons_zero, List.set_cons_succ, i64_w, i32_w]
            rfl
          refine pure_ (i := 9) (N := some 33) (v := ?_) (a' := ?_) #[true, true, true, true, true, true, true, true, true, true, false, false, false, false] rfl rfl (any_of HT_.out (by kernel_rfl)) (fun _ _ _ h => h) (Or.inl ⟨by rfl, ?_⟩) ?_ ?_
          rotate_left
          · intro w'
            go_simp
            with_reducible rfl
          rotate_left
          · simp only [Act.put, List.setIfInBounds_toArray, List.set_cons_zero, List.set_cons_succ, i64_w, i32_w]
            rfl
          refine pure_ (i := 10) (N := some 43) (v := ?_) (a' := ?_) #[true, true, true, true, true, true, true, true, true, true, true, false, false, false] rfl rfl (any_of HT_.out (by kernel_rfl)) (fun _ _ _ h => h) (Or.inl ⟨by rfl, ?_⟩) ?_ ?_
          rotate_left
          · intro w'
            go_simp
            with_reducible rfl
          rotate_left
          · simp only [Act.put, List.setIfInBounds_toArray, List.set_cons_zero, List.set_cons_succ, i64_w, i32_w]
            rfl
          refine pure_ (i := 11) (N := some 44) (v := ?_) (a' := ?_) #[true, true, true, true, true, true, true, true, true, true, true, true, false, false] rfl rfl (any_of HT_.out (by kernel_rfl)) (fun _ _ _ h => h) (Or.inl ⟨by rfl, ?_⟩) ?_ ?_
          rotate_left
          · intro w'
            go_simp
            with_reducible rfl
          rotate_left
          · simp only [Act.put, List.setIfInBounds_toArray, List.set_cons_zero, List.set_cons_succ, i64_w, i32_w]
            rfl
          refine pure_ (i := 12) (N := some 10) (v := ?_) (a' := ?_) #[true, true, true, true, true, true, true, true, true, true, true, true, true, false] rfl rfl (any_of HT_.out (by kernel_rfl)) (fun _ _ _ h => h) (Or.inl ⟨by rfl, ?_⟩) ?_ ?_
          rotate_left
          · intro w'
            go_simp
            with_reducible rfl
          rotate_left
          · simp only [Act.put, List.setIfInBounds_toArray, List.set_cons_zero, List.set_cons_succ, i64_w, i32_w]
            rfl
          refine pure_ (i := 13) (N := some 11) (v := ?_) (a' := ?_) #[true, true, true, true, true, true, true, true, true, true, true, true, true, true] rfl rfl (any_of HT_.out (by kernel_rfl)) (fun _ _ _ h => h) (Or.inl ⟨by rfl, ?_⟩) ?_ ?_
          rotate_left
          · intro w'
            go_simp
            with_reducible rfl
          rotate_left
          · simp only [Act.put, List.setIfInBounds_toArray, List.set_cons_zero, List.set_cons_succ, i64_w, i32_w]
            rfl
          refine done_ (done_of HT_.out (by kernel_rfl)) ?_
          try go_wp2
          go_ret
          exact ⟨by first | rfl | (simp [errW_none, errW_some] <;> rfl) | (simp only [← hji6]; first | rfl | (simp [errW_none, errW_some] <;> rfl)) | (simp [*, errW_none, errW_some] <;> rfl), by repeat (first | (with_reducible first | exact HB.out | apply below_alloc | apply pw_below_drewN | apply below_drew1) | exact HB.out)⟩
      · rw [if_neg c8] at H
        exact absurd H (by simp)
    · rw [if_neg c7] at H
      exact absurd H (by simp)
  · replace c5 := Bool.eq_false_iff.mpr c5
    subst c5
    have H1 : ((samphirelaw07_awake.f).bind fun t303 => (some t303)) = some r := by rw [if_neg (show ¬ (false = true) by decide)] at H; exact H
    clear H
    have H := H1
    clear H1
    replace H := Option.bind_eq_some_iff.mp H
    obtain ⟨t303, A330, H⟩ := H
    replace H : (some t303) = some r := H
    have A33 := Aside0.mk A330
    clear A330
    obtain rfl := Option.some.inj H
    go_enter Try.func4, Try.ntmps4
    go_wp2_with (first | ((with_reducible refine gate_callee (f := 11) rfl ?_); refine goesL_ (some 15) rfl rfl Try.func11 (by kernel_rfl) rfl #[.string a0, .string a1, .string a2] rfl (by (try simp only [List.map_toArray, List.map_cons, List.map_nil]); first | done | rfl | (simp only [List.length_drop, List.length_take]; rfl)) ?_; (with_reducible refine (samphirelaw07_light.calls a0 a1 a2 false _ A4.out).mono ?_); rintro e w' ⟨rfl, ⟨nd, rfl⟩⟩; refine ⟨_, rfl, ?_⟩) | ((with_reducible refine gate_callee (f := 12) rfl ?_); refine goesL_ (some 17) rfl rfl Try.func12 (by kernel_rfl) rfl #[] rfl (by (try simp only [List.map_toArray, List.map_cons, List.map_nil]); first | done | rfl | (simp only [List.length_drop, List.length_take]; rfl)) ?_; (with_reducible refine (samphirelaw07_awake.calls  t303 _ A33.out).mono ?_); rintro e w34 ⟨rfl, hb⟩; refine ⟨_, rfl, ?_⟩; have n0_ := Aside0.mk (below_step (by repeat (first | (with_reducible first | exact HB.out | apply below_alloc | apply pw_below_drewN | apply below_drew1) | exact HB.out)) hb); clear HB; have HB := n0_; clear n0_; (try clear hb); (try clear hb2); (try clear hk); (try clear hi)))
    go_ret
    exact ⟨by first | rfl | (simp [errW_none, errW_some] <;> rfl) | (simp [*, errW_none, errW_some] <;> rfl), by repeat (first | (with_reducible first | exact HB.out | apply below_alloc | apply pw_below_drewN | apply below_drew1) | exact HB.out)⟩
def samphirelaw07_AeadOpens.Pure : Prop := ∀ (a0 : ByteArray) (a1 : ByteArray) (a2 : ByteArray), a0.size ≤ 140737488351232 → a1.size ≤ 140737488351232 → a2.size ≤ 140737488351232 → ∃ k, samphirelaw07_AeadOpens.f k a0 a1 a2 = some true
theorem samphirelaw07_AeadOpens.walk (P : samphirelaw07_AeadOpens.Pure) (a0 : ByteArray) (a1 : ByteArray) (a2 : ByteArray) (w : World) (w0 : a0.size ≤ 140737488351232) (w1 : a1.size ≤ 140737488351232) (w2 : a2.size ≤ 140737488351232) :
    Calls Try.prog 4 #[.string a0, .string a1, .string a2] w fun e w' => e = .returned (.bool true) ∧ Below w.heap.size w w' := by
  obtain ⟨k, h⟩ := P a0 a1 a2 w0 w1 w2
  refine (samphirelaw07_AeadOpens.calls k a0 a1 a2 true w h).mono ?_
  rintro e w' ⟨rfl, hd⟩
  exact ⟨rfl, hd⟩
end Go.Proofs.Ytmablneefndedaa.Pr
end

section
namespace Go.Proofs.Ytmablneefndedaa.Pr
open Go.RowKit Go.Proofs.YtmablneefndedaaW.PrintWords Go.Proofs.YtmablneefndedaaW.PrintLast
set_option maxHeartbeats 1000000
set_option linter.unusedVariables false
set_option linter.unusedSimpArgs false
def fil (p : Nat → Nat) (i n : Nat) : List Nat := mapAt (upto (fun j _ => p j) i) (List.replicate n 0)
theorem fil_length (p : Nat → Nat) (i n : Nat) : (fil p i n).length = n := by rw [fil, mapAt_length, List.length_replicate]
theorem fil_zero (p : Nat → Nat) (n : Nat) : fil p 0 n = List.replicate n 0 := upto_zero _ _
theorem fil_set (p : Nat → Nat) (i n v : Nat) (hv : p i = v) : (fil p i n).set i v = fil p (i + 1) n := upto_set _ _ _ _ hv
theorem zeros_get (n i : Nat) : (List.replicate n 0).getD i 0 = 0 := by
  rw [List.getD_eq_getElem?_getD, List.getElem?_replicate]; split <;> rfl
theorem fil_get (p : Nat → Nat) (i n : Nat) : (fil p i n).getD i 0 = 0 := by
  by_cases h : i < n
  · rw [List.getD_eq_getElem?_getD, fil, upto_get _ _ _ (by rw [List.length_replicate]; exact h), zeros_get]; rfl
  · rw [List.getD_eq_getElem?_getD, List.getElem?_eq_none (by rw [fil_length]; omega)]; rfl
theorem fil_skip (p : Nat → Nat) (i k n : Nat) (hk : i ≤ k) (h : ∀ j, i ≤ j → j < k → p j = 0) : fil p i n = fil p k n :=
  upto_skip _ _ _ _ hk (fun j h1 h2 => by rw [zeros_get]; exact h j h1 h2)
theorem fil_all (p : Nat → Nat) (n : Nat) : fil p n n = (List.range n).map p := by
  rw [fil, upto_all _ _ _ (by rw [List.length_replicate]; exact Nat.le_refl _), mapAt, List.length_replicate]
theorem dv_map_succ (p : Nat → Nat) (n : Nat) : dv ((List.range (n + 1)).map p) = dv ((List.range n).map p) + 256 ^ n * p n := by
  rw [List.range_succ, List.map_append, dv_append, List.length_map, List.length_range]
  simp [dv]
theorem dv_map_add (a b : Nat → Nat) (n : Nat) : dv ((List.range n).map fun i => a i + b i) = dv ((List.range n).map a) + dv ((List.range n).map b) := by
  induction n with
  | zero => rfl
  | succ n ih => rw [dv_map_succ, dv_map_succ, dv_map_succ, ih]; grind
theorem dv_map_get (l : List Nat) (n : Nat) : dv ((List.range n).map fun i => l.getD i 0) = dv (l.take n) := by
  induction n with
  | zero => rfl
  | succ n ih => rw [dv_map_succ, ih, dv_take_succ]
theorem dv_take_mod (l : List Nat) (n : Nat) : dv (l.take n) % 256 ^ n = dv l % 256 ^ n := by
  by_cases h : n ≤ l.length
  · have := dv_append (l.take n) (l.drop n)
    rw [List.take_append_drop, List.length_take, Nat.min_eq_left h] at this
    rw [this, Nat.add_mul_mod_self_left]
  · rw [List.take_of_length_le (by omega)]
theorem dig_mod (V n : Nat) : dig (V % 256 ^ n) n = dig V n := by
  unfold dig
  apply List.map_congr_left
  intro k hk
  rw [List.mem_range] at hk
  obtain ⟨d, rfl⟩ : ∃ d, n = k + 1 + d := ⟨n - (k + 1), by omega⟩
  rw [Nat.pow_add, Nat.mod_mul, Nat.pow_succ]
  have h1 : V % (256 ^ k * 256) / 256 ^ k = V / 256 ^ k % 256 := by rw [Nat.mod_mul, Nat.add_mul_div_left _ _ (Nat.pow_pos (by decide)), Nat.div_eq_of_lt (Nat.mod_lt _ (Nat.pow_pos (by decide))), Nat.zero_add]
  rw [Nat.mul_assoc, Nat.add_mul_div_left _ _ (Nat.pow_pos (by decide)), h1, Nat.add_mul_mod_self_left, Nat.mod_mod]
theorem dig_congr {V W n : Nat} (h : V % 256 ^ n = W % 256 ^ n) : dig V n = dig W n := by rw [← dig_mod V, h, dig_mod]
def cyD (l : List Nat) (i : Nat) : Nat := dv (l.take i) / 256 ^ i
theorem cyD_succ (l : List Nat) (i : Nat) : cyD l (i + 1) = (cyD l i + l.getD i 0) / 256 := by
  unfold cyD
  rw [dv_take_succ, Nat.pow_succ, ← Nat.div_div_eq_div_mul, Nat.add_mul_div_left _ _ (Nat.pow_pos (by decide))]
theorem cyD_lt (l : List Nat) (B : Nat) (h : ∀ i, l.getD i 0 ≤ B) : ∀ i, cyD l i ≤ B
  | 0 => by simp [cyD, dv]
  | i + 1 => by
    have := cyD_lt l B h i
    have := h i
    rw [cyD_succ]; omega
theorem ints_zeros (n : Nat) : (List.replicate n 0 : List Int) = ints (List.replicate n 0) := by simp [ints]
theorem carried_l0 (l : List Nat) (n : Nat) (hl : ∀ i, l.getD i 0 ≤ 1000000000000) (hn : n ≤ 1000000) (hs : l.length ≤ 1000000) : ∀ d k i, i + d = n → d < k →
    samphireref06_carried.l0 k (ints l) (n : Int) (ints (fil (fun j => dv l / 256 ^ j % 256) i n)) (cyD l i : Int) (i : Int) = some (ints (dig (dv l) n)) := by
  intro d
  induction d with
  | zero =>
    intro k i hi hk
    obtain ⟨k, rfl⟩ : ∃ m, k = m + 1 := ⟨k - 1, by omega⟩
    obtain rfl : i = n := by omega
    simp only [samphireref06_carried.l0]
    rw [if_neg (by omega), fil_all]; rfl
  | succ d ih =>
    intro k i hi hk
    obtain ⟨k, rfl⟩ : ∃ m, k = m + 1 := ⟨k - 1, by omega⟩
    simp only [samphireref06_carried.l0, ints_length, fil_length]
    have h := ih k (i + 1) (by omega) (by omega)
    have hc := cyD_lt l 1000000000000 hl i
    have hx := hl i
    rw [← fil_set _ i n _ rfl, take_digit, cyD_succ, ← ints_set] at h
    have hi1 : wrap64 ((i : Int) + 1) = ((i + 1 : Nat) : Int) := by rw [wr _ (by omega) (by omega)]; omega
    have hif : ∀ (x : Nat), x ≤ 2000000000000 → bits .and .i64 (x : Int) 255 = ((x % 256 : Nat) : Int) := fun x hx => and255 x (by omega)
    unfold cyD at *
    rw [if_pos (by omega), rd_ints]
    generalize dv (l.take i) / 256 ^ i = c at *
    by_cases hil : i < l.length
    · rw [if_pos (by omega), if_pos (by omega), if_pos (by omega), wr ((c : Int) + _) (by omega) (by omega), hi1, Int.toNat_natCast]
      rw [← Int.natCast_add, hif _ (by omega)]
      exact h
    · have hz : l.getD i 0 = 0 := by rw [List.getD_eq_getElem?_getD, List.getElem?_eq_none (by omega)]; rfl
      rw [if_neg (by omega), if_pos (by omega), if_pos (by omega), hi1, Int.toNat_natCast, hif _ (by omega)]
      rw [hz, Nat.add_zero] at h
      exact h
theorem carried_f (l : List Nat) (n : Nat) (hl : ∀ i, l.getD i 0 ≤ 1000000000000) (hn : n ≤ 1000000) (hs : l.length ≤ 1000000) (k : Nat) (hk : n < k) : samphireref06_carried.f k (ints l) (n : Int) = some (ints (dig (dv l) n)) := by
  unfold samphireref06_carried.f
  rw [if_pos (by omega), if_pos (by omega), Int.toNat_natCast, ints_zeros, ← fil_zero (fun j => dv l / 256 ^ j % 256)]
  have e : cyD l 0 = 0 := by simp [cyD, dv]
  have h := carried_l0 l n hl hn hs n k 0 (by omega) hk
  rw [e] at h
  exact h
theorem digits_l0 (s : ByteArray) (hs : s.size ≤ 1000000) : ∀ d k i, i + d = s.size → d < k →
    samphireref06_digits.l0 k s (ints ((bys s).take i)) (i : Int) = some (ints (bys s)) := by
  intro d
  induction d with
  | zero =>
    intro k i hi hk
    obtain ⟨k, rfl⟩ : ∃ m, k = m + 1 := ⟨k - 1, by omega⟩
    simp only [samphireref06_digits.l0]
    rw [if_neg (by omega), List.take_of_length_le (by rw [bys_length]; omega)]
  | succ d ih =>
    intro k i hi hk
    obtain ⟨k, rfl⟩ : ∃ m, k = m + 1 := ⟨k - 1, by omega⟩
    simp only [samphireref06_digits.l0]
    have h := ih k (i + 1) (by omega) (by omega)
    have hb := bys_lt s i
    rw [if_pos (by omega), if_pos (by omega), if_pos (by rw [ints_length, List.length_take]; omega), bt_nat s i (by omega), wr (((bys s).getD i 0 : Nat) : Int) (by omega) (by omega), wr ((i : Int) + 1) (by omega) (by omega)]
    have e : ints ((bys s).take i) ++ [(((bys s).getD i 0 : Nat) : Int)] = ints ((bys s).take (i + 1)) := by
      rw [List.take_succ_eq_append_getElem (by rw [bys_length]; omega), ints_append, List.getD_eq_getElem?_getD, List.getElem?_eq_getElem (by rw [bys_length]; omega)]; rfl
    rw [e]
    exact h
theorem digits_f (s : ByteArray) (hs : s.size ≤ 1000000) (k : Nat) (hk : s.size < k) : samphireref06_digits.f k s = some (ints (bys s)) :=
  digits_l0 s hs s.size k 0 (by omega) hk
theorem zero_l0 (l : List Nat) (hs : l.length ≤ 1000000) : ∀ d k i, i + d = l.length → d < k →
    samphireref06_zero.l0 k (ints l) (i : Int) = some (decide (dv (l.drop i) = 0)) := by
  intro d
  induction d with
  | zero =>
    intro k i hi hk
    obtain ⟨k, rfl⟩ : ∃ m, k = m + 1 := ⟨k - 1, by omega⟩
    simp only [samphireref06_zero.l0, ints_length]
    rw [if_neg (by omega), List.drop_eq_nil_of_le (by omega)]; rfl
  | succ d ih =>
    intro k i hi hk
    obtain ⟨k, rfl⟩ : ∃ m, k = m + 1 := ⟨k - 1, by omega⟩
    simp only [samphireref06_zero.l0, ints_length]
    have h := ih k (i + 1) (by omega) (by omega)
    rw [if_pos (by omega), if_pos (by omega), rd_ints, wr ((i : Int) + 1) (by omega) (by omega)]
    have e : dv (l.drop i) = l.getD i 0 + 256 * dv (l.drop (i + 1)) := by
      rw [List.drop_eq_getElem_cons (by omega), dv, List.getD_eq_getElem?_getD, List.getElem?_eq_getElem (by omega)]; rfl
    rw [e]
    by_cases hz : l.getD i 0 = 0
    · rw [if_pos (by omega), hz]
      refine h.trans ?_
      congr 1
      rw [decide_eq_decide]; omega
    · rw [if_neg (by omega), decide_eq_false (by omega)]
theorem zero_f (l : List Nat) (hs : l.length ≤ 1000000) (k : Nat) (hk : l.length < k) : samphireref06_zero.f k (ints l) = some (decide (dv l = 0)) :=
  zero_l0 l hs l.length k 0 (by omega) hk
theorem add_l0 (a b : List Nat) (n : Nat) (ha : ∀ i, a.getD i 0 ≤ 1000000) (hb : ∀ i, b.getD i 0 ≤ 1000000) (hn : n ≤ 1000000) (ha' : a.length ≤ 1000000) (hb' : b.length ≤ 1000000) : ∀ d k i, i + d = n → d + n + 1 < k →
    samphireref06_add.l0 k (ints a) (ints b) (n : Int) (ints (fil (fun j => a.getD j 0 + b.getD j 0) i n)) (i : Int) = some (ints (dig (dv a + dv b) n)) := by
  intro d
  induction d with
  | zero =>
    intro k i hi hk
    obtain ⟨k, rfl⟩ : ∃ m, k = m + 1 := ⟨k - 1, by omega⟩
    obtain rfl : i = n := by omega
    simp only [samphireref06_add.l0]
    rw [if_neg (by omega), carried_f _ _ ?_ hn (by rw [fil_length]; omega) k (by omega), Option.bind_some, fil_all]
    · congr 2
      apply dig_congr
      rw [dv_map_add, dv_map_get, dv_map_get, Nat.add_mod, dv_take_mod, dv_take_mod, ← Nat.add_mod]
    · intro j
      rw [fil_all, List.getD_eq_getElem?_getD, List.getElem?_map]
      have := ha j
      have := hb j
      by_cases hj : j < i
      · rw [List.getElem?_range hj]; simp only [Option.map_some, Option.getD_some]; omega
      · rw [List.getElem?_eq_none (by rw [List.length_range]; omega)]; simp
  | succ d ih =>
    intro k i hi hk
    obtain ⟨k, rfl⟩ : ∃ m, k = m + 1 := ⟨k - 1, by omega⟩
    simp only [samphireref06_add.l0, ints_length, fil_length]
    have h := ih k (i + 1) (by omega) (by omega)
    have g := fil_get (fun j => a.getD j 0 + b.getD j 0) i n
    have gs := fil_skip (fun j => a.getD j 0 + b.getD j 0) i (i + 1) n (by omega)
    have hA := ha i
    have hB := hb i
    rw [if_pos (by omega), rd_ints, rd_ints, rd_ints, g, wr ((i : Int) + 1) (by omega) (by omega), Int.toNat_natCast]
    rw [show ((i : Int) + 1) = ((i + 1 : Nat) : Int) from by omega]
    by_cases h1 : i < a.length
    · rw [if_pos (by omega), if_pos (by omega), if_pos (by omega), wr _ (by omega) (by omega), Option.bind_some]
      rw [show (((0 : Nat) : Int) + (a.getD i 0 : Nat)) = ((a.getD i 0 : Nat) : Int) from by omega, ints_set]
      by_cases h2 : i < b.length
      · rw [if_pos (by omega), rd_ints, List.getD_eq_getElem?_getD (l := List.set _ _ _), List.getElem?_set_self (by rw [fil_length]; omega), Option.getD_some, wr _ (by omega) (by omega), ← Int.natCast_add, ints_set, List.set_set, fil_set _ _ _ _ rfl]
        exact h
      · have hz : b.getD i 0 = 0 := by rw [List.getD_eq_getElem?_getD, List.getElem?_eq_none (by omega)]; rfl
        rw [if_neg (by omega), fil_set _ _ _ _ (by show a.getD i 0 + b.getD i 0 = _; rw [hz, Nat.add_zero])]
        exact h
    · have hz : a.getD i 0 = 0 := by rw [List.getD_eq_getElem?_getD, List.getElem?_eq_none (by omega)]; rfl
      rw [if_neg (by omega)]
      by_cases h2 : i < b.length
      · rw [if_pos (by omega), if_pos (by omega), if_pos (by omega), wr _ (by omega) (by omega)]
        rw [show (((0 : Nat) : Int) + (b.getD i 0 : Nat)) = ((b.getD i 0 : Nat) : Int) from by omega, ints_set, fil_set _ _ _ _ (by show a.getD i 0 + b.getD i 0 = _; rw [hz, Nat.zero_add])]
        exact h
      · have hz' : b.getD i 0 = 0 := by rw [List.getD_eq_getElem?_getD, List.getElem?_eq_none (by omega)]; rfl
        rw [if_neg (by omega), gs (by intro j j1 j2; have e : j = i := (by omega); subst e; show a.getD j 0 + b.getD j 0 = 0; rw [hz, hz'])]
        exact h
theorem add_f (a b : List Nat) (n : Nat) (ha : ∀ i, a.getD i 0 ≤ 1000000) (hb : ∀ i, b.getD i 0 ≤ 1000000) (hn : n ≤ 1000000) (ha' : a.length ≤ 1000000) (hb' : b.length ≤ 1000000) (k : Nat) (hk : 2 * n + 1 < k) :
    samphireref06_add.f k (ints a) (ints b) (n : Int) = some (ints (dig (dv a + dv b) n)) := by
  unfold samphireref06_add.f
  rw [if_pos (by omega), if_pos (by omega), Int.toNat_natCast, ints_zeros, ← fil_zero (fun j => a.getD j 0 + b.getD j 0)]
  exact add_l0 a b n ha hb hn ha' hb' n k 0 (by omega) (by omega)
end Go.Proofs.Ytmablneefndedaa.Pr
end

section
namespace Go.Proofs.Ytmablneefndedaa.Pr
open Go.RowKit Go.Proofs.YtmablneefndedaaW.PrintWords Go.Proofs.YtmablneefndedaaW.PrintLast
set_option maxHeartbeats 1000000
set_option linter.unusedVariables false
set_option linter.unusedSimpArgs false
theorem or64m : ∀ x : Nat, x < 64 → ∀ m : Nat, m < 4 → bits .or .i64 (x : Int) ((64 * m : Nat) : Int) = ((x + 64 * m : Nat) : Int) := by decide +kernel
def hiD (l : List Nat) (j : Nat) : Nat := l.getD (16 + j) 0 / 4 + 64 * (l.getD (17 + j) 0 % 4)
theorem hi_digit (l : List Nat) (h : ∀ i, l.getD i 0 < 256) (j : Nat) : dv l / 1361129467683753853853498429727072845824 / 256 ^ j % 256 = hiD l j := by
  have h1 := dv_digit l h (16 + j)
  have h2 := dv_digit l h (17 + j)
  have e1 : dv l / 1361129467683753853853498429727072845824 / 256 ^ j = dv l / 256 ^ (16 + j) / 4 := by
    rw [Nat.div_div_eq_div_mul, Nat.div_div_eq_div_mul, Nat.pow_add]; congr 1
    generalize 256 ^ j = x
    omega
  have e2 : dv l / 256 ^ (17 + j) = dv l / 256 ^ (16 + j) / 256 := by
    rw [show 17 + j = (16 + j) + 1 from by omega, Nat.pow_succ, Nat.div_div_eq_div_mul]
  rw [e2] at h2
  rw [e1]
  unfold hiD
  rw [← h1, ← h2]
  generalize dv l / 256 ^ (16 + j) = T
  omega
theorem getD_end {l : List Nat} {i : Nat} (h : l.length ≤ i) : l.getD i 0 = 0 := by rw [List.getD_eq_getElem?_getD, List.getElem?_eq_none h]; rfl
theorem getD_set_self {l : List Nat} {i v : Nat} (h : i < l.length) : (l.set i v).getD i 0 = v := by
  rw [List.getD_eq_getElem?_getD, List.getElem?_set_self h]; rfl
theorem high_l0 (l : List Nat) (hl : ∀ i, l.getD i 0 < 256) (h16 : 16 ≤ l.length) (hs : l.length ≤ 1000000) : ∀ d k i, (16 + i) + d = l.length → d < k →
    samphireref06_high.l0 k (ints l) (ints (fil (hiD l) i l.length)) ((16 + i : Nat) : Int) = some (ints (dig (dv l / 1361129467683753853853498429727072845824) l.length)) := by
  intro d
  induction d with
  | zero =>
    intro k i hi hk
    obtain ⟨k, rfl⟩ : ∃ m, k = m + 1 := ⟨k - 1, by omega⟩
    simp only [samphireref06_high.l0, ints_length]
    rw [if_neg (by omega), fil_skip (hiD l) i l.length l.length (by omega) (fun j j1 j2 => by
      unfold hiD; rw [getD_end (by omega), getD_end (by omega)]), fil_all]
    congr 2
    unfold dig
    apply List.map_congr_left
    intro j _
    exact (hi_digit l hl j).symm
  | succ d ih =>
    intro k i hi hk
    obtain ⟨k, rfl⟩ : ∃ m, k = m + 1 := ⟨k - 1, by omega⟩
    simp only [samphireref06_high.l0, ints_length, fil_length]
    have h := ih k (i + 1) (by omega) (by omega)
    rw [← fil_set (hiD l) i _ _ rfl] at h
    unfold hiD at h
    rw [show 16 + (i + 1) = 17 + i from by omega] at h
    have hA := hl (16 + i)
    have hB := hl (17 + i)
    have g := fil_get (hiD l) i l.length
    rw [if_pos (by omega), if_pos (by omega), wr (((16 + i : Nat) : Int) - 16) (by omega) (by omega), wr (((16 + i : Nat) : Int) + 1) (by omega) (by omega)]
    rw [show (((16 + i : Nat) : Int) - 16) = (i : Int) from by omega, show (((16 + i : Nat) : Int) + 1) = ((17 + i : Nat) : Int) from by omega, rd_ints, Int.toNat_natCast]
    rw [if_pos (by omega), if_pos (by omega), Option.bind_some, show (((l.getD (16 + i) 0 : Nat) : Int) / 4) = ((l.getD (16 + i) 0 / 4 : Nat) : Int) from by omega, ints_set]
    by_cases h1 : 17 + i < l.length
    · rw [if_pos (by omega), if_pos (by omega), rd_ints, rd_ints, getD_set_self (by rw [fil_length]; omega), wr _ (by omega) (by omega), show (((l.getD (17 + i) 0 : Nat) : Int) * 64) = ((l.getD (17 + i) 0 * 64 : Nat) : Int) from by omega, and255 _ (by omega)]
      rw [show l.getD (17 + i) 0 * 64 % 256 = 64 * (l.getD (17 + i) 0 % 4) from by omega, or64m _ (by omega) _ (by omega), ints_set, List.set_set]
      exact h
    · have hz := getD_end (l := l) (i := 17 + i) (by omega)
      rw [if_neg (by omega)]
      rw [hz] at h
      exact h
theorem high_f (l : List Nat) (hl : ∀ i, l.getD i 0 < 256) (h16 : 16 ≤ l.length) (hs : l.length ≤ 1000000) (k : Nat) (hk : l.length < k) :
    samphireref06_high.f k (ints l) = some (ints (dig (dv l / 1361129467683753853853498429727072845824) l.length)) := by
  unfold samphireref06_high.f
  rw [ints_length, if_pos (by omega), if_pos (by omega), Int.toNat_natCast, ints_zeros, ← fil_zero (hiD l)]
  exact high_l0 l hl h16 hs (l.length - 16) k 0 (by omega) (by omega)
theorem low_l0 (l : List Nat) (h17 : 17 ≤ l.length) (hl : ∀ i, l.getD i 0 < 256) : ∀ d k i, i + d = 17 → d < k →
    samphireref06_low.l0 k (ints l) (ints (fil (fun j => l.getD j 0) i 17)) (i : Int) = some (ints (dig (dv l % 1361129467683753853853498429727072845824) 17)) := by
  intro d
  induction d with
  | zero =>
    intro k i hi hk
    obtain ⟨k, rfl⟩ : ∃ m, k = m + 1 := ⟨k - 1, by omega⟩
    obtain rfl : i = 17 := by omega
    simp only [samphireref06_low.l0, ints_length, fil_length]
    rw [if_neg (by omega), if_pos (by omega)]
    have e : rd (ints (fil (fun j => l.getD j 0) 17 17)) 16 = ((l.getD 16 0 : Nat) : Int) := by
      rw [show (16 : Int) = ((16 : Nat) : Int) from rfl, rd_ints, fil_all, List.getD_eq_getElem?_getD]; rfl
    have e3 : bits .and .i64 ((l.getD 16 0 : Nat) : Int) 3 = ((l.getD 16 0 % 4 : Nat) : Int) := by
      have hx : ∀ x : Nat, x < 256 → bits .and .i64 (x : Int) 3 = ((x % 4 : Nat) : Int) := by decide +kernel
      exact hx _ (hl 16)
    rw [e, e3, show ((16 : Int).toNat) = 16 from rfl, ints_set]
    congr 2
    have hm : dv l % 1361129467683753853853498429727072845824 = dv (((List.range 16).map fun i => l.getD i 0) ++ [l.getD 16 0 % 4]) := by
      have h1 : dv l % 256 ^ 17 = dv ((List.range 17).map fun i => l.getD i 0) % 256 ^ 17 := by rw [dv_map_get, dv_take_mod]
      rw [dv_map_succ] at h1
      rw [dv_append, List.length_map, List.length_range]
      have h2 : dv ((List.range 16).map fun i => l.getD i 0) < 256 ^ 16 := by
        have := dv_lt ((List.range 16).map fun i => l.getD i 0) (by
          intro j
          rw [List.getD_eq_getElem?_getD, List.getElem?_map]
          have := hl j
          by_cases hj : j < 16
          · rw [List.getElem?_range hj]; simp only [Option.map_some, Option.getD_some]; omega
          · rw [List.getElem?_eq_none (by rw [List.length_range]; omega)]; simp)
        rw [List.length_map, List.length_range] at this
        exact this
      have h3 := hl 16
      generalize dv ((List.range 16).map fun i => l.getD i 0) = A at *
      generalize dv l = V at *
      have e1 : dv [l.getD 16 0 % 4] = l.getD 16 0 % 4 := by simp [dv]
      rw [e1]
      generalize l.getD 16 0 = x at *
      omega
    rw [hm, dig_dv' _ 17 _ rfl]
    · rw [fil_all]; rfl
    · intro j
      match j with
      | 0 | 1 | 2 | 3 | 4 | 5 | 6 | 7 | 8 | 9 | 10 | 11 | 12 | 13 | 14 | 15 => exact hl _
      | 16 => have := hl 16; show l.getD 16 0 % 4 < 256; omega
      | n + 17 => show 0 < 256; omega
  | succ d ih =>
    intro k i hi hk
    obtain ⟨k, rfl⟩ : ∃ m, k = m + 1 := ⟨k - 1, by omega⟩
    simp only [samphireref06_low.l0, ints_length, fil_length]
    have h := ih k (i + 1) (by omega) (by omega)
    rw [← fil_set _ i _ _ rfl] at h
    rw [if_pos (by omega), if_pos (by omega), if_pos (by omega), if_pos (by omega), rd_ints, Int.toNat_natCast, ints_set, wr _ (by omega) (by omega)]
    exact h
theorem low_f (l : List Nat) (h17 : 17 ≤ l.length) (hl : ∀ i, l.getD i 0 < 256) (k : Nat) (hk : 17 < k) :
    samphireref06_low.f k (ints l) = some (ints (dig (dv l % 1361129467683753853853498429727072845824) 17)) := by
  unfold samphireref06_low.f
  rw [if_pos (by omega), show (List.replicate 17 0 : List Int) = ints (fil (fun j => l.getD j 0) 0 17) from by rw [fil_zero]; rfl]
  exact low_l0 l h17 hl 17 k 0 (by omega) (by omega)
end Go.Proofs.Ytmablneefndedaa.Pr
end

section
namespace Go.Proofs.Ytmablneefndedaa.Pr
open Go.RowKit Go.Proofs.YtmablneefndedaaW.PrintWords Go.Proofs.YtmablneefndedaaW.PrintLast
set_option maxHeartbeats 1000000
set_option linter.unusedVariables false
set_option linter.unusedSimpArgs false
theorem dv_set (l : List Nat) (i x : Nat) (h : i < l.length) : dv (l.set i (l.getD i 0 + x)) = dv l + 256 ^ i * x := by
  induction l generalizing i with
  | nil => simp at h
  | cons y l ih =>
    cases i with
    | zero => simp [dv]; omega
    | succ i =>
      have := ih i (by simpa using h)
      simp only [List.set_cons_succ, List.getD_cons_succ, dv, this, Nat.pow_succ]
      grind
theorem getD_set (l : List Nat) (i v m : Nat) : (l.set i v).getD m 0 ≤ max (l.getD m 0) v := by
  rw [List.getD_eq_getElem?_getD, List.getD_eq_getElem?_getD, List.getElem?_set]
  split
  · split
    · simp only [Option.getD_some]; exact Nat.le_max_right _ _
    · simp
  · exact Nat.le_max_left _ _
theorem times_l1 (a b : List Nat) (ha : ∀ i, a.getD i 0 < 256) (hb : ∀ i, b.getD i 0 < 256) (hal : a.length ≤ 50) (hbl : b.length ≤ 50) (i : Nat) (hi : i < a.length) (V E : Nat) (hE : E ≤ 1000000000) : ∀ d k j out, j + d = b.length → d < k → out.length = a.length + b.length + 1 → (∀ m, out.getD m 0 ≤ E + 65025 * j) → dv out = V + 256 ^ i * a.getD i 0 * dv (b.take j) →
    ∃ out', out'.length = a.length + b.length + 1 ∧ (∀ m, out'.getD m 0 ≤ E + 65025 * b.length) ∧ dv out' = V + 256 ^ i * a.getD i 0 * dv b ∧
      samphireref06_times.l1 k (ints a) (ints b) (ints out) (i : Int) (j : Int) = samphireref06_times.l0 (k - (d + 1)) (ints a) (ints b) (ints out') ((i + 1 : Nat) : Int) := by
  intro d
  induction d with
  | zero =>
    intro k j out hj hk ho hm hv
    obtain ⟨k, rfl⟩ : ∃ m, k = m + 1 := ⟨k - 1, by omega⟩
    obtain rfl : j = b.length := by omega
    refine ⟨out, ho, hm, ?_, ?_⟩
    · rw [hv, List.take_of_length_le (Nat.le_refl _)]
    · simp only [samphireref06_times.l1, ints_length]
      rw [if_neg (by omega), wr ((i : Int) + 1) (by omega) (by omega)]
      rfl
  | succ d ih =>
    intro k j out hj hk ho hm hv
    obtain ⟨k, rfl⟩ : ∃ m, k = m + 1 := ⟨k - 1, by omega⟩
    have hA := ha i
    have hB := hb j
    have hp : a.getD i 0 * b.getD j 0 ≤ 65025 := by
      have := Nat.mul_le_mul (show a.getD i 0 ≤ 255 by omega) (show b.getD j 0 ≤ 255 by omega)
      omega
    have hO := hm (i + j)
    obtain ⟨out', h1, h2, h3, h4⟩ := ih k (j + 1) (out.set (i + j) (out.getD (i + j) 0 + a.getD i 0 * b.getD j 0)) (by omega) (by omega) (by rw [List.length_set]; exact ho) (by
      intro m
      have := getD_set out (i + j) (out.getD (i + j) 0 + a.getD i 0 * b.getD j 0) m
      have := hm m
      omega) (by
      rw [dv_set _ _ _ (by omega), hv, dv_take_succ, Nat.pow_add]
      grind)
    refine ⟨out', h1, h2, h3, ?_⟩
    rw [show k + 1 - (d + 1 + 1) = k - (d + 1) from by omega, ← h4]
    simp only [samphireref06_times.l1, ints_length]
    rw [if_pos (by omega), wr ((i : Int) + (j : Int)) (by omega) (by omega), show ((i : Int) + (j : Int)) = ((i + j : Nat) : Int) from by omega, rd_ints, rd_ints, rd_ints, Int.toNat_natCast, wr ((j : Int) + 1) (by omega) (by omega)]
    rw [← Int.natCast_mul, wr ((a.getD i 0 * b.getD j 0 : Nat) : Int) (by omega) (by omega), ← Int.natCast_add, wr ((out.getD (i + j) 0 + a.getD i 0 * b.getD j 0 : Nat) : Int) (by omega) (by omega), ints_set]
    rw [if_pos (by omega), if_pos (by rw [ho]; omega), if_pos (by omega), if_pos (by omega), if_pos (by omega)]
    rfl
theorem times_l0 (a b : List Nat) (ha : ∀ i, a.getD i 0 < 256) (hb : ∀ i, b.getD i 0 < 256) (hal : a.length ≤ 50) (hbl : b.length ≤ 50) : ∀ d k i out, i + d = a.length → 60 * d + 200 ≤ k → out.length = a.length + b.length + 1 → (∀ m, out.getD m 0 ≤ 4000000 * i) → dv out = dv (a.take i) * dv b →
    samphireref06_times.l0 k (ints a) (ints b) (ints out) (i : Int) = some (ints (dig (dv a * dv b) (a.length + b.length + 1))) := by
  intro d
  induction d with
  | zero =>
    intro k i out hi hk ho hm hv
    obtain ⟨k, rfl⟩ : ∃ m, k = m + 1 := ⟨k - 1, by omega⟩
    obtain rfl : i = a.length := by omega
    simp only [samphireref06_times.l0, ints_length]
    rw [if_neg (by omega), carried_f out out.length (fun m => by have := hm m; omega) (by omega) (by omega) k (by omega), hv, List.take_of_length_le (Nat.le_refl _), ho]
    rfl
  | succ d ih =>
    intro k i out hi hk ho hm hv
    obtain ⟨k, rfl⟩ : ∃ m, k = m + 1 := ⟨k - 1, by omega⟩
    obtain ⟨out', h1, h2, h3, h4⟩ := times_l1 a b ha hb hal hbl i (by omega) (dv (a.take i) * dv b) (4000000 * i) (by omega) b.length k 0 out (by omega) (by omega) ho (fun m => by have := hm m; omega) (by rw [hv, List.take_zero]; simp [dv])
    simp only [samphireref06_times.l0, ints_length]
    rw [if_pos (by omega)]
    refine h4.trans ?_
    refine ih _ (i + 1) out' (by omega) (by omega) h1 (fun m => by have := h2 m; omega) ?_
    rw [h3, dv_take_succ, Nat.add_mul]
theorem times_f (a b : List Nat) (ha : ∀ i, a.getD i 0 < 256) (hb : ∀ i, b.getD i 0 < 256) (hal : a.length ≤ 50) (hbl : b.length ≤ 50) (k : Nat) (hk : 60 * a.length + 200 ≤ k) :
    samphireref06_times.f k (ints a) (ints b) = some (ints (dig (dv a * dv b) (a.length + b.length + 1))) := by
  unfold samphireref06_times.f
  rw [ints_length, ints_length, ← Int.natCast_add, wr ((a.length + b.length : Nat) : Int) (by omega) (by omega), wr (((a.length + b.length : Nat) : Int) + 1) (by omega) (by omega)]
  rw [show (((a.length + b.length : Nat) : Int) + 1) = ((a.length + b.length + 1 : Nat) : Int) from by omega, Int.toNat_natCast, if_pos (by omega), if_pos (by omega), ints_zeros]
  refine times_l0 a b ha hb hal hbl a.length k 0 _ (by omega) (by omega) (by rw [List.length_replicate]) (fun m => by rw [zeros_get]; omega) ?_
  have : ∀ n, dv (List.replicate n 0) = 0 := by
    intro n
    induction n with
    | zero => rfl
    | succ n ih => rw [List.replicate_succ, dv, ih]
  rw [this, List.take_zero]; simp [dv]
theorem red_end (l : List Nat) (hl : ∀ i, l.getD i 0 < 256) (h17 : 17 ≤ l.length) (h40 : l.length ≤ 40) (hv : dv l < 1361129467683753853853498429727072845824) (c k : Nat) (hc : c ≤ 40) (hk : 500 ≤ k) :
    samphireref06_reduced.l0 k (ints l) (c : Int) = some (ints (dig (dv l % 1361129467683753853853498429727072845819) 17)) := by
  obtain ⟨k, rfl⟩ : ∃ m, k = m + 1 + 1 := ⟨k - 2, by omega⟩
  have hj : samphireref06_reduced.j1 (k + 1) (ints l) (c : Int) false = some (ints (dig (dv l % 1361129467683753853853498429727072845819) 17)) := by
    simp only [samphireref06_reduced.j1]
    have e5 : ([5] : List Int) = ints [5] := rfl
    have d5 : dv [5] = 5 := rfl
    rw [if_neg (by decide), e5, show (40 : Int) = ((40 : Nat) : Int) from rfl, add_f l [5] 40 (fun i => by have := hl i; omega) (fun i => by match i with | 0 => decide | i + 1 => simp) (by omega) (by omega) (by decide) k (by omega), Option.bind_some, d5]
    rw [high_f _ (dig_lt _ _) (by rw [dig_length]; omega) (by rw [dig_length]; omega) k (by rw [dig_length]; omega), Option.bind_some]
    rw [zero_f _ (by rw [dig_length, dig_length]; omega) k (by rw [dig_length, dig_length]; omega), Option.bind_some]
    rw [dv_dig, dv_dig, dig_length, Nat.mod_eq_of_lt (show dv l + 5 < 256 ^ 40 by omega), Nat.mod_eq_of_lt (show (dv l + 5) / 1361129467683753853853498429727072845824 < 256 ^ 40 by omega)]
    by_cases hz : (dv l + 5) / 1361129467683753853853498429727072845824 = 0
    · rw [if_pos (decide_eq_true hz), low_f l h17 hl k (by omega), Option.bind_some]
      congr 3
      omega
    · rw [if_neg (by rw [decide_eq_false hz]; decide), low_f _ (by rw [dig_length]; omega) (dig_lt _ _) k (by omega), Option.bind_some, dv_dig, Nat.mod_eq_of_lt (show dv l + 5 < 256 ^ 40 by omega)]
      congr 3
      omega
  simp only [samphireref06_reduced.l0]
  by_cases h : c < 40
  · rw [if_pos (by omega), high_f l hl (by omega) (by omega) (k + 1) (by omega), Option.bind_some, zero_f _ (by rw [dig_length]; omega) (k + 1) (by rw [dig_length]; omega), Option.bind_some, dv_dig]
    rw [decide_eq_true (by rw [Nat.div_eq_of_lt hv]; exact Nat.zero_mod _)]
    exact hj
  · rw [if_neg (by omega)]
    exact hj
theorem red_step (l : List Nat) (hl : ∀ i, l.getD i 0 < 256) (h17 : 17 ≤ l.length) (h40 : l.length ≤ 40) (hv : 1361129467683753853853498429727072845824 ≤ dv l) (c k : Nat) (hc : c < 40) (hk : 500 ≤ k) :
    samphireref06_reduced.l0 (k + 2) (ints l) (c : Int) = samphireref06_reduced.l0 k (ints (dig (dv l % 1361129467683753853853498429727072845824 + 5 * (dv l / 1361129467683753853853498429727072845824)) 40)) ((c + 1 : Nat) : Int) := by
  have hV := dv_lt l hl
  have hp : 256 ^ l.length ≤ 256 ^ 40 := Nat.pow_le_pow_right (by decide) h40
  have e5 : ([5] : List Int) = ints [5] := rfl
  have d5 : dv [5] = 5 := rfl
  have hh : dv (dig (dv l / 1361129467683753853853498429727072845824) l.length) = dv l / 1361129467683753853853498429727072845824 := by
    rw [dv_dig, Nat.mod_eq_of_lt (Nat.lt_of_le_of_lt (Nat.div_le_self _ _) hV)]
  have hz : ¬ dv (dig (dv l / 1361129467683753853853498429727072845824) l.length) = 0 := by rw [hh]; omega
  simp only [samphireref06_reduced.l0]
  rw [if_pos (by omega), high_f l hl (by omega) (by omega) (k + 1) (by omega), Option.bind_some, zero_f _ (by rw [dig_length]; omega) (k + 1) (by rw [dig_length]; omega), Option.bind_some, decide_eq_false hz]
  simp only [samphireref06_reduced.j1]
  rw [if_pos (by decide), low_f l h17 hl k (by omega), Option.bind_some, high_f l hl (by omega) (by omega) k (by omega), Option.bind_some, e5]
  rw [times_f [5] _ (fun i => by match i with | 0 => decide | i + 1 => simp) (dig_lt _ _) (by decide) (by rw [dig_length]; omega) k (by show 60 * 1 + 200 ≤ k; omega), Option.bind_some]
  rw [show (40 : Int) = ((40 : Nat) : Int) from rfl, add_f _ _ 40 (fun i => by have := dig_lt (dv l % 1361129467683753853853498429727072845824) 17 i; omega) (fun i => by have := dig_lt (dv [5] * dv (dig (dv l / 1361129467683753853853498429727072845824) l.length)) ([5].length + (dig (dv l / 1361129467683753853853498429727072845824) l.length).length + 1) i; omega) (by omega) (by rw [dig_length]; omega) (by rw [dig_length, dig_length]; show 1 + l.length + 1 ≤ _; omega) k (by omega), Option.bind_some]
  rw [hh, d5, dv_dig, dv_dig, dig_length, wr ((c : Int) + 1) (by omega) (by omega)]
  have m1 : dv l % 1361129467683753853853498429727072845824 % 256 ^ 17 = dv l % 1361129467683753853853498429727072845824 := Nat.mod_eq_of_lt (by have := Nat.mod_lt (dv l) (show 1361129467683753853853498429727072845824 > 0 by decide); omega)
  have m2 : 5 * (dv l / 1361129467683753853853498429727072845824) % 256 ^ ([5].length + l.length + 1) = 5 * (dv l / 1361129467683753853853498429727072845824) := by
    apply Nat.mod_eq_of_lt
    have e : 256 ^ ([5].length + l.length + 1) = 256 ^ l.length * 65536 := by rw [show [5].length + l.length + 1 = l.length + 2 from by simp; omega, Nat.pow_add]
    rw [e]
    generalize 256 ^ l.length = q at *
    omega
  rw [m1, m2]
  rfl
def RedTo (B m : Nat) : Prop := ∀ (l : List Nat), (∀ i, l.getD i 0 < 256) → 17 ≤ l.length → l.length ≤ 40 → dv l < B → ∀ (c k : Nat), c + m ≤ 40 → 500 + 2 * m ≤ k →
    samphireref06_reduced.l0 k (ints l) (c : Int) = some (ints (dig (dv l % 1361129467683753853853498429727072845819) 17))
theorem red_more (B B' m : Nat) (h : RedTo B m) (hB : ∀ V, V < B' → V % 1361129467683753853853498429727072845824 + 5 * (V / 1361129467683753853853498429727072845824) < B) (hs : B < 256 ^ 40) : RedTo B' (m + 1) := by
  intro l hl h17 h40 hv c k hc hk
  by_cases hV : dv l < 1361129467683753853853498429727072845824
  · exact red_end l hl h17 h40 hV c k (by omega) (by omega)
  · obtain ⟨k, rfl⟩ : ∃ n, k = n + 2 := ⟨k - 2, by omega⟩
    rw [red_step l hl h17 h40 (by omega) c k (by omega) (by omega)]
    have hW := hB _ hv
    have e1 : (dv l % 1361129467683753853853498429727072845824 + 5 * (dv l / 1361129467683753853853498429727072845824)) % 1361129467683753853853498429727072845819 = dv l % 1361129467683753853853498429727072845819 := by
      have : dv l = (dv l % 1361129467683753853853498429727072845824 + 5 * (dv l / 1361129467683753853853498429727072845824)) + 1361129467683753853853498429727072845819 * (dv l / 1361129467683753853853498429727072845824) := by omega
      conv => rhs; rw [this]
      rw [Nat.add_mul_mod_self_left]
    rw [← e1]
    generalize dv l % 1361129467683753853853498429727072845824 + 5 * (dv l / 1361129467683753853853498429727072845824) = W at *
    have e2 : dv (dig W 40) = W := by rw [dv_dig, Nat.mod_eq_of_lt (by omega)]
    have := h (dig W 40) (dig_lt _ _) (by rw [dig_length]; omega) (by rw [dig_length]; omega) (by omega) (c + 1) k (by omega) (by omega)
    rw [e2] at this
    exact this
theorem reduced_f (l : List Nat) (hl : ∀ i, l.getD i 0 < 256) (h17 : 17 ≤ l.length) (h40 : l.length ≤ 40) (hv : dv l < 256 ^ 35) (k : Nat) (hk : 510 ≤ k) :
    samphireref06_reduced.f k (ints l) = some (ints (dig (dv l % 1361129467683753853853498429727072845819) 17)) := by
  have r0 : RedTo 1361129467683753853853498429727072845824 0 := fun l hl h17 h40 hv c k hc hk => red_end l hl h17 h40 hv c k (by omega) (by omega)
  have r1 : RedTo 2041694201525630780780247644590609268736 1 := red_more _ _ 0 r0 (by intro V h; omega) (by decide)
  have r2 : RedTo (256 ^ 20) 2 := red_more _ _ 1 r1 (by intro V h; omega) (by decide)
  have r3 : RedTo (256 ^ 35) 3 := red_more _ _ 2 r2 (by intro V h; omega) (by decide)
  exact r3 l hl h17 h40 hv 0 k (by omega) (by omega)
end Go.Proofs.Ytmablneefndedaa.Pr
end

section
namespace Go.Proofs.Ytmablneefndedaa.Pr
open Go.RowKit Go.Proofs.YtmablneefndedaaW.PrintWords Go.Proofs.YtmablneefndedaaW.PrintLast Go.Proofs.YtmablneefndedaaW.PrintMore
set_option maxHeartbeats 1000000
set_option linter.unusedVariables false
set_option linter.unusedSimpArgs false
theorem map_get (p : Nat → Nat) (n k : Nat) (h : k < n) : ((List.range n).map p).getD k 0 = p k := by
  simp [List.getD_eq_getElem?_getD, h]
theorem outT_dig (V : Nat) (S : List Nat) : outT V S 16 = dig (V + dv S) 16 := by
  have hc : ∀ k, k ≤ 16 → cyT V S k = cyD ((List.range 16).map fun i => V / 256 ^ i % 256 + S.getD i 0) k := by
    intro k
    induction k with
    | zero => intro _; simp [cyT, cyD, dv]
    | succ k ih =>
      intro hk
      rw [cyT, cyD_succ, ih (by omega), map_get _ _ _ (by omega)]
  have h1 : outT V S 16 = dig (dv ((List.range 16).map fun i => V / 256 ^ i % 256 + S.getD i 0)) 16 := by
    unfold outT dig
    apply List.map_congr_left
    intro i hi
    rw [List.mem_range] at hi
    rw [if_pos hi, take_digit, map_get _ _ _ hi, hc i (by omega)]
    rfl
  rw [h1]
  apply dig_congr
  rw [dv_map_add, dv_map_get]
  have h2 : dv ((List.range 16).map fun i => V / 256 ^ i % 256) = V % 256 ^ 16 := dv_dig V 16
  rw [h2, Nat.add_mod, dv_take_mod, Nat.mod_mod, ← Nat.add_mod]
theorem blk_lt (s : List Nat) (hs : ∀ i, s.getD i 0 < 256) (j : Nat) : blkN s j < 680564733841876926926749214863536422912 := by
  unfold blkN
  generalize hB : (s.drop (16 * j)).take 16 = B
  have hb : ∀ i, B.getD i 0 < 256 := by
    intro i
    rw [← hB, List.getD_eq_getElem?_getD, List.getElem?_take]
    split
    · rw [List.getElem?_drop]
      have := hs (16 * j + i)
      rw [List.getD_eq_getElem?_getD] at this
      exact this
    · decide
  have h1 := dv_lt B hb
  have h2 : 256 ^ B.length ≤ 256 ^ 16 := Nat.pow_le_pow_right (by decide) (by rw [← hB, List.length_take]; omega)
  rw [dv_append]
  have h3 : dv [1] = 1 := rfl
  rw [h3]
  omega
theorem acc_succ (r : Nat) (s : List Nat) (hs : ∀ i, s.getD i 0 < 256) (hr : r < 1361129467683753853853498429727072845824) (j : Nat) :
    lv (accL (limbs r) s (j + 1)) % 1361129467683753853853498429727072845819 = ((lv (accL (limbs r) s j) % 1361129467683753853853498429727072845819 + blkN s j) * r) % 1361129467683753853853498429727072845819 := by
  have hA := accL_lim (limbs_lim r) s j
  have hb := blk_lt s hs j
  rw [accL]
  generalize accL (limbs r) s j = A at *
  have hx : (addL A (limbs (blkN s j))).length = 5 := by simp [addL, addT]
  have hm : (mulL (addL A (limbs (blkN s j))) (limbs r)).length = 5 := by simp [mulL]
  obtain ⟨q, hq⟩ := car_lv hm
  obtain ⟨q', hq'⟩ := mul_lv _ _ hx (limbs_lim r).len
  have e1 : lv (car (mulL (addL A (limbs (blkN s j))) (limbs r))) % 1361129467683753853853498429727072845819 = (lv (addL A (limbs (blkN s j))) * lv (limbs r)) % 1361129467683753853853498429727072845819 := by
    rw [hq', hq, Nat.add_mul_mod_self_left, Nat.add_mul_mod_self_left]
  rw [e1, addL_lv _ _ hA.len (limbs_lim _).len, limbs_lv _ (by omega), limbs_lv _ hr]
  conv => rhs; rw [Nat.mul_mod, Nat.add_mod, Nat.mod_mod, ← Nat.add_mod, ← Nat.mul_mod]
theorem dig_snoc (V i : Nat) : dig V i ++ [V / 256 ^ i % 256] = dig V (i + 1) := by
  unfold dig
  rw [List.range_succ, List.map_append]; rfl
theorem rMac_l1 (V n : Nat) (hn : 16 ≤ n) (hn' : n ≤ 100) : ∀ d k i, i + d = 16 → d < k →
    samphireref06_Mac.l1 k (ints (dig V n)) (ints (dig V i)) (i : Int) = some (txt (dig V 16), 0) := by
  intro d
  induction d with
  | zero =>
    intro k i hi hk
    obtain ⟨k, rfl⟩ : ∃ m, k = m + 1 := ⟨k - 1, by omega⟩
    obtain rfl : i = 16 := by omega
    simp only [samphireref06_Mac.l1]
    rw [if_neg (by omega), str_ints]
  | succ d ih =>
    intro k i hi hk
    obtain ⟨k, rfl⟩ : ∃ m, k = m + 1 := ⟨k - 1, by omega⟩
    have h := ih k (i + 1) (by omega) (by omega)
    rw [← dig_snoc, ints_append] at h
    simp only [samphireref06_Mac.l1, ints_length, dig_length]
    rw [if_pos (by omega), if_pos (by omega), if_pos (by omega), if_pos (by omega), rd_ints, dig_get V n i (by omega), wr _ (by omega) (by omega)]
    rw [show (((V / 256 ^ i % 256 : Nat) : Int) % 256) = ((V / 256 ^ i % 256 : Nat) : Int) from by omega]
    exact h
theorem dv_dig_lt (V n : Nat) (h : V < 256 ^ n) : dv (dig V n) = V := by rw [dv_dig, Nat.mod_eq_of_lt h]
theorem rMac_l0 (a0 a1 : ByteArray) (c : List Nat) (h0 : a0.size = 32) (h1 : a1.size ≤ 65536) (hc : c.length = 16) (hcl : ∀ i, c.getD i 0 < 256) : ∀ d k j, j + d = (a1.size + 15) / 16 → d + 1400 ≤ k →
    samphireref06_Mac.l0 k a0 a1 (ints c) (ints (dig (lv (accL (limbs (dv c)) (bys a1) j) % 1361129467683753853853498429727072845819) 17)) ((16 * j : Nat) : Int) =
      some (txt (outT (lv (accL (limbs (dv c)) (bys a1) ((a1.size + 15) / 16)) % 1361129467683753853853498429727072845819) ((bys a0).drop 16) 16), 0) := by
  have hr := dv_lt c hcl
  rw [hc] at hr
  intro d
  induction d with
  | zero =>
    intro k j hj hk
    obtain ⟨k, rfl⟩ : ∃ m, k = m + 1 := ⟨k - 1, by omega⟩
    obtain rfl : j = (a1.size + 15) / 16 := by omega
    have hA : lv (accL (limbs (dv c)) (bys a1) ((a1.size + 15) / 16)) % 1361129467683753853853498429727072845819 < 1361129467683753853853498429727072845819 := Nat.mod_lt _ (by decide)
    generalize lv (accL (limbs (dv c)) (bys a1) ((a1.size + 15) / 16)) % 1361129467683753853853498429727072845819 = A at *
    have hS : bys (a0.extract 16 a0.size) = (bys a0).drop 16 := by
      rw [bys_extract, List.take_of_length_le (by rw [List.length_drop, bys_length]; omega)]
    simp only [samphireref06_Mac.l0]
    rw [if_neg (by omega), if_pos (by omega), digits_f _ (by rw [ByteArray.size_extract]; omega) k (by rw [ByteArray.size_extract]; omega), Option.bind_some, hS]
    rw [show (18 : Int) = ((18 : Nat) : Int) from rfl, add_f _ _ 18 (fun i => by have := dig_lt A 17 i; omega) (fun i => by have := bys_lt (a0.extract 16 a0.size) i; rw [hS] at this; omega) (by omega) (by rw [dig_length]; omega) (by rw [List.length_drop, bys_length]; omega) k (by omega), Option.bind_some, dv_dig_lt A 17 (by omega)]
    rw [outT_dig]
    exact rMac_l1 _ 18 (by omega) (by omega) 16 k 0 (by omega) (by omega)
  | succ d ih =>
    intro k j hj hk
    obtain ⟨k, rfl⟩ : ∃ m, k = m + 1 := ⟨k - 1, by omega⟩
    have h := ih k (j + 1) (by omega) (by omega)
    rw [acc_succ _ _ (bys_lt a1) (by omega)] at h
    have hb := blk_lt (bys a1) (bys_lt a1) j
    have hA : lv (accL (limbs (dv c)) (bys a1) j) % 1361129467683753853853498429727072845819 < 1361129467683753853853498429727072845819 := Nat.mod_lt _ (by decide)
    generalize lv (accL (limbs (dv c)) (bys a1) j) % 1361129467683753853853498429727072845819 = A at *
    simp only [samphireref06_Mac.l0]
    rw [if_pos (by omega), if_pos (by omega), wr (((16 * j : Nat) : Int) + 16) (by omega) (by omega)]
    have hm : mn (a1.size : Int) (((16 * j : Nat) : Int) + 16) = ((min a1.size (16 * j + 16) : Nat) : Int) := by unfold mn; split <;> omega
    have hB : bys (a1.extract (16 * j) (min a1.size (16 * j + 16))) = ((bys a1).drop (16 * j)).take 16 := by
      rw [bys_extract]
      by_cases hq : 16 * j + 16 ≤ a1.size
      · rw [show min a1.size (16 * j + 16) - 16 * j = 16 from by omega]
      · rw [List.take_of_length_le (by rw [List.length_drop, bys_length]; omega), List.take_of_length_le (by rw [List.length_drop, bys_length]; omega)]
    have hBl : (((bys a1).drop (16 * j)).take 16).length ≤ 16 := by rw [List.length_take]; omega
    have hBb : ∀ i, (((bys a1).drop (16 * j)).take 16 ++ [1]).getD i 0 ≤ 1000000 := by
      intro i
      rw [List.getD_eq_getElem?_getD]
      by_cases hi : i < (((bys a1).drop (16 * j)).take 16).length
      · rw [List.getElem?_append_left hi]
        have := bys_lt (a1.extract (16 * j) (min a1.size (16 * j + 16))) i
        rw [hB, List.getD_eq_getElem?_getD] at this
        omega
      · rw [List.getElem?_append_right (by omega)]
        cases i - (((bys a1).drop (16 * j)).take 16).length <;> simp
    rw [hm, Int.toNat_natCast, Int.toNat_natCast, if_pos (by omega), if_pos (by omega)]
    rw [digits_f _ (by rw [ByteArray.size_extract]; omega) k (by rw [ByteArray.size_extract]; omega), Option.bind_some, hB, if_pos (by rw [ints_length]; omega)]
    have e1 : ints (((bys a1).drop (16 * j)).take 16) ++ [1] = ints (((bys a1).drop (16 * j)).take 16 ++ [1]) := by rw [ints_append]; rfl
    rw [e1, show (18 : Int) = ((18 : Nat) : Int) from rfl, add_f _ _ 18 (fun i => by have := dig_lt A 17 i; omega) hBb (by omega) (by rw [dig_length]; omega) (by rw [List.length_append]; simp only [List.length_cons, List.length_nil]; omega) k (by omega), Option.bind_some, dv_dig_lt A 17 (by omega)]
    have e2 : dv (((bys a1).drop (16 * j)).take 16 ++ [1]) = blkN (bys a1) j := rfl
    rw [e2, times_f _ c (dig_lt _ _) hcl (by rw [dig_length]; omega) (by omega) k (by rw [dig_length]; omega), Option.bind_some, dig_length, hc, dv_dig_lt (A + blkN (bys a1) j) 18 (by omega)]
    have hp : (A + blkN (bys a1) j) * dv c < 256 ^ 18 * 256 ^ 16 := Nat.mul_lt_mul_of_lt_of_lt (by omega) hr
    rw [reduced_f _ (dig_lt _ _) (by rw [dig_length]; omega) (by rw [dig_length]; omega) (by rw [dv_dig]; exact Nat.mod_lt _ (by decide)) k (by omega), Option.bind_some, dv_dig_lt _ _ (by generalize (A + blkN (bys a1) j) * dv c = Z at *; omega)]
    rw [show (((16 * j : Nat) : Int) + 16) = ((16 * (j + 1) : Nat) : Int) from by omega]
    exact h
theorem rMac_f (a0 a1 : ByteArray) (h0 : a0.size = 32) (h1 : a1.size ≤ 65536) (k : Nat) (hk : (a1.size + 15) / 16 + 1401 ≤ k) : samphireref06_Mac.f k a0 a1 = some (txt (pmacL (bys a0) (bys a1)), 0) := by
  unfold samphireref06_Mac.f
  obtain ⟨k, rfl⟩ : ∃ m, k = m + 1 := ⟨k - 1, by omega⟩
  have hb : bys (txt (clampL (bys (a0.extract 0 16)))) = clampL (bys (a0.extract 0 16)) := bys_txt (clampL_lt _ (bys_lt _))
  have hc : (clampL (bys (a0.extract 0 16))).length = 16 := by rw [clampL_length, bys_length, ByteArray.size_extract]; omega
  have he : bys (a0.extract 0 16) = (bys a0).take 16 := by rw [bys_extract]; rfl
  have hcl : ∀ i, (clampL (bys (a0.extract 0 16))).getD i 0 < 256 := by
    intro i
    have := bys_lt (txt (clampL (bys (a0.extract 0 16)))) i
    rw [hb] at this
    exact this
  rw [if_pos (by omega), decide_eq_false (by omega)]
  simp only [samphireref06_Mac.j0]
  rw [if_neg (by decide), if_pos (by decide), if_pos (by omega)]
  unfold samphireref06_Clamp.f clampF
  rw [if_pos (by rw [ByteArray.size_extract]; omega), Option.bind_some, digits_f _ (by rw [txt_size]; omega) k (by rw [txt_size]; omega), Option.bind_some, hb, if_pos (by decide)]
  have hr := dv_lt _ hcl
  rw [hc] at hr
  have hz : (List.replicate 17 0 : List Int) = ints (dig (lv (accL (limbs (dv (clampL (bys (a0.extract 0 16))))) (bys a1) 0) % 1361129467683753853853498429727072845819) 17) := by
    have hz0 : ∀ r s, lv (accL r s 0) = 0 := fun r s => rfl
    rw [hz0]
    rfl
  rw [hz]
  refine (rMac_l0 a0 a1 _ h0 h1 hc hcl ((a1.size + 15) / 16) k 0 (by omega) (by omega)).trans ?_
  rw [he] at *
  unfold pmacL
  rw [whole_lv ((accL_lim (limbs_lim _) _ _).mono (by decide)), bys_length]
end Go.Proofs.Ytmablneefndedaa.Pr
end

section
namespace Go.Proofs.Ytmablneefndedaa.Pr
open Go.RowKit Go.Proofs.YtmablneefndedaaW.PrintWords Go.Proofs.YtmablneefndedaaW.PrintLast Go.Proofs.YtmablneefndedaaW.PrintMore
set_option maxHeartbeats 1000000
set_option linter.unusedVariables false
set_option linter.unusedSimpArgs false
theorem bytesOf_ints (s : ByteArray) : bytesOf s = ints (bys s) := by
  unfold bytesOf ints bys
  rw [List.map_map]; rfl
theorem xor_l0 (x y : ByteArray) (n : Nat) (hx : x.size = n) (hy : y.size = n) (hn : n ≤ 1000000) : ∀ d k i, i + d = n → d < k →
    samphireref01_Xor.l0 k x y (ints ((List.range i).map fun i => (bys x).getD i 0 ^^^ (bys y).getD i 0)) (i : Int) = some (txt ((List.range n).map fun i => (bys x).getD i 0 ^^^ (bys y).getD i 0), 0) := by
  intro d
  induction d with
  | zero =>
    intro k i hi hk
    obtain ⟨k, rfl⟩ : ∃ m, k = m + 1 := ⟨k - 1, by omega⟩
    obtain rfl : i = n := by omega
    simp only [samphireref01_Xor.l0]
    rw [if_neg (by omega), str_ints]
  | succ d ih =>
    intro k i hi hk
    obtain ⟨k, rfl⟩ : ∃ m, k = m + 1 := ⟨k - 1, by omega⟩
    have h := ih k (i + 1) (by omega) (by omega)
    rw [List.range_succ, List.map_append, ints_append] at h
    simp only [samphireref01_Xor.l0]
    rw [if_pos (by omega), if_pos (by omega), if_pos (by omega), if_pos (by rw [ints_length, List.length_map, List.length_range]; omega), bt_nat _ _ (by omega), bt_nat _ _ (by omega), u8_xor_nat _ _ (bys_lt _ _) (bys_lt _ _), wr _ (by omega) (by omega)]
    exact h
theorem xor_f (x y : ByteArray) (n : Nat) (hx : x.size = n) (hy : y.size = n) (hn : n ≤ 1000000) (k : Nat) (hk : n < k) :
    samphireref01_Xor.f k x y = some (txt ((List.range n).map fun i => (bys x).getD i 0 ^^^ (bys y).getD i 0), 0) := by
  unfold samphireref01_Xor.f
  rw [if_pos (by omega)]
  exact xor_l0 x y n hx hy hn n k 0 (by omega) hk
theorem strB_at (a b : List Nat) (n j i : Nat) (hi : i < 64) : strB a b n (64 * j + i) = (chaL a b (n + j)).getD i 0 := by
  unfold strB
  rw [show (64 * j + i) / 64 = j from by omega, show (64 * j + i) % 64 = i from by omega]
theorem stream_next (a b s : List Nat) (n j m : Nat) (hm : m = min 64 (s.length - 64 * j)) (hj : 64 * j ≤ s.length) :
    (streamL a b n s).take (64 * j) ++ (List.range m).map (fun i => s.getD (64 * j + i) 0 ^^^ (chaL a b (n + j)).getD i 0) = (streamL a b n s).take (64 * (j + 1)) := by
  rw [show 64 * (j + 1) = 64 * j + 64 from by omega, List.take_add]
  congr 1
  apply List.ext_getElem
  · rw [List.length_map, List.length_range, List.length_take, List.length_drop, streamL_length]; exact hm
  · intro i h1 h2
    rw [List.length_map, List.length_range] at h1
    have hg := streamL_get a b n s (64 * j + i) (by omega)
    rw [strB_at a b n j i (by omega)] at hg
    rw [List.getElem_map, List.getElem_range, List.getElem_take, List.getElem_drop]
    obtain ⟨h3, h4⟩ := List.getElem?_eq_some_iff.1 hg
    exact h4.symm
theorem rStream_l0 (a0 a1 a3 : ByteArray) (h0 : a0.size = 32) (h1 : a1.size = 12) (h3 : a3.size ≤ 32768) : ∀ d k j, j + d = (a3.size + 63) / 64 → d + 100 ≤ k →
    samphireref05_Stream.l0 k a0 a1 1 a3 (ints ((streamL (bys a0) (bys a1) 1 (bys a3)).take (64 * j))) ((64 * j : Nat) : Int) = some (txt (streamL (bys a0) (bys a1) 1 (bys a3)), 0) := by
  intro d
  induction d with
  | zero =>
    intro k j hj hk
    obtain ⟨k, rfl⟩ : ∃ m, k = m + 1 := ⟨k - 1, by omega⟩
    simp only [samphireref05_Stream.l0]
    rw [if_neg (by omega), List.take_of_length_le (by rw [streamL_length, bys_length]; omega), str_ints]
  | succ d ih =>
    intro k j hj hk
    obtain ⟨k, rfl⟩ : ∃ m, k = m + 1 := ⟨k - 1, by omega⟩
    have h := ih k (j + 1) (by omega) (by omega)
    rw [← stream_next (bys a0) (bys a1) (bys a3) 1 j (min 64 (a3.size - 64 * j)) (by rw [bys_length]) (by rw [bys_length]; omega), ints_append] at h
    have ht : Int.tdiv ((64 * j : Nat) : Int) 64 = (j : Int) := by rw [Int.tdiv_eq_ediv_of_nonneg (by omega)]; omega
    have hm : mn 64 ((a3.size : Int) - ((64 * j : Nat) : Int)) = ((min 64 (a3.size - 64 * j) : Nat) : Int) := by unfold mn; split <;> omega
    have hm1 : min 64 (a3.size - 64 * j) ≤ 64 := by omega
    have hm2 : 64 * j + min 64 (a3.size - 64 * j) ≤ a3.size := by omega
    have hcl : (chaL (bys a0) (bys a1) (1 + j)).length = 64 := chaL_length _ _ _
    have hcb : bys (txt (chaL (bys a0) (bys a1) (1 + j))) = chaL (bys a0) (bys a1) (1 + j) := bys_txt (chaL_lt _ _ _)
    simp only [samphireref05_Stream.l0]
    rw [if_pos (by omega), ht, wr (j : Int) (by omega) (by omega), wr (1 + (j : Int)) (by omega) (by omega)]
    unfold samphireref05_Block.f chacha_Block.f
    rw [if_pos ⟨h0, h1, by omega, by omega⟩, Option.bind_some, show (1 + (j : Int)).toNat = 1 + j from by omega]
    rw [wr ((a3.size : Int) - ((64 * j : Nat) : Int)) (by omega) (by omega), hm]
    generalize min 64 (a3.size - 64 * j) = m at *
    rw [wr (((64 * j : Nat) : Int) + (m : Int)) (by omega) (by omega), show (((64 * j : Nat) : Int) + (m : Int)) = ((64 * j + m : Nat) : Int) from by omega, wr (((64 * j : Nat) : Int) + 64) (by omega) (by omega), show (((64 * j : Nat) : Int) + 64) = ((64 * (j + 1) : Nat) : Int) from by omega]
    rw [if_pos (by omega), if_pos (by omega), if_pos (by omega), if_pos (by omega), if_pos (by rw [txt_size, hcl]; omega), Int.toNat_natCast, Int.toNat_natCast, Int.toNat_natCast]
    rw [xor_f _ _ m (by rw [ByteArray.size_extract]; omega) (by rw [ByteArray.size_extract, txt_size, hcl]; omega) (by omega) k (by omega), Option.bind_some, bytesOf_ints]
    have e : (List.range m).map (fun i => (bys (a3.extract (64 * j) (64 * j + m))).getD i 0 ^^^ (bys ((txt (chaL (bys a0) (bys a1) (1 + j))).extract 0 m)).getD i 0) = (List.range m).map (fun i => (bys a3).getD (64 * j + i) 0 ^^^ (chaL (bys a0) (bys a1) (1 + j)).getD i 0) := by
      apply List.map_congr_left
      intro i hi
      rw [List.mem_range] at hi
      rw [bys_extract, bys_extract, hcb]
      congr 1
      · rw [List.getD_eq_getElem?_getD, List.getD_eq_getElem?_getD, List.getElem?_take_of_lt (by omega), List.getElem?_drop]
      · rw [List.getD_eq_getElem?_getD, List.getD_eq_getElem?_getD, List.getElem?_take_of_lt (by omega), List.drop_zero]
    rw [e]
    have eb : bys (txt ((List.range m).map (fun i => (bys a3).getD (64 * j + i) 0 ^^^ (chaL (bys a0) (bys a1) (1 + j)).getD i 0))) = (List.range m).map (fun i => (bys a3).getD (64 * j + i) 0 ^^^ (chaL (bys a0) (bys a1) (1 + j)).getD i 0) := by
      apply bys_txt
      intro z hz
      rw [List.mem_map] at hz
      obtain ⟨i, _, rfl⟩ := hz
      have h8 := bys_lt (txt (chaL (bys a0) (bys a1) (1 + j))) i
      rw [hcb] at h8
      exact Nat.xor_lt_two_pow (n := 8) (bys_lt _ _) h8
    rw [eb, if_pos (by rw [ints_length, List.length_take, streamL_length, bys_length, txt_size, List.length_map, List.length_range]; omega)]
    exact h
theorem rStream_f (a0 a1 a3 : ByteArray) (h0 : a0.size = 32) (h1 : a1.size = 12) (h3 : a3.size ≤ 32768) (k : Nat) (hk : 1000 ≤ k) :
    samphireref05_Stream.f k a0 a1 1 a3 = some (txt (streamL (bys a0) (bys a1) 1 (bys a3)), 0) := by
  unfold samphireref05_Stream.f
  obtain ⟨k, rfl⟩ : ∃ m, k = m + 1 := ⟨k - 1, by omega⟩
  have hw : decide (wrap64 (Int.tdiv (wrap64 ((a3.size : Int) + 63)) 64) > wrap64 (4294967296 - 1)) = false := by
    apply decide_eq_false
    rw [wr ((a3.size : Int) + 63) (by omega) (by omega), Int.tdiv_eq_ediv_of_nonneg (by omega), wr _ (by omega) (by omega), wr _ (by omega) (by omega)]
    omega
  rw [if_pos (by omega), if_pos (by omega), if_neg (by decide), if_neg (by decide), if_neg (by omega), hw]
  simp only [samphireref05_Stream.j0]
  rw [if_neg (by decide)]
  have := rStream_l0 a0 a1 a3 h0 h1 h3 ((a3.size + 63) / 64) k 0 (by omega) (by omega)
  exact this
theorem fill16_next (l : List Nat) (h : ¬ l.length % 16 = 0) : fill16 (l ++ [0]) = fill16 l := by
  unfold fill16 fillZ
  rw [List.length_append, List.append_assoc]
  congr 1
  rw [show (16 - l.length % 16) % 16 = (16 - (l.length + [0].length) % 16) % 16 + 1 from by simp only [List.length_cons, List.length_nil]; omega, List.replicate_succ]
  rfl
theorem filled_l0 : ∀ d (s : ByteArray) k, (16 - s.size % 16) % 16 = d → s.size ≤ 1000000 → d < k → samphireref07_filled.l0 k s = some (txt (fill16 (bys s))) := by
  intro d
  induction d with
  | zero =>
    intro s k hd hs hk
    obtain ⟨k, rfl⟩ : ∃ m, k = m + 1 := ⟨k - 1, by omega⟩
    simp only [samphireref07_filled.l0]
    rw [if_pos (by omega)]
    unfold fill16 fillZ
    rw [bys_length, hd, List.replicate_zero, List.append_nil, txt_bys]
  | succ d ih =>
    intro s k hd hs hk
    obtain ⟨k, rfl⟩ : ∃ m, k = m + 1 := ⟨k - 1, by omega⟩
    have hz : (s ++ (⟨#[0]⟩ : ByteArray)).size = s.size + 1 := by rw [ByteArray.size_append]; rfl
    simp only [samphireref07_filled.l0]
    have hb : bys (⟨#[0]⟩ : ByteArray) = [0] := rfl
    rw [if_neg (by omega), if_pos (by omega), ih (s ++ ⟨#[0]⟩) k (by rw [hz]; omega) (by omega) (by omega), bys_append, hb, fill16_next _ (by rw [bys_length]; omega)]
theorem rfilled_f (s : ByteArray) (hs : s.size ≤ 1000000) (k : Nat) (hk : 17 ≤ k) : samphireref07_filled.f k s = some (txt (fill16 (bys s))) :=
  filled_l0 _ s k rfl hs (by omega)
theorem fill16_le (l : List Nat) : (fill16 l).length ≤ l.length + 16 := by
  unfold fill16 fillZ
  rw [List.length_append, List.length_replicate]; omega
theorem fill16_lt (l : List Nat) (hl : ∀ x ∈ l, x < 256) : ∀ x ∈ fill16 l, x < 256 := by
  intro x hx
  unfold fill16 at hx
  rcases List.mem_append.1 hx with h | h
  · exact hl x h
  · rw [List.mem_replicate] at h; omega
theorem rTag_f (a0 a1 a2 a3 : ByteArray) (h0 : a0.size = 32) (h1 : a1.size = 12) (h2 : a2.size + a3.size ≤ 32768) (k : Nat) (hk : 5000 ≤ k) :
    samphireref07_Tag.f k a0 a1 a2 a3 = some (txt (tagL (bys a0) (bys a1) (bys a2) (bys a3))) := by
  have hcl : (chaL (bys a0) (bys a1) 0).length = 64 := chaL_length _ _ _
  have hcb : bys (txt (chaL (bys a0) (bys a1) 0)) = chaL (bys a0) (bys a1) 0 := bys_txt (chaL_lt _ _ _)
  have hl2 := fill16_le (bys a2)
  have hl3 := fill16_le (bys a3)
  rw [bys_length] at hl2 hl3
  have hln : (lenL (bys a2).length (bys a3).length).length = 16 := rfl
  have hlf : fill16 (lenL (bys a2).length (bys a3).length) = lenL (bys a2).length (bys a3).length := by
    unfold fill16
    rw [hln]
    exact List.append_nil _
  have ht : tagL (bys a0) (bys a1) (bys a2) (bys a3) = pmacL ((chaL (bys a0) (bys a1) 0).take 32) (fill16 (bys a2) ++ fill16 (bys a3) ++ lenL (bys a2).length (bys a3).length) := by
    unfold tagL
    rw [hlf]
  rw [ht]
  clear ht hlf
  unfold samphireref07_Tag.f samphireref05_Block.f chacha_Block.f
  rw [if_pos ⟨h0, h1, by decide, by decide⟩, Option.bind_some]
  dsimp only
  rw [show (0 : Int).toNat = 0 from rfl]
  generalize chaL (bys a0) (bys a1) 0 = C at *
  rw [ if_pos (by rw [txt_size]; exact congrArg Nat.cast hcl), if_pos (by decide), if_pos (by rw [txt_size]; omega)]
  rw [rfilled_f a2 (by omega) k (by omega), Option.bind_some, rfilled_f a3 (by omega) k (by omega), Option.bind_some, if_pos (by rw [txt_size, txt_size]; omega)]
  have e : ([(a2.size : Int), 0, (a3.size : Int), 0] : List Int) = ints [a2.size, 0, a3.size, 0] := rfl
  rw [e, rPutSmall_f _ (by
    intro i
    match i with
    | 0 => show a2.size < _; omega
    | 1 => show 0 < _; omega
    | 2 => show a3.size < _; omega
    | 3 => show 0 < _; omega
    | n + 4 => simp) (by show 4 ≤ 1000000; omega) k (by show 4 < k; omega), Option.bind_some]
  have e2 : [a2.size, 0, a3.size, 0].flatMap le4 = lenL (bys a2).length (bys a3).length := by rw [bys_length, bys_length]; rfl
  rw [e2, ← txt_append, ← txt_append, if_pos (by rw [txt_size, txt_size, List.length_append]; omega)]
  rw [rMac_f _ _ (by rw [ByteArray.size_extract, txt_size]; omega) (by rw [txt_size, List.length_append, List.length_append]; omega) k (by rw [txt_size, List.length_append, List.length_append]; omega), Option.bind_some]
  have hx : bys ((txt C).extract 0 32) = C.take 32 := by rw [bys_extract, hcb, List.drop_zero]
  have hy : bys (txt (fill16 (bys a2) ++ fill16 (bys a3) ++ lenL (bys a2).length (bys a3).length)) = fill16 (bys a2) ++ fill16 (bys a3) ++ lenL (bys a2).length (bys a3).length := by
    apply bys_txt
    intro x hx
    rcases List.mem_append.1 hx with h | h
    · rcases List.mem_append.1 h with h | h
      · exact fill16_lt _ (bys_lt' _) x h
      · exact fill16_lt _ (bys_lt' _) x h
    · exact lenL_lt _ _ x h
  rw [hx, hy]
theorem rmay_f (a0 a1 : ByteArray) (x y : Nat) (hx : x ≤ 1000000000000000) (hy : y ≤ 1000000000000000) : samphireref07_may.f a0 a1 (x : Int) (y : Int) = some (decide (aeadOK a0 a1 x y)) := aead_may_f a0 a1 x y hx hy
end Go.Proofs.Ytmablneefndedaa.Pr
end

section
namespace Go.Proofs.Ytmablneefndedaa.Pr
open Go.RowKit Go.Proofs.YtmablneefndedaaW.PrintWords Go.Proofs.YtmablneefndedaaW.PrintLast Go.Proofs.YtmablneefndedaaW.PrintMore
set_option maxHeartbeats 1000000
set_option linter.unusedVariables false
set_option linter.unusedSimpArgs false
theorem rOpen_f (a0 a1 a2 a3 : ByteArray) (h2 : a2.size ≤ 1000000000000000) (h3 : a3.size ≤ 1000000000000000) (k : Nat) (hk : 6000 ≤ k) : samphireref07_Open.f k a0 a1 a2 a3 = some (openF a0 a1 a2 a3) := by
  unfold samphireref07_Open.f openF
  have hm : mx 0 (wrap64 ((a3.size : Int) - 16)) = ((a3.size - 16 : Nat) : Int) := by
    have e : wrap64 ((a3.size : Int) - 16) = (a3.size : Int) - 16 := by unfold wrap64; omega
    rw [e]; unfold mx; split <;> omega
  rw [hm, rmay_f a0 a1 _ _ h2 (by omega), Option.bind_some]
  by_cases hc : aeadOK a0 a1 a2.size (a3.size - 16)
  · rw [if_pos hc, if_pos (decide_eq_true hc)]
    obtain ⟨k0, k1, k2, k3⟩ := hc
    by_cases hs : a3.size < 16
    · rw [if_pos hs, if_pos (by omega)]
    · have hz : (a3.extract 0 (a3.size - 16)).size = a3.size - 16 := by rw [ByteArray.size_extract]; omega
      have hb : bys (a3.extract 0 (a3.size - 16)) = (bys a3).take (a3.size - 16) := by rw [bys_extract]; rfl
      have hd : bys (a3.extract (a3.size - 16) a3.size) = (bys a3).drop (a3.size - 16) := by rw [bys_extract, List.take_of_length_le (by rw [List.length_drop, bys_length]; omega)]
      have ht : ((txt (tagL (bys a0) (bys a1) (bys a2) ((bys a3).take (a3.size - 16)))).toList = (a3.extract (a3.size - 16) a3.size).toList) = (tagL (bys a0) (bys a1) (bys a2) ((bys a3).take (a3.size - 16)) = (bys a3).drop (a3.size - 16)) := by
        apply propext
        rw [← hd, ByteArray.toList_eq, ByteArray.toList_eq]
        constructor
        · intro h
          have := congrArg (List.map UInt8.toNat) h
          have e : bys (txt (tagL (bys a0) (bys a1) (bys a2) ((bys a3).take (a3.size - 16)))) = tagL (bys a0) (bys a1) (bys a2) ((bys a3).take (a3.size - 16)) := bys_txt (tagL_lt _ _ _ _)
          rw [← e]
          exact this
        · intro h
          rw [h, txt_bys]
      rw [if_neg hs, if_neg (by omega), if_pos (by omega), if_pos (by omega), Int.toNat_natCast, rTag_f _ _ _ _ k0 k1 (by rw [hz]; omega) k (by omega), Option.bind_some, hb]
      simp only [ht]
      split
      · rw [rStream_f a0 a1 _ k0 k1 (by rw [hz]; omega) k (by omega), Option.bind_some, hb]
      · rfl
  · rw [if_neg hc, if_neg (by rw [decide_eq_false hc]; decide)]
end Go.Proofs.Ytmablneefndedaa.Pr
end

section
namespace Go.Proofs.Ytmablneefndedaa.Pure
open Go.RowKit Go.Proofs.Ytmablneefndedaa.Pr Go.Proofs.YtmablneefndedaaW.PrintWords Go.Proofs.YtmablneefndedaaW.PrintLast Go.Proofs.YtmablneefndedaaW.PrintMore
theorem AeadOpens : samphirelaw07_AeadOpens.Pure := by
  intro a0 a1 a2 h0 h1 h2
  refine ⟨6001, ?_⟩
  unfold samphirelaw07_AeadOpens.f
  rw [light_f, Option.bind_some]
  by_cases g : a0.size ≤ 512 ∧ a1.size ≤ 512 ∧ a2.size ≤ 512
  · obtain ⟨g0, g1, g2⟩ := g
    have hm : mn 32 (a0.size : Int) = ((min 32 a0.size : Nat) : Int) := by unfold mn; split <;> omega
    rw [if_pos (decide_eq_true ⟨g0, g1, g2⟩), hm, if_pos (by omega), if_pos (by omega), Int.toNat_natCast]
    rw [aead_Open_f _ _ _ _ (by omega) (by omega), Option.bind_some, rOpen_f _ _ _ _ (by omega) (by omega) 6001 (by omega), Option.bind_some, if_pos rfl, if_pos rfl, awake07_f]
    rfl
  · rw [if_neg (by rw [decide_eq_false g]; decide), awake07_f]
    rfl
end Go.Proofs.Ytmablneefndedaa.Pure
end

section
namespace Go.Proofs.Ytmablneefndedaa.aeadOpens
open Go.ChangeShapes Go.WideShapes Go.ChangeAt Go.RowKit
open Go.ChangeMaps (open_string shut_string)
set_option linter.unusedVariables false
theorem own : ownKnob Try.prog.godebug = none := by kernel_rfl
set_option maxRecDepth 100000 in
theorem lifted (os : Os) (started : os.Started) (H : Type) (enc : TypeId × Value → H) :
    ReturnsInHanded {} Try.checked os 4 .any (Rows.aeadOpensSpec.pre6 enc Try.prog Try.f4 Rows.aeadOpensRow.domain false) (Rows.aeadOpensSpec.post enc Try.prog Try.f4 false true false false) := by
  refine returnsInHanded_of_change_sized (C := Try.checked) own started (by kernel_rfl) Try.func4
    (ChangeSpec.witness6 (enc := enc) (C := Try.checked) false ⟨#[], #[.string ByteArray.empty, .string ByteArray.empty, .string ByteArray.empty], []⟩ 8 (by kernel_rfl) (by kernel_rfl) (by kernel_rfl) (by kernel_rfl)) ?_
  intro W base args ds gs before hval0 hW hcnd hsz0 _
  have hsz : (DataW.weightsEach Try.prog (Try.f4.params.toList ++ Rows.aeadOpensSpec.plain.varTypes Try.prog) (ds ++ gs)).all (· ≤ reachBytes) = true := hsz0
  have hval : ∀ (j : Nat) t v, Try.f4.params[j]? = some t → args[j]? = some v → Value.okWide Try.prog W .any base t v := hval0
  have hW' := hW
  obtain ⟨p, q, hA0, hV, rfl, hfz, hnd⟩ := hW
  have hA : DataW.TrodAll enc Try.prog W 0 (fun _ => true) true Try.f4.params.toList args.toList ds p := hA0
  rw [Try.params4] at hA hval hsz
  obtain ⟨v0, vs0, d0, ds0, p0, q0, hargs, rfl, rfl, h0, r0⟩ := trodAll_cons hA
  obtain ⟨v1, vs1, d1, ds1, p1, q1, rfl, rfl, rfl, h1, r1⟩ := trodAll_cons r0
  obtain ⟨v2, vs2, d2, ds2, p2, q2, rfl, rfl, rfl, h2, r2⟩ := trodAll_cons r1
  obtain ⟨rfl, rfl, rfl⟩ := trodAll_nil r2
  obtain rfl : args = #[v0, v1, v2] := by cases args; simp_all
  obtain ⟨rfl, rfl⟩ := trodVars_none hV
  obtain ⟨a0, rfl, rfl, rfl, y0⟩ := open_string Try.underlying9 (hval 0 9 v0 rfl rfl) h0
  have w0 : a0.size ≤ 140737488351232 := by
    have z := sized_string hsz (j := 0) (t := 9) rfl rfl
    rw [Array.length_toList] at z
    exact z
  obtain ⟨a1, rfl, rfl, rfl, y1⟩ := open_string Try.underlying9 (hval 1 9 v1 rfl rfl) h1
  have w1 : a1.size ≤ 140737488351232 := by
    have z := sized_string hsz (j := 1) (t := 9) rfl rfl
    rw [Array.length_toList] at z
    exact z
  obtain ⟨a2, rfl, rfl, rfl, y2⟩ := open_string Try.underlying9 (hval 2 9 v2 rfl rfl) h2
  have w2 : a2.size ≤ 140737488351232 := by
    have z := sized_string hsz (j := 2) (t := 9) rfl rfl
    rw [Array.length_toList] at z
    exact z
  clear hA0 hval0 hsz0 hsz
  refine (Pr.samphirelaw07_AeadOpens.walk Pure.AeadOpens a0 a1 a2 W w0 w1 w2).mono fun e W' ⟨he, bel⟩ => ?_
  subst he
  exact ⟨_, rfl, _, _, _, [], _, [], hW', trodAll_mk1 (shut_bool Try.underlying4 _), (trodAll_cons_mk (shut_string Try.underlying9 y0) (trodAll_cons_mk (shut_string Try.underlying9 y1) (trodAll_cons_mk (shut_string Try.underlying9 y2) trodAll_mk0))), rfl, bel.frame _, fun h => by cases h⟩
theorem over : Rows.aeadOpensRow.holds Try.pinned (OpenSpec.ofChange Rows.aeadOpensSpec) :=
  OpenClaim.holds_of_wide 4 Try.f4 rfl rfl rfl rfl rfl rfl rfl ⟨rfl, rfl, rfl, rfl, rfl⟩ rfl rfl rfl rfl rfl (by kernel_rfl) Try.func4 (by kernel_rfl)
    (of_decide_eq_true (by kernel_rfl)) (by unfold Func.isWrapper; first | (rw [if_pos (by decide +kernel)]; kernel_rfl) | (rw [if_neg (by decide +kernel)]; exact ⟨rfl, rfl⟩))
    (fun os started H enc _ => lifted os started H enc)
theorem proved : Rows.AeadOpensSaid := over
#print axioms proved
end Go.Proofs.Ytmablneefndedaa.aeadOpens
namespace Go.Proofs.Ytmablneefndedaa
theorem aeadOpens_holds : Rows.AeadOpensSaid := aeadOpens.proved
end Go.Proofs.Ytmablneefndedaa
end

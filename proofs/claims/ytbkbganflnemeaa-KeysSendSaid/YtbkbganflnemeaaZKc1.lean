/- Joined texts (pack.py): what the statement's proof needs, part c1. No condition. -/
import Derived.Below
import Derived.Deep.Draws
import Derived.Deep.AppendLies
import Derived.Maps.AppendAt
import Derived.OwnWalk
import Derived.Laws.BytesArg
import Derived.Laws.MakeOwn
import Derived.Laws.OwnMore
import Derived.Deep.OwnRows
import Derived.Tactics
import Derived.Lib.ConvBytes
import Derived.Laws.Slices
import Derived.WalkKit
import Derived.KernelRfl
import Derived.RowKit3
import Derived.Deep.LoopGhost
import Derived.Deep.QuietTactic
import Derived.BigQuiet
import Derived.WideLaws
import Derived.Deep.DeepCutAuto
import Derived.Deep.CutBlock
import Derived.Deep.RegionHeld3
import Derived.Laws.Rows
import Derived.Lib.AppendStr
import Derived.ArgAppend
import Derived.Laws.IdiomCopy
import Derived.RowKit
import Derived.OrdersHeld
import Derived.Laws.BitsLemmas
import Derived.Laws.StructEq
import Derived.Test.YtbkbganflnemeaaProg
import Derived.Shelf.Strings.Builder1
import Derived.Shelf.Strings.Builder2
import Derived.Shelf.Strings.OnBuilder
import Derived.Shelf.Strings.BuilderF
import Derived.Shelf.Strings.Prefix
import Derived.Shelf.Bits.Mul64
import Derived.Shelf.Strings.Repeat
import Derived.Deep.RegionLaw
import Derived.StillTailTactics
import Derived.Deep.Light
import Derived.Deep.RegionHeldLaw
import Derived.Deep.DrawnRows
import Derived.IntWalk
import Derived.Deep.WholeRow
import Derived.Laws.CopyOwn
import Derived.Test.YtbkbganflnemeaaRows
import Derived.ProofKit
import Derived.OpenShut
import Derived.ShutString
import Derived.ChangeOld
import Derived.SizedLaws
import Derived.ChangeKeysEq
import Derived.Test.YtbkbganflnemeaaZKa1
import Derived.Test.YtbkbganflnemeaaZKa2
import Derived.Test.YtbkbganflnemeaaZKa3
import Derived.Test.YtbkbganflnemeaaZKa4
import Derived.Test.YtbkbganflnemeaaZKa5
import Derived.Test.YtbkbganflnemeaaZKa6
section
namespace Go.Proofs.Ytbkbganflnemeaa.Pr
open Go.RowKit Go.Proofs.YtbkbganflnemeaaW.PrintWords Go.Proofs.YtbkbganflnemeaaW.PrintLast Go.Proofs.YtbkbganflnemeaaW.PrintMore
attribute [local go_sem] max2_int min2_int max_two min_two max_three min_three max_four min_four   -- for this text's walks alone
set_option linter.unusedVariables false
set_option linter.unusedSimpArgs false
def keys_Send.f (k : Nat) (a0 : ByteArray) (a1 : Int) : Option (ByteArray × Int) := (keys_member.f a1).bind fun t280 => ((keys_one.f a1).bind fun t281 => ((keys_of.f k a0 t280 (([(⟨#[115, 101, 110, 100]⟩ : ByteArray), t281] : List ByteArray))).bind fun bt285 => (some (bt285.1, bt285.2))))
set_option maxHeartbeats 8000000 in
set_option maxRecDepth 100000 in
theorem keys_Send.calls (k : Nat) (a0 : ByteArray) (a1 : Int) (r1 : ByteArray) (r2 : Int) (w : World) (h : keys_Send.f k a0 a1 = some (r1, r2)) :
    Calls Try.prog 18 #[.string a0, .int .i64 a1] w fun e w' => e = .returned (.tuple #[.string r1, .int .i64 r2]) ∧ Below w.heap.size w w' := by
  have HB := Aside0.mk (Below.refl w.heap.size w)
  have H : ((keys_member.f a1).bind fun t280 => ((keys_one.f a1).bind fun t281 => ((keys_of.f k a0 t280 (([(⟨#[115, 101, 110, 100]⟩ : ByteArray), t281] : List ByteArray))).bind fun bt285 => (some (bt285.1, bt285.2))))) = some (r1, r2) := h
  clear h
  replace H := Option.bind_eq_some_iff.mp H
  obtain ⟨t280, A30, H⟩ := H
  replace H : ((keys_one.f a1).bind fun t281 => ((keys_of.f k a0 t280 (([(⟨#[115, 101, 110, 100]⟩ : ByteArray), t281] : List ByteArray))).bind fun bt285 => (some (bt285.1, bt285.2)))) = some (r1, r2) := H
  have A3 := Aside0.mk A30
  clear A30
  replace H := Option.bind_eq_some_iff.mp H
  obtain ⟨t281, A40, H⟩ := H
  replace H : ((keys_of.f k a0 t280 (([(⟨#[115, 101, 110, 100]⟩ : ByteArray), t281] : List ByteArray))).bind fun bt285 => (some (bt285.1, bt285.2))) = some (r1, r2) := H
  have A4 := Aside0.mk A40
  clear A40
  obtain ⟨y282, hy282⟩ : ∃ y_ : List ByteArray, y_ = (([(⟨#[115, 101, 110, 100]⟩ : ByteArray), t281] : List ByteArray)) := ⟨_, rfl⟩
  replace H : ((keys_of.f k a0 t280 y282).bind fun bt285 => (some (bt285.1, bt285.2))) = some (r1, r2) := by first | (rw [hy282]; with_reducible exact H) | (have H2_ := (Option.bind_some _ _).symm.trans H; rw [hy282]; with_reducible exact H2_) | (have H2_ := (Option.bind_some _ _).symm.trans H; with_reducible exact H2_) | with_reducible exact H | (rw [hy282]; exact H) | exact H
  have Ny282 := Aside0.mk hy282
  clear hy282
  replace H := Option.bind_eq_some_iff.mp H
  obtain ⟨⟨t285, t286⟩, A50, H⟩ := H
  replace H : (some (t285, t286)) = some (r1, r2) := H
  have A5 := Aside0.mk A50
  clear A50
  simp only [Option.some.injEq, Prod.mk.injEq] at H
  obtain ⟨rfl, rfl⟩ := H
  go_enter Try.func18, Try.ntmps18
  go_wp2_with (first | ((with_reducible refine gate_callee (f := 48) rfl ?_); refine goesL_ (some 8) rfl rfl Try.func48 (by kernel_rfl) rfl #[.int .i64 a1] rfl (by (try simp only [List.map_toArray, List.map_cons, List.map_nil]); first | done | rfl | (simp only [List.length_drop, List.length_take]; rfl)) ?_; (with_reducible refine (keys_member.calls a1 t280 _ A3.out).mono ?_); rintro e w' ⟨rfl, ⟨nd, rfl⟩⟩; refine ⟨_, rfl, ?_⟩) | ((with_reducible refine gate_callee (f := 50) rfl ?_); refine goesL_ (some 10) rfl rfl Try.func50 (by kernel_rfl) rfl #[.int .i64 a1] rfl (by (try simp only [List.map_toArray, List.map_cons, List.map_nil]); first | done | rfl | (simp only [List.length_drop, List.length_take]; rfl)) ?_; (with_reducible refine (keys_one.calls a1 t281 _ A4.out).mono ?_); rintro e w6 ⟨rfl, hb⟩; refine ⟨_, rfl, ?_⟩; have n0_ := Aside0.mk (below_step (by repeat (first | (with_reducible first | exact HB.out | apply below_alloc | apply pw_below_drewN | apply below_drew1) | exact HB.out)) hb); clear HB; have HB := n0_; clear n0_; (try clear hb); (try clear hb2); (try clear hk); (try clear hi)) | ((with_reducible refine gate_dst (N := 11) rfl ?_); refine Kd.R_lit Kd.string _ 9 ?hg (N := 11) ?hd (xs := ([(⟨#[115, 101, 110, 100]⟩ : ByteArray), t281] : List ByteArray)) (inner := [.string (⟨#[115, 101, 110, 100]⟩ : ByteArray), .string t281]) (ok := fun _ => True) (okp := fun _ => True) ?hr ?hp (fun _ hk => hk) trivial (Below.refl _ _) (Nat.le_refl _) (by simp) ?_; (case hd => rfl); (case hg => rfl); (case hr => first | (go_simp; done) | (go_simp; rfl)); (case hp => exact (Reps.one (show Kd.M Kd.string _ _ _ (⟨#[115, 101, 110, 100]⟩ : ByteArray) [.string (⟨#[115, 101, 110, 100]⟩ : ByteArray)] from rfl) (Reps.one (show Kd.M Kd.string _ _ _ t281 [.string t281] from rfl) (Reps.none _ _)))); intro v283 w7 ho8 hb hg_ hnew_; clear hg_ hnew_; (first | rw [← Ny282.out] at ho8 | (simp only [Int.reduceToNat] at ho8; rw [← Ny282.out] at ho8)); have n0_ := Aside0.mk (Kd.R_lower ho8 (below_size (by repeat (first | (with_reducible first | exact HB.out | apply below_alloc | apply pw_below_drewN | apply below_drew1) | exact HB.out)))); have n1_ := Aside0.mk (below_step (by repeat (first | (with_reducible first | exact HB.out | apply below_alloc | apply pw_below_drewN | apply below_drew1) | exact HB.out)) hb); clear HB; have HO284 := n0_; have HB := n1_; clear n0_ n1_; clear hb ho8; obtain ⟨Ao9, co9, eo9⟩ := Kd.R_slice HO284.out; subst eo9) | ((with_reducible refine gate_callee (f := 56) rfl ?_); refine goesL_ (some 12) rfl rfl Try.func56 (by kernel_rfl) rfl #[.string a0, .bool t280, .slice Ao9 y282.length co9] rfl (by (try simp only [List.map_toArray, List.map_cons, List.map_nil]); first | done | rfl | (simp only [List.length_drop, List.length_take]; rfl)) ?_; (with_reducible refine (keys_of.calls k a0 t280 _ _ y282 t285 t286 _ ?side1 ?side2 A5.out).mono ?_); (case side1 => repeat (first | exact (Kd.R_reads' HO284.out).2.2 | (with_reducible refine Kd.C_alloc ?_ _) | (with_reducible refine Kd.C_drewN ?_ _) | (with_reducible refine Kd.C_drew ?_))); (case side2 => exact (Kd.R_reads' HO284.out).2.1); rintro e w10 ⟨rfl, hb⟩; refine ⟨_, rfl, ?_⟩; have n0_ := Aside0.mk (Kd.R_below (by (with_reducible repeat (first | apply Kd.R_alloc | apply Kd.R_drewN | apply Kd.R_drew)); exact HO284.out) hb); have n1_ := Aside0.mk (below_step (by repeat (first | (with_reducible first | exact HB.out | apply below_alloc | apply pw_below_drewN | apply below_drew1) | exact HB.out)) hb); clear HO284; clear HB; have HO284 := n0_; have HB := n1_; clear n0_ n1_; (try clear hb); (try clear hb2); (try clear hk); (try clear hi)))
  go_ret2
  exact ⟨by first | rfl | (simp [errW_none, errW_some] <;> rfl) | (simp [*, errW_none, errW_some] <;> rfl), by repeat (first | (with_reducible first | exact HB.out | apply below_alloc | apply pw_below_drewN | apply below_drew1) | exact HB.out)⟩
end Go.Proofs.Ytbkbganflnemeaa.Pr
end

section
namespace Go.Proofs.Ytbkbganflnemeaa.Pr
open Go.RowKit Go.Proofs.YtbkbganflnemeaaW.PrintWords Go.Proofs.YtbkbganflnemeaaW.PrintLast Go.Proofs.YtbkbganflnemeaaW.PrintMore
attribute [local go_sem] max2_int min2_int max_two min_two max_three min_three max_four min_four   -- for this text's walks alone
set_option linter.unusedVariables false
set_option linter.unusedSimpArgs false
def samphireref15_Send.f (k : Nat) (a0 : ByteArray) (a1 : Int) : Option (ByteArray × Int) := if (a0.size : Int) = 32 then (if a1 < 1 then (some ((⟨#[]⟩ : ByteArray), 1)) else (if a1 > 6 then (some ((⟨#[]⟩ : ByteArray), 1)) else ((some (([(a1) % 256] : List Int) : List Int)).bind fun y302 => (if 4 + (strOfNums y302).size ≤ 9223372036854775807 then ((samphireref04_Expand.f k a0 ((⟨#[115, 101, 110, 100]⟩ : ByteArray) ++ (strOfNums y302)) 32).bind fun bt305 => (some (bt305.1, bt305.2))) else (none))))) else (some ((⟨#[]⟩ : ByteArray), 1))
set_option maxHeartbeats 8000000 in
set_option maxRecDepth 100000 in
theorem samphireref15_Send.calls (k : Nat) (a0 : ByteArray) (a1 : Int) (r1 : ByteArray) (r2 : Int) (w : World) (h : samphireref15_Send.f k a0 a1 = some (r1, r2)) :
    Calls Try.prog 19 #[.string a0, .int .i64 a1] w fun e w' => e = .returned (.tuple #[.string r1, .int .i64 r2]) ∧ Below w.heap.size w w' := by
  have HB := Aside0.mk (Below.refl w.heap.size w)
  have H : (if (a0.size : Int) = 32 then (if a1 < 1 then (some ((⟨#[]⟩ : ByteArray), 1)) else (if a1 > 6 then (some ((⟨#[]⟩ : ByteArray), 1)) else ((some (([(a1) % 256] : List Int) : List Int)).bind fun y302 => (if 4 + (strOfNums y302).size ≤ 9223372036854775807 then ((samphireref04_Expand.f k a0 ((⟨#[115, 101, 110, 100]⟩ : ByteArray) ++ (strOfNums y302)) 32).bind fun bt305 => (some (bt305.1, bt305.2))) else (none))))) else (some ((⟨#[]⟩ : ByteArray), 1))) = some (r1, r2) := h
  clear h
  by_cases c3 : (a0.size : Int) = 32
  · rw [if_pos c3] at H
    have c3b0 : ((a0.size : Int) == 32) = true := beq_iff_eq.mpr c3
    have c3b1 : ((a0.size : Int) != 32) = false := bne_eq_false_iff_eq.mpr c3
    clear c3
    by_cases c4 : a1 < 1
    · rw [if_pos c4] at H
      have c4b0 : decide (a1 < 1) = true := decide_eq_true c4
      clear c4
      simp only [Option.some.injEq, Prod.mk.injEq] at H
      obtain ⟨rfl, rfl⟩ := H
      go_enter Try.func19, Try.ntmps19
      go_wp2
      go_ret2
      exact ⟨by first | rfl | (simp [errW_none, errW_some] <;> rfl) | (simp [*, errW_none, errW_some] <;> rfl), by repeat (first | (with_reducible first | exact HB.out | apply below_alloc | apply pw_below_drewN | apply below_drew1) | exact HB.out)⟩
    · rw [if_neg c4] at H
      have c4b0 : decide (a1 < 1) = false := decide_eq_false c4
      clear c4
      by_cases c5 : a1 > 6
      · rw [if_pos c5] at H
        have c5b0 : decide (6 < a1) = true := decide_eq_true c5
        clear c5
        simp only [Option.some.injEq, Prod.mk.injEq] at H
        obtain ⟨rfl, rfl⟩ := H
        go_enter Try.func19, Try.ntmps19
        go_wp2
        go_ret2
        exact ⟨by first | rfl | (simp [errW_none, errW_some] <;> rfl) | (simp [*, errW_none, errW_some] <;> rfl), by repeat (first | (with_reducible first | exact HB.out | apply below_alloc | apply pw_below_drewN | apply below_drew1) | exact HB.out)⟩
      · rw [if_neg c5] at H
        have c5b0 : decide (6 < a1) = false := decide_eq_false c5
        clear c5
        obtain ⟨y302, hy302⟩ : ∃ y_ : List Int, y_ = (([(a1) % 256] : List Int)) := ⟨_, rfl⟩
        replace H : (if 4 + (strOfNums y302).size ≤ 9223372036854775807 then ((samphireref04_Expand.f k a0 ((⟨#[115, 101, 110, 100]⟩ : ByteArray) ++ (strOfNums y302)) 32).bind fun bt305 => (some (bt305.1, bt305.2))) else (none)) = some (r1, r2) := by first | (rw [hy302]; with_reducible exact H) | (have H2_ := (Option.bind_some _ _).symm.trans H; rw [hy302]; with_reducible exact H2_) | (have H2_ := (Option.bind_some _ _).symm.trans H; with_reducible exact H2_) | with_reducible exact H | (rw [hy302]; exact H) | exact H
        have Ny302 := Aside0.mk hy302
        clear hy302
        by_cases c6 : 4 + (strOfNums y302).size ≤ 9223372036854775807
        · rw [if_pos c6] at H
          have c6b0 := eq_true c6
          have c6b1 : decide (4 + (strOfNums y302).size ≤ 9223372036854775807) = true := decide_eq_true c6
          try have c6b2 : (9223372036854775807 < 4 + (strOfNums y302).size) = False := eq_false (Nat.not_lt.2 c6)
          replace H := Option.bind_eq_some_iff.mp H
          obtain ⟨⟨t305, t306⟩, A70, H⟩ := H
          replace H : (some (t305, t306)) = some (r1, r2) := H
          have A7 := Aside0.mk A70
          clear A70
          simp only [Option.some.injEq, Prod.mk.injEq] at H
          obtain ⟨rfl, rfl⟩ := H
          go_enter Try.func19, Try.ntmps19
          go_wp2_with (first | ((with_reducible refine gate_dst (N := 20) rfl ?_); refine Kd.R_lit (Kd.int .u8) _ 5 ?hg (N := 20) ?hd (xs := ([(a1) % 256] : List Int)) (inner := [.int .u8 ((a1) % 256)]) (ok := fun _ => True) (okp := fun _ => True) ?hr ?hp (fun _ hk => hk) trivial (Below.refl _ _) (Nat.le_refl _) (by simp) ?_; (case hd => rfl); (case hg => rfl); (case hr => first | (go_simp; done) | (go_simp; rfl)); (case hp => exact (Reps.one (show Kd.M (Kd.int .u8) _ _ _ ((a1) % 256) [.int .u8 ((a1) % 256)] from rfl) (Reps.none _ _))); intro v303 w8 ho9 hb hg_ hnew_; clear hg_ hnew_; (first | rw [← Ny302.out] at ho9 | (simp only [Int.reduceToNat] at ho9; rw [← Ny302.out] at ho9)); have n0_ := Aside0.mk (Kd.R_lower ho9 (below_size (by repeat (first | (with_reducible first | exact HB.out | apply below_alloc | apply pw_below_drewN | apply below_drew1) | exact HB.out)))); have n1_ := Aside0.mk (below_step (by repeat (first | (with_reducible first | exact HB.out | apply below_alloc | apply pw_below_drewN | apply below_drew1) | exact HB.out)) hb); clear HB; have HO304 := n0_; have HB := n1_; clear n0_ n1_; clear hb ho9; have hcv10 := own_string (P := Try.prog) Try.underlying68 Try.underlying5 Try.underlying9 (Kd.own_of_R HO304.out)) | ((with_reducible refine gate_callee (f := 57) rfl ?_); refine goesL_ (some 23) rfl rfl Try.func57 (by kernel_rfl) rfl #[.string a0, .string ((⟨#[115, 101, 110, 100]⟩ : ByteArray) ++ (strOfNums y302)), .int .i64 32] rfl (by (try simp only [List.map_toArray, List.map_cons, List.map_nil]); first | done | rfl | (simp only [List.length_drop, List.length_take]; rfl)) ?_; (with_reducible refine (samphireref04_Expand.calls k a0 ((⟨#[115, 101, 110, 100]⟩ : ByteArray) ++ (strOfNums y302)) 32 t305 t306 _ A7.out).mono ?_); rintro e w11 ⟨rfl, hb⟩; refine ⟨_, rfl, ?_⟩; have n0_ := Aside0.mk (Kd.R_below (by (with_reducible repeat (first | apply Kd.R_alloc | apply Kd.R_drewN | apply Kd.R_drew)); exact HO304.out) hb); have n1_ := Aside0.mk (below_step (by repeat (first | (with_reducible first | exact HB.out | apply below_alloc | apply pw_below_drewN | apply below_drew1) | exact HB.out)) hb); clear HO304; clear HB; have HO304 := n0_; have HB := n1_; clear n0_ n1_; (try clear hb); (try clear hb2); (try clear hk); (try clear hi)))
          go_ret2
          exact ⟨by first | rfl | (simp [errW_none, errW_some] <;> rfl) | (simp [*, errW_none, errW_some] <;> rfl), by repeat (first | (with_reducible first | exact HB.out | apply below_alloc | apply pw_below_drewN | apply below_drew1) | exact HB.out)⟩
        · rw [if_neg c6] at H
          exact absurd H (by simp)
  · rw [if_neg c3] at H
    have c3b0 : ((a0.size : Int) == 32) = false := beq_eq_false_iff_ne.mpr c3
    have c3b1 : ((a0.size : Int) != 32) = true := bne_iff_ne.mpr c3
    simp only [Option.some.injEq, Prod.mk.injEq] at H
    obtain ⟨rfl, rfl⟩ := H
    go_enter Try.func19, Try.ntmps19
    go_wp2
    go_ret2
    exact ⟨by first | rfl | (simp [errW_none, errW_some] <;> rfl) | (simp [*, errW_none, errW_some] <;> rfl), by repeat (first | (with_reducible first | exact HB.out | apply below_alloc | apply pw_below_drewN | apply below_drew1) | exact HB.out)⟩
end Go.Proofs.Ytbkbganflnemeaa.Pr
end

section
namespace Go.Proofs.Ytbkbganflnemeaa.Pr
open Go.RowKit Go.Proofs.YtbkbganflnemeaaW.PrintWords Go.Proofs.YtbkbganflnemeaaW.PrintLast Go.Proofs.YtbkbganflnemeaaW.PrintMore
attribute [local go_sem] max2_int min2_int max_two min_two max_three min_three max_four min_four   -- for this text's walks alone
set_option linter.unusedVariables false
set_option linter.unusedSimpArgs false
def keys_Keep.f (k : Nat) (a0 : ByteArray) : Option (ByteArray × Int) := (keys_of.f k a0 true (([(⟨#[107, 101, 101, 112]⟩ : ByteArray)] : List ByteArray))).bind fun bt310 => (some (bt310.1, bt310.2))
set_option maxHeartbeats 8000000 in
set_option maxRecDepth 100000 in
theorem keys_Keep.calls (k : Nat) (a0 : ByteArray) (r1 : ByteArray) (r2 : Int) (w : World) (h : keys_Keep.f k a0 = some (r1, r2)) :
    Calls Try.prog 20 #[.string a0] w fun e w' => e = .returned (.tuple #[.string r1, .int .i64 r2]) ∧ Below w.heap.size w w' := by
  have HB := Aside0.mk (Below.refl w.heap.size w)
  have H : ((keys_of.f k a0 true (([(⟨#[107, 101, 101, 112]⟩ : ByteArray)] : List ByteArray))).bind fun bt310 => (some (bt310.1, bt310.2))) = some (r1, r2) := h
  clear h
  obtain ⟨y307, hy307⟩ : ∃ y_ : List ByteArray, y_ = (([(⟨#[107, 101, 101, 112]⟩ : ByteArray)] : List ByteArray)) := ⟨_, rfl⟩
  replace H : ((keys_of.f k a0 true y307).bind fun bt310 => (some (bt310.1, bt310.2))) = some (r1, r2) := by first | (rw [hy307]; with_reducible exact H) | (have H2_ := (Option.bind_some _ _).symm.trans H; rw [hy307]; with_reducible exact H2_) | (have H2_ := (Option.bind_some _ _).symm.trans H; with_reducible exact H2_) | with_reducible exact H | (rw [hy307]; exact H) | exact H
  have Ny307 := Aside0.mk hy307
  clear hy307
  replace H := Option.bind_eq_some_iff.mp H
  obtain ⟨⟨t310, t311⟩, A20, H⟩ := H
  replace H : (some (t310, t311)) = some (r1, r2) := H
  have A2 := Aside0.mk A20
  clear A20
  simp only [Option.some.injEq, Prod.mk.injEq] at H
  obtain ⟨rfl, rfl⟩ := H
  go_enter Try.func20, Try.ntmps20
  go_wp2_with (first | ((with_reducible refine gate_dst (N := 5) rfl ?_); refine Kd.R_lit Kd.string _ 9 ?hg (N := 5) ?hd (xs := ([(⟨#[107, 101, 101, 112]⟩ : ByteArray)] : List ByteArray)) (inner := [.string (⟨#[107, 101, 101, 112]⟩ : ByteArray)]) (ok := fun _ => True) (okp := fun _ => True) ?hr ?hp (fun _ hk => hk) trivial (Below.refl _ _) (Nat.le_refl _) (by simp) ?_; (case hd => rfl); (case hg => rfl); (case hr => first | (go_simp; done) | (go_simp; rfl)); (case hp => exact (Reps.one (show Kd.M Kd.string _ _ _ (⟨#[107, 101, 101, 112]⟩ : ByteArray) [.string (⟨#[107, 101, 101, 112]⟩ : ByteArray)] from rfl) (Reps.none _ _))); intro v308 w3 ho4 hb hg_ hnew_; clear hg_ hnew_; (first | rw [← Ny307.out] at ho4 | (simp only [Int.reduceToNat] at ho4; rw [← Ny307.out] at ho4)); have n0_ := Aside0.mk (Kd.R_lower ho4 (below_size (by repeat (first | (with_reducible first | exact HB.out | apply below_alloc | apply pw_below_drewN | apply below_drew1) | exact HB.out)))); have n1_ := Aside0.mk (below_step (by repeat (first | (with_reducible first | exact HB.out | apply below_alloc | apply pw_below_drewN | apply below_drew1) | exact HB.out)) hb); clear HB; have HO309 := n0_; have HB := n1_; clear n0_ n1_; clear hb ho4; obtain ⟨Ao5, co5, eo5⟩ := Kd.R_slice HO309.out; subst eo5) | ((with_reducible refine gate_callee (f := 56) rfl ?_); refine goesL_ (some 6) rfl rfl Try.func56 (by kernel_rfl) rfl #[.string a0, .bool true, .slice Ao5 y307.length co5] rfl (by (try simp only [List.map_toArray, List.map_cons, List.map_nil]); first | done | rfl | (simp only [List.length_drop, List.length_take]; rfl)) ?_; (with_reducible refine (keys_of.calls k a0 true _ _ y307 t310 t311 _ ?side1 ?side2 A2.out).mono ?_); (case side1 => repeat (first | exact (Kd.R_reads' HO309.out).2.2 | (with_reducible refine Kd.C_alloc ?_ _) | (with_reducible refine Kd.C_drewN ?_ _) | (with_reducible refine Kd.C_drew ?_))); (case side2 => exact (Kd.R_reads' HO309.out).2.1); rintro e w6 ⟨rfl, hb⟩; refine ⟨_, rfl, ?_⟩; have n0_ := Aside0.mk (Kd.R_below (by (with_reducible repeat (first | apply Kd.R_alloc | apply Kd.R_drewN | apply Kd.R_drew)); exact HO309.out) hb); have n1_ := Aside0.mk (below_step (by repeat (first | (with_reducible first | exact HB.out | apply below_alloc | apply pw_below_drewN | apply below_drew1) | exact HB.out)) hb); clear HO309; clear HB; have HO309 := n0_; have HB := n1_; clear n0_ n1_; (try clear hb); (try clear hb2); (try clear hk); (try clear hi)))
  go_ret2
  exact ⟨by first | rfl | (simp [errW_none, errW_some] <;> rfl) | (simp [*, errW_none, errW_some] <;> rfl), by repeat (first | (with_reducible first | exact HB.out | apply below_alloc | apply pw_below_drewN | apply below_drew1) | exact HB.out)⟩
end Go.Proofs.Ytbkbganflnemeaa.Pr
end

section
namespace Go.Proofs.Ytbkbganflnemeaa.Pr
open Go.RowKit Go.Proofs.YtbkbganflnemeaaW.PrintWords Go.Proofs.YtbkbganflnemeaaW.PrintLast Go.Proofs.YtbkbganflnemeaaW.PrintMore
attribute [local go_sem] max2_int min2_int max_two min_two max_three min_three max_four min_four   -- for this text's walks alone
set_option linter.unusedVariables false
set_option linter.unusedSimpArgs false
def samphireref15_Keep.f (k : Nat) (a0 : ByteArray) : Option (ByteArray × Int) := if (a0.size : Int) = 32 then ((samphireref04_Expand.f k a0 (⟨#[107, 101, 101, 112]⟩ : ByteArray) 32).bind fun bt312 => (some (bt312.1, bt312.2))) else (some ((⟨#[]⟩ : ByteArray), 1))
set_option maxHeartbeats 8000000 in
set_option maxRecDepth 100000 in
theorem samphireref15_Keep.calls (k : Nat) (a0 : ByteArray) (r1 : ByteArray) (r2 : Int) (w : World) (h : samphireref15_Keep.f k a0 = some (r1, r2)) :
    Calls Try.prog 21 #[.string a0] w fun e w' => e = .returned (.tuple #[.string r1, .int .i64 r2]) ∧ Below w.heap.size w w' := by
  have HB := Aside0.mk (Below.refl w.heap.size w)
  have H : (if (a0.size : Int) = 32 then ((samphireref04_Expand.f k a0 (⟨#[107, 101, 101, 112]⟩ : ByteArray) 32).bind fun bt312 => (some (bt312.1, bt312.2))) else (some ((⟨#[]⟩ : ByteArray), 1))) = some (r1, r2) := h
  clear h
  by_cases c2 : (a0.size : Int) = 32
  · rw [if_pos c2] at H
    have c2b0 : ((a0.size : Int) == 32) = true := beq_iff_eq.mpr c2
    have c2b1 : ((a0.size : Int) != 32) = false := bne_eq_false_iff_eq.mpr c2
    clear c2
    replace H := Option.bind_eq_some_iff.mp H
    obtain ⟨⟨t312, t313⟩, A30, H⟩ := H
    replace H : (some (t312, t313)) = some (r1, r2) := H
    have A3 := Aside0.mk A30
    clear A30
    simp only [Option.some.injEq, Prod.mk.injEq] at H
    obtain ⟨rfl, rfl⟩ := H
    go_enter Try.func21, Try.ntmps21
    go_wp2_with (first | ((with_reducible refine gate_callee (f := 57) rfl ?_); refine goesL_ (some 8) rfl rfl Try.func57 (by kernel_rfl) rfl #[.string a0, .string (⟨#[107, 101, 101, 112]⟩ : ByteArray), .int .i64 32] rfl (by (try simp only [List.map_toArray, List.map_cons, List.map_nil]); first | done | rfl | (simp only [List.length_drop, List.length_take]; rfl)) ?_; (with_reducible refine (samphireref04_Expand.calls k a0 (⟨#[107, 101, 101, 112]⟩ : ByteArray) 32 t312 t313 _ A3.out).mono ?_); rintro e w4 ⟨rfl, hb⟩; refine ⟨_, rfl, ?_⟩; have n0_ := Aside0.mk (below_step (by repeat (first | (with_reducible first | exact HB.out | apply below_alloc | apply pw_below_drewN | apply below_drew1) | exact HB.out)) hb); clear HB; have HB := n0_; clear n0_; (try clear hb); (try clear hb2); (try clear hk); (try clear hi)))
    go_ret2
    exact ⟨by first | rfl | (simp [errW_none, errW_some] <;> rfl) | (simp [*, errW_none, errW_some] <;> rfl), by repeat (first | (with_reducible first | exact HB.out | apply below_alloc | apply pw_below_drewN | apply below_drew1) | exact HB.out)⟩
  · rw [if_neg c2] at H
    have c2b0 : ((a0.size : Int) == 32) = false := beq_eq_false_iff_ne.mpr c2
    have c2b1 : ((a0.size : Int) != 32) = true := bne_iff_ne.mpr c2
    simp only [Option.some.injEq, Prod.mk.injEq] at H
    obtain ⟨rfl, rfl⟩ := H
    go_enter Try.func21, Try.ntmps21
    go_wp2
    go_ret2
    exact ⟨by first | rfl | (simp [errW_none, errW_some] <;> rfl) | (simp [*, errW_none, errW_some] <;> rfl), by repeat (first | (with_reducible first | exact HB.out | apply below_alloc | apply pw_below_drewN | apply below_drew1) | exact HB.out)⟩
end Go.Proofs.Ytbkbganflnemeaa.Pr
end

section
namespace Go.Proofs.Ytbkbganflnemeaa.Pr
open Go.RowKit Go.Proofs.YtbkbganflnemeaaW.PrintWords Go.Proofs.YtbkbganflnemeaaW.PrintLast Go.Proofs.YtbkbganflnemeaaW.PrintMore
attribute [local go_sem] max2_int min2_int max_two min_two max_three min_three max_four min_four   -- for this text's walks alone
set_option linter.unusedVariables false
set_option linter.unusedSimpArgs false
mutual
def samphirelaw15_KeysSend.j0 : Nat → Int → Int → ByteArray → Int → ByteArray → ByteArray → Int → Bool → Option (Bool)
  | 0, _, _, _, _, _, _, _, _ => none
  | k + 1, x1, x2, x7, x8, x11, x15, x16, x66 => if x66 = true then (some false) else (if x8 = 0 then (samphirelaw15_KeysSend.j1 k x1 x2 x7 x11 x15 (x16 != 0)) else (samphirelaw15_KeysSend.j1 k x1 x2 x7 x11 x15 true))
def samphirelaw15_KeysSend.j1 : Nat → Int → Int → ByteArray → ByteArray → ByteArray → Bool → Option (Bool)
  | 0, _, _, _, _, _, _ => none
  | k + 1, x1, x2, x7, x11, x15, x72 => if x72 = true then ((samphirelaw15_awake.f k).bind fun t326 => (some t326)) else (if (x7.size : Int) = 32 then (if (x11.size : Int) = 32 then (if x1 = x2 then (if x7.toList = x15.toList then ((samphirelaw15_awake.f k).bind fun t327 => (some t327)) else (some false)) else ((samphirelaw15_awake.f k).bind fun t328 => (some t328))) else (some false)) else (some false))
end
def samphirelaw15_KeysSend.f (k : Nat) (a0 : ByteArray) (a1 : Int) (a2 : Int) : Option (Bool) := (samphirelaw15_light.f a0 (⟨#[]⟩ : ByteArray)).bind fun t314 => (if t314 = true then ((keys_Send.f k a0 a1).bind fun bt316 => ((samphireref15_Send.f k a0 a1).bind fun bt318 => ((keys_Keep.f k a0).bind fun bt320 => ((samphireref15_Keep.f k a0).bind fun bt322 => ((keys_Send.f k a0 a2).bind fun bt324 => (if bt316.1.toList = bt318.1.toList then (if bt316.2 = bt318.2 then (if bt320.1.toList = bt322.1.toList then (samphirelaw15_KeysSend.j0 k a1 a2 bt316.1 bt316.2 bt320.1 bt324.1 bt324.2 (bt320.2 != bt322.2)) else (samphirelaw15_KeysSend.j0 k a1 a2 bt316.1 bt316.2 bt320.1 bt324.1 bt324.2 true)) else (samphirelaw15_KeysSend.j0 k a1 a2 bt316.1 bt316.2 bt320.1 bt324.1 bt324.2 true)) else (samphirelaw15_KeysSend.j0 k a1 a2 bt316.1 bt316.2 bt320.1 bt324.1 bt324.2 true))))))) else ((samphirelaw15_awake.f k).bind fun t315 => (some t315)))
set_option maxHeartbeats 8000000 in
set_option maxRecDepth 100000 in
theorem samphirelaw15_KeysSend.calls (k : Nat) (a0 : ByteArray) (a1 : Int) (a2 : Int) (r : Bool) (w : World) (h : samphirelaw15_KeysSend.f k a0 a1 a2 = some r) (hr : Aside0 (r = true)) :
    Calls Try.prog 4 #[.string a0, .int .i64 a1, .int .i64 a2] w fun e w' => e = .returned (.bool r) ∧ Below w.heap.size w w' := by
  have HB := Aside0.mk (Below.refl w.heap.size w)
  have H : ((samphirelaw15_light.f a0 (⟨#[]⟩ : ByteArray)).bind fun t314 => (if t314 = true then ((keys_Send.f k a0 a1).bind fun bt316 => ((samphireref15_Send.f k a0 a1).bind fun bt318 => ((keys_Keep.f k a0).bind fun bt320 => ((samphireref15_Keep.f k a0).bind fun bt322 => ((keys_Send.f k a0 a2).bind fun bt324 => (if bt316.1.toList = bt318.1.toList then (if bt316.2 = bt318.2 then (if bt320.1.toList = bt322.1.toList then (samphirelaw15_KeysSend.j0 k a1 a2 bt316.1 bt316.2 bt320.1 bt324.1 bt324.2 (bt320.2 != bt322.2)) else (samphirelaw15_KeysSend.j0 k a1 a2 bt316.1 bt316.2 bt320.1 bt324.1 bt324.2 true)) else (samphirelaw15_KeysSend.j0 k a1 a2 bt316.1 bt316.2 bt320.1 bt324.1 bt324.2 true)) else (samphirelaw15_KeysSend.j0 k a1 a2 bt316.1 bt316.2 bt320.1 bt324.1 bt324.2 true))))))) else ((samphirelaw15_awake.f k).bind fun t315 => (some t315)))) = some r := h
  clear h
  replace H := Option.bind_eq_some_iff.mp H
  obtain ⟨t314, A40, H⟩ := H
  replace H : (if t314 = true then ((keys_Send.f k a0 a1).bind fun bt316 => ((samphireref15_Send.f k a0 a1).bind fun bt318 => ((keys_Keep.f k a0).bind fun bt320 => ((samphireref15_Keep.f k a0).bind fun bt322 => ((keys_Send.f k a0 a2).bind fun bt324 => (if bt316.1.toList = bt318.1.toList then (if bt316.2 = bt318.2 then (if bt320.1.toList = bt322.1.toList then (samphirelaw15_KeysSend.j0 k a1 a2 bt316.1 bt316.2 bt320.1 bt324.1 bt324.2 (bt320.2 != bt322.2)) else (samphirelaw15_KeysSend.j0 k a1 a2 bt316.1 bt316.2 bt320.1 bt324.1 bt324.2 true)) else (samphirelaw15_KeysSend.j0 k a1 a2 bt316.1 bt316.2 bt320.1 bt324.1 bt324.2 true)) else (samphirelaw15_KeysSend.j0 k a1 a2 bt316.1 bt316.2 bt320.1 bt324.1 bt324.2 true))))))) else ((samphirelaw15_awake.f k).bind fun t315 => (some t315))) = some r := H
  have A4 := Aside0.mk A40
  clear A40
  by_cases c5 : t314 = true
  · subst c5
    have H1 : ((keys_Send.f k a0 a1).bind fun bt316 => ((samphireref15_Send.f k a0 a1).bind fun bt318 => ((keys_Keep.f k a0).bind fun bt320 => ((samphireref15_Keep.f k a0).bind fun bt322 => ((keys_Send.f k a0 a2).bind fun bt324 => (if bt316.1.toList = bt318.1.toList then (if bt316.2 = bt318.2 then (if bt320.1.toList = bt322.1.toList then (samphirelaw15_KeysSend.j0 k a1 a2 bt316.1 bt316.2 bt320.1 bt324.1 bt324.2 (bt320.2 != bt322.2)) else (samphirelaw15_KeysSend.j0 k a1 a2 bt316.1 bt316.2 bt320.1 bt324.1 bt324.2 true)) else (samphirelaw15_KeysSend.j0 k a1 a2 bt316.1 bt316.2 bt320.1 bt324.1 bt324.2 true)) else (samphirelaw15_KeysSend.j0 k a1 a2 bt316.1 bt316.2 bt320.1 bt324.1 bt324.2 true))))))) = some r := by rw [if_pos rfl] at H; exact H
    clear H
    have H := H1
    clear H1
    replace H := Option.bind_eq_some_iff.mp H
    obtain ⟨⟨t316, t317⟩, A60, H⟩ := H
    replace H : ((samphireref15_Send.f k a0 a1).bind fun bt318 => ((keys_Keep.f k a0).bind fun bt320 => ((samphireref15_Keep.f k a0).bind fun bt322 => ((keys_Send.f k a0 a2).bind fun bt324 => (if t316.toList = bt318.1.toList then (if t317 = bt318.2 then (if bt320.1.toList = bt322.1.toList then (samphirelaw15_KeysSend.j0 k a1 a2 t316 t317 bt320.1 bt324.1 bt324.2 (bt320.2 != bt322.2)) else (samphirelaw15_KeysSend.j0 k a1 a2 t316 t317 bt320.1 bt324.1 bt324.2 true)) else (samphirelaw15_KeysSend.j0 k a1 a2 t316 t317 bt320.1 bt324.1 bt324.2 true)) else (samphirelaw15_KeysSend.j0 k a1 a2 t316 t317 bt320.1 bt324.1 bt324.2 true)))))) = some r := H
    have A6 := Aside0.mk A60
    clear A60
    replace H := Option.bind_eq_some_iff.mp H
    obtain ⟨⟨t318, t319⟩, A70, H⟩ := H
    replace H : ((keys_Keep.f k a0).bind fun bt320 => ((samphireref15_Keep.f k a0).bind fun bt322 => ((keys_Send.f k a0 a2).bind fun bt324 => (if t316.toList = t318.toList then (if t317 = t319 then (if bt320.1.toList = bt322.1.toList then (samphirelaw15_KeysSend.j0 k a1 a2 t316 t317 bt320.1 bt324.1 bt324.2 (bt320.2 != bt322.2)) else (samphirelaw15_KeysSend.j0 k a1 a2 t316 t317 bt320.1 bt324.1 bt324.2 true)) else (samphirelaw15_KeysSend.j0 k a1 a2 t316 t317 bt320.1 bt324.1 bt324.2 true)) else (samphirelaw15_KeysSend.j0 k a1 a2 t316 t317 bt320.1 bt324.1 bt324.2 true))))) = some r := H
    have A7 := Aside0.mk A70
    clear A70
    replace H := Option.bind_eq_some_iff.mp H
    obtain ⟨⟨t320, t321⟩, A80, H⟩ := H
    replace H : ((samphireref15_Keep.f k a0).bind fun bt322 => ((keys_Send.f k a0 a2).bind fun bt324 => (if t316.toList = t318.toList then (if t317 = t319 then (if t320.toList = bt322.1.toList then (samphirelaw15_KeysSend.j0 k a1 a2 t316 t317 t320 bt324.1 bt324.2 (t321 != bt322.2)) else (samphirelaw15_KeysSend.j0 k a1 a2 t316 t317 t320 bt324.1 bt324.2 true)) else (samphirelaw15_KeysSend.j0 k a1 a2 t316 t317 t320 bt324.1 bt324.2 true)) else (samphirelaw15_KeysSend.j0 k a1 a2 t316 t317 t320 bt324.1 bt324.2 true)))) = some r := H
    have A8 := Aside0.mk A80
    clear A80
    replace H := Option.bind_eq_some_iff.mp H
    obtain ⟨⟨t322, t323⟩, A90, H⟩ := H
    replace H : ((keys_Send.f k a0 a2).bind fun bt324 => (if t316.toList = t318.toList then (if t317 = t319 then (if t320.toList = t322.toList then (samphirelaw15_KeysSend.j0 k a1 a2 t316 t317 t320 bt324.1 bt324.2 (t321 != t323)) else (samphirelaw15_KeysSend.j0 k a1 a2 t316 t317 t320 bt324.1 bt324.2 true)) else (samphirelaw15_KeysSend.j0 k a1 a2 t316 t317 t320 bt324.1 bt324.2 true)) else (samphirelaw15_KeysSend.j0 k a1 a2 t316 t317 t320 bt324.1 bt324.2 true))) = some r := H
    have A9 := Aside0.mk A90
    clear A90
    replace H := Option.bind_eq_some_iff.mp H
    obtain ⟨⟨t324, t325⟩, A100, H⟩ := H
    replace H : (if t316.toList = t318.toList then (if t317 = t319 then (if t320.toList = t322.toList then (samphirelaw15_KeysSend.j0 k a1 a2 t316 t317 t320 t324 t325 (t321 != t323)) else (samphirelaw15_KeysSend.j0 k a1 a2 t316 t317 t320 t324 t325 true)) else (samphirelaw15_KeysSend.j0 k a1 a2 t316 t317 t320 t324 t325 true)) else (samphirelaw15_KeysSend.j0 k a1 a2 t316 t317 t320 t324 t325 true)) = some r := H
    have A10 := Aside0.mk A100
    clear A100
    have HC11 := Aside0.mk H
    clear H
    go_enter Try.func4, Try.ntmps4
    go_upto_region 8 with (first | ((with_reducible refine gate_callee (f := 17) rfl ?_); refine goesL_ (some 18) rfl rfl Try.func17 (by kernel_rfl) rfl #[.string a0, .string (⟨#[]⟩ : ByteArray)] rfl (by (try simp only [List.map_toArray, List.map_cons, List.map_nil]); first | done | rfl | (simp only [List.length_drop, List.length_take]; rfl)) ?_; (with_reducible refine (samphirelaw15_light.calls a0 (⟨#[]⟩ : ByteArray) true _ A4.out).mono ?_); rintro e w' ⟨rfl, ⟨nd, rfl⟩⟩; refine ⟨_, rfl, ?_⟩) | ((with_reducible refine gate_callee (f := 18) rfl ?_); refine goesL_ (some 24) rfl rfl Try.func18 (by kernel_rfl) rfl #[.string a0, .int .i64 a1] rfl (by (try simp only [List.map_toArray, List.map_cons, List.map_nil]); first | done | rfl | (simp only [List.length_drop, List.length_take]; rfl)) ?_; (with_reducible refine (keys_Send.calls k a0 a1 t316 t317 _ A6.out).mono ?_); rintro e w12 ⟨rfl, hb⟩; refine ⟨_, rfl, ?_⟩; have n0_ := Aside0.mk (below_step (by repeat (first | (with_reducible first | exact HB.out | apply below_alloc | apply pw_below_drewN | apply below_drew1) | exact HB.out)) hb); clear HB; have HB := n0_; clear n0_; (try clear hb); (try clear hb2); (try clear hk); (try clear hi)) | ((with_reducible refine gate_callee (f := 19) rfl ?_); refine goesL_ (some 30) rfl rfl Try.func19 (by kernel_rfl) rfl #[.string a0, .int .i64 a1] rfl (by (try simp only [List.map_toArray, List.map_cons, List.map_nil]); first | done | rfl | (simp only [List.length_drop, List.length_take]; rfl)) ?_; (with_reducible refine (samphireref15_Send.calls k a0 a1 t318 t319 _ A7.out).mono ?_); rintro e w13 ⟨rfl, hb⟩; refine ⟨_, rfl, ?_⟩; have n0_ := Aside0.mk (below_step (by repeat (first | (with_reducible first | exact HB.out | apply below_alloc | apply pw_below_drewN | apply below_drew1) | exact HB.out)) hb); clear HB; have HB := n0_; clear n0_; (try clear hb); (try clear hb2); (try clear hk); (try clear hi)) | ((with_reducible refine gate_callee (f := 20) rfl ?_); refine goesL_ (some 35) rfl rfl Try.func20 (by kernel_rfl) rfl #[.string a0] rfl (by (try simp only [List.map_toArray, List.map_cons, List.map_nil]); first | done | rfl | (simp only [List.length_drop, List.length_take]; rfl)) ?_; (with_reducible refine (keys_Keep.calls k a0 t320 t321 _ A8.out).mono ?_); rintro e w14 ⟨rfl, hb⟩; refine ⟨_, rfl, ?_⟩; have n0_ := Aside0.mk (below_step (by repeat (first | (with_reducible first | exact HB.out | apply below_alloc | apply pw_below_drewN | apply below_drew1) | exact HB.out)) hb); clear HB; have HB := n0_; clear n0_; (try clear hb); (try clear hb2); (try clear hk); (try clear hi)) | ((with_reducible refine gate_callee (f := 21) rfl ?_); refine goesL_ (some 40) rfl rfl Try.func21 (by kernel_rfl) rfl #[.string a0] rfl (by (try simp only [List.map_toArray, List.map_cons, List.map_nil]); first | done | rfl | (simp only [List.length_drop, List.length_take]; rfl)) ?_; (with_reducible refine (samphireref15_Keep.calls k a0 t322 t323 _ A9.out).mono ?_); rintro e w15 ⟨rfl, hb⟩; refine ⟨_, rfl, ?_⟩; have n0_ := Aside0.mk (below_step (by repeat (first | (with_reducible first | exact HB.out | apply below_alloc | apply pw_below_drewN | apply below_drew1) | exact HB.out)) hb); clear HB; have HB := n0_; clear n0_; (try clear hb); (try clear hb2); (try clear hk); (try clear hi)) | ((with_reducible refine gate_callee (f := 18) rfl ?_); refine goesL_ (some 46) rfl rfl Try.func18 (by kernel_rfl) rfl #[.string a0, .int .i64 a2] rfl (by (try simp only [List.map_toArray, List.map_cons, List.map_nil]); first | done | rfl | (simp only [List.length_drop, List.length_take]; rfl)) ?_; (with_reducible refine (keys_Send.calls k a0 a2 t324 t325 _ A10.out).mono ?_); rintro e w16 ⟨rfl, hb⟩; refine ⟨_, rfl, ?_⟩; have n0_ := Aside0.mk (below_step (by repeat (first | (with_reducible first | exact HB.out | apply below_alloc | apply pw_below_drewN | apply below_drew1) | exact HB.out)) hb); clear HB; have HB := n0_; clear n0_; (try clear hb); (try clear hb2); (try clear hk); (try clear hi)))
    (try simp only [Act.put, List.setIfInBounds_toArray, List.set_cons_zero, List.set_cons_succ])
    go_cut [66] (fun v66 wc => ∃ (kq : Nat) (x66_10 : Bool), v66 = .bool x66_10 ∧ Aside0 (samphirelaw15_KeysSend.j0 kq a1 a2 t316 t317 t320 t324 t325 x66_10 = some r) ∧ Aside0 (kq ≤ k) ∧ Aside0 (Below w.heap.size w wc))
    case first =>
      have H := HC11.out
      clear HC11
      by_cases c17 : t316.toList = t318.toList
      · rw [if_pos c17] at H
        have c17b0 : (t316.toList == t318.toList) = true := beq_iff_eq.mpr c17
        have c17b1 : (t316.toList != t318.toList) = false := bne_eq_false_iff_eq.mpr c17
        clear c17
        (first | rw [c17b0] | (simp only [i64_w, i32_w]; rw [c17b0]) | skip)
        by_cases c18 : t317 = t319
        · rw [if_pos c18] at H
          have c18b0 : (t317 == t319) = true := beq_iff_eq.mpr c18
          have c18b1 : (t317 != t319) = false := bne_eq_false_iff_eq.mpr c18
          clear c18
          by_cases c19 : t320.toList = t322.toList
          · rw [if_pos c19] at H
            have c19b0 : (t320.toList == t322.toList) = true := beq_iff_eq.mpr c19
            have c19b1 : (t320.toList != t322.toList) = false := bne_eq_false_iff_eq.mpr c19
            clear c19
            have H' := Aside0.mk H
            clear H
            go_wp2
            go_meet
            case rel => exact ⟨_, ((t321 != t323)), (by first | rfl | (simp; done) | (simp [*]; done)), H', ⟨by first | omega | exact Nat.le_refl _⟩, ⟨by repeat (first | (with_reducible first | exact HB.out | apply below_alloc | apply pw_below_drewN | apply below_drew1) | exact HB.out)⟩⟩
          · rw [if_neg c19] at H
            have c19b0 : (t320.toList == t322.toList) = false := beq_eq_false_iff_ne.mpr c19
            have c19b1 : (t320.toList != t322.toList) = true := bne_iff_ne.mpr c19
            have H' := Aside0.mk H
            clear H
            go_wp2
            go_meet
            case rel => exact ⟨_, (true), (by first | rfl | (simp; done) | (simp [*]; done)), H', ⟨by first | omega | exact Nat.le_refl _⟩, ⟨by repeat (first | (with_reducible first | exact HB.out | apply below_alloc | apply pw_below_drewN | apply below_drew1) | exact HB.out)⟩⟩
        · rw [if_neg c18] at H
          have c18b0 : (t317 == t319) = false := beq_eq_false_iff_ne.mpr c18
          have c18b1 : (t317 != t319) = true := bne_iff_ne.mpr c18
          have H' := Aside0.mk H
          clear H
          go_wp2
          go_meet
          case rel => exact ⟨_, (true), (by first | rfl | (simp; done) | (simp [*]; done)), H', ⟨by first | omega | exact Nat.le_refl _⟩, ⟨by repeat (first | (with_reducible first | exact HB.out | apply below_alloc | apply pw_below_drewN | apply below_drew1) | exact HB.out)⟩⟩
      · rw [if_neg c17] at H
        have c17b0 : (t316.toList == t318.toList) = false := beq_eq_false_iff_ne.mpr c17
        have c17b1 : (t316.toList != t318.toList) = true := bne_iff_ne.mpr c17
        (first | rw [c17b0] | (simp only [i64_w, i32_w]; rw [c17b0]) | skip)
        have H' := Aside0.mk H
        clear H
        go_wp2
        go_meet
        case rel => exact ⟨_, (true), (by first | rfl | (simp; done) | (simp [*]; done)), H', ⟨by first | omega | exact Nat.le_refl _⟩, ⟨by repeat (first | (with_reducible first | exact HB.out | apply below_alloc | apply pw_below_drewN | apply below_drew1) | exact HB.out)⟩⟩
    case rest =>
      clear HC11
      try clear c1
      try clear c2
      try clear p2
      try clear c4
      try clear c5
      try clear c17
      try clear c17b0
      try clear c17b1
      try clear c18
      try clear c18b0
      try clear c18b1
      try clear c19
      try clear c19b0
      try clear c19b1
      obtain ⟨kq, x66_10, rfl, HA, HJ10, HB⟩ := hcut
      cases kq with
      | zero => exact absurd HA.out (by simp [samphirelaw15_KeysSend.j0])
      | succ kj10 =>
        have H := HA.out
        clear HA
        simp only [samphirelaw15_KeysSend.j0] at H
        by_cases c20 : x66_10 = true
        · subst c20
          have H1 : (some false) = some r := by rw [if_pos rfl] at H; exact H
          clear H
          have H := H1
          clear H1
          obtain rfl := Option.some.inj H
          go_wp2
          go_ret
          exact ⟨by first | rfl | (simp [errW_none, errW_some] <;> rfl) | (simp [*, errW_none, errW_some] <;> rfl), by repeat (first | (with_reducible first | exact HB.out | apply below_alloc | apply pw_below_drewN | apply below_drew1) | exact HB.out)⟩
        · replace c20 := Bool.eq_false_iff.mpr c20
          subst c20
          have H1 : (if t317 = 0 then (samphirelaw15_KeysSend.j1 kj10 a1 a2 t316 t320 t324 (t325 != 0)) else (samphirelaw15_KeysSend.j1 kj10 a1 a2 t316 t320 t324 true)) = some r := by rw [if_neg (show ¬ (false = true) by decide)] at H; exact H
          clear H
          have H := H1
          clear H1
          have HC21 := Aside0.mk H
          clear H
          go_upto_region 10 with (fail)
          go_cut [72] (fun v72 wc => ∃ (kq : Nat) (x72_20 : Bool), v72 = .bool x72_20 ∧ Aside0 (samphirelaw15_KeysSend.j1 kq a1 a2 t316 t320 t324 x72_20 = some r) ∧ Aside0 (kq ≤ kj10) ∧ Aside0 (Below w.heap.size w wc))
          case first =>
            have H := HC21.out
            clear HC21
            by_cases c22 : t317 = 0
            · rw [if_pos c22] at H
              have c22b0 : (t317 == 0) = true := beq_iff_eq.mpr c22
              have c22b1 : (t317 != 0) = false := bne_eq_false_iff_eq.mpr c22
              clear c22
              (first | rw [c22b0] | (simp only [i64_w, i32_w]; rw [c22b0]) | skip)
              have H' := Aside0.mk H
              clear H
              go_wp2
              go_meet
              case rel => exact ⟨_, ((t325 != 0)), (by first | rfl | (simp; done) | (simp [*]; done)), H', ⟨by have := HJ10.out; first | omega | exact Nat.le_refl _⟩, ⟨by repeat (first | (with_reducible first | exact HB.out | apply below_alloc | apply pw_below_drewN | apply below_drew1) | exact HB.out)⟩⟩
            · rw [if_neg c22] at H
              have c22b0 : (t317 == 0) = false := beq_eq_false_iff_ne.mpr c22
              have c22b1 : (t317 != 0) = true := bne_iff_ne.mpr c22
              (first | rw [c22b0] | (simp only [i64_w, i32_w]; rw [c22b0]) | skip)
              have H' := Aside0.mk H
              clear H
              go_wp2
              go_meet
              case rel => exact ⟨_, (true), (by first | rfl | (simp; done) | (simp [*]; done)), H', ⟨by have := HJ10.out; first | omega | exact Nat.le_refl _⟩, ⟨by repeat (first | (with_reducible first | exact HB.out | apply below_alloc | apply pw_below_drewN | apply below_drew1) | exact HB.out)⟩⟩
          case rest =>
            clear HC21
            try clear c1
            try clear c2
            try clear p2
            try clear c4
            try clear c5
            try clear c17
            try clear c17b0
            try clear c17b1
            try clear c18
            try clear c18b0
            try clear c18b1
            try clear c19
            try clear c19b0
            try clear c19b1
            try clear c20
            try clear c21
            try clear c22
            try clear c22b0
            try clear c22b1
            try clear p2
            obtain ⟨kq, x72_20, rfl, HA, HJ20, HB⟩ := hcut
            cases kq with
            | zero => exact absurd HA.out (by simp [samphirelaw15_KeysSend.j1])
            | succ kj20 =>
              have H := HA.out
              clear HA
              simp only [samphirelaw15_KeysSend.j1] at H
              by_cases c23 : x72_20 = true
              · subst c23
                have H1 : ((samphirelaw15_awake.f kj20).bind fun t326 => (some t326)) = some r := by rw [if_pos rfl] at H; exact H
                clear H
                have H := H1
                clear H1
                replace H := Option.bind_eq_some_iff.mp H
                obtain ⟨t326, A240, H⟩ := H
                replace H : (some t326) = some r := H
                have A24 := Aside0.mk A240
                clear A240
                obtain rfl := Option.some.inj H
                go_wp2_with (first | ((with_reducible refine gate_callee (f := 16) rfl ?_); refine goesL_ (some 73) rfl rfl Try.func16 (by kernel_rfl) rfl #[] rfl (by (try simp only [List.map_toArray, List.map_cons, List.map_nil]); first | done | rfl | (simp only [List.length_drop, List.length_take]; rfl)) ?_; (with_reducible refine (samphirelaw15_awake.calls kj20  t326 _ A24.out).mono ?_); rintro e w25 ⟨rfl, hb⟩; refine ⟨_, rfl, ?_⟩; have n0_ := Aside0.mk (below_step (by repeat (first | (with_reducible first | exact HB.out | apply below_alloc | apply pw_below_drewN | apply below_drew1) | exact HB.out)) hb); clear HB; have HB := n0_; clear n0_; (try clear hb); (try clear hb2); (try clear hk); (try clear hi)))
                go_ret
                exact ⟨by first | rfl | (simp [errW_none, errW_some] <;> rfl) | (simp [*, errW_none, errW_some] <;> rfl), by repeat (first | (with_reducible first | exact HB.out | apply below_alloc | apply pw_below_drewN | apply below_drew1) | exact HB.out)⟩
              · replace c23 := Bool.eq_false_iff.mpr c23
                subst c23
                have H1 : (if (t316.size : Int) = 32 then (if (t320.size : Int) = 32 then (if a1 = a2 then (if t316.toList = t324.toList then ((samphirelaw15_awake.f kj20).bind fun t327 => (some t327)) else (some false)) else ((samphirelaw15_awake.f kj20).bind fun t328 => (some t328))) else (some false)) else (some false)) = some r := by rw [if_neg (show ¬ (false = true) by decide)] at H; exact H
                clear H
                have H := H1
                clear H1
                by_cases c26 : (t316.size : Int) = 32
                · rw [if_pos c26] at H
                  have c26b0 : ((t316.size : Int) == 32) = true := beq_iff_eq.mpr c26
                  have c26b1 : ((t316.size : Int) != 32) = false := bne_eq_false_iff_eq.mpr c26
                  clear c26
                  by_cases c27 : (t320.size : Int) = 32
                  · rw [if_pos c27] at H
                    have c27b0 : ((t320.size : Int) == 32) = true := beq_iff_eq.mpr c27
                    have c27b1 : ((t320.size : Int) != 32) = false := bne_eq_false_iff_eq.mpr c27
                    clear c27
                    by_cases c28 : a1 = a2
                    · rw [if_pos c28] at H
                      have c28b0 : (a1 == a2) = true := beq_iff_eq.mpr c28
                      have c28b1 : (a1 != a2) = false := bne_eq_false_iff_eq.mpr c28
                      clear c28
                      by_cases c29 : t316.toList = t324.toList
                      · rw [if_pos c29] at H
                        have c29b0 : (t316.toList == t324.toList) = true := beq_iff_eq.mpr c29
                        have c29b1 : (t316.toList != t324.toList) = false := bne_eq_false_iff_eq.mpr c29
                        clear c29
                        replace H := Option.bind_eq_some_iff.mp H
                        obtain ⟨t327, A300, H⟩ := H
                        replace H : (some t327) = some r := H
                        have A30 := Aside0.mk A300
                        clear A300
                        obtain rfl := Option.some.inj H
                        go_wp2_with (first | (go_at_call 16; (with_reducible refine (samphirelaw15_awake.calls kj20  t327 _ A30.out).mono ?_); rintro e w31 ⟨rfl, hb⟩; have n0_ := Aside0.mk (below_step (by repeat (first | (with_reducible first | exact HB.out | apply below_alloc | apply pw_below_drewN | apply below_drew1) | exact HB.out)) hb); clear HB; have HB := n0_; clear n0_; (try clear hb); (try clear hb2); (try clear hk); (try clear hi)))
                        go_ret
                        exact ⟨by first | rfl | (simp [errW_none, errW_some] <;> rfl) | (simp [*, errW_none, errW_some] <;> rfl), by repeat (first | (with_reducible first | exact HB.out | apply below_alloc | apply pw_below_drewN | apply below_drew1) | exact HB.out)⟩
                      · rw [if_neg c29] at H
                        exact absurd (H.trans (congrArg some hr.out)) (by decide)
                    · rw [if_neg c28] at H
                      have c28b0 : (a1 == a2) = false := beq_eq_false_iff_ne.mpr c28
                      have c28b1 : (a1 != a2) = true := bne_iff_ne.mpr c28
                      replace H := Option.bind_eq_some_iff.mp H
                      obtain ⟨t328, A320, H⟩ := H
                      replace H : (some t328) = some r := H
                      have A32 := Aside0.mk A320
                      clear A320
                      obtain rfl := Option.some.inj H
                      go_wp2_with (first | (go_at_call 16; (with_reducible refine (samphirelaw15_awake.calls kj20  t328 _ A32.out).mono ?_); rintro e w33 ⟨rfl, hb⟩; have n0_ := Aside0.mk (below_step (by repeat (first | (with_reducible first | exact HB.out | apply below_alloc | apply pw_below_drewN | apply below_drew1) | exact HB.out)) hb); clear HB; have HB := n0_; clear n0_; (try clear hb); (try clear hb2); (try clear hk); (try clear hi)))
                      go_ret
                      exact ⟨by first | rfl | (simp [errW_none, errW_some] <;> rfl) | (simp [*, errW_none, errW_some] <;> rfl), by repeat (first | (with_reducible first | exact HB.out | apply below_alloc | apply pw_below_drewN | apply below_drew1) | exact HB.out)⟩
                  · rw [if_neg c27] at H
                    exact absurd (H.trans (congrArg some hr.out)) (by decide)
                · rw [if_neg c26] at H
                  exact absurd (H.trans (congrArg some hr.out)) (by decide)
  · replace c5 := Bool.eq_false_iff.mpr c5
    subst c5
    have H1 : ((samphirelaw15_awake.f k).bind fun t315 => (some t315)) = some r := by rw [if_neg (show ¬ (false = true) by decide)] at H; exact H
    clear H
    have H := H1
    clear H1
    replace H := Option.bind_eq_some_iff.mp H
    obtain ⟨t315, A340, H⟩ := H
    replace H : (some t315) = some r := H
    have A34 := Aside0.mk A340
    clear A340
    obtain rfl := Option.some.inj H
    go_enter Try.func4, Try.ntmps4
    go_wp2_with (first | ((with_reducible refine gate_callee (f := 17) rfl ?_); refine goesL_ (some 18) rfl rfl Try.func17 (by kernel_rfl) rfl #[.string a0, .string (⟨#[]⟩ : ByteArray)] rfl (by (try simp only [List.map_toArray, List.map_cons, List.map_nil]); first | done | rfl | (simp only [List.length_drop, List.length_take]; rfl)) ?_; (with_reducible refine (samphirelaw15_light.calls a0 (⟨#[]⟩ : ByteArray) false _ A4.out).mono ?_); rintro e w' ⟨rfl, ⟨nd, rfl⟩⟩; refine ⟨_, rfl, ?_⟩) | ((with_reducible refine gate_callee (f := 16) rfl ?_); refine goesL_ (some 20) rfl rfl Try.func16 (by kernel_rfl) rfl #[] rfl (by (try simp only [List.map_toArray, List.map_cons, List.map_nil]); first | done | rfl | (simp only [List.length_drop, List.length_take]; rfl)) ?_; (with_reducible refine (samphirelaw15_awake.calls k  t315 _ A34.out).mono ?_); rintro e w35 ⟨rfl, hb⟩; refine ⟨_, rfl, ?_⟩; have n0_ := Aside0.mk (below_step (by repeat (first | (with_reducible first | exact HB.out | apply below_alloc | apply pw_below_drewN | apply below_drew1) | exact HB.out)) hb); clear HB; have HB := n0_; clear n0_; (try clear hb); (try clear hb2); (try clear hk); (try clear hi)))
    go_ret
    exact ⟨by first | rfl | (simp [errW_none, errW_some] <;> rfl) | (simp [*, errW_none, errW_some] <;> rfl), by repeat (first | (with_reducible first | exact HB.out | apply below_alloc | apply pw_below_drewN | apply below_drew1) | exact HB.out)⟩
def samphirelaw15_KeysSend.Pure : Prop := ∀ (a0 : ByteArray) (a1 : Int) (a2 : Int), a0.size ≤ 140737488351232 → (Lit.int .i64 a1).wf = true → (Lit.int .i64 a2).wf = true → ∃ k, samphirelaw15_KeysSend.f k a0 a1 a2 = some true
theorem samphirelaw15_KeysSend.walk (P : samphirelaw15_KeysSend.Pure) (a0 : ByteArray) (a1 : Int) (a2 : Int) (w : World) (w0 : a0.size ≤ 140737488351232) (w1 : (Lit.int .i64 a1).wf = true) (w2 : (Lit.int .i64 a2).wf = true) :
    Calls Try.prog 4 #[.string a0, .int .i64 a1, .int .i64 a2] w fun e w' => e = .returned (.bool true) ∧ Below w.heap.size w w' := by
  obtain ⟨k, h⟩ := P a0 a1 a2 w0 w1 w2
  refine (samphirelaw15_KeysSend.calls k a0 a1 a2 true w h ⟨rfl⟩).mono ?_
  rintro e w' ⟨rfl, hd⟩
  exact ⟨rfl, hd⟩
end Go.Proofs.Ytbkbganflnemeaa.Pr
end

section
namespace Go.Proofs.Ytbkbganflnemeaa.Pure
open Go.RowKit Go.Proofs.Ytbkbganflnemeaa.Pr Go.Proofs.YtbkbganflnemeaaW.PrintWords Go.Proofs.YtbkbganflnemeaaW.PrintLast
set_option maxHeartbeats 1000000
set_option linter.unusedSimpArgs false
def sendB : ByteArray := ⟨#[115, 101, 110, 100]⟩
def keepB : ByteArray := ⟨#[107, 101, 101, 112]⟩
def sendF (key : ByteArray) (who : Int) : ByteArray × Int := ofF key (memB who) (sendB ++ txt [oneN who])
theorem send_size (who : Int) : (sendB ++ txt [oneN who]).size = 5 := by rw [ByteArray.size_append, txt_size]; rfl
theorem send_f (k : Nat) (key : ByteArray) (who : Int) : keys_Send.f (k + 1) key who = some (sendF key who) := by
  unfold keys_Send.f sendF
  rw [member_f, Option.bind_some, keys_one_f, Option.bind_some, of_f k key _ [⟨#[115, 101, 110, 100]⟩, txt [oneN who]] (sendB ++ txt [oneN who]) (joinB_2 _ _) (by simp) (by rw [send_size]; decide), Option.bind_some]
theorem keep_f (k : Nat) (key : ByteArray) : keys_Keep.f (k + 1) key = some (ofF key true keepB) := by
  unfold keys_Keep.f
  rw [of_f k key _ [⟨#[107, 101, 101, 112]⟩] keepB (joinB_1 _ _) (by decide) (by decide), Option.bind_some]
theorem rsend_f (k : Nat) (key : ByteArray) (who : Int) : samphireref15_Send.f (k + 69) key who = some (sendF key who) := by
  unfold samphireref15_Send.f sendF ofF
  by_cases hs : key.size = 32
  · rw [if_pos (by omega)]
    by_cases h1 : who < 1
    · rw [if_pos h1, if_neg (fun h => by have := of_decide_eq_true h.1; omega)]
    · rw [if_neg h1]
      by_cases h6 : who > 6
      · rw [if_pos h6, if_neg (fun h => by have := of_decide_eq_true h.1; omega)]
      · have hm : memB who = true := decide_eq_true (by omega)
        rw [if_neg h6, Option.bind_some, one_str, if_pos (by rw [txt_size]; simp), show (⟨#[115, 101, 110, 100]⟩ : ByteArray) = sendB from rfl, ref_32 k key _ (by omega) (by rw [send_size]; decide), Option.bind_some, if_pos ⟨hm, hs⟩]
  · rw [if_neg (by omega), if_neg (fun h => hs h.2)]
theorem rkeep_f (k : Nat) (key : ByteArray) : samphireref15_Keep.f (k + 69) key = some (ofF key true keepB) := by
  unfold samphireref15_Keep.f ofF
  by_cases hs : key.size = 32
  · rw [if_pos (by omega), show (⟨#[107, 101, 101, 112]⟩ : ByteArray) = keepB from rfl, ref_32 k key _ (by omega) (by decide), Option.bind_some, if_pos ⟨rfl, hs⟩]
  · rw [if_neg (by omega), if_neg (fun h => hs h.2)]
theorem KeysSend : samphirelaw15_KeysSend.Pure := by
  intro a0 a1 a2 _ _ _
  refine ⟨72, ?_⟩
  have hj1 : ∀ k b, (sendF a0 a1).2 = 0 → (ofF a0 true keepB).1.size = 32 → (b = true → True) → samphirelaw15_KeysSend.j1 (k + 3) a1 a2 (sendF a0 a1).1 (ofF a0 true keepB).1 (sendF a0 a2).1 b = some true := by
    intro k b h0 hk _
    rw [samphirelaw15_KeysSend.j1]
    by_cases hb : b = true
    · rw [if_pos hb, keys_awake_f, Option.bind_some]
    · rw [if_neg hb]
      have hs : (sendF a0 a1).1.size = 32 := by
        unfold sendF ofF at h0 ⊢
        split at h0
        · rw [if_pos (by assumption)]; exact hkT_size _ _
        · cases h0
      rw [if_pos (by omega), if_pos (by omega)]
      by_cases he : a1 = a2
      · subst he
        rw [if_pos rfl, if_pos rfl, keys_awake_f, Option.bind_some]
      · rw [if_neg he, keys_awake_f, Option.bind_some]
  unfold samphirelaw15_KeysSend.f
  rw [keys_light_f, Option.bind_some]
  by_cases hl : decide (a0.size ≤ 256 ∧ (⟨#[]⟩ : ByteArray).size ≤ 256) = true
  · rw [if_pos hl, send_f, Option.bind_some, rsend_f 3, Option.bind_some, keep_f, Option.bind_some, rkeep_f 3, Option.bind_some, send_f, Option.bind_some, if_pos rfl, if_pos rfl, if_pos rfl, samphirelaw15_KeysSend.j0, if_neg (by simp)]
    by_cases h0 : (sendF a0 a1).2 = 0
    · have hk : (ofF a0 true keepB).1.size = 32 := by
        unfold sendF ofF at h0
        split at h0
        · rename_i h
          unfold ofF
          rw [if_pos ⟨rfl, h.2⟩]
          exact hkT_size _ _
        · cases h0
      rw [if_pos h0, hj1 68 _ h0 hk (fun _ => trivial)]
    · rw [if_neg h0, samphirelaw15_KeysSend.j1, if_pos rfl, keys_awake_f, Option.bind_some]
  · rw [if_neg hl, keys_awake_f, Option.bind_some]
end Go.Proofs.Ytbkbganflnemeaa.Pure
end

section
namespace Go.Proofs.Ytbkbganflnemeaa.keysSend
open Go.ChangeShapes Go.WideShapes Go.ChangeAt Go.RowKit
open Go.ChangeMaps (open_string shut_string)
set_option linter.unusedVariables false
theorem own : ownKnob Try.prog.godebug = none := by kernel_rfl
set_option maxRecDepth 100000 in
theorem lifted (os : Os) (started : os.Started) (H : Type) (enc : TypeId × Value → H) :
    ReturnsInHanded {} Try.checked os 4 .any (Rows.keysSendSpec.pre6 enc Try.prog Try.f4 Rows.keysSendRow.domain false) (Rows.keysSendSpec.post enc Try.prog Try.f4 false true false false) := by
  refine returnsInHanded_of_change_sized (C := Try.checked) own started (by kernel_rfl) Try.func4
    (ChangeSpec.witness6 (enc := enc) (C := Try.checked) false ⟨#[], #[.string ByteArray.empty, .int .i64 0, .int .i64 0], []⟩ 8 (by kernel_rfl) (by kernel_rfl) (by kernel_rfl) (by kernel_rfl)) ?_
  intro W base args ds gs before hval0 hW hcnd hsz0 _
  have hsz : (DataW.weightsEach Try.prog (Try.f4.params.toList ++ Rows.keysSendSpec.plain.varTypes Try.prog) (ds ++ gs)).all (· ≤ reachBytes) = true := hsz0
  have hval : ∀ (j : Nat) t v, Try.f4.params[j]? = some t → args[j]? = some v → Value.okWide Try.prog W .any base t v := hval0
  have hW' := hW
  obtain ⟨p, q, hA0, hV, rfl, hfz, hnd⟩ := hW
  have hA : DataW.TrodAll enc Try.prog W 0 (fun _ => true) true Try.f4.params.toList args.toList ds p := hA0
  rw [Try.params4] at hA hval hsz
  obtain ⟨v0, vs0, d0, ds0, p0, q0, hargs, rfl, rfl, h0, r0⟩ := trodAll_cons hA
  obtain ⟨v1, vs1, d1, ds1, p1, q1, rfl, rfl, rfl, h1, r1⟩ := trodAll_cons r0
  obtain ⟨v2, vs2, d2, ds2, p2, q2, rfl, rfl, rfl, h2, r2⟩ := trodAll_cons r1
  obtain ⟨rfl, rfl, rfl⟩ := trodAll_nil r2
  obtain rfl : args = #[v0, v1, v2] := by cases args; simp_all
  obtain ⟨rfl, rfl⟩ := trodVars_none hV
  obtain ⟨a0, rfl, rfl, rfl, y0⟩ := open_string Try.underlying9 (hval 0 9 v0 rfl rfl) h0
  have w0 : a0.size ≤ 140737488351232 := by
    have z := sized_string hsz (j := 0) (t := 9) rfl rfl
    rw [Array.length_toList] at z
    exact z
  obtain ⟨a1, rfl, rfl, rfl, w1⟩ := open_int Try.underlying3 (hval 1 3 v1 rfl rfl) h1
  obtain ⟨a2, rfl, rfl, rfl, w2⟩ := open_int Try.underlying3 (hval 2 3 v2 rfl rfl) h2
  clear hA0 hval0 hsz0 hsz
  refine (Pr.samphirelaw15_KeysSend.walk Pure.KeysSend a0 a1 a2 W w0 w1 w2).mono fun e W' ⟨he, bel⟩ => ?_
  subst he
  exact ⟨_, rfl, _, _, _, [], _, [], hW', trodAll_mk1 (shut_bool Try.underlying4 _), (trodAll_cons_mk (shut_string Try.underlying9 y0) (trodAll_cons_mk (shut_int Try.underlying3 w1) (trodAll_cons_mk (shut_int Try.underlying3 w2) trodAll_mk0))), rfl, bel.frame _, fun h => by cases h⟩
theorem over : Rows.keysSendRow.holds Try.pinned (OpenSpec.ofChange Rows.keysSendSpec) :=
  OpenClaim.holds_of_wide 4 Try.f4 rfl rfl rfl rfl rfl rfl rfl ⟨rfl, rfl, rfl, rfl, rfl⟩ rfl rfl rfl rfl rfl (by kernel_rfl) Try.func4 (by kernel_rfl)
    (of_decide_eq_true (by kernel_rfl)) (by unfold Func.isWrapper; first | (rw [if_pos (by decide +kernel)]; kernel_rfl) | (rw [if_neg (by decide +kernel)]; exact ⟨rfl, rfl⟩))
    (fun os started H enc _ => lifted os started H enc)
theorem proved : Rows.KeysSendSaid := over
#print axioms proved
end Go.Proofs.Ytbkbganflnemeaa.keysSend
namespace Go.Proofs.Ytbkbganflnemeaa
theorem keysSend_holds : Rows.KeysSendSaid := keysSend.proved
end Go.Proofs.Ytbkbganflnemeaa
end

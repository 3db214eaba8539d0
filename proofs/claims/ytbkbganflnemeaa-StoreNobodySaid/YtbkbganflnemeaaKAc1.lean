/- Joined texts (pack.py): what the statement's proof needs, part c1. No condition. -/
import Derived.Below
import Derived.Deep.Draws
import Derived.Deep.AppendLies
import Derived.Maps.AppendAt
import Derived.OwnWalk
import Derived.Laws.BytesArg
import Derived.Laws.MakeOwn
import Derived.Laws.OwnMore
import Derived.Deep.OwnRows
import Derived.Tactics
import Derived.Lib.ConvBytes
import Derived.Laws.Slices
import Derived.WalkKit
import Derived.KernelRfl
import Derived.RowKit3
import Derived.Deep.LoopGhost
import Derived.Deep.QuietTactic
import Derived.BigQuiet
import Derived.WideLaws
import Derived.Deep.DeepCutAuto
import Derived.Deep.CutBlock
import Derived.Deep.RegionHeld3
import Derived.Laws.Rows
import Derived.Lib.AppendStr
import Derived.ArgAppend
import Derived.Laws.IdiomCopy
import Derived.RowKit
import Derived.OrdersHeld
import Derived.Laws.BitsLemmas
import Derived.Laws.StructEq
import Derived.Deep.Slices
import Derived.ChangeArms
import Derived.OpenShut
import Derived.Shelf.Strings.Builder1
import Derived.Shelf.Strings.Builder2
import Derived.Shelf.Strings.OnBuilder
import Derived.Shelf.Strings.BuilderF
import Derived.Shelf.Strings.Prefix
import Derived.Shelf.Bits.Mul64
import Derived.Shelf.Strings.Repeat
import Derived.Test.YtbkbganflnemeaaProg
import Derived.Deep.RegionLaw
import Derived.StillTailTactics
import Derived.Deep.Light
import Derived.Deep.RegionHeldLaw
import Derived.Deep.DrawnRows
import Derived.IntWalk
import Derived.Deep.WholeRow
import Derived.Laws.CopyOwn
import Derived.Maps.OwnSet
import Derived.Lib.BufferWrite
import Derived.Test.YtbkbganflnemeaaRows
import Derived.ProofKit
import Derived.ShutString
import Derived.ChangeOld
import Derived.SizedLaws
import Derived.Carry
import Derived.Test.YtbkbganflnemeaaKAa1
import Derived.Test.YtbkbganflnemeaaKAa2
section
namespace Go.Proofs.Ytbkbganflnemeaa.Pr
open Go.RowKit Go.Deep Go.Maps Go.Proofs.YtbkbganflnemeaaW.PrintWords Go.Proofs.YtbkbganflnemeaaW.PrintLast Go.Proofs.YtbkbganflnemeaaW.PrintMore
set_option maxHeartbeats 4000000
set_option linter.unusedVariables false
set_option linter.unusedSimpArgs false
def NotGiven (v : Value) (w : World) : Prop := Calls Try.prog 72 #[v] w fun e w' => e = .returned (.bool false) ∧ w' = w
theorem Base_off (v : Value) (w : World) (h : NotGiven v w) : Calls Try.prog 36 #[v] w fun e w' => e = .returned (.string ⟨#[]⟩) ∧ w' = w := by
  have HG := Aside0.mk h
  clear h
  go_enter Try.func36, Try.ntmps36
  go_wp2_with (fail)
  refine HG.out.mono ?_
  rintro e w' ⟨rfl, rfl⟩
  go_wp2_with (fail)
  go_ret
  exact ⟨rfl, rfl⟩
theorem Behind_off (v : Value) (w : World) (h : NotGiven v w) : Calls Try.prog 37 #[v] w fun e w' => e = .returned (.slice none 0 0) ∧ w' = w := by
  have HG := Aside0.mk h
  clear h
  go_enter Try.func37, Try.ntmps37
  go_wp2_with (fail)
  refine HG.out.mono ?_
  rintro e w' ⟨rfl, rfl⟩
  go_wp2_with (fail)
  go_ret
  exact ⟨rfl, rfl⟩
theorem Turn_off (v : Value) (w : World) (h : NotGiven v w) : Calls Try.prog 38 #[v] w fun e w' => e = .returned (.int .i64 0) ∧ w' = w := by
  have HG := Aside0.mk h
  clear h
  go_enter Try.func38, Try.ntmps38
  go_wp2_with (fail)
  refine HG.out.mono ?_
  rintro e w' ⟨rfl, rfl⟩
  go_wp2_with (fail)
  go_ret
  exact ⟨rfl, rfl⟩
theorem Add_off (v : Value) (x : ByteArray) (w : World) (h : NotGiven v w) : Calls Try.prog 39 #[v, .string x] w fun e w' => e = .returned (.int .i64 1) ∧ w' = w := by
  have HG := Aside0.mk h
  clear h
  go_enter Try.func39, Try.ntmps39
  go_wp2_with (fail)
  refine HG.out.mono ?_
  rintro e w' ⟨rfl, rfl⟩
  go_wp2_with (fail)
  go_ret
  exact ⟨rfl, rfl⟩
theorem Lay_off (v : Value) (x : ByteArray) (w : World) (h : NotGiven v w) : Calls Try.prog 35 #[v, .string x] w fun e w' => e = .returned (.int .i64 1) ∧ w' = w := by
  have HG := Aside0.mk h
  clear h
  go_enter Try.func35, Try.ntmps35
  go_wp2_with (fail)
  refine HG.out.mono ?_
  rintro e w' ⟨rfl, rfl⟩
  go_wp2_with (fail)
  go_ret
  exact ⟨rfl, rfl⟩
theorem Size_cell (d : Nat) (A : Option Addr) (n c : Nat) (w : World) (c0 : w.cell? ⟨d, 0, none⟩ = some (.slice A n c)) : Calls Try.prog 69 #[.pointer (some ⟨d, 0, none⟩)] w fun e w' => e = .returned (.int .i64 (n : Int)) ∧ w' = w := by
  go_enter Try.func69, Try.ntmps69
  go_wp2_with (fail)
  go_ret
  exact ⟨rfl, rfl⟩
theorem Open_small (v : Value) (n : Nat) (hn : n < 2) (w : World) (h : Calls Try.prog 69 #[v] w fun e w' => e = .returned (.int .i64 (n : Int)) ∧ w' = w) : Calls Try.prog 33 #[v] w fun e w' => e = .returned (.tuple #[.pointer none, .int .i64 1]) ∧ w' = w := by
  have HG := Aside0.mk h
  have d1 : decide ((n : Int) < 2) = true := decide_eq_true (by omega)
  have d1b : decide (n < 2) = true := decide_eq_true (by omega)
  clear h hn
  go_enter Try.func33, Try.ntmps33
  go_wp2_with (fail)
  refine HG.out.mono ?_
  rintro e w' ⟨rfl, rfl⟩
  go_wp2_with (fail)
  go_ret2
  exact ⟨rfl, rfl⟩
end Go.Proofs.Ytbkbganflnemeaa.Pr
end

section
namespace Go.Proofs.Ytbkbganflnemeaa.Pr
open Go.RowKit Go.Deep Go.Maps Go.Proofs.YtbkbganflnemeaaW.PrintWords Go.Proofs.YtbkbganflnemeaaW.PrintLast Go.Proofs.YtbkbganflnemeaaW.PrintMore
set_option maxHeartbeats 4000000
set_option linter.unusedVariables false
set_option linter.unusedSimpArgs false
set_option maxRecDepth 100000 in
theorem nobody_calls (text : ByteArray) (w : World) : Calls Try.prog 11 #[.string text] w fun e w' => e = .returned (.bool true) ∧ Below w.heap.size w w' := by
  go_enter Try.func11, Try.ntmps11
  go_wp2_with (fail)
  refine (Open_small (.pointer none) 0 (by decide) _ (Size_nil _)).mono ?_
  rintro e w' ⟨rfl, rfl⟩
  go_wp2_with (fail)
  refine (Open_small _ 0 (by decide) _ (Size_cell w'.heap.size none 0 0 _ (by rw [cell_of_row _ _ _ _ _ _ (blk_new _ _)]; rfl))).mono ?_
  rintro e w1 ⟨rfl, h1⟩
  have HB1 := Aside0.mk (show Below w'.heap.size w' w1 from by rw [h1]; exact below_alloc (Below.refl _ _) _)
  clear h1
  go_wp2_with (fail)
  refine (New_dev 1 (by decide) (by decide) w1).mono ?_
  rintro e w2 ⟨rfl, hD, hb⟩
  have HD2 := Aside0.mk hD
  have HB2 := Aside0.mk (show Below w'.heap.size w' w2 from below_then HB1.out HB1.out.size hb)
  clear hD hb HB1
  go_wp2_with (fail)
  refine (Open_small _ 1 (by decide) _ (Size_dev _ _ (List.replicate 1 zblk) (-1) 0 false w2 HD2.out)).mono ?_
  rintro e w3 ⟨rfl, rfl⟩
  clear HD2
  go_wp2_with (fail)
  have HW0 : Aside0 ((((w3.alloc (Obj.cells #[Value.pointer none, Value.slice none 0 0, Value.string ⟨#[]⟩, Value.int IntKind.i64 0] 61)).alloc (Obj.cells #[Value.pointer none, Value.pointer (some ⟨w3.heap.size, 0, none⟩)] 50)).heap[w3.heap.size + 1]? = some (.cells #[Value.pointer none, Value.pointer (some ⟨w3.heap.size, 0, none⟩)] 50 (0, 0))) ∧ (((w3.alloc (Obj.cells #[Value.pointer none, Value.slice none 0 0, Value.string ⟨#[]⟩, Value.int IntKind.i64 0] 61)).alloc (Obj.cells #[Value.pointer none, Value.pointer (some ⟨w3.heap.size, 0, none⟩)] 50)).cell? ⟨w3.heap.size, 0, none⟩ = some (.pointer none))) :=
    ⟨stoNew_at (Array.size_push _) _, by
      rw [cell_of_row _ _ _ _ _ _ (((below_alloc (Below.refl _ _) _).block w3.heap.size (blk_lt (blk_new w3 _))).trans (blk_new w3 _))]
      rfl⟩
  have HB3 := Aside0.mk (below_alloc (below_alloc HB2.out (Obj.cells #[Value.pointer none, Value.slice none 0 0, Value.string ⟨#[]⟩, Value.int IntKind.i64 0] 61)) (Obj.cells #[Value.pointer none, Value.pointer (some ⟨w3.heap.size, 0, none⟩)] 50))
  clear HB2
  generalize (w3.alloc (Obj.cells #[Value.pointer none, Value.slice none 0 0, Value.string ⟨#[]⟩, Value.int IntKind.i64 0] 61)).alloc (Obj.cells #[Value.pointer none, Value.pointer (some ⟨w3.heap.size, 0, none⟩)] 50) = W0 at *
  generalize w3.heap.size = g at *
  go_loopw [12] (fun i wr => ∃ k : Nat, k ≤ 2 ∧ i = .int .i64 (k : Int) ∧ wr = W0) (fun i _ => 2 - (intOf i).toNat)
  case atStart => exact ⟨0, by omega, rfl, rfl⟩
  case round =>
    obtain ⟨k, hk, rfl, rfl⟩ := hrel
    have e0 : wr.cell? ⟨g + 1, 0, none⟩ = some (.pointer none) := by rw [cell_of_row _ _ _ _ _ _ HW0.out.1]; rfl
    have e1 : wr.cell? ⟨g + 1, 1, none⟩ = some (.pointer (some ⟨g, 0, none⟩)) := by rw [cell_of_row _ _ _ _ _ _ HW0.out.1]; rfl
    rcases (show k = 0 ∨ k = 1 ∨ k = 2 by omega) with rfl | rfl | rfl
    · have HN : Aside0 (NotGiven (.pointer none) wr) := ⟨given_nil wr⟩
      clear HW0 hk
      go_wp2_with (fail)
      refine (Base_off _ _ HN.out).mono ?_
      rintro e w' ⟨rfl, rfl⟩
      go_wp2_with (fail)
      refine (Behind_off _ _ HN.out).mono ?_
      rintro e w' ⟨rfl, rfl⟩
      go_wp2_with (fail)
      refine (Add_off _ _ _ HN.out).mono ?_
      rintro e w' ⟨rfl, rfl⟩
      go_wp2_with (fail)
      refine (Lay_off _ _ _ HN.out).mono ?_
      rintro e w' ⟨rfl, rfl⟩
      go_wp2_with (fail)
      refine (Turn_off _ _ HN.out).mono ?_
      rintro e w' ⟨rfl, rfl⟩
      go_wp2_with (fail)
      refine ⟨⟨1, by omega, by rfl, by first | rfl | trivial⟩, by first | decide | trivial⟩
    · have HN : Aside0 (NotGiven (.pointer (some ⟨g, 0, none⟩)) wr) := ⟨given_none g wr HW0.out.2⟩
      clear HW0 hk
      go_wp2_with (fail)
      refine (Base_off _ _ HN.out).mono ?_
      rintro e w' ⟨rfl, rfl⟩
      go_wp2_with (fail)
      refine (Behind_off _ _ HN.out).mono ?_
      rintro e w' ⟨rfl, rfl⟩
      go_wp2_with (fail)
      refine (Add_off _ _ _ HN.out).mono ?_
      rintro e w' ⟨rfl, rfl⟩
      go_wp2_with (fail)
      refine (Lay_off _ _ _ HN.out).mono ?_
      rintro e w' ⟨rfl, rfl⟩
      go_wp2_with (fail)
      refine (Turn_off _ _ HN.out).mono ?_
      rintro e w' ⟨rfl, rfl⟩
      go_wp2_with (fail)
      refine ⟨⟨2, by omega, by rfl, by first | rfl | trivial⟩, by first | decide | trivial⟩
    · clear HW0 hk e0 e1
      go_wp2_with (fail)
      refine (sawake_calls _).mono ?_
      rintro e w4 ⟨rfl, hb⟩
      have HB4 := Aside0.mk (show Below w'.heap.size w' w4 from below_then HB3.out HB3.out.size hb)
      go_wp2_with (fail)
      go_ret
      exact ⟨rfl, HB4.out⟩
end Go.Proofs.Ytbkbganflnemeaa.Pr
end

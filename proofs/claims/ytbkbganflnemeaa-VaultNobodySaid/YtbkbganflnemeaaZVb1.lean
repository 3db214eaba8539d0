/- Joined texts (pack.py): what the statement's proof needs, part b1. No condition. -/
import Derived.Below
import Derived.Deep.Draws
import Derived.Deep.AppendLies
import Derived.Maps.AppendAt
import Derived.OwnWalk
import Derived.Laws.BytesArg
import Derived.Laws.MakeOwn
import Derived.Laws.OwnMore
import Derived.Deep.OwnRows
import Derived.Tactics
import Derived.Lib.ConvBytes
import Derived.Laws.Slices
import Derived.WalkKit
import Derived.KernelRfl
import Derived.RowKit3
import Derived.Deep.LoopGhost
import Derived.Deep.QuietTactic
import Derived.BigQuiet
import Derived.WideLaws
import Derived.Deep.DeepCutAuto
import Derived.Deep.CutBlock
import Derived.Deep.RegionHeld3
import Derived.Laws.Rows
import Derived.Lib.AppendStr
import Derived.ArgAppend
import Derived.Laws.IdiomCopy
import Derived.RowKit
import Derived.OrdersHeld
import Derived.Laws.BitsLemmas
import Derived.Laws.StructEq
import Derived.Shelf.Strings.Builder1
import Derived.Shelf.Strings.Builder2
import Derived.Shelf.Strings.OnBuilder
import Derived.Shelf.Strings.BuilderF
import Derived.Shelf.Strings.Prefix
import Derived.Shelf.Bits.Mul64
import Derived.Shelf.Strings.Repeat
import Derived.Test.YtbkbganflnemeaaProg
import Derived.Deep.RegionLaw
import Derived.StillTailTactics
import Derived.Deep.Light
import Derived.Deep.RegionHeldLaw
import Derived.Deep.DrawnRows
import Derived.IntWalk
import Derived.Deep.WholeRow
import Derived.Laws.CopyOwn
import Derived.Maps.OwnSet
import Derived.Tactics2
import Derived.Defers
import Derived.Recover
import Derived.Laws.Pointers
import Derived.Test.YtbkbganflnemeaaRows
import Derived.ProofKit
import Derived.OpenShut
import Derived.ShutString
import Derived.ChangeOld
import Derived.SizedLaws
import Derived.Test.YtbkbganflnemeaaZVa1
import Derived.Test.YtbkbganflnemeaaZVa2
set_option linter.unusedVariables false
set_option linter.unusedSimpArgs false
section
namespace Go.Proofs.Ytbkbganflnemeaa.Pr
open Go.RowKit Go.Deep Go.Maps Go.Proofs.YtbkbganflnemeaaW.PrintWords Go.Proofs.YtbkbganflnemeaaW.PrintLast Go.Proofs.YtbkbganflnemeaaW.PrintMore
set_option maxHeartbeats 4000000
structure NobSt (gl g : Nat) (w : World) : Prop where
 l : w.heap[gl]? = some (.cells #[.pointer none, .pointer (some ⟨g, 0, none⟩)] 33 (0, 0))
 s : w.heap[g]? = some (.cells #[.nilIface] 43 (0, 0))
theorem NobSt.below {gl g : Nat} {w w' : World} (h : NobSt gl g w) (hb : Below w.heap.size w w') : NobSt gl g w' := ⟨(hb.block gl (blk_lt h.l)).trans h.l, (hb.block g (blk_lt h.s)).trans h.s⟩
theorem NobSt.cells {gl g : Nat} {w : World} (h : NobSt gl g w) : w.cell? ⟨gl, 0, none⟩ = some (.pointer none) ∧ w.cell? ⟨gl, 1, none⟩ = some (.pointer (some ⟨g, 0, none⟩)) := by
 refine ⟨?_, ?_⟩ <;> (rw [cell_of_row _ _ _ _ _ _ h.l]; rfl)
theorem NobSt.nob {gl g : Nat} {w : World} (h : NobSt gl g w) : NobodyAt none w ∧ NobodyAt (some ⟨g, 0, none⟩) w := ⟨.inl rfl, .inr ⟨g, rfl, by rw [cell_of_row _ _ _ _ _ _ h.s]; rfl⟩⟩
set_option maxRecDepth 100000 in
theorem nobody_all (a b : ByteArray) (n : Int) (w : World) :
  Calls Try.prog 9 #[.string a, .string b, .int .i64 n] w fun e w' => e = .returned (.bool true) ∧ Below w.heap.size w w' := by
 have HS0 : Aside0 (NobSt (w.heap.size + 1) w.heap.size ((w.alloc (.cells #[.nilIface] 43)).alloc (.cells #[.pointer none, .pointer (some ⟨w.heap.size, 0, none⟩)] 33))) := ⟨by
  refine ⟨?_, blk_alloc (heap_alloc_new w _) _⟩
  have := heap_alloc_new (w.alloc (.cells #[.nilIface] 43)) (.cells #[.pointer none, .pointer (some ⟨w.heap.size, 0, none⟩)] 33)
  simpa using this⟩
 have HB0 : Aside0 (Below w.heap.size w ((w.alloc (.cells #[.nilIface] 43)).alloc (.cells #[.pointer none, .pointer (some ⟨w.heap.size, 0, none⟩)] 33))) := ⟨below_alloc (below_alloc (Below.refl _ _) _) _⟩
 go_enter Try.func9, Try.ntmps9
 go_wp2_with (fail)
 generalize ((w.alloc (.cells #[.nilIface] 43)).alloc (.cells #[.pointer none, .pointer (some ⟨w.heap.size, 0, none⟩)] 33)) = W0 at *
 go_loopw [8] (fun i wr => ∃ k : Nat, k ≤ 2 ∧ i = .int .i64 k ∧ Aside0 (NobSt (w.heap.size + 1) w.heap.size wr) ∧ Aside0 (Below w.heap.size w wr)) (fun i _ => 2 - (intOf i).toNat)
 case atStart => exact ⟨0, by omega, rfl, HS0, HB0⟩
 case round =>
  clear HS0 HB0
  obtain ⟨k, hk, rfl, HS, HB⟩ := hrel
  have hc : k = 0 ∨ k = 1 ∨ k = 2 := by omega
  rcases hc with rfl | rfl | rfl
  ·clear hk
   obtain ⟨c0, c1⟩ := HS.out.cells
   clear c1
   have HN1 := Aside0.mk HS.out.nob.1
   go_wp2_with (first | (go_at_call 27; refine (Seal_nobody _ a b a b _ HN1.out).mono ?_; rintro e w2 ⟨rfl, rfl⟩) | (go_at_call 28; refine (Open_nobody _ a b a b _ HN1.out).mono ?_; rintro e w3 ⟨rfl, rfl⟩) | (go_at_call 31; refine (Many_nobody _ _ HN1.out).mono ?_; rintro e w4 ⟨rfl, rfl⟩) | (go_at_call 30; refine (Drawn_nobody _ n _ HN1.out).mono ?_; rintro e w5 ⟨rfl, hb⟩; have HS5 := Aside0.mk (HS.out.below hb); have HB5 := Aside0.mk (below_then HB.out HB.out.size hb); clear hb c0))
   exact ⟨⟨1, by omega, rfl, HS5, HB5⟩, by simp [intOf]⟩
  ·clear hk
   obtain ⟨c1, c0⟩ := HS.out.cells
   clear c1
   have HN1 := Aside0.mk HS.out.nob.2
   go_wp2_with (first | (go_at_call 27; refine (Seal_nobody _ a b a b _ HN1.out).mono ?_; rintro e w2 ⟨rfl, rfl⟩) | (go_at_call 28; refine (Open_nobody _ a b a b _ HN1.out).mono ?_; rintro e w3 ⟨rfl, rfl⟩) | (go_at_call 31; refine (Many_nobody _ _ HN1.out).mono ?_; rintro e w4 ⟨rfl, rfl⟩) | (go_at_call 30; refine (Drawn_nobody _ n _ HN1.out).mono ?_; rintro e w5 ⟨rfl, hb⟩; have HS5 := Aside0.mk (HS.out.below hb); have HB5 := Aside0.mk (below_then HB.out HB.out.size hb); clear hb c0))
   exact ⟨⟨2, by omega, rfl, HS5, HB5⟩, by simp [intOf]⟩
  ·clear hk
   go_wp2_with (fail)
   refine (vawake_calls _).mono ?_
   rintro e w3 ⟨rfl, hb⟩
   have HB3 := Aside0.mk (below_then HB.out HB.out.size hb)
   go_wp2_with (fail)
   go_ret
   exact ⟨rfl, HB3.out⟩
end Go.Proofs.Ytbkbganflnemeaa.Pr
end

/- Joined texts (pack.py): what the statement's proof needs, part 6. No condition. -/
import Derived.Below
import Derived.Deep.Draws
import Derived.Deep.AppendLies
import Derived.Maps.AppendAt
import Derived.OwnWalk
import Derived.Laws.BytesArg
import Derived.Laws.MakeOwn
import Derived.Laws.OwnMore
import Derived.Deep.OwnRows
import Derived.Tactics
import Derived.Lib.ConvBytes
import Derived.Laws.Slices
import Derived.WalkKit
import Derived.KernelRfl
import Derived.RowKit3
import Derived.Deep.LoopGhost
import Derived.Deep.QuietTactic
import Derived.BigQuiet
import Derived.WideLaws
import Derived.Deep.DeepCutAuto
import Derived.Deep.CutBlock
import Derived.Deep.RegionHeld3
import Derived.Laws.Rows
import Derived.Lib.AppendStr
import Derived.ArgAppend
import Derived.Laws.IdiomCopy
import Derived.RowKit
import Derived.OrdersHeld
import Derived.Laws.BitsLemmas
import Derived.Laws.StructEq
import Derived.Shelf.Strings.Builder1
import Derived.Shelf.Strings.Builder2
import Derived.Shelf.Strings.OnBuilder
import Derived.Shelf.Strings.BuilderF
import Derived.Shelf.Strings.Prefix
import Derived.Shelf.Bits.Mul64
import Derived.Shelf.Strings.Repeat
import Derived.Test.YtbkbganflnemeaaProg
import Derived.Deep.RegionLaw
import Derived.StillTailTactics
import Derived.Deep.Light
import Derived.Deep.RegionHeldLaw
import Derived.Deep.DrawnRows
import Derived.IntWalk
import Derived.Deep.WholeRow
import Derived.Laws.CopyOwn
import Derived.Maps.OwnSet
import Derived.Lib.BufferWrite
import Derived.Test.YtbkbganflnemeaaRows
import Derived.ProofKit
import Derived.OpenShut
import Derived.ShutString
import Derived.ChangeOld
import Derived.SizedLaws
import Derived.Test.YtbkbganflnemeaaKD1
import Derived.Test.YtbkbganflnemeaaKD2
import Derived.Test.YtbkbganflnemeaaKD3
import Derived.Test.YtbkbganflnemeaaKD4
import Derived.Test.YtbkbganflnemeaaKD5
section
namespace Go.Proofs.Ytbkbganflnemeaa.Pr
open Go.RowKit Go.Deep Go.Maps Go.Proofs.YtbkbganflnemeaaW.PrintWords Go.Proofs.YtbkbganflnemeaaW.PrintLast Go.Proofs.YtbkbganflnemeaaW.PrintMore
set_option maxHeartbeats 8000000
set_option linter.unusedVariables false
set_option linter.unusedSimpArgs false
theorem Base_any (B s d : Nat) (ll : List ByteArray) (b : ByteArray) (t : Int) (w : World) (h : StoAt B s d ll b t w) : Calls Try.prog 36 #[.pointer (some ⟨s, 0, none⟩)] w fun e w' => e = .returned (.string (ll.headD ⟨#[]⟩)) ∧ w' = w := by
  cases ll with
  | nil => exact Base_none B s d b t w h
  | cons x l => exact Base_sto B s d x l b t w h
theorem Behind_none (B s d : Nat) (b : ByteArray) (t : Int) (w : World) (h : StoAt B s d [] b t w) : Calls Try.prog 37 #[.pointer (some ⟨s, 0, none⟩)] w fun e w' => e = .returned (.slice none 0 0) ∧ w' = w := by
  have HG := Aside0.mk (given_some B s d [] b t w h)
  obtain ⟨v, hv⟩ := h
  obtain ⟨c0, c1, c2, c3⟩ := hv.cells
  obtain ⟨A, c, rfl⟩ := own_slice hv.2.2
  clear hv c0 c2 c3
  go_enter Try.func37, Try.ntmps37
  go_wp2_with (fail)
  refine HG.out.mono ?_
  rintro e w' ⟨rfl, rfl⟩
  go_wp2_with (fail)
  go_ret
  exact ⟨rfl, rfl⟩
theorem Behind_all (B s d : Nat) (ll : List ByteArray) (b : ByteArray) (t : Int) (w : World) (h : StoAt B s d ll b t w) (hl : ll.length ≤ 131072) : Calls Try.prog 37 #[.pointer (some ⟨s, 0, none⟩)] w fun e w' => ∃ v', e = .returned v' ∧ w'.ownsRow w.heap.size 9 1 v' ll.tail.length (ll.tail.map Value.string) ∧ Below w.heap.size w w' := by
  cases ll with
  | nil => exact (Behind_none B s d b t w h).mono fun e w' q => ⟨_, q.1, own_nil _ _ _ _, by rw [q.2]; exact Below.refl _ _⟩
  | cons x l => exact Behind_any B s d x l b t w h (by simp at hl; omega)
def SideAt (gx d s : Nat) (Lv bv : Value) (f n : Int) (off : Bool) (x : ByteArray) (T : Int) (b : ByteArray) (w : World) : Prop :=
  w.heap[gx]? = some (.cells #[.pointer (some ⟨d, 0, none⟩), .pointer (some ⟨s, 0, none⟩), Lv, .int .i64 f, .bool off, .int .i64 n, .string x, bv, .int .i64 T, .string b] 75 (0, 0))
set_option maxRecDepth 100000 in
theorem same_calls (gx d g s B BR : Nat) (L : List ByteArray) (f nw fq n : Int) (off : Bool) (A : Option Addr) (c : Nat) (bv : Value) (ll : List ByteArray) (b b0 : ByteArray) (T : Int) (w : World)
    (hX : SideAt gx d s (.slice A L.length c) bv fq n off (ll.headD ⟨#[]⟩) T b0 w) (hS : StoAt B s d ll b T w) (hD : DevAt d g L f false nw w) (hC : Kd.C Kd.string w A L.length L) (hV : Sl BR bv ll.tail w) (hll : ll.length ≤ 131072) (hL : L.length ≤ 4096) (hL2 : 2 ≤ L.length) :
    Calls Try.prog 79 #[.pointer (some ⟨gx, 0, none⟩)] w fun e w' => e = .returned (.bool true) ∧ Below w.heap.size w w' := by
  obtain ⟨Ab, cb, rfl, hcb, hCb⟩ := hV.C
  obtain ⟨ad, rfl, _⟩ := hC.2.2 (by omega)
  have htl : ll.tail.length ≤ 131072 := by rw [List.length_tail]; omega
  have HSD := Aside0.mk (show StoAt B s d ll b T w.drew from hS.below (below_drew1 (Below.refl _ _)))
  have HDD := Aside0.mk (show DevAt d g L f false nw w.drew from hD.below (below_drew1 (Below.refl _ _)))
  have HXD := Aside0.mk (show w.drew.heap[gx]? = _ from hX)
  have HBD := Aside0.mk (show Below w.heap.size w w.drew from below_drew1 (Below.refl _ _))
  have HXB := Aside0.mk (fun (W : World) (hW : StoAt B s d ll b T W) => Base_any B s d ll b T W hW)
  have HXH := Aside0.mk (fun (W : World) (hW : StoAt B s d ll b T W) => Behind_all B s d ll b T W hW hll)
  have HXT := Aside0.mk (fun (W : World) (hW : StoAt B s d ll b T W) => Turn_sto B s d ll b T W hW)
  have HCC := Aside0.mk hC
  have HCB := Aside0.mk (And.intro hcb hCb)
  have HTL := Aside0.mk htl
  have HLL := Aside0.mk hL
  generalize ll.headD ⟨#[]⟩ = x0 at *
  generalize ll.tail = l1 at *
  have q1 : w.cell? ⟨gx, 1, none⟩ = some (.pointer (some ⟨s, 0, none⟩)) := by rw [cell_of_row _ _ _ _ _ _ hX]; rfl
  have q6 : w.cell? ⟨gx, 6, none⟩ = some (.string x0) := by rw [cell_of_row _ _ _ _ _ _ hX]; rfl
  have q7 : w.cell? ⟨gx, 7, none⟩ = some (.slice Ab l1.length cb) := by rw [cell_of_row _ _ _ _ _ _ hX]; rfl
  have q8 : w.cell? ⟨gx, 8, none⟩ = some (.int .i64 T) := by rw [cell_of_row _ _ _ _ _ _ hX]; rfl
  clear hX hS hD hC hV hcb hCb htl hll hL
  go_enter Try.func79, Try.ntmps79
  go_wp2_with (fail)
  go_region_held3 (fun w' => w'.cell? ⟨gx, 1, none⟩ = some (.pointer (some ⟨s, 0, none⟩)) ∧ w'.cell? ⟨gx, 6, none⟩ = some (.string x0) ∧ w'.cell? ⟨gx, 7, none⟩ = some (.slice Ab l1.length cb) ∧ w'.cell? ⟨gx, 8, none⟩ = some (.int .i64 T))
    (first | go_keep | exact ⟨q1, q6, q7, q8⟩)
    (first
      | (go_at_call 36; (with_reducible refine (HXB.out _ (by exact HSD.out)).mono ?_); rintro e w6 ⟨rfl, rfl⟩)
      | (go_at_call 37; (with_reducible refine (HXH.out _ (by exact HSD.out)).mono ?_); rintro e w6 ⟨v6, rfl, ho, hb⟩; have HX6 := Aside0.mk ((hb.block gx (blk_lt HXD.out)).trans HXD.out); have HS6 := Aside0.mk (HSD.out.below hb); have HD6 := Aside0.mk (HDD.out.below hb); have HB6 := Aside0.mk (show Below w.heap.size w w6 from below_then HBD.out HBD.out.size hb); obtain ⟨A6, c6, rfl, hc6, hC6⟩ := C_of_own ho; have HC6 := Aside0.mk (And.intro hc6 hC6); clear q1 q6 q7 q8 hb ho hc6 hC6; have q1 : w6.cell? ⟨gx, 1, none⟩ = some (.pointer (some ⟨s, 0, none⟩)) := (by rw [cell_of_row _ _ _ _ _ _ HX6.out]; rfl); have q6 : w6.cell? ⟨gx, 6, none⟩ = some (.string x0) := (by rw [cell_of_row _ _ _ _ _ _ HX6.out]; rfl); have q7 : w6.cell? ⟨gx, 7, none⟩ = some (.slice Ab l1.length cb) := (by rw [cell_of_row _ _ _ _ _ _ HX6.out]; rfl); have q8 : w6.cell? ⟨gx, 8, none⟩ = some (.int .i64 T) := (by rw [cell_of_row _ _ _ _ _ _ HX6.out]; rfl))
      | (go_at_call 47; (with_reducible refine (samphireref08_Same.calls _ A6 c6 l1 Ab cb l1 true _ HC6.out.2 HC6.out.1 (Kd.C_below HCB.out.2 HB6.out) HCB.out.1 (same_self l1 (by have := HTL.out; omega))).mono ?_); rintro e w8 ⟨rfl, hdr⟩; have hb := hdr.below; have HX8 := Aside0.mk ((hb.block gx (blk_lt HX6.out)).trans HX6.out); have HS8 := Aside0.mk (HS6.out.below hb); have HD8 := Aside0.mk (HD6.out.below hb); have HB8 := Aside0.mk (show Below w.heap.size w w8 from below_then HB6.out HB6.out.size hb); clear q1 q6 q7 q8 hb hdr; have q1 : w8.cell? ⟨gx, 1, none⟩ = some (.pointer (some ⟨s, 0, none⟩)) := (by rw [cell_of_row _ _ _ _ _ _ HX8.out]; rfl); have q6 : w8.cell? ⟨gx, 6, none⟩ = some (.string x0) := (by rw [cell_of_row _ _ _ _ _ _ HX8.out]; rfl); have q7 : w8.cell? ⟨gx, 7, none⟩ = some (.slice Ab l1.length cb) := (by rw [cell_of_row _ _ _ _ _ _ HX8.out]; rfl); have q8 : w8.cell? ⟨gx, 8, none⟩ = some (.int .i64 T) := (by rw [cell_of_row _ _ _ _ _ _ HX8.out]; rfl))
      | (go_at_call 38; (with_reducible refine (HXT.out _ (by exact HS8.out)).mono ?_); rintro e w9 ⟨rfl, rfl⟩))
  go_wp2_with (fail)
  have q0 : w9.cell? ⟨gx, 0, none⟩ = some (.pointer (some ⟨d, 0, none⟩)) := by rw [cell_of_row _ _ _ _ _ _ HX8.out]; rfl
  have q2 : w9.cell? ⟨gx, 2, none⟩ = some (.slice (some ad) L.length c) := by rw [cell_of_row _ _ _ _ _ _ HX8.out]; rfl
  have HQ := Aside0.mk (And.intro q0 q2)
  clear q0 q1 q2 q6 q7 q8
  go_loopw [3] (fun i wr => ∃ k : Nat, k ≤ L.length ∧ i = .int .i64 (k : Int) ∧ Aside0 (wr = w9)) (fun i _ => L.length - (intOf i).toNat)
  case atStart => exact ⟨0, by omega, rfl, ⟨rfl⟩⟩
  case round =>
    obtain ⟨k, hk, rfl, HE⟩ := hrel
    have he := HE.out
    subst he
    have q0 := HQ.out.1
    have q2 := HQ.out.2
    by_cases hlt : k < L.length
    · have p1 : decide (k < L.length) = true := decide_eq_true hlt
      have p2 := eq_true hlt
      obtain ⟨ad2, Y, had, hY, cy⟩ := str_at HCC.out k hlt
      simp only [Option.some.injEq] at had
      subst had
      have cy' := pw_cell_below HB8.out cy
      have HRD := Aside0.mk (Read_dev d g L f nw k Y wr HD8.out hY)
      have HKL := Aside0.mk hlt
      have HK4 := Aside0.mk (Nat.lt_of_lt_of_le hlt HLL.out)
      clear hk hlt hY cy
      go_wp2_with (fail)
      refine HRD.out.mono ?_
      rintro e w10 ⟨rfl, h10⟩
      subst h10
      go_wp2_with (fail)
      have hk4 := HK4.out
      have hkl := HKL.out
      refine ⟨⟨k + 1, hkl, by rw [show wrap64 ((k : Int) + 1) = ((k + 1 : Nat) : Int) by unfold wrap64; omega], ⟨by first | rfl | trivial⟩⟩, by rw [show wrap64 ((k : Int) + 1) = ((k + 1 : Nat) : Int) by unfold wrap64; omega]; simp only [intOf, Int.toNat_natCast]; omega⟩
    · obtain rfl : k = L.length := Nat.le_antisymm hk (Nat.le_of_not_lt hlt)
      have p1 : decide (L.length < L.length) = false := decide_eq_false (Nat.lt_irrefl _)
      have p1b : (L.length < L.length) = False := eq_false (Nat.lt_irrefl _)
      clear hk hlt
      go_wp2_with (fail)
      go_ret
      exact ⟨rfl, HB8.out⟩
end Go.Proofs.Ytbkbganflnemeaa.Pr
end

section
namespace Go.Proofs.Ytbkbganflnemeaa.Pr
open Go.RowKit Go.Deep Go.Maps Go.Proofs.YtbkbganflnemeaaW.PrintWords Go.Proofs.YtbkbganflnemeaaW.PrintLast Go.Proofs.YtbkbganflnemeaaW.PrintMore
set_option maxHeartbeats 8000000
set_option linter.unusedVariables false
set_option linter.unusedSimpArgs false
theorem rOn_calls (A : Option Addr) (m c : Nat) (f n : Int) (off : Bool) (w : World) : Calls Try.prog 77 #[.agg #[.slice A m c, .int .i64 f, .bool off, .int .i64 n]] w fun e w' => e = .returned (.agg #[.slice A m c, .int .i64 (-1), .bool false, .int .i64 n]) ∧ Below w.heap.size w w' := by
  go_enter Try.func77, Try.ntmps77
  go_wp2_with (fail)
  refine bodyPost_ret (results_cell_row rfl _ _ (w.heap.size + 1) 65 #[.slice A m c, .int .i64 (-1), .bool false, .int .i64 n] (0, 0) _ rfl (stoNew_at (Array.size_push _) _) Try.underlying65 rfl (by kernel_rfl)) rfl ?_
  exact ⟨rfl, below_alloc (below_alloc (Below.refl _ _) _) _⟩
theorem cellX {W : World} {gx : Nat} {cs : Array Value} {t : TypeId} {z : Nat × Nat} (h : W.heap[gx]? = some (.cells cs t z)) (j : Nat) (u : Value) (hu : cs[j]? = some u) : W.cell? ⟨gx, j, none⟩ = some u := by rw [cell_of_row _ _ _ _ _ _ h]; exact hu
theorem DevAt.farX {d g s : Nat} {L : List ByteArray} {f nw : Int} {o : Bool} {w : World} {cs : Array Value} (h : DevAt d g L f o nw w) (hs : w.heap[s]? = some (.cells cs 75 (0, 0))) (j : Nat) (u : Value) : DevAt d g L f o nw (w.setCell ⟨s, j, none⟩ u) := by
  refine ⟨(Below.heap_setCell w ⟨s, j, none⟩ u d (fun e => ?_)).trans h.box, (Below.heap_setCell w ⟨s, j, none⟩ u g (fun e => ?_)).trans h.row, h.siz⟩
  · have hb := h.box
    have e2 : d = s := e
    rw [e2, hs] at hb
    injection hb with hb
    injection hb with _ h3 _
    exact absurd h3 (by decide)
  · have hb := h.row
    have e2 : g = s := e
    rw [e2, hs] at hb
    injection hb with hb
    injection hb with _ h3 _
    exact absurd h3 (by decide)
theorem Sl.set {B gx j : Nat} {bv u : Value} {l : List ByteArray} {W : World} {cs : Array Value} (h : Sl B bv l W) (hs : W.heap[gx]? = some (.cells cs 75 (0, 0))) : Sl B bv l (W.setCell ⟨gx, j, none⟩ u) :=
  h.keep fun g cs2 _ hg => Below.heap_setCell W ⟨gx, j, none⟩ u g (fun e => by
    have e2 : g = gx := e
    rw [e2, hs] at hg
    injection hg with hg
    injection hg with _ h2 _
    exact absurd h2 (by decide))
theorem Sl.frv {B d g : Nat} {bv : Value} {l : List ByteArray} {L : List ByteArray} {f nw : Int} {o : Bool} {w w' : World} (h : Sl B bv l w) (hD : DevAt d g L f o nw w) (hf : FrV d g w w') : Sl B bv l w' :=
  h.keep fun k cs _ hk => (hD.keep hf hk (by decide) (by decide)).trans hk.symm
theorem StoAt.setX {B s d gx j : Nat} {l : List ByteArray} {b : ByteArray} {t : Int} {u : Value} {W : World} {cs : Array Value} (h : StoAt B s d l b t W) (hs : W.heap[gx]? = some (.cells cs 75 (0, 0))) : StoAt B s d l b t (W.setCell ⟨gx, j, none⟩ u) := by
  obtain ⟨v, h0, hb, ho⟩ := h
  refine ⟨v, h0, keep_set hb (fun e => ?_), own_move ho (fun k hk => Below.heap_setCell W ⟨gx, j, none⟩ u k (fun e => Go.Proofs.YtbkbganflnemeaaW.PrintWords.own_ne ho hs (by decide) (by rw [hk]; first | exact congrArg some e | exact congrArg some e.symm)))⟩
  rw [e, hs] at hb
  injection hb with hb
  injection hb with _ h2 _
  exact absurd h2 (by decide)
set_option maxRecDepth 100000 in
theorem opens_calls (gx d g : Nat) (so : Option Addr) (L : List ByteArray) (fd nw f n : Int) (od off : Bool) (A A0 : Option Addr) (c n0 c0 : Nat) (x0 b0 : ByteArray) (T0 : Int) (w : World)
    (hX : w.heap[gx]? = some (.cells #[.pointer (some ⟨d, 0, none⟩), .pointer so, .slice A L.length c, .int .i64 f, .bool off, .int .i64 n, .string x0, .slice A0 n0 c0, .int .i64 T0, .string b0] 75 (0, 0)))
    (hD : DevAt d g L fd od nw w) (BL : Nat) (hV : Sl BL (.slice A L.length c) L w) (hL2 : 2 ≤ L.length) (hL : L.length ≤ 4096) (hll : (bestP L 2).2.2.length ≤ 131072) :
    Calls Try.prog 43 #[.pointer (some ⟨gx, 0, none⟩)] w fun e w' => e = .returned (.bool true) ∧ ∃ s' B' nw' bv, SideAt gx d s' (.slice A L.length c) bv (-1) n false ((bestP L 2).2.2.headD ⟨#[]⟩) (bestP L 2).1 (txt (bestP L 2).2.1) w' ∧ DevAt d g L (-1) false nw' w' ∧ StoAt B' s' d (bestP L 2).2.2 (txt (bestP L 2).2.1) (bestP L 2).1 w' ∧ Sl BL (.slice A L.length c) L w' ∧ w.heap.size ≤ B' ∧ FrS d g gx w w' := by
  have HX := Aside0.mk hX
  have HD := Aside0.mk hD
  have q0 := cellX hX 0 _ rfl
  have q2 := cellX hX 2 _ rfl
  have q3 := cellX hX 3 _ rfl
  have q4 := cellX hX 4 _ rfl
  have q5 := cellX hX 5 _ rfl
  have HON := Aside0.mk (rOn_calls A L.length c f n off)
  have HV := Aside0.mk hV
  have HLL := Aside0.mk (And.intro hL2 (And.intro hL hll))
  clear hX hD hV hL2 hL hll
  go_enter Try.func43, Try.ntmps43
  go_wp2_with (fail)
  refine (HON.out _).mono ?_
  rintro e w1 ⟨rfl, hb⟩
  have HX1 := Aside0.mk ((hb.block gx (blk_lt HX.out)).trans HX.out)
  have HD1 := Aside0.mk (HD.out.below hb)
  have HV1 := Aside0.mk (HV.out.below hb)
  have HZ1 := Aside0.mk hb.size
  have HF1 : Aside0 (FrS d g gx w w1) := ⟨FrS.of_frv (FrV.of_below hb)⟩
  clear hb HX HD HV q0 q2 q3 q4 q5
  have q0 := cellX HX1.out 0 _ rfl
  have q2 := cellX HX1.out 2 _ rfl
  have q3 := cellX HX1.out 3 _ rfl
  have q4 := cellX HX1.out 4 _ rfl
  have q5 := cellX HX1.out 5 _ rfl
  have f2 := blk_thaw HX1.out 2
  have f3 := blk_thaw HX1.out 3
  have f4 := blk_thaw HX1.out 4
  have f5 := blk_thaw HX1.out 5
  go_wp2_with (fail)
  have x2 := blk_put HX1.out 2 (.slice A L.length c) rfl
  have x3 := blk_put x2 3 (.int .i64 (-1)) rfl
  have x4 := blk_put x3 4 (.bool false) rfl
  have x5 := blk_put x4 5 (.int .i64 n) rfl
  have HX2 := Aside0.mk (show ((((w1.setCell ⟨gx, 2, none⟩ (.slice A L.length c)).setCell ⟨gx, 3, none⟩ (.int .i64 (-1))).setCell ⟨gx, 4, none⟩ (.bool false)).setCell ⟨gx, 5, none⟩ (.int .i64 n)).heap[gx]? = some (.cells #[.pointer (some ⟨d, 0, none⟩), .pointer so, .slice A L.length c, .int .i64 (-1), .bool false, .int .i64 n, .string x0, .slice A0 n0 c0, .int .i64 T0, .string b0] 75 (0, 0)) from x5)
  have HD2 := Aside0.mk ((((HD1.out.farX HX1.out 2 (.slice A L.length c)).farX x2 3 (.int .i64 (-1))).farX x3 4 (.bool false)).farX x4 5 (.int .i64 n))
  have HV2 := Aside0.mk ((((HV1.out.set (j := 2) (u := .slice A L.length c) HX1.out).set (j := 3) (u := .int .i64 (-1)) x2).set (j := 4) (u := .bool false) x3).set (j := 5) (u := .int .i64 n) x4)
  have HZ2 := Aside0.mk (show w.heap.size ≤ ((((w1.setCell ⟨gx, 2, none⟩ (.slice A L.length c)).setCell ⟨gx, 3, none⟩ (.int .i64 (-1))).setCell ⟨gx, 4, none⟩ (.bool false)).setCell ⟨gx, 5, none⟩ (.int .i64 n)).heap.size by simp only [World.setCell]; simpa [World.setCell] using HZ1.out)
  have HF2 : Aside0 (FrS d g gx w ((((w1.setCell ⟨gx, 2, none⟩ (.slice A L.length c)).setCell ⟨gx, 3, none⟩ (.int .i64 (-1))).setCell ⟨gx, 4, none⟩ (.bool false)).setCell ⟨gx, 5, none⟩ (.int .i64 n))) := ⟨(((HF1.out.trans (FrS.set d g gx _ 2 _)).trans (FrS.set d g gx _ 3 _)).trans (FrS.set d g gx _ 4 _)).trans (FrS.set d g gx _ 5 _)⟩
  clear x2 x3 x4 x5 q0 q2 q3 q4 q5 f2 f3 f4 f5 HX1 HD1 HV1 HZ1 HF1
  generalize (((w1.setCell ⟨gx, 2, none⟩ (.slice A L.length c)).setCell ⟨gx, 3, none⟩ (.int .i64 (-1))).setCell ⟨gx, 4, none⟩ (.bool false)).setCell ⟨gx, 5, none⟩ (.int .i64 n) = w2 at *
  refine (On_dev d g L fd nw od w2 HD2.out (by have := HLL.out.1; omega)).mono ?_
  rintro e w3 ⟨rfl, hd, hfr⟩
  have HX3 := Aside0.mk (HD2.out.keep hfr HX2.out (by decide) (by decide))
  have HV3 := Aside0.mk (HV2.out.frv HD2.out hfr)
  have HD3 := Aside0.mk hd
  have HZ3 := Aside0.mk (Nat.le_trans HZ2.out hfr.2.2.2.1)
  have HF3 := Aside0.mk (HF2.out.trans (FrS.of_frv hfr))
  clear hd hfr HX2 HD2 HV2 HZ2 HF2
  have q0 := cellX HX3.out 0 _ rfl
  go_wp2_with (fail)
  refine (Open_dev d g L (-1) nw w3 HD3.out HLL.out.1 HLL.out.2.1).mono ?_
  rintro e w4 ⟨hb, s4, rfl, hs⟩
  have HX4 := Aside0.mk ((hb.block gx (blk_lt HX3.out)).trans HX3.out)
  have HD4 := Aside0.mk (HD3.out.below hb)
  have HV4 := Aside0.mk (HV3.out.below hb)
  have HS4 := Aside0.mk (hs.lower HZ3.out)
  have HZ4 := Aside0.mk (Nat.le_trans HZ3.out hb.size)
  have HF4 := Aside0.mk (HF3.out.trans (FrS.of_frv (FrV.of_below hb)))
  clear hb hs HX3 HD3 HV3 HZ3 HF3 q0
  have q0 := cellX HX4.out 0 _ rfl
  have q2 := cellX HX4.out 2 _ rfl
  have q3 := cellX HX4.out 3 _ rfl
  have q4 := cellX HX4.out 4 _ rfl
  have q5 := cellX HX4.out 5 _ rfl
  go_wp2_with (fail)
  obtain ⟨A', c', he, _, hC4⟩ := HV4.out.C
  simp only [Value.slice.injEq] at he
  obtain ⟨rfl, _, rfl⟩ := he
  refine (rOpen_calls A c L (-1) n w4 hC4 HD4.out.siz HLL.out.1 HLL.out.2.1).mono ?_
  rintro e w5 ⟨hb, sv, rfl, bv, rfl, hs⟩
  obtain ⟨A5, n5, c5, rfl⟩ := hs.form
  have HX5 := Aside0.mk ((hb.block gx (blk_lt HX4.out)).trans HX4.out)
  have HD5 := Aside0.mk (HD4.out.below hb)
  have HV5 := Aside0.mk (HV4.out.below hb)
  have HS5 := Aside0.mk (HS4.out.below hb)
  have HW5 := Aside0.mk (hs.lower HZ4.out)
  have HZ5 := Aside0.mk (Nat.le_trans HZ4.out hb.size)
  have hl5 : n5 = (bestP L 2).2.2.tail.length := by
    obtain ⟨A', c', he, _, _⟩ := hs.C
    simp only [Value.slice.injEq] at he
    exact he.2.1
  have HL5 := Aside0.mk hl5
  have HF5 := Aside0.mk (HF4.out.trans (FrS.of_frv (FrV.of_below hb)))
  clear hb hs HX4 HD4 HV4 HS4 HZ4 HF4 q0 q2 q3 q4 q5 hC4 hl5
  obtain ⟨⟨TT, BB, LL⟩, hbest⟩ : ∃ q, bestP L 2 = q := ⟨_, rfl⟩
  have HBST : Unit → Aside0 (bestP L 2 = (TT, BB, LL)) := fun _ => ⟨hbest⟩
  simp only [hbest] at HS5 HW5 HL5 HLL
  simp only [hbest]
  clear hbest
  obtain ⟨hx, hhx⟩ : ∃ q, LL.headD ⟨#[]⟩ = q := ⟨_, rfl⟩
  rw [hhx]
  have HHX := Aside0.mk hhx
  clear hhx
  obtain ⟨tb, htb⟩ : ∃ q, txt BB = q := ⟨_, rfl⟩
  rw [htb] at HS5
  rw [htb]
  have HTB := Aside0.mk htb
  clear htb
  go_wp2_with (fail)
  obtain ⟨g5, hg5⟩ : ∃ q, w5.heap.size = q := ⟨_, rfl⟩
  have hba := below_alloc (Below.refl w5.heap.size w5) (.cells #[.string hx, .slice A5 n5 c5, .int .i64 TT, .string tb] 73)
  have hxb := (hba.block gx (blk_lt HX5.out)).trans HX5.out
  have HNE : Aside0 (g5 ≠ gx) := ⟨by rw [← hg5]; exact fun e => Nat.lt_irrefl _ (e ▸ blk_lt HX5.out)⟩
  have hbb : (w5.alloc (.cells #[.string hx, .slice A5 n5 c5, .int .i64 TT, .string tb] 73)).heap[g5]? = some (.cells #[.string hx, .slice A5 n5 c5, .int .i64 TT, .string tb] 73 (0, 0)) := stoNew_at hg5 _
  have HDb := Aside0.mk (HD5.out.below hba)
  have HVb := Aside0.mk (HV5.out.below hba)
  have HSb := Aside0.mk (HS5.out.below hba)
  have HWb := Aside0.mk (HW5.out.below hba)
  have HZb := Aside0.mk (Nat.le_trans HZ5.out hba.size)
  have HFb := Aside0.mk (HF5.out.trans (FrS.of_frv (FrV.of_below hba)))
  rw [hg5]
  clear hba HX5 HD5 HV5 HS5 HW5 HZ5 HF5 hg5
  generalize w5.alloc (.cells #[.string hx, .slice A5 n5 c5, .int .i64 TT, .string tb] 73) = wb at *
  have HXb := Aside0.mk (show wb.drew.heap[gx]? = _ from hxb)
  have HBb := Aside0.mk (show wb.drew.heap[g5]? = _ from hbb)
  have y1 := cellX HXb.out 1 _ rfl
  have y1a := cellX hxb 1 _ rfl
  have yf1 := blk_thaw HXb.out 1
  have yf1a := blk_thaw hxb 1
  have y6a := cellX hxb 6 _ rfl
  have yf6a := blk_thaw hxb 6
  have y7a := cellX hxb 7 _ rfl
  have yf7a := blk_thaw hxb 7
  have y8a := cellX hxb 8 _ rfl
  have yf8a := blk_thaw hxb 8
  have y9a := cellX hxb 9 _ rfl
  have yf9a := blk_thaw hxb 9
  clear hxb hbb
  refine start_ (n := 10) (S := fun w' => w'.cell? ⟨g5, 0, none⟩ = some (.string hx) ∧ w'.cell? ⟨g5, 1, none⟩ = some (.slice A5 n5 c5) ∧ w'.cell? ⟨g5, 2, none⟩ = some (.int .i64 TT) ∧ w'.cell? ⟨g5, 3, none⟩ = some (.string tb)) (ds := [9]) #[false, false, false, false, false, false, false, false, false, false] (by kernel_rfl) rfl rfl ⟨(cellX HBb.out 0 _ rfl), (cellX HBb.out 1 _ rfl), (cellX HBb.out 2 _ rfl), (cellX HBb.out 3 _ rfl)⟩ (fun hHeld => ?_)
  refine pure_ (i := 0) (N := some 37) (v := ?_) (a' := ?_) #[true, false, false, false, false, false, false, false, false, false] rfl rfl (by kernel_rfl) (fun _ _ _ h => h) (Or.inl ⟨by rfl, ?_⟩) ?_ ?_
  rotate_left
  · intro w'
    go_simp
    with_reducible rfl
  rotate_left
  · simp only [Act.put, List.setIfInBounds_toArray, List.set_cons_zero, List.set_cons_succ, i64_w, i32_w]
    rfl
  refine pure_ (i := 1) (N := some 38) (v := ?_) (a' := ?_) #[true, true, false, false, false, false, false, false, false, false] rfl rfl (by kernel_rfl) (fun _ _ _ h => h) (Or.inl ⟨by rfl, ?_⟩) ?_ ?_
  rotate_left
  · intro w'
    go_simp
    with_reducible rfl
  rotate_left
  · simp only [Act.put, List.setIfInBounds_toArray, List.set_cons_zero, List.set_cons_succ, i64_w, i32_w]
    rfl
  refine pure_ (i := 2) (N := some 39) (v := ?_) (a' := ?_) #[true, true, true, false, false, false, false, false, false, false] rfl rfl (by kernel_rfl) (fun _ _ _ h => h) (Or.inl ⟨by rfl, ?_⟩) ?_ ?_
  rotate_left
  · intro w'
    go_simp
    with_reducible rfl
  rotate_left
  · simp only [Act.put, List.setIfInBounds_toArray, List.set_cons_zero, List.set_cons_succ, i64_w, i32_w]
    rfl
  refine pure_ (i := 4) (N := some 41) (v := ?_) (a' := ?_) #[true, true, true, false, true, false, false, false, false, false] rfl rfl (by kernel_rfl) (fun _ _ _ h => h) (Or.inl ⟨by rfl, ?_⟩) ?_ ?_
  rotate_left
  · intro w'
    go_simp
    with_reducible rfl
  rotate_left
  · simp only [Act.put, List.setIfInBounds_toArray, List.set_cons_zero, List.set_cons_succ, i64_w, i32_w]
    rfl
  refine pure_ (i := 5) (N := some 42) (v := ?_) (a' := ?_) #[true, true, true, false, true, true, false, false, false, false] rfl rfl (by kernel_rfl) (fun _ _ _ h => h) (Or.inl ⟨by rfl, ?_⟩) ?_ ?_
  rotate_left
  · intro w'
    go_simp
    with_reducible rfl
  rotate_left
  · simp only [Act.put, List.setIfInBounds_toArray, List.set_cons_zero, List.set_cons_succ, i64_w, i32_w]
    rfl
  refine take_ (i := 3) (N := some 40) (v := ?_) (a' := ?_) #[true, true, true, true, true, true, false, false, false, false] rfl rfl (by kernel_rfl) (fun _ _ _ h => h) (Or.inl ⟨by rfl, ?_⟩) hHeld ?_ ?_
  rotate_left
  · rintro w' ⟨s0, s1, s2, s3⟩
    go_simp
    with_reducible rfl
  rotate_left
  · simp only [Act.put, List.setIfInBounds_toArray, List.set_cons_zero, List.set_cons_succ, i64_w, i32_w]
    rfl
  refine one_ (i := 6) (N := none) #[true, true, true, true, true, true, true, false, false, false] rfl rfl (by kernel_rfl) (by decide) (fun K hK => ?_)
  refine skip_ (w1 := ?_) (by rfl) rfl ?_ ?_
  rotate_left
  · go_simp
    rfl
  have P1 : (wb.drew.setCell ⟨gx, 1, none⟩ (.pointer (some ⟨s4, 0, none⟩))).heap[gx]? = some (.cells #[.pointer (some ⟨d, 0, none⟩), .pointer (some ⟨s4, 0, none⟩), .slice A L.length c, .int .i64 (-1), .bool false, .int .i64 n, .string x0, .slice A0 n0 c0, .int .i64 T0, .string b0] 75 (0, 0)) := blk_put HXb.out 1 _ rfl
  have P2 : (wb.drew.setCell ⟨gx, 1, none⟩ (.pointer (some ⟨s4, 0, none⟩))).heap[g5]? = some (.cells #[.string hx, .slice A5 n5 c5, .int .i64 TT, .string tb] 73 (0, 0)) := keep_set HBb.out HNE.out
  have z6 := cellX P1 6 _ rfl
  have z7 := cellX P1 7 _ rfl
  have z8 := cellX P1 8 _ rfl
  have z9 := cellX P1 9 _ rfl
  have zf6 := blk_thaw P1 6
  have zf7 := blk_thaw P1 7
  have zf8 := blk_thaw P1 8
  have zf9 := blk_thaw P1 9
  refine hK.out _ _ ⟨(cellX P2 0 _ rfl), (cellX P2 1 _ rfl), (cellX P2 2 _ rfl), (cellX P2 3 _ rfl)⟩ (fun hHeld => ?_)
  clear hK K
  refine pure_ (i := 7) (N := some 43) (v := ?_) (a' := ?_) #[true, true, true, true, true, true, true, true, false, false] rfl rfl (by kernel_rfl) (fun _ _ _ h => h) (Or.inl ⟨by rfl, ?_⟩) ?_ ?_
  rotate_left
  · intro w'
    go_simp
    with_reducible rfl
  rotate_left
  · simp only [Act.put, List.setIfInBounds_toArray, List.set_cons_zero, List.set_cons_succ, i64_w, i32_w]
    rfl
  refine pure_ (i := 8) (N := some 44) (v := ?_) (a' := ?_) #[true, true, true, true, true, true, true, true, true, false] rfl rfl (by kernel_rfl) (fun _ _ _ h => h) (Or.inl ⟨by rfl, ?_⟩) ?_ ?_
  rotate_left
  · intro w'
    go_simp
    with_reducible rfl
  rotate_left
  · simp only [Act.put, List.setIfInBounds_toArray, List.set_cons_zero, List.set_cons_succ, i64_w, i32_w]
    rfl
  refine last_ (i := 9) (N := none) #[true, true, true, true, true, true, true, true, true, true] rfl rfl (by kernel_rfl) (by decide) (fun K hK => ?_)
  refine skip_ (w1 := ?_) (by rfl) rfl ?_ ?_
  rotate_left
  · go_simp
    rfl
  refine hK.out _ _ ?_
  clear hK K
  refine done_ (by kernel_rfl) ?_
  have hxb : wb.heap[gx]? = _ := HXb.out
  have p1 := blk_put hxb 1 (.pointer (some ⟨s4, 0, none⟩)) rfl
  have p6 := blk_put p1 6 (.string hx) rfl
  have p7 := blk_put p6 7 (.slice A5 n5 c5) rfl
  have p8 := blk_put p7 8 (.int .i64 TT) rfl
  have p9 := blk_put p8 9 (.string tb) rfl
  have HXf := Aside0.mk (show SideAt gx d s4 (.slice A L.length c) (.slice A5 n5 c5) (-1) n false hx TT tb (((((wb.setCell ⟨gx, 1, none⟩ (.pointer (some ⟨s4, 0, none⟩))).setCell ⟨gx, 6, none⟩ (.string hx)).setCell ⟨gx, 7, none⟩ (.slice A5 n5 c5)).setCell ⟨gx, 8, none⟩ (.int .i64 TT)).setCell ⟨gx, 9, none⟩ (.string tb)).drew from p9)
  have HDf := Aside0.mk ((((((HDb.out.farX hxb 1 (.pointer (some ⟨s4, 0, none⟩))).farX p1 6 (.string hx)).farX p6 7 (.slice A5 n5 c5)).farX p7 8 (.int .i64 TT)).farX p8 9 (.string tb)).below (below_drew1 (Below.refl _ _)))
  have HVf := Aside0.mk ((((((HVb.out.set (j := 1) (u := .pointer (some ⟨s4, 0, none⟩)) hxb).set (j := 6) (u := .string hx) p1).set (j := 7) (u := .slice A5 n5 c5) p6).set (j := 8) (u := .int .i64 TT) p7).set (j := 9) (u := .string tb) p8).below (below_drew1 (Below.refl _ _)))
  have HWf := Aside0.mk ((((((HWb.out.set (j := 1) (u := .pointer (some ⟨s4, 0, none⟩)) hxb).set (j := 6) (u := .string hx) p1).set (j := 7) (u := .slice A5 n5 c5) p6).set (j := 8) (u := .int .i64 TT) p7).set (j := 9) (u := .string tb) p8).below (below_drew1 (Below.refl _ _)))
  have HSf := Aside0.mk ((((((HSb.out.setX (j := 1) (u := .pointer (some ⟨s4, 0, none⟩)) hxb).setX (j := 6) (u := .string hx) p1).setX (j := 7) (u := .slice A5 n5 c5) p6).setX (j := 8) (u := .int .i64 TT) p7).setX (j := 9) (u := .string tb) p8).below (below_drew1 (Below.refl _ _)))
  have HFf : Aside0 (FrS d g gx w (((((wb.setCell ⟨gx, 1, none⟩ (.pointer (some ⟨s4, 0, none⟩))).setCell ⟨gx, 6, none⟩ (.string hx)).setCell ⟨gx, 7, none⟩ (.slice A5 n5 c5)).setCell ⟨gx, 8, none⟩ (.int .i64 TT)).setCell ⟨gx, 9, none⟩ (.string tb)).drew) := ⟨(((((HFb.out.trans (FrS.set d g gx _ 1 _)).trans (FrS.set d g gx _ 6 _)).trans (FrS.set d g gx _ 7 _)).trans (FrS.set d g gx _ 8 _)).trans (FrS.set d g gx _ 9 _)).trans (FrS.of_frv (FrV.of_below (below_drew1 (Below.refl _ _))))⟩
  clear hxb p1 p6 p7 p8 p9 HFb
  clear y1 y1a yf1 yf1a y6a y7a y8a y9a yf6a yf7a yf8a yf9a HXb HDb HVb HWb HSb HBb
  generalize (((((wb.setCell ⟨gx, 1, none⟩ (.pointer (some ⟨s4, 0, none⟩))).setCell ⟨gx, 6, none⟩ (.string hx)).setCell ⟨gx, 7, none⟩ (.slice A5 n5 c5)).setCell ⟨gx, 8, none⟩ (.int .i64 TT)).setCell ⟨gx, 9, none⟩ (.string tb)).drew = wf at *
  obtain ⟨A', c', he, _, hCf⟩ := HVf.out.C
  simp only [Value.slice.injEq] at he
  obtain ⟨rfl, _, rfl⟩ := he
  have hsm := same_calls gx d g s4 w.heap.size w.heap.size L (-1) nw (-1) n false A c _ LL tb tb TT wf (by rw [HHX.out]; exact HXf.out) HSf.out HDf.out hCf HWf.out HLL.out.2.2 HLL.out.2.1 HLL.out.1
  have HSM := Aside0.mk hsm
  clear hsm hCf
  go_wp2_with (fail)
  refine HSM.out.mono ?_
  rintro e w7 ⟨rfl, hb⟩
  have HX7 := Aside0.mk ((hb.block gx (blk_lt HXf.out)).trans HXf.out)
  have HD7 := Aside0.mk (HDf.out.below hb)
  have HV7 := Aside0.mk (HVf.out.below hb)
  have HS7 := Aside0.mk (HSf.out.below hb)
  have HF7 := Aside0.mk (HFf.out.trans (FrS.of_frv (FrV.of_below hb)))
  clear hb
  go_wp2_with (fail)
  go_ret
  have hbest := (HBST ()).out
  rw [hbest]
  simp only
  rw [HHX.out, HTB.out]
  exact ⟨rfl, s4, w.heap.size, nw, _, HX7.out, HD7.out, HS7.out, HV7.out, Nat.le_refl _, HF7.out⟩
end Go.Proofs.Ytbkbganflnemeaa.Pr
end

section
namespace Go.Proofs.Ytbkbganflnemeaa.Pr
open Go.RowKit Go.Deep Go.Maps Go.Proofs.YtbkbganflnemeaaW.PrintWords Go.Proofs.YtbkbganflnemeaaW.PrintLast Go.Proofs.YtbkbganflnemeaaW.PrintMore
set_option maxHeartbeats 2000000
set_option linter.unusedVariables false
set_option linter.unusedSimpArgs false
def nOf (T : List Nat) : Int := if (numP T).2.2 = 0 then (numP (numP T).2.1).1 else 0
theorem halfP_bytes {which : Nat} {all : List Nat} {t : Int} {b : List Nat} {l : List ByteArray} (h : halfP which all = some (t, b, l)) : b = (all.drop 64).take (nOf (all.take 64)).toNat := by
  unfold halfP at h
  simp only at h
  unfold nOf
  generalize (if (numP (all.take 64)).2.2 = 0 then (numP (numP (all.take 64)).2.1).1 else 0) = n at h ⊢
  split at h
  · cases h
  split at h
  · cases h
  split at h
  · cases h
  · cases h
  · simp only [Option.some.injEq, Prod.mk.injEq] at h
    exact h.2.1.symm
theorem headB_take (t : Int) (X : ByteArray) : (bys (headB t X)).take 6 = byN t 6 := by
  have h6 : (byN t 6).length = 6 := byN_length _ _ (by decide)
  rw [headB, bys_fillB, bys_append, bys_txt (fun x hx => by rcases List.mem_append.1 hx with h | h <;> exact byN_lt _ _ x h), List.append_assoc, List.append_assoc]
  exact List.take_left' h6
theorem nOf_same (T T' : List Nat) (hl : T'.length = T.length) (h : ∀ i, i < 12 → T'[i]? = T[i]?) : nOf T' = nOf T := by
  have e1 : T'.take 6 = T.take 6 := by
    apply List.ext_getElem?
    intro i
    rw [List.getElem?_take, List.getElem?_take]
    split
    · exact h i (by omega)
    · rfl
  have e2 : (T'.drop 6).take 6 = (T.drop 6).take 6 := by
    apply List.ext_getElem?
    intro i
    rw [List.getElem?_take, List.getElem?_take, List.getElem?_drop, List.getElem?_drop]
    split
    · exact h (6 + i) (by omega)
    · rfl
  have short : ∀ X : List Nat, X.length < 6 → numP X = (0, [], 90) := fun X h => by unfold numP; rw [if_pos h]
  have good : ∀ X : List Nat, ¬ X.length < 6 → valS (X.take 6) ≤ 1099511627775 → numP X = ((valS (X.take 6) : Int), X.drop 6, 0) := fun X h h2 => by unfold numP; rw [if_neg h, if_pos h2]
  have bad : ∀ X : List Nat, ¬ X.length < 6 → ¬ valS (X.take 6) ≤ 1099511627775 → numP X = (0, [], 91) := fun X h h2 => by unfold numP; rw [if_neg h, if_neg h2]
  have first : ∀ X Y : List Nat, X.length = Y.length → X.take 6 = Y.take 6 → (numP X).1 = (numP Y).1 := fun X Y hl he => by
    by_cases h1 : X.length < 6
    · rw [short X h1, short Y (by omega)]
    · by_cases h2 : valS (X.take 6) ≤ 1099511627775
      · rw [good X h1 h2, good Y (by omega) (by rw [← he]; exact h2), he]
      · rw [bad X h1 h2, bad Y (by omega) (by rw [← he]; exact h2)]
  unfold nOf
  by_cases h1 : T.length < 6
  · rw [short T h1, short T' (by omega)]
  · by_cases h2 : valS (T.take 6) ≤ 1099511627775
    · rw [good T h1 h2, good T' (by omega) (by rw [e1]; exact h2)]
      simp only [if_true]
      exact first _ _ (by rw [List.length_drop, List.length_drop, hl]) e2
    · rw [bad T h1 h2, bad T' (by omega) (by rw [e1]; exact h2)]
theorem spoilt (L : List ByteArray) (t : Int) (b : List Nat) (l : List ByteArray) (hb : bestP L 2 = (t, b, l)) (h1 : 1 ≤ t) (h64 : ∀ x ∈ L, x.size = 64) (h2 : 2 ≤ L.length) (h h' : ByteArray) (hh : L[(t % 2).toNat * (L.length / 2)]? = some h) (hs : h'.size = 64)
    (j : Nat) (hj : j < 6 ∨ (12 ≤ j ∧ j < 20)) (hne : (bys h')[j]? ≠ (bys h)[j]?) (ho : ∀ i, i ≠ j → (bys h')[i]? = (bys h)[i]?) : (bestP (L.set ((t % 2).toNat * (L.length / 2)) h') 2).1 ≠ t := by
  obtain ⟨which, hwh⟩ : ∃ which, (t % 2).toNat = which := ⟨_, rfl⟩
  have hw : which ≤ 1 := by omega
  rw [hwh] at hh ⊢
  obtain ⟨L', hL'⟩ : ∃ L', L.set (which * (L.length / 2)) h' = L' := ⟨_, rfl⟩
  rw [hL']
  have hlen : L'.length = L.length := by rw [← hL', List.length_set]
  have hsz' : ∀ x ∈ L', x.size = 64 := fun x hx => by
    rw [← hL'] at hx
    rcases List.mem_or_eq_of_mem_set hx with q | q
    · exact h64 x q
    · rw [q]; exact hs
  have hH0 : 0 < L.length / 2 := by omega
  have hpos : which * (L.length / 2) < L.length := by rcases (show which = 0 ∨ which = 1 by omega) with e | e <;> rw [e] <;> omega
  have hg' : L'[which * (L.length / 2)]? = some h' := by rw [← hL', List.getElem?_set_self hpos]
  have hother : halfB (1 - which) L' = halfB (1 - which) L := by
    unfold halfB
    rw [hlen]
    apply List.ext_getElem?
    intro i
    rw [List.getElem?_take, List.getElem?_take]
    split
    · rename_i hi
      rw [List.getElem?_drop, List.getElem?_drop, ← hL', List.getElem?_set_ne]
      rcases (show which = 0 ∨ which = 1 by omega) with e | e <;> subst e <;> simp only [Nat.zero_mul, Nat.one_mul, Nat.sub_zero, Nat.sub_self] <;> omega
    · rfl
  have hX : ∀ x ∈ halfB which L, x.size = 64 := fun x hx => h64 x (halfB_mem hx)
  have hX' : ∀ x ∈ halfB which L', x.size = 64 := fun x hx => hsz' x (halfB_mem hx)
  have hx0 : (halfB which L)[0]? = some h := by rw [halfB_get L which 0 hw hH0, Nat.add_zero]; exact hh
  have hx0' : (halfB which L')[0]? = some h' := by rw [halfB_get L' which 0 hw (by rw [hlen]; exact hH0), hlen, Nat.add_zero]; exact hg'
  have ht1 := take_head _ hX h hx0
  have ht2 := take_head _ hX' h' hx0'
  have hdrop : (catL (halfB which L')).drop 64 = (catL (halfB which L)).drop 64 := by
    have e1 : halfB which L' = h' :: (halfB which L).tail := by
      have : halfB which L' = (halfB which L).set 0 h' := by
        unfold halfB
        rw [hlen, ← hL']
        apply List.ext_getElem?
        intro i
        rw [List.getElem?_take, List.getElem?_set, List.getElem?_take]
        by_cases hi : i < L.length / 2
        · rw [if_pos hi, if_pos hi, List.getElem?_drop, List.getElem?_drop, List.getElem?_set]
          by_cases h0 : i = 0
          · subst h0
            rw [if_pos (by omega), if_pos rfl, if_pos (by omega), if_pos (by rw [List.length_take, List.length_drop]; omega)]
          · rw [if_neg (by omega), if_neg (by omega)]
        · rw [if_neg hi, if_neg hi]
          by_cases h0 : 0 = i
          · omega
          · rw [if_neg h0]
      rw [this]
      cases hc : halfB which L with
      | nil => rw [hc] at hx0; simp at hx0
      | cons a X => rfl
    have e2 : halfB which L = h :: (halfB which L).tail := by
      cases hc : halfB which L with
      | nil => rw [hc] at hx0; simp at hx0
      | cons a X => rw [hc] at hx0; simp at hx0; rw [hx0]; rfl
    have hhs : h.size = 64 := h64 h (List.mem_of_getElem? hh)
    rw [e1]
    conv => rhs; rw [e2]
    rw [catL, catL, List.flatMap_cons, List.flatMap_cons, List.drop_left' (by rw [bys_length, hs]), List.drop_left' (by rw [bys_length, hhs])]
  have hbh := best_half L t b l hb h1
  rw [hwh] at hbh
  have hi := (halfP_inv hbh).2.2.2.2.2.2.2
  rw [ht1, txt_bys] at hi
  have hbb := halfP_bytes hbh
  intro he
  have h1' : 1 ≤ (bestP L' 2).1 := by omega
  have hbh' := best_half L' (bestP L' 2).1 (bestP L' 2).2.1 (bestP L' 2).2.2 rfl h1'
  rw [he, hwh] at hbh'
  have hi' := (halfP_inv hbh').2.2.2.2.2.2.2
  rw [ht2, txt_bys] at hi'
  have hbb' := halfP_bytes hbh'
  rcases hj with hj | hj
  · refine hne ?_
    have a1 := headB_take t (txt b)
    have a2 := headB_take t (txt (bestP L' 2).2.1)
    rw [hi] at a1
    rw [hi'] at a2
    have a3 : ((bys h').take 6)[j]? = ((bys h).take 6)[j]? := by rw [a1, a2]
    rw [List.getElem?_take, List.getElem?_take, if_pos hj, if_pos hj] at a3
    exact a3
  · have hn : nOf (bys h') = nOf (bys h) := nOf_same _ _ (by rw [bys_length, bys_length, hs, h64 h (List.mem_of_getElem? hh)]) (fun i hi => ho i (by omega))
    rw [ht1] at hbb
    rw [ht2, hdrop, hn, ← hbb] at hbb'
    rw [hbb', hi] at hi'
    exact hne (by rw [hi'])
end Go.Proofs.Ytbkbganflnemeaa.Pr
end

section
namespace Go.Proofs.Ytbkbganflnemeaa.Pr
open Go.RowKit Go.Deep Go.Maps Go.Proofs.YtbkbganflnemeaaW.PrintWords Go.Proofs.YtbkbganflnemeaaW.PrintLast Go.Proofs.YtbkbganflnemeaaW.PrintMore
set_option maxHeartbeats 8000000
set_option linter.unusedVariables false
set_option linter.unusedSimpArgs false
theorem Lay_late (B s d : Nat) (l : List ByteArray) (b : ByteArray) (t : Int) (text : ByteArray) (w : World) (hS : StoAt B s d l b t w) (ht : 1099511627775 ≤ t) :
    Calls Try.prog 35 #[.pointer (some ⟨s, 0, none⟩), .string text] w fun e w' => e = .returned (.int .i64 2) ∧ w' = w := by
  have HG := Aside0.mk (given_some B s d l b t w hS)
  have c3 := hS.turn
  have d2 : decide ((1099511627775 : Int) ≤ t) = true := decide_eq_true ht
  have d2b : ((1099511627775 : Int) ≤ t) = True := eq_true ht
  clear hS ht
  by_cases hx : 32768 < text.size
  case' pos =>
    have d1 : decide (32768 < (text.size : Int)) = true := decide_eq_true (by omega)
    have d1b : decide (32768 < text.size) = true := decide_eq_true hx
    clear hx
  case' neg =>
    have d1 : decide (32768 < (text.size : Int)) = false := decide_eq_false (by omega)
    have d1b : decide (32768 < text.size) = false := decide_eq_false hx
    clear hx
  all_goals
    go_enter Try.func35, Try.ntmps35
    go_wp2_with (fail)
    refine HG.out.mono ?_
    rintro e w' ⟨rfl, rfl⟩
    go_wp2_with (fail)
    go_ret
    exact ⟨rfl, rfl⟩
end Go.Proofs.Ytbkbganflnemeaa.Pr
end

section
namespace Go.Proofs.Ytbkbganflnemeaa.Pr
open Go.RowKit Go.Proofs.YtbkbganflnemeaaW.PrintWords Go.Proofs.YtbkbganflnemeaaW.PrintLast Go.Proofs.YtbkbganflnemeaaW.PrintMore
attribute [local go_sem] max2_int min2_int max_two min_two max_three min_three max_four min_four   -- for this text's walks alone
set_option linter.unusedVariables false
set_option linter.unusedSimpArgs false
mutual
def samphireref17_New.j0 : Nat → Int → Bool → Option (List ByteArray × Int × Bool × Int × Int)
  | 0, _, _ => none
  | k + 1, x0, x11 => if x11 = true then (some (([] : List ByteArray), 0, false, 0, 1)) else (if 0 ≤ x0 then (if (x0 : Int).toNat ≤ 17592186044416 then (samphireref17_New.l0 k x0 (List.replicate (x0 : Int).toNat (⟨#[]⟩ : ByteArray)) 0) else (none)) else (none))
def samphireref17_New.l0 : Nat → Int → List ByteArray → Int → Option (List ByteArray × Int × Bool × Int × Int)
  | 0, _, _, _ => none
  | k + 1, x0, x4, x5 => if x5 < x0 then (if 64 ≤ 281474976710656 then (if 0 ≤ x5 then (if x5 < (x4.length : Int) then (samphireref17_New.l0 k x0 (x4.set (x5 : Int).toNat (strOfNums (List.replicate 64 0))) (wrap64 (x5 + 1))) else (none)) else (none)) else (none)) else (some (x4, (-1), false, 0, 0))
end
def samphireref17_New.f (k : Nat) (a0 : Int) : Option (List ByteArray × Int × Bool × Int × Int) := if a0 < 1 then (samphireref17_New.j0 k a0 true) else (samphireref17_New.j0 k a0 (decide (a0 > 4096)))
set_option maxHeartbeats 8000000 in
set_option maxRecDepth 100000 in
theorem samphireref17_New.calls (k : Nat) (a0 : Int) (r1 : List ByteArray) (r2 : Int) (r3 : Bool) (r4 : Int) (r5 : Int) (w : World) (h : samphireref17_New.f k a0 = some (r1, r2, r3, r4, r5)) :
    Calls Try.prog 40 #[.int .i64 a0] w fun e w' => ∃ v0_ : Value, e = .returned (.tuple #[.agg #[v0_, .int .i64 r2, .bool r3, .int .i64 r4], .int .i64 r5]) ∧ Kd.R Kd.string 9 w' w.heap.size (fun _ => True) v0_ r1 ∧ Below w.heap.size w w' := by
  have hu65 := Try.underlying65
  have HB := Aside0.mk (Below.refl w.heap.size w)
  have H : (if a0 < 1 then (samphireref17_New.j0 k a0 true) else (samphireref17_New.j0 k a0 (decide (a0 > 4096)))) = some (r1, r2, r3, r4, r5) := h
  clear h
  have HC2 := Aside0.mk H
  clear H
  go_enter Try.func40, Try.ntmps40
  go_upto_region 1 with (first | ((with_reducible refine gate_dst (N := 2) rfl ?_); refine box_event ?hg (N := 2) ?hd (cs := #[.slice none 0 0, .int .i64 0, .bool false, .int .i64 0]) (t := 65) ?hr ?_; (case hd => rfl); (case hg => rfl); (case hr => first | (go_simp; done) | (go_simp; rfl)); intro gb416 hg w3 hbox hb; have n0_ := Aside0.mk (below_step (by repeat (first | (with_reducible first | exact HB.out | apply below_alloc | apply pw_below_drewN | apply below_drew1) | exact HB.out)) hb); have n1_ := Aside0.mk (hbox); have n2_ := Aside0.mk ((by rw [hg]; exact (below_size (by repeat (first | (with_reducible first | exact HB.out | apply below_alloc | apply pw_below_drewN | apply below_drew1) | exact HB.out))) : w.heap.size ≤ gb416)); have n3_ := Aside0.mk ((by rw [hg]; exact (below_size (by repeat (first | (with_reducible first | exact HB.out | apply below_alloc | apply pw_below_drewN | apply below_drew1) | exact HB.out))) : w.heap.size ≤ gb416)); clear HB; have HB := n0_; have BK416 := n1_; have GW416 := n2_; have GE416 := n3_; clear n0_ n1_ n2_ n3_; clear hb hbox hg))
  (try simp only [Act.put, List.setIfInBounds_toArray, List.set_cons_zero, List.set_cons_succ])
  go_cut [11] (fun v11 wc => ∃ (kq : Nat) (x11_1 : Bool), v11 = .bool x11_1 ∧ Aside0 (samphireref17_New.j0 kq a0 x11_1 = some (r1, r2, r3, r4, r5)) ∧ Aside0 (kq ≤ k) ∧ Aside0 (wc.heap[gb416]? = some (.cells #[(.slice none 0 0), .int .i64 0, .bool false, .int .i64 0] 65 (0, 0))) ∧ Aside0 (Below w.heap.size w wc))
  case first =>
    have H := HC2.out
    clear HC2
    by_cases c4 : a0 < 1
    · rw [if_pos c4] at H
      have c4b0 : decide (a0 < 1) = true := decide_eq_true c4
      clear c4
      (first | rw [c4b0] | (simp only [i64_w, i32_w]; rw [c4b0]) | skip)
      have H' := Aside0.mk H
      clear H
      go_wp2
      go_meet
      case rel => exact ⟨_, (true), (by first | rfl | (simp; done) | (simp [*]; done)), H', ⟨by first | omega | exact Nat.le_refl _⟩, ⟨by (with_reducible repeat (first | refine blk_drewN ?_ _ | refine blk_drew ?_ | refine blk_alloc ?_ _)); exact BK416.out⟩, ⟨by repeat (first | (with_reducible first | exact HB.out | apply below_alloc | apply pw_below_drewN | apply below_drew1 | refine below_set ?_ GE416.out) | exact HB.out)⟩⟩
    · rw [if_neg c4] at H
      have c4b0 : decide (a0 < 1) = false := decide_eq_false c4
      clear c4
      (first | rw [c4b0] | (simp only [i64_w, i32_w]; rw [c4b0]) | skip)
      have H' := Aside0.mk H
      clear H
      go_wp2
      go_meet
      case rel => exact ⟨_, (decide (a0 > 4096)), (by first | rfl | (simp; done) | (simp [*]; done)), H', ⟨by first | omega | exact Nat.le_refl _⟩, ⟨by (with_reducible repeat (first | refine blk_drewN ?_ _ | refine blk_drew ?_ | refine blk_alloc ?_ _)); exact BK416.out⟩, ⟨by repeat (first | (with_reducible first | exact HB.out | apply below_alloc | apply pw_below_drewN | apply below_drew1 | refine below_set ?_ GE416.out) | exact HB.out)⟩⟩
  case rest =>
    clear HC2
    try clear p2
    try clear c4
    try clear c4b0
    obtain ⟨kq, x11_1, rfl, HA, HJ1, BK416, HB⟩ := hcut
    cases kq with
    | zero => exact absurd HA.out (by simp [samphireref17_New.j0])
    | succ kj1 =>
      have H := HA.out
      clear HA
      simp only [samphireref17_New.j0] at H
      by_cases c5 : x11_1 = true
      · subst c5
        have H1 : (some (([] : List ByteArray), 0, false, 0, 1)) = some (r1, r2, r3, r4, r5) := by rw [if_pos rfl] at H; exact H
        clear H
        have H := H1
        clear H1
        simp only [Option.some.injEq, Prod.mk.injEq] at H
        obtain ⟨rfl, rfl, rfl, rfl, rfl⟩ := H
        have hcz6_0 : wc.cell? ⟨gb416, 0, none⟩ = some (.slice none 0 0) := (blk_cell BK416.out 0).trans rfl
        have hcz6_1 : wc.cell? ⟨gb416, 1, none⟩ = some (.int .i64 0) := (blk_cell BK416.out 1).trans rfl
        have hcz6_2 : wc.cell? ⟨gb416, 2, none⟩ = some (.bool false) := (blk_cell BK416.out 2).trans rfl
        have hcz6_3 : wc.cell? ⟨gb416, 3, none⟩ = some (.int .i64 0) := (blk_cell BK416.out 3).trans rfl
        have hfz6_0 := blk_frozen BK416.out 0
        have hfz6_1 := blk_frozen BK416.out 1
        have hfz6_2 := blk_frozen BK416.out 2
        have hfz6_3 := blk_frozen BK416.out 3
        go_wp2
        refine bodyPost_ret (results_ct rfl _ _ gb416 65 #[.slice none 0 0, .int .i64 0, .bool false, .int .i64 0] (0, 0) _ rfl (by (with_reducible repeat (first | refine blk_drewN ?_ _ | refine blk_drew ?_ | refine blk_alloc ?_ _)); refine blk_put (cs := #[.slice none 0 0, .int .i64 0, .bool false, .int .i64 0]) ?_ 3 _ rfl; (with_reducible repeat (first | refine blk_drewN ?_ _ | refine blk_drew ?_ | refine blk_alloc ?_ _)); refine blk_put (cs := #[.slice none 0 0, .int .i64 0, .bool false, .int .i64 0]) ?_ 2 _ rfl; (with_reducible repeat (first | refine blk_drewN ?_ _ | refine blk_drew ?_ | refine blk_alloc ?_ _)); refine blk_put (cs := #[.slice none 0 0, .int .i64 0, .bool false, .int .i64 0]) ?_ 1 _ rfl; (with_reducible repeat (first | refine blk_drewN ?_ _ | refine blk_drew ?_ | refine blk_alloc ?_ _)); refine blk_put (cs := #[.slice none 0 0, .int .i64 0, .bool false, .int .i64 0]) ?_ 0 _ rfl; (with_reducible repeat (first | refine blk_drewN ?_ _ | refine blk_drew ?_ | refine blk_alloc ?_ _)); exact BK416.out) Try.underlying65 rfl (by kernel_rfl)) rfl ?_
        exact ⟨_, by first | rfl | (simp [errW_none, errW_some] <;> rfl) | (simp [*, errW_none, errW_some] <;> rfl), by first | exact Kd.R_nil _ _ _ _ _ | exact Kd.N_nil _ _ _ _ _ | exact Kd.V_nil _ _ _ _ _ | exact Kd.Q_nil _ _ _ _ _ | exact Kd.S_nil _ _ _ _ _, by repeat (first | (with_reducible first | exact HB.out | apply below_alloc | apply pw_below_drewN | apply below_drew1 | refine below_set ?_ GE416.out) | exact HB.out)⟩
      · replace c5 := Bool.eq_false_iff.mpr c5
        subst c5
        have H1 : (if 0 ≤ a0 then (if (a0 : Int).toNat ≤ 17592186044416 then (samphireref17_New.l0 kj1 a0 (List.replicate (a0 : Int).toNat (⟨#[]⟩ : ByteArray)) 0) else (none)) else (none)) = some (r1, r2, r3, r4, r5) := by rw [if_neg (show ¬ (false = true) by decide)] at H; exact H
        clear H
        have H := H1
        clear H1
        by_cases c7 : 0 ≤ a0
        · rw [if_pos c7] at H
          have c7b0 := eq_true c7
          have c7b1 : decide (0 ≤ a0) = true := decide_eq_true c7
          clear c7
          by_cases c8 : (a0 : Int).toNat ≤ 17592186044416
          · rw [if_pos c8] at H
            have c8b0 := eq_true c8
            have c8b1 : decide ((a0 : Int).toNat ≤ 17592186044416) = true := decide_eq_true c8
            clear c8
            obtain ⟨y417, hy417⟩ : ∃ y_ : List ByteArray, y_ = (List.replicate (a0 : Int).toNat (⟨#[]⟩ : ByteArray)) := ⟨_, rfl⟩
            replace H : (samphireref17_New.l0 kj1 a0 y417 0) = some (r1, r2, r3, r4, r5) := by first | (rw [hy417]; with_reducible exact H) | (have H2_ := (Option.bind_some _ _).symm.trans H; rw [hy417]; with_reducible exact H2_) | (have H2_ := (Option.bind_some _ _).symm.trans H; with_reducible exact H2_) | with_reducible exact H | (rw [hy417]; exact H) | exact H
            have Ny417 := Aside0.mk hy417
            clear hy417
            have H' := Aside0.mk H
            clear H
            go_wp2_with (first | ((with_reducible refine gate_dst (N := 14) rfl ?_); refine Kd.R_make Kd.string _ 9 rfl (N := 14) rfl 46 _ _ rfl a0 rfl rfl Try.underlying46 (.string ⟨#[]⟩) 16 info9 rfl (by decide) (by omega) (⟨#[]⟩ : ByteArray) (ok := fun _ => True) (okp := fun _ => True) rfl (fun _ hk => hk) trivial (of_decide_eq_true (by first | (with_reducible assumption) | assumption)) (Nat.le_trans (Nat.mul_le_mul_right _ (of_decide_eq_true (by first | (with_reducible assumption) | assumption) : a0.toNat ≤ 17592186044416)) (by omega)) (Below.refl _ _) (Nat.le_refl _) ?_; intro v418 w9 ho10 hb hg_ hnew_; clear hg_ hnew_; (first | rw [← Ny417.out] at ho10 | (simp only [Int.reduceToNat] at ho10; rw [← Ny417.out] at ho10)); have n0_ := Aside0.mk (Kd.R_lower ho10 (below_size (by repeat (first | (with_reducible first | exact HB.out | apply below_alloc | apply pw_below_drewN | apply below_drew1 | refine below_set ?_ GE416.out) | exact HB.out)))); have n1_ := Aside0.mk (blk_below (g := gb416) (o := .cells #[.slice none 0 0, .int .i64 0, .bool false, .int .i64 0] 65 (0, 0)) (by (with_reducible repeat (first | refine blk_drewN ?_ _ | refine blk_drew ?_ | refine blk_alloc ?_ _)); exact BK416.out) hb); have n2_ := Aside0.mk (below_step (by repeat (first | (with_reducible first | exact HB.out | apply below_alloc | apply pw_below_drewN | apply below_drew1 | refine below_set ?_ GE416.out) | exact HB.out)) hb); clear BK416; clear HB; have HO419 := n0_; have BK416 := n1_; have HB := n2_; clear n0_ n1_ n2_; clear hb ho10))
            go_loopg [5] kj1 (fun kq v5 w' => ∃ (x4_2 : List ByteArray) (x5_2 : Int), v5 = .int .i64 x5_2 ∧ Aside0 (samphireref17_New.l0 kq a0 x4_2 x5_2 = some (r1, r2, r3, r4, r5)) ∧ Aside0 (kq ≤ kj1) ∧ Aside0 (Kd.R Kd.string 9 w' w.heap.size (fun _ => True) v418 x4_2) ∧ Aside0 (w'.heap[gb416]? = some (.cells #[(.slice none 0 0), .int .i64 0, .bool false, .int .i64 0] 65 (0, 0))) ∧ Aside0 (Below w.heap.size w w'))
            case atStart => exact ⟨(y417), (0), (by first | rfl | (simp; done) | (simp [*]; done)), H', ⟨Nat.le_refl _⟩, ⟨by (with_reducible repeat (first | apply Kd.R_alloc | apply Kd.R_drewN | apply Kd.R_drew)); exact HO419.out⟩, ⟨by (with_reducible repeat (first | refine blk_drewN ?_ _ | refine blk_drew ?_ | refine blk_alloc ?_ _)); exact BK416.out⟩, ⟨by repeat (first | (with_reducible first | exact HB.out | apply below_alloc | apply pw_below_drewN | apply below_drew1 | refine below_set ?_ GE416.out) | exact HB.out)⟩⟩
            case round =>
              clear H'
              try clear p2
              try clear c4
              try clear c4b0
              try clear c5
              try clear c7
              try clear c7b0
              try clear c7b1
              try clear c8
              try clear c8b0
              try clear c8b1
              try clear hcz6_0
              try clear hcz6_1
              try clear hcz6_2
              try clear hcz6_3
              try clear hfz6_0
              try clear hfz6_1
              try clear hfz6_2
              try clear hfz6_3
              try clear p2
              obtain ⟨x4_2, x5_2, rfl, HA, HK2, HO_4, BK416, HB⟩ := hrel
              cases gk with
              | zero => exact absurd HA.out (by simp [samphireref17_New.l0])
              | succ k2 =>
                have H := HA.out
                clear HA
                simp only [samphireref17_New.l0] at H
                by_cases c11 : x5_2 < a0
                · rw [if_pos c11] at H
                  have c11b0 : decide (x5_2 < a0) = true := decide_eq_true c11
                  clear c11
                  by_cases c12 : 64 ≤ 281474976710656
                  · rw [if_pos c12] at H
                    have c12b0 := eq_true c12
                    have c12b1 : decide (64 ≤ 281474976710656) = true := decide_eq_true c12
                    clear c12
                    obtain ⟨y420, hy420⟩ : ∃ y_ : List Int, y_ = (List.replicate 64 0) := ⟨_, rfl⟩
                    replace H : (if 0 ≤ x5_2 then (if x5_2 < (x4_2.length : Int) then (samphireref17_New.l0 k2 a0 (x4_2.set (x5_2 : Int).toNat (strOfNums y420)) (wrap64 (x5_2 + 1))) else (none)) else (none)) = some (r1, r2, r3, r4, r5) := by first | (rw [hy420]; with_reducible exact H) | (have H2_ := (Option.bind_some _ _).symm.trans H; rw [hy420]; with_reducible exact H2_) | (have H2_ := (Option.bind_some _ _).symm.trans H; with_reducible exact H2_) | with_reducible exact H | (rw [hy420]; exact H) | exact H
                    have Ny420 := Aside0.mk hy420
                    clear hy420
                    by_cases c13 : 0 ≤ x5_2
                    · rw [if_pos c13] at H
                      have c13b0 : decide (0 ≤ x5_2) = true := decide_eq_true c13
                      clear c13
                      by_cases c14 : x5_2 < (x4_2.length : Int)
                      · rw [if_pos c14] at H
                        have c14b0 : decide (x5_2 < (x4_2.length : Int)) = true := decide_eq_true c14
                        clear c14
                        obtain ⟨y423, hy423⟩ : ∃ y_ : List ByteArray, y_ = (x4_2.set (x5_2 : Int).toNat (strOfNums y420)) := ⟨_, rfl⟩
                        replace H : (samphireref17_New.l0 k2 a0 y423 (wrap64 (x5_2 + 1))) = some (r1, r2, r3, r4, r5) := by first | (rw [hy423]; with_reducible exact H) | (have H2_ := (Option.bind_some _ _).symm.trans H; rw [hy423]; with_reducible exact H2_) | (have H2_ := (Option.bind_some _ _).symm.trans H; with_reducible exact H2_) | with_reducible exact H | (rw [hy423]; exact H) | exact H
                        have Ny423 := Aside0.mk hy423
                        clear hy423
                        have H' := Aside0.mk H
                        clear H
                        go_wp2_with (first | ((with_reducible refine gate_dst (N := 22) rfl ?_); refine Kd.R_make (Kd.int .u8) _ 5 rfl (N := 22) rfl 68 _ _ rfl 64 rfl rfl Try.underlying68 (.int .u8 0) 1 info5 rfl (by decide) (by omega) 0 (ok := fun _ => True) (okp := fun _ => True) rfl (fun _ hk => hk) trivial (by omega) (by omega) (Below.refl _ _) (Nat.le_refl _) ?_; intro v421 w16 ho17 hb hg_ hnew_; clear hg_ hnew_; (first | rw [← Ny420.out] at ho17 | (simp only [Int.reduceToNat] at ho17; rw [← Ny420.out] at ho17)); have n0_ := Aside0.mk (Kd.R_below (by (with_reducible repeat (first | apply Kd.R_alloc | apply Kd.R_drewN | apply Kd.R_drew)); exact HO_4.out) hb); have n1_ := Aside0.mk (Kd.R_lower ho17 (below_size (by repeat (first | (with_reducible first | exact HB.out | apply below_alloc | apply pw_below_drewN | apply below_drew1 | refine below_set ?_ GE416.out) | exact HB.out)))); have n2_ := Aside0.mk (blk_below (g := gb416) (o := .cells #[.slice none 0 0, .int .i64 0, .bool false, .int .i64 0] 65 (0, 0)) (by (with_reducible repeat (first | refine blk_drewN ?_ _ | refine blk_drew ?_ | refine blk_alloc ?_ _)); exact BK416.out) hb); have n3_ := Aside0.mk (below_step (by repeat (first | (with_reducible first | exact HB.out | apply below_alloc | apply pw_below_drewN | apply below_drew1 | refine below_set ?_ GE416.out) | exact HB.out)) hb); clear HO_4; clear BK416; clear HB; have HO_4 := n0_; have HO422 := n1_; have BK416 := n2_; have HB := n3_; clear n0_ n1_ n2_ n3_; clear hb ho17; have hcv18 := own_string (P := Try.prog) Try.underlying68 Try.underlying5 Try.underlying9 (Kd.own_of_R HO422.out); have p15 : 0 ≤ (x5_2 : Int) := of_decide_eq_true (by first | (with_reducible assumption) | assumption); have q15 : (x5_2 : Int) < ((x4_2.length : Int) : Int) := of_decide_eq_true (by first | (with_reducible assumption) | assumption); obtain ⟨go15, co15, eo15, gb15, gl15, cl15, HG15⟩ := Kd.R_form HO_4.out (by omega); (first | cases eo15 | (injection eo15 with ea_ en_ ec_; (first | subst ea_ | (injection ea_ with ea_; subst ea_)); subst ec_; clear en_)); have GB15 := Aside0.mk gb15; have GG15 := Aside0.mk HG15; clear gb15 gl15 HG15; obtain ⟨hx15_0, hf15_0⟩ := Kd.R_celln (⟨#[]⟩ : ByteArray) HO_4.out (x5_2 : Int) p15 q15; replace p15 := eq_true p15; replace q15 := eq_true q15; obtain ⟨hy19_, hz19_⟩ := Kd.R_celln (⟨#[]⟩ : ByteArray) HO_4.out (x5_2 : Int) (of_decide_eq_true (by first | (with_reducible assumption) | assumption)) (of_decide_eq_true (by first | (with_reducible assumption) | assumption)); have HP19 := Kd.R_putg HO_4.out (x5_2 : Int) (strOfNums y420)) | ((with_reducible refine gate_store (t := 9) (p := 24) rfl ?_); refine store_event (t := 9) (p := 24) (v := ?vo_w20) (w1 := (w16.setCell ⟨go15, (x5_2 : Int).toNat, none⟩ (.string (strOfNums y420)))) ?hg ?ho ?hn ?hr ?_; (case ho => rfl); (case hg => rfl); (case hn => rfl); (case hr => first | (go_simp; done) | (go_simp; rfl)); intro w20 hw; have hg : w16.grownBy w20 (some go15) := (by rw [hw]; exact HP19.2); have hp_ : Kd.R Kd.string 9 w20 w.heap.size (fun _ => True) (.slice (some ⟨go15, 0, none⟩) x4_2.length co15) y423 := (by rw [hw, Ny423.out]; exact HP19.1); clear HP19; have n0_ := Aside0.mk (hp_); have n1_ := Aside0.mk (blk_grown (g := gb416) (o := .cells #[.slice none 0 0, .int .i64 0, .bool false, .int .i64 0] 65 (0, 0)) (by (with_reducible repeat (first | refine blk_drewN ?_ _ | refine blk_drew ?_ | refine blk_alloc ?_ _)); exact BK416.out) hg (Kd.R_ne HO_4.out BK416.out (by decide))); have n2_ := Aside0.mk (Kd.R_over' (v := (.slice (some ⟨go15, 0, none⟩) x4_2.length co15)) (by (with_reducible repeat (first | apply Kd.R_alloc | apply Kd.R_drewN | apply Kd.R_drew)); exact HO422.out) (Kd.R_typed HO_4.out) (by decide) hg); have n3_ := Aside0.mk ((by rw [hw]; exact below_set (HB.out) GB15.out : Below w.heap.size w w20)); clear HO_4; clear BK416; clear HO422; clear HB; have HO_4 := n0_; have BK416 := n1_; have HO422 := n2_; have HB := n3_; clear n0_ n1_ n2_ n3_; clear hg hw hp_))
                        go_roundg k2
                        case measure => have := HJ1.out; have := HK2.out; omega
                        case rel => exact ⟨(y423), (wrap64 (x5_2 + 1)), (by first | rfl | (simp; done) | (simp [*]; done)), H', ⟨by have := HJ1.out; have := HK2.out; omega⟩, ⟨by (with_reducible repeat (first | apply Kd.R_alloc | apply Kd.R_drewN | apply Kd.R_drew)); exact HO_4.out⟩, ⟨by (with_reducible repeat (first | refine blk_drewN ?_ _ | refine blk_drew ?_ | refine blk_alloc ?_ _)); exact BK416.out⟩, ⟨by repeat (first | (with_reducible first | exact HB.out | apply below_alloc | apply pw_below_drewN | apply below_drew1 | refine below_set ?_ GE416.out) | exact HB.out)⟩⟩
                      · rw [if_neg c14] at H
                        exact absurd H (by simp)
                    · rw [if_neg c13] at H
                      exact absurd H (by simp)
                  · rw [if_neg c12] at H
                    exact absurd H (by simp)
                · rw [if_neg c11] at H
                  have c11b0 : decide (x5_2 < a0) = false := decide_eq_false c11
                  clear c11
                  simp only [Option.some.injEq, Prod.mk.injEq] at H
                  obtain ⟨rfl, rfl, rfl, rfl, rfl⟩ := H
                  obtain ⟨Ao21, co21, eo21⟩ := Kd.R_slice HO_4.out
                  subst eo21
                  have hcz22_0 : wr.cell? ⟨gb416, 0, none⟩ = some (.slice none 0 0) := (blk_cell BK416.out 0).trans rfl
                  have hcz22_1 : wr.cell? ⟨gb416, 1, none⟩ = some (.int .i64 0) := (blk_cell BK416.out 1).trans rfl
                  have hcz22_2 : wr.cell? ⟨gb416, 2, none⟩ = some (.bool false) := (blk_cell BK416.out 2).trans rfl
                  have hcz22_3 : wr.cell? ⟨gb416, 3, none⟩ = some (.int .i64 0) := (blk_cell BK416.out 3).trans rfl
                  have hfz22_0 := blk_frozen BK416.out 0
                  have hfz22_1 := blk_frozen BK416.out 1
                  have hfz22_2 := blk_frozen BK416.out 2
                  have hfz22_3 := blk_frozen BK416.out 3
                  go_wp2
                  refine bodyPost_ret (results_ct rfl _ _ gb416 65 #[.slice Ao21 x4_2.length co21, .int .i64 (-1), .bool false, .int .i64 0] (0, 0) _ rfl (by (with_reducible repeat (first | refine blk_drewN ?_ _ | refine blk_drew ?_ | refine blk_alloc ?_ _)); refine blk_put (cs := #[.slice Ao21 x4_2.length co21, .int .i64 (-1), .bool false, .int .i64 0]) ?_ 3 _ rfl; (with_reducible repeat (first | refine blk_drewN ?_ _ | refine blk_drew ?_ | refine blk_alloc ?_ _)); refine blk_put (cs := #[.slice Ao21 x4_2.length co21, .int .i64 (-1), .bool false, .int .i64 0]) ?_ 2 _ rfl; (with_reducible repeat (first | refine blk_drewN ?_ _ | refine blk_drew ?_ | refine blk_alloc ?_ _)); refine blk_put (cs := #[.slice Ao21 x4_2.length co21, .int .i64 0, .bool false, .int .i64 0]) ?_ 1 _ rfl; (with_reducible repeat (first | refine blk_drewN ?_ _ | refine blk_drew ?_ | refine blk_alloc ?_ _)); refine blk_put (cs := #[.slice none 0 0, .int .i64 0, .bool false, .int .i64 0]) ?_ 0 _ rfl; (with_reducible repeat (first | refine blk_drewN ?_ _ | refine blk_drew ?_ | refine blk_alloc ?_ _)); exact BK416.out) Try.underlying65 rfl (by kernel_rfl)) rfl ?_
                  exact ⟨_, by first | rfl | (simp [errW_none, errW_some] <;> rfl) | (simp [*, errW_none, errW_some] <;> rfl), by (with_reducible repeat (first | apply Kd.R_alloc | apply Kd.R_drewN | apply Kd.R_drew)); exact Kd.R_mono (Kd.R_far (p := ⟨gb416, 3, none⟩) (Kd.R_far (p := ⟨gb416, 2, none⟩) (Kd.R_far (p := ⟨gb416, 1, none⟩) (Kd.R_far (p := ⟨gb416, 0, none⟩) (Kd.R_types HO_4.out BK416.out (by decide)) (fun _ hk => hk.2) (.slice Ao21 x4_2.length co21)) (fun _ hk => hk.2) (.int .i64 (-1))) (fun _ hk => hk.2) (.bool false)) (fun _ hk => hk.2) (.int .i64 0)) (fun _ hk => trivial), by repeat (first | (with_reducible first | exact HB.out | apply below_alloc | apply pw_below_drewN | apply below_drew1 | refine below_set ?_ GE416.out) | exact HB.out)⟩
          · rw [if_neg c8] at H
            exact absurd H (by simp)
        · rw [if_neg c7] at H
          exact absurd H (by simp)
end Go.Proofs.Ytbkbganflnemeaa.Pr
end

section
namespace Go.Proofs.Ytbkbganflnemeaa.Pr
open Go.RowKit Go.Proofs.YtbkbganflnemeaaW.PrintWords Go.Proofs.YtbkbganflnemeaaW.PrintLast Go.Proofs.YtbkbganflnemeaaW.PrintMore
attribute [local go_sem] max2_int min2_int max_two min_two max_three min_three max_four min_four   -- for this text's walks alone
set_option linter.unusedVariables false
set_option linter.unusedSimpArgs false
mutual
def samphireref17_Write.j0 : Nat → Int → ByteArray → Bool → List ByteArray → Int → Bool → Int → Option (List ByteArray × Int × Bool × Int × Int)
  | 0, _, _, _, _, _, _, _ => none
  | k + 1, x1, x2, x22, x425000, x425001, x425002, x425003 => if x22 = true then (some (x425000, x425001, x425002, x425003, 1)) else (if x425002 = true then (samphireref17_Write.j1 k x1 x2 true x425000 x425001 x425002 x425003) else (samphireref17_Write.j1 k x1 x2 (x425001 == 0) x425000 x425001 x425002 x425003))
def samphireref17_Write.j1 : Nat → Int → ByteArray → Bool → List ByteArray → Int → Bool → Int → Option (List ByteArray × Int × Bool × Int × Int)
  | 0, _, _, _, _, _, _, _ => none
  | k + 1, x1, x2, x30, x425000, x425001, x425002, x425003 => if x30 = true then (some (x425000, (-1), true, x425003, 170)) else (if 0 ≤ x1 then (if x1 ≤ (x425000.length : Int) then ((some (x425000.take (x1 : Int).toNat : List ByteArray)).bind fun y426 => (if ([] : List ByteArray).length + y426.length < 8796093022208 then ((some (([] : List ByteArray) ++ y426 : List ByteArray)).bind fun y430 => (if y430.length < 8796093022208 then ((some (y430 ++ [x2] : List ByteArray)).bind fun y433 => (if 0 ≤ (wrap64 (x1 + 1)) then (if (wrap64 (x1 + 1)) ≤ (x425000.length : Int) then ((some (x425000.drop ((wrap64 (x1 + 1)) : Int).toNat : List ByteArray)).bind fun y436 => (if y433.length + y436.length < 8796093022208 then ((some (y433 ++ y436 : List ByteArray)).bind fun y440 => (if x425001 > 0 then (some (y440, wrap64 (x425001 - 1), x425002, wrap64 (x425003 + 1), 0)) else (some (y440, x425001, x425002, wrap64 (x425003 + 1), 0)))) else (none))) else (none)) else (none))) else (none))) else (none))) else (none)) else (none))
end
def samphireref17_Write.f (k : Nat) (l0_0 : List ByteArray) (a0_1 : Int) (a0_2 : Bool) (a0_3 : Int) (a1 : Int) (a2 : ByteArray) : Option (List ByteArray × Int × Bool × Int × Int) := if a1 < 0 then (samphireref17_Write.j0 k a1 a2 true l0_0 a0_1 a0_2 a0_3) else (if a1 ≥ (l0_0.length : Int) then (samphireref17_Write.j0 k a1 a2 true l0_0 a0_1 a0_2 a0_3) else (samphireref17_Write.j0 k a1 a2 ((a2.size : Int) != 64) l0_0 a0_1 a0_2 a0_3))
set_option maxHeartbeats 8000000 in
set_option maxRecDepth 100000 in
theorem samphireref17_Write.calls (k : Nat) (P0_0_ : Nat → Prop) (u9000_ : Value) (l0_0 : List ByteArray) (a0_1 : Int) (a0_2 : Bool) (a0_3 : Int) (a1 : Int) (a2 : ByteArray) (r1 : List ByteArray) (r2 : Int) (r3 : Bool) (r4 : Int) (r5 : Int) (w0 w : World) (hB : Below w0.heap.size w0 w) (ho0_0 : Kd.R Kd.string 9 w w0.heap.size P0_0_ u9000_ l0_0) (h : samphireref17_Write.f k l0_0 a0_1 a0_2 a0_3 a1 a2 = some (r1, r2, r3, r4, r5)) :
    Calls Try.prog 41 #[.agg #[u9000_, .int .i64 a0_1, .bool a0_2, .int .i64 a0_3], .int .i64 a1, .string a2] w fun e w' => ∃ v0_ : Value, e = .returned (.tuple #[.agg #[v0_, .int .i64 r2, .bool r3, .int .i64 r4], .int .i64 r5]) ∧ Kd.R Kd.string 9 w' w0.heap.size (fun k_ => (P0_0_ k_ ∨ w.heap.size ≤ k_)) v0_ r1 ∧ Below w0.heap.size w0 w' ∧ Kept w w' (fun k_ => P0_0_ k_) := by
  have hu65 := Try.underlying65
  have HO0_0 := Aside0.mk (show Kd.R Kd.string 9 w w0.heap.size (fun k_ => (P0_0_ k_ ∨ w.heap.size ≤ k_)) u9000_ l0_0 from Kd.R_mono ho0_0 (fun k_ hk => (.inl hk)))
  have HK := Aside0.mk (Kept.refl w (fun k_ => P0_0_ k_))
  have HW0 := Aside0.mk hB.size
  have HB := Aside0.mk hB
  clear hB
  have H : (if a1 < 0 then (samphireref17_Write.j0 k a1 a2 true l0_0 a0_1 a0_2 a0_3) else (if a1 ≥ (l0_0.length : Int) then (samphireref17_Write.j0 k a1 a2 true l0_0 a0_1 a0_2 a0_3) else (samphireref17_Write.j0 k a1 a2 ((a2.size : Int) != 64) l0_0 a0_1 a0_2 a0_3))) = some (r1, r2, r3, r4, r5) := h
  clear h
  have HC4 := Aside0.mk H
  clear H
  obtain ⟨Ao5, co5, eo5⟩ := Kd.R_slice HO0_0.out
  subst eo5
  go_enter Try.func41, Try.ntmps41
  go_upto_region 1 with (first | ((with_reducible refine gate_dst (N := 3) rfl ?_); (try (refine gate_guard (by rfl) ?_; dsimp only)); refine box_event ?hg (N := 3) ?hd (cs := #[.slice Ao5 l0_0.length co5, .int .i64 a0_1, .bool a0_2, .int .i64 a0_3]) (t := 65) ?hr ?_; (case hd => rfl); (case hg => rfl); (case hr => first | (go_simp; done) | (go_simp; rfl)); intro gb424 hg w6 hbox hb; have n0_ := Aside0.mk (Kd.R_below (by (with_reducible repeat (first | apply Kd.R_alloc | apply Kd.R_drewN | apply Kd.R_drew)); exact HO0_0.out) hb); have n1_ := Aside0.mk (Kept.below (S := (fun k_ => P0_0_ k_)) (by repeat (first | (with_reducible first | exact HK.out | apply Kept.alloc | apply Kept.drewN | apply Kept.drew) | exact HK.out)) hb); have n2_ := Aside0.mk (below_step (by repeat (first | (with_reducible first | exact HB.out | apply below_alloc | apply pw_below_drewN | apply below_drew1) | exact HB.out)) hb); have n3_ := Aside0.mk (hbox); have n4_ := Aside0.mk ((by rw [hg]; exact (by first | exact HK.out.1 | exact (show Kept w _ (fun k_ => P0_0_ k_) from by repeat (first | (with_reducible first | exact HK.out | apply Kept.alloc | apply Kept.drewN | apply Kept.drew) | exact HK.out)).1) : w.heap.size ≤ gb424)); have n5_ := Aside0.mk ((by rw [hg]; exact (below_size (by repeat (first | (with_reducible first | exact HB.out | apply below_alloc | apply pw_below_drewN | apply below_drew1) | exact HB.out))) : w0.heap.size ≤ gb424)); clear HO0_0; clear HK; clear HB; have HO0_0 := n0_; have HK := n1_; have HB := n2_; have BK424 := n3_; have GW424 := n4_; have GE424 := n5_; clear n0_ n1_ n2_ n3_ n4_ n5_; clear hb hbox hg) | ((with_reducible refine gate_dst (N := 6) rfl ?_); (try (refine gate_guard (by rfl) ?_; dsimp only)); refine box_event ?hg (N := 6) ?hd (cs := #[.slice none 0 0, .int .i64 0, .bool false, .int .i64 0]) (t := 65) ?hr ?_; (case hd => rfl); (case hg => rfl); (case hr => first | (go_simp; done) | (go_simp; rfl)); intro gb425 hg w7 hbox hb; have n0_ := Aside0.mk (Kd.R_below (by (with_reducible repeat (first | apply Kd.R_alloc | apply Kd.R_drewN | apply Kd.R_drew)); exact HO0_0.out) hb); have n1_ := Aside0.mk (blk_below (g := gb424) (o := .cells #[.slice Ao5 l0_0.length co5, .int .i64 a0_1, .bool a0_2, .int .i64 a0_3] 65 (0, 0)) (by (with_reducible repeat (first | refine blk_drewN ?_ _ | refine blk_drew ?_ | refine blk_alloc ?_ _)); exact BK424.out) hb); have n2_ := Aside0.mk (Kept.below (S := (fun k_ => P0_0_ k_)) (by repeat (first | (with_reducible first | exact HK.out | apply Kept.alloc | apply Kept.drewN | apply Kept.drew | refine Kept.setCell ?_ (.inr GW424.out) _) | exact HK.out)) hb); have n3_ := Aside0.mk (below_step (by repeat (first | (with_reducible first | exact HB.out | apply below_alloc | apply pw_below_drewN | apply below_drew1 | refine below_set ?_ GE424.out) | exact HB.out)) hb); have n4_ := Aside0.mk (hbox); have n5_ := Aside0.mk ((by rw [hg]; exact (by first | exact HK.out.1 | exact (show Kept w _ (fun k_ => P0_0_ k_) from by repeat (first | (with_reducible first | exact HK.out | apply Kept.alloc | apply Kept.drewN | apply Kept.drew | refine Kept.setCell ?_ (.inr GW424.out) _) | exact HK.out)).1) : w.heap.size ≤ gb425)); have n6_ := Aside0.mk ((by rw [hg]; exact (below_size (by repeat (first | (with_reducible first | exact HB.out | apply below_alloc | apply pw_below_drewN | apply below_drew1 | refine below_set ?_ GE424.out) | exact HB.out))) : w0.heap.size ≤ gb425)); have n7_ := Aside0.mk ((by rw [hg]; exact Nat.ne_of_lt (blk_lt (g := gb424) (o := .cells #[.slice Ao5 l0_0.length co5, .int .i64 a0_1, .bool a0_2, .int .i64 a0_3] 65 (0, 0)) (by (with_reducible repeat (first | refine blk_drewN ?_ _ | refine blk_drew ?_ | refine blk_alloc ?_ _)); exact BK424.out)) : gb424 ≠ gb425)); have n8_ := Aside0.mk ((by rw [hg]; exact Nat.ne_of_gt (blk_lt (g := gb424) (o := .cells #[.slice Ao5 l0_0.length co5, .int .i64 a0_1, .bool a0_2, .int .i64 a0_3] 65 (0, 0)) (by (with_reducible repeat (first | refine blk_drewN ?_ _ | refine blk_drew ?_ | refine blk_alloc ?_ _)); exact BK424.out)) : gb425 ≠ gb424)); clear HO0_0; clear BK424; clear HK; clear HB; have HO0_0 := n0_; have BK424 := n1_; have HK := n2_; have HB := n3_; have BK425 := n4_; have GW425 := n5_; have GE425 := n6_; have NB424_425 := n7_; have NB425_424 := n8_; clear n0_ n1_ n2_ n3_ n4_ n5_ n6_ n7_ n8_; clear hb hbox hg))
  (try simp only [Act.put, List.setIfInBounds_toArray, List.set_cons_zero, List.set_cons_succ])
  go_cut [22] (fun v22 wc => ∃ (kq : Nat) (x22_3 : Bool), v22 = .bool x22_3 ∧ Aside0 (samphireref17_Write.j0 kq a1 a2 x22_3 l0_0 a0_1 a0_2 a0_3 = some (r1, r2, r3, r4, r5)) ∧ Aside0 (kq ≤ k) ∧ Aside0 (Kd.R Kd.string 9 wc w0.heap.size (fun k_ => (P0_0_ k_ ∨ w.heap.size ≤ k_)) (.slice Ao5 l0_0.length co5) l0_0) ∧ Aside0 (wc.heap[gb424]? = some (.cells #[(.slice Ao5 l0_0.length co5), .int .i64 a0_1, .bool a0_2, .int .i64 a0_3] 65 (0, 0))) ∧ Aside0 (wc.heap[gb425]? = some (.cells #[(.slice none 0 0), .int .i64 0, .bool false, .int .i64 0] 65 (0, 0))) ∧ Aside0 (Kept w wc (fun k_ => P0_0_ k_)) ∧ Aside0 (Below w0.heap.size w0 wc))
  case first =>
    have H := HC4.out
    clear HC4
    by_cases c8 : a1 < 0
    · rw [if_pos c8] at H
      have c8b0 : decide (a1 < 0) = true := decide_eq_true c8
      clear c8
      (first | rw [c8b0] | (simp only [i64_w, i32_w]; rw [c8b0]) | skip)
      have H' := Aside0.mk H
      clear H
      go_wp2
      go_meet
      case rel => exact ⟨_, (true), (by first | rfl | (simp; done) | (simp [*]; done)), H', ⟨by first | omega | exact Nat.le_refl _⟩, ⟨by (with_reducible repeat (first | apply Kd.R_alloc | apply Kd.R_drewN | apply Kd.R_drew)); exact HO0_0.out⟩, ⟨by (with_reducible repeat (first | refine blk_drewN ?_ _ | refine blk_drew ?_ | refine blk_alloc ?_ _)); exact BK424.out⟩, ⟨by (with_reducible repeat (first | refine blk_drewN ?_ _ | refine blk_drew ?_ | refine blk_alloc ?_ _)); exact BK425.out⟩, ⟨by repeat (first | (with_reducible first | exact HK.out | apply Kept.alloc | apply Kept.drewN | apply Kept.drew | refine Kept.setCell ?_ (.inr GW424.out) _ | refine Kept.setCell ?_ (.inr GW425.out) _) | exact HK.out)⟩, ⟨by repeat (first | (with_reducible first | exact HB.out | apply below_alloc | apply pw_below_drewN | apply below_drew1 | refine below_set ?_ GE424.out | refine below_set ?_ GE425.out) | exact HB.out)⟩⟩
    · rw [if_neg c8] at H
      have c8b0 : decide (a1 < 0) = false := decide_eq_false c8
      clear c8
      (first | rw [c8b0] | (simp only [i64_w, i32_w]; rw [c8b0]) | skip)
      by_cases c9 : a1 ≥ (l0_0.length : Int)
      · rw [if_pos c9] at H
        have c9b0 : decide ((l0_0.length : Int) ≤ a1) = true := decide_eq_true c9
        clear c9
        have H' := Aside0.mk H
        clear H
        have hnb10 := NB424_425.out
        have hnc10 := NB425_424.out
        have hcz11_0 : w7.cell? ⟨gb424, 0, none⟩ = some (.slice Ao5 l0_0.length co5) := (blk_cell BK424.out 0).trans rfl
        have hcz11_1 : w7.cell? ⟨gb424, 1, none⟩ = some (.int .i64 a0_1) := (blk_cell BK424.out 1).trans rfl
        have hcz11_2 : w7.cell? ⟨gb424, 2, none⟩ = some (.bool a0_2) := (blk_cell BK424.out 2).trans rfl
        have hcz11_3 : w7.cell? ⟨gb424, 3, none⟩ = some (.int .i64 a0_3) := (blk_cell BK424.out 3).trans rfl
        have hfz11_0 := blk_frozen BK424.out 0
        have hfz11_1 := blk_frozen BK424.out 1
        have hfz11_2 := blk_frozen BK424.out 2
        have hfz11_3 := blk_frozen BK424.out 3
        go_wp2
        go_meet
        case rel => exact ⟨_, (true), (by first | rfl | (simp; done) | (simp [*]; done)), H', ⟨by first | omega | exact Nat.le_refl _⟩, ⟨by (with_reducible repeat (first | apply Kd.R_alloc | apply Kd.R_drewN | apply Kd.R_drew)); exact HO0_0.out⟩, ⟨by (with_reducible repeat (first | refine blk_drewN ?_ _ | refine blk_drew ?_ | refine blk_alloc ?_ _)); exact BK424.out⟩, ⟨by (with_reducible repeat (first | refine blk_drewN ?_ _ | refine blk_drew ?_ | refine blk_alloc ?_ _)); exact BK425.out⟩, ⟨by repeat (first | (with_reducible first | exact HK.out | apply Kept.alloc | apply Kept.drewN | apply Kept.drew | refine Kept.setCell ?_ (.inr GW424.out) _ | refine Kept.setCell ?_ (.inr GW425.out) _) | exact HK.out)⟩, ⟨by repeat (first | (with_reducible first | exact HB.out | apply below_alloc | apply pw_below_drewN | apply below_drew1 | refine below_set ?_ GE424.out | refine below_set ?_ GE425.out) | exact HB.out)⟩⟩
      · rw [if_neg c9] at H
        have c9b0 : decide ((l0_0.length : Int) ≤ a1) = false := decide_eq_false c9
        clear c9
        have H' := Aside0.mk H
        clear H
        have hnb12 := NB424_425.out
        have hnc12 := NB425_424.out
        have hcz13_0 : w7.cell? ⟨gb424, 0, none⟩ = some (.slice Ao5 l0_0.length co5) := (blk_cell BK424.out 0).trans rfl
        have hcz13_1 : w7.cell? ⟨gb424, 1, none⟩ = some (.int .i64 a0_1) := (blk_cell BK424.out 1).trans rfl
        have hcz13_2 : w7.cell? ⟨gb424, 2, none⟩ = some (.bool a0_2) := (blk_cell BK424.out 2).trans rfl
        have hcz13_3 : w7.cell? ⟨gb424, 3, none⟩ = some (.int .i64 a0_3) := (blk_cell BK424.out 3).trans rfl
        have hfz13_0 := blk_frozen BK424.out 0
        have hfz13_1 := blk_frozen BK424.out 1
        have hfz13_2 := blk_frozen BK424.out 2
        have hfz13_3 := blk_frozen BK424.out 3
        go_wp2
        go_meet
        case rel => exact ⟨_, (((a2.size : Int) != 64)), (by first | rfl | (simp; done) | (simp [*]; done)), H', ⟨by first | omega | exact Nat.le_refl _⟩, ⟨by (with_reducible repeat (first | apply Kd.R_alloc | apply Kd.R_drewN | apply Kd.R_drew)); exact HO0_0.out⟩, ⟨by (with_reducible repeat (first | refine blk_drewN ?_ _ | refine blk_drew ?_ | refine blk_alloc ?_ _)); exact BK424.out⟩, ⟨by (with_reducible repeat (first | refine blk_drewN ?_ _ | refine blk_drew ?_ | refine blk_alloc ?_ _)); exact BK425.out⟩, ⟨by repeat (first | (with_reducible first | exact HK.out | apply Kept.alloc | apply Kept.drewN | apply Kept.drew | refine Kept.setCell ?_ (.inr GW424.out) _ | refine Kept.setCell ?_ (.inr GW425.out) _) | exact HK.out)⟩, ⟨by repeat (first | (with_reducible first | exact HB.out | apply below_alloc | apply pw_below_drewN | apply below_drew1 | refine below_set ?_ GE424.out | refine below_set ?_ GE425.out) | exact HB.out)⟩⟩
  case rest =>
    clear HC4
    try clear c1
    try clear p2
    try clear c4
    try clear c8
    try clear c8b0
    try clear c9
    try clear c9b0
    try clear c10
    try clear c12
    try clear hcz11_0
    try clear hcz11_1
    try clear hcz11_2
    try clear hcz11_3
    try clear hcz13_0
    try clear hcz13_1
    try clear hcz13_2
    try clear hcz13_3
    try clear hfz11_0
    try clear hfz11_1
    try clear hfz11_2
    try clear hfz11_3
    try clear hfz13_0
    try clear hfz13_1
    try clear hfz13_2
    try clear hfz13_3
    obtain ⟨kq, x22_3, rfl, HA, HJ3, HO_425000, BK424, BK425, HK, HB⟩ := hcut
    cases kq with
    | zero => exact absurd HA.out (by simp [samphireref17_Write.j0])
    | succ kj3 =>
      have H := HA.out
      clear HA
      simp only [samphireref17_Write.j0] at H
      by_cases c14 : x22_3 = true
      · subst c14
        have H1 : (some (l0_0, a0_1, a0_2, a0_3, 1)) = some (r1, r2, r3, r4, r5) := by rw [if_pos rfl] at H; exact H
        clear H
        have H := H1
        clear H1
        simp only [Option.some.injEq, Prod.mk.injEq] at H
        obtain ⟨rfl, rfl, rfl, rfl, rfl⟩ := H
        have hnb15 := NB424_425.out
        have hnc15 := NB425_424.out
        have hcz16_0 : wc.cell? ⟨gb424, 0, none⟩ = some (.slice Ao5 l0_0.length co5) := (blk_cell BK424.out 0).trans rfl
        have hcz16_1 : wc.cell? ⟨gb424, 1, none⟩ = some (.int .i64 a0_1) := (blk_cell BK424.out 1).trans rfl
        have hcz16_2 : wc.cell? ⟨gb424, 2, none⟩ = some (.bool a0_2) := (blk_cell BK424.out 2).trans rfl
        have hcz16_3 : wc.cell? ⟨gb424, 3, none⟩ = some (.int .i64 a0_3) := (blk_cell BK424.out 3).trans rfl
        have hfz16_0 := blk_frozen BK424.out 0
        have hfz16_1 := blk_frozen BK424.out 1
        have hfz16_2 := blk_frozen BK424.out 2
        have hfz16_3 := blk_frozen BK424.out 3
        have hcz17_0 : wc.cell? ⟨gb425, 0, none⟩ = some (.slice none 0 0) := (blk_cell BK425.out 0).trans rfl
        have hcz17_1 : wc.cell? ⟨gb425, 1, none⟩ = some (.int .i64 0) := (blk_cell BK425.out 1).trans rfl
        have hcz17_2 : wc.cell? ⟨gb425, 2, none⟩ = some (.bool false) := (blk_cell BK425.out 2).trans rfl
        have hcz17_3 : wc.cell? ⟨gb425, 3, none⟩ = some (.int .i64 0) := (blk_cell BK425.out 3).trans rfl
        have hfz17_0 := blk_frozen BK425.out 0
        have hfz17_1 := blk_frozen BK425.out 1
        have hfz17_2 := blk_frozen BK425.out 2
        have hfz17_3 := blk_frozen BK425.out 3
        go_wp2
        refine bodyPost_ret (results_ct rfl _ _ gb425 65 #[.slice Ao5 l0_0.length co5, .int .i64 a0_1, .bool a0_2, .int .i64 a0_3] (0, 0) _ rfl (by (with_reducible repeat (first | refine blk_drewN ?_ _ | refine blk_drew ?_ | refine blk_alloc ?_ _)); refine blk_put (cs := #[.slice Ao5 l0_0.length co5, .int .i64 a0_1, .bool a0_2, .int .i64 0]) ?_ 3 _ rfl; (with_reducible repeat (first | refine blk_drewN ?_ _ | refine blk_drew ?_ | refine blk_alloc ?_ _)); refine blk_put (cs := #[.slice Ao5 l0_0.length co5, .int .i64 a0_1, .bool false, .int .i64 0]) ?_ 2 _ rfl; (with_reducible repeat (first | refine blk_drewN ?_ _ | refine blk_drew ?_ | refine blk_alloc ?_ _)); refine blk_put (cs := #[.slice Ao5 l0_0.length co5, .int .i64 0, .bool false, .int .i64 0]) ?_ 1 _ rfl; (with_reducible repeat (first | refine blk_drewN ?_ _ | refine blk_drew ?_ | refine blk_alloc ?_ _)); refine blk_put (cs := #[.slice none 0 0, .int .i64 0, .bool false, .int .i64 0]) ?_ 0 _ rfl; (with_reducible repeat (first | refine blk_drewN ?_ _ | refine blk_drew ?_ | refine blk_alloc ?_ _)); exact BK425.out) Try.underlying65 rfl (by kernel_rfl)) rfl ?_
        exact ⟨_, by first | rfl | (simp [errW_none, errW_some] <;> rfl) | (simp [*, errW_none, errW_some] <;> rfl), by (with_reducible repeat (first | apply Kd.R_alloc | apply Kd.R_drewN | apply Kd.R_drew)); exact Kd.R_mono (Kd.R_far (p := ⟨gb425, 3, none⟩) (Kd.R_far (p := ⟨gb425, 2, none⟩) (Kd.R_far (p := ⟨gb425, 1, none⟩) (Kd.R_far (p := ⟨gb425, 0, none⟩) (Kd.R_types HO_425000.out BK425.out (by decide)) (fun _ hk => hk.2) (.slice Ao5 l0_0.length co5)) (fun _ hk => hk.2) (.int .i64 a0_1)) (fun _ hk => hk.2) (.bool a0_2)) (fun _ hk => hk.2) (.int .i64 a0_3)) (fun _ hk => hk.1), by repeat (first | (with_reducible first | exact HB.out | apply below_alloc | apply pw_below_drewN | apply below_drew1 | refine below_set ?_ GE424.out | refine below_set ?_ GE425.out) | exact HB.out), by repeat (first | (with_reducible first | exact HK.out | apply Kept.alloc | apply Kept.drewN | apply Kept.drew | refine Kept.setCell ?_ (.inr GW424.out) _ | refine Kept.setCell ?_ (.inr GW425.out) _) | exact HK.out)⟩
      · replace c14 := Bool.eq_false_iff.mpr c14
        subst c14
        have H1 : (if a0_2 = true then (samphireref17_Write.j1 kj3 a1 a2 true l0_0 a0_1 a0_2 a0_3) else (samphireref17_Write.j1 kj3 a1 a2 (a0_1 == 0) l0_0 a0_1 a0_2 a0_3)) = some (r1, r2, r3, r4, r5) := by rw [if_neg (show ¬ (false = true) by decide)] at H; exact H
        clear H
        have H := H1
        clear H1
        have HC18 := Aside0.mk H
        clear H
        go_upto_region 3 with (fail)
        go_cut [30] (fun v30 wc => ∃ (kq : Nat) (x30_17 : Bool), v30 = .bool x30_17 ∧ Aside0 (samphireref17_Write.j1 kq a1 a2 x30_17 l0_0 a0_1 a0_2 a0_3 = some (r1, r2, r3, r4, r5)) ∧ Aside0 (kq ≤ kj3) ∧ Aside0 (Kd.R Kd.string 9 wc w0.heap.size (fun k_ => (P0_0_ k_ ∨ w.heap.size ≤ k_)) (.slice Ao5 l0_0.length co5) l0_0) ∧ Aside0 (wc.heap[gb424]? = some (.cells #[(.slice Ao5 l0_0.length co5), .int .i64 a0_1, .bool a0_2, .int .i64 a0_3] 65 (0, 0))) ∧ Aside0 (wc.heap[gb425]? = some (.cells #[(.slice none 0 0), .int .i64 0, .bool false, .int .i64 0] 65 (0, 0))) ∧ Aside0 (Kept w wc (fun k_ => P0_0_ k_)) ∧ Aside0 (Below w0.heap.size w0 wc))
        case first =>
          have H := HC18.out
          clear HC18
          by_cases c19 : a0_2 = true
          · subst c19
            have H1 : (samphireref17_Write.j1 kj3 a1 a2 true l0_0 a0_1 true a0_3) = some (r1, r2, r3, r4, r5) := by rw [if_pos rfl] at H; exact H
            clear H
            have H := H1
            clear H1
            have H' := Aside0.mk H
            clear H
            have hnb20 := NB424_425.out
            have hnc20 := NB425_424.out
            have hcz21_0 : wc.cell? ⟨gb424, 0, none⟩ = some (.slice Ao5 l0_0.length co5) := (blk_cell BK424.out 0).trans rfl
            have hcz21_1 : wc.cell? ⟨gb424, 1, none⟩ = some (.int .i64 a0_1) := (blk_cell BK424.out 1).trans rfl
            have hcz21_2 : wc.cell? ⟨gb424, 2, none⟩ = some (.bool true) := (blk_cell BK424.out 2).trans rfl
            have hcz21_3 : wc.cell? ⟨gb424, 3, none⟩ = some (.int .i64 a0_3) := (blk_cell BK424.out 3).trans rfl
            have hfz21_0 := blk_frozen BK424.out 0
            have hfz21_1 := blk_frozen BK424.out 1
            have hfz21_2 := blk_frozen BK424.out 2
            have hfz21_3 := blk_frozen BK424.out 3
            go_wp2
            go_meet
            case rel => exact ⟨_, (true), (by first | rfl | (simp; done) | (simp [*]; done)), H', ⟨by have := HJ3.out; first | omega | exact Nat.le_refl _⟩, ⟨by (with_reducible repeat (first | apply Kd.R_alloc | apply Kd.R_drewN | apply Kd.R_drew)); exact HO_425000.out⟩, ⟨by (with_reducible repeat (first | refine blk_drewN ?_ _ | refine blk_drew ?_ | refine blk_alloc ?_ _)); exact BK424.out⟩, ⟨by (with_reducible repeat (first | refine blk_drewN ?_ _ | refine blk_drew ?_ | refine blk_alloc ?_ _)); exact BK425.out⟩, ⟨by repeat (first | (with_reducible first | exact HK.out | apply Kept.alloc | apply Kept.drewN | apply Kept.drew | refine Kept.setCell ?_ (.inr GW424.out) _ | refine Kept.setCell ?_ (.inr GW425.out) _) | exact HK.out)⟩, ⟨by repeat (first | (with_reducible first | exact HB.out | apply below_alloc | apply pw_below_drewN | apply below_drew1 | refine below_set ?_ GE424.out | refine below_set ?_ GE425.out) | exact HB.out)⟩⟩
          · replace c19 := Bool.eq_false_iff.mpr c19
            subst c19
            have H1 : (samphireref17_Write.j1 kj3 a1 a2 (a0_1 == 0) l0_0 a0_1 false a0_3) = some (r1, r2, r3, r4, r5) := by rw [if_neg (show ¬ (false = true) by decide)] at H; exact H
            clear H
            have H := H1
            clear H1
            have H' := Aside0.mk H
            clear H
            have hnb22 := NB424_425.out
            have hnc22 := NB425_424.out
            have hcz23_0 : wc.cell? ⟨gb424, 0, none⟩ = some (.slice Ao5 l0_0.length co5) := (blk_cell BK424.out 0).trans rfl
            have hcz23_1 : wc.cell? ⟨gb424, 1, none⟩ = some (.int .i64 a0_1) := (blk_cell BK424.out 1).trans rfl
            have hcz23_2 : wc.cell? ⟨gb424, 2, none⟩ = some (.bool false) := (blk_cell BK424.out 2).trans rfl
            have hcz23_3 : wc.cell? ⟨gb424, 3, none⟩ = some (.int .i64 a0_3) := (blk_cell BK424.out 3).trans rfl
            have hfz23_0 := blk_frozen BK424.out 0
            have hfz23_1 := blk_frozen BK424.out 1
            have hfz23_2 := blk_frozen BK424.out 2
            have hfz23_3 := blk_frozen BK424.out 3
            go_wp2
            go_meet
            case rel => exact ⟨_, ((a0_1 == 0)), (by first | rfl | (simp; done) | (simp [*]; done)), H', ⟨by have := HJ3.out; first | omega | exact Nat.le_refl _⟩, ⟨by (with_reducible repeat (first | apply Kd.R_alloc | apply Kd.R_drewN | apply Kd.R_drew)); exact HO_425000.out⟩, ⟨by (with_reducible repeat (first | refine blk_drewN ?_ _ | refine blk_drew ?_ | refine blk_alloc ?_ _)); exact BK424.out⟩, ⟨by (with_reducible repeat (first | refine blk_drewN ?_ _ | refine blk_drew ?_ | refine blk_alloc ?_ _)); exact BK425.out⟩, ⟨by repeat (first | (with_reducible first | exact HK.out | apply Kept.alloc | apply Kept.drewN | apply Kept.drew | refine Kept.setCell ?_ (.inr GW424.out) _ | refine Kept.setCell ?_ (.inr GW425.out) _) | exact HK.out)⟩, ⟨by repeat (first | (with_reducible first | exact HB.out | apply below_alloc | apply pw_below_drewN | apply below_drew1 | refine below_set ?_ GE424.out | refine below_set ?_ GE425.out) | exact HB.out)⟩⟩
        case rest =>
          clear HC18
          try clear c1
          try clear c2
          try clear p2
          try clear c4
          try clear c8
          try clear c8b0
          try clear c9
          try clear c9b0
          try clear c10
          try clear c12
          try clear c14
          try clear c15
          try clear c19
          try clear c20
          try clear c22
          try clear hcz11_0
          try clear hcz11_1
          try clear hcz11_2
          try clear hcz11_3
          try clear hcz13_0
          try clear hcz13_1
          try clear hcz13_2
          try clear hcz13_3
          try clear hcz16_0
          try clear hcz16_1
          try clear hcz16_2
          try clear hcz16_3
          try clear hcz17_0
          try clear hcz17_1
          try clear hcz17_2
          try clear hcz17_3
          try clear hcz21_0
          try clear hcz21_1
          try clear hcz21_2
          try clear hcz21_3
          try clear hcz23_0
          try clear hcz23_1
          try clear hcz23_2
          try clear hcz23_3
          try clear hfz11_0
          try clear hfz11_1
          try clear hfz11_2
          try clear hfz11_3
          try clear hfz13_0
          try clear hfz13_1
          try clear hfz13_2
          try clear hfz13_3
          try clear hfz16_0
          try clear hfz16_1
          try clear hfz16_2
          try clear hfz16_3
          try clear hfz17_0
          try clear hfz17_1
          try clear hfz17_2
          try clear hfz17_3
          try clear hfz21_0
          try clear hfz21_1
          try clear hfz21_2
          try clear hfz21_3
          try clear hfz23_0
          try clear hfz23_1
          try clear hfz23_2
          try clear hfz23_3
          try clear p2
          obtain ⟨kq, x30_17, rfl, HA, HJ17, HO_425000, BK424, BK425, HK, HB⟩ := hcut
          cases kq with
          | zero => exact absurd HA.out (by simp [samphireref17_Write.j1])
          | succ kj17 =>
            have H := HA.out
            clear HA
            simp only [samphireref17_Write.j1] at H
            by_cases c24 : x30_17 = true
            · subst c24
              have H1 : (some (l0_0, (-1), true, a0_3, 170)) = some (r1, r2, r3, r4, r5) := by rw [if_pos rfl] at H; exact H
              clear H
              have H := H1
              clear H1
              simp only [Option.some.injEq, Prod.mk.injEq] at H
              obtain ⟨rfl, rfl, rfl, rfl, rfl⟩ := H
              have hnb25 := NB424_425.out
              have hnc25 := NB425_424.out
              have hcz26_0 : wc.cell? ⟨gb424, 0, none⟩ = some (.slice Ao5 l0_0.length co5) := (blk_cell BK424.out 0).trans rfl
              have hcz26_1 : wc.cell? ⟨gb424, 1, none⟩ = some (.int .i64 a0_1) := (blk_cell BK424.out 1).trans rfl
              have hcz26_2 : wc.cell? ⟨gb424, 2, none⟩ = some (.bool a0_2) := (blk_cell BK424.out 2).trans rfl
              have hcz26_3 : wc.cell? ⟨gb424, 3, none⟩ = some (.int .i64 a0_3) := (blk_cell BK424.out 3).trans rfl
              have hfz26_0 := blk_frozen BK424.out 0
              have hfz26_1 := blk_frozen BK424.out 1
              have hfz26_2 := blk_frozen BK424.out 2
              have hfz26_3 := blk_frozen BK424.out 3
              have hcz27_0 : wc.cell? ⟨gb425, 0, none⟩ = some (.slice none 0 0) := (blk_cell BK425.out 0).trans rfl
              have hcz27_1 : wc.cell? ⟨gb425, 1, none⟩ = some (.int .i64 0) := (blk_cell BK425.out 1).trans rfl
              have hcz27_2 : wc.cell? ⟨gb425, 2, none⟩ = some (.bool false) := (blk_cell BK425.out 2).trans rfl
              have hcz27_3 : wc.cell? ⟨gb425, 3, none⟩ = some (.int .i64 0) := (blk_cell BK425.out 3).trans rfl
              have hfz27_0 := blk_frozen BK425.out 0
              have hfz27_1 := blk_frozen BK425.out 1
              have hfz27_2 := blk_frozen BK425.out 2
              have hfz27_3 := blk_frozen BK425.out 3
              go_wp2
              refine bodyPost_ret (results_ct rfl _ _ gb425 65 #[.slice Ao5 l0_0.length co5, .int .i64 (-1), .bool true, .int .i64 a0_3] (0, 0) _ rfl (by (with_reducible repeat (first | refine blk_drewN ?_ _ | refine blk_drew ?_ | refine blk_alloc ?_ _)); refine blk_put (cs := #[.slice Ao5 l0_0.length co5, .int .i64 (-1), .bool true, .int .i64 0]) ?_ 3 _ rfl; (with_reducible repeat (first | refine blk_drewN ?_ _ | refine blk_drew ?_ | refine blk_alloc ?_ _)); refine blk_put (cs := #[.slice Ao5 l0_0.length co5, .int .i64 (-1), .bool false, .int .i64 0]) ?_ 2 _ rfl; (with_reducible repeat (first | refine blk_drewN ?_ _ | refine blk_drew ?_ | refine blk_alloc ?_ _)); refine blk_put (cs := #[.slice Ao5 l0_0.length co5, .int .i64 0, .bool false, .int .i64 0]) ?_ 1 _ rfl; (with_reducible repeat (first | refine blk_drewN ?_ _ | refine blk_drew ?_ | refine blk_alloc ?_ _)); refine blk_put (cs := #[.slice none 0 0, .int .i64 0, .bool false, .int .i64 0]) ?_ 0 _ rfl; (with_reducible repeat (first | refine blk_drewN ?_ _ | refine blk_drew ?_ | refine blk_alloc ?_ _)); refine blk_far ?_ NB425_424.out _; (with_reducible repeat (first | refine blk_drewN ?_ _ | refine blk_drew ?_ | refine blk_alloc ?_ _)); refine blk_far ?_ NB425_424.out _; (with_reducible repeat (first | refine blk_drewN ?_ _ | refine blk_drew ?_ | refine blk_alloc ?_ _)); exact BK425.out) Try.underlying65 rfl (by kernel_rfl)) rfl ?_
              exact ⟨_, by first | rfl | (simp [errW_none, errW_some] <;> rfl) | (simp [*, errW_none, errW_some] <;> rfl), by (with_reducible repeat (first | apply Kd.R_alloc | apply Kd.R_drewN | apply Kd.R_drew)); exact Kd.R_mono (Kd.R_far (p := ⟨gb425, 3, none⟩) (Kd.R_far (p := ⟨gb425, 2, none⟩) (Kd.R_far (p := ⟨gb425, 1, none⟩) (Kd.R_far (p := ⟨gb425, 0, none⟩) (Kd.R_far (p := ⟨gb424, 1, none⟩) (Kd.R_far (p := ⟨gb424, 2, none⟩) (Kd.R_types (Kd.R_types HO_425000.out BK424.out (by decide)) BK425.out (by decide)) (fun _ hk => hk.1.2) (.bool true)) (fun _ hk => hk.1.2) (.int .i64 (-1))) (fun _ hk => hk.2) (.slice Ao5 l0_0.length co5)) (fun _ hk => hk.2) (.int .i64 (-1))) (fun _ hk => hk.2) (.bool true)) (fun _ hk => hk.2) (.int .i64 a0_3)) (fun _ hk => hk.1.1), by repeat (first | (with_reducible first | exact HB.out | apply below_alloc | apply pw_below_drewN | apply below_drew1 | refine below_set ?_ GE424.out | refine below_set ?_ GE425.out) | exact HB.out), by repeat (first | (with_reducible first | exact HK.out | apply Kept.alloc | apply Kept.drewN | apply Kept.drew | refine Kept.setCell ?_ (.inr GW424.out) _ | refine Kept.setCell ?_ (.inr GW425.out) _) | exact HK.out)⟩
            · replace c24 := Bool.eq_false_iff.mpr c24
              subst c24
              have H1 : (if 0 ≤ a1 then (if a1 ≤ (l0_0.length : Int) then ((some (l0_0.take (a1 : Int).toNat : List ByteArray)).bind fun y426 => (if ([] : List ByteArray).length + y426.length < 8796093022208 then ((some (([] : List ByteArray) ++ y426 : List ByteArray)).bind fun y430 => (if y430.length < 8796093022208 then ((some (y430 ++ [a2] : List ByteArray)).bind fun y433 => (if 0 ≤ (wrap64 (a1 + 1)) then (if (wrap64 (a1 + 1)) ≤ (l0_0.length : Int) then ((some (l0_0.drop ((wrap64 (a1 + 1)) : Int).toNat : List ByteArray)).bind fun y436 => (if y433.length + y436.length < 8796093022208 then ((some (y433 ++ y436 : List ByteArray)).bind fun y440 => (if a0_1 > 0 then (some (y440, wrap64 (a0_1 - 1), a0_2, wrap64 (a0_3 + 1), 0)) else (some (y440, a0_1, a0_2, wrap64 (a0_3 + 1), 0)))) else (none))) else (none)) else (none))) else (none))) else (none))) else (none)) else (none)) = some (r1, r2, r3, r4, r5) := by rw [if_neg (show ¬ (false = true) by decide)] at H; exact H
              clear H
              have H := H1
              clear H1
              by_cases c28 : 0 ≤ a1
              · rw [if_pos c28] at H
                have c28b0 := eq_true c28
                have c28b1 : decide (0 ≤ a1) = true := decide_eq_true c28
                clear c28
                by_cases c29 : a1 ≤ (l0_0.length : Int)
                · rw [if_pos c29] at H
                  have c29b0 := eq_true c29
                  have c29b1 : decide (a1 ≤ (l0_0.length : Int)) = true := decide_eq_true c29
                  clear c29
                  obtain ⟨y426, hy426⟩ : ∃ y_ : List ByteArray, y_ = (l0_0.take (a1 : Int).toNat) := ⟨_, rfl⟩
                  replace H : (if ([] : List ByteArray).length + y426.length < 8796093022208 then ((some (([] : List ByteArray) ++ y426 : List ByteArray)).bind fun y430 => (if y430.length < 8796093022208 then ((some (y430 ++ [a2] : List ByteArray)).bind fun y433 => (if 0 ≤ (wrap64 (a1 + 1)) then (if (wrap64 (a1 + 1)) ≤ (l0_0.length : Int) then ((some (l0_0.drop ((wrap64 (a1 + 1)) : Int).toNat : List ByteArray)).bind fun y436 => (if y433.length + y436.length < 8796093022208 then ((some (y433 ++ y436 : List ByteArray)).bind fun y440 => (if a0_1 > 0 then (some (y440, wrap64 (a0_1 - 1), a0_2, wrap64 (a0_3 + 1), 0)) else (some (y440, a0_1, a0_2, wrap64 (a0_3 + 1), 0)))) else (none))) else (none)) else (none))) else (none))) else (none)) = some (r1, r2, r3, r4, r5) := by first | (rw [hy426]; with_reducible exact H) | (have H2_ := (Option.bind_some _ _).symm.trans H; rw [hy426]; with_reducible exact H2_) | (have H2_ := (Option.bind_some _ _).symm.trans H; with_reducible exact H2_) | with_reducible exact H | (rw [hy426]; exact H) | exact H
                  have Ny426 := Aside0.mk hy426
                  clear hy426
                  by_cases c30 : ([] : List ByteArray).length + y426.length < 8796093022208
                  · rw [if_pos c30] at H
                    have LMc30 := Aside0.mk c30
                    clear c30
                    obtain ⟨y430, hy430⟩ : ∃ y_ : List ByteArray, y_ = (([] : List ByteArray) ++ y426) := ⟨_, rfl⟩
                    replace H : (if y430.length < 8796093022208 then ((some (y430 ++ [a2] : List ByteArray)).bind fun y433 => (if 0 ≤ (wrap64 (a1 + 1)) then (if (wrap64 (a1 + 1)) ≤ (l0_0.length : Int) then ((some (l0_0.drop ((wrap64 (a1 + 1)) : Int).toNat : List ByteArray)).bind fun y436 => (if y433.length + y436.length < 8796093022208 then ((some (y433 ++ y436 : List ByteArray)).bind fun y440 => (if a0_1 > 0 then (some (y440, wrap64 (a0_1 - 1), a0_2, wrap64 (a0_3 + 1), 0)) else (some (y440, a0_1, a0_2, wrap64 (a0_3 + 1), 0)))) else (none))) else (none)) else (none))) else (none)) = some (r1, r2, r3, r4, r5) := by first | (rw [hy430]; with_reducible exact H) | (have H2_ := (Option.bind_some _ _).symm.trans H; rw [hy430]; with_reducible exact H2_) | (have H2_ := (Option.bind_some _ _).symm.trans H; with_reducible exact H2_) | with_reducible exact H | (rw [hy430]; exact H) | exact H
                    have Ny430 := Aside0.mk hy430
                    clear hy430
                    by_cases c31 : y430.length < 8796093022208
                    · rw [if_pos c31] at H
                      have LMc31 := Aside0.mk c31
                      clear c31
                      obtain ⟨y433, hy433⟩ : ∃ y_ : List ByteArray, y_ = (y430 ++ [a2]) := ⟨_, rfl⟩
                      replace H : (if 0 ≤ (wrap64 (a1 + 1)) then (if (wrap64 (a1 + 1)) ≤ (l0_0.length : Int) then ((some (l0_0.drop ((wrap64 (a1 + 1)) : Int).toNat : List ByteArray)).bind fun y436 => (if y433.length + y436.length < 8796093022208 then ((some (y433 ++ y436 : List ByteArray)).bind fun y440 => (if a0_1 > 0 then (some (y440, wrap64 (a0_1 - 1), a0_2, wrap64 (a0_3 + 1), 0)) else (some (y440, a0_1, a0_2, wrap64 (a0_3 + 1), 0)))) else (none))) else (none)) else (none)) = some (r1, r2, r3, r4, r5) := by first | (rw [hy433]; with_reducible exact H) | (have H2_ := (Option.bind_some _ _).symm.trans H; rw [hy433]; with_reducible exact H2_) | (have H2_ := (Option.bind_some _ _).symm.trans H; with_reducible exact H2_) | with_reducible exact H | (rw [hy433]; exact H) | exact H
                      have Ny433 := Aside0.mk hy433
                      clear hy433
                      obtain ⟨ji32, hji32⟩ : ∃ j_ : Int, (wrap64 (a1 + 1)) = j_ := ⟨_, rfl⟩
                      replace H : (if 0 ≤ (ji32) then (if (ji32) ≤ (l0_0.length : Int) then ((some (l0_0.drop ((ji32) : Int).toNat : List ByteArray)).bind fun y436 => (if y433.length + y436.length < 8796093022208 then ((some (y433 ++ y436 : List ByteArray)).bind fun y440 => (if a0_1 > 0 then (some (y440, wrap64 (a0_1 - 1), a0_2, wrap64 (a0_3 + 1), 0)) else (some (y440, a0_1, a0_2, wrap64 (a0_3 + 1), 0)))) else (none))) else (none)) else (none)) = some (r1, r2, r3, r4, r5) := by first | (rw [hji32] at H; exact H) | (simp only [hji32] at H ⊢; exact H)
                      have hji32w : (IntKind.i64.wrap (a1 + 1)) = ji32 := (i64_w _).trans hji32
                      by_cases c33 : 0 ≤ (ji32)
                      · rw [if_pos c33] at H
                        have c33b0 := eq_true c33
                        have c33b1 : decide (0 ≤ (ji32)) = true := decide_eq_true c33
                        clear c33
                        by_cases c34 : (ji32) ≤ (l0_0.length : Int)
                        · rw [if_pos c34] at H
                          have c34b0 := eq_true c34
                          have c34b1 : decide ((ji32) ≤ (l0_0.length : Int)) = true := decide_eq_true c34
                          clear c34
                          obtain ⟨y436, hy436⟩ : ∃ y_ : List ByteArray, y_ = (l0_0.drop ((ji32) : Int).toNat) := ⟨_, rfl⟩
                          replace H : (if y433.length + y436.length < 8796093022208 then ((some (y433 ++ y436 : List ByteArray)).bind fun y440 => (if a0_1 > 0 then (some (y440, wrap64 (a0_1 - 1), a0_2, wrap64 (a0_3 + 1), 0)) else (some (y440, a0_1, a0_2, wrap64 (a0_3 + 1), 0)))) else (none)) = some (r1, r2, r3, r4, r5) := by first | (rw [hy436]; with_reducible exact H) | (have H2_ := (Option.bind_some _ _).symm.trans H; rw [hy436]; with_reducible exact H2_) | (have H2_ := (Option.bind_some _ _).symm.trans H; with_reducible exact H2_) | with_reducible exact H | (rw [hy436]; exact H) | exact H
                          have Ny436 := Aside0.mk hy436
                          clear hy436
                          by_cases c35 : y433.length + y436.length < 8796093022208
                          · rw [if_pos c35] at H
                            have LMc35 := Aside0.mk c35
                            clear c35
                            obtain ⟨y440, hy440⟩ : ∃ y_ : List ByteArray, y_ = (y433 ++ y436) := ⟨_, rfl⟩
                            replace H : (if a0_1 > 0 then (some (y440, wrap64 (a0_1 - 1), a0_2, wrap64 (a0_3 + 1), 0)) else (some (y440, a0_1, a0_2, wrap64 (a0_3 + 1), 0))) = some (r1, r2, r3, r4, r5) := by first | (rw [hy440]; with_reducible exact H) | (have H2_ := (Option.bind_some _ _).symm.trans H; rw [hy440]; with_reducible exact H2_) | (have H2_ := (Option.bind_some _ _).symm.trans H; with_reducible exact H2_) | with_reducible exact H | (rw [hy440]; exact H) | exact H
                            have Ny440 := Aside0.mk hy440
                            clear hy440
                            by_cases c36 : a0_1 > 0
                            · rw [if_pos c36] at H
                              have c36b0 : decide (0 < a0_1) = true := decide_eq_true c36
                              clear c36
                              simp only [Option.some.injEq, Prod.mk.injEq] at H
                              obtain ⟨rfl, rfl, rfl, rfl, rfl⟩ := H
                              have hnb37 := NB424_425.out
                              have hnc37 := NB425_424.out
                              have hcz38_0 : wc.cell? ⟨gb424, 0, none⟩ = some (.slice Ao5 l0_0.length co5) := (blk_cell BK424.out 0).trans rfl
                              have hcz38_1 : wc.cell? ⟨gb424, 1, none⟩ = some (.int .i64 a0_1) := (blk_cell BK424.out 1).trans rfl
                              have hcz38_2 : wc.cell? ⟨gb424, 2, none⟩ = some (.bool a0_2) := (blk_cell BK424.out 2).trans rfl
                              have hcz38_3 : wc.cell? ⟨gb424, 3, none⟩ = some (.int .i64 a0_3) := (blk_cell BK424.out 3).trans rfl
                              have hfz38_0 := blk_frozen BK424.out 0
                              have hfz38_1 := blk_frozen BK424.out 1
                              have hfz38_2 := blk_frozen BK424.out 2
                              have hfz38_3 := blk_frozen BK424.out 3
                              have q39 : (a1 : Int) ≤ ((l0_0.length : Int) : Int) := of_decide_eq_true (by first | (with_reducible assumption) | assumption)
                              obtain ⟨i039, hi039, _, hsz39, _⟩ := info_parts info9
                              have hroom39 : l0_0.length ≤ co5 := (Kd.R_reads' HO_425000.out).2.1
                              have hC39 : Kd.C Kd.string _ Ao5 l0_0.length l0_0 := (Kd.R_reads' HO_425000.out).2.2
                              have hcut39 := cut_to (P := Try.prog) 46 9 .i64 Try.underlying46 hi039 Ao5 l0_0.length co5 a1 (of_decide_eq_true (by first | (with_reducible assumption) | assumption)) q39 hroom39
                              have hr39 := Kd.C_take (m := (a1 : Int).toNat) hC39 (by omega)
                              have hy39 : y426.length = (a1 : Int).toNat := (by rw [Ny426.out, List.length_take]; omega)
                              rw [← Ny426.out] at hr39
                              rw [← hy39] at hcut39
                              have HR429 := Aside0.mk hr39
                              have HC429 := Aside0.mk (show y426.length ≤ co5 from by omega)
                              clear hr39 hC39 hroom39 hi039 hsz39
                              have KY39 := Aside0.mk hy39
                              clear hy39
                              have KL39 := Aside0.mk (show (a1 : Int).toNat ≤ l0_0.length from by omega)
                              replace q39 := eq_true q39
                              go_wp2_with (first | ((with_reducible refine gate_builtin (b := .append) (xs := #[.tmp 34, .tmp 38]) rfl ?_); (try (refine gate_guard (by rfl) ?_; dsimp only)); at_builtin; refine Kd.R_append_rows Kd.string (w0 := w0) w0.heap.size rfl (.tmp 34) (.tmp 38) 46 9 (.string ⟨#[]⟩) 16 rfl Try.underlying46 info9 rfl (by decide) (by omega) (.slice none 0 0) ([] : List ByteArray) y426 _ _ _ (fun k_ => (P0_0_ k_ ∨ w.heap.size ≤ k_) ∧ some k_ ≠ (.slice Ao5 l0_0.length co5 : Value).ownBlock) (fun _ => False) rfl rfl ?aO ?aR (fun _ _ h => h) (fun _ h => h.elim) ?aF ?aB ?aS ?aL ?_; (case aR => repeat (first | exact (by repeat (first | (with_reducible exact HR429.out) | (with_reducible refine Kd.C_alloc ?_ _) | (with_reducible refine Kd.C_drewN ?_ _) | (with_reducible refine Kd.C_drew ?_) | exact HR429.out)) | (with_reducible refine Kd.C_alloc ?_ _) | (with_reducible refine Kd.C_drewN ?_ _) | (with_reducible refine Kd.C_drew ?_))); (case aB => exact (by repeat (first | (with_reducible first | exact HB.out | apply below_alloc | apply pw_below_drewN | apply below_drew1 | refine below_set ?_ GE424.out | refine below_set ?_ GE425.out) | exact HB.out))); (case aF => exact (fun k_ hk => ⟨(.inr (Nat.le_trans (by first | exact HK.out.1 | exact (show Kept w _ (fun k_ => P0_0_ k_) from by repeat (first | (with_reducible first | exact HK.out | apply Kept.alloc | apply Kept.drewN | apply Kept.drew | refine Kept.setCell ?_ (.inr GW424.out) _ | refine Kept.setCell ?_ (.inr GW425.out) _) | exact HK.out)).1) hk)), Kd.fresh' (Kd.R_lt (by (with_reducible repeat (first | apply Kd.R_alloc | apply Kd.R_drewN | apply Kd.R_drew)); exact HO_425000.out)) k_ hk⟩)); (case aO => exact ((Kd.R_nil _ _ _ _ (fun k_ => (P0_0_ k_ ∨ w.heap.size ≤ k_) ∧ some k_ ≠ (.slice Ao5 l0_0.length co5 : Value).ownBlock)))); (case aS => exact (below_size (by repeat (first | (with_reducible first | exact HB.out | apply below_alloc | apply pw_below_drewN | apply below_drew1 | refine below_set ?_ GE424.out | refine below_set ?_ GE425.out) | exact HB.out)))); (case aL => have := LMc30.out; omega); intro v431 w40 ho hb hg hat; rw [← Ny430.out] at ho; have n0_ := Aside0.mk (Kd.R_after (Kd.R_apart_nil (by (with_reducible repeat (first | apply Kd.R_alloc | apply Kd.R_drewN | apply Kd.R_drew)); exact HO_425000.out)) hg hat); have n1_ := Aside0.mk (blk_grown (g := gb424) (o := .cells #[.slice Ao5 l0_0.length co5, .int .i64 a0_1, .bool a0_2, .int .i64 a0_3] 65 (0, 0)) (by (with_reducible repeat (first | refine blk_drewN ?_ _ | refine blk_drew ?_ | refine blk_alloc ?_ _)); exact BK424.out) hg (by simp [Value.ownBlock])); have n2_ := Aside0.mk (blk_grown (g := gb425) (o := .cells #[.slice none 0 0, .int .i64 0, .bool false, .int .i64 0] 65 (0, 0)) (by (with_reducible repeat (first | refine blk_drewN ?_ _ | refine blk_drew ?_ | refine blk_alloc ?_ _)); exact BK425.out) hg (by simp [Value.ownBlock])); have n3_ := Aside0.mk (hb); have n4_ := Aside0.mk (Kept.of_grown (S := (fun k_ => P0_0_ k_)) hg (by repeat (first | (with_reducible first | exact HK.out | apply Kept.alloc | apply Kept.drewN | apply Kept.drew | refine Kept.setCell ?_ (.inr GW424.out) _ | refine Kept.setCell ?_ (.inr GW425.out) _) | exact HK.out)) (fun k_ e_ => by simp [Value.ownBlock] at e_)); have n5_ := Aside0.mk ((show Kd.C Kd.string w40 Ao5 y426.length y426 from by rw [Ny426.out]; exact Kd.C_take (m := (a1 : Int).toNat) ((Kd.R_reads' (Kd.R_after (Kd.R_apart_nil (by (with_reducible repeat (first | apply Kd.R_alloc | apply Kd.R_drewN | apply Kd.R_drew)); exact HO_425000.out)) hg hat)).2.2) KL39.out)); have n6_ := Aside0.mk (ho); clear HO_425000; clear BK424; clear BK425; clear HB; clear HK; clear HR429; have HO_425000 := n0_; have BK424 := n1_; have BK425 := n2_; have HB := n3_; have HK := n4_; have HR429 := n5_; have HO432 := n6_; clear n0_ n1_ n2_ n3_ n4_ n5_ n6_; clear ho hb hg hat) | ((with_reducible refine gate_builtin (b := .append) (xs := #[.tmp 40, .tmp 42]) rfl ?_); (try (refine gate_guard (by rfl) ?_; dsimp only)); at_builtin; refine Kd.R_append Kd.string (w0 := w0) w0.heap.size rfl (.tmp 40) (.tmp 42) 46 9 (.string ⟨#[]⟩) 16 rfl Try.underlying46 info9 rfl (by decide) (by omega) v431 y430 a2 [.string a2] (fun k_ => (P0_0_ k_ ∨ w.heap.size ≤ k_) ∧ some k_ ≠ (.slice Ao5 l0_0.length co5 : Value).ownBlock) (fun _ => False) rfl rfl ?aP (fun _ hk => hk.elim) ?aF ?aO ?aB ?aS ?aL ?_; (case aP => exact rfl); (case aB => exact (by repeat (first | (with_reducible first | exact HB.out | apply below_alloc | apply pw_below_drewN | apply below_drew1 | refine below_set ?_ GE424.out | refine below_set ?_ GE425.out) | exact HB.out))); (case aF => exact (fun k_ hk => ⟨(.inr (Nat.le_trans (by first | exact HK.out.1 | exact (show Kept w _ (fun k_ => P0_0_ k_) from by repeat (first | (with_reducible first | exact HK.out | apply Kept.alloc | apply Kept.drewN | apply Kept.drew | refine Kept.setCell ?_ (.inr GW424.out) _ | refine Kept.setCell ?_ (.inr GW425.out) _) | exact HK.out)).1) hk)), Kd.fresh' (Kd.R_lt (by (with_reducible repeat (first | apply Kd.R_alloc | apply Kd.R_drewN | apply Kd.R_drew)); exact HO_425000.out)) k_ hk⟩)); (case aO => exact (by (with_reducible repeat (first | apply Kd.R_alloc | apply Kd.R_drewN | apply Kd.R_drew)); exact HO432.out)); (case aS => exact (below_size (by repeat (first | (with_reducible first | exact HB.out | apply below_alloc | apply pw_below_drewN | apply below_drew1 | refine below_set ?_ GE424.out | refine below_set ?_ GE425.out) | exact HB.out)))); (case aL => have := LMc31.out; omega); intro v434 w41 ho hb hg hat; rw [← Ny433.out] at ho; have n0_ := Aside0.mk (Kd.R_after (ok := (fun k_ => (P0_0_ k_ ∨ w.heap.size ≤ k_))) (by (with_reducible repeat (first | apply Kd.R_alloc | apply Kd.R_drewN | apply Kd.R_drew)); exact HO_425000.out) hg hat); have n1_ := Aside0.mk (blk_grown (g := gb424) (o := .cells #[.slice Ao5 l0_0.length co5, .int .i64 a0_1, .bool a0_2, .int .i64 a0_3] 65 (0, 0)) (by (with_reducible repeat (first | refine blk_drewN ?_ _ | refine blk_drew ?_ | refine blk_alloc ?_ _)); exact BK424.out) hg (Kd.R_ne HO432.out BK424.out (by decide))); have n2_ := Aside0.mk (blk_grown (g := gb425) (o := .cells #[.slice none 0 0, .int .i64 0, .bool false, .int .i64 0] 65 (0, 0)) (by (with_reducible repeat (first | refine blk_drewN ?_ _ | refine blk_drew ?_ | refine blk_alloc ?_ _)); exact BK425.out) hg (Kd.R_ne HO432.out BK425.out (by decide))); have n3_ := Aside0.mk (hb); have n4_ := Aside0.mk (Kept.of_grown (S := (fun k_ => P0_0_ k_)) hg (by repeat (first | (with_reducible first | exact HK.out | apply Kept.alloc | apply Kept.drewN | apply Kept.drew | refine Kept.setCell ?_ (.inr GW424.out) _ | refine Kept.setCell ?_ (.inr GW425.out) _) | exact HK.out)) (fun k_ e_ => (HO432.out.1 k_ e_).1)); have n5_ := Aside0.mk ((show Kd.C Kd.string w41 Ao5 y426.length y426 from by rw [Ny426.out]; exact Kd.C_take (m := (a1 : Int).toNat) ((Kd.R_reads' (Kd.R_after (ok := (fun k_ => (P0_0_ k_ ∨ w.heap.size ≤ k_))) (by (with_reducible repeat (first | apply Kd.R_alloc | apply Kd.R_drewN | apply Kd.R_drew)); exact HO_425000.out) hg hat)).2.2) KL39.out)); have n6_ := Aside0.mk (ho); clear HO_425000; clear BK424; clear BK425; clear HB; clear HK; clear HR429; clear HO432; have HO_425000 := n0_; have BK424 := n1_; have BK425 := n2_; have HB := n3_; have HK := n4_; have HR429 := n5_; have HO435 := n6_; clear n0_ n1_ n2_ n3_ n4_ n5_ n6_; clear ho hb hg hat; have hcz42_0 : w41.cell? ⟨gb424, 0, none⟩ = some (.slice Ao5 l0_0.length co5) := (blk_cell BK424.out 0).trans rfl; have hcz42_1 : w41.cell? ⟨gb424, 1, none⟩ = some (.int .i64 a0_1) := (blk_cell BK424.out 1).trans rfl; have hcz42_2 : w41.cell? ⟨gb424, 2, none⟩ = some (.bool a0_2) := (blk_cell BK424.out 2).trans rfl; have hcz42_3 : w41.cell? ⟨gb424, 3, none⟩ = some (.int .i64 a0_3) := (blk_cell BK424.out 3).trans rfl; have hfz42_0 := blk_frozen BK424.out 0; have hfz42_1 := blk_frozen BK424.out 1; have hfz42_2 := blk_frozen BK424.out 2; have hfz42_3 := blk_frozen BK424.out 3; have q43 : ((ji32) : Int) ≤ ((l0_0.length : Int) : Int) := of_decide_eq_true (by first | (with_reducible assumption) | assumption); obtain ⟨i043, hi043, _, hsz43, _⟩ := info_parts info9; have hroom43 : l0_0.length ≤ co5 := (Kd.R_reads' HO_425000.out).2.1; have hC43 : Kd.C Kd.string _ Ao5 l0_0.length l0_0 := (Kd.R_reads' HO_425000.out).2.2; have q043 : (0 : Int) ≤ ((ji32) : Int) := of_decide_eq_true (by first | (with_reducible assumption) | assumption); have hcut43 := cut_from (P := Try.prog) 46 9 .i64 Try.underlying46 hi043 1 hsz43 Ao5 l0_0.length co5 (ji32) q043 q43; have hr43 := Kd.C_drop (m := ((ji32) : Int).toNat) (c := co5) hC43 (by omega) hroom43; obtain ⟨A43, hA43⟩ : ∃ A1, A1 = (if co5 = ((ji32) : Int).toNat then Ao5 else (Ao5 : Option Addr).map (·.add (((ji32) : Int).toNat * 1))) := ⟨_, rfl⟩; obtain ⟨c43, hc43⟩ : ∃ c1, c1 = co5 - ((ji32) : Int).toNat := ⟨_, rfl⟩; have hy43 : y436.length = l0_0.length - ((ji32) : Int).toNat := (by rw [Ny436.out, List.length_drop] <;> omega); rw [show (l0_0).drop ((ji32) : Int).toNat = y436 from Ny436.out.symm] at hr43; replace hr43 : Kd.C Kd.string _ A43 y436.length y436 := (by rw [hA43]; exact hr43); rw [← hy43, ← hA43, ← hc43] at hcut43; have HR439 := Aside0.mk hr43; have HC439 := Aside0.mk (show y436.length ≤ c43 from by rw [hy43, hc43]; exact Nat.sub_le_sub_right hroom43 _); clear hr43 hC43 hroom43 hi043 hsz43 hc43; have KY43 := Aside0.mk hy43; have KA43 := Aside0.mk hA43; clear hy43 hA43; have KL43 := Aside0.mk (show ((ji32) : Int).toNat ≤ l0_0.length from by omega); replace q43 := eq_true q43) | ((with_reducible refine gate_builtin (b := .append) (xs := #[.tmp 44, .tmp 49]) rfl ?_); (try (refine gate_guard (by rfl) ?_; dsimp only)); at_builtin; refine Kd.R_append_rows Kd.string (w0 := w0) w0.heap.size rfl (.tmp 44) (.tmp 49) 46 9 (.string ⟨#[]⟩) 16 rfl Try.underlying46 info9 rfl (by decide) (by omega) v434 y433 y436 _ _ _ (fun k_ => (P0_0_ k_ ∨ w.heap.size ≤ k_) ∧ some k_ ≠ (.slice Ao5 l0_0.length co5 : Value).ownBlock) (fun _ => False) rfl rfl ?aO ?aR (fun _ _ h => h) (fun _ h => h.elim) ?aF ?aB ?aS ?aL ?_; (case aR => repeat (first | exact (by repeat (first | (with_reducible exact HR439.out) | (with_reducible refine Kd.C_alloc ?_ _) | (with_reducible refine Kd.C_drewN ?_ _) | (with_reducible refine Kd.C_drew ?_) | exact HR439.out)) | (with_reducible refine Kd.C_alloc ?_ _) | (with_reducible refine Kd.C_drewN ?_ _) | (with_reducible refine Kd.C_drew ?_))); (case aB => exact (by repeat (first | (with_reducible first | exact HB.out | apply below_alloc | apply pw_below_drewN | apply below_drew1 | refine below_set ?_ GE424.out | refine below_set ?_ GE425.out) | exact HB.out))); (case aF => exact (fun k_ hk => ⟨(.inr (Nat.le_trans (by first | exact HK.out.1 | exact (show Kept w _ (fun k_ => P0_0_ k_) from by repeat (first | (with_reducible first | exact HK.out | apply Kept.alloc | apply Kept.drewN | apply Kept.drew | refine Kept.setCell ?_ (.inr GW424.out) _ | refine Kept.setCell ?_ (.inr GW425.out) _) | exact HK.out)).1) hk)), Kd.fresh' (Kd.R_lt (by (with_reducible repeat (first | apply Kd.R_alloc | apply Kd.R_drewN | apply Kd.R_drew)); exact HO_425000.out)) k_ hk⟩)); (case aO => exact (by (with_reducible repeat (first | apply Kd.R_alloc | apply Kd.R_drewN | apply Kd.R_drew)); exact HO435.out)); (case aS => exact (below_size (by repeat (first | (with_reducible first | exact HB.out | apply below_alloc | apply pw_below_drewN | apply below_drew1 | refine below_set ?_ GE424.out | refine below_set ?_ GE425.out) | exact HB.out)))); (case aL => have := LMc35.out; omega); intro v441 w44 ho hb hg hat; rw [← Ny440.out] at ho; have n0_ := Aside0.mk (Kd.R_after (ok := (fun k_ => (P0_0_ k_ ∨ w.heap.size ≤ k_))) (by (with_reducible repeat (first | apply Kd.R_alloc | apply Kd.R_drewN | apply Kd.R_drew)); exact HO_425000.out) hg hat); have n1_ := Aside0.mk (blk_grown (g := gb424) (o := .cells #[.slice Ao5 l0_0.length co5, .int .i64 a0_1, .bool a0_2, .int .i64 a0_3] 65 (0, 0)) (by (with_reducible repeat (first | refine blk_drewN ?_ _ | refine blk_drew ?_ | refine blk_alloc ?_ _)); exact BK424.out) hg (Kd.R_ne HO435.out BK424.out (by decide))); have n2_ := Aside0.mk (blk_grown (g := gb425) (o := .cells #[.slice none 0 0, .int .i64 0, .bool false, .int .i64 0] 65 (0, 0)) (by (with_reducible repeat (first | refine blk_drewN ?_ _ | refine blk_drew ?_ | refine blk_alloc ?_ _)); exact BK425.out) hg (Kd.R_ne HO435.out BK425.out (by decide))); have n3_ := Aside0.mk (hb); have n4_ := Aside0.mk (Kept.of_grown (S := (fun k_ => P0_0_ k_)) hg (by repeat (first | (with_reducible first | exact HK.out | apply Kept.alloc | apply Kept.drewN | apply Kept.drew | refine Kept.setCell ?_ (.inr GW424.out) _ | refine Kept.setCell ?_ (.inr GW425.out) _) | exact HK.out)) (fun k_ e_ => (HO435.out.1 k_ e_).1)); have n5_ := Aside0.mk ((show Kd.C Kd.string w44 Ao5 y426.length y426 from by rw [Ny426.out]; exact Kd.C_take (m := (a1 : Int).toNat) ((Kd.R_reads' (Kd.R_after (ok := (fun k_ => (P0_0_ k_ ∨ w.heap.size ≤ k_))) (by (with_reducible repeat (first | apply Kd.R_alloc | apply Kd.R_drewN | apply Kd.R_drew)); exact HO_425000.out) hg hat)).2.2) KL39.out)); have n6_ := Aside0.mk ((show Kd.C Kd.string w44 A43 y436.length y436 from by rw [Ny436.out, KA43.out]; exact Kd.C_drop (m := ((ji32) : Int).toNat) (c := co5) ((Kd.R_reads' (Kd.R_after (ok := (fun k_ => (P0_0_ k_ ∨ w.heap.size ≤ k_))) (by (with_reducible repeat (first | apply Kd.R_alloc | apply Kd.R_drewN | apply Kd.R_drew)); exact HO_425000.out) hg hat)).2.2) KL43.out ((Kd.R_reads' (Kd.R_after (ok := (fun k_ => (P0_0_ k_ ∨ w.heap.size ≤ k_))) (by (with_reducible repeat (first | apply Kd.R_alloc | apply Kd.R_drewN | apply Kd.R_drew)); exact HO_425000.out) hg hat)).2.1))); have n7_ := Aside0.mk (ho); clear HO_425000; clear BK424; clear BK425; clear HB; clear HK; clear HR429; clear HR439; clear HO435; have HO_425000 := n0_; have BK424 := n1_; have BK425 := n2_; have HB := n3_; have HK := n4_; have HR429 := n5_; have HR439 := n6_; have HO442 := n7_; clear n0_ n1_ n2_ n3_ n4_ n5_ n6_ n7_; clear ho hb hg hat; obtain ⟨Ao45, co45, eo45⟩ := Kd.R_slice HO442.out; subst eo45; have hcz46_0 : w44.cell? ⟨gb424, 0, none⟩ = some (.slice Ao5 l0_0.length co5) := (blk_cell BK424.out 0).trans rfl; have hcz46_1 : w44.cell? ⟨gb424, 1, none⟩ = some (.int .i64 a0_1) := (blk_cell BK424.out 1).trans rfl; have hcz46_2 : w44.cell? ⟨gb424, 2, none⟩ = some (.bool a0_2) := (blk_cell BK424.out 2).trans rfl; have hcz46_3 : w44.cell? ⟨gb424, 3, none⟩ = some (.int .i64 a0_3) := (blk_cell BK424.out 3).trans rfl; have hfz46_0 := blk_frozen BK424.out 0; have hfz46_1 := blk_frozen BK424.out 1; have hfz46_2 := blk_frozen BK424.out 2; have hfz46_3 := blk_frozen BK424.out 3; have hcz47_0 : w44.cell? ⟨gb425, 0, none⟩ = some (.slice none 0 0) := (blk_cell BK425.out 0).trans rfl; have hcz47_1 : w44.cell? ⟨gb425, 1, none⟩ = some (.int .i64 0) := (blk_cell BK425.out 1).trans rfl; have hcz47_2 : w44.cell? ⟨gb425, 2, none⟩ = some (.bool false) := (blk_cell BK425.out 2).trans rfl; have hcz47_3 : w44.cell? ⟨gb425, 3, none⟩ = some (.int .i64 0) := (blk_cell BK425.out 3).trans rfl; have hfz47_0 := blk_frozen BK425.out 0; have hfz47_1 := blk_frozen BK425.out 1; have hfz47_2 := blk_frozen BK425.out 2; have hfz47_3 := blk_frozen BK425.out 3))
                              refine bodyPost_ret (results_ct rfl _ _ gb425 65 #[.slice Ao45 y440.length co45, .int .i64 (wrap64 (a0_1 - 1)), .bool a0_2, .int .i64 (wrap64 (a0_3 + 1))] (0, 0) _ rfl (by (with_reducible repeat (first | refine blk_drewN ?_ _ | refine blk_drew ?_ | refine blk_alloc ?_ _)); refine blk_put (cs := #[.slice Ao45 y440.length co45, .int .i64 (wrap64 (a0_1 - 1)), .bool a0_2, .int .i64 0]) ?_ 3 _ rfl; (with_reducible repeat (first | refine blk_drewN ?_ _ | refine blk_drew ?_ | refine blk_alloc ?_ _)); refine blk_put (cs := #[.slice Ao45 y440.length co45, .int .i64 (wrap64 (a0_1 - 1)), .bool false, .int .i64 0]) ?_ 2 _ rfl; (with_reducible repeat (first | refine blk_drewN ?_ _ | refine blk_drew ?_ | refine blk_alloc ?_ _)); refine blk_put (cs := #[.slice Ao45 y440.length co45, .int .i64 0, .bool false, .int .i64 0]) ?_ 1 _ rfl; (with_reducible repeat (first | refine blk_drewN ?_ _ | refine blk_drew ?_ | refine blk_alloc ?_ _)); refine blk_put (cs := #[.slice none 0 0, .int .i64 0, .bool false, .int .i64 0]) ?_ 0 _ rfl; (with_reducible repeat (first | refine blk_drewN ?_ _ | refine blk_drew ?_ | refine blk_alloc ?_ _)); refine blk_far ?_ NB425_424.out _; (with_reducible repeat (first | refine blk_drewN ?_ _ | refine blk_drew ?_ | refine blk_alloc ?_ _)); refine blk_far ?_ NB425_424.out _; (with_reducible repeat (first | refine blk_drewN ?_ _ | refine blk_drew ?_ | refine blk_alloc ?_ _)); refine blk_far ?_ NB425_424.out _; (with_reducible repeat (first | refine blk_drewN ?_ _ | refine blk_drew ?_ | refine blk_alloc ?_ _)); exact BK425.out) Try.underlying65 rfl (by kernel_rfl)) rfl ?_
                              exact ⟨_, by first | rfl | (simp [errW_none, errW_some] <;> rfl) | (simp only [← hji32]; first | rfl | (simp [errW_none, errW_some] <;> rfl)) | (simp [*, errW_none, errW_some] <;> rfl), by (with_reducible repeat (first | apply Kd.R_alloc | apply Kd.R_drewN | apply Kd.R_drew)); exact Kd.R_mono (Kd.R_far (p := ⟨gb425, 3, none⟩) (Kd.R_far (p := ⟨gb425, 2, none⟩) (Kd.R_far (p := ⟨gb425, 1, none⟩) (Kd.R_far (p := ⟨gb425, 0, none⟩) (Kd.R_far (p := ⟨gb424, 1, none⟩) (Kd.R_far (p := ⟨gb424, 3, none⟩) (Kd.R_far (p := ⟨gb424, 0, none⟩) (Kd.R_types (Kd.R_types HO442.out BK424.out (by decide)) BK425.out (by decide)) (fun _ hk => hk.1.2) (.slice Ao45 y440.length co45)) (fun _ hk => hk.1.2) (.int .i64 (wrap64 (a0_3 + 1)))) (fun _ hk => hk.1.2) (.int .i64 (wrap64 (a0_1 - 1)))) (fun _ hk => hk.2) (.slice Ao45 y440.length co45)) (fun _ hk => hk.2) (.int .i64 (wrap64 (a0_1 - 1)))) (fun _ hk => hk.2) (.bool a0_2)) (fun _ hk => hk.2) (.int .i64 (wrap64 (a0_3 + 1)))) (fun _ hk => hk.1.1.1), by repeat (first | (with_reducible first | exact HB.out | apply below_alloc | apply pw_below_drewN | apply below_drew1 | refine below_set ?_ GE424.out | refine below_set ?_ GE425.out) | exact HB.out), by repeat (first | (with_reducible first | exact HK.out | apply Kept.alloc | apply Kept.drewN | apply Kept.drew | refine Kept.setCell ?_ (.inr GW424.out) _ | refine Kept.setCell ?_ (.inr GW425.out) _) | exact HK.out)⟩
                            · rw [if_neg c36] at H
                              have c36b0 : decide (0 < a0_1) = false := decide_eq_false c36
                              clear c36
                              simp only [Option.some.injEq, Prod.mk.injEq] at H
                              obtain ⟨rfl, rfl, rfl, rfl, rfl⟩ := H
                              have hnb48 := NB424_425.out
                              have hnc48 := NB425_424.out
                              have hcz49_0 : wc.cell? ⟨gb424, 0, none⟩ = some (.slice Ao5 l0_0.length co5) := (blk_cell BK424.out 0).trans rfl
                              have hcz49_1 : wc.cell? ⟨gb424, 1, none⟩ = some (.int .i64 a0_1) := (blk_cell BK424.out 1).trans rfl
                              have hcz49_2 : wc.cell? ⟨gb424, 2, none⟩ = some (.bool a0_2) := (blk_cell BK424.out 2).trans rfl
                              have hcz49_3 : wc.cell? ⟨gb424, 3, none⟩ = some (.int .i64 a0_3) := (blk_cell BK424.out 3).trans rfl
                              have hfz49_0 := blk_frozen BK424.out 0
                              have hfz49_1 := blk_frozen BK424.out 1
                              have hfz49_2 := blk_frozen BK424.out 2
                              have hfz49_3 := blk_frozen BK424.out 3
                              have q50 : (a1 : Int) ≤ ((l0_0.length : Int) : Int) := of_decide_eq_true (by first | (with_reducible assumption) | assumption)
                              obtain ⟨i050, hi050, _, hsz50, _⟩ := info_parts info9
                              have hroom50 : l0_0.length ≤ co5 := (Kd.R_reads' HO_425000.out).2.1
                              have hC50 : Kd.C Kd.string _ Ao5 l0_0.length l0_0 := (Kd.R_reads' HO_425000.out).2.2
                              have hcut50 := cut_to (P := Try.prog) 46 9 .i64 Try.underlying46 hi050 Ao5 l0_0.length co5 a1 (of_decide_eq_true (by first | (with_reducible assumption) | assumption)) q50 hroom50
                              have hr50 := Kd.C_take (m := (a1 : Int).toNat) hC50 (by omega)
                              have hy50 : y426.length = (a1 : Int).toNat := (by rw [Ny426.out, List.length_take]; omega)
                              rw [← Ny426.out] at hr50
                              rw [← hy50] at hcut50
                              have HR429 := Aside0.mk hr50
                              have HC429 := Aside0.mk (show y426.length ≤ co5 from by omega)
                              clear hr50 hC50 hroom50 hi050 hsz50
                              have KY50 := Aside0.mk hy50
                              clear hy50
                              have KL50 := Aside0.mk (show (a1 : Int).toNat ≤ l0_0.length from by omega)
                              replace q50 := eq_true q50
                              go_wp2_with (first | ((with_reducible refine gate_builtin (b := .append) (xs := #[.tmp 34, .tmp 38]) rfl ?_); (try (refine gate_guard (by rfl) ?_; dsimp only)); at_builtin; refine Kd.R_append_rows Kd.string (w0 := w0) w0.heap.size rfl (.tmp 34) (.tmp 38) 46 9 (.string ⟨#[]⟩) 16 rfl Try.underlying46 info9 rfl (by decide) (by omega) (.slice none 0 0) ([] : List ByteArray) y426 _ _ _ (fun k_ => (P0_0_ k_ ∨ w.heap.size ≤ k_) ∧ some k_ ≠ (.slice Ao5 l0_0.length co5 : Value).ownBlock) (fun _ => False) rfl rfl ?aO ?aR (fun _ _ h => h) (fun _ h => h.elim) ?aF ?aB ?aS ?aL ?_; (case aR => repeat (first | exact (by repeat (first | (with_reducible exact HR429.out) | (with_reducible refine Kd.C_alloc ?_ _) | (with_reducible refine Kd.C_drewN ?_ _) | (with_reducible refine Kd.C_drew ?_) | exact HR429.out)) | (with_reducible refine Kd.C_alloc ?_ _) | (with_reducible refine Kd.C_drewN ?_ _) | (with_reducible refine Kd.C_drew ?_))); (case aB => exact (by repeat (first | (with_reducible first | exact HB.out | apply below_alloc | apply pw_below_drewN | apply below_drew1 | refine below_set ?_ GE424.out | refine below_set ?_ GE425.out) | exact HB.out))); (case aF => exact (fun k_ hk => ⟨(.inr (Nat.le_trans (by first | exact HK.out.1 | exact (show Kept w _ (fun k_ => P0_0_ k_) from by repeat (first | (with_reducible first | exact HK.out | apply Kept.alloc | apply Kept.drewN | apply Kept.drew | refine Kept.setCell ?_ (.inr GW424.out) _ | refine Kept.setCell ?_ (.inr GW425.out) _) | exact HK.out)).1) hk)), Kd.fresh' (Kd.R_lt (by (with_reducible repeat (first | apply Kd.R_alloc | apply Kd.R_drewN | apply Kd.R_drew)); exact HO_425000.out)) k_ hk⟩)); (case aO => exact ((Kd.R_nil _ _ _ _ (fun k_ => (P0_0_ k_ ∨ w.heap.size ≤ k_) ∧ some k_ ≠ (.slice Ao5 l0_0.length co5 : Value).ownBlock)))); (case aS => exact (below_size (by repeat (first | (with_reducible first | exact HB.out | apply below_alloc | apply pw_below_drewN | apply below_drew1 | refine below_set ?_ GE424.out | refine below_set ?_ GE425.out) | exact HB.out)))); (case aL => have := LMc30.out; omega); intro v431 w51 ho hb hg hat; rw [← Ny430.out] at ho; have n0_ := Aside0.mk (Kd.R_after (Kd.R_apart_nil (by (with_reducible repeat (first | apply Kd.R_alloc | apply Kd.R_drewN | apply Kd.R_drew)); exact HO_425000.out)) hg hat); have n1_ := Aside0.mk (blk_grown (g := gb424) (o := .cells #[.slice Ao5 l0_0.length co5, .int .i64 a0_1, .bool a0_2, .int .i64 a0_3] 65 (0, 0)) (by (with_reducible repeat (first | refine blk_drewN ?_ _ | refine blk_drew ?_ | refine blk_alloc ?_ _)); exact BK424.out) hg (by simp [Value.ownBlock])); have n2_ := Aside0.mk (blk_grown (g := gb425) (o := .cells #[.slice none 0 0, .int .i64 0, .bool false, .int .i64 0] 65 (0, 0)) (by (with_reducible repeat (first | refine blk_drewN ?_ _ | refine blk_drew ?_ | refine blk_alloc ?_ _)); exact BK425.out) hg (by simp [Value.ownBlock])); have n3_ := Aside0.mk (hb); have n4_ := Aside0.mk (Kept.of_grown (S := (fun k_ => P0_0_ k_)) hg (by repeat (first | (with_reducible first | exact HK.out | apply Kept.alloc | apply Kept.drewN | apply Kept.drew | refine Kept.setCell ?_ (.inr GW424.out) _ | refine Kept.setCell ?_ (.inr GW425.out) _) | exact HK.out)) (fun k_ e_ => by simp [Value.ownBlock] at e_)); have n5_ := Aside0.mk ((show Kd.C Kd.string w51 Ao5 y426.length y426 from by rw [Ny426.out]; exact Kd.C_take (m := (a1 : Int).toNat) ((Kd.R_reads' (Kd.R_after (Kd.R_apart_nil (by (with_reducible repeat (first | apply Kd.R_alloc | apply Kd.R_drewN | apply Kd.R_drew)); exact HO_425000.out)) hg hat)).2.2) KL50.out)); have n6_ := Aside0.mk (ho); clear HO_425000; clear BK424; clear BK425; clear HB; clear HK; clear HR429; have HO_425000 := n0_; have BK424 := n1_; have BK425 := n2_; have HB := n3_; have HK := n4_; have HR429 := n5_; have HO432 := n6_; clear n0_ n1_ n2_ n3_ n4_ n5_ n6_; clear ho hb hg hat) | ((with_reducible refine gate_builtin (b := .append) (xs := #[.tmp 40, .tmp 42]) rfl ?_); (try (refine gate_guard (by rfl) ?_; dsimp only)); at_builtin; refine Kd.R_append Kd.string (w0 := w0) w0.heap.size rfl (.tmp 40) (.tmp 42) 46 9 (.string ⟨#[]⟩) 16 rfl Try.underlying46 info9 rfl (by decide) (by omega) v431 y430 a2 [.string a2] (fun k_ => (P0_0_ k_ ∨ w.heap.size ≤ k_) ∧ some k_ ≠ (.slice Ao5 l0_0.length co5 : Value).ownBlock) (fun _ => False) rfl rfl ?aP (fun _ hk => hk.elim) ?aF ?aO ?aB ?aS ?aL ?_; (case aP => exact rfl); (case aB => exact (by repeat (first | (with_reducible first | exact HB.out | apply below_alloc | apply pw_below_drewN | apply below_drew1 | refine below_set ?_ GE424.out | refine below_set ?_ GE425.out) | exact HB.out))); (case aF => exact (fun k_ hk => ⟨(.inr (Nat.le_trans (by first | exact HK.out.1 | exact (show Kept w _ (fun k_ => P0_0_ k_) from by repeat (first | (with_reducible first | exact HK.out | apply Kept.alloc | apply Kept.drewN | apply Kept.drew | refine Kept.setCell ?_ (.inr GW424.out) _ | refine Kept.setCell ?_ (.inr GW425.out) _) | exact HK.out)).1) hk)), Kd.fresh' (Kd.R_lt (by (with_reducible repeat (first | apply Kd.R_alloc | apply Kd.R_drewN | apply Kd.R_drew)); exact HO_425000.out)) k_ hk⟩)); (case aO => exact (by (with_reducible repeat (first | apply Kd.R_alloc | apply Kd.R_drewN | apply Kd.R_drew)); exact HO432.out)); (case aS => exact (below_size (by repeat (first | (with_reducible first | exact HB.out | apply below_alloc | apply pw_below_drewN | apply below_drew1 | refine below_set ?_ GE424.out | refine below_set ?_ GE425.out) | exact HB.out)))); (case aL => have := LMc31.out; omega); intro v434 w52 ho hb hg hat; rw [← Ny433.out] at ho; have n0_ := Aside0.mk (Kd.R_after (ok := (fun k_ => (P0_0_ k_ ∨ w.heap.size ≤ k_))) (by (with_reducible repeat (first | apply Kd.R_alloc | apply Kd.R_drewN | apply Kd.R_drew)); exact HO_425000.out) hg hat); have n1_ := Aside0.mk (blk_grown (g := gb424) (o := .cells #[.slice Ao5 l0_0.length co5, .int .i64 a0_1, .bool a0_2, .int .i64 a0_3] 65 (0, 0)) (by (with_reducible repeat (first | refine blk_drewN ?_ _ | refine blk_drew ?_ | refine blk_alloc ?_ _)); exact BK424.out) hg (Kd.R_ne HO432.out BK424.out (by decide))); have n2_ := Aside0.mk (blk_grown (g := gb425) (o := .cells #[.slice none 0 0, .int .i64 0, .bool false, .int .i64 0] 65 (0, 0)) (by (with_reducible repeat (first | refine blk_drewN ?_ _ | refine blk_drew ?_ | refine blk_alloc ?_ _)); exact BK425.out) hg (Kd.R_ne HO432.out BK425.out (by decide))); have n3_ := Aside0.mk (hb); have n4_ := Aside0.mk (Kept.of_grown (S := (fun k_ => P0_0_ k_)) hg (by repeat (first | (with_reducible first | exact HK.out | apply Kept.alloc | apply Kept.drewN | apply Kept.drew | refine Kept.setCell ?_ (.inr GW424.out) _ | refine Kept.setCell ?_ (.inr GW425.out) _) | exact HK.out)) (fun k_ e_ => (HO432.out.1 k_ e_).1)); have n5_ := Aside0.mk ((show Kd.C Kd.string w52 Ao5 y426.length y426 from by rw [Ny426.out]; exact Kd.C_take (m := (a1 : Int).toNat) ((Kd.R_reads' (Kd.R_after (ok := (fun k_ => (P0_0_ k_ ∨ w.heap.size ≤ k_))) (by (with_reducible repeat (first | apply Kd.R_alloc | apply Kd.R_drewN | apply Kd.R_drew)); exact HO_425000.out) hg hat)).2.2) KL50.out)); have n6_ := Aside0.mk (ho); clear HO_425000; clear BK424; clear BK425; clear HB; clear HK; clear HR429; clear HO432; have HO_425000 := n0_; have BK424 := n1_; have BK425 := n2_; have HB := n3_; have HK := n4_; have HR429 := n5_; have HO435 := n6_; clear n0_ n1_ n2_ n3_ n4_ n5_ n6_; clear ho hb hg hat; have hcz53_0 : w52.cell? ⟨gb424, 0, none⟩ = some (.slice Ao5 l0_0.length co5) := (blk_cell BK424.out 0).trans rfl; have hcz53_1 : w52.cell? ⟨gb424, 1, none⟩ = some (.int .i64 a0_1) := (blk_cell BK424.out 1).trans rfl; have hcz53_2 : w52.cell? ⟨gb424, 2, none⟩ = some (.bool a0_2) := (blk_cell BK424.out 2).trans rfl; have hcz53_3 : w52.cell? ⟨gb424, 3, none⟩ = some (.int .i64 a0_3) := (blk_cell BK424.out 3).trans rfl; have hfz53_0 := blk_frozen BK424.out 0; have hfz53_1 := blk_frozen BK424.out 1; have hfz53_2 := blk_frozen BK424.out 2; have hfz53_3 := blk_frozen BK424.out 3; have q54 : ((ji32) : Int) ≤ ((l0_0.length : Int) : Int) := of_decide_eq_true (by first | (with_reducible assumption) | assumption); obtain ⟨i054, hi054, _, hsz54, _⟩ := info_parts info9; have hroom54 : l0_0.length ≤ co5 := (Kd.R_reads' HO_425000.out).2.1; have hC54 : Kd.C Kd.string _ Ao5 l0_0.length l0_0 := (Kd.R_reads' HO_425000.out).2.2; have q054 : (0 : Int) ≤ ((ji32) : Int) := of_decide_eq_true (by first | (with_reducible assumption) | assumption); have hcut54 := cut_from (P := Try.prog) 46 9 .i64 Try.underlying46 hi054 1 hsz54 Ao5 l0_0.length co5 (ji32) q054 q54; have hr54 := Kd.C_drop (m := ((ji32) : Int).toNat) (c := co5) hC54 (by omega) hroom54; obtain ⟨A54, hA54⟩ : ∃ A1, A1 = (if co5 = ((ji32) : Int).toNat then Ao5 else (Ao5 : Option Addr).map (·.add (((ji32) : Int).toNat * 1))) := ⟨_, rfl⟩; obtain ⟨c54, hc54⟩ : ∃ c1, c1 = co5 - ((ji32) : Int).toNat := ⟨_, rfl⟩; have hy54 : y436.length = l0_0.length - ((ji32) : Int).toNat := (by rw [Ny436.out, List.length_drop] <;> omega); rw [show (l0_0).drop ((ji32) : Int).toNat = y436 from Ny436.out.symm] at hr54; replace hr54 : Kd.C Kd.string _ A54 y436.length y436 := (by rw [hA54]; exact hr54); rw [← hy54, ← hA54, ← hc54] at hcut54; have HR439 := Aside0.mk hr54; have HC439 := Aside0.mk (show y436.length ≤ c54 from by rw [hy54, hc54]; exact Nat.sub_le_sub_right hroom54 _); clear hr54 hC54 hroom54 hi054 hsz54 hc54; have KY54 := Aside0.mk hy54; have KA54 := Aside0.mk hA54; clear hy54 hA54; have KL54 := Aside0.mk (show ((ji32) : Int).toNat ≤ l0_0.length from by omega); replace q54 := eq_true q54) | ((with_reducible refine gate_builtin (b := .append) (xs := #[.tmp 44, .tmp 49]) rfl ?_); (try (refine gate_guard (by rfl) ?_; dsimp only)); at_builtin; refine Kd.R_append_rows Kd.string (w0 := w0) w0.heap.size rfl (.tmp 44) (.tmp 49) 46 9 (.string ⟨#[]⟩) 16 rfl Try.underlying46 info9 rfl (by decide) (by omega) v434 y433 y436 _ _ _ (fun k_ => (P0_0_ k_ ∨ w.heap.size ≤ k_) ∧ some k_ ≠ (.slice Ao5 l0_0.length co5 : Value).ownBlock) (fun _ => False) rfl rfl ?aO ?aR (fun _ _ h => h) (fun _ h => h.elim) ?aF ?aB ?aS ?aL ?_; (case aR => repeat (first | exact (by repeat (first | (with_reducible exact HR439.out) | (with_reducible refine Kd.C_alloc ?_ _) | (with_reducible refine Kd.C_drewN ?_ _) | (with_reducible refine Kd.C_drew ?_) | exact HR439.out)) | (with_reducible refine Kd.C_alloc ?_ _) | (with_reducible refine Kd.C_drewN ?_ _) | (with_reducible refine Kd.C_drew ?_))); (case aB => exact (by repeat (first | (with_reducible first | exact HB.out | apply below_alloc | apply pw_below_drewN | apply below_drew1 | refine below_set ?_ GE424.out | refine below_set ?_ GE425.out) | exact HB.out))); (case aF => exact (fun k_ hk => ⟨(.inr (Nat.le_trans (by first | exact HK.out.1 | exact (show Kept w _ (fun k_ => P0_0_ k_) from by repeat (first | (with_reducible first | exact HK.out | apply Kept.alloc | apply Kept.drewN | apply Kept.drew | refine Kept.setCell ?_ (.inr GW424.out) _ | refine Kept.setCell ?_ (.inr GW425.out) _) | exact HK.out)).1) hk)), Kd.fresh' (Kd.R_lt (by (with_reducible repeat (first | apply Kd.R_alloc | apply Kd.R_drewN | apply Kd.R_drew)); exact HO_425000.out)) k_ hk⟩)); (case aO => exact (by (with_reducible repeat (first | apply Kd.R_alloc | apply Kd.R_drewN | apply Kd.R_drew)); exact HO435.out)); (case aS => exact (below_size (by repeat (first | (with_reducible first | exact HB.out | apply below_alloc | apply pw_below_drewN | apply below_drew1 | refine below_set ?_ GE424.out | refine below_set ?_ GE425.out) | exact HB.out)))); (case aL => have := LMc35.out; omega); intro v441 w55 ho hb hg hat; rw [← Ny440.out] at ho; have n0_ := Aside0.mk (Kd.R_after (ok := (fun k_ => (P0_0_ k_ ∨ w.heap.size ≤ k_))) (by (with_reducible repeat (first | apply Kd.R_alloc | apply Kd.R_drewN | apply Kd.R_drew)); exact HO_425000.out) hg hat); have n1_ := Aside0.mk (blk_grown (g := gb424) (o := .cells #[.slice Ao5 l0_0.length co5, .int .i64 a0_1, .bool a0_2, .int .i64 a0_3] 65 (0, 0)) (by (with_reducible repeat (first | refine blk_drewN ?_ _ | refine blk_drew ?_ | refine blk_alloc ?_ _)); exact BK424.out) hg (Kd.R_ne HO435.out BK424.out (by decide))); have n2_ := Aside0.mk (blk_grown (g := gb425) (o := .cells #[.slice none 0 0, .int .i64 0, .bool false, .int .i64 0] 65 (0, 0)) (by (with_reducible repeat (first | refine blk_drewN ?_ _ | refine blk_drew ?_ | refine blk_alloc ?_ _)); exact BK425.out) hg (Kd.R_ne HO435.out BK425.out (by decide))); have n3_ := Aside0.mk (hb); have n4_ := Aside0.mk (Kept.of_grown (S := (fun k_ => P0_0_ k_)) hg (by repeat (first | (with_reducible first | exact HK.out | apply Kept.alloc | apply Kept.drewN | apply Kept.drew | refine Kept.setCell ?_ (.inr GW424.out) _ | refine Kept.setCell ?_ (.inr GW425.out) _) | exact HK.out)) (fun k_ e_ => (HO435.out.1 k_ e_).1)); have n5_ := Aside0.mk ((show Kd.C Kd.string w55 Ao5 y426.length y426 from by rw [Ny426.out]; exact Kd.C_take (m := (a1 : Int).toNat) ((Kd.R_reads' (Kd.R_after (ok := (fun k_ => (P0_0_ k_ ∨ w.heap.size ≤ k_))) (by (with_reducible repeat (first | apply Kd.R_alloc | apply Kd.R_drewN | apply Kd.R_drew)); exact HO_425000.out) hg hat)).2.2) KL50.out)); have n6_ := Aside0.mk ((show Kd.C Kd.string w55 A54 y436.length y436 from by rw [Ny436.out, KA54.out]; exact Kd.C_drop (m := ((ji32) : Int).toNat) (c := co5) ((Kd.R_reads' (Kd.R_after (ok := (fun k_ => (P0_0_ k_ ∨ w.heap.size ≤ k_))) (by (with_reducible repeat (first | apply Kd.R_alloc | apply Kd.R_drewN | apply Kd.R_drew)); exact HO_425000.out) hg hat)).2.2) KL54.out ((Kd.R_reads' (Kd.R_after (ok := (fun k_ => (P0_0_ k_ ∨ w.heap.size ≤ k_))) (by (with_reducible repeat (first | apply Kd.R_alloc | apply Kd.R_drewN | apply Kd.R_drew)); exact HO_425000.out) hg hat)).2.1))); have n7_ := Aside0.mk (ho); clear HO_425000; clear BK424; clear BK425; clear HB; clear HK; clear HR429; clear HR439; clear HO435; have HO_425000 := n0_; have BK424 := n1_; have BK425 := n2_; have HB := n3_; have HK := n4_; have HR429 := n5_; have HR439 := n6_; have HO442 := n7_; clear n0_ n1_ n2_ n3_ n4_ n5_ n6_ n7_; clear ho hb hg hat; obtain ⟨Ao56, co56, eo56⟩ := Kd.R_slice HO442.out; subst eo56; have hcz57_0 : w55.cell? ⟨gb424, 0, none⟩ = some (.slice Ao5 l0_0.length co5) := (blk_cell BK424.out 0).trans rfl; have hcz57_1 : w55.cell? ⟨gb424, 1, none⟩ = some (.int .i64 a0_1) := (blk_cell BK424.out 1).trans rfl; have hcz57_2 : w55.cell? ⟨gb424, 2, none⟩ = some (.bool a0_2) := (blk_cell BK424.out 2).trans rfl; have hcz57_3 : w55.cell? ⟨gb424, 3, none⟩ = some (.int .i64 a0_3) := (blk_cell BK424.out 3).trans rfl; have hfz57_0 := blk_frozen BK424.out 0; have hfz57_1 := blk_frozen BK424.out 1; have hfz57_2 := blk_frozen BK424.out 2; have hfz57_3 := blk_frozen BK424.out 3; have hcz58_0 : w55.cell? ⟨gb425, 0, none⟩ = some (.slice none 0 0) := (blk_cell BK425.out 0).trans rfl; have hcz58_1 : w55.cell? ⟨gb425, 1, none⟩ = some (.int .i64 0) := (blk_cell BK425.out 1).trans rfl; have hcz58_2 : w55.cell? ⟨gb425, 2, none⟩ = some (.bool false) := (blk_cell BK425.out 2).trans rfl; have hcz58_3 : w55.cell? ⟨gb425, 3, none⟩ = some (.int .i64 0) := (blk_cell BK425.out 3).trans rfl; have hfz58_0 := blk_frozen BK425.out 0; have hfz58_1 := blk_frozen BK425.out 1; have hfz58_2 := blk_frozen BK425.out 2; have hfz58_3 := blk_frozen BK425.out 3))
                              refine bodyPost_ret (results_ct rfl _ _ gb425 65 #[.slice Ao56 y440.length co56, .int .i64 a0_1, .bool a0_2, .int .i64 (wrap64 (a0_3 + 1))] (0, 0) _ rfl (by (with_reducible repeat (first | refine blk_drewN ?_ _ | refine blk_drew ?_ | refine blk_alloc ?_ _)); refine blk_put (cs := #[.slice Ao56 y440.length co56, .int .i64 a0_1, .bool a0_2, .int .i64 0]) ?_ 3 _ rfl; (with_reducible repeat (first | refine blk_drewN ?_ _ | refine blk_drew ?_ | refine blk_alloc ?_ _)); refine blk_put (cs := #[.slice Ao56 y440.length co56, .int .i64 a0_1, .bool false, .int .i64 0]) ?_ 2 _ rfl; (with_reducible repeat (first | refine blk_drewN ?_ _ | refine blk_drew ?_ | refine blk_alloc ?_ _)); refine blk_put (cs := #[.slice Ao56 y440.length co56, .int .i64 0, .bool false, .int .i64 0]) ?_ 1 _ rfl; (with_reducible repeat (first | refine blk_drewN ?_ _ | refine blk_drew ?_ | refine blk_alloc ?_ _)); refine blk_put (cs := #[.slice none 0 0, .int .i64 0, .bool false, .int .i64 0]) ?_ 0 _ rfl; (with_reducible repeat (first | refine blk_drewN ?_ _ | refine blk_drew ?_ | refine blk_alloc ?_ _)); refine blk_far ?_ NB425_424.out _; (with_reducible repeat (first | refine blk_drewN ?_ _ | refine blk_drew ?_ | refine blk_alloc ?_ _)); refine blk_far ?_ NB425_424.out _; (with_reducible repeat (first | refine blk_drewN ?_ _ | refine blk_drew ?_ | refine blk_alloc ?_ _)); exact BK425.out) Try.underlying65 rfl (by kernel_rfl)) rfl ?_
                              exact ⟨_, by first | rfl | (simp [errW_none, errW_some] <;> rfl) | (simp only [← hji32]; first | rfl | (simp [errW_none, errW_some] <;> rfl)) | (simp [*, errW_none, errW_some] <;> rfl), by (with_reducible repeat (first | apply Kd.R_alloc | apply Kd.R_drewN | apply Kd.R_drew)); exact Kd.R_mono (Kd.R_far (p := ⟨gb425, 3, none⟩) (Kd.R_far (p := ⟨gb425, 2, none⟩) (Kd.R_far (p := ⟨gb425, 1, none⟩) (Kd.R_far (p := ⟨gb425, 0, none⟩) (Kd.R_far (p := ⟨gb424, 3, none⟩) (Kd.R_far (p := ⟨gb424, 0, none⟩) (Kd.R_types (Kd.R_types HO442.out BK424.out (by decide)) BK425.out (by decide)) (fun _ hk => hk.1.2) (.slice Ao56 y440.length co56)) (fun _ hk => hk.1.2) (.int .i64 (wrap64 (a0_3 + 1)))) (fun _ hk => hk.2) (.slice Ao56 y440.length co56)) (fun _ hk => hk.2) (.int .i64 a0_1)) (fun _ hk => hk.2) (.bool a0_2)) (fun _ hk => hk.2) (.int .i64 (wrap64 (a0_3 + 1)))) (fun _ hk => hk.1.1.1), by repeat (first | (with_reducible first | exact HB.out | apply below_alloc | apply pw_below_drewN | apply below_drew1 | refine below_set ?_ GE424.out | refine below_set ?_ GE425.out) | exact HB.out), by repeat (first | (with_reducible first | exact HK.out | apply Kept.alloc | apply Kept.drewN | apply Kept.drew | refine Kept.setCell ?_ (.inr GW424.out) _ | refine Kept.setCell ?_ (.inr GW425.out) _) | exact HK.out)⟩
                          · rw [if_neg c35] at H
                            exact absurd H (by simp)
                        · rw [if_neg c34] at H
                          exact absurd H (by simp)
                      · rw [if_neg c33] at H
                        exact absurd H (by simp)
                    · rw [if_neg c31] at H
                      exact absurd H (by simp)
                  · rw [if_neg c30] at H
                    exact absurd H (by simp)
                · rw [if_neg c29] at H
                  exact absurd H (by simp)
              · rw [if_neg c28] at H
                exact absurd H (by simp)
end Go.Proofs.Ytbkbganflnemeaa.Pr
end

section
namespace Go.Proofs.Ytbkbganflnemeaa.Pr
open Go.RowKit Go.Deep Go.Maps Go.Proofs.YtbkbganflnemeaaW.PrintWords Go.Proofs.YtbkbganflnemeaaW.PrintLast Go.Proofs.YtbkbganflnemeaaW.PrintMore
set_option maxHeartbeats 8000000
set_option linter.unusedVariables false
set_option linter.unusedSimpArgs false
theorem rNew8 : samphireref17_New.f 20 8 = some (List.replicate 8 zblk, -1, false, 0, 0) := by
  decide +kernel
theorem rWrite_f (L : List ByteArray) (n : Int) (i : Nat) (s : ByteArray) (hi : i < L.length) (hL : L.length ≤ 4096) (hs : s.size = 64) (hn : 0 ≤ n ∧ n < 1000) : samphireref17_Write.f 5 L (-1) false n (i : Int) s = some (L.set i s, -1, false, n + 1, 0) := by
  have w1 : wrap64 ((i : Int) + 1) = ((i + 1 : Nat) : Int) := by unfold wrap64; omega
  have w2 : wrap64 (n + 1) = n + 1 := by unfold wrap64; omega
  have e : ((s.size : Int) != 64) = false := by rw [bne_eq_false_iff_eq]; omega
  have hset : L.take i ++ [s] ++ L.drop (i + 1) = L.set i s := by
    rw [List.set_eq_take_append_cons_drop, if_pos hi]
    simp
  unfold samphireref17_Write.f
  rw [if_neg (by omega), if_neg (by omega), e]
  simp only [samphireref17_Write.j0, samphireref17_Write.j1]
  rw [w1, w2]
  simp only [Int.toNat_natCast, Option.bind_some, List.nil_append, List.length_nil, Nat.zero_add]
  simp only [Bool.false_eq_true, if_false, show ((-1 : Int) == 0) = false from rfl]
  rw [if_pos (by omega), if_pos (by omega), if_pos (by rw [List.length_take]; omega), if_pos (by rw [List.length_take]; omega), if_pos (by omega), if_pos (by omega), if_pos (by rw [List.length_append, List.length_take, List.length_drop, List.length_singleton]; omega), if_neg (by decide), hset]
theorem ownlow {w : World} {B B' : Nat} {e : TypeId} {size n : Nat} {v : Value} {xs : List Value} (h : w.ownsRow B e size v n xs) (hb : B' ≤ B) : w.ownsRow B' e size v n xs := by
  obtain ⟨h1, h2⟩ := h
  refine ⟨h1, ?_⟩
  rcases h2 with h2 | ⟨g, cap, cur, rfl, hg, r⟩
  · exact .inl h2
  · exact .inr ⟨g, cap, cur, rfl, Nat.le_trans hb hg, r⟩
theorem Sl_own {B : Nat} {v : Value} {l : List ByteArray} {w : World} (h : w.ownsRow B 9 1 v l.length (l.map Value.string)) (hz : l.length ≤ 1000000) : Sl B v l w := by
  obtain ⟨_, ⟨h1, h2⟩ | ⟨g, cap, cur, h1, h2, h3, h4, _, h5, h6⟩⟩ := h
  · exact .inl ⟨h1, List.length_eq_zero_iff.1 h2⟩
  · refine .inr ⟨g, 0, cap, cur, h1, h2, h3, ⟨h4, hz⟩, fun j y hj => ?_⟩
    have hl : j < l.length := (List.getElem?_eq_some_iff.1 hj).1
    have e : (cur.toList.take (l.length * 1))[j]? = some (.string y) := by rw [h6, List.getElem?_map, hj]; rfl
    rw [List.getElem?_take, if_pos (by omega)] at e
    rw [Nat.zero_add]
    simpa using e
theorem half_rng (L : List ByteArray) (which : Nat) (hw : which ≤ 1) (h64 : ∀ x ∈ L, x.size = 64) (q : StoR) (h : halfP which (catL (halfB which L)) = some q) : q.2.2.length ≤ 64 * L.length ∧ 0 ≤ q.1 ∧ q.1 ≤ 1099511627775 := by
  obtain ⟨t, b, l⟩ := q
  obtain ⟨h1, h2, _, h4, h5, _, h7, _⟩ := halfP_inv h
  have hlt : ∀ x ∈ catL (halfB which L), x < 256 := fun x hx => by
    obtain ⟨y, _, hy⟩ := List.mem_flatMap.1 hx
    exact bys_lt' _ _ hy
  have hb : ∀ x ∈ b, x < 256 := fun x hx => by
    rw [h4] at hx
    exact hlt x (List.mem_of_mem_drop (List.mem_of_mem_take hx))
  obtain ⟨p1, _⟩ := parseP_inv _ b l hb h7
  have hc := catL_length _ (fun x hx => h64 x (halfB_mem (which := which) hx))
  rw [halfB_length L which hw] at hc
  have hl : l.length ≤ b.length := by rw [p1]; exact txsB_len l
  show l.length ≤ 64 * L.length ∧ 0 ≤ t ∧ t ≤ 1099511627775
  exact ⟨by omega, by omega, h2⟩
theorem best_rng (L : List ByteArray) (h64 : ∀ x ∈ L, x.size = 64) : (bestP L 2).2.2.length ≤ 64 * L.length ∧ 0 ≤ (bestP L 2).1 ∧ (bestP L 2).1 ≤ 1099511627775 := by
  have one : ∀ (b : StoR) (which : Nat), which ≤ 1 → (b.2.2.length ≤ 64 * L.length ∧ 0 ≤ b.1 ∧ b.1 ≤ 1099511627775) → ((better b (halfP which (catL (halfB which L)))).2.2.length ≤ 64 * L.length ∧ 0 ≤ (better b (halfP which (catL (halfB which L)))).1 ∧ (better b (halfP which (catL (halfB which L)))).1 ≤ 1099511627775) := fun b which hw hb => by
    unfold better
    cases h : halfP which (catL (halfB which L)) with
    | none => exact hb
    | some q =>
      have hq := half_rng L which hw h64 q h
      by_cases hc : b.1 < q.1
      · simp only [hc, if_true]; exact hq
      · simp only [hc, if_false]; exact hb
  rw [best_two]
  exact one _ 1 (by decide) (one _ 0 (by decide) ⟨by simp, by decide, by decide⟩)
theorem and_7q (n : Int) : bits .and .i64 n 7 = n % 8 := by
  have h127 : (BitVec.ofInt 64 7).toNat = 2 ^ 3 - 1 := by decide
  have key : (BitVec.ofInt 64 n &&& BitVec.ofInt 64 7).toNat = (n % ((2 ^ 64 : Nat) : Int)).toNat % 2 ^ 3 := by
    rw [BitVec.toNat_and, BitVec.toNat_ofInt, h127, Nat.and_two_pow_sub_one_eq_mod]
  show IntKind.i64.wrap ((BitVec.ofInt 64 n &&& BitVec.ofInt 64 7).toNat : Nat) = n % 8
  rw [key, IntKind.wrap_i64]
  omega
theorem DevAt.farB {d g p : Nat} {L : List ByteArray} {f nw : Int} {o : Bool} {w : World} (h : DevAt d g L f o nw w) (hd : d ≠ p) (hg : g ≠ p) (j : Nat) (u : Value) : DevAt d g L f o nw (w.setCell ⟨p, j, none⟩ u) :=
  ⟨(Below.heap_setCell w ⟨p, j, none⟩ u d hd).trans h.box, (Below.heap_setCell w ⟨p, j, none⟩ u g hg).trans h.row, h.siz⟩
theorem DevAt.kept {d g : Nat} {L : List ByteArray} {f nw : Int} {o : Bool} {w w' : World} {S : Nat → Prop} (h : DevAt d g L f o nw w) (hk : Kept w w' S) (h1 : ¬ S d) (h2 : ¬ S g) : DevAt d g L f o nw w' := ⟨blk_kept h.box hk h1, blk_kept h.row hk h2, h.siz⟩
theorem DevAt.farQ {d g s : Nat} {L : List ByteArray} {f nw : Int} {o : Bool} {w : World} {cs : Array Value} (h : DevAt d g L f o nw w) (hs : w.heap[s]? = some (.cells cs 65 (0, 0))) (j : Nat) (u : Value) : DevAt d g L f o nw (w.setCell ⟨s, j, none⟩ u) := by
  refine ⟨(Below.heap_setCell w ⟨s, j, none⟩ u d (fun e => ?_)).trans h.box, (Below.heap_setCell w ⟨s, j, none⟩ u g (fun e => ?_)).trans h.row, h.siz⟩
  · have hb := h.box
    have e2 : d = s := e
    rw [e2, hs] at hb
    injection hb with hb
    injection hb with _ h3 _
    exact absurd h3 (by decide)
  · have hb := h.row
    have e2 : g = s := e
    rw [e2, hs] at hb
    injection hb with hb
    injection hb with _ h3 _
    exact absurd h3 (by decide)
theorem own_setQ {B n q : Nat} {v : Value} {xs : List Value} {w : World} {cs : Array Value} (ho : w.ownsRow B 9 1 v n xs) (hs : w.heap[q]? = some (.cells cs 65 (0, 0))) (j : Nat) (u : Value) : (w.setCell ⟨q, j, none⟩ u).ownsRow B 9 1 v n xs :=
  own_move ho fun z hz => Below.heap_setCell w ⟨q, j, none⟩ u z (fun e => Go.Proofs.YtbkbganflnemeaaW.PrintWords.own_ne ho hs (by decide) (by rw [hz]; exact congrArg some (show q = z from (show z = q from e).symm)))
set_option maxRecDepth 100000 in
theorem spoilt_calls (bytes text : ByteArray) (at_ : Int) (w : World) : Calls Try.prog 12 #[.string bytes, .string text, .int .i64 at_] w fun e w' => e = .returned (.bool true) ∧ Below w.heap.size w w' := by
  by_cases hsz : bytes.size ≤ 512 ∧ text.size ≤ 100
  case neg =>
    by_cases h5 : bytes.size ≤ 512
    case' pos =>
      have d1 : decide (512 < (bytes.size : Int)) = false := decide_eq_false (by omega)
      have d1b : decide (512 < bytes.size) = false := decide_eq_false (by omega)
      have d2 : decide (100 < (text.size : Int)) = true := decide_eq_true (by omega)
      have d2b : decide (100 < text.size) = true := decide_eq_true (by omega)
    case' neg =>
      have d1 : decide (512 < (bytes.size : Int)) = true := decide_eq_true (by omega)
      have d1b : decide (512 < bytes.size) = true := decide_eq_true (by omega)
    all_goals
      clear hsz h5
      go_enter Try.func12, Try.ntmps12
      go_wp2_with (fail)
      refine (sawake_calls _).mono ?_
      rintro e w14 ⟨rfl, hb⟩
      go_wp2_with (fail)
      go_ret
      exact ⟨rfl, hb⟩
  have d1 : decide (512 < (bytes.size : Int)) = false := decide_eq_false (by omega)
  have d1b : decide (512 < bytes.size) = false := decide_eq_false (by omega)
  have d2 : decide (100 < (text.size : Int)) = false := decide_eq_false (by omega)
  have d2b : decide (100 < text.size) = false := decide_eq_false (by omega)
  have HSZ := Aside0.mk hsz
  clear hsz
  go_enter Try.func12, Try.ntmps12
  go_wp2_with (fail)
  refine (New_dev 8 (by decide) (by decide) w).mono ?_
  rintro e w1 ⟨rfl, hD, hb⟩
  have HD1 := Aside0.mk hD
  have HB1 := Aside0.mk hb
  clear hD hb d1 d1b d2 d2b
  go_wp2_with (fail)
  refine (samphireref17_New.calls 20 8 _ _ _ _ _ w1 rNew8).mono ?_
  rintro e w2 ⟨v0, rfl, hR, hb⟩
  have HR2 := Aside0.mk (Kd.own_of_R hR)
  obtain ⟨A0, c0, rfl⟩ := own_slice HR2.out
  have HD2 := Aside0.mk (HD1.out.below hb)
  have HB2 := Aside0.mk (show Below w.heap.size w w2 from below_then HB1.out HB1.out.size hb)
  clear hR hb HD1
  obtain ⟨n, hn⟩ : ∃ n : Nat, 512 - bytes.size = n := ⟨_, rfl⟩
  have hbs := HSZ.out.1
  have e1 : (512 : Int) - (bytes.size : Int) = (n : Int) := by omega
  have hmk : ∀ W : World, (Instr.makeSlice 68 (.int .i64 (n : Int)) (.int .i64 (n : Int))).run Try.prog W = .ok (.slice (some ⟨W.heap.size, 0, none⟩) n n) (W.alloc (.cells (madeCells #[.int .u8 0] n) 5)) := print_make 68 5 .u8 1 Try.underlying68 info5 (by decide) n (by omega)
  have hcv : ∀ W : World, (convert 68 9 (.slice (some ⟨W.heap.size, 0, none⟩) n n)).run Try.prog (W.alloc (.cells (madeCells #[.int .u8 0] n) 5)) = .ok (.string (txt (List.replicate n 0))) (W.alloc (.cells (madeCells #[.int .u8 0] n) 5)) := fun W => by
    rw [← strZ]
    exact own_string Try.underlying68 Try.underlying5 Try.underlying9 (own_made W W.heap.size 5 .u8 n (Nat.le_refl _) (by omega))
  have hz : (9223372036854775807 < bytes.size + (txt (List.replicate n 0)).size) = False := eq_false (by rw [txt_size, List.length_replicate]; omega)
  have hz2 : bytes.size + (txt (List.replicate n 0)).size ≤ 9223372036854775807 := by rw [txt_size, List.length_replicate]; omega
  have HAL : Aside0 ((bytes ++ txt (List.replicate n 0)).size = 512) := ⟨by rw [ByteArray.size_append, txt_size, List.length_replicate]; omega⟩
  have hcv2 := hcv (w2.alloc (.cells #[.slice A0 8 c0, .int .i64 (-1), .bool false, .int .i64 0] 65))
  rw [show (w2.alloc (.cells #[.slice A0 8 c0, .int .i64 (-1), .bool false, .int .i64 0] 65)).heap.size = w2.heap.size + 1 from Array.size_push _] at hcv2
  clear hn hbs hcv
  generalize txt (List.replicate n 0) = Z at *
  have HAB : Aside0 (bytes.size ≤ 512) := ⟨HSZ.out.1⟩
  go_wp2_with (fail)
  generalize bytes ++ Z = all at *
  have hba := below_alloc (below_alloc (Below.refl w2.heap.size w2) (.cells #[.slice A0 8 c0, .int .i64 (-1), .bool false, .int .i64 0] 65)) (.cells (madeCells #[.int .u8 0] n) 5)
  have HQ3 : Aside0 (((w2.alloc (.cells #[.slice A0 8 c0, .int .i64 (-1), .bool false, .int .i64 0] 65)).alloc (.cells (madeCells #[.int .u8 0] n) 5)).heap[w2.heap.size]? = some (.cells #[.slice A0 8 c0, .int .i64 (-1), .bool false, .int .i64 0] 65 (0, 0))) := ⟨blk_alloc (blk_new _ _) _⟩
  have HD3 := Aside0.mk (HD2.out.below hba)
  have HR3 : Aside0 (((w2.alloc (.cells #[.slice A0 8 c0, .int .i64 (-1), .bool false, .int .i64 0] 65)).alloc (.cells (madeCells #[.int .u8 0] n) 5)).ownsRow w.heap.size 9 1 (.slice A0 8 c0) 8 ((List.replicate 8 zblk).map Value.string)) := ⟨pw_own_below (ownlow HR2.out HB1.out.size) hba⟩
  have HB3 := Aside0.mk (show Below w.heap.size w _ from below_then HB2.out HB2.out.size hba)
  have HQZ : Aside0 (w.heap.size ≤ w2.heap.size) := ⟨HB2.out.size⟩
  clear hba hmk hcv2 hz hz2 e1 HR2 HD2 HB2 HB1
  generalize ((w2.alloc (.cells #[.slice A0 8 c0, .int .i64 (-1), .bool false, .int .i64 0] 65)).alloc (.cells (madeCells #[.int .u8 0] n) 5)) = w3 at *
  generalize w2.heap.size = q at *
  go_loopw [12] (fun i wr => ∃ (k : Nat) (L : List ByteArray) (nw nn : Int) (A : Option Addr) (c : Nat), k ≤ 8 ∧ i = .int .i64 (k : Int) ∧ Aside0 (L.length = 8 ∧ 0 ≤ nn ∧ nn ≤ (k : Int)) ∧ Aside0 (DevAt (w.heap.size + 1) w.heap.size L (-1) false nw wr) ∧ Aside0 (wr.heap[q]? = some (.cells #[.slice A 8 c, .int .i64 (-1), .bool false, .int .i64 nn] 65 (0, 0))) ∧ Aside0 (wr.ownsRow w.heap.size 9 1 (.slice A 8 c) 8 (L.map Value.string)) ∧ Aside0 (Below w.heap.size w wr)) (fun i _ => 8 - (intOf i).toNat)
  case atStart => exact ⟨0, List.replicate 8 zblk, 0, 0, A0, c0, by omega, rfl, ⟨⟨rfl, by decide, by decide⟩⟩, HD3, HQ3, HR3, HB3⟩
  case round =>
    clear HD3 HQ3 HR3 HB3
    obtain ⟨k, L, nw, nn, A, c, hk, rfl, HL, HD, HQ, HR, HB⟩ := hrel
    have q0 := cellX HQ.out 0 _ rfl
    have q1 := cellX HQ.out 1 _ rfl
    have q2 := cellX HQ.out 2 _ rfl
    have q3 := cellX HQ.out 3 _ rfl
    by_cases hlt : k < 8
    · have d1 : decide (k < 8) = true := decide_eq_true hlt
      have d1i : decide ((k : Int) < 8) = true := decide_eq_true (by omega)
      have s1 := eq_true (show 64 * k + 64 ≤ all.size by have := HAL.out; omega)
      have s1i := eq_true (show 64 * (k : Int) + 64 ≤ (all.size : Int) by have := HAL.out; omega)
      have s2i := eq_true (show 64 * (k : Int) ≤ 64 * (k : Int) + 64 by omega)
      have s3i := eq_true (show (0 : Int) ≤ 64 * (k : Int) by omega)
      have t1 : (64 * (k : Int)).toNat = 64 * k := by omega
      have t2 : (64 * (k : Int) + 64).toNat = 64 * k + 64 := by omega
      have hsz : (all.extract (64 * k) (64 * k + 64)).size = 64 := by rw [ByteArray.size_extract]; have := HAL.out; omega
      have hrw := samphireref17_Write.calls 5 (fun z => (Value.slice A 8 c).ownBlock = some z) (.slice A 8 c) L (-1) false nn (k : Int) (all.extract (64 * k) (64 * k + 64)) _ _ _ _ _ w wr HB.out (Kd.R_of_own (by rw [HL.out.1]; exact HR.out) (fun _ h => h)) (rWrite_f L nn k (all.extract (64 * k) (64 * k + 64)) (by rw [HL.out.1]; exact hlt) (by rw [HL.out.1]; decide) hsz ⟨HL.out.2.1, by have := HL.out.2.2; omega⟩)
      have HRW := Aside0.mk hrw
      have HSZ2 := Aside0.mk hsz
      have HKK : Aside0 (k < 8) := ⟨hlt⟩
      clear hrw hsz hlt
      go_wp2_with (fail)
      refine HRW.out.mono ?_
      rintro e w4 ⟨v0, rfl, hR, hb, hkp⟩
      have hl4 : (L.set k (all.extract (64 * k) (64 * k + 64))).length = 8 := by rw [List.length_set]; exact HL.out.1
      have hR4 := Kd.own_of_R hR
      rw [hl4] at hR4
      obtain ⟨A4, c4, rfl⟩ := own_slice hR4
      have HR4 : Aside0 (w4.ownsRow w.heap.size 9 1 (.slice A4 8 c4) 8 ((L.set k (all.extract (64 * k) (64 * k + 64))).map Value.string)) := ⟨hR4⟩
      have HNO : Aside0 (∀ z, (Value.slice A4 8 c4).ownBlock = some z → ((Value.slice A 8 c).ownBlock = some z ∨ wr.heap.size ≤ z)) := ⟨hR.1⟩
      have HD4 := Aside0.mk (HD.out.kept hkp (fun h => Go.Proofs.YtbkbganflnemeaaW.PrintWords.own_ne HR.out HD.out.box (by decide) h.symm) (fun h => Go.Proofs.YtbkbganflnemeaaW.PrintWords.own_ne HR.out HD.out.row (by decide) h.symm))
      have HQ4 := Aside0.mk (blk_kept HQ.out hkp (fun h => Go.Proofs.YtbkbganflnemeaaW.PrintWords.own_ne HR.out HQ.out (by decide) h.symm))
      have HB4 := Aside0.mk hb
      have HL4 := Aside0.mk hl4
      clear hR hb hkp hl4 hR4 HRW HR HD HQ HB q0 q1 q2 q3 d1 d1i s1 s1i s2i s3i t1 t2
      generalize all.extract (64 * k) (64 * k + 64) = blk at *
      go_wp2_with (fail)
      have hba := below_alloc (Below.refl w4.heap.size w4) (.cells #[.slice A4 8 c4, .int .i64 (-1), .bool false, .int .i64 (nn + 1)] 65)
      have HQ5 := Aside0.mk ((hba.block q (blk_lt HQ4.out)).trans HQ4.out)
      have HN5 : Aside0 ((w4.alloc (.cells #[.slice A4 8 c4, .int .i64 (-1), .bool false, .int .i64 (nn + 1)] 65)).heap[w4.heap.size]? = some (.cells #[.slice A4 8 c4, .int .i64 (-1), .bool false, .int .i64 (nn + 1)] 65 (0, 0))) := ⟨blk_new _ _⟩
      have HD5 := Aside0.mk (HD4.out.below hba)
      have HR5 := Aside0.mk (pw_own_below HR4.out hba)
      have HB5 := Aside0.mk (show Below w.heap.size w _ from below_then HB4.out HB4.out.size hba)
      have HNE : Aside0 (w4.heap.size ≠ q) := ⟨fun e => Nat.lt_irrefl _ (e ▸ blk_lt HQ4.out)⟩
      clear hba HQ4 HD4 HR4 HB4
      generalize w4.heap.size = q5 at *
      generalize w4.alloc (.cells #[.slice A4 8 c4, .int .i64 (-1), .bool false, .int .i64 (nn + 1)] 65) = w5 at *
      have hwr := Write_on _ _ L (-1) nw k blk w5 HD5.out (by rw [HL.out.1]; have := HKK.out; omega) HSZ2.out (by decide)
      refine hwr.mono ?_
      rintro e w6 ⟨rfl, ⟨nw6, hd⟩, hf⟩
      have HD6 : Aside0 (DevAt (w.heap.size + 1) w.heap.size (L.set k blk) (-1) false nw6 w6) := ⟨hd⟩
      have HQ6 := Aside0.mk (HD5.out.keep hf HQ5.out (by decide) (by decide))
      have HN6 := Aside0.mk (HD5.out.keep hf HN5.out (by decide) (by decide))
      have HR6 : Aside0 (w6.ownsRow w.heap.size 9 1 (.slice A4 8 c4) 8 ((L.set k blk).map Value.string)) := ⟨own_move HR5.out fun z hz => hf.2.2.2.2 z (own_lt HR5.out z hz) (fun e => Go.Proofs.YtbkbganflnemeaaW.PrintWords.own_ne HR5.out HD5.out.box (by decide) (by rw [hz, e])) (fun e => Go.Proofs.YtbkbganflnemeaaW.PrintWords.own_ne HR5.out HD5.out.row (by decide) (by rw [hz, e]))⟩
      have HB6 : Aside0 (Below w.heap.size w w6) := ⟨HB5.out.trans ((FrS.of_frv (s := w.heap.size) hf).below (by omega) (Nat.le_refl _) (Nat.le_refl _) HB5.out.size)⟩
      clear hwr hd hf HD5 HQ5 HN5 HR5 HB5
      have q0 := cellX HN6.out 0 _ rfl
      have q1 := cellX HN6.out 1 _ rfl
      have q2 := cellX HN6.out 2 _ rfl
      have q3 := cellX HN6.out 3 _ rfl
      have p0 := cellX HQ6.out 0 _ rfl
      have p1 := cellX HQ6.out 1 _ rfl
      have p2 := cellX HQ6.out 2 _ rfl
      have p3 := cellX HQ6.out 3 _ rfl
      have f0 := blk_thaw HQ6.out 0
      have f1 := blk_thaw HQ6.out 1
      have f2 := blk_thaw HQ6.out 2
      have f3 := blk_thaw HQ6.out 3
      have w1 : wrap64 ((k : Int) + 1) = ((k + 1 : Nat) : Int) := by have := HKK.out; unfold wrap64; omega
      have p0' := blk_put HQ6.out 0 (.slice A4 8 c4) rfl
      have p1' := blk_put p0' 1 (.int .i64 (-1)) rfl
      have p2' := blk_put p1' 2 (.bool false) rfl
      have p3' := blk_put p2' 3 (.int .i64 (nn + 1)) rfl
      have HQE : Aside0 (((((w6.setCell ⟨q, 0, none⟩ (.slice A4 8 c4)).setCell ⟨q, 1, none⟩ (.int .i64 (-1))).setCell ⟨q, 2, none⟩ (.bool false)).setCell ⟨q, 3, none⟩ (.int .i64 (nn + 1))).heap[q]? = some (.cells #[.slice A4 8 c4, .int .i64 (-1), .bool false, .int .i64 (nn + 1)] 65 (0, 0))) := ⟨p3'⟩
      have HDE := Aside0.mk ((((HD6.out.farQ HQ6.out 0 (.slice A4 8 c4)).farQ p0' 1 (.int .i64 (-1))).farQ p1' 2 (.bool false)).farQ p2' 3 (.int .i64 (nn + 1)))
      have HRE := Aside0.mk (own_setQ (own_setQ (own_setQ (own_setQ HR6.out HQ6.out 0 (.slice A4 8 c4)) p0' 1 (.int .i64 (-1))) p1' 2 (.bool false)) p2' 3 (.int .i64 (nn + 1)))
      have HBE := Aside0.mk ((((HB6.out.setCell (p := ⟨q, 0, none⟩) HQZ.out (.slice A4 8 c4)).setCell (p := ⟨q, 1, none⟩) HQZ.out (.int .i64 (-1))).setCell (p := ⟨q, 2, none⟩) HQZ.out (.bool false)).setCell (p := ⟨q, 3, none⟩) HQZ.out (.int .i64 (nn + 1)))
      clear p0' p1' p2' p3'
      go_wp2_with (fail)
      clear q0 q1 q2 q3 p0 p1 p2 p3 f0 f1 f2 f3 HQ6 HN6 HR6 HD6 HB6
      refine ⟨⟨k + 1, L.set k blk, nw6, nn + 1, A4, c4, by have := HKK.out; omega, by go_num, ⟨HL4.out, by have := HL.out.2.1; omega, by have := HL.out.2.2; omega⟩, HDE, HQE, HRE, HBE⟩, ?_⟩
      have := HKK.out
      simp [intOf]
      omega
    · have d1 : decide (k < 8) = false := decide_eq_false hlt
      have d1i : decide ((k : Int) < 8) = false := decide_eq_false (by omega)
      clear hk hlt HAL
      go_wp2_with (fail)
      have hba := below_alloc (Below.refl wr.heap.size wr) (.cells #[.pointer (some ⟨w.heap.size + 1, 0, none⟩), .pointer none, .slice A 8 c, .int .i64 (-1), .bool false, .int .i64 nn, .string ⟨#[]⟩, .slice none 0 0, .int .i64 0, .string ⟨#[]⟩] 75)
      have hrng := best_rng L HD.out.siz
      have hop := opens_calls wr.heap.size (w.heap.size + 1) w.heap.size none L (-1) nw (-1) nn false false A none c 0 0 ⟨#[]⟩ ⟨#[]⟩ 0 _ (by rw [HL.out.1]; exact blk_new _ _) (HD.out.below hba) w.heap.size (Sl_own (by rw [HL.out.1]; exact pw_own_below HR.out hba) (by rw [HL.out.1]; decide)) (by rw [HL.out.1]; decide) (by rw [HL.out.1]; decide) (by rw [HL.out.1] at hrng; omega)
      refine hop.mono ?_
      rintro e w5 ⟨rfl, s, B5, nw5, bv5, hX, hD, hS, _, hB5, hf⟩
      have HX5 := Aside0.mk hX
      have HD5 := Aside0.mk hD
      have HS5 := Aside0.mk hS
      have HRN := Aside0.mk hrng.2
      have HB5 : Aside0 (Below w.heap.size w w5) := ⟨(show Below w.heap.size w _ from below_then HB.out HB.out.size hba).trans (hf.below (by omega) (Nat.le_refl _) HB.out.size (Nat.le_trans HB.out.size hba.size))⟩
      have HS6 : Aside0 (w.heap.size ≤ s) := ⟨Nat.le_trans (Nat.le_trans HB.out.size (Nat.le_trans hba.size hB5)) (by obtain ⟨v, h⟩ := hS; exact h.1)⟩
      have HL8 : Aside0 (L.length = 8) := ⟨HL.out.1⟩
      clear hop hrng hX hD hS hf hB5 hba HD HQ HR HB q0 q1 q2 q3 d1 d1i HL HQZ
      unfold SideAt at HX5
      generalize wr.heap.size = gx at *
      have HBE := Aside0.mk (show bestP L 2 = ((bestP L 2).1, (bestP L 2).2.1, (bestP L 2).2.2) from rfl)
      generalize (bestP L 2).2.2 = ll at *
      generalize (bestP L 2).2.1 = bb at *
      generalize (bestP L 2).1 = t at *
      have x1 := cellX HX5.out 1 _ rfl
      go_wp2_with (fail)
      by_cases ht : t < 1099511627775
      case neg =>
        refine (Lay_late B5 s _ ll (txt bb) t text w5 HS5.out (by omega)).mono ?_
        rintro e w6 ⟨rfl, rfl⟩
        go_wp2_with (fail)
        refine (sawake_calls _).mono ?_
        rintro e w7 ⟨rfl, hb⟩
        have HB7 := Aside0.mk (show Below w.heap.size w w7 from below_then HB5.out HB5.out.size hb)
        clear hb
        go_wp2_with (fail)
        go_ret
        exact ⟨rfl, HB7.out⟩
      refine (Lay_on B5 s _ w.heap.size ll (txt bb) t L nw5 text w5 HS5.out HD5.out (by rw [HL8.out]; decide) (by rw [HL8.out]; decide) ⟨HRN.out.1, ht⟩ (by have := HSZ.out.2; omega) (by have := HSZ.out.2; rw [HL8.out]; omega) (by rw [HBE.out])).mono ?_
      rintro e w6 ⟨rfl, L6, nw6, hd, hl6, hb6, hs, hf⟩
      have HD6 := Aside0.mk hd
      have HL6 : Aside0 (L6.length = 8) := ⟨hl6.trans HL8.out⟩
      have HBE6 := Aside0.mk hb6
      have HS6' := Aside0.mk hs
      have hns : gx ≠ s := fun e => by
        obtain ⟨v, hv⟩ := HS5.out
        have h1 := hv.2.1
        rw [← e, HX5.out] at h1
        injection h1 with h1
        injection h1 with _ h2 _
        exact absurd h2 (by decide)
      have hnd : gx ≠ w.heap.size + 1 := fun e => by
        have h1 := HD5.out.box
        rw [← e, HX5.out] at h1
        injection h1 with h1
        injection h1 with _ h2 _
        exact absurd h2 (by decide)
      have hng : gx ≠ w.heap.size := fun e => by
        have h1 := HD5.out.row
        rw [← e, HX5.out] at h1
        injection h1 with h1
        injection h1 with _ h2 _
        exact absurd h2 (by decide)
      have HX6 := Aside0.mk ((hf.2.2.2.2 gx (blk_lt HX5.out) hnd hng hns).trans HX5.out)
      have HB6 : Aside0 (Below w.heap.size w w6) := ⟨HB5.out.trans (hf.below (by omega) (Nat.le_refl _) HS6.out HB5.out.size)⟩
      have HT : Aside0 (0 ≤ t ∧ t < 1099511627775) := ⟨⟨HRN.out.1, ht⟩⟩
      clear hd hl6 hb6 hs hf hns hnd hng ht HRN HX5 HD5 HS5 HBE HL8 HB5 x1
      have x1 := cellX HX6.out 1 _ rfl
      go_wp2_with (fail)
      refine (Turn_sto B5 s _ _ _ _ w6 HS6'.out).mono ?_
      rintro e w7 ⟨rfl, rfl⟩
      obtain ⟨T, hT⟩ : ∃ T : Int, t + 1 = T := ⟨_, rfl⟩
      have HTT : Aside0 (1 ≤ T ∧ T ≤ 1099511627775) := ⟨by have := HT.out; omega⟩
      rw [hT] at HBE6 HS6' ⊢
      clear hT HT
      obtain ⟨kk, hkk, hkk2⟩ : ∃ kk : Nat, T.tmod 2 * 4 = (kk : Int) ∧ kk = (T % 2).toNat * 4 := ⟨(T % 2).toNat * 4, by rw [Int.tmod_eq_emod_of_nonneg (by have := HTT.out; omega)]; omega, rfl⟩
      have HKT := Aside0.mk hkk2
      have hk1 : T.tmod 2 = T % 2 := Int.tmod_eq_emod_of_nonneg (by have := HTT.out; omega)
      have hk3 : wrap64 (T % 2 * 4) = (kk : Int) := by rw [← hk1, hkk]; unfold wrap64; omega
      have hk4 : T % 2 * 4 = (kk : Int) := by rw [← hk1, hkk]
      obtain ⟨hh, hhh⟩ : ∃ hh, L6[kk]? = some hh := ⟨_, List.getElem?_eq_getElem (by rw [HL6.out, hkk2]; omega)⟩
      have HHH := Aside0.mk hhh
      clear hkk hkk2 hhh x1
      go_wp2_with (fail)
      refine (Read_dev _ _ L6 (-1) nw6 kk hh w7 HD6.out HHH.out).mono ?_
      rintro e w8 ⟨rfl, rfl⟩
      clear hk1 hk3 hk4
      have hhs : hh.size = 64 := HD6.out.siz _ (List.mem_of_getElem? HHH.out)
      have HHS := Aside0.mk hhs
      have hl : (bys hh).length = 64 := by rw [bys_length]; exact hhs
      have hlt := bys_lt' hh
      clear hhs
      go_wp2
      rw [print_bytes (P := Try.prog) 9 68 5 Try.underlying9 Try.underlying68 Try.underlying5 hh w8]
      have hbb := bytes_below (Below.refl w8.heap.size w8) (Nat.le_refl _) 5 hh
      have HB9 : Aside0 (Below w.heap.size w (Lib.bytesWorld w8 5 hh)) := ⟨bytes_below HB6.out HB6.out.size _ _⟩
      have HD9 := Aside0.mk (HD6.out.below hbb)
      have HS9 := Aside0.mk (HS6'.out.below hbb)
      obtain ⟨rest, HR⟩ := bytes_row w8 hh
      generalize hLd : bys hh = LB at HR hl hlt
      have HLD := Aside0.mk hLd
      have HGZ : Aside0 (w.heap.size + 1 < w8.heap.size) := ⟨blk_lt HD6.out.box⟩
      clear hLd hbb HD6 HS6' HB6 HX6
      generalize Lib.bytesWorld w8 5 hh = w9 at *
      rw [HHS.out]
      have hcp := grownCap_ge w8 64 0 5
      generalize grownCap w8 64 0 5 = cp at hcp ⊢
      generalize w8.heap.size = g at *
      obtain ⟨j0, hj0, hj0'⟩ : ∃ j0 : Nat, bits .and .i64 at_ 255 = (j0 : Int) ∧ j0 < 256 := ⟨(at_ % 256).toNat, by rw [and_255c]; omega, by omega⟩
      obtain ⟨j1, hj1, hj1'⟩ : ∃ j1 : Nat, ((j0 : Int).tmod 14) = (j1 : Int) ∧ j1 < 14 := ⟨j0 % 14, by rw [Int.tmod_eq_emod_of_nonneg (by omega)]; omega, by omega⟩
      have hj1e : (j0 : Int) % 14 = (j1 : Int) := by rw [← hj1, Int.tmod_eq_emod_of_nonneg (by omega)]
      obtain ⟨sh, hsh, hsh2⟩ : ∃ s : Nat, bits .and .i64 (at_ / 256) 7 = (s : Int) ∧ s < 8 := ⟨(at_ / 256 % 8).toNat, by rw [and_7q]; omega, by omega⟩
      have HRA := Aside0.mk HR
      have HLN := Aside0.mk hl
      have HLT := Aside0.mk hlt
      have HJ1 : Aside0 (j1 < 14) := ⟨hj1'⟩
      clear HR hl hlt hj0' hj1'
      by_cases h5 : 5 < j1
      case' pos =>
        have d5 : decide (5 < j1) = true := decide_eq_true h5
        have d5i : decide ((5 : Int) < (j1 : Int)) = true := decide_eq_true (by omega)
        obtain ⟨j, hj⟩ : ∃ j, j1 + 6 = j := ⟨_, rfl⟩
        have e6 : wrap64 ((j1 : Int) + 6) = (j : Int) := by have := HJ1.out; unfold wrap64; omega
        have e7 : (j1 : Int) + 6 = (j : Int) := by omega
        have HJ : Aside0 (j < 6 ∨ (12 ≤ j ∧ j < 20)) := ⟨by have := HJ1.out; omega⟩
        clear h5 hj
      case' neg =>
        have d5 : decide (5 < j1) = false := decide_eq_false h5
        have d5i : decide ((5 : Int) < (j1 : Int)) = false := decide_eq_false (by omega)
        obtain ⟨j, hj⟩ : ∃ j, j = j1 := ⟨_, rfl⟩
        subst hj
        have e6 : True := trivial
        have e7 : True := trivial
        have HJ : Aside0 (j < 6 ∨ (12 ≤ j ∧ j < 20)) := ⟨by omega⟩
        clear h5
      all_goals
        have hj64 : j < 64 := by have := HJ.out; omega
        have hx0 : LB[j]? = some (LB.getD j 0) := by
          rw [List.getElem?_eq_getElem (by have := HLN.out; omega)]
          simp [show j < LB.length by have := HLN.out; omega]
        have hxb : LB.getD j 0 < 256 := by
          rw [List.getD_eq_getElem?_getD, List.getElem?_eq_getElem (by have := HLN.out; omega)]
          exact HLT.out _ (List.getElem_mem _)
        have hcell := BAt.cell HRA.out hx0
        have hfr := BAt.frozen HRA.out hx0
        have HX0 := Aside0.mk hx0
        clear hx0
        generalize hz : LB.getD j 0 = z at *
        have HZZ := Aside0.mk hz
        clear hz
        go_wp2_with (fail)
        clear hj1 hj1e d5 d5i e6 e7
        refine wp_still_tail 12 (by kernel_rfl) (by kernel_rfl) ?_
        intro W hW
        have HW := Aside0.mk hW
        have g1 : W.cell? ⟨g, j, none⟩ = some (.int .u8 (z : Int)) := by rw [hW]; exact hcell
        have gf : W.frozen? ⟨g, j, none⟩ = false := by rw [hW]; exact hfr
        have i1 : (j : Int) < 64 := by omega
        clear hW hcell hfr
        simp only [List.take_succ_cons, List.take_zero, List.drop_succ_cons, List.drop_zero]
        repeat still_step
        refine wpStill_nil ?_
        obtain ⟨qq, hq, hq0, hq1⟩ : ∃ q : Nat, IntKind.u8.wrap ((2 : Int) ^ sh) = (q : Int) ∧ 0 < q ∧ q < 256 := by
          have e1 : ∀ t : Nat, t < 8 → IntKind.u8.wrap ((2 : Int) ^ t) = ((2 ^ t : Nat) : Int) := by decide
          have e2 : ∀ t : Nat, t < 8 → 0 < 2 ^ t ∧ 2 ^ t < 256 := by decide
          exact ⟨2 ^ sh, e1 sh hsh2, (e2 sh hsh2).1, (e2 sh hsh2).2⟩
        have hxor := u8_xor_nat z qq hxb hq1
        rw [hq, hxor]
        have H3 : BAt g (LB.set j (z ^^^ qq)) rest (W.setCell ⟨g, j, none⟩ (.int .u8 ((z ^^^ qq : Nat) : Int))) := by
          rw [HW.out]
          exact BAt.store (w := w9.drew) HRA.out j (z ^^^ qq) (by have := HLN.out; omega)
        have HR3 := Aside0.mk H3
        have HD3 : Aside0 (DevAt (w.heap.size + 1) w.heap.size L6 (-1) false nw6 (W.setCell ⟨g, j, none⟩ (.int .u8 ((z ^^^ qq : Nat) : Int)))) := ⟨by rw [HW.out]; exact (HD9.out.below (below_drew1 (Below.refl _ _))).farB (by have := HGZ.out; omega) (by have := HGZ.out; omega) _ _⟩
        have HB3 : Aside0 (Below w.heap.size w (W.setCell ⟨g, j, none⟩ (.int .u8 ((z ^^^ qq : Nat) : Int)))) := ⟨by rw [HW.out]; exact (below_drew1 HB9.out).setCell (p := ⟨g, j, none⟩) (by have := HGZ.out; show w.heap.size ≤ g; omega) _⟩
        have hbl : ∀ p ∈ LB.set j (z ^^^ qq), p < 256 := by
          intro p hp
          rcases List.mem_or_eq_of_mem_set hp with h | h
          · exact HLT.out p h
          · rw [h]
            exact Nat.xor_lt_two_pow (n := 8) hxb hq1
        have hXs : (txt (LB.set j (z ^^^ qq))).size = 64 := by rw [txt_size, List.length_set]; exact HLN.out
        have hcv : (convert 68 9 (.slice (some ⟨g, 0, none⟩) 64 cp)).run Try.prog (W.setCell ⟨g, j, none⟩ (.int .u8 ((z ^^^ qq : Nat) : Int))) = .ok (.string (txt (LB.set j (z ^^^ qq)))) (W.setCell ⟨g, j, none⟩ (.int .u8 ((z ^^^ qq : Nat) : Int))) := conv_bat _ g _ rest H3 64 (by rw [List.length_set]; exact HLN.out) cp
        have HSPO : Aside0 ((bestP (L6.set kk (txt (LB.set j (z ^^^ qq)))) 2).1 ≠ T) := ⟨by
          have e4 : kk = (T % 2).toNat * (L6.length / 2) := by rw [HL6.out, HKT.out]
          have hjl : j < LB.length := by have := HLN.out; omega
          have hsp := spoilt L6 T _ _ HBE6.out HTT.out.1 HD9.out.siz (by rw [HL6.out]; decide) hh (txt (LB.set j (z ^^^ qq))) (by rw [← e4]; exact HHH.out) hXs j HJ.out (by
            rw [bys_txt hbl, HLD.out, HX0.out, List.getElem?_set_self hjl]
            intro h
            have h2 := Option.some.inj h
            have h4 : z ^^^ (z ^^^ qq) = z ^^^ z := by rw [h2]
            rw [Nat.xor_self, ← Nat.xor_assoc, Nat.xor_self, Nat.zero_xor] at h4
            omega) (fun i hi => by rw [bys_txt hbl, HLD.out, List.getElem?_set_ne (fun h => hi h.symm)])
          rw [← e4] at hsp
          exact hsp⟩
        generalize txt (LB.set j (z ^^^ qq)) = X at *
        have HXS := Aside0.mk hXs
        clear H3 hbl hxor hq hXs hq0 hq1 hxb HR3 hsh hsh2 HD9 HB9 HS9 hj0
        have HCV := Aside0.mk hcv
        clear hcv
        go_upto_region 31 with (fail)
        clear g1 gf i1
        have hcv := HCV.out
        clear HCV
        generalize W.setCell ⟨g, j, none⟩ (.int .u8 ((z ^^^ qq : Nat) : Int)) = w10 at *
        clear HW
        go_wp2_with (fail)
        refine (Write_on _ _ L6 (-1) nw6 kk X w10 HD3.out (by rw [HL6.out, HKT.out]; omega) HXS.out (by decide)).mono ?_
        rintro e w11 ⟨rfl, ⟨nw11, hd⟩, hf⟩
        have HD11 : Aside0 (DevAt (w.heap.size + 1) w.heap.size (L6.set kk X) (-1) false nw11 w11) := ⟨hd⟩
        have HB11 : Aside0 (Below w.heap.size w w11) := ⟨HB3.out.trans ((FrS.of_frv (s := w.heap.size) hf).below (by omega) (Nat.le_refl _) (Nat.le_refl _) HB3.out.size)⟩
        have HL11 : Aside0 ((L6.set kk X).length = 8) := ⟨by rw [List.length_set]; exact HL6.out⟩
        clear hd hf hcv HD3 HB3
        generalize L6.set kk X = L11 at *
        go_wp2_with (fail)
        refine (Open_dev _ _ L11 (-1) nw11 w11 HD11.out (by rw [HL11.out]; decide) (by rw [HL11.out]; decide)).mono ?_
        rintro e w12 ⟨hb, y, rfl, hs⟩
        have HB12 : Aside0 (Below w.heap.size w w12) := ⟨below_then HB11.out HB11.out.size hb⟩
        have HS12 := Aside0.mk hs
        clear hb hs HB11 HD11
        generalize (bestP L11 2).2.2 = l12 at *
        generalize (bestP L11 2).2.1 = b12 at *
        generalize (bestP L11 2).1 = t12 at *
        have d12 : ((t12 : Int) != T) = true := by rw [bne_iff_ne]; exact HSPO.out
        go_wp2_with (fail)
        refine (Turn_sto _ y _ l12 (txt b12) t12 w12 HS12.out).mono ?_
        rintro e w13 ⟨rfl, rfl⟩
        go_wp2_with (fail)
        refine (sawake_calls _).mono ?_
        rintro e w14 ⟨rfl, hb⟩
        have HB14 := Aside0.mk (show Below w.heap.size w w14 from below_then HB12.out HB12.out.size hb)
        clear hb
        go_wp2_with (fail)
        go_ret
        exact ⟨rfl, HB14.out⟩
end Go.Proofs.Ytbkbganflnemeaa.Pr
end

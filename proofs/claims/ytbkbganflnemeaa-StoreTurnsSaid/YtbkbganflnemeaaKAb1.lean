/- Joined texts (pack.py): what the statement's proof needs, part b1. No condition. -/
import Derived.Below
import Derived.Deep.Draws
import Derived.Deep.AppendLies
import Derived.Maps.AppendAt
import Derived.OwnWalk
import Derived.Laws.BytesArg
import Derived.Laws.MakeOwn
import Derived.Laws.OwnMore
import Derived.Deep.OwnRows
import Derived.Tactics
import Derived.Lib.ConvBytes
import Derived.Laws.Slices
import Derived.WalkKit
import Derived.KernelRfl
import Derived.RowKit3
import Derived.Deep.LoopGhost
import Derived.Deep.QuietTactic
import Derived.BigQuiet
import Derived.WideLaws
import Derived.Deep.DeepCutAuto
import Derived.Deep.CutBlock
import Derived.Deep.RegionHeld3
import Derived.Laws.Rows
import Derived.Lib.AppendStr
import Derived.ArgAppend
import Derived.Laws.IdiomCopy
import Derived.RowKit
import Derived.OrdersHeld
import Derived.Laws.BitsLemmas
import Derived.Laws.StructEq
import Derived.Deep.Slices
import Derived.ChangeArms
import Derived.OpenShut
import Derived.Shelf.Strings.Builder1
import Derived.Shelf.Strings.Builder2
import Derived.Shelf.Strings.OnBuilder
import Derived.Shelf.Strings.BuilderF
import Derived.Shelf.Strings.Prefix
import Derived.Shelf.Bits.Mul64
import Derived.Shelf.Strings.Repeat
import Derived.Test.YtbkbganflnemeaaProg
import Derived.Deep.RegionLaw
import Derived.StillTailTactics
import Derived.Deep.Light
import Derived.Deep.RegionHeldLaw
import Derived.Deep.DrawnRows
import Derived.IntWalk
import Derived.Deep.WholeRow
import Derived.Laws.CopyOwn
import Derived.Maps.OwnSet
import Derived.Lib.BufferWrite
import Derived.Test.YtbkbganflnemeaaRows
import Derived.ProofKit
import Derived.ShutString
import Derived.ChangeOld
import Derived.SizedLaws
import Derived.Carry
import Derived.Test.YtbkbganflnemeaaKAa1
import Derived.Test.YtbkbganflnemeaaKAa2
section
namespace Go.Proofs.Ytbkbganflnemeaa.Pr
open Go.ChangeShapes Go.WideShapes Go.Deep Go.RowKit Go.Proofs.YtbkbganflnemeaaW.PrintWords Go.Proofs.YtbkbganflnemeaaW.PrintLast Go.Proofs.YtbkbganflnemeaaW.PrintMore
set_option linter.unusedVariables false
set_option linter.unusedSimpArgs false
structure Rd {α : Type} (P : Program) (t : TypeId) (k : Kd α) (Q : α → Prop) : Prop where
  sz : P.cellsOf t = k.sz
  rd : ∀ {H : Type} (enc : TypeId × Value → H) (w : World) (base : Nat) (spare : Nat → Bool) (held : Bool) (fuel : Nat) (cs : List Value) (x : DataW H × List MemPlace), DataW.trod enc P w base spare held fuel t cs = some x → ∃ y, k.K w y cs ∧ Q y
variable {P : Program}
theorem Rd.int {t : TypeId} {k : IntKind} (ht : P.underlying t = some (.int k)) (hc : P.cellsOf t = 1) : Rd P t (Kd.int k) (fun y => (Lit.int k y).wf = true) :=
  ⟨hc, fun enc w base spare held fuel cs x h => by
    obtain ⟨n, rfl, _, hw⟩ := DataW.trod_int ht h
    exact ⟨n, rfl, hw⟩⟩
theorem Rd.bool {t : TypeId} (ht : P.underlying t = some .bool) (hc : P.cellsOf t = 1) : Rd P t Kd.bool (fun _ => True) :=
  ⟨hc, fun enc w base spare held fuel cs x h => by
    obtain ⟨b, rfl, _⟩ := DataW.trod_bool ht h
    exact ⟨b, rfl, trivial⟩⟩
theorem Rd.string {t : TypeId} (ht : P.underlying t = some .string) (hc : P.cellsOf t = 1) : Rd P t Kd.string (fun y => y.size ≤ maxLen) :=
  ⟨hc, fun enc w base spare held fuel cs x h => by
    obtain ⟨s, rfl, _, hs⟩ := DataW.trod_string ht h
    exact ⟨s, rfl, hs⟩⟩
theorem list_of {α : Type} {R : Nat → α → Prop} : ∀ (n : Nat), (∀ i, i < n → ∃ y, R i y) → ∃ ys : List α, ys.length = n ∧ ∀ i y, ys[i]? = some y → R i y
  | 0, _ => ⟨[], rfl, fun i y h => by simp at h⟩
  | n + 1, h => by
    obtain ⟨ys, hl, hr⟩ := list_of n (fun i hi => h i (by omega))
    obtain ⟨y, hy⟩ := h n (by omega)
    refine ⟨ys ++ [y], by rw [List.length_append, hl]; rfl, fun i z hz => ?_⟩
    by_cases hi : i < n
    · rw [List.getElem?_append_left (by omega)] at hz
      exact hr i z hz
    · have hi2 : i = n := by
        have := (List.getElem?_eq_some_iff.1 hz).1
        rw [List.length_append, List.length_singleton] at this
        omega
      subst hi2
      rw [List.getElem?_append_right (by omega), hl, Nat.sub_self] at hz
      have : y = z := by simpa using hz
      subst this
      exact hy
theorem Rd.slice {α : Type} {t e : TypeId} {k : Kd α} {Q : α → Prop} (ht : P.underlying t = some (.slice e)) (hc : P.cellsOf t = 1) (h : Rd P e k Q) : Rd P t (Kd.slice e k) (fun ys => (∀ y ∈ ys, Q y) ∧ ys.length ≤ maxLen) :=
  ⟨hc, fun enc w base spare held fuel cs x hx => by
    rcases open_slice ht hx with ⟨rfl, _⟩ | ⟨a, len, cap, m, n, D, Pl, rfl, _, hlc, hcm, hm, _, hi⟩
    · exact ⟨[], ⟨none, 0, rfl, Nat.le_refl _, Kd.C_nil k w⟩, fun y hy => by simp at hy, Nat.zero_le _⟩
    · have hlm : len ≤ m := by rw [hm]; split <;> omega
      obtain ⟨ys, hl, hr⟩ := list_of (R := fun i y => ∃ cs', w.cells? base (a.add (i * P.cellsOf e)) (P.cellsOf e) = some cs' ∧ k.K w y cs' ∧ Q y) len (fun i hil => by
        obtain ⟨cs', hcs, htr⟩ := hi i (by omega)
        obtain ⟨y, hk, hq⟩ := h.rd enc w base spare held n cs' _ htr
        exact ⟨y, cs', hcs, hk, hq⟩)
      refine ⟨ys, ⟨some a, cap, by rw [hl], by omega, ?_⟩, fun y hy => ?_, by omega⟩
      · refine ⟨rfl, by unfold maxLen at hcm; omega, fun _ => ⟨a, rfl, fun j p hp => ?_⟩⟩
        obtain ⟨cs', hcs, hk, _⟩ := hr j p hp
        obtain ⟨_, hcl, hat⟩ := World.cells?_some hcs
        refine ⟨cs', k.K_len hk, hk, fun i u hu => ?_⟩
        have hi2 : i < P.cellsOf e := by
          have := (List.getElem?_eq_some_iff.1 hu).1
          omega
        have := hat i hi2
        rw [Go.Deep.add_add, h.sz] at this
        rw [this]
        exact hu
      · obtain ⟨i, hi2, rfl⟩ := List.getElem_of_mem hy
        obtain ⟨_, _, _, hq⟩ := hr i _ (List.getElem?_eq_getElem hi2)
        exact hq⟩
end Go.Proofs.Ytbkbganflnemeaa.Pr
end

section
namespace Go.Proofs.Ytbkbganflnemeaa.Pr
open Go.RowKit Go.Deep Go.Maps Go.Proofs.YtbkbganflnemeaaW.PrintWords Go.Proofs.YtbkbganflnemeaaW.PrintLast Go.Proofs.YtbkbganflnemeaaW.PrintMore
set_option maxHeartbeats 4000000
set_option linter.unusedVariables false
set_option linter.unusedSimpArgs false
theorem str_at {w : World} {A : Option Addr} {l : List ByteArray} (h : Kd.C Kd.string w A l.length l) (k : Nat) (hk : k < l.length) : ∃ ad x, A = some ad ∧ l[k]? = some x ∧ w.cell? (ad.add k) = some (.string x) := by
  obtain ⟨ad, he, hz⟩ := h.2.2 (by omega)
  obtain ⟨cs, h1, h2, h3⟩ := hz k _ (List.getElem?_eq_getElem hk)
  have h2' : cs = [.string l[k]] := h2
  subst h2'
  have h4 : w.cell? (ad.add (k * 1)) = some (.string l[k]) := h3 0 _ rfl
  rw [Nat.mul_one] at h4
  exact ⟨ad, l[k], he, List.getElem?_eq_getElem hk, h4⟩
set_option maxRecDepth 100000 in
theorem turns_calls (A : Option Addr) (cap : Nat) (l : List ByteArray) (w : World) (hC : Kd.C Kd.string w A l.length l) :
    Calls Try.prog 10 #[.slice A l.length cap] w fun e w' => e = .returned (.bool true) ∧ Below w.heap.size w w' := by
  have HC := Aside0.mk hC
  clear hC
  go_enter Try.func10, Try.ntmps10
  go_wp2_with (fail)
  refine (New_dev 16 (by decide) (by decide) w).mono ?_
  rintro e w1 ⟨rfl, hD, hb⟩
  have HD1 := Aside0.mk hD
  have HB1 := Aside0.mk hb
  have HL0 : Aside0 ((List.replicate 16 zblk).length = 16 ∧ bestP (List.replicate 16 zblk) 2 = (0, [], [])) := ⟨⟨List.length_replicate, best_zero 16 (by decide)⟩⟩
  clear hD hb
  generalize List.replicate 16 zblk = L0 at *
  go_wp2_with (fail)
  have ho := Open_dev _ _ L0 (-1) 0 w1 HD1.out (by rw [HL0.out.1]; decide) (by rw [HL0.out.1]; decide)
  rw [HL0.out.2] at ho
  refine ho.mono ?_
  clear ho
  rintro e w2 ⟨hb, s, rfl, hs⟩
  have HS2 := Aside0.mk hs
  have HD2 := Aside0.mk (HD1.out.below hb)
  have HB2 := Aside0.mk (show Below w.heap.size w w2 from below_then HB1.out HB1.out.size hb)
  have HW1 := Aside0.mk HB1.out.size
  clear hs hb HD1 HB1
  by_cases hl : l.length ≤ 40
  case neg =>
    have d1 : decide (40 < (l.length : Int)) = true := decide_eq_true (by omega)
    have d1b : decide (40 < l.length) = true := decide_eq_true (by omega)
    clear hl
    go_wp2_with (fail)
    refine (sawake_calls _).mono ?_
    rintro e w3 ⟨rfl, hb⟩
    have HB3 := Aside0.mk (show Below w.heap.size w w3 from below_then HB2.out HB2.out.size hb)
    clear hb
    go_wp2_with (fail)
    go_ret
    exact ⟨rfl, HB3.out⟩
  have d1 : decide (40 < (l.length : Int)) = false := decide_eq_false (by omega)
  have d1b : decide (40 < l.length) = false := decide_eq_false (by omega)
  have HL := Aside0.mk hl
  clear hl
  go_wp2_with (fail)
  clear d1 d1b
  go_loopw [5, 7] (fun sp i wr => ∃ (k s : Nat) (B : Nat) (L : List ByteArray) (nw : Int) (ll : List ByteArray) (b : ByteArray), k ≤ l.length ∧ i = .int .i64 (k : Int) ∧ sp = .pointer (some ⟨s, 0, none⟩) ∧ Aside0 (w.heap.size ≤ B) ∧ Aside0 (StoAt B s (w.heap.size + 1) ll b (k : Int) wr) ∧ Aside0 (DevAt (w.heap.size + 1) w.heap.size L (-1) false nw wr) ∧ Aside0 (L.length = 16 ∧ (bestP L 2).1 = (k : Int)) ∧ Aside0 (Below w.heap.size w wr)) (fun _ i _ => l.length - (intOf i).toNat)
  case atStart => exact ⟨0, s, w1.heap.size, L0, 0, [], _, by omega, rfl, rfl, HW1, HS2, HD2, ⟨⟨HL0.out.1, by rw [HL0.out.2]; rfl⟩⟩, HB2⟩
  case round =>
    clear HS2 HD2 HB2 HW1 HL0
    obtain ⟨k, s, B, L, nw, ll, b, hk, rfl, rfl, HBB, HS, HD, HB, HBL⟩ := hrel
    by_cases hlt : k < l.length
    · have q2 : decide (k < l.length) = true := decide_eq_true hlt
      obtain ⟨ad, x, rfl, hget, cx⟩ := str_at HC.out k hlt
      have CX := Aside0.mk cx
      have cx' := pw_cell_below HBL.out cx
      have e5 := eq_true hlt
      have HLT := Aside0.mk hlt
      have HKN := Aside0.mk (show k < 40 by have := HL.out; omega)
      by_cases hx : x.size ≤ 300
      case neg =>
        have d2 : decide (300 < (x.size : Int)) = true := decide_eq_true (by omega)
        have d2b : decide (300 < x.size) = true := decide_eq_true (by omega)
        clear hk hlt hx hget cx
        go_wp2_with (fail)
        refine (sawake_calls _).mono ?_
        rintro e w3 ⟨rfl, hb⟩
        have HB3 := Aside0.mk (show Below w.heap.size w w3 from below_then HBL.out HBL.out.size hb)
        clear hb
        go_wp2_with (fail)
        go_ret
        exact ⟨rfl, HB3.out⟩
      have d2 : decide (300 < (x.size : Int)) = false := decide_eq_false (by omega)
      have d2b : decide (300 < x.size) = false := decide_eq_false (by omega)
      have HX := Aside0.mk hx
      clear hk hlt hx hget cx
      go_wp2_with (fail)
      refine (Lay_on B s _ _ ll b (k : Int) L nw x _ HS.out HD.out (by have := HB.out.1; omega) (by have := HB.out.1; omega) (by have := HKN.out; omega) (by have := HX.out; omega) (by have := HX.out; have := HB.out.1; omega) HB.out.2).mono ?_
      rintro e w4 ⟨rfl, L1, nw1, hd, hl1, hbest, hs, hf⟩
      have HD4 := Aside0.mk hd
      have HL4 := Aside0.mk (show L1.length = 16 ∧ bestP L1 2 = ((k : Int) + 1, txB x, [x]) from ⟨hl1.trans HB.out.1, hbest⟩)
      have HB4 := Aside0.mk (show Below w.heap.size w w4 from HBL.out.trans (hf.below (by omega) (Nat.le_refl _) (HS.out.below_B HBB.out) HBL.out.size))
      clear hd hl1 hbest hs hf HS HD HB HBL cx' d2 d2b
      have cx' := pw_cell_below HB4.out CX.out
      go_wp2_with (fail)
      have ho := Open_dev _ _ L1 (-1) nw1 w4 HD4.out (by rw [HL4.out.1]; decide) (by rw [HL4.out.1]; decide)
      rw [HL4.out.2] at ho
      refine ho.mono ?_
      clear ho
      rintro e w5 ⟨hb, s2, rfl, hs⟩
      have HS5 := Aside0.mk hs
      have HD5 := Aside0.mk (HD4.out.below hb)
      have HB5 := Aside0.mk (show Below w.heap.size w w5 from below_then HB4.out HB4.out.size hb)
      have HW4 := Aside0.mk HB4.out.size
      clear hs hb HB4 HD4 cx'
      have cx' := pw_cell_below HB5.out CX.out
      have HSD := Aside0.mk (show StoAt w4.heap.size s2 (w.heap.size + 1) [x] (txt (txB x)) ((k : Int) + 1) w5.drew from HS5.out.below (below_drew1 (Below.refl _ _)))
      have HDD := Aside0.mk (show DevAt (w.heap.size + 1) w.heap.size L1 (-1) false nw1 w5.drew from HD5.out.below (below_drew1 (Below.refl _ _)))
      have HBD := Aside0.mk (show Below w.heap.size w w5.drew from below_drew1 HB5.out)
      have HXB := Aside0.mk (show ∀ W, StoAt w4.heap.size s2 (w.heap.size + 1) [x] (txt (txB x)) ((k : Int) + 1) W → _ from fun W hW => Base_sto w4.heap.size s2 _ x [] _ _ W hW)
      have HXH := Aside0.mk (show ∀ W, StoAt w4.heap.size s2 (w.heap.size + 1) [x] (txt (txB x)) ((k : Int) + 1) W → _ from fun W hW => Behind_one w4.heap.size s2 _ x _ _ W hW)
      have HXT := Aside0.mk (show ∀ W, StoAt w4.heap.size s2 (w.heap.size + 1) [x] (txt (txB x)) ((k : Int) + 1) W → _ from fun W hW => Turn_sto w4.heap.size s2 _ [x] _ _ W hW)
      have v1 : IntKind.i64.wrap ((k : Int) + 1) = (k : Int) + 1 := by rw [IntKind.wrap_i64]; have := HKN.out; omega
      have v2 : wrap64 ((k : Int) + 1) = (k : Int) + 1 := by unfold wrap64; have := HKN.out; omega
      clear HS5 HD5 HB5
      go_wp2_with (fail)
      go_region_held3 (fun w' => w'.cell? (ad.add k) = some (.string x))
        (first | go_keep | exact cx')
        (first
          | (go_at_call 36; (with_reducible refine (HXB.out _ (by exact HSD.out)).mono ?_); rintro e w6 ⟨rfl, rfl⟩)
          | (go_at_call 37; (with_reducible refine (HXH.out _ (by exact HSD.out)).mono ?_); rintro e w6 ⟨rfl, hb⟩; have HS6 := Aside0.mk (HSD.out.below hb); have HD6 := Aside0.mk (HDD.out.below hb); have HB6 := Aside0.mk (show Below w.heap.size w w6 from below_then HBD.out HBD.out.size hb); clear cx' hb; have cx' := pw_cell_below HB6.out CX.out)
          | (go_at_call 38; (with_reducible refine (HXT.out _ (by exact HS6.out)).mono ?_); rintro e w7 ⟨rfl, rfl⟩))
      go_wp2_with (fail)
      have hkk := HKN.out
      have hll := HLT.out
      refine ⟨⟨k + 1, s2, w4.heap.size, L1, nw1, [x], _, hll, by rfl, rfl, HW4, HS6, HD6, ⟨⟨HL4.out.1, by rw [HL4.out.2]; rfl⟩⟩, HB6⟩, by simp only [intOf]; omega⟩
    · obtain rfl : k = l.length := by omega
      have q2 : decide (l.length < l.length) = false := decide_eq_false (by omega)
      have q3 : (l.length < l.length) = False := eq_false (by omega)
      clear hk hlt HS HD HB
      go_wp2_with (fail)
      refine (sawake_calls _).mono ?_
      rintro e w3 ⟨rfl, hb⟩
      have HB3 := Aside0.mk (show Below w.heap.size w w3 from below_then HBL.out HBL.out.size hb)
      go_wp2_with (fail)
      go_ret
      exact ⟨rfl, HB3.out⟩
end Go.Proofs.Ytbkbganflnemeaa.Pr
end

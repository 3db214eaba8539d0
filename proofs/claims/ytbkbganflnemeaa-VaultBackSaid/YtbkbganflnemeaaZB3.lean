/- Joined texts (pack.py): what the statement's proof needs, part 3. No condition. -/
import Derived.Below
import Derived.Deep.Draws
import Derived.Deep.AppendLies
import Derived.Maps.AppendAt
import Derived.OwnWalk
import Derived.Laws.BytesArg
import Derived.Laws.MakeOwn
import Derived.Laws.OwnMore
import Derived.Deep.OwnRows
import Derived.Tactics
import Derived.Lib.ConvBytes
import Derived.Laws.Slices
import Derived.WalkKit
import Derived.KernelRfl
import Derived.RowKit3
import Derived.Deep.LoopGhost
import Derived.Deep.QuietTactic
import Derived.BigQuiet
import Derived.WideLaws
import Derived.Deep.DeepCutAuto
import Derived.Deep.CutBlock
import Derived.Deep.RegionHeld3
import Derived.Laws.Rows
import Derived.Lib.AppendStr
import Derived.ArgAppend
import Derived.Laws.IdiomCopy
import Derived.RowKit
import Derived.OrdersHeld
import Derived.Laws.BitsLemmas
import Derived.Laws.StructEq
import Derived.Test.YtbkbganflnemeaaRows
import Derived.ProofKit
import Derived.OpenShut
import Derived.ShutString
import Derived.ChangeOld
import Derived.Shelf.Strings.Builder1
import Derived.Shelf.Strings.Builder2
import Derived.Shelf.Strings.OnBuilder
import Derived.Shelf.Strings.BuilderF
import Derived.Shelf.Strings.Prefix
import Derived.Shelf.Bits.Mul64
import Derived.Shelf.Strings.Repeat
import Derived.Test.YtbkbganflnemeaaProg
import Derived.Deep.RegionLaw
import Derived.StillTailTactics
import Derived.Deep.Light
import Derived.Deep.RegionHeldLaw
import Derived.Deep.DrawnRows
import Derived.IntWalk
import Derived.Deep.WholeRow
import Derived.Laws.CopyOwn
import Derived.Maps.OwnSet
import Derived.SizedLaws
import Derived.Test.YtbkbganflnemeaaZB1
import Derived.Test.YtbkbganflnemeaaZB2
set_option linter.unusedVariables false
set_option linter.unusedSimpArgs false
section
namespace Go.Proofs.Ytbkbganflnemeaa.Pr
open Go.RowKit Go.Deep Go.Maps Go.Proofs.YtbkbganflnemeaaW.PrintWords Go.Proofs.YtbkbganflnemeaaW.PrintLast Go.Proofs.YtbkbganflnemeaaW.PrintMore
set_option maxHeartbeats 2000000
def vltB : ByteArray := ⟨#[118, 97, 117, 108, 116]⟩
def pbT (c : Nat) : ByteArray := txt (by4 0 ++ by4 c)
def drawP (seed : ByteArray) (c : Nat) : ByteArray := hkT (macT vltB seed) (pbT c)
theorem drawP_size (seed : ByteArray) (c : Nat) : (drawP seed c).size = 32 := hkT_size _ _
theorem pbT_size (c : Nat) : (pbT c).size = 8 := by unfold pbT; rw [txt_size]; rfl
theorem derive_f (seed : ByteArray) (c : Nat) (hs : seed.size ≤ 1000000) : hkdf_Derive.f vltB seed (pbT c) 32 = some (drawP seed c, 0) := by
 unfold hkdf_Derive.f
 rw [hkdf_Extract_f _ _ (by decide) (by omega), Option.bind_some, expand_32 _ _ (by rw [macT_size]; decide) (by rw [pbT_size]; decide)]
 rfl
def drawL (seed : ByteArray) (c : Nat) : Nat → List Nat
 | 0 => []
 | m + 1 => drawL seed c m ++ bys (drawP seed (c + m))
theorem drawL_length (seed : ByteArray) (c : Nat) : ∀ m, (drawL seed c m).length = 32 * m
 | 0 => rfl
 | m + 1 => by rw [drawL, List.length_append, drawL_length seed c m, bys_length, drawP_size]; omega
theorem drawL_cells (seed : ByteArray) (c m : Nat) : (Lib.byteCells (txt (drawL seed c m)).data.toList).length = 32 * m := by
 rw [← drawL_length seed c m]
 simp [Lib.byteCells, txt]
theorem pbT_lit (c : Nat) (x : Int) (h : x = (c : Int)) : word_PutBig.f [0, x] = some (pbT c) := by
 subst h
 unfold word_PutBig.f word_put.f
 rw [if_pos (by simp), Option.bind_some]
 have e : ([0, (c : Int)] : List Int) = ints [0, c] := rfl
 rw [e, if_neg (by decide), flat4i_ints]
 exact congrArg some (str_nats _)
def TabAt (tb mb : Nat) (seed : ByteArray) (c : Nat) (w : World) : Prop := w.heap[tb]? = some (.cells #[.string seed, .int .i64 (c : Int), .map (some mb)] 95 (0, 0))
theorem TabAt.cells {tb mb : Nat} {seed : ByteArray} {c : Nat} {w : World} (h : TabAt tb mb seed c w) : w.cell? ⟨tb, 0, none⟩ = some (.string seed) ∧ w.cell? ⟨tb, 1, none⟩ = some (.int .i64 (c : Int)) ∧ w.cell? ⟨tb, 2, none⟩ = some (.map (some mb)) := by
 refine ⟨?_, ?_, ?_⟩ <;> (rw [cell_of_row _ _ _ _ _ _ h]; rfl)
theorem TabAt.below {tb mb : Nat} {seed : ByteArray} {c : Nat} {w w' : World} (h : TabAt tb mb seed c w) (hb : Below w.heap.size w w') : TabAt tb mb seed c w' := (hb.block tb (blk_lt h)).trans h
theorem grown_of_below {w w' : World} (h : Below w.heap.size w w') (r : Option Nat) : w.grownBy w' r := ⟨h.os, h.tape, h.output, h.size, fun k hk _ => h.block k hk⟩
theorem grown_set (w : World) (b j : Nat) (v : Value) : w.grownBy (w.setCell ⟨b, j, none⟩ v) (some b) := by
 refine ⟨rfl, rfl, rfl, Nat.le_of_eq (by simp [World.setCell]), fun k _ hk => Below.heap_setCell w ⟨b, j, none⟩ v k (fun e => hk (by rw [e]))⟩
theorem builder_far {T e : TypeId} {B b : Nat} {p : Value} {bs : List Value} {w : World} (h : Lib.BuilderAt T e B b p bs w) (g j : Nat) (u : Value) (hg : g < B) : Lib.BuilderAt T e B b p bs (w.setCell ⟨g, j, none⟩ u) := by
 obtain ⟨h1, v, h2, h3, h4⟩ := h
 exact ⟨h1, v, (Below.heap_setCell w ⟨g, j, none⟩ u b (fun e => by have e2 : b = g := e; omega)).trans h2, h3.kept (grown_set w g j u) (.inr (fun e => by have := own_base h3 g e; omega)), h4⟩
theorem grown_then {w w2 w3 : World} {r : Option Nat} (h : w.grownBy w2 r) (hb : Below w.heap.size w2 w3) : w.grownBy w3 r := ⟨hb.os.trans h.os, hb.tape.trans h.tape, hb.output.trans h.output, Nat.le_trans h.size hb.size, fun k hk hr => (hb.block k hk).trans (h.block k hk hr)⟩
set_option maxRecDepth 100000 in
theorem draw_calls (seed : ByteArray) (hs : seed.size ≤ 1000000) (tb mb c n : Nat) (w : World) (hn : n ≤ 40000) (hc : c ≤ 1000000) (h : TabAt tb mb seed c w) :
    Calls Try.prog 63 #[.pointer (some ⟨tb, 0, none⟩), .int .i64 (n : Int)] w fun e w' => e = .returned (.string (txt ((drawL seed c ((n + 31) / 32)).take n))) ∧ TabAt tb mb seed (c + (n + 31) / 32) w' ∧ w.grownBy w' (some tb) := by
  have HT := Aside0.mk h
  have hlt : tb < w.heap.size := blk_lt h
  have HLT := Aside0.mk hlt
  clear h hlt
  have HD := Aside0.mk (derive_f seed)
  have HS := Aside0.mk hs
  clear hs
  generalize hN : (n + 31) / 32 = N
  have hN1 : N ≤ 1251 := by omega
  have HN := Aside0.mk hN
  clear hN
  go_enter Try.func63, Try.ntmps63
  go_wp2_with (fail)
  go_loopg [] (N + 1) (fun q wr => ∃ j : Nat, j ≤ N ∧ Aside0 (q = N + 1 - j) ∧ Aside0 (Lib.IsBuilder 115 5 w.heap.size w.heap.size (Lib.byteCells (txt (drawL seed c j)).data.toList) wr) ∧ Aside0 (TabAt tb mb seed (c + j) wr) ∧ Aside0 (w.grownBy wr (some tb)))
  case atStart => exact ⟨0, by omega, ⟨rfl⟩, ⟨Lib.fresh_isBuilder _ _ w⟩, ⟨HT.out.below (below_alloc (Below.refl _ _) _)⟩, ⟨World.grownBy_alloc _ _ _⟩⟩
  case round =>
    obtain ⟨j, hj, HQ, HI, HTB, HG⟩ := hrel
    have HLE := Aside0.mk (drawL_cells seed c j)
    by_cases hlt : j < N
    · have d1 : decide (32 * (j : Int) < (n : Int)) = true := decide_eq_true (by have := HN.out; omega)
      clear hlt
      have HLT2 := Aside0.mk (show j < N by have := of_decide_eq_true d1; have := HN.out; omega)
      go_wp2_with (go_at_call 85; refine (Try.Builder_Len w.heap.size w.heap.size _ _ HI.out).mono ?_; rw [HLE.out]; rintro e w2 ⟨rfl, rfl⟩)
      obtain ⟨c0, c1, c2⟩ := HTB.out.cells
      rw [Int.natCast_add] at c1
      have HPW : Aside0 (∀ (A0 : Option Addr) (W : World), Kd.C (Kd.int .i64) W A0 2 [0, (c : Int) + (j : Int)] → Calls Try.prog 96 #[.slice A0 2 2] W fun e w' => e = .returned (.string (pbT (c + j))) ∧ Below W.heap.size W w') := ⟨fun A0 W h0 => word_PutBig.calls A0 2 [0, (c : Int) + (j : Int)] (pbT (c + j)) W h0 (Nat.le_refl _) (pbT_lit (c + j) _ (by omega))⟩
      have HDW : Aside0 (∀ (W : World), Calls Try.prog 59 #[.string ⟨#[118, 97, 117, 108, 116]⟩, .string seed, .string (pbT (c + j)), .int .i64 32] W fun e w' => e = .returned (.tuple #[.string (drawP seed (c + j)), .int .i64 0]) ∧ Below W.heap.size W w') := ⟨fun W => hkdf_Derive.calls vltB seed (pbT (c + j)) 32 (drawP seed (c + j)) 0 W (HD.out (c + j) HS.out)⟩
      clear c2
      go_region_held3 (fun w' => w'.cell? ⟨tb, 0, none⟩ = some (.string seed) ∧ w'.cell? ⟨tb, 1, none⟩ = some (.int .i64 ((c : Int) + (j : Int))))
        (first | go_keep | exact ⟨c0, c1⟩)
        (first
          | (go_at_call 96; (with_reducible refine (HPW.out _ _ (by first | exact Kd.C_drew (lit_reads _ [0, (c : Int) + (j : Int)] 3 (by simp)) | exact lit_reads _ [0, (c : Int) + (j : Int)] 3 (by simp))).mono ?_); rintro e w3 ⟨rfl, hb3⟩; have hw3 : Below w2.heap.size w2 w3 := below_step (by repeat (first | exact Below.refl _ _ | apply below_alloc | apply below_drew1)) hb3; replace c0 := pw_cell_below hw3 c0; replace c1 := pw_cell_below hw3 c1; clear hb3)
          | (go_at_call 59; (with_reducible refine (HDW.out _).mono ?_); rintro e w4 ⟨rfl, hb4⟩; have hw4 : Below w2.heap.size w2 w4 := below_step (by repeat (first | exact hw3 | apply below_alloc | apply below_drew1)) hb4; clear hb4 hw3 c0 c1; obtain ⟨c0, c1, c2⟩ := (HTB.out.below hw4).cells; rw [Int.natCast_add] at c1; clear c2))
      have hI4 := isBuilder_below HI.out hw4
      have hT4 := HTB.out.below hw4
      have hG4 := HG.out.trans (grown_of_below hw4 (some tb))
      have HI4 := Aside0.mk hI4
      have HT4 := Aside0.mk hT4
      have HG4 := Aside0.mk hG4
      have HPS := Aside0.mk (drawP_size seed (c + j))
      have HEX : Aside0 (Lib.byteCells (txt (drawL seed c (j + 1))).data.toList = Lib.byteCells (txt (drawL seed c j)).data.toList ++ Lib.strCells (drawP seed (c + j))) := ⟨by
        rw [drawL, txt_append, txt_bys]
        simp [Lib.byteCells, Lib.strCells, ByteArray.data_append]⟩
      have HLW : Aside0 ((Lib.byteCells (txt (drawL seed c j)).data.toList).length + (drawP seed (c + j)).size ≤ 140737488355328) := ⟨by rw [HLE.out, HPS.out]; omega⟩
      clear hI4 hT4 hG4 c0 c1 hw4 HPW HDW HI HTB HG HT HD HS
      generalize drawP seed (c + j) = PP at *
      go_wp2_with (fail)
      refine (Try.Builder_WriteString w.heap.size w.heap.size _ PP _ HI4.out HLW.out HG4.out.size).mono ?_
      rintro e w5 ⟨rfl, hI5, hb5⟩
      have HI5 := Aside0.mk hI5
      have hT5 : TabAt tb mb seed (c + j) w5 := (hb5.block tb HLT.out).trans HT4.out
      have HT5 := Aside0.mk hT5
      have HG5 := Aside0.mk (grown_then HG4.out hb5)
      obtain ⟨c0, c1, c2⟩ := hT5.cells
      rw [Int.natCast_add] at c1
      have f1 := blk_thaw hT5 1
      clear hI5 hb5 hT5 c0 c2 HI4 HT4 HG4
      go_wp2_with (fail)
      go_roundg (gk - 1)
      case measure =>
        have := HQ.out
        have := HLT2.out
        omega
      case rel =>
        go_light
        refine ⟨j + 1, HLT2.out, ⟨by have := HQ.out; omega⟩, ⟨?_⟩, ⟨?_⟩, ⟨?_⟩⟩
        · rw [HEX.out]
          exact .inr (builder_far HI5.out tb 1 _ HLT.out)
        · exact blk_put HT5.out 1 _ (by
            show #[Value.string seed, Value.int .i64 _, Value.map (some mb)] = _
            rw [show ((c + (j + 1) : Nat) : Int) = (c : Int) + (j : Int) + 1 by omega])
        · exact HG5.out.trans (grown_set _ tb 1 _)
    · have d1 : decide (32 * (j : Int) < (n : Int)) = false := decide_eq_false (by have := HN.out; omega)
      obtain rfl : j = N := by omega
      clear hlt
      have hYs : (txt (drawL seed c j)).size = 32 * j := by rw [txt_size, drawL_length]
      have i1 := eq_true (show (n : Int) ≤ ((txt (drawL seed c j)).size : Int) by rw [hYs]; have := HN.out; omega)
      have i2 := eq_true (show 0 ≤ (n : Int) by omega)
      clear hYs
      have HF : Aside0 ((txt (drawL seed c j)).extract 0 n = txt ((drawL seed c j).take n)) := ⟨by rw [txt_extract]; rfl⟩
      go_wp2_with (go_at_call 85; refine (Try.Builder_Len w.heap.size w.heap.size _ _ HI.out).mono ?_; rw [HLE.out]; rintro e w2 ⟨rfl, rfl⟩)
      refine (Try.Builder_String_any w.heap.size w.heap.size _ _ HI.out HG.out.size).mono ?_
      rw [show (⟨(txt (drawL seed c j)).data.toList.toArray⟩ : ByteArray) = txt (drawL seed c j) by simp]
      rintro e w3 ⟨rfl, hb2⟩
      go_wp2_with (fail)
      go_ret
      rw [HF.out]
      exact ⟨rfl, (hb2.block tb HLT.out).trans HTB.out, grown_then HG.out hb2⟩
end Go.Proofs.Ytbkbganflnemeaa.Pr
end

section
namespace Go.Proofs.Ytbkbganflnemeaa.Pr
open Go.RowKit Go.Proofs.YtbkbganflnemeaaW.PrintWords Go.Proofs.YtbkbganflnemeaaW.PrintLast Go.Proofs.YtbkbganflnemeaaW.PrintMore
attribute [local go_sem] max2_int min2_int max_two min_two max_three min_three max_four min_four
def vault_may.f (a0 : ByteArray) (a1 : ByteArray) (a2 : Int) (a3 : Int) : Option (Bool) := if (a0.size : Int) = 32 then (if (a1.size : Int) = 12 then (if a2 ≤ 32768 then (some (decide (a3 ≤ (wrap64 (32768 - a2))))) else (some false)) else (some false)) else (some false)
set_option maxHeartbeats 8000000 in
set_option maxRecDepth 100000 in
theorem vault_may.calls (a0 : ByteArray) (a1 : ByteArray) (a2 : Int) (a3 : Int) (r : Bool) (w : World) (h : vault_may.f a0 a1 a2 a3 = some r) :
  Calls Try.prog 62 #[.string a0, .string a1, .int .i64 a2, .int .i64 a3] w fun e w' => e = .returned (.bool r) ∧ Drawn0 w w' := by
 have H : (if (a0.size : Int) = 32 then (if (a1.size : Int) = 12 then (if a2 ≤ 32768 then (some (decide (a3 ≤ (wrap64 (32768 - a2))))) else (some false)) else (some false)) else (some false)) = some r := h; clear h; by_cases c5 : (a0.size : Int) = 32
 ·rw [if_pos c5] at H; have c5b0 : ((a0.size : Int) == 32) = true := beq_iff_eq.mpr c5; have c5b1 : ((a0.size : Int) != 32) = false := bne_eq_false_iff_eq.mpr c5; clear c5; by_cases c6 : (a1.size : Int) = 12
  ·rw [if_pos c6] at H; have c6b0 : ((a1.size : Int) == 12) = true := beq_iff_eq.mpr c6; have c6b1 : ((a1.size : Int) != 12) = false := bne_eq_false_iff_eq.mpr c6; clear c6; by_cases c7 : a2 ≤ 32768
   ·rw [if_pos c7] at H; have c7b0 : decide (a2 ≤ 32768) = true := decide_eq_true c7; clear c7; obtain rfl := Option.some.inj H; go_enter Try.func62, Try.ntmps62
    go_wp2; go_ret
    exact ⟨rz_, dz_⟩
   ·rw [if_neg c7] at H; have c7b0 : decide (a2 ≤ 32768) = false := decide_eq_false c7; clear c7; obtain rfl := Option.some.inj H; go_enter Try.func62, Try.ntmps62
    go_wp2; go_ret
    exact ⟨rz_, dz_⟩
  ·rw [if_neg c6] at H; have c6b0 : ((a1.size : Int) == 12) = false := beq_eq_false_iff_ne.mpr c6; have c6b1 : ((a1.size : Int) != 12) = true := bne_iff_ne.mpr c6; obtain rfl := Option.some.inj H; go_enter Try.func62, Try.ntmps62
   go_wp2; go_ret
   exact ⟨rz_, dz_⟩
 ·rw [if_neg c5] at H; have c5b0 : ((a0.size : Int) == 32) = false := beq_eq_false_iff_ne.mpr c5; have c5b1 : ((a0.size : Int) != 32) = true := bne_iff_ne.mpr c5; obtain rfl := Option.some.inj H; go_enter Try.func62, Try.ntmps62
  go_wp2; go_ret
  exact ⟨rz_, dz_⟩
end Go.Proofs.Ytbkbganflnemeaa.Pr
end

section
namespace Go.Proofs.Ytbkbganflnemeaa.Pr
open Go.RowKit Go.Deep Go.Maps Go.Proofs.YtbkbganflnemeaaW.PrintWords Go.Proofs.YtbkbganflnemeaaW.PrintLast Go.Proofs.YtbkbganflnemeaaW.PrintMore
set_option maxHeartbeats 2000000
def wayD (a b c d : ByteArray) : DataW Unit := .agg [.lit (.string a.data.toList), .lit (.string b.data.toList), .lit (.string c.data.toList), .lit (.string d.data.toList)]
def wayElem : Value → Option (DataW Unit × List MemPlace)
 | .agg ⟨[.string a, .string b, .string c, .string d]⟩ => some (wayD a b c d, [])
 | _ => none
theorem wayElem_mk (a b c d : ByteArray) : wayElem (.agg #[.string a, .string b, .string c, .string d]) = some (wayD a b c d, []) := rfl
theorem wayElem_inv {v : Value} {x : DataW Unit} {ps : List MemPlace} (h : wayElem v = some (x, ps)) : ∃ a b c d, v = .agg #[.string a, .string b, .string c, .string d] ∧ x = wayD a b c d := by
 unfold wayElem at h
 split at h
 ·cases h; exact ⟨_, _, _, _, rfl, rfl⟩
 ·cases h
theorem law9 : Keyed Try.prog 9 := string_keyed Try.underlying9
def FrV (tb mb : Nat) (w w' : World) : Prop := w'.os = w.os ∧ w'.tape = w.tape ∧ w'.output = w.output ∧ w.heap.size ≤ w'.heap.size ∧ ∀ k, k < w.heap.size → k ≠ tb → k ≠ mb → w'.heap[k]? = w.heap[k]?
theorem FrV.trans {tb mb : Nat} {a b c : World} (h : FrV tb mb a b) (k : FrV tb mb b c) : FrV tb mb a c :=
 ⟨k.1.trans h.1, k.2.1.trans h.2.1, k.2.2.1.trans h.2.2.1, Nat.le_trans h.2.2.2.1 k.2.2.2.1, fun i hi h1 h2 => (k.2.2.2.2 i (Nat.lt_of_lt_of_le hi h.2.2.2.1) h1 h2).trans (h.2.2.2.2 i hi h1 h2)⟩
theorem FrV.tb {tb mb : Nat} {a b : World} (h : a.grownBy b (some tb)) : FrV tb mb a b := ⟨h.os, h.tape, h.output, h.size, fun k hk h1 _ => h.block k hk (by simpa using h1)⟩
theorem FrV.mb {tb mb : Nat} {a b : World} (h : a.grownBy b (some mb)) : FrV tb mb a b := ⟨h.os, h.tape, h.output, h.size, fun k hk _ h2 => h.block k hk (by simpa using h2)⟩
theorem FrV.of_below {tb mb : Nat} {a b : World} (h : Below a.heap.size a b) : FrV tb mb a b := FrV.tb (grown_of_below h _)
theorem FrV.below {tb mb B : Nat} {a b : World} (h : FrV tb mb a b) (h1 : B ≤ tb) (h2 : B ≤ mb) (h3 : B ≤ a.heap.size) : Below B a b := ⟨h.1, h.2.1, h.2.2.1, h.2.2.2.1, fun k hk => h.2.2.2.2 k (by omega) (by omega) (by omega)⟩
structure IdealAt (g tb mb : Nat) (seed : ByteArray) (c k : Nat) (D : DataW Unit) (w : World) : Prop where
 box : w.heap[g]? = some (.cells #[.iface 92 (.pointer (some ⟨tb, 0, none⟩))] 43 (0, 0))
 tab : TabAt tb mb seed c w
 own : w.ownsMap Try.prog 9 wayElem mb k D
theorem IdealAt.g_tb {g tb mb : Nat} {seed : ByteArray} {c k : Nat} {D : DataW Unit} {w : World} (h : IdealAt g tb mb seed c k D w) : g ≠ tb := fun e => by
 have h1 := h.box
 rw [e, h.tab] at h1
 injection h1 with h1
 injection h1 with _ h2 _
 exact absurd h2 (by decide)
theorem IdealAt.g_mb {g tb mb : Nat} {seed : ByteArray} {c k : Nat} {D : DataW Unit} {w : World} (h : IdealAt g tb mb seed c k D w) : g ≠ mb := fun e => by
 obtain ⟨es, clock, hb, _⟩ := h.own
 have h1 := h.box
 rw [e, hb] at h1
 cases h1
theorem IdealAt.tb_mb {g tb mb : Nat} {seed : ByteArray} {c k : Nat} {D : DataW Unit} {w : World} (h : IdealAt g tb mb seed c k D w) : tb ≠ mb := fun e => by
 obtain ⟨es, clock, hb, _⟩ := h.own
 have h1 : w.heap[tb]? = _ := h.tab
 rw [e, hb] at h1
 cases h1
theorem IdealAt.below {g tb mb : Nat} {seed : ByteArray} {c k : Nat} {D : DataW Unit} {w w' : World} (h : IdealAt g tb mb seed c k D w) (hb : Below w.heap.size w w') : IdealAt g tb mb seed c k D w' :=
 ⟨(hb.block g (blk_lt h.box)).trans h.box, h.tab.below hb, h.own.kept (grown_of_below hb none) (by simp)⟩
theorem Ideal_calls (seed : ByteArray) (w : World) :
  Calls Try.prog 26 #[.string seed] w fun e w' => e = .returned (.pointer (some ⟨w.heap.size + 2, 0, none⟩)) ∧ IdealAt (w.heap.size + 2) (w.heap.size + 1) w.heap.size seed 0 0 (.map []) w' ∧ Below w.heap.size w w' := by
 have hmm := @run_makeMap Try.prog
 go_enter Try.func26, Try.ntmps26
 go_wp2_with (fail)
 go_ret
 refine ⟨rfl, ⟨?_, ?_, ?_⟩, below_alloc (below_alloc (below_alloc (Below.refl _ _) _) _) _⟩
 ·have := heap_alloc_new ((w.alloc (.map #[] 0)).alloc (.cells #[.string seed, .int .i64 0, .map (some w.heap.size)] 95)) (.cells #[.iface 92 (.pointer (some ⟨w.heap.size + 1, 0, none⟩))] 43)
  simpa using this
 ·have h1 := heap_alloc_new (w.alloc (.map #[] 0)) (.cells #[.string seed, .int .i64 0, .map (some w.heap.size)] 95)
  have h2 : (w.alloc (.map #[] 0)).heap.size = w.heap.size + 1 := by simp
  rw [h2] at h1
  exact blk_alloc h1 _
 ·exact ((World.ownsMap_made w Try.prog 9 wayElem).alloc _).alloc _
theorem as_table (s_ : TypeId) (v : Value) (w : World) : (Instr.typeAssert (.iface 92 v) s_ 92 true).run Try.prog w = .ok (.tuple #[v, .bool true]) w := by
 unfold Instr.typeAssert
 simp [Sem.run_bind, run_underlying Try.underlying92, Result.andThen]
theorem as_ciphers (s_ : TypeId) (v : Value) (w : World) : (Instr.typeAssert (.iface 91 v) s_ 92 true).run Try.prog w = .ok (.tuple #[.pointer none, .bool false]) w := by
 unfold Instr.typeAssert
 simp [Sem.run_bind, run_underlying Try.underlying92, Result.andThen, Try.zeroValue92]
def sealN (text : ByteArray) : Nat := (text.size + 16 + 31) / 32
def sealO (seed : ByteArray) (c : Nat) (text : ByteArray) : ByteArray := txt ((drawL seed c (sealN text)).take (text.size + 16))
theorem vmay_f (a0 a1 : ByteArray) (x y : Nat) (h : aeadOK a0 a1 x y) : vault_may.f a0 a1 (x : Int) (y : Int) = some true := by
 obtain ⟨h0, h1, h2, h3⟩ := h
 unfold vault_may.f
 have hw : wrap64 (32768 - (x : Int)) = 32768 - (x : Int) := by unfold wrap64; omega
 rw [if_pos (by omega), if_pos (by omega), if_pos (by omega), hw, decide_eq_true (by omega)]
set_option maxRecDepth 100000 in
theorem Seal_ideal (g tb mb : Nat) (seed : ByteArray) (c k : Nat) (D : DataW Unit) (key nonce bound text : ByteArray) (w : World) (hs : seed.size ≤ 1000000) (hc : c ≤ 1000000) (hk : k ≤ 1000000) (hok : aeadOK key nonce bound.size text.size) (hI : IdealAt g tb mb seed c k D w) :
  Calls Try.prog 27 #[.pointer (some ⟨g, 0, none⟩), .string key, .string nonce, .string bound, .string text] w fun e w' => e = .returned (.tuple #[.string (sealO seed c text), .int .i64 0]) ∧
   IdealAt g tb mb seed (c + sealN text) (k + 1) (D.put (.string (sealO seed c text).data.toList) (wayD key nonce bound text)) w' ∧ FrV tb mb w w' := by
 have HI := Aside0.mk hI
 have c0 : w.cell? ⟨g, 0, none⟩ = some (.iface 92 (.pointer (some ⟨tb, 0, none⟩))) := by rw [cell_of_row _ _ _ _ _ _ hI.box]; rfl
 have HM := Aside0.mk (fun W => vault_may.calls key nonce (bound.size : Int) (text.size : Int) true W (vmay_f _ _ _ _ hok))
 have HN : Aside0 (text.size + 16 ≤ 40000) := ⟨by have := hok.2.2.2; omega⟩
 have HS := Aside0.mk hs
 have HC := Aside0.mk hc
 have ha := as_table
 clear hI hok hs hc
 go_enter Try.func27, Try.ntmps27
 go_wp2_with (go_at_call 61; refine (made_some g _ _ _ c0).mono ?_; rintro e w1 ⟨rfl, rfl⟩)
 refine (HM.out _).mono ?_
 rintro e w2 ⟨rfl, ⟨nd, rfl⟩⟩
 have HI2 := Aside0.mk (HI.out.below (pw_below_drewN (Below.refl _ _) nd))
 have HF2 : Aside0 (FrV tb mb w1 (w1.drewN nd)) := ⟨FrV.of_below (pw_below_drewN (Below.refl _ _) nd)⟩
 generalize w1.drewN nd = w2 at HI2 HF2 ⊢
 go_wp2_with (fail)
 rw [show wrap64 ((text.size : Int) + 16) = ((text.size + 16 : Nat) : Int) by have := HN.out; unfold wrap64; omega]
 refine (draw_calls seed HS.out tb mb c (text.size + 16) _ HN.out HC.out HI2.out.tab).mono ?_
 rintro e w3 ⟨rfl, hT3, hg3⟩
 have hown3 := HI2.out.own.kept hg3 (by simpa using HI2.out.tb_mb.symm)
 have hbox3 := (hg3.block g (blk_lt HI2.out.box) (by simpa using HI2.out.g_tb)).trans HI2.out.box
 obtain ⟨d0, d1, d2⟩ := hT3.cells
 have HT3 := Aside0.mk hT3
 have HB3 := Aside0.mk hbox3
 have HF3 := Aside0.mk (HF2.out.trans (FrV.tb hg3 : FrV tb mb w2 w3))
 have HO3 := Aside0.mk hown3
 have HNE := Aside0.mk HI2.out.tb_mb
 have HNG := Aside0.mk HI2.out.g_mb
 have hO : txt ((drawL seed c ((text.size + 16 + 31) / 32)).take (text.size + 16)) = sealO seed c text := rfl
 have hOs : (sealO seed c text).size ≤ 40000 := by unfold sealO; rw [txt_size, List.length_take]; have := HN.out; omega
 have hkey : keyOf Try.prog 9 (.string (sealO seed c text)) = some (.string (sealO seed c text).data.toList) := WideMaps.keyOf_string_mk Try.underlying9 (by unfold maxLen; omega)
 have HKEY := Aside0.mk hkey
 rw [hO]
 have hN : c + (text.size + 16 + 31) / 32 = c + sealN text := rfl
 rw [hN] at HT3
 clear hO hOs hkey hT3 hg3 hown3 hbox3 d0 d1 hN HI HI2 HF2 c0
 generalize hOO : sealO seed c text = OO at *
 have HOO := Aside0.mk hOO
 clear hOO
 have HKL : Aside0 (k < maxLen) := ⟨by unfold maxLen; omega⟩
 go_wp2_with (at_mapUpdate; refine wpList_mapUpdate_own _ rfl _ _ _ 93 rfl 9 99 law9 Try.underlying93 wayElem mb k D rfl HO3.out HKL.out _ _ (.string OO.data.toList) rfl rfl HKEY.out (wayD key nonce bound text) [] (wayElem_mk _ _ _ _) ?_; intro w4 hown4 hg4)
 go_ret2
 rw [HOO.out]
 refine ⟨rfl, ⟨?_, ?_, hown4⟩, HF3.out.trans (FrV.mb hg4)⟩
 ·exact (hg4.block g (blk_lt HB3.out) (by simpa using HNG.out)).trans HB3.out
 ·exact (hg4.block tb (blk_lt HT3.out) (by simpa using HNE.out)).trans HT3.out
def noWay : DataW Unit := wayD ⟨#[]⟩ ⟨#[]⟩ ⟨#[]⟩ ⟨#[]⟩
theorem wayD_inj {a b c d a' b' c' d' : ByteArray} (h : wayD a b c d = wayD a' b' c' d') : a = a' ∧ b = b' ∧ c = c' ∧ d = d' := by
 unfold wayD at h
 simp only [DataW.agg.injEq, List.cons.injEq, DataW.lit.injEq, Lit.string.injEq, and_true] at h
 obtain ⟨h1, h2, h3, h4⟩ := h
 exact ⟨ByteArray.ext (Array.ext' h1), ByteArray.ext (Array.ext' h2), ByteArray.ext (Array.ext' h3), ByteArray.ext (Array.ext' h4)⟩
theorem zero_way (w : World) : (zeroValue 99).run Try.prog w = .ok (.agg #[.string ⟨#[]⟩, .string ⟨#[]⟩, .string ⟨#[]⟩, .string ⟨#[]⟩]) w := by kernel_rfl
def openR (has : Bool) (key nonce bound a b c d : ByteArray) : ByteArray × Int := if has = true ∧ a = key ∧ b = nonce ∧ c = bound then (d, 0) else (⟨#[]⟩, 70)
theorem toList_inj {x y : ByteArray} (h : x.toList = y.toList) : x = y := by
 rw [ByteArray.toList_eq, ByteArray.toList_eq] at h
 exact ByteArray.ext (Array.ext' h)
set_option maxRecDepth 100000 in
theorem Open_ideal (g tb mb : Nat) (seed : ByteArray) (c k : Nat) (D : DataW Unit) (key nonce bound sealed a b cc d : ByteArray) (w : World) (hsz : sealed.size ≤ 1000000) (hok : aeadOK key nonce bound.size (sealed.size - 16)) (hI : IdealAt g tb mb seed c k D w)
    (hat : D.atKey (.string sealed.data.toList) noWay = wayD a b cc d) :
    Calls Try.prog 28 #[.pointer (some ⟨g, 0, none⟩), .string key, .string nonce, .string bound, .string sealed] w fun e w' =>
      e = .returned (.tuple #[.string (openR (Maps.has D (.string sealed.data.toList)) key nonce bound a b cc d).1, .int .i64 (openR (Maps.has D (.string sealed.data.toList)) key nonce bound a b cc d).2]) ∧ Below w.heap.size w w' := by
  have HI := Aside0.mk hI
  have c0 : w.cell? ⟨g, 0, none⟩ = some (.iface 92 (.pointer (some ⟨tb, 0, none⟩))) := by rw [cell_of_row _ _ _ _ _ _ hI.box]; rfl
  have HM := Aside0.mk (fun W => vault_may.calls key nonce (bound.size : Int) ((sealed.size - 16 : Nat) : Int) true W (vmay_f _ _ _ _ hok))
  have HS := Aside0.mk hsz
  have HAT := Aside0.mk hat
  have HKEY := Aside0.mk (WideMaps.keyOf_string_mk (P := Try.prog) Try.underlying9 (show sealed.size ≤ maxLen by unfold maxLen; omega))
  have ha := as_table
  clear hI hok hsz hat
  go_enter Try.func28, Try.ntmps28
  go_wp2_with (go_at_call 61; refine (made_some g _ _ _ c0).mono ?_; rintro e w1 ⟨rfl, rfl⟩)
  rw [show max 0 (wrap64 ((sealed.size : Int) - 16)) = ((sealed.size - 16 : Nat) : Int) by have := HS.out; unfold wrap64; omega]
  refine (HM.out _).mono ?_
  rintro e w2 ⟨rfl, ⟨nd, rfl⟩⟩
  have HI2 := Aside0.mk (HI.out.below (pw_below_drewN (Below.refl _ _) nd))
  have HF2 : Aside0 (Below w1.heap.size w1 (w1.drewN nd)) := ⟨pw_below_drewN (Below.refl _ _) nd⟩
  generalize w1.drewN nd = w2 at HI2 HF2 ⊢
  obtain ⟨d0, d1, d2⟩ := HI2.out.tab.cells
  clear c0 d0 d1
  go_wp2_with (at_lookup; refine wpList_lookup_own_ok _ rfl _ _ 93 rfl 9 99 law9 Try.underlying93 wayElem (zero_way _) noWay [] rfl mb k D rfl HI2.out.own _ _ rfl HKEY.out ?_; intro v ps hv; rw [HAT.out] at hv; obtain ⟨a', b', c', d', rfl, hw⟩ := wayElem_inv hv; obtain ⟨rfl, rfl, rfl, rfl⟩ := wayD_inj hw; clear hv hw)
  all_goals
    go_ret2
    refine ⟨?_, below_alloc HF2.out _⟩
    unfold openR
    first
      | rw [if_pos ⟨by assumption, toList_inj (by assumption), toList_inj (by assumption), toList_inj (by simpa using (by assumption : (!cc.toList == bound.toList) = false))⟩]
        rfl
      | rw [if_neg (fun h => absurd h.1 (by assumption))]
        rfl
      | rw [if_neg (fun h => absurd (congrArg ByteArray.toList h.2.1) (by assumption))]
        rfl
      | rw [if_neg (fun h => absurd (congrArg ByteArray.toList h.2.2.1) (by assumption))]
        rfl
      | rw [if_neg (fun h => by
          have h2 : (!cc.toList == bound.toList) = true := by assumption
          rw [h.2.2.2] at h2
          simp at h2)]
        rfl
theorem Many_ideal (g tb mb : Nat) (seed : ByteArray) (c k : Nat) (D : DataW Unit) (w : World) (hI : IdealAt g tb mb seed c k D w) :
  Calls Try.prog 31 #[.pointer (some ⟨g, 0, none⟩)] w fun e w' => e = .returned (.int .i64 (Maps.size D)) ∧ w' = w := by
 have HI := Aside0.mk hI
 have c0 : w.cell? ⟨g, 0, none⟩ = some (.iface 92 (.pointer (some ⟨tb, 0, none⟩))) := by rw [cell_of_row _ _ _ _ _ _ hI.box]; rfl
 obtain ⟨d0, d1, d2⟩ := hI.tab.cells
 have ha := as_table
 clear hI d0 d1
 go_enter Try.func31, Try.ntmps31
 go_wp2_with (first | (go_at_call 61; refine (made_some g _ _ _ c0).mono ?_; rintro e w1 ⟨rfl, rfl⟩) | (at_len; refine wpList_len_own _ rfl _ 93 rfl 9 99 Try.underlying93 wayElem mb k D rfl HI.out.own ?_))
 go_ret
 exact ⟨rfl, rfl⟩
theorem RealAt.below {g : Nat} {w w' : World} (h : RealAt g w) (hb : Below w.heap.size w w') : RealAt g w' := (hb.block g (blk_lt h)).trans h
theorem Many_real (g : Nat) (w : World) (hI : RealAt g w) :
  Calls Try.prog 31 #[.pointer (some ⟨g, 0, none⟩)] w fun e w' => e = .returned (.int .i64 (-1)) ∧ w' = w := by
 have c0 : w.cell? ⟨g, 0, none⟩ = some (.iface 91 (.agg #[])) := by rw [cell_of_row _ _ _ _ _ _ hI]; rfl
 have ha := as_ciphers
 clear hI
 go_enter Try.func31, Try.ntmps31
 go_wp2_with (go_at_call 61; refine (made_some g _ _ _ c0).mono ?_; rintro e w1 ⟨rfl, rfl⟩)
 go_ret
 exact ⟨rfl, rfl⟩
theorem Seal_real (g : Nat) (key nonce bound text : ByteArray) (w : World) (h2 : bound.size ≤ 1000000000000000) (h3 : text.size ≤ 1000000000000000) (hI : RealAt g w) :
  Calls Try.prog 27 #[.pointer (some ⟨g, 0, none⟩), .string key, .string nonce, .string bound, .string text] w fun e w' => e = .returned (.tuple #[.string (sealF key nonce bound text).1, .int .i64 (sealF key nonce bound text).2]) ∧ Below w.heap.size w w' := by
 have c0 : w.cell? ⟨g, 0, none⟩ = some (.iface 91 (.agg #[])) := by rw [cell_of_row _ _ _ _ _ _ hI]; rfl
 have HS := Aside0.mk (fun W => aead_Seal.calls key nonce bound text (sealF key nonce bound text).1 (sealF key nonce bound text).2 W (aead_Seal_f _ _ _ _ h2 h3))
 have ha := as_ciphers
 clear hI
 generalize (sealF key nonce bound text).1 = O at *
 generalize (sealF key nonce bound text).2 = e1 at *
 go_enter Try.func27, Try.ntmps27
 go_wp2_with (first | (go_at_call 61; refine (made_some g _ _ _ c0).mono ?_; rintro e w1 ⟨rfl, rfl⟩) | (go_at_call 29; refine (HS.out _).mono ?_; rintro e w2 ⟨rfl, hb⟩))
 go_ret2
 exact ⟨rfl, hb⟩
theorem Open_real (g : Nat) (key nonce bound text : ByteArray) (w : World) (h2 : bound.size ≤ 1000000000000000) (h3 : text.size ≤ 1000000000000000) (hI : RealAt g w) :
  Calls Try.prog 28 #[.pointer (some ⟨g, 0, none⟩), .string key, .string nonce, .string bound, .string text] w fun e w' => e = .returned (.tuple #[.string (openF key nonce bound text).1, .int .i64 (openF key nonce bound text).2]) ∧ Below w.heap.size w w' := by
 have c0 : w.cell? ⟨g, 0, none⟩ = some (.iface 91 (.agg #[])) := by rw [cell_of_row _ _ _ _ _ _ hI]; rfl
 have HS := Aside0.mk (fun W => aead_Open.calls key nonce bound text (openF key nonce bound text).1 (openF key nonce bound text).2 W (aead_Open_f _ _ _ _ h2 h3))
 have ha := as_ciphers
 clear hI
 generalize (openF key nonce bound text).1 = O at *
 generalize (openF key nonce bound text).2 = e1 at *
 go_enter Try.func28, Try.ntmps28
 go_wp2_with (first | (go_at_call 61; refine (made_some g _ _ _ c0).mono ?_; rintro e w1 ⟨rfl, rfl⟩) | (go_at_call 64; refine (HS.out _).mono ?_; rintro e w2 ⟨rfl, hb⟩))
 go_ret2
 exact ⟨rfl, hb⟩
end Go.Proofs.Ytbkbganflnemeaa.Pr
end

section
namespace Go.Proofs.Ytbkbganflnemeaa.Pr
open Go.RowKit Go.Deep Go.Maps Go.Proofs.YtbkbganflnemeaaW.PrintWords Go.Proofs.YtbkbganflnemeaaW.PrintLast Go.Proofs.YtbkbganflnemeaaW.PrintMore
attribute [local go_sem] max2_int min2_int max_two min_two max_three min_three max_four min_four
set_option maxHeartbeats 8000000
def vText : ByteArray := ⟨#[116, 101, 120, 116]⟩
def vD (o : ByteArray) (key nonce : ByteArray) : DataW Unit := (DataW.map []).put (.string o.data.toList) (wayD key nonce ⟨#[98]⟩ vText)
theorem vD_at (o key nonce : ByteArray) : (vD o key nonce).atKey (.string o.data.toList) noWay = wayD key nonce ⟨#[98]⟩ vText := atKey_put_same ⟨[], rfl⟩ (by trivial) _ _
theorem vD_has (o key nonce : ByteArray) : Maps.has (vD o key nonce) (.string o.data.toList) = true := has_put_same ⟨[], rfl⟩ (by trivial) _
theorem vD_size (o key nonce : ByteArray) : Maps.size (vD o key nonce) = 1 := by
 unfold vD
 rw [size_put ⟨[], rfl, by simp⟩]
 rfl
theorem sealO_size (seed : ByteArray) (c : Nat) (text : ByteArray) : (sealO seed c text).size = text.size + 16 := by
 unfold sealO sealN
 rw [txt_size, List.length_take, drawL_length]
 omega
theorem openR_yes (key nonce b d : ByteArray) : openR true key nonce b key nonce b d = (d, 0) := if_pos ⟨rfl, rfl, rfl, rfl⟩
theorem openR_no (has : Bool) (key nonce b key' nonce' b' d : ByteArray) (h : b' ≠ b) : openR has key nonce b key' nonce' b' d = (⟨#[]⟩, 70) := if_neg (fun q => h q.2.2.2)
set_option maxRecDepth 100000 in
theorem vawake_calls (w : World) : Calls Try.prog 24 #[] w fun e w' => e = .returned (.bool true) ∧ Below w.heap.size w w' := by
 have HB := Aside0.mk (Below.refl w.heap.size w)
 have c1b0 := eq_true (show 32 ≤ 281474976710656 by decide)
 have c1b1 : decide (32 ≤ 281474976710656) = true := rfl
 have c2b0 := eq_true (show 12 ≤ 281474976710656 by decide)
 have c2b1 : decide (12 ≤ 281474976710656) = true := rfl
 obtain ⟨y106, hy106⟩ : ∃ y_ : List Int, y_ = (List.replicate 32 0) := ⟨_, rfl⟩
 have Ny106 := Aside0.mk hy106
 clear hy106
 obtain ⟨y109, hy109⟩ : ∃ y_ : List Int, y_ = (List.replicate 12 0) := ⟨_, rfl⟩
 have Ny109 := Aside0.mk hy109
 clear hy109
 go_enter Try.func24, Try.ntmps24
 try go_wp2
 replace HB := Aside0.mk (below_drew1 HB.out)
 refine start_ (n := 6) (S := fun w' => True) (ds := []) #[false, false, false, false, false, false] (by kernel_rfl) rfl rfl trivial (fun hHeld => ?_)
 generalize w.drew = w10 at HB hHeld ⊢
 refine join_ (σ := Value × Value) 1 #[true, true, true, true, true, false] (fun s_ => [(10, s_.1), (11, .string (strOfNums y106)), (12, s_.2), (13, .string (strOfNums y109)), (1, .string (strOfNums y106))]) (fun s_ w' => (Kd.R (Kd.int .u8) 5 w' w.heap.size (fun k_ => some k_ ≠ (s_.2 : Value).ownBlock) s_.1 y106) ∧ (Kd.R (Kd.int .u8) 5 w' w.heap.size (fun k_ => some k_ ≠ (s_.1 : Value).ownBlock) s_.2 y109) ∧ (Below w.heap.size w w')) ?_ ?_
 rotate_left
 ·intro hJ0_1_2_3
  refine join_ (σ := Value × Value) 2 #[true, true, true, false, true, false] (fun s_ => [(10, s_.1), (11, .string (strOfNums y106)), (12, s_.2), (1, .string (strOfNums y106))]) (fun s_ w' => (Kd.R (Kd.int .u8) 5 w' w.heap.size (fun k_ => some k_ ≠ (s_.2 : Value).ownBlock) s_.1 y106) ∧ (Kd.R (Kd.int .u8) 5 w' w.heap.size (fun k_ => some k_ ≠ (s_.1 : Value).ownBlock) s_.2 y109) ∧ (Below w.heap.size w w')) ?_ ?_
  rotate_left
  ·intro hJ0_1_2
   refine join_ (σ := Value × Value) 3 #[true, false, true, true, false, false] (fun s_ => [(10, s_.1), (12, s_.2), (13, .string (strOfNums y109))]) (fun s_ w' => (Kd.R (Kd.int .u8) 5 w' w.heap.size (fun k_ => some k_ ≠ (s_.2 : Value).ownBlock) s_.1 y106) ∧ (Kd.R (Kd.int .u8) 5 w' w.heap.size (fun k_ => some k_ ≠ (s_.1 : Value).ownBlock) s_.2 y109) ∧ (Below w.heap.size w w')) ?_ ?_
   rotate_left
   ·intro hJ0_2_3
    refine join_ (σ := Value) 3 #[true, true, false, false, true, false] (fun s_ => [(10, s_), (11, .string (strOfNums y106)), (1, .string (strOfNums y106))]) (fun s_ w' => (Kd.R (Kd.int .u8) 5 w' w.heap.size (fun _ => True) s_ y106) ∧ (Below w.heap.size w w')) ?_ ?_
    rotate_left
    ·intro hJ0_1
     refine join_ (σ := Value × Value) 4 #[true, false, true, false, false, false] (fun s_ => [(10, s_.1), (12, s_.2)]) (fun s_ w' => (Kd.R (Kd.int .u8) 5 w' w.heap.size (fun k_ => some k_ ≠ (s_.2 : Value).ownBlock) s_.1 y106) ∧ (Kd.R (Kd.int .u8) 5 w' w.heap.size (fun k_ => some k_ ≠ (s_.1 : Value).ownBlock) s_.2 y109) ∧ (Below w.heap.size w w')) ?_ ?_
     rotate_left
     ·intro hJ0_2
      refine join_ (σ := Value) 4 #[false, false, true, true, false, false] (fun s_ => [(12, s_), (13, .string (strOfNums y109))]) (fun s_ w' => (Kd.R (Kd.int .u8) 5 w' w.heap.size (fun _ => True) s_ y109) ∧ (Below w.heap.size w w')) ?_ ?_
      rotate_left
      ·intro hJ2_3
       refine join_ (σ := Value) 5 #[true, false, false, false, false, false] (fun s_ => [(10, s_)]) (fun s_ w' => (Kd.R (Kd.int .u8) 5 w' w.heap.size (fun _ => True) s_ y106) ∧ (Below w.heap.size w w')) ?_ ?_
       rotate_left
       ·intro hJ0
        refine join_ (σ := Value) 5 #[false, false, true, false, false, false] (fun s_ => [(12, s_)]) (fun s_ w' => (Kd.R (Kd.int .u8) 5 w' w.heap.size (fun _ => True) s_ y109) ∧ (Below w.heap.size w w')) ?_ ?_
        rotate_left
        ·intro hJ2
         refine two_ (i := 0) (j := 2) (Ni := some 10) (Nj := some 12) #[true, false, false, false, false, false] #[false, false, true, false, false, false] rfl rfl rfl rfl (by kernel_rfl) (by decide) (by decide) (fun K hK => ?_) (fun K hK => ?_)
         ·skip
          refine Kd.R_make_step (Kd.int .u8) _ 5 (by rfl) (N := 10) rfl 68 _ _ rfl 32 rfl rfl Try.underlying68 (.int .u8 0) 1 info5 rfl (by decide) (by omega) 0 (ok := fun _ => True) (okp := fun _ => True) rfl (fun _ hk => hk) trivial (by omega) (by omega) (Below.refl _ _) (Nat.le_refl _) ?_
          intro v107 w11 ho12 hb hg_ hnew_
          clear hg_ hnew_
          (first | rw [← Ny106.out] at ho12 | (simp only [Int.reduceToNat] at ho12; rw [← Ny106.out] at ho12))
          have n0_ := Aside0.mk (Kd.R_lower ho12 (below_size hb_))
          have n1_ := Aside0.mk (below_step hb_ hb)
          clear HB
          have HO108 := n0_
          have HB := n1_
          clear n0_ n1_
          clear hb ho12
          refine hK.out _ _ trivial (fun hHeld => ?_)
          clear hK K
          refine norm_ sa_ ?_
          exact norm_ pu_ (hJ0 (v107) _ ⟨(ra_ HO108.out), hb_⟩)
         ·skip
          refine Kd.R_make_step (Kd.int .u8) _ 5 (by rfl) (N := 12) rfl 68 _ _ rfl 12 rfl rfl Try.underlying68 (.int .u8 0) 1 info5 rfl (by decide) (by omega) 0 (ok := fun _ => True) (okp := fun _ => True) rfl (fun _ hk => hk) trivial (by omega) (by omega) (Below.refl _ _) (Nat.le_refl _) ?_
          intro v110 w11 ho12 hb hg_ hnew_
          clear hg_ hnew_
          (first | rw [← Ny109.out] at ho12 | (simp only [Int.reduceToNat] at ho12; rw [← Ny109.out] at ho12))
          have n0_ := Aside0.mk (Kd.R_lower ho12 (below_size hb_))
          have n1_ := Aside0.mk (below_step hb_ hb)
          clear HB
          have HO111 := n0_
          have HB := n1_
          clear n0_ n1_
          clear hb ho12
          refine hK.out _ _ trivial (fun hHeld => ?_)
          clear hK K
          refine norm_ sa_ ?_
          exact norm_ pu_ (hJ2 (v110) _ ⟨(ra_ HO111.out), hb_⟩)
        ·skip
         rintro v110 w13 ⟨h0_, h1_⟩
         have n0_ : Aside0 (Kd.R (Kd.int .u8) 5 w13 w.heap.size (fun _ => True) v110 y109) := ⟨h0_⟩
         have n1_ : Aside0 (Below w.heap.size w w13) := ⟨h1_⟩
         clear HB
         clear h0_ h1_
         have HO111 := n0_
         have HB := n1_
         clear n0_ n1_
         have hHeld := trivial
         refine norm_ sb_ ?_
         refine two_ (i := 0) (j := 3) (Ni := some 10) (Nj := some 13) #[true, false, true, false, false, false] #[false, false, true, true, false, false] rfl rfl rfl rfl (by kernel_rfl) (by decide) (by decide) (fun K hK => ?_) (fun K hK => ?_)
         ·skip
          refine Kd.R_make_step (Kd.int .u8) _ 5 (by rfl) (N := 10) rfl 68 _ _ rfl 32 rfl rfl Try.underlying68 (.int .u8 0) 1 info5 rfl (by decide) (by omega) 0 (ok := fun _ => True) (okp := fun _ => True) rfl (fun _ hk => hk) trivial (by omega) (by omega) (Below.refl _ _) (Nat.le_refl _) ?_
          intro v107 w14 ho15 hb hg_ hnew_
          clear hg_ hnew_
          (first | rw [← Ny106.out] at ho15 | (simp only [Int.reduceToNat] at ho15; rw [← Ny106.out] at ho15))
          have n0_ := Aside0.mk (Kd.R_elder' (ra_ HO111.out) (Kd.R_base ho15) hb)
          have n1_ := Aside0.mk (Kd.R_lower (Kd.R_new' ho15 (Kd.R_lt (ra_ HO111.out))) (below_size hb_))
          have n2_ := Aside0.mk (below_step hb_ hb)
          clear HO111
          clear HB
          have HO111 := n0_
          have HO108 := n1_
          have HB := n2_
          clear n0_ n1_ n2_
          clear hb ho15
          refine hK.out _ _ trivial (fun hHeld => ?_)
          clear hK K
          refine norm_ sa_ ?_
          exact norm_ pu_ (hJ0_2 (v107, v110) _ ⟨(by (with_reducible repeat (first | apply Kd.R_alloc | apply Kd.R_drewN | apply Kd.R_drew)); exact Kd.R_mono HO108.out (fun _ hk => hk.2)), (by (with_reducible repeat (first | apply Kd.R_alloc | apply Kd.R_drewN | apply Kd.R_drew)); exact Kd.R_mono HO111.out (fun _ hk => hk.2)), hb_⟩)
         ·skip
          have hcv14 := own_string (P := Try.prog) Try.underlying68 Try.underlying5 Try.underlying9 (Kd.own_of_R HO111.out)
          refine value_ (w1 := ?_) (v := ?_) (by rfl) rfl ?_ ?_
          rotate_left 2
          ·go_simp
           constructor
           ·rfl
           ·rfl
          clear hcv14
          refine hK.out _ _ trivial (fun hHeld => ?_)
          clear hK K
          refine norm_ sa_ ?_
          exact norm_ pu_ (hJ2_3 (v110) _ ⟨(ra_ HO111.out), hb_⟩)
       ·skip
        rintro v107 w13 ⟨h0_, h1_⟩
        have n0_ : Aside0 (Kd.R (Kd.int .u8) 5 w13 w.heap.size (fun _ => True) v107 y106) := ⟨h0_⟩
        have n1_ : Aside0 (Below w.heap.size w w13) := ⟨h1_⟩
        clear HB
        clear h0_ h1_
        have HO108 := n0_
        have HB := n1_
        clear n0_ n1_
        have hHeld := trivial
        refine norm_ sb_ ?_
        refine two_ (i := 1) (j := 2) (Ni := some 11) (Nj := some 12) #[true, true, false, false, false, false] #[true, false, true, false, false, false] rfl rfl rfl rfl (by kernel_rfl) (by decide) (by decide) (fun K hK => ?_) (fun K hK => ?_)
        ·skip
         have hcv14 := own_string (P := Try.prog) Try.underlying68 Try.underlying5 Try.underlying9 (Kd.own_of_R HO108.out)
         refine value_ (w1 := ?_) (v := ?_) (by rfl) rfl ?_ ?_
         rotate_left 2
         ·go_simp
          constructor
          ·rfl
          ·rfl
         clear hcv14
         refine hK.out _ _ trivial (fun hHeld => ?_)
         clear hK K
         refine norm_ sa_ ?_
         refine pz_ 4 1 rfl rfl (by kernel_rfl) ?_
         exact norm_ pu_ (hJ0_1 (v107) _ ⟨(ra_ HO108.out), hb_⟩)
        ·skip
         refine Kd.R_make_step (Kd.int .u8) _ 5 (by rfl) (N := 12) rfl 68 _ _ rfl 12 rfl rfl Try.underlying68 (.int .u8 0) 1 info5 rfl (by decide) (by omega) 0 (ok := fun _ => True) (okp := fun _ => True) rfl (fun _ hk => hk) trivial (by omega) (by omega) (Below.refl _ _) (Nat.le_refl _) ?_
         intro v110 w14 ho15 hb hg_ hnew_
         clear hg_ hnew_
         (first | rw [← Ny109.out] at ho15 | (simp only [Int.reduceToNat] at ho15; rw [← Ny109.out] at ho15))
         have n0_ := Aside0.mk (Kd.R_elder' (ra_ HO108.out) (Kd.R_base ho15) hb)
         have n1_ := Aside0.mk (Kd.R_lower (Kd.R_new' ho15 (Kd.R_lt (ra_ HO108.out))) (below_size hb_))
         have n2_ := Aside0.mk (below_step hb_ hb)
         clear HO108
         clear HB
         have HO108 := n0_
         have HO111 := n1_
         have HB := n2_
         clear n0_ n1_ n2_
         clear hb ho15
         refine hK.out _ _ trivial (fun hHeld => ?_)
         clear hK K
         refine norm_ sa_ ?_
         exact norm_ pu_ (hJ0_2 (v107, v110) _ ⟨(by (with_reducible repeat (first | apply Kd.R_alloc | apply Kd.R_drewN | apply Kd.R_drew)); exact Kd.R_mono HO108.out (fun _ hk => hk.2)), (by (with_reducible repeat (first | apply Kd.R_alloc | apply Kd.R_drewN | apply Kd.R_drew)); exact Kd.R_mono HO111.out (fun _ hk => hk.2)), hb_⟩)
      ·skip
       rintro v110 w14 ⟨h0_, h1_⟩
       have n0_ : Aside0 (Kd.R (Kd.int .u8) 5 w14 w.heap.size (fun _ => True) v110 y109) := ⟨h0_⟩
       have n1_ : Aside0 (Below w.heap.size w w14) := ⟨h1_⟩
       clear HB
       clear h0_ h1_
       have HO111 := n0_
       have HB := n1_
       clear n0_ n1_
       have hHeld := trivial
       refine norm_ sb_ ?_
       refine one_ (i := 0) (N := some 10) #[true, false, true, true, false, false] rfl rfl (by kernel_rfl) (by decide) (fun K hK => ?_)
       refine Kd.R_make_step (Kd.int .u8) _ 5 (by rfl) (N := 10) rfl 68 _ _ rfl 32 rfl rfl Try.underlying68 (.int .u8 0) 1 info5 rfl (by decide) (by omega) 0 (ok := fun _ => True) (okp := fun _ => True) rfl (fun _ hk => hk) trivial (by omega) (by omega) (Below.refl _ _) (Nat.le_refl _) ?_
       intro v107 w15 ho16 hb hg_ hnew_
       clear hg_ hnew_
       (first | rw [← Ny106.out] at ho16 | (simp only [Int.reduceToNat] at ho16; rw [← Ny106.out] at ho16))
       have n0_ := Aside0.mk (Kd.R_elder' (ra_ HO111.out) (Kd.R_base ho16) hb)
       have n1_ := Aside0.mk (Kd.R_lower (Kd.R_new' ho16 (Kd.R_lt (ra_ HO111.out))) (below_size hb_))
       have n2_ := Aside0.mk (below_step hb_ hb)
       clear HO111
       clear HB
       have HO111 := n0_
       have HO108 := n1_
       have HB := n2_
       clear n0_ n1_ n2_
       clear hb ho16
       refine hK.out _ _ trivial (fun hHeld => ?_)
       clear hK K
       refine norm_ sa_ ?_
       exact norm_ pu_ (hJ0_2_3 (v107, v110) _ ⟨(by (with_reducible repeat (first | apply Kd.R_alloc | apply Kd.R_drewN | apply Kd.R_drew)); exact Kd.R_mono HO108.out (fun _ hk => hk.2)), (by (with_reducible repeat (first | apply Kd.R_alloc | apply Kd.R_drewN | apply Kd.R_drew)); exact Kd.R_mono HO111.out (fun _ hk => hk.2)), hb_⟩)
     ·skip
      rintro ⟨v107, v110⟩ w15 ⟨h0_, h1_, h2_⟩
      have n0_ : Aside0 (Kd.R (Kd.int .u8) 5 w15 w.heap.size (fun k_ => some k_ ≠ (v110 : Value).ownBlock) v107 y106) := ⟨h0_⟩
      have n1_ : Aside0 (Kd.R (Kd.int .u8) 5 w15 w.heap.size (fun k_ => some k_ ≠ (v107 : Value).ownBlock) v110 y109) := ⟨h1_⟩
      have n2_ : Aside0 (Below w.heap.size w w15) := ⟨h2_⟩
      clear HB
      clear h0_ h1_ h2_
      have HO108 := n0_
      have HO111 := n1_
      have HB := n2_
      clear n0_ n1_ n2_
      have hHeld := trivial
      refine norm_ sb_ ?_
      refine two_ (i := 1) (j := 3) (Ni := some 11) (Nj := some 13) #[true, true, true, false, false, false] #[true, false, true, true, false, false] rfl rfl rfl rfl (by kernel_rfl) (by decide) (by decide) (fun K hK => ?_) (fun K hK => ?_)
      ·skip
       have hcv16 := own_string (P := Try.prog) Try.underlying68 Try.underlying5 Try.underlying9 (Kd.own_of_R HO108.out)
       refine value_ (w1 := ?_) (v := ?_) (by rfl) rfl ?_ ?_
       rotate_left 2
       ·go_simp
        constructor
        ·rfl
        ·rfl
       clear hcv16
       refine hK.out _ _ trivial (fun hHeld => ?_)
       clear hK K
       refine norm_ sa_ ?_
       refine pz_ 4 1 rfl rfl (by kernel_rfl) ?_
       exact norm_ pu_ (hJ0_1_2 (v107, v110) _ ⟨(ra_ HO108.out), (ra_ HO111.out), hb_⟩)
      ·skip
       have hcv16 := own_string (P := Try.prog) Try.underlying68 Try.underlying5 Try.underlying9 (Kd.own_of_R HO111.out)
       refine value_ (w1 := ?_) (v := ?_) (by rfl) rfl ?_ ?_
       rotate_left 2
       ·go_simp
        constructor
        ·rfl
        ·rfl
       clear hcv16
       refine hK.out _ _ trivial (fun hHeld => ?_)
       clear hK K
       refine norm_ sa_ ?_
       exact norm_ pu_ (hJ0_2_3 (v107, v110) _ ⟨(ra_ HO108.out), (ra_ HO111.out), hb_⟩)
    ·skip
     rintro v107 w14 ⟨h0_, h1_⟩
     have n0_ : Aside0 (Kd.R (Kd.int .u8) 5 w14 w.heap.size (fun _ => True) v107 y106) := ⟨h0_⟩
     have n1_ : Aside0 (Below w.heap.size w w14) := ⟨h1_⟩
     clear HB
     clear h0_ h1_
     have HO108 := n0_
     have HB := n1_
     clear n0_ n1_
     have hHeld := trivial
     refine norm_ sb_ ?_
     refine one_ (i := 2) (N := some 12) #[true, true, true, false, true, false] rfl rfl (by kernel_rfl) (by decide) (fun K hK => ?_)
     refine Kd.R_make_step (Kd.int .u8) _ 5 (by rfl) (N := 12) rfl 68 _ _ rfl 12 rfl rfl Try.underlying68 (.int .u8 0) 1 info5 rfl (by decide) (by omega) 0 (ok := fun _ => True) (okp := fun _ => True) rfl (fun _ hk => hk) trivial (by omega) (by omega) (Below.refl _ _) (Nat.le_refl _) ?_
     intro v110 w15 ho16 hb hg_ hnew_
     clear hg_ hnew_
     (first | rw [← Ny109.out] at ho16 | (simp only [Int.reduceToNat] at ho16; rw [← Ny109.out] at ho16))
     have n0_ := Aside0.mk (Kd.R_elder' (ra_ HO108.out) (Kd.R_base ho16) hb)
     have n1_ := Aside0.mk (Kd.R_lower (Kd.R_new' ho16 (Kd.R_lt (ra_ HO108.out))) (below_size hb_))
     have n2_ := Aside0.mk (below_step hb_ hb)
     clear HO108
     clear HB
     have HO108 := n0_
     have HO111 := n1_
     have HB := n2_
     clear n0_ n1_ n2_
     clear hb ho16
     refine hK.out _ _ trivial (fun hHeld => ?_)
     clear hK K
     refine norm_ sa_ ?_
     exact norm_ pu_ (hJ0_1_2 (v107, v110) _ ⟨(by (with_reducible repeat (first | apply Kd.R_alloc | apply Kd.R_drewN | apply Kd.R_drew)); exact Kd.R_mono HO108.out (fun _ hk => hk.2)), (by (with_reducible repeat (first | apply Kd.R_alloc | apply Kd.R_drewN | apply Kd.R_drew)); exact Kd.R_mono HO111.out (fun _ hk => hk.2)), hb_⟩)
   ·skip
    rintro ⟨v107, v110⟩ w16 ⟨h0_, h1_, h2_⟩
    have n0_ : Aside0 (Kd.R (Kd.int .u8) 5 w16 w.heap.size (fun k_ => some k_ ≠ (v110 : Value).ownBlock) v107 y106) := ⟨h0_⟩
    have n1_ : Aside0 (Kd.R (Kd.int .u8) 5 w16 w.heap.size (fun k_ => some k_ ≠ (v107 : Value).ownBlock) v110 y109) := ⟨h1_⟩
    have n2_ : Aside0 (Below w.heap.size w w16) := ⟨h2_⟩
    clear HB
    clear h0_ h1_ h2_
    have HO108 := n0_
    have HO111 := n1_
    have HB := n2_
    clear n0_ n1_ n2_
    have hHeld := trivial
    refine norm_ sb_ ?_
    refine one_ (i := 1) (N := some 11) #[true, true, true, true, false, false] rfl rfl (by kernel_rfl) (by decide) (fun K hK => ?_)
    have hcv17 := own_string (P := Try.prog) Try.underlying68 Try.underlying5 Try.underlying9 (Kd.own_of_R HO108.out)
    refine value_ (w1 := ?_) (v := ?_) (by rfl) rfl ?_ ?_
    rotate_left 2
    ·go_simp
     constructor
     ·rfl
     ·rfl
    clear hcv17
    refine hK.out _ _ trivial (fun hHeld => ?_)
    clear hK K
    refine norm_ sa_ ?_
    refine pz_ 4 1 rfl rfl (by kernel_rfl) ?_
    exact norm_ pu_ (hJ0_1_2_3 (v107, v110) _ ⟨(ra_ HO108.out), (ra_ HO111.out), hb_⟩)
  ·skip
   rintro ⟨v107, v110⟩ w16 ⟨h0_, h1_, h2_⟩
   have n0_ : Aside0 (Kd.R (Kd.int .u8) 5 w16 w.heap.size (fun k_ => some k_ ≠ (v110 : Value).ownBlock) v107 y106) := ⟨h0_⟩
   have n1_ : Aside0 (Kd.R (Kd.int .u8) 5 w16 w.heap.size (fun k_ => some k_ ≠ (v107 : Value).ownBlock) v110 y109) := ⟨h1_⟩
   have n2_ : Aside0 (Below w.heap.size w w16) := ⟨h2_⟩
   clear HB
   clear h0_ h1_ h2_
   have HO108 := n0_
   have HO111 := n1_
   have HB := n2_
   clear n0_ n1_ n2_
   have hHeld := trivial
   refine norm_ sb_ ?_
   refine one_ (i := 3) (N := some 13) #[true, true, true, true, true, false] rfl rfl (by kernel_rfl) (by decide) (fun K hK => ?_)
   have hcv17 := own_string (P := Try.prog) Try.underlying68 Try.underlying5 Try.underlying9 (Kd.own_of_R HO111.out)
   refine value_ (w1 := ?_) (v := ?_) (by rfl) rfl ?_ ?_
   rotate_left 2
   ·go_simp
    constructor
    ·rfl
    ·rfl
   clear hcv17
   refine hK.out _ _ trivial (fun hHeld => ?_)
   clear hK K
   refine norm_ sa_ ?_
   exact norm_ pu_ (hJ0_1_2_3 (v107, v110) _ ⟨(ra_ HO108.out), (ra_ HO111.out), hb_⟩)
 rintro ⟨v107, v110⟩ w17 ⟨h0_, h1_, h2_⟩
 have n0_ : Aside0 (Kd.R (Kd.int .u8) 5 w17 w.heap.size (fun k_ => some k_ ≠ (v110 : Value).ownBlock) v107 y106) := ⟨h0_⟩
 have n1_ : Aside0 (Kd.R (Kd.int .u8) 5 w17 w.heap.size (fun k_ => some k_ ≠ (v107 : Value).ownBlock) v110 y109) := ⟨h1_⟩
 have n2_ : Aside0 (Below w.heap.size w w17) := ⟨h2_⟩
 clear HB
 clear h0_ h1_ h2_
 have HO108 := n0_
 have HO111 := n1_
 have HB := n2_
 clear n0_ n1_ n2_
 have hHeld := trivial
 refine norm_ sb_ ?_
 refine pz_ 5 2 rfl rfl (by kernel_rfl) ?_
 refine done_ (by kernel_rfl) ?_
 have hK : (strOfNums y106).size = 32 := by rw [Ny106.out, noughts_str, txt_size, List.length_replicate]
 have hN : (strOfNums y109).size = 12 := by rw [Ny109.out, noughts_str, txt_size, List.length_replicate]
 clear HO108 HO111 hHeld c1b0 c1b1 c2b0 c2b1 Ny106 Ny109
 generalize strOfNums y106 = KK at hK ⊢
 generalize strOfNums y109 = NN at hN ⊢
 have HK := Aside0.mk hK
 have HN := Aside0.mk hN
 clear hK hN
 go_wp2_with (fail)
 refine (Ideal_calls ⟨#[115, 101, 101, 100]⟩ _).mono ?_
 rintro e w1 ⟨rfl, hI, hb⟩
 have HB1 := Aside0.mk (below_then HB.out HB.out.size hb)
 have HT1 := Aside0.mk HB.out.size
 have HI1 := Aside0.mk hI
 clear hI hb HB
 generalize w17.heap.size = mb at HI1 HT1 ⊢
 go_wp2_with (fail)
 refine (Seal_ideal (mb + 2) (mb + 1) mb ⟨#[115, 101, 101, 100]⟩ 0 0 (.map []) KK NN ⟨#[98]⟩ ⟨#[116, 101, 120, 116]⟩ _ (by decide) (by decide) (by decide) ⟨HK.out, HN.out, by decide, by decide⟩ HI1.out).mono ?_
 rintro e w2 ⟨rfl, hI, hf⟩
 have HB2 := Aside0.mk (HB1.out.trans (hf.below (by have := HT1.out; omega) HT1.out HB1.out.size))
 have HI2 : Aside0 (IdealAt (mb + 2) (mb + 1) mb ⟨#[115, 101, 101, 100]⟩ (0 + sealN ⟨#[116, 101, 120, 116]⟩) (0 + 1) (vD (sealO ⟨#[115, 101, 101, 100]⟩ 0 ⟨#[116, 101, 120, 116]⟩) KK NN) w2) := ⟨hI⟩
 have hO := sealO_size ⟨#[115, 101, 101, 100]⟩ 0 ⟨#[116, 101, 120, 116]⟩
 clear hI hf HI1 HB1
 generalize sealO ⟨#[115, 101, 101, 100]⟩ 0 ⟨#[116, 101, 120, 116]⟩ = OO at *
 have hO2 : OO.size = 20 := hO
 have HO := Aside0.mk hO2
 clear hO hO2
 have h1 : (⟨#[98]⟩ : ByteArray) ≠ ⟨#[99]⟩ := by decide
 have HNE := Aside0.mk h1
 clear h1
 go_wp2_with (fail)
 refine (Open_ideal (mb + 2) (mb + 1) mb _ _ _ _ KK NN ⟨#[98]⟩ OO KK NN ⟨#[98]⟩ vText _ (by rw [HO.out]; decide) ⟨HK.out, HN.out, by decide, by rw [HO.out]; decide⟩ HI2.out (vD_at _ _ _)).mono ?_
 rw [vD_has, openR_yes]
 rintro e w3 ⟨rfl, hb⟩
 have HB3 := Aside0.mk (below_then HB2.out HB2.out.size hb)
 have HI3 := Aside0.mk (HI2.out.below hb)
 clear hb HB2 HI2
 go_wp2_with (fail)
 refine (Open_ideal (mb + 2) (mb + 1) mb _ _ _ _ KK NN ⟨#[99]⟩ OO KK NN ⟨#[98]⟩ vText _ (by rw [HO.out]; decide) ⟨HK.out, HN.out, by decide, by rw [HO.out]; decide⟩ HI3.out (vD_at _ _ _)).mono ?_
 rw [openR_no _ _ _ _ _ _ _ _ HNE.out]
 rintro e w4 ⟨rfl, hb⟩
 have HB4 := Aside0.mk (below_then HB3.out HB3.out.size hb)
 have HI4 := Aside0.mk (HI3.out.below hb)
 clear hb HB3 HI3
 have d1 : ((OO.size : Int) == 20) = true := by rw [HO.out]; rfl
 have d2 : (vText.toList == ([116, 101, 120, 116] : List UInt8)) = true := by rw [ByteArray.toList_eq]; rfl
 go_wp2_with (fail)
 refine (Many_ideal (mb + 2) (mb + 1) mb _ _ _ _ _ HI4.out).mono ?_
 rw [vD_size]
 rintro e w5 ⟨rfl, rfl⟩
 go_wp2_with (fail)
 refine (Real_calls _).mono ?_
 rintro e w6 ⟨rfl, hR, hb⟩
 have HR := Aside0.mk hR
 have HB6 := Aside0.mk (below_then HB4.out HB4.out.size hb)
 clear hR hb
 go_wp2_with (fail)
 refine (Many_real _ _ HR.out).mono ?_
 rintro e w7 ⟨rfl, rfl⟩
 go_wp2_with (fail)
 go_ret
 exact ⟨rfl, HB6.out⟩
end Go.Proofs.Ytbkbganflnemeaa.Pr
end

section
namespace Go.Proofs.Ytbkbganflnemeaa.Pr
open Go.RowKit Go.Deep Go.Maps Go.Proofs.YtbkbganflnemeaaW.PrintWords Go.Proofs.YtbkbganflnemeaaW.PrintLast Go.Proofs.YtbkbganflnemeaaW.PrintMore
set_option maxHeartbeats 4000000
theorem IdealAt.keep {g tb mb q : Nat} {seed : ByteArray} {c k : Nat} {D : DataW Unit} {a b : World} {cs : Array Value} {t : TypeId} {z : Nat × Nat} (hI : IdealAt g tb mb seed c k D a) (hf : FrV tb mb a b) (h : a.heap[q]? = some (.cells cs t z)) (ht : t ≠ 95) : b.heap[q]? = some (.cells cs t z) := by
 refine (hf.2.2.2.2 q (blk_lt h) (fun e => ?_) (fun e => ?_)).trans h
 ·have h1 : a.heap[tb]? = _ := hI.tab
  rw [← e, h] at h1
  injection h1 with h1
  injection h1 with _ h2 _
  exact ht h2
 ·obtain ⟨es, clock, hb, _⟩ := hI.own
  rw [← e, h] at hb
  cases hb
structure BackAt (gl gx gr gi : Nat) (x0 x1 : ByteArray) (w : World) : Prop where
 l : w.heap[gl]? = some (.cells #[.pointer (some ⟨gr, 0, none⟩), .pointer (some ⟨gi, 0, none⟩)] 33 (0, 0))
 x : w.heap[gx]? = some (.cells #[.string x0, .string x1] 32 (0, 0))
theorem BackAt.below {gl gx gr gi : Nat} {x0 x1 : ByteArray} {w w' : World} (h : BackAt gl gx gr gi x0 x1 w) (hb : Below w.heap.size w w') : BackAt gl gx gr gi x0 x1 w' :=
 ⟨(hb.block gl (blk_lt h.l)).trans h.l, (hb.block gx (blk_lt h.x)).trans h.x⟩
theorem BackAt.cells {gl gx gr gi : Nat} {x0 x1 : ByteArray} {w : World} (h : BackAt gl gx gr gi x0 x1 w) :
  w.cell? ⟨gl, 0, none⟩ = some (.pointer (some ⟨gr, 0, none⟩)) ∧ w.cell? ⟨gl, 1, none⟩ = some (.pointer (some ⟨gi, 0, none⟩)) ∧ w.cell? ⟨gx, 0, none⟩ = some (.string x0) ∧ w.cell? ⟨gx, 1, none⟩ = some (.string x1) := by
 refine ⟨?_, ?_, ?_, ?_⟩
 ·rw [cell_of_row _ _ _ _ _ _ h.l]; rfl
 ·rw [cell_of_row _ _ _ _ _ _ h.l]; rfl
 ·rw [cell_of_row _ _ _ _ _ _ h.x]; rfl
 ·rw [cell_of_row _ _ _ _ _ _ h.x]; rfl
theorem back_heavy (seed keys x0 x1 : ByteArray) (h : ¬ (seed.size ≤ 100 ∧ keys.size = 44 ∧ x0.size ≤ 300 ∧ x1.size ≤ 300)) (w : World) :
  Calls Try.prog 6 #[.string seed, .string keys, .agg #[.string x0, .string x1]] w fun e w' => e = .returned (.bool true) ∧ Below w.heap.size w w' := by
 have HB0 : Aside0 (Below w.heap.size w (w.alloc (Obj.cells #[Value.string x0, Value.string x1] 32))) := ⟨below_alloc (Below.refl _ _) _⟩
 have HX : Aside0 ((w.alloc (Obj.cells #[Value.string x0, Value.string x1] 32)).heap[w.heap.size]? = some (.cells #[.string x0, .string x1] 32 (0, 0))) := ⟨blk_new _ _⟩
 have ends : ∀ W, Aside0 (Below w.heap.size w W) → Calls Try.prog 24 #[] W fun e w' => e = .returned (.bool true) ∧ Aside0 (Below w.heap.size w w') := fun W hW => (vawake_calls W).mono (fun e w' q => ⟨q.1, ⟨below_then hW.out hW.out.size q.2⟩⟩)
 have HE := Aside0.mk ends
 clear ends
 by_cases h1 : seed.size ≤ 100
 ·have d1 : decide (100 < (seed.size : Int)) = false := decide_eq_false (by omega)
  by_cases h2 : keys.size = 44
  ·have d2 : ((keys.size : Int) != 44) = false := by rw [bne_eq_false_iff_eq]; omega
   by_cases h3 : x0.size ≤ 300
   ·have d3 : decide (300 < (x0.size : Int)) = false := decide_eq_false (by omega)
    have d4 : decide (300 < (x1.size : Int)) = true := decide_eq_true (by omega)
    clear h h1 h2 h3
    go_enter Try.func6, Try.ntmps6
    go_wp2_with (fail)
    refine (HE.out _ HB0).mono ?_
    rintro e w1 ⟨rfl, hb⟩
    go_wp2_with (fail)
    go_ret
    exact ⟨rfl, hb.out⟩
   ·have d3 : decide (300 < (x0.size : Int)) = true := decide_eq_true (by omega)
    clear h h1 h2 h3
    go_enter Try.func6, Try.ntmps6
    go_wp2_with (fail)
    refine (HE.out _ HB0).mono ?_
    rintro e w1 ⟨rfl, hb⟩
    go_wp2_with (fail)
    go_ret
    exact ⟨rfl, hb.out⟩
  ·have d2 : ((keys.size : Int) != 44) = true := by rw [bne_iff_ne]; omega
   clear h h1 h2
   go_enter Try.func6, Try.ntmps6
   go_wp2_with (fail)
   refine (HE.out _ HB0).mono ?_
   rintro e w1 ⟨rfl, hb⟩
   go_wp2_with (fail)
   go_ret
   exact ⟨rfl, hb.out⟩
 ·have d1 : decide (100 < (seed.size : Int)) = true := decide_eq_true (by omega)
  clear h h1
  go_enter Try.func6, Try.ntmps6
  go_wp2_with (fail)
  refine (HE.out _ HB0).mono ?_
  rintro e w1 ⟨rfl, hb⟩
  go_wp2_with (fail)
  go_ret
  exact ⟨rfl, hb.out⟩
set_option maxRecDepth 100000 in
theorem back_light (seed keys x0 x1 : ByteArray) (h1 : seed.size ≤ 100) (h2 : keys.size = 44) (h3 : x0.size ≤ 300) (h4 : x1.size ≤ 300) (w : World) :
    Calls Try.prog 6 #[.string seed, .string keys, .agg #[.string x0, .string x1]] w fun e w' => e = .returned (.bool true) ∧ Below w.heap.size w w' := by
  have HB0 : Aside0 (Below w.heap.size w (w.alloc (Obj.cells #[Value.string x0, Value.string x1] 32))) := ⟨below_alloc (Below.refl _ _) _⟩
  have HX0 : Aside0 ((w.alloc (Obj.cells #[Value.string x0, Value.string x1] 32)).heap[w.heap.size]? = some (.cells #[.string x0, .string x1] 32 (0, 0))) := ⟨blk_new _ _⟩
  have d1 : decide (100 < (seed.size : Int)) = false := decide_eq_false (by omega)
  have d2 : ((keys.size : Int) != 44) = false := by rw [bne_eq_false_iff_eq]; omega
  have d3 : decide (300 < (x0.size : Int)) = false := decide_eq_false (by omega)
  have d4 : decide (300 < (x1.size : Int)) = false := decide_eq_false (by omega)
  have e3 := eq_true (show (32 : Int) ≤ (keys.size : Int) by omega)
  have e4 := eq_true (show 32 ≤ keys.size by omega)
  have hok : aeadOK (keys.extract 0 32) (keys.extract 32 keys.size) x0.size x1.size := ⟨by rw [ByteArray.size_extract]; omega, by rw [ByteArray.size_extract]; omega, by omega, by omega⟩
  have HOK := Aside0.mk hok
  have HS := Aside0.mk (show seed.size ≤ 1000000 by omega)
  have HXS := Aside0.mk (show x0.size ≤ 300 ∧ x1.size ≤ 300 from ⟨h3, h4⟩)
  clear h1 h2 h3 h4 hok
  go_enter Try.func6, Try.ntmps6
  go_wp2_with (fail)
  generalize w.alloc (Obj.cells #[Value.string x0, Value.string x1] 32) = W0 at *
  refine (Real_calls _).mono ?_
  rintro e w1 ⟨rfl, hR, hb⟩
  have HR1 := Aside0.mk hR
  have HB1 := Aside0.mk (below_then HB0.out HB0.out.size hb)
  have HX1 := Aside0.mk ((hb.block w.heap.size (blk_lt HX0.out)).trans HX0.out)
  have HT0 := Aside0.mk HB0.out.size
  clear hR hb HX0 HB0
  generalize W0.heap.size = gr at *
  go_wp2_with (fail)
  refine (Ideal_calls seed _).mono ?_
  rintro e w2 ⟨rfl, hI, hb⟩
  have HI2 := Aside0.mk hI
  have HR2 := Aside0.mk (HR1.out.below hb)
  have HB2 := Aside0.mk (below_then HB1.out HB1.out.size hb)
  have HX2 := Aside0.mk ((hb.block w.heap.size (blk_lt HX1.out)).trans HX1.out)
  have HT1 := Aside0.mk HB1.out.size
  clear hI hb HX1 HB1 HR1
  generalize w1.heap.size = mb at *
  go_wp2_with (fail)
  have HL3 : Aside0 (BackAt w2.heap.size w.heap.size gr (mb + 2) x0 x1 (w2.alloc (.cells #[.pointer (some ⟨gr, 0, none⟩), .pointer (some ⟨mb + 2, 0, none⟩)] 33))) := ⟨⟨blk_new _ _, blk_alloc HX2.out _⟩⟩
  have HR3 : Aside0 (RealAt gr (w2.alloc (.cells #[.pointer (some ⟨gr, 0, none⟩), .pointer (some ⟨mb + 2, 0, none⟩)] 33))) := ⟨blk_alloc HR2.out _⟩
  have HI3 := Aside0.mk (HI2.out.below (below_alloc (Below.refl _ _) (.cells #[.pointer (some ⟨gr, 0, none⟩), .pointer (some ⟨mb + 2, 0, none⟩)] 33)))
  have HB3 := Aside0.mk (below_alloc HB2.out (.cells #[.pointer (some ⟨gr, 0, none⟩), .pointer (some ⟨mb + 2, 0, none⟩)] 33))
  clear HI2 HR2 HB2 HX2
  generalize w2.heap.size = gl at *
  go_loopw [8] (fun i wr => ∃ k : Nat, k ≤ 2 ∧ i = .int .i64 k ∧ Aside0 (BackAt gl w.heap.size gr (mb + 2) x0 x1 wr) ∧ Aside0 (RealAt gr wr) ∧ Aside0 (k ≤ 1 → IdealAt (mb + 2) (mb + 1) mb seed 0 0 (.map []) wr) ∧ Aside0 (Below w.heap.size w wr)) (fun i _ => 2 - (intOf i).toNat)
  case atStart => exact ⟨0, by omega, rfl, HL3, HR3, ⟨fun _ => HI3.out⟩, HB3⟩
  case round =>
    clear HL3 HR3 HI3 HB3
    obtain ⟨k, hk, rfl, HL, HR, HI, HB⟩ := hrel
    have hc : k = 0 ∨ k = 1 ∨ k = 2 := by omega
    rcases hc with rfl | rfl | rfl
    · clear hk
      have hsl : ∀ W, RealAt gr W → Calls Try.prog 27 #[.pointer (some ⟨gr, 0, none⟩), .string (keys.extract 0 32), .string (keys.extract 32 keys.size), .string x0, .string x1] W fun e w' => e = .returned (.tuple #[.string (sealF (keys.extract 0 32) (keys.extract 32 keys.size) x0 x1).1, .int .i64 0]) ∧ Below W.heap.size W w' := fun W hW => by
        have := Seal_real gr (keys.extract 0 32) (keys.extract 32 keys.size) x0 x1 W (by have := HXS.out; omega) (by have := HXS.out; omega) hW
        rwa [(open_seal _ _ _ _ HOK.out).2.1] at this
      have hop : ∀ W, RealAt gr W → Calls Try.prog 28 #[.pointer (some ⟨gr, 0, none⟩), .string (keys.extract 0 32), .string (keys.extract 32 keys.size), .string x0, .string (sealF (keys.extract 0 32) (keys.extract 32 keys.size) x0 x1).1] W fun e w' => e = .returned (.tuple #[.string x1, .int .i64 0]) ∧ Below W.heap.size W w' := fun W hW => by
        have := Open_real gr (keys.extract 0 32) (keys.extract 32 keys.size) x0 (sealF (keys.extract 0 32) (keys.extract 32 keys.size) x0 x1).1 W (by have := HXS.out; omega) (by rw [(open_seal _ _ _ _ HOK.out).2.2.1]; have := HXS.out; omega) hW
        rwa [(open_seal _ _ _ _ HOK.out).1] at this
      have hae : ∀ W, Calls Try.prog 29 #[.string (keys.extract 0 32), .string (keys.extract 32 keys.size), .string x0, .string x1] W fun e w' => e = .returned (.tuple #[.string (sealF (keys.extract 0 32) (keys.extract 32 keys.size) x0 x1).1, .int .i64 0]) ∧ Below W.heap.size W w' := fun W => by
        have := aead_Seal.calls (keys.extract 0 32) (keys.extract 32 keys.size) x0 x1 (sealF (keys.extract 0 32) (keys.extract 32 keys.size) x0 x1).1 (sealF (keys.extract 0 32) (keys.extract 32 keys.size) x0 x1).2 W (aead_Seal_f _ _ _ _ (by have := HXS.out; omega) (by have := HXS.out; omega))
        rwa [(open_seal _ _ _ _ HOK.out).2.1] at this
      have HSL := Aside0.mk hsl
      have HOP := Aside0.mk hop
      have HAE := Aside0.mk hae
      have hS := (open_seal _ _ _ _ HOK.out).2.2.1
      clear hsl hop hae
      generalize (sealF (keys.extract 0 32) (keys.extract 32 keys.size) x0 x1).1 = O at *
      have HO := Aside0.mk hS
      clear hS
      obtain ⟨c0, c1, c2, c3⟩ := HL.out.cells
      clear c1
      have HRD : Aside0 (RealAt gr wr.drew) := ⟨HR.out⟩
      go_wp2_with (fail)
      go_region_held3 (fun w' => w'.cell? ⟨gl, 0, none⟩ = some (.pointer (some ⟨gr, 0, none⟩)) ∧ w'.cell? ⟨w.heap.size, 0, none⟩ = some (.string x0) ∧ w'.cell? ⟨w.heap.size, 1, none⟩ = some (.string x1))
        (first | go_keep | exact ⟨c0, c2, c3⟩)
        (first
          | (go_at_call 27; (with_reducible refine (HSL.out _ (by first | exact HRD.out | exact HR.out)).mono ?_); rintro e w3 ⟨rfl, hb0⟩; have hb : Below wr.heap.size wr w3 := below_step (by first | exact below_drew1 (Below.refl _ _) | exact Below.refl _ _) hb0; clear hb0; have HL3 := Aside0.mk (HL.out.below hb); have HR3 := Aside0.mk (HR.out.below hb); have HI3 := Aside0.mk ((HI.out (by omega)).below hb); have HB3 := Aside0.mk (below_then HB.out HB.out.size hb); clear hb c0 c2 c3; obtain ⟨c0, c1, c2, c3⟩ := HL3.out.cells; clear c1))
      have HRD3 : Aside0 (RealAt gr w3.drew) := ⟨HR3.out⟩
      clear HR HL HI HB HRD HSL
      go_wp2_with (fail)
      go_region_held3 (fun w' => w'.cell? ⟨gl, 0, none⟩ = some (.pointer (some ⟨gr, 0, none⟩)) ∧ w'.cell? ⟨w.heap.size, 0, none⟩ = some (.string x0) ∧ w'.cell? ⟨w.heap.size, 1, none⟩ = some (.string x1))
        (first | go_keep | exact ⟨c0, c2, c3⟩)
        (first
          | (go_at_call 28; (with_reducible refine (HOP.out _ (by first | exact HRD3.out | exact HR3.out)).mono ?_); rintro e w4 ⟨rfl, hb0⟩; have hb : Below w3.heap.size w3 w4 := below_step (by first | exact below_drew1 (Below.refl _ _) | exact Below.refl _ _) hb0; clear hb0; have HL4 := Aside0.mk (HL3.out.below hb); have HR4 := Aside0.mk (HR3.out.below hb); have HI4 := Aside0.mk (HI3.out.below hb); have HB4 := Aside0.mk (below_then HB3.out HB3.out.size hb); clear hb c0 c2 c3; obtain ⟨c0, c1, c2, c3⟩ := HL4.out.cells; clear c1))
      have o1 : ((O.size : Int) != (x1.size : Int) + 16) = false := by rw [bne_eq_false_iff_eq, HO.out]; omega
      have o2 : ((O.size : Int) != wrap64 ((x1.size : Int) + 16)) = false := by rw [bne_eq_false_iff_eq, HO.out]; have := HXS.out; unfold wrap64; omega
      clear HR3 HL3 HI3 HB3 HRD3 HOP c0
      go_wp2_with (fail)
      go_region_held3 (fun w' => w'.cell? ⟨w.heap.size, 0, none⟩ = some (.string x0) ∧ w'.cell? ⟨w.heap.size, 1, none⟩ = some (.string x1))
        (first | go_keep | exact ⟨c2, c3⟩)
        (first
          | (go_at_call 29; (with_reducible refine (HAE.out _).mono ?_); rintro e w5 ⟨rfl, hb0⟩; have hb : Below w4.heap.size w4 w5 := below_step (by first | exact below_drew1 (Below.refl _ _) | exact Below.refl _ _) hb0; clear hb0; have HL5 := Aside0.mk (HL4.out.below hb); have HR5 := Aside0.mk (HR4.out.below hb); have HI5 := Aside0.mk (HI4.out.below hb); have HB5 := Aside0.mk (below_then HB4.out HB4.out.size hb); clear hb c2 c3; obtain ⟨c0, c1, c2, c3⟩ := HL5.out.cells; clear c0 c1))
      clear HL4 HR4 HI4 HB4 HAE
      go_wp2_with (fail)
      refine ⟨⟨1, by omega, rfl, HL5, HR5, ⟨fun _ => HI5.out⟩, HB5⟩, by simp [intOf]⟩
    · clear hk
      have hi0 := HI.out (by omega)
      have HI0 := Aside0.mk hi0
      clear hi0 HI
      have hsl : ∀ W, IdealAt (mb + 2) (mb + 1) mb seed 0 0 (.map []) W → Calls Try.prog 27 #[.pointer (some ⟨mb + 2, 0, none⟩), .string (keys.extract 0 32), .string (keys.extract 32 keys.size), .string x0, .string x1] W fun e w' => e = .returned (.tuple #[.string (sealO seed 0 x1), .int .i64 0]) ∧
          IdealAt (mb + 2) (mb + 1) mb seed (0 + sealN x1) (0 + 1) ((DataW.map []).put (.string (sealO seed 0 x1).data.toList) (wayD (keys.extract 0 32) (keys.extract 32 keys.size) x0 x1)) w' ∧ FrV (mb + 1) mb W w' := fun W hW => Seal_ideal (mb + 2) (mb + 1) mb seed 0 0 (.map []) _ _ _ _ W HS.out (by decide) (by decide) HOK.out hW
      have hop : ∀ W, IdealAt (mb + 2) (mb + 1) mb seed (0 + sealN x1) (0 + 1) ((DataW.map []).put (.string (sealO seed 0 x1).data.toList) (wayD (keys.extract 0 32) (keys.extract 32 keys.size) x0 x1)) W → Calls Try.prog 28 #[.pointer (some ⟨mb + 2, 0, none⟩), .string (keys.extract 0 32), .string (keys.extract 32 keys.size), .string x0, .string (sealO seed 0 x1)] W fun e w' => e = .returned (.tuple #[.string x1, .int .i64 0]) ∧ Below W.heap.size W w' := fun W hW => by
        have hs := sealO_size seed 0 x1
        have := Open_ideal (mb + 2) (mb + 1) mb seed _ _ _ (keys.extract 0 32) (keys.extract 32 keys.size) x0 (sealO seed 0 x1) (keys.extract 0 32) (keys.extract 32 keys.size) x0 x1 W (by rw [hs]; have := HXS.out; omega) (by rw [hs, Nat.add_sub_cancel]; exact HOK.out) hW (atKey_put_same ⟨[], rfl⟩ (by trivial) _ _)
        rwa [has_put_same ⟨[], rfl⟩ (by trivial), openR_yes] at this
      have HSL := Aside0.mk hsl
      have HOP := Aside0.mk hop
      have HO := Aside0.mk (sealO_size seed 0 x1)
      clear hsl hop
      generalize sealO seed 0 x1 = O at *
      obtain ⟨c0, c1, c2, c3⟩ := HL.out.cells
      clear c0
      have HID : Aside0 (IdealAt (mb + 2) (mb + 1) mb seed 0 0 (.map []) wr.drew) := ⟨HI0.out.below (below_drew1 (Below.refl _ _))⟩
      have HTB := Aside0.mk HI0.out
      go_wp2_with (fail)
      go_region_held3 (fun w' => w'.cell? ⟨gl, 1, none⟩ = some (.pointer (some ⟨mb + 2, 0, none⟩)) ∧ w'.cell? ⟨w.heap.size, 0, none⟩ = some (.string x0) ∧ w'.cell? ⟨w.heap.size, 1, none⟩ = some (.string x1))
        (first | go_keep | exact ⟨c1, c2, c3⟩)
        (first
          | (go_at_call 27; (with_reducible refine (HSL.out _ (by first | exact HID.out | exact HI0.out)).mono ?_); rintro e w3 ⟨rfl, hI, hf0⟩; have hf : FrV (mb + 1) mb wr w3 := FrV.trans (by first | exact FrV.of_below (below_drew1 (Below.refl _ _)) | exact FrV.refl _ _ _) hf0; clear hf0; have HL3 : Aside0 (BackAt gl w.heap.size gr (mb + 2) x0 x1 w3) := ⟨⟨HI0.out.keep hf HL.out.l (by decide), HI0.out.keep hf HL.out.x (by decide)⟩⟩; have HR3 : Aside0 (RealAt gr w3) := ⟨HI0.out.keep hf HR.out (by decide)⟩; have HI3 := Aside0.mk hI; have HB3 := Aside0.mk (HB.out.trans (hf.below (by have := HT1.out; omega) HT1.out HB.out.size)); clear hI hf c1 c2 c3; obtain ⟨c0, c1, c2, c3⟩ := HL3.out.cells; clear c0))
      have HID3 := Aside0.mk (HI3.out.below (below_drew1 (Below.refl _ _)))
      clear HR HL HI0 HB HID HSL HTB
      go_wp2_with (fail)
      go_region_held3 (fun w' => w'.cell? ⟨gl, 1, none⟩ = some (.pointer (some ⟨mb + 2, 0, none⟩)) ∧ w'.cell? ⟨w.heap.size, 0, none⟩ = some (.string x0) ∧ w'.cell? ⟨w.heap.size, 1, none⟩ = some (.string x1))
        (first | go_keep | exact ⟨c1, c2, c3⟩)
        (first
          | (go_at_call 28; (with_reducible refine (HOP.out _ (by first | exact HID3.out | exact HI3.out)).mono ?_); rintro e w4 ⟨rfl, hb0⟩; have hb : Below w3.heap.size w3 w4 := below_step (by first | exact below_drew1 (Below.refl _ _) | exact Below.refl _ _) hb0; clear hb0; have HL4 := Aside0.mk (HL3.out.below hb); have HR4 := Aside0.mk (HR3.out.below hb); have HB4 := Aside0.mk (below_then HB3.out HB3.out.size hb); clear hb c1 c2 c3; obtain ⟨c0, c1, c2, c3⟩ := HL4.out.cells; clear c0))
      have o1 : ((O.size : Int) != (x1.size : Int) + 16) = false := by rw [bne_eq_false_iff_eq, HO.out]; omega
      have o2 : ((O.size : Int) != wrap64 ((x1.size : Int) + 16)) = false := by rw [bne_eq_false_iff_eq, HO.out]; have := HXS.out; unfold wrap64; omega
      clear HR3 HL3 HI3 HB3 HID3 HOP
      go_wp2_with (fail)
      refine ⟨⟨2, by omega, rfl, HL4, HR4, ⟨fun h => absurd h (by omega)⟩, HB4⟩, by simp [intOf]⟩
    · clear hk HI
      go_wp2_with (fail)
      refine (vawake_calls _).mono ?_
      rintro e w3 ⟨rfl, hb⟩
      have HB3 := Aside0.mk (below_then HB.out HB.out.size hb)
      go_wp2_with (fail)
      go_ret
      exact ⟨rfl, HB3.out⟩
theorem back_all (seed keys x0 x1 : ByteArray) (w : World) :
  Calls Try.prog 6 #[.string seed, .string keys, .agg #[.string x0, .string x1]] w fun e w' => e = .returned (.bool true) ∧ Below w.heap.size w w' := by
 by_cases h : seed.size ≤ 100 ∧ keys.size = 44 ∧ x0.size ≤ 300 ∧ x1.size ≤ 300
 ·exact back_light seed keys x0 x1 h.1 h.2.1 h.2.2.1 h.2.2.2 w
 ·exact back_heavy seed keys x0 x1 h w
end Go.Proofs.Ytbkbganflnemeaa.Pr
end

/- Joined texts (pack.py): what the statement's proof needs, part 3. No condition. -/
import Derived.Below
import Derived.Deep.Draws
import Derived.Deep.AppendLies
import Derived.Maps.AppendAt
import Derived.OwnWalk
import Derived.Laws.BytesArg
import Derived.Laws.MakeOwn
import Derived.Laws.OwnMore
import Derived.Deep.OwnRows
import Derived.Tactics
import Derived.Lib.ConvBytes
import Derived.Laws.Slices
import Derived.WalkKit
import Derived.KernelRfl
import Derived.RowKit3
import Derived.Deep.LoopGhost
import Derived.Deep.QuietTactic
import Derived.BigQuiet
import Derived.WideLaws
import Derived.Deep.DeepCutAuto
import Derived.Deep.CutBlock
import Derived.Deep.RegionHeld3
import Derived.Laws.Rows
import Derived.Lib.AppendStr
import Derived.ArgAppend
import Derived.Laws.IdiomCopy
import Derived.RowKit
import Derived.OrdersHeld
import Derived.Laws.BitsLemmas
import Derived.Laws.StructEq
import Derived.Deep.Slices
import Derived.ChangeArms
import Derived.OpenShut
import Derived.Shelf.Strings.Builder1
import Derived.Shelf.Strings.Builder2
import Derived.Shelf.Strings.OnBuilder
import Derived.Shelf.Strings.BuilderF
import Derived.Shelf.Strings.Prefix
import Derived.Shelf.Bits.Mul64
import Derived.Shelf.Strings.Repeat
import Derived.Test.YtbkbganflnemeaaProg
import Derived.Deep.RegionLaw
import Derived.StillTailTactics
import Derived.Deep.Light
import Derived.Deep.RegionHeldLaw
import Derived.Deep.DrawnRows
import Derived.IntWalk
import Derived.Deep.WholeRow
import Derived.Laws.CopyOwn
import Derived.Maps.OwnSet
import Derived.Lib.BufferWrite
import Derived.Test.YtbkbganflnemeaaRows
import Derived.ProofKit
import Derived.ShutString
import Derived.ChangeOld
import Derived.SizedLaws
import Derived.Carry
import Derived.Test.YtbkbganflnemeaaKB1
import Derived.Test.YtbkbganflnemeaaKB2
section
namespace Go.Proofs.Ytbkbganflnemeaa.Pr
open Go.RowKit Go.Deep Go.Maps Go.Proofs.YtbkbganflnemeaaW.PrintWords Go.Proofs.YtbkbganflnemeaaW.PrintLast Go.Proofs.YtbkbganflnemeaaW.PrintMore
set_option maxHeartbeats 4000000
set_option linter.unusedVariables false
set_option linter.unusedSimpArgs false
def FrU (s : Nat) (r : Option Nat) (d g : Nat) (w w' : World) : Prop := w'.os = w.os ∧ w'.tape = w.tape ∧ w'.output = w.output ∧ w.heap.size ≤ w'.heap.size ∧ ∀ k, k < w.heap.size → k ≠ s → some k ≠ r → k ≠ d → k ≠ g → w'.heap[k]? = w.heap[k]?
theorem FrU.trans {s : Nat} {r : Option Nat} {d g : Nat} {a b c : World} (h : FrU s r d g a b) (k : FrU s r d g b c) : FrU s r d g a c :=
  ⟨k.1.trans h.1, k.2.1.trans h.2.1, k.2.2.1.trans h.2.2.1, Nat.le_trans h.2.2.2.1 k.2.2.2.1, fun i hi h1 h2 h3 h4 => (k.2.2.2.2 i (Nat.lt_of_lt_of_le hi h.2.2.2.1) h1 h2 h3 h4).trans (h.2.2.2.2 i hi h1 h2 h3 h4)⟩
theorem FrU.of_frv {s : Nat} {r : Option Nat} {d g : Nat} {a b : World} (h : FrV d g a b) : FrU s r d g a b := ⟨h.1, h.2.1, h.2.2.1, h.2.2.2.1, fun i hi _ _ h1 h2 => h.2.2.2.2 i hi h1 h2⟩
theorem FrU.of_grown {s : Nat} {r : Option Nat} {d g : Nat} {a b : World} (h : a.grownBy b r) : FrU s r d g a b := ⟨h.os, h.tape, h.output, h.size, fun i hi _ h1 _ _ => h.block i hi h1⟩
theorem FrU.set {s : Nat} {r : Option Nat} {d g : Nat} (w : World) (j : Nat) (u : Value) : FrU s r d g w (w.setCell ⟨s, j, none⟩ u) := ⟨rfl, rfl, rfl, by simp [World.setCell], fun k _ h1 _ _ _ => Below.heap_setCell w ⟨s, j, none⟩ u k h1⟩
theorem StoV.sto {B s d : Nat} {v : Value} {l : List ByteArray} {b : ByteArray} {t : Int} {w : World} (h : StoV B s d v l b t w) : StoAt B s d l b t w := ⟨v, h⟩
set_option maxRecDepth 100000 in
theorem Add_stoV (B s d g : Nat) (v : Value) (l : List ByteArray) (b : ByteArray) (t : Int) (L : List ByteArray) (f nw : Int) (text : ByteArray) (w : World) (hS : StoV B s d v l b t w) (hD : DevAt d g L f false nw w) (hL2 : 2 ≤ L.length) (hL : L.length ≤ 4096) (hf : f ≤ 4611686018427387904) (ht : 1 ≤ t ∧ t ≤ 1099511627775) (hx : text.size ≤ 32768) (hbz : b.size ≤ 131072) (hll : l.length ≤ 131072) (hr : (b.size + (text.size + 2) + 63) / 64 < L.length / 2) :
    Calls Try.prog 39 #[.pointer (some ⟨s, 0, none⟩), .string text] w fun e w' => e = .returned (.int .i64 (errW3 (writesR L f t (b.size / 64) (b ++ txt (txB text))))) ∧ (∃ nw', DevAt d g (writesR L f t (b.size / 64) (b ++ txt (txB text))).1 (writesR L f t (b.size / 64) (b ++ txt (txB text))).2.1 (writesR L f t (b.size / 64) (b ++ txt (txB text))).2.2 nw' w') ∧
      (errW3 (writesR L f t (b.size / 64) (b ++ txt (txB text))) = 0 → StoAt B s d (l ++ [text]) (b ++ txt (txB text)) t w') ∧ (errW3 (writesR L f t (b.size / 64) (b ++ txt (txB text))) ≠ 0 → StoAt B s d l b t w') ∧ FrU s v.ownBlock d g w w' := by
  have HG := Aside0.mk (given_some B s d l b t w (StoV.sto hS))
  have HBY := Aside0.mk (fun W => bytes_calls text (by omega) W)
  have hsz : (txt (txB text)).size = text.size + 2 := by rw [txt_size, txB_length]
  have hcz : (b ++ txt (txB text)).size = b.size + (text.size + 2) := by rw [ByteArray.size_append, hsz]
  have HRM := Aside0.mk (fun (nw : Int) (W : World) (hS : StoAt B s d l b t W) (hD : DevAt d g L f false nw W) => room_calls B s d g l b t L f nw (b.size + (txt (txB text)).size) W hS hD (by rw [hsz]; omega) hL)
  have HWR := Aside0.mk (fun (nw : Int) (W : World) (hS : StoAt B s d l b t W) (hD : DevAt d g L f false nw W) => writes_calls B s d g l b t L f nw t (b.size / 64) (b ++ txt (txB text)) W hS hD hL2 hL (by omega) (by rw [hcz]; omega) (by rw [hcz]; exact hr) (by rw [hcz]; omega) hf)
  have HLL := Aside0.mk hll
  clear hll
  have HS := Aside0.mk hS
  have HD := Aside0.mk hD
  have c2 := StoAt.bytes (StoV.sto hS)
  have c3 := StoAt.turn (StoV.sto hS)
  have d1 : decide (32768 < (text.size : Int)) = false := decide_eq_false (by omega)
  have d1b : decide (32768 < text.size) = false := decide_eq_false (by omega)
  have d2 : (t == 0) = false := by rw [beq_eq_false_iff_ne]; omega
  have hrm : decide ((b.size + (txt (txB text)).size + 63) / 64 < L.length / 2) = true := decide_eq_true (by rw [hsz]; exact hr)
  have v1 : IntKind.i64.wrap ((b.size : Int) + ((txt (txB text)).size : Int)) = ((b.size + (txt (txB text)).size : Nat) : Int) := by rw [IntKind.wrap_i64, hsz]; omega
  have k9 : (9223372036854775807 < b.size + (txt (txB text)).size) = False := eq_false (by rw [hsz]; omega)
  rw [hrm] at HRM
  have HV1 := Aside0.mk v1
  have HK9 := Aside0.mk k9
  have HFRW : Aside0 (∀ fr, b.size / 64 = fr → IntKind.i64.wrap (fr : Int) = (fr : Int)) := ⟨fun fr h => by rw [IntKind.wrap_i64]; omega⟩
  clear hS hD hL2 hL hf ht hx hr hrm v1 k9 hbz hcz
  generalize hTX : txt (txB text) = TX at *
  have HTX := Aside0.mk hTX
  have HTZ : Aside0 (TX.size = text.size + 2) := ⟨hsz⟩
  clear hTX hsz
  obtain ⟨NN, hNN⟩ : ∃ NN, b.size + TX.size = NN := ⟨_, rfl⟩
  rw [hNN] at HRM HV1
  have V1 := HV1.out
  have HBD := Aside0.mk (below_drew1 (Below.refl w.heap.size w))
  clear hNN
  go_enter Try.func39, Try.ntmps39
  go_wp2_with (fail)
  refine HG.out.mono ?_
  rintro e w' ⟨rfl, rfl⟩
  go_wp2_with (fail)
  go_region_held3 (fun w' => w'.cell? ⟨s, 3, none⟩ = some (.int .i64 t) ∧ w'.cell? ⟨s, 2, none⟩ = some (.string b))
    (first | go_keep | exact ⟨c3, c2⟩)
    (first
      | (go_at_call 74; (with_reducible refine (HBY.out _).mono ?_); rintro e2 w3 ⟨rfl, hb0⟩; have HB3 := Aside0.mk (below_step HBD.out hb0); have HS3 := Aside0.mk (HS.out.below HB3.out); have HD3 := Aside0.mk (HD.out.below HB3.out); clear hb0 c3 c2; have c3 := StoAt.turn (StoV.sto HS3.out); have c2 := StoAt.bytes (StoV.sto HS3.out))
      | (go_at_call 73; (with_reducible refine (HRM.out _ _ (StoV.sto HS3.out) HD3.out).mono ?_); rintro e2 w4 ⟨rfl, rfl⟩))
  have K9 := HK9.out
  have HBD4 := Aside0.mk (below_drew1 (Below.refl w4.heap.size w4))
  clear V1 c3
  go_wp2_with (fail)
  go_region_held3 (fun w' => w'.cell? ⟨s, 2, none⟩ = some (.string b))
    (first | go_keep | exact c2)
    (first
      | (go_at_call 74; (with_reducible refine (HBY.out _).mono ?_); rintro e2 w5 ⟨rfl, hb0⟩; have HB5 := Aside0.mk (below_step HBD4.out hb0); have HS5 := Aside0.mk (HS3.out.below HB5.out); have HD5 := Aside0.mk (HD3.out.below HB5.out); clear hb0 c2; have c2 := StoAt.bytes (StoV.sto HS5.out)))
  have c3 := StoAt.turn (StoV.sto HS5.out)
  obtain ⟨AL, hAL⟩ : ∃ AL, b ++ TX = AL := ⟨_, rfl⟩
  obtain ⟨fr, hfr⟩ : ∃ fr, b.size / 64 = fr := ⟨_, rfl⟩
  have q64 : ((b.size : Int) / 64) = (fr : Int) := by omega
  have z64 : IntKind.i64.wrap (fr : Int) = (fr : Int) := HFRW.out fr hfr
  have HWR2 := HWR.out
  rw [hAL, hfr] at HWR2
  obtain ⟨R, hR⟩ : ∃ R, writesR L f t fr AL = R := ⟨_, rfl⟩
  obtain ⟨z, hz⟩ : ∃ z, errW3 R = z := ⟨_, rfl⟩
  rw [hR, hz] at HWR2
  have HW := Aside0.mk HWR2
  have HR := Aside0.mk hR
  have HZ := Aside0.mk hz
  have HAL := Aside0.mk hAL
  have HFR := Aside0.mk hfr
  clear HWR HWR2 hR hz hfr HRM HS3 HD3 HBD4 HBD
  have HS5D := Aside0.mk (HS5.out.below (below_drew1 (Below.refl _ _)))
  have HD5D := Aside0.mk (HD5.out.below (below_drew1 (Below.refl _ _)))
  go_wp2_with (fail)
  rw [hAL]
  clear hAL
  go_region_held3 (fun w' => w'.cell? ⟨s, 3, none⟩ = some (.int .i64 t) ∧ w'.cell? ⟨s, 2, none⟩ = some (.string b))
    (first | go_keep | exact ⟨c3, c2⟩)
    (first
      | (go_at_call 75; (with_reducible refine (HW.out _ _ (StoV.sto HS5D.out) HD5D.out).mono ?_); rintro e2 w6 ⟨rfl, hd4, hf4⟩; have HD6 := Aside0.mk hd4; have HF6 := Aside0.mk (show FrV d g w' w6 from ((FrV.of_below HB3.out).trans (FrV.of_below HB5.out)).trans ((FrV.of_below (below_drew1 (Below.refl _ _))).trans hf4)); have HS6 := Aside0.mk (HS5D.out.frv HD5D.out hf4); clear hd4 hf4 c3 c2; have c3 := StoAt.turn (StoV.sto HS6.out); have c2 := StoAt.bytes (StoV.sto HS6.out)))
  by_cases hz0 : z = 0
  · subst hz0
    clear HW HS5 HD5 HB5 HS5D HD5D HB3 HBY q64 z64 K9 d1 d1b d2
    have hv := HS6.out
    obtain ⟨A, c, rfl⟩ := own_slice hv.2.2
    have g1 := (hv.cells).2.1
    obtain ⟨ie, hie, hy0, hy1, hy2⟩ := info_parts info9
    have hBs : B ≤ w6.heap.size := Nat.le_trans hv.1 (Nat.le_of_lt (blk_lt hv.2.1))
    have HV7 := Aside0.mk (hv.below (below_alloc (Below.refl _ _) (.cells #[.string text] 9)))
    have HN7 : Aside0 ((w6.alloc (.cells #[.string text] 9)).heap[w6.heap.size]? = some (.cells #[.string text] 9 (0, 0))) := ⟨blk_new _ _⟩
    clear hv
    go_wp2_with (at_builtin; refine wpList_append_lies _ rfl _ _ _ rfl B 9 ie (.string ⟨#[]⟩) 1 16 Try.underlying46 hie hy0 hy1 hy2 rfl (by decide) (.slice A l.length c) l.length (l.map Value.string) rfl HV7.out.2.2 ⟨w6.heap.size, 0, none⟩ 1 1 [.string text] rfl rfl (World.news_of_block HN7.out) (fun u hu => by rw [List.mem_singleton.1 hu]; rfl) (by decide) (by have := HLL.out; unfold maxLen; omega) (by have := HLL.out; omega) (Nat.le_trans hBs (by simp)) (w6.alloc (.cells #[.string text] 9)).heap.size rfl ?_; intro gg cap w8 hown1 hgrow hat hlt5; have P8 := (hgrow.block s (blk_lt HV7.out.2.1) (Go.Proofs.YtbkbganflnemeaaW.PrintWords.own_ne HV7.out.2.2 HV7.out.2.1 (by decide))).trans HV7.out.2.1; have e2 : w8.cell? ⟨s, 1, none⟩ = some (.slice A l.length c) := (by rw [cell_of_row _ _ _ _ _ _ P8]; rfl); have ef2 := blk_thaw P8 1; have P9 := blk_put P8 1 (.slice (some ⟨gg, 0, none⟩) (l.length + 1) cap) (show _ = #[.pointer (some ⟨d, 0, none⟩), (.slice (some ⟨gg, 0, none⟩) (l.length + 1) cap), .string b, .int .i64 t] from rfl); have e3 : (w8.setCell ⟨s, 1, none⟩ (.slice (some ⟨gg, 0, none⟩) (l.length + 1) cap)).cell? ⟨s, 2, none⟩ = some (.string b) := (by rw [cell_of_row _ _ _ _ _ _ P9]; rfl); have ef3 := blk_thaw P9 2)
    have P10 := blk_put P9 2 (.string AL) (show _ = #[.pointer (some ⟨d, 0, none⟩), (.slice (some ⟨gg, 0, none⟩) (l.length + 1) cap), .string AL, .int .i64 t] from rfl)
    have HSE : Aside0 (StoAt B s d (l ++ [text]) AL t ((w8.setCell ⟨s, 1, none⟩ (.slice (some ⟨gg, 0, none⟩) (l.length + 1) cap)).setCell ⟨s, 2, none⟩ (.string AL))) := ⟨⟨(.slice (some ⟨gg, 0, none⟩) (l.length + 1) cap), HV7.out.1, P10, by
      rw [List.length_append, List.map_append]
      exact own_move hown1 (fun k hk => by
        have hne : k ≠ s := fun e => Go.Proofs.YtbkbganflnemeaaW.PrintWords.own_ne hown1 P8 (by decide) (by rw [hk, e])
        rw [Below.heap_setCell _ ⟨s, 2, none⟩ _ k hne, Below.heap_setCell _ ⟨s, 1, none⟩ _ k hne])⟩⟩
    have HDE : Aside0 (∃ nw', DevAt d g R.1 R.2.1 R.2.2 nw' ((w8.setCell ⟨s, 1, none⟩ (.slice (some ⟨gg, 0, none⟩) (l.length + 1) cap)).setCell ⟨s, 2, none⟩ (.string AL))) := ⟨HD6.out.imp fun nw' h => ((devGrown (h.below (below_alloc (Below.refl _ _) (.cells #[.string text] 9))) HV7.out.2.2 hgrow).far P8 1 _).far P9 2 _⟩
    have HFE : Aside0 (FrU s (Value.slice A l.length c).ownBlock d g w' ((w8.setCell ⟨s, 1, none⟩ (.slice (some ⟨gg, 0, none⟩) (l.length + 1) cap)).setCell ⟨s, 2, none⟩ (.string AL))) := ⟨((FrU.of_frv (HF6.out.trans (FrV.of_below (below_alloc (Below.refl _ _) (.cells #[.string text] 9))))).trans (FrU.of_grown hgrow)).trans ((FrU.set _ 1 _).trans (FrU.set _ 2 _))⟩
    go_ret
    rw [← HTX.out] at HAL
    rw [HTX.out] at HAL
    have hR2 : writesR L f t (b.size / 64) (b ++ TX) = R := by rw [HFR.out, HAL.out]; exact HR.out
    rw [hR2, HZ.out, HAL.out]
    exact ⟨rfl, HDE.out, fun _ => HSE.out, fun h => absurd rfl h, HFE.out⟩
  · have e1 : (z != 0) = true := bne_iff_ne.2 hz0
    have HNZ := Aside0.mk hz0
    clear c3 c2 HW HS5 HD5 HB5 HS5D HD5D HB3 HBY hz0 q64 z64 K9 d1 d1b d2
    go_wp2_with (fail)
    go_ret
    have hR2 : writesR L f t (b.size / 64) (b ++ TX) = R := by rw [HFR.out, HAL.out]; exact HR.out
    rw [hR2, HZ.out]
    exact ⟨rfl, HD6.out, fun h => absurd h HNZ.out, fun _ => ⟨_, HS6.out⟩, FrU.of_frv HF6.out⟩
set_option maxRecDepth 100000 in
theorem Add_full (B s d g : Nat) (l : List ByteArray) (b : ByteArray) (t : Int) (L : List ByteArray) (f nw : Int) (text : ByteArray) (w : World) (hS : StoAt B s d l b t w) (hD : DevAt d g L f false nw w) (hL : L.length ≤ 4096) (ht : 1 ≤ t) (hx : text.size ≤ 32768) (hbz : b.size ≤ 131072) (hr : L.length / 2 ≤ (b.size + (text.size + 2) + 63) / 64) :
    Calls Try.prog 39 #[.pointer (some ⟨s, 0, none⟩), .string text] w fun e w' => e = .returned (.int .i64 2) ∧ Below w.heap.size w w' := by
  have HG := Aside0.mk (given_some B s d l b t w hS)
  have HBY := Aside0.mk (fun W => bytes_calls text (by omega) W)
  have hsz : (txt (txB text)).size = text.size + 2 := by rw [txt_size, txB_length]
  have HRM := Aside0.mk (fun (nw : Int) (W : World) (hS : StoAt B s d l b t W) (hD : DevAt d g L f false nw W) => room_calls B s d g l b t L f nw (b.size + (txt (txB text)).size) W hS hD (by rw [hsz]; omega) hL)
  have HS := Aside0.mk hS
  have HD := Aside0.mk hD
  have c2 := hS.bytes
  have c3 := hS.turn
  have d1 : decide (32768 < (text.size : Int)) = false := decide_eq_false (by omega)
  have d1b : decide (32768 < text.size) = false := decide_eq_false (by omega)
  have d2 : (t == 0) = false := by rw [beq_eq_false_iff_ne]; omega
  have hrm : decide ((b.size + (txt (txB text)).size + 63) / 64 < L.length / 2) = false := decide_eq_false (by rw [hsz]; omega)
  have v1 : IntKind.i64.wrap ((b.size : Int) + ((txt (txB text)).size : Int)) = ((b.size + (txt (txB text)).size : Nat) : Int) := by rw [IntKind.wrap_i64, hsz]; omega
  rw [hrm] at HRM
  have HV1 := Aside0.mk v1
  clear hS hD hL ht hx hr hrm v1 hbz
  generalize hTX : txt (txB text) = TX at *
  clear hTX hsz
  obtain ⟨NN, hNN⟩ : ∃ NN, b.size + TX.size = NN := ⟨_, rfl⟩
  rw [hNN] at HRM HV1
  have V1 := HV1.out
  have HBD := Aside0.mk (below_drew1 (Below.refl w.heap.size w))
  clear hNN
  go_enter Try.func39, Try.ntmps39
  go_wp2_with (fail)
  refine HG.out.mono ?_
  rintro e w' ⟨rfl, rfl⟩
  go_wp2_with (fail)
  go_region_held3 (fun w' => w'.cell? ⟨s, 3, none⟩ = some (.int .i64 t) ∧ w'.cell? ⟨s, 2, none⟩ = some (.string b))
    (first | go_keep | exact ⟨c3, c2⟩)
    (first
      | (go_at_call 74; (with_reducible refine (HBY.out _).mono ?_); rintro e2 w3 ⟨rfl, hb0⟩; have HB3 := Aside0.mk (below_step HBD.out hb0); have HS3 := Aside0.mk (HS.out.below HB3.out); have HD3 := Aside0.mk (HD.out.below HB3.out); clear hb0 c3 c2; have c3 := HS3.out.turn; have c2 := HS3.out.bytes)
      | (go_at_call 73; (with_reducible refine (HRM.out _ _ HS3.out HD3.out).mono ?_); rintro e2 w4 ⟨rfl, rfl⟩))
  go_wp2_with (fail)
  go_ret
  exact ⟨rfl, HB3.out⟩
end Go.Proofs.Ytbkbganflnemeaa.Pr
end

section
namespace Go.Proofs.Ytbkbganflnemeaa.Pr
open Go.RowKit Go.Proofs.YtbkbganflnemeaaW.PrintWords Go.Proofs.YtbkbganflnemeaaW.PrintLast Go.Proofs.YtbkbganflnemeaaW.PrintMore
attribute [local go_sem] max2_int min2_int max_two min_two max_three min_three max_four min_four   -- for this text's walks alone
set_option linter.unusedVariables false
set_option linter.unusedSimpArgs false
def samphireref08_Same.l0 : Nat → List ByteArray → List ByteArray → Int → Option (Bool)
  | 0, _, _, _ => none
  | k + 1, x0, x1, x5 => if x5 < (x0.length : Int) then (if 0 ≤ x5 then (if x5 < (x1.length : Int) then (if (rdOf ByteArray.empty x0 x5).toList = (rdOf ByteArray.empty x1 x5).toList then (samphireref08_Same.l0 k x0 x1 (wrap64 (x5 + 1))) else (some false)) else (none)) else (none)) else (some true)
def samphireref08_Same.f (k : Nat) (l0 : List ByteArray) (l1 : List ByteArray) : Option (Bool) := if (l0.length : Int) = (l1.length : Int) then (samphireref08_Same.l0 k l0 l1 0) else (some false)
set_option maxHeartbeats 8000000 in
set_option maxRecDepth 100000 in
theorem samphireref08_Same.calls (k : Nat) (A0 : Option Addr) (c0 : Nat) (l0 : List ByteArray) (A1 : Option Addr) (c1 : Nat) (l1 : List ByteArray) (r : Bool) (w : World) (hr0 : Kd.C Kd.string w A0 l0.length l0) (hc0 : l0.length ≤ c0) (hr1 : Kd.C Kd.string w A1 l1.length l1) (hc1 : l1.length ≤ c1) (h : samphireref08_Same.f k l0 l1 = some r) :
    Calls Try.prog 47 #[.slice A0 l0.length c0, .slice A1 l1.length c1] w fun e w' => e = .returned (.bool r) ∧ Drawn0 w w' := by
  have HR0 := Aside0.mk hr0
  have HC0 := Aside0.mk hc0
  clear hr0 hc0
  have HR1 := Aside0.mk hr1
  have HC1 := Aside0.mk hc1
  clear hr1 hc1
  have H : (if (l0.length : Int) = (l1.length : Int) then (samphireref08_Same.l0 k l0 l1 0) else (some false)) = some r := h
  clear h
  by_cases c3 : (l0.length : Int) = (l1.length : Int)
  · rw [if_pos c3] at H
    have c3b0 : ((l0.length : Int) == (l1.length : Int)) = true := beq_iff_eq.mpr c3
    have c3b1 : ((l0.length : Int) != (l1.length : Int)) = false := bne_eq_false_iff_eq.mpr c3
    have c3b2 : (l0.length == l1.length) = true := by first | simpa using c3 | (simp at c3 ⊢; omega)
    clear c3
    have H' := Aside0.mk H
    clear H
    go_enter Try.func47, Try.ntmps47
    go_wp2
    repeat (go_quiet (fail); try go_wp2)
    go_loopg [5] k (fun kq v5 w' => ∃ (x5_1 : Int), v5 = .int .i64 x5_1 ∧ Aside0 (samphireref08_Same.l0 kq l0 l1 x5_1 = some r) ∧ Aside0 (kq ≤ k) ∧ Drawn0 w w')
    case atStart => exact ⟨(0), (by first | rfl | (simp; done) | (simp [*]; done)), H', ⟨Nat.le_refl _⟩, by repeat (first | exact Drawn0.refl _ | apply Drawn0.step)⟩
    case round =>
      clear H'
      try clear c1
      try clear p2
      try clear c3
      try clear c3b0
      try clear c3b1
      try clear c3b2
      obtain ⟨x5_1, rfl, HA, HK1, ⟨m1, rfl⟩⟩ := hrel
      cases gk with
      | zero => exact absurd HA.out (by simp [samphireref08_Same.l0])
      | succ k1 =>
        have H := HA.out
        clear HA
        simp only [samphireref08_Same.l0] at H
        by_cases c4 : x5_1 < (l0.length : Int)
        · rw [if_pos c4] at H
          have c4b0 : decide (x5_1 < (l0.length : Int)) = true := decide_eq_true c4
          clear c4
          by_cases c5 : 0 ≤ x5_1
          · rw [if_pos c5] at H
            have c5b0 : decide (0 ≤ x5_1) = true := decide_eq_true c5
            clear c5
            by_cases c6 : x5_1 < (l1.length : Int)
            · rw [if_pos c6] at H
              have c6b0 : decide (x5_1 < (l1.length : Int)) = true := decide_eq_true c6
              clear c6
              by_cases c7 : (rdOf ByteArray.empty l0 x5_1).toList = (rdOf ByteArray.empty l1 x5_1).toList
              · rw [if_pos c7] at H
                have c7b0 : ((rdOf ByteArray.empty l0 x5_1).toList == (rdOf ByteArray.empty l1 x5_1).toList) = true := beq_iff_eq.mpr c7
                have c7b1 : ((rdOf ByteArray.empty l0 x5_1).toList != (rdOf ByteArray.empty l1 x5_1).toList) = false := bne_eq_false_iff_eq.mpr c7
                clear c7
                have H' := Aside0.mk H
                clear H
                have p414 : 0 ≤ (x5_1 : Int) := of_decide_eq_true (by first | (with_reducible assumption) | assumption)
                have q414 : x5_1 < (l0.length : Int) := of_decide_eq_true (by first | (with_reducible assumption) | assumption)
                obtain ⟨ad414, e414, hx414_0⟩ := Kd.at_string HR0.out x5_1 p414 q414
                cases e414
                replace p414 := eq_true p414
                replace q414 := eq_true q414
                have p415 : 0 ≤ (x5_1 : Int) := of_decide_eq_true (by first | (with_reducible assumption) | assumption)
                have q415 : x5_1 < (l1.length : Int) := of_decide_eq_true (by first | (with_reducible assumption) | assumption)
                obtain ⟨ad415, e415, hx415_0⟩ := Kd.at_string HR1.out x5_1 p415 q415
                cases e415
                replace p415 := eq_true p415
                replace q415 := eq_true q415
                go_wp2
                repeat (go_quiet (fail); try go_wp2)
                go_roundg k1
                case measure => have := HK1.out; omega
                case rel => exact ⟨(wrap64 (x5_1 + 1)), (by first | rfl | (simp; done) | (simp [*]; done)), H', ⟨by have := HK1.out; omega⟩, by repeat (first | exact Drawn0.refl _ | apply Drawn0.step)⟩
              · rw [if_neg c7] at H
                have c7b0 : ((rdOf ByteArray.empty l0 x5_1).toList == (rdOf ByteArray.empty l1 x5_1).toList) = false := beq_eq_false_iff_ne.mpr c7
                have c7b1 : ((rdOf ByteArray.empty l0 x5_1).toList != (rdOf ByteArray.empty l1 x5_1).toList) = true := bne_iff_ne.mpr c7
                obtain rfl := Option.some.inj H
                have p414 : 0 ≤ (x5_1 : Int) := of_decide_eq_true (by first | (with_reducible assumption) | assumption)
                have q414 : x5_1 < (l0.length : Int) := of_decide_eq_true (by first | (with_reducible assumption) | assumption)
                obtain ⟨ad414, e414, hx414_0⟩ := Kd.at_string HR0.out x5_1 p414 q414
                cases e414
                replace p414 := eq_true p414
                replace q414 := eq_true q414
                have p415 : 0 ≤ (x5_1 : Int) := of_decide_eq_true (by first | (with_reducible assumption) | assumption)
                have q415 : x5_1 < (l1.length : Int) := of_decide_eq_true (by first | (with_reducible assumption) | assumption)
                obtain ⟨ad415, e415, hx415_0⟩ := Kd.at_string HR1.out x5_1 p415 q415
                cases e415
                replace p415 := eq_true p415
                replace q415 := eq_true q415
                go_wp2
                repeat (go_quiet (fail); try go_wp2)
                go_ret
                exact ⟨by first | rfl | (simp; done) | (simp [*]; done), by repeat (first | exact Drawn0.refl _ | apply Drawn0.step)⟩
            · rw [if_neg c6] at H
              exact absurd H (by simp)
          · rw [if_neg c5] at H
            exact absurd H (by simp)
        · rw [if_neg c4] at H
          have c4b0 : decide (x5_1 < (l0.length : Int)) = false := decide_eq_false c4
          clear c4
          obtain rfl := Option.some.inj H
          go_wp2
          repeat (go_quiet (fail); try go_wp2)
          go_ret
          exact ⟨by first | rfl | (simp; done) | (simp [*]; done), by repeat (first | exact Drawn0.refl _ | apply Drawn0.step)⟩
  · rw [if_neg c3] at H
    have c3b0 : ((l0.length : Int) == (l1.length : Int)) = false := beq_eq_false_iff_ne.mpr c3
    have c3b1 : ((l0.length : Int) != (l1.length : Int)) = true := bne_iff_ne.mpr c3
    have c3b2 : (l0.length == l1.length) = false := by first | simpa using c3 | (simp at c3 ⊢; omega)
    obtain rfl := Option.some.inj H
    go_enter Try.func47, Try.ntmps47
    go_wp2
    repeat (go_quiet (fail); try go_wp2)
    go_ret
    exact ⟨by first | rfl | (simp; done) | (simp [*]; done), by repeat (first | exact Drawn0.refl _ | apply Drawn0.step)⟩
end Go.Proofs.Ytbkbganflnemeaa.Pr
end

section
namespace Go.Proofs.Ytbkbganflnemeaa.Pr
open Go.RowKit Go.Deep Go.Maps Go.Proofs.YtbkbganflnemeaaW.PrintWords Go.Proofs.YtbkbganflnemeaaW.PrintLast Go.Proofs.YtbkbganflnemeaaW.PrintMore
set_option maxHeartbeats 4000000
set_option linter.unusedVariables false
set_option linter.unusedSimpArgs false
def sA : ByteArray := ⟨#[97]⟩
def sB : ByteArray := ⟨#[98]⟩
theorem same_self_l : ∀ (k : Nat) (l : List ByteArray) (i : Nat), l.length ≤ i + k → i ≤ l.length → l.length < 1000000 → samphireref08_Same.l0 (k + 1) l l (i : Int) = some true
  | 0, l, i, h, h2, h3 => by
    unfold samphireref08_Same.l0
    rw [if_neg (by omega)]
  | k + 1, l, i, h, h2, h3 => by
    unfold samphireref08_Same.l0
    by_cases hl : i < l.length
    · rw [if_pos (by omega), if_pos (by omega), if_pos (by omega), if_pos rfl, show wrap64 ((i : Int) + 1) = ((i + 1 : Nat) : Int) by unfold wrap64; omega]
      exact same_self_l k l (i + 1) (by omega) (by omega) h3
    · rw [if_neg (by omega)]
theorem same_self (l : List ByteArray) (h : l.length < 1000000) : samphireref08_Same.f (l.length + 1) l l = some true := by
  unfold samphireref08_Same.f
  rw [if_pos rfl]
  exact same_self_l l.length l 0 (by omega) (by omega) h
theorem C_of_own {B e : Nat} {v : Value} {l : List ByteArray} {w : World} (h : w.ownsRow B e 1 v l.length (l.map Value.string)) : ∃ A c, v = .slice A l.length c ∧ l.length ≤ c ∧ Kd.C Kd.string w A l.length l :=
  Kd.R_reads (Kd.R_of_own (ok := fun _ => True) (h1 := fun _ => rfl) h (fun _ _ => trivial))
theorem StoAt.below_B {B s d B' : Nat} {l : List ByteArray} {b : ByteArray} {t : Int} {w : World} (h : StoAt B s d l b t w) (hb : B' ≤ B) : B' ≤ s := by
  obtain ⟨v, q⟩ := h
  exact Nat.le_trans hb q.1
set_option maxRecDepth 100000 in
theorem sawake_calls (w : World) : Calls Try.prog 34 #[] w fun e w' => e = .returned (.bool true) ∧ Below w.heap.size w w' := by
  have HSM := Aside0.mk (same_self [sB] (by decide))
  go_enter Try.func34, Try.ntmps34
  go_wp2_with (fail)
  refine (New_dev 8 (by decide) (by decide) w).mono ?_
  rintro e w1 ⟨rfl, hD, hb⟩
  have HD1 := Aside0.mk hD
  have HB1 := Aside0.mk hb
  have HL0 : Aside0 ((List.replicate 8 zblk).length = 8 ∧ bestP (List.replicate 8 zblk) 2 = (0, [], [])) := ⟨⟨List.length_replicate, best_zero 8 (by decide)⟩⟩
  clear hD hb
  generalize List.replicate 8 zblk = L0 at *
  go_wp2_with (fail)
  have ho := Open_dev _ _ L0 (-1) 0 w1 HD1.out (by rw [HL0.out.1]; decide) (by rw [HL0.out.1]; decide)
  rw [HL0.out.2] at ho
  refine ho.mono ?_
  clear ho
  rintro e w2 ⟨hb, s, rfl, hs⟩
  have HS2 := Aside0.mk hs
  have HD2 := Aside0.mk (HD1.out.below hb)
  have HB2 := Aside0.mk (show Below w.heap.size w w2 from below_then HB1.out HB1.out.size hb)
  have HW1 := Aside0.mk HB1.out.size
  clear hs hb HD1 HB1
  go_wp2_with (fail)
  refine (Add_turn0 w1.heap.size s _ [] _ _ w2 HS2.out).mono ?_
  rintro e w3 ⟨rfl, hb⟩
  have HS3 := Aside0.mk (HS2.out.below hb)
  have HD3 := Aside0.mk (HD2.out.below hb)
  have HB3 := Aside0.mk (show Below w.heap.size w w3 from below_then HB2.out HB2.out.size hb)
  clear hb HS2 HD2 HB2
  go_wp2_with (fail)
  refine (Lay_on w1.heap.size s _ _ [] _ 0 L0 0 sA w3 HS3.out HD3.out (by rw [HL0.out.1]; decide) (by rw [HL0.out.1]; decide) (by decide) (by decide) (by rw [HL0.out.1]; decide) (by rw [HL0.out.2])).mono ?_
  rintro e w4 ⟨rfl, L1, nw1, hd, hl, hbest, hs, hf⟩
  have HS4 := Aside0.mk hs
  have HD4 := Aside0.mk hd
  have HL1 := Aside0.mk (show L1.length = 8 ∧ bestP L1 2 = (1, txB sA, [sA]) from ⟨hl.trans HL0.out.1, hbest⟩)
  have HB4 := Aside0.mk (show Below w.heap.size w w4 from HB3.out.trans (hf.below (by omega) (by omega) (Nat.le_trans HW1.out (HS3.out.below_B (Nat.le_refl _))) HB3.out.size))
  clear hs hd hl hbest hf HS3 HD3 HB3 HL0
  go_wp2_with (fail)
  refine (Add_on w1.heap.size s _ _ [sA] (txB sA) 1 L1 nw1 sB w4 HS4.out HD4.out (by rw [HL1.out.1]; decide) (by rw [HL1.out.1]; decide) (by decide) (by decide) (by decide +kernel) (by decide) (by rw [HL1.out.1]; decide +kernel) HL1.out.2).mono ?_
  rintro e w5 ⟨rfl, L2, nw2, hd, hl, hbest, hs, hf⟩
  have HD5 := Aside0.mk hd
  have HL2 := Aside0.mk (show L2.length = 8 ∧ bestP L2 2 = (1, txB sA ++ txB sB, [sA, sB]) from ⟨hl.trans HL1.out.1, hbest⟩)
  have HB5 := Aside0.mk (show Below w.heap.size w w5 from HB4.out.trans (hf.below (by omega) (by omega) HW1.out HB4.out.size))
  clear hs hd hl hbest hf HS4 HD4 HB4 HL1
  go_wp2_with (fail)
  have ho := Open_dev _ _ L2 (-1) nw2 w5 HD5.out (by rw [HL2.out.1]; decide) (by rw [HL2.out.1]; decide)
  rw [HL2.out.2] at ho
  refine ho.mono ?_
  clear ho
  rintro e w6 ⟨hb, s2, rfl, hs⟩
  have HS6 := Aside0.mk hs
  have HB6 := Aside0.mk (show Below w.heap.size w w6 from below_then HB5.out HB5.out.size hb)
  clear hs hb HD5 HB5
  go_wp2_with (fail)
  refine (Base_sto w5.heap.size s2 _ (⟨#[97]⟩ : ByteArray) [sB] _ _ w6 HS6.out).mono ?_
  rintro e w' ⟨rfl, rfl⟩
  go_wp2_with (fail)
  refine (Behind_more w5.heap.size s2 _ sA sB [] _ _ w' HS6.out (by decide)).mono ?_
  rintro e w7 ⟨v7, rfl, ho7, hb⟩
  have HS7 := Aside0.mk (HS6.out.below hb)
  have HB7 := Aside0.mk (show Below w.heap.size w w7 from below_then HB6.out HB6.out.size hb)
  have HO7 := Aside0.mk (C_of_own (l := [sB]) ho7)
  clear hb ho7 HS6 HB6
  obtain ⟨A7, c7, rfl, hc7, hC7⟩ := HO7.out
  have HC7 := Aside0.mk hC7
  have HK7 := Aside0.mk hc7
  clear hC7 hc7 HO7
  go_wp2_with (fail)
  have HC8 : Aside0 (Kd.C Kd.string (w7.alloc (Obj.cells #[Value.string ⟨#[98]⟩] 9)) (some ⟨w7.heap.size, 0, none⟩) [sB].length [sB]) := ⟨by
    obtain ⟨A, c, he, _, hC⟩ := C_of_own (l := [sB]) (sto_new w7.heap.size w7 sB (Nat.le_refl _))
    simp only [Value.slice.injEq] at he
    rw [he.1]
    exact hC⟩
  refine (samphireref08_Same.calls ([sB].length + 1) A7 c7 [sB] (some ⟨w7.heap.size, 0, none⟩) 1 [sB] true _ (Kd.C_below HC7.out (below_alloc (Below.refl _ _) _)) HK7.out HC8.out (Nat.le_refl _) HSM.out).mono ?_
  rintro e w8 ⟨rfl, hdr⟩
  have HS8 := Aside0.mk ((HS7.out.below (below_alloc (Below.refl _ _) (Obj.cells #[Value.string ⟨#[98]⟩] 9))).below hdr.below)
  have HB8 := Aside0.mk (show Below w.heap.size w w8 from below_then (below_alloc HB7.out _) (below_alloc HB7.out _).size hdr.below)
  clear hdr HS7 HB7 HC7 HC8 HK7 HSM
  go_wp2_with (fail)
  refine (Turn_sto w5.heap.size s2 _ [sA, sB] _ _ w8 HS8.out).mono ?_
  rintro e w' ⟨rfl, rfl⟩
  go_wp2_with (fail)
  go_ret
  exact ⟨rfl, HB8.out⟩
end Go.Proofs.Ytbkbganflnemeaa.Pr
end

section
namespace Go.Proofs.Ytbkbganflnemeaa.Pr
open Go.RowKit Go.Deep Go.Maps Go.Proofs.YtbkbganflnemeaaW.PrintWords Go.Proofs.YtbkbganflnemeaaW.PrintLast Go.Proofs.YtbkbganflnemeaaW.PrintMore
attribute [local go_sem] max2_int min2_int max_two min_two
set_option maxHeartbeats 4000000
set_option linter.unusedVariables false
set_option linter.unusedSimpArgs false
theorem Fuse_dev (d g : Nat) (L : List ByteArray) (f nw : Int) (o : Bool) (n : Int) (w : World) (h : DevAt d g L f o nw w) (hL : 0 < L.length) (hn : 0 ≤ n) : Calls Try.prog 45 #[.pointer (some ⟨d, 0, none⟩), .int .i64 n] w fun e w' => e = .returned (.int .i64 0) ∧ DevAt d g L n o nw w' ∧ FrV d g w w' := by
  obtain ⟨c0, c1, c2, c3⟩ := h.cells
  have HD := Aside0.mk h
  have HSZ := Aside0.mk (Size_dev d g L f nw o w h)
  have d1 : ((L.length : Int) == 0) = false := by rw [beq_eq_false_iff_ne]; omega
  have d1b : (L.length == 0) = false := by rw [beq_eq_false_iff_ne]; omega
  have ef := blk_thaw h.box 1
  have em : max n (-1) = n := by omega
  clear h hL hn
  go_enter Try.func45, Try.ntmps45
  go_wp2_with (fail)
  refine HSZ.out.mono ?_
  rintro e w' ⟨rfl, rfl⟩
  go_wp2_with (fail)
  go_ret
  first
    | exact ⟨rfl, HD.out.set1 _, FrV.set _ _ _ _ _⟩
    | (rw [em]; exact ⟨rfl, HD.out.set1 _, FrV.set _ _ _ _ _⟩)
theorem same_gen_l : ∀ (k : Nat) (a b : List ByteArray) (i : Nat), a.length = b.length → a.length ≤ i + k → i ≤ a.length → a.length < 1000000 → samphireref08_Same.l0 (k + 1) a b (i : Int) = some (decide (a.drop i = b.drop i))
  | 0, a, b, i, he, h, h2, h3 => by
    unfold samphireref08_Same.l0
    rw [if_neg (by omega), List.drop_eq_nil_of_le (by omega), List.drop_eq_nil_of_le (by omega)]
    rfl
  | k + 1, a, b, i, he, h, h2, h3 => by
    unfold samphireref08_Same.l0
    by_cases hl : i < a.length
    · have hlb : i < b.length := by omega
      have r1 : rdOf ByteArray.empty a (i : Int) = a[i] := by
        unfold rdOf
        rw [List.getD_eq_getElem?_getD, Int.toNat_natCast, List.getElem?_eq_getElem hl]
        rfl
      have r2 : rdOf ByteArray.empty b (i : Int) = b[i] := by
        unfold rdOf
        rw [List.getD_eq_getElem?_getD, Int.toNat_natCast, List.getElem?_eq_getElem hlb]
        rfl
      rw [if_pos (by omega), if_pos (by omega), if_pos (by omega), r1, r2, List.drop_eq_getElem_cons hl, List.drop_eq_getElem_cons hlb]
      by_cases hx : a[i] = b[i]
      · rw [if_pos (by rw [hx]), show wrap64 ((i : Int) + 1) = ((i + 1 : Nat) : Int) by unfold wrap64; omega, same_gen_l k a b (i + 1) he (by omega) (by omega) h3, hx]
        congr 1
        exact decide_eq_decide.2 ⟨fun h => by rw [h], fun h => (List.cons.inj h).2⟩
      · rw [if_neg (fun h => hx (by
          rw [ByteArray.toList_eq, ByteArray.toList_eq] at h
          exact ByteArray.ext (Array.ext' h)))]
        congr 1
        exact (decide_eq_false (fun h => hx (List.cons.inj h).1)).symm
    · rw [if_neg (by omega), List.drop_eq_nil_of_le (by omega), List.drop_eq_nil_of_le (by omega)]
      rfl
theorem same_gen (a b : List ByteArray) (h : a.length < 1000000) : samphireref08_Same.f (a.length + 1) a b = some (decide (a = b)) := by
  unfold samphireref08_Same.f
  by_cases he : a.length = b.length
  · rw [if_pos (by omega)]
    exact same_gen_l a.length a b 0 he (by omega) (by omega) h
  · rw [if_neg (by omega)]
    congr 1
    exact (decide_eq_false (fun e => he (by rw [e]))).symm
theorem Same_any (B1 B2 : Nat) (v1 v2 : Value) (l1 l2 : List ByteArray) (w : World) (h1 : w.ownsRow B1 9 1 v1 l1.length (l1.map Value.string)) (h2 : w.ownsRow B2 9 1 v2 l2.length (l2.map Value.string)) (h : l1.length < 1000000) :
    Calls Try.prog 47 #[v1, v2] w fun e w' => e = .returned (.bool (decide (l1 = l2))) ∧ Below w.heap.size w w' := by
  obtain ⟨A1, c1, rfl, hc1, hC1⟩ := C_of_own h1
  obtain ⟨A2, c2, rfl, hc2, hC2⟩ := C_of_own h2
  exact (samphireref08_Same.calls _ A1 c1 l1 A2 c2 l2 _ w hC1 hc1 hC2 hc2 (same_gen l1 l2 h)).mono fun e w' q => ⟨q.1, q.2.below⟩
theorem Behind_any (B s d : Nat) (x : ByteArray) (l : List ByteArray) (b : ByteArray) (t : Int) (w : World) (h : StoAt B s d (x :: l) b t w) (hl : l.length ≤ 131072) : Calls Try.prog 37 #[.pointer (some ⟨s, 0, none⟩)] w fun e w' => ∃ v', e = .returned v' ∧ w'.ownsRow w.heap.size 9 1 v' l.length (l.map Value.string) ∧ Below w.heap.size w w' := by
  cases l with
  | nil => exact (Behind_one B s d x b t w h).mono fun e w' q => ⟨_, q.1, own_nil _ _ _ _, q.2⟩
  | cons y l => exact Behind_more B s d x y l b t w h (by simp at hl; omega)
theorem low_zero (n : Nat) (h : 2 ≤ n) : LowH (List.replicate n zblk) 0 := fun which hw => by
  have e1 : halfB which (List.replicate n zblk) = List.replicate (n / 2) zblk := by
    unfold halfB
    rw [List.length_replicate, List.drop_replicate, List.take_replicate]
    congr 1
    rcases (show which = 0 ∨ which = 1 by omega) with rfl | rfl <;> omega
  have e2 : bys zblk = List.replicate 64 0 := by decide +kernel
  have hz : ∀ x ∈ List.replicate (n / 2) zblk, x.size = 64 := fun x hx => by rw [(List.mem_replicate.1 hx).2]; exact zblk_size
  unfold headN
  rw [e1, take_head _ hz zblk (by rw [List.getElem?_replicate, if_pos (by omega)]), e2]
  decide +kernel
theorem low_lay (L : List ByteArray) (t : Int) (text : ByteArray) (h0 : 0 ≤ t) (ht : t < 1099511627775) (hx : text.size ≤ 32768) (hr : (text.size + 2 + 63) / 64 < L.length / 2) (hlow : LowH L t) : LowH (writesR L (-1) (t + 1) 0 (txt (txB text))).1 (t + 1) := by
  have hsz : (txt (txB text)).size = text.size + 2 := by rw [txt_size, txB_length]
  obtain ⟨which, hwh⟩ : ∃ which, ((t + 1) % 2).toNat = which := ⟨_, rfl⟩
  obtain ⟨_, _, k3, k4, _, _⟩ := half_written L (t + 1) 0 (txt (txB text)) [text] which (decide_eq_true (by omega)) (by omega) (by omega) (by rw [txsB_one]) (by simpa using hx) (by simp) (by omega) (by rw [hsz]; exact hr) (Nat.zero_le _) (fun i hi => absurd hi (by omega))
  intro w hw2
  rcases (show w = which ∨ w = 1 - which by omega) with rfl | rfl
  · unfold headN
    rw [← halfP_head k3]
    exact Int.le_refl _
  · unfold headN
    rw [k4]
    have := hlow (1 - which) hw2
    unfold headN at this
    omega
theorem Lay_first (B s d g : Nat) (l : List ByteArray) (b : ByteArray) (L : List ByteArray) (nw : Int) (text : ByteArray) (w : World) (hS : StoAt B s d l b 0 w) (hD : DevAt d g L (-1) false nw w) (hL2 : 2 ≤ L.length) (hL : L.length ≤ 4096) (hx : text.size ≤ 32768) (hr : (text.size + 2 + 63) / 64 < L.length / 2) (hb : (bestP L 2).1 = 0) (hlow : LowH L 0) :
    Calls Try.prog 35 #[.pointer (some ⟨s, 0, none⟩), .string text] w fun e w' => e = .returned (.int .i64 0) ∧
      ∃ L' nw', DevAt d g L' (-1) false nw' w' ∧ L'.length = L.length ∧ bestP L' 2 = (1, txB text, [text]) ∧ LowH L' 1 ∧ StoAt B s d [text] (txt (txB text)) 1 w' ∧ FrS d g s w w' := by
  obtain ⟨g1, g2, g3, g4⟩ := best_lay L 0 text hb (by decide) (by decide) hx hr
  have hlow' := low_lay L 0 text (by decide) (by decide) hx hr hlow
  refine (Lay_sto B s d g l b 0 L (-1) nw text w hS hD hL2 hL (by decide) (by decide) hx hr).mono ?_
  rintro e w' ⟨he, ⟨nw', hd⟩, h0, _, hf⟩
  rw [errW3_on g1] at he h0
  rw [g1] at hd
  exact ⟨he, _, nw', hd, g2, g3, hlow', h0 rfl, hf⟩
theorem Lay_fuse (B s d g : Nat) (l : List ByteArray) (b : List Nat) (t : Int) (L : List ByteArray) (f nw : Int) (text : ByteArray) (w : World) (hS : StoAt B s d l (txt b) t w) (hD : DevAt d g L f false nw w) (hL2 : 2 ≤ L.length) (hL : L.length ≤ 4096) (hf : (f = -1 ∨ 0 ≤ f) ∧ f ≤ 1000) (ht : 1 ≤ t ∧ t < 1099511627775) (hx : text.size ≤ 32768) (hr : (text.size + 2 + 63) / 64 < L.length / 2) (hb : bestP L 2 = (t, b, l)) (hlow : LowH L t) :
    Calls Try.prog 35 #[.pointer (some ⟨s, 0, none⟩), .string text] w fun e w' =>
      ∃ z L' f' o' nw', e = .returned (.int .i64 z) ∧ DevAt d g L' f' o' nw' w' ∧ L'.length = L.length ∧ FrS d g s w w' ∧
      (z = 0 ∧ bestP L' 2 = (t + 1, txB text, [text]) ∧ LowH L' (t + 1) ∨ z = 170 ∧ bestP L' 2 = (t, b, l) ∧ LowH L' t) := by
  obtain ⟨q1, q2⟩ := fuse_lay L t b l text f hf.1 hb ht.1 ht.2 hlow hD.siz hx hr
  refine (Lay_sto B s d g l (txt b) t L f nw text w hS hD hL2 hL (by omega) ⟨by omega, ht.2⟩ hx hr).mono ?_
  rintro e w' ⟨he, ⟨nw', hd⟩, h0, _, hfr⟩
  refine ⟨_, _, _, _, _, he, hd, q1, hfr, q2⟩
theorem Add_fuse (B s d g : Nat) (v : Value) (l : List ByteArray) (b : List Nat) (t : Int) (L : List ByteArray) (f nw : Int) (text : ByteArray) (w : World) (hS : StoV B s d v l (txt b) t w) (hD : DevAt d g L f false nw w) (hL2 : 2 ≤ L.length) (hL : L.length ≤ 4096) (hf : (f = -1 ∨ 0 ≤ f) ∧ f ≤ 1000) (ht : 1 ≤ t ∧ t < 1099511627775) (hx : text.size ≤ 32768) (hbz : b.length ≤ 131072) (hll : l.length ≤ 131072) (hb : bestP L 2 = (t, b, l)) (hlow : LowH L t) :
    Calls Try.prog 39 #[.pointer (some ⟨s, 0, none⟩), .string text] w fun e w' =>
      ∃ z L' f' o' nw', e = .returned (.int .i64 z) ∧ DevAt d g L' f' o' nw' w' ∧ L'.length = L.length ∧ FrU s v.ownBlock d g w w' ∧ LowH L' t ∧
      (z = 0 ∧ bestP L' 2 = (t, b ++ txB text, l ++ [text]) ∨ (z = 170 ∨ z = 2) ∧ bestP L' 2 = (t, b, l)) := by
  have hz : (txt b).size = b.length := txt_size _
  by_cases hr : (b.length + (text.size + 2) + 63) / 64 < L.length / 2
  · obtain ⟨q1, q2⟩ := fuse_add L t b l text f hf.1 hb ht.1 hlow hD.siz hx (by omega) hr
    have h := Add_stoV B s d g v l (txt b) t L f nw text w hS hD hL2 hL (by omega) ⟨ht.1, by omega⟩ hx (by omega) hll (by rw [hz]; exact hr)
    rw [hz] at h
    refine h.mono ?_
    rintro e w' ⟨he, ⟨nw', hd⟩, h0, _, hfr⟩
    refine ⟨_, _, _, _, _, he, hd, q1, hfr, ?_, ?_⟩
    · rcases q2 with q | q <;> exact q.2.2
    · rcases q2 with q | q
      · exact .inl ⟨q.1, q.2.1⟩
      · exact .inr ⟨.inl q.1, q.2.1⟩
  · refine (Add_full B s d g l (txt b) t L f nw text w hS.sto hD hL ht.1 hx (by omega) (by rw [hz]; omega)).mono ?_
    rintro e w' ⟨he, hbl⟩
    exact ⟨2, L, f, false, nw, he, hD.below hbl, rfl, FrU.of_frv (FrV.of_below hbl), hlow, .inr ⟨.inr rfl, hb⟩⟩
end Go.Proofs.Ytbkbganflnemeaa.Pr
end

section
namespace Go.Proofs.Ytbkbganflnemeaa.Pr
open Go.RowKit Go.Deep Go.Maps Go.Proofs.YtbkbganflnemeaaW.PrintWords Go.Proofs.YtbkbganflnemeaaW.PrintLast Go.Proofs.YtbkbganflnemeaaW.PrintMore
set_option maxHeartbeats 4000000
set_option linter.unusedVariables false
set_option linter.unusedSimpArgs false
theorem str_at {w : World} {A : Option Addr} {l : List ByteArray} (h : Kd.C Kd.string w A l.length l) (k : Nat) (hk : k < l.length) : ∃ ad x, A = some ad ∧ l[k]? = some x ∧ w.cell? (ad.add k) = some (.string x) := by
  obtain ⟨ad, he, hz⟩ := h.2.2 (by omega)
  obtain ⟨cs, h1, h2, h3⟩ := hz k _ (List.getElem?_eq_getElem hk)
  have h2' : cs = [.string l[k]] := h2
  subst h2'
  have h4 : w.cell? (ad.add (k * 1)) = some (.string l[k]) := h3 0 _ rfl
  rw [Nat.mul_one] at h4
  exact ⟨ad, l[k], he, List.getElem?_eq_getElem hk, h4⟩
end Go.Proofs.Ytbkbganflnemeaa.Pr
end

section
namespace Go.Proofs.Ytbkbganflnemeaa.Pr
open Go.RowKit Go.Deep Go.Maps Go.Proofs.YtbkbganflnemeaaW.PrintWords Go.Proofs.YtbkbganflnemeaaW.PrintLast Go.Proofs.YtbkbganflnemeaaW.PrintMore
set_option maxHeartbeats 16000000
set_option linter.unusedVariables false
set_option linter.unusedSimpArgs false
theorem FrS.own {d g s B n : Nat} {v : Value} {xs : List Value} {L : List ByteArray} {f nw : Int} {o : Bool} {w w' : World} {cs : Array Value} (h : FrS d g s w w') (hD : DevAt d g L f o nw w) (hs : w.heap[s]? = some (.cells cs 61 (0, 0))) (ho : w.ownsRow B 9 1 v n xs) : w'.ownsRow B 9 1 v n xs :=
  own_move ho fun k hk => h.2.2.2.2 k (own_lt ho k hk) (fun e => Go.Proofs.YtbkbganflnemeaaW.PrintWords.own_ne ho hD.box (by decide) (by rw [hk, e])) (fun e => Go.Proofs.YtbkbganflnemeaaW.PrintWords.own_ne ho hD.row (by decide) (by rw [hk, e])) (fun e => Go.Proofs.YtbkbganflnemeaaW.PrintWords.own_ne ho hs (by decide) (by rw [hk, e]))
theorem FrU.own {d g s B n : Nat} {r : Option Nat} {v : Value} {xs : List Value} {L : List ByteArray} {f nw : Int} {o : Bool} {w w' : World} {cs : Array Value} (h : FrU s r d g w w') (hD : DevAt d g L f o nw w) (hs : w.heap[s]? = some (.cells cs 61 (0, 0))) (ho : w.ownsRow B 9 1 v n xs) (hne : v.ownBlock = none ∨ v.ownBlock ≠ r) : w'.ownsRow B 9 1 v n xs :=
  own_move ho fun k hk => h.2.2.2.2 k (own_lt ho k hk) (fun e => Go.Proofs.YtbkbganflnemeaaW.PrintWords.own_ne ho hs (by decide) (by rw [hk, e])) (fun e => hne.elim (fun q => by rw [q] at hk; cases hk) (fun q => q (hk.trans e))) (fun e => Go.Proofs.YtbkbganflnemeaaW.PrintWords.own_ne ho hD.box (by decide) (by rw [hk, e])) (fun e => Go.Proofs.YtbkbganflnemeaaW.PrintWords.own_ne ho hD.row (by decide) (by rw [hk, e]))
theorem FrV.own {d g B n : Nat} {v : Value} {xs : List Value} {L : List ByteArray} {f nw : Int} {o : Bool} {w w' : World} (h : FrV d g w w') (hD : DevAt d g L f o nw w) (ho : w.ownsRow B 9 1 v n xs) : w'.ownsRow B 9 1 v n xs :=
  own_move ho fun k hk => h.2.2.2.2 k (own_lt ho k hk) (fun e => Go.Proofs.YtbkbganflnemeaaW.PrintWords.own_ne ho hD.box (by decide) (by rw [hk, e])) (fun e => Go.Proofs.YtbkbganflnemeaaW.PrintWords.own_ne ho hD.row (by decide) (by rw [hk, e]))
theorem FrU.below {s : Nat} {r : Option Nat} {d g B : Nat} {a b : World} (h : FrU s r d g a b) (h1 : B ≤ d) (h2 : B ≤ g) (h3 : B ≤ s) (h4 : B ≤ a.heap.size) (h5 : ∀ k, r = some k → B ≤ k) : Below B a b := ⟨h.1, h.2.1, h.2.2.1, h.2.2.2.1, fun k hk => h.2.2.2.2 k (by omega) (by omega) (fun e => by have := h5 k e.symm; omega) (by omega) (by omega)⟩
theorem and_7b (n : Int) : bits .and .i64 n 7 = n % 8 := by
  have h127 : (BitVec.ofInt 64 7).toNat = 2 ^ 3 - 1 := by decide
  have key : (BitVec.ofInt 64 n &&& BitVec.ofInt 64 7).toNat = (n % ((2 ^ 64 : Nat) : Int)).toNat % 2 ^ 3 := by
    rw [BitVec.toNat_and, BitVec.toNat_ofInt, h127, Nat.and_two_pow_sub_one_eq_mod]
  show IntKind.i64.wrap ((BitVec.ofInt 64 n &&& BitVec.ofInt 64 7).toNat : Nat) = n % 8
  rw [key, IntKind.wrap_i64]
  omega
theorem and_31b (n : Int) : bits .and .i64 n 31 = n % 32 := by
  have h127 : (BitVec.ofInt 64 31).toNat = 2 ^ 5 - 1 := by decide
  have key : (BitVec.ofInt 64 n &&& BitVec.ofInt 64 31).toNat = (n % ((2 ^ 64 : Nat) : Int)).toNat % 2 ^ 5 := by
    rw [BitVec.toNat_and, BitVec.toNat_ofInt, h127, Nat.and_two_pow_sub_one_eq_mod]
  show IntKind.i64.wrap ((BitVec.ofInt 64 n &&& BitVec.ofInt 64 31).toNat : Nat) = n % 32
  rw [key, IntKind.wrap_i64]
  omega
theorem int_at {w : World} {A : Option Addr} {l : List Int} (h : Kd.C (Kd.int .i64) w A l.length l) (k : Nat) (hk : k < l.length) : ∃ ad x, A = some ad ∧ l[k]? = some x ∧ w.cell? (ad.add k) = some (.int .i64 x) := by
  obtain ⟨ad, he, hz⟩ := h.2.2 (by omega)
  obtain ⟨cs, h1, h2, h3⟩ := hz k _ (List.getElem?_eq_getElem hk)
  have h2' : cs = [.int .i64 l[k]] := h2
  subst h2'
  have h4 : w.cell? (ad.add (k * 1)) = some (.int .i64 l[k]) := h3 0 _ rfl
  rw [Nat.mul_one] at h4
  exact ⟨ad, l[k], he, List.getElem?_eq_getElem hk, h4⟩
def BfSt (w : World) (s B hs : Nat) (vs vb : Value) (L : List ByteArray) (nw : Int) (ll l : List ByteArray) (bb : List Nat) (T : Int) (W : World) : Prop :=
  StoV B s (w.heap.size + 1) vs ll (txt bb) T W ∧ DevAt (w.heap.size + 1) w.heap.size L (-1) false nw W ∧ W.ownsRow w.heap.size 9 1 vb l.length (l.map Value.string) ∧ Below w.heap.size w W ∧ hs ≤ W.heap.size ∧ (∀ q, vs.ownBlock = some q → q < hs)
theorem BfSt.below {w : World} {s B hs : Nat} {vs vb : Value} {L : List ByteArray} {nw : Int} {ll l : List ByteArray} {bb : List Nat} {T : Int} {W W' : World} (h : BfSt w s B hs vs vb L nw ll l bb T W) (hb : Below W.heap.size W W') : BfSt w s B hs vs vb L nw ll l bb T W' :=
  ⟨h.1.below hb, h.2.1.below hb, pw_own_below h.2.2.1 hb, below_then h.2.2.2.1 h.2.2.2.1.size hb, Nat.le_trans h.2.2.2.2.1 hb.size, h.2.2.2.2.2⟩
theorem BfSt.behind {w : World} {s B hs : Nat} {vs vb vb' : Value} {L : List ByteArray} {nw : Int} {ll l l' : List ByteArray} {bb : List Nat} {T : Int} {W : World} (h : BfSt w s B hs vs vb L nw ll l bb T W) (ho : W.ownsRow w.heap.size 9 1 vb' l'.length (l'.map Value.string)) : BfSt w s B hs vs vb' L nw ll l' bb T W :=
  ⟨h.1, h.2.1, ho, h.2.2.2.1, h.2.2.2.2.1, h.2.2.2.2.2⟩
theorem vn_of {hs : Nat} {vb vs : Value} (h1 : ∀ q, vs.ownBlock = some q → q < hs) (h2 : ∀ q, vb.ownBlock = some q → hs ≤ q) : vb.ownBlock = none ∨ vb.ownBlock ≠ vs.ownBlock := by
  cases hb : vb.ownBlock with
  | none => exact .inl rfl
  | some q => exact .inr (fun e => by have := h1 q e.symm; have := h2 q hb; omega)
set_option maxRecDepth 100000 in
theorem before_calls (A1 : Option Addr) (cap1 : Nat) (l1 : List ByteArray) (laid : Int) (A2 : Option Addr) (cap2 : Nat) (l2 : List Int) (w : World) (hC : Kd.C Kd.string w A1 l1.length l1) (hF : Kd.C (Kd.int .i64) w A2 l2.length l2) :
    Calls Try.prog 13 #[.slice A1 l1.length cap1, .int .i64 laid, .slice A2 l2.length cap2] w fun e w' => e = .returned (.bool true) ∧ Below w.heap.size w w' := by
  have HC := Aside0.mk hC
  have HFU := Aside0.mk hF
  clear hC hF
  go_enter Try.func13, Try.ntmps13
  go_wp2_with (fail)
  refine (New_dev 40 (by decide) (by decide) w).mono ?_
  rintro e w1 ⟨rfl, hD, hb⟩
  have HD1 := Aside0.mk hD
  have HB1 := Aside0.mk hb
  have HL0 : Aside0 ((List.replicate 40 zblk).length = 40 ∧ bestP (List.replicate 40 zblk) 2 = (0, [], []) ∧ LowH (List.replicate 40 zblk) 0) := ⟨⟨List.length_replicate, best_zero 40 (by decide), low_zero 40 (by decide)⟩⟩
  clear hD hb
  generalize List.replicate 40 zblk = L0 at *
  go_wp2_with (fail)
  have ho := Open_dev _ _ L0 (-1) 0 w1 HD1.out (by rw [HL0.out.1]; decide) (by rw [HL0.out.1]; decide)
  rw [HL0.out.2.1] at ho
  refine ho.mono ?_
  clear ho
  rintro e w2 ⟨hb, s, rfl, hs⟩
  have HS2 := Aside0.mk hs
  have HD2 := Aside0.mk (HD1.out.below hb)
  have HB2 := Aside0.mk (show Below w.heap.size w w2 from below_then HB1.out HB1.out.size hb)
  have HW1 := Aside0.mk HB1.out.size
  clear hs hb HD1 HB1
  go_wp2_with (fail)
  refine (Lay_first w1.heap.size s _ _ [] _ L0 0 ⟨#[]⟩ w2 HS2.out HD2.out (by rw [HL0.out.1]; decide) (by rw [HL0.out.1]; decide) (by decide) (by rw [HL0.out.1]; decide) (by rw [HL0.out.2.1]) HL0.out.2.2).mono ?_
  rintro e w3 ⟨rfl, L, nw, hd, hl, hbest, hlow, ⟨vs, hs⟩, hf⟩
  have HS3 := Aside0.mk hs
  have HD3 := Aside0.mk hd
  have HL3 := Aside0.mk (show L.length = 40 ∧ bestP L 2 = (1, txB ⟨#[]⟩, [⟨#[]⟩]) ∧ LowH L 1 from ⟨hl.trans HL0.out.1, hbest, hlow⟩)
  have HB3 := Aside0.mk (show Below w.heap.size w w3 from HB2.out.trans (hf.below (by omega) (Nat.le_refl _) (HS2.out.below_B HW1.out) HB2.out.size))
  clear hs hd hl hbest hlow hf HS2 HD2 HB2 HL0
  by_cases hl : l1.length ≤ 30
  case neg =>
    have d1 : decide (30 < (l1.length : Int)) = true := decide_eq_true (by omega)
    have d1b : decide (30 < l1.length) = true := decide_eq_true (by omega)
    clear hl
    go_wp2_with (fail)
    refine (sawake_calls _).mono ?_
    rintro e w4 ⟨rfl, hb⟩
    have HB4 := Aside0.mk (show Below w.heap.size w w4 from below_then HB3.out HB3.out.size hb)
    clear hb
    go_wp2_with (fail)
    go_ret
    exact ⟨rfl, HB4.out⟩
  have d1 : decide (30 < (l1.length : Int)) = false := decide_eq_false (by omega)
  have d1b : decide (30 < l1.length) = false := decide_eq_false (by omega)
  have HL := Aside0.mk hl
  clear hl
  go_wp2_with (fail)
  clear d1 d1b
  go_loopw [9, 11, 12, 13, 14] (fun sp bs tn vb i wr => ∃ (k s B : Nat) (vs : Value) (L : List ByteArray) (nw : Int) (x : ByteArray) (l : List ByteArray) (b : List Nat) (t : Int), k ≤ l1.length ∧ i = .int .i64 (k : Int) ∧ sp = .pointer (some ⟨s, 0, none⟩) ∧ bs = .string x ∧ tn = .int .i64 t ∧ Aside0 (w.heap.size ≤ B ∧ 1 ≤ t ∧ t ≤ (k : Int) + 1 ∧ b.length ≤ 202 * (k + 1) ∧ l.length ≤ k) ∧ Aside0 (StoV B s (w.heap.size + 1) vs (x :: l) (txt b) t wr) ∧ Aside0 (wr.ownsRow w.heap.size 9 1 vb l.length (l.map Value.string)) ∧ Aside0 (vb.ownBlock = none ∨ vb.ownBlock ≠ vs.ownBlock) ∧ Aside0 (DevAt (w.heap.size + 1) w.heap.size L (-1) false nw wr) ∧ Aside0 (L.length = 40 ∧ bestP L 2 = (t, b, x :: l) ∧ LowH L t) ∧ Aside0 (Below w.heap.size w wr)) (fun _ _ _ _ i _ => l1.length - (intOf i).toNat)
  case atStart => exact ⟨0, s, w1.heap.size, vs, L, nw, _, [], _, 1, by omega, rfl, rfl, rfl, rfl, ⟨⟨HW1.out, by decide, by decide, by decide +kernel, by decide⟩⟩, HS3, ⟨own_nil _ _ _ _⟩, ⟨.inl rfl⟩, HD3, HL3, HB3⟩
  case round =>
    clear HS3 HD3 HB3 HW1 HL3
    obtain ⟨k, s, B, vs, L, nw, x, l, b, t, hk, rfl, rfl, rfl, rfl, HN, HS, HV, HVN, HD, HLB, HB⟩ := hrel
    obtain ⟨Av, cv, rfl⟩ := own_slice HV.out
    by_cases hlt : k < l1.length
    · have q2 : decide (k < l1.length) = true := decide_eq_true hlt
      obtain ⟨ad, y, rfl, hget, cx⟩ := str_at HC.out k hlt
      have CX := Aside0.mk cx
      have cx' := pw_cell_below HB.out cx
      have e5 := eq_true hlt
      have HLT := Aside0.mk hlt
      have HKN := Aside0.mk (show k < 30 by have := HL.out; omega)
      by_cases hx : y.size ≤ 200
      case neg =>
        have d2 : decide (200 < (y.size : Int)) = true := decide_eq_true (by omega)
        have d2b : decide (200 < y.size) = true := decide_eq_true (by omega)
        clear hk hlt hx hget cx
        go_wp2_with (fail)
        refine (sawake_calls _).mono ?_
        rintro e w3 ⟨rfl, hb⟩
        have HB3 := Aside0.mk (show Below w.heap.size w w3 from below_then HB.out HB.out.size hb)
        clear hb
        go_wp2_with (fail)
        go_ret
        exact ⟨rfl, HB3.out⟩
      have d2 : decide (200 < (y.size : Int)) = false := decide_eq_false (by omega)
      have d2b : decide (200 < y.size) = false := decide_eq_false (by omega)
      have HX := Aside0.mk hx
      clear hk hlt hx hget cx
      by_cases hfz : k < l2.length
      case' pos =>
        have q4 : decide (k < l2.length) = true := decide_eq_true hfz
        have e6 := eq_true hfz
        obtain ⟨ad2, z, rfl, _, cz⟩ := int_at HFU.out k hfz
        have cz' := pw_cell_below HB.out cz
        obtain ⟨f, hf⟩ : ∃ f, bits .and .i64 z 7 = f := ⟨_, rfl⟩
        have HF : Aside0 ((f = -1 ∨ 0 ≤ f) ∧ f ≤ 1000) := ⟨by rw [← hf, and_7b]; omega⟩
        clear hfz cz
        go_wp2_with (fail)
        refine (Fuse_dev _ _ L (-1) nw false f _ HD.out (by rw [HLB.out.1]; decide) (by have := HF.out.1; have := and_7b z; omega)).mono ?_
        rintro e wr ⟨rfl, hd, hfr⟩
        have HS0 := HS
        have HV0 := HV
        have HD0 := HD
        have HB0 := HB
        clear HS HV HD HB cx' cz'
        have HS := Aside0.mk (HS0.out.frv HD0.out hfr)
        have HV := Aside0.mk (hfr.own HD0.out HV0.out)
        have HD := Aside0.mk hd
        have HB := Aside0.mk (show Below w.heap.size w wr from HB0.out.trans (hfr.below (by omega) (Nat.le_refl _) HB0.out.size))
        clear HS0 HV0 HD0 HB0 hd hfr hf q4 e6
        have cx' := pw_cell_below HB.out CX.out
      case' neg =>
        have q4 : decide (k < l2.length) = false := decide_eq_false hfz
        have e6 := eq_false hfz
        obtain ⟨f, hf⟩ : ∃ f : Int, f = -1 := ⟨_, rfl⟩
        have HF : Aside0 ((f = -1 ∨ 0 ≤ f) ∧ f ≤ 1000) := ⟨by omega⟩
        rw [← hf] at HD
        clear hf hfz
      all_goals
        obtain ⟨sh, hsh⟩ : ∃ sh, Op.shift .shr .i64 laid .i64 (bits .and .i64 (k : Int) 31) = pure (.int .i64 sh) := ⟨_, shift_shr_any _ _ _ _ (by rw [and_31b]; omega)⟩
        obtain ⟨bt, hbt⟩ : ∃ bt, bits .and .i64 sh 1 = bt := ⟨_, rfl⟩
        by_cases hb1 : bt = 1
        · subst hb1
          as_aux_lemma =>
            have HSB := Aside0.mk (Nat.le_trans HN.out.1 HS.out.1)
            go_wp2_with (fail)
            refine (Lay_fuse B s _ _ (x :: l) b t L f nw y _ HS.out.sto HD.out (by rw [HLB.out.1]; decide) (by rw [HLB.out.1]; decide) HF.out (by have := HN.out; have := HKN.out; omega) (by have := HX.out; omega) (by have := HX.out; rw [HLB.out.1]; omega) HLB.out.2.1 HLB.out.2.2).mono ?_
            rintro e w4 ⟨z, L', f', o', nw', rfl, hd, hl4, hfr, hcase⟩
            have HV4 := Aside0.mk (hfr.own HD.out HS.out.2.1 HV.out)
            have HD4 := Aside0.mk hd
            have HB4 := Aside0.mk (show Below w.heap.size w w4 from HB.out.trans (hfr.below (by omega) (Nat.le_refl _) HSB.out HB.out.size))
            have hl40 := hl4.trans HLB.out.1
            have v2 : wrap64 (t + 1) = t + 1 := by unfold wrap64; have := HN.out; have := HKN.out; omega
            have v3 : IntKind.i64.wrap (t + 1) = t + 1 := by rw [IntKind.wrap_i64]; have := HN.out; have := HKN.out; omega
            have n1 : (t + 1 == t) = false := by rw [beq_eq_false_iff_ne]; omega
            have n2 : (t == t + 1) = false := by rw [beq_eq_false_iff_ne]; omega
            have n3 : decide (t + 1 = t) = false := decide_eq_false (by omega)
            have n4 : decide (t = t + 1) = false := decide_eq_false (by omega)
            clear hd hfr hl4 HS HV HD HB HLB HSB HVN cx'
            rcases hcase with ⟨rfl, hbest, hlow⟩ | ⟨rfl, hbest, hlow⟩
            · as_aux_lemma =>
                have HL4 := Aside0.mk (show L'.length = 40 ∧ bestP L' 2 = (t + 1, txB y, [y]) ∧ LowH L' (t + 1) from ⟨hl40, hbest, hlow⟩)
                clear hbest hlow hl40
                have cx' := pw_cell_below HB4.out CX.out
                go_wp2_with (fail)
                refine (On_dev _ _ L' f' nw' o' w4 HD4.out (by rw [HL4.out.1]; decide)).mono ?_
                rintro e w5 ⟨rfl, hd, hfr⟩
                have HV5 := Aside0.mk (hfr.own HD4.out HV4.out)
                have HD5 := Aside0.mk hd
                have HB5 := Aside0.mk (show Below w.heap.size w w5 from HB4.out.trans (hfr.below (by omega) (Nat.le_refl _) HB4.out.size))
                clear hd hfr HV4 HD4 HB4 cx'
                have cx' := pw_cell_below HB5.out CX.out
                go_wp2_with (fail)
                have ho := Open_dev _ _ L' (-1) nw' w5 HD5.out (by rw [HL4.out.1]; decide) (by rw [HL4.out.1]; decide)
                rw [HL4.out.2.1] at ho
                refine ho.mono ?_
                clear ho
                rintro e w6 ⟨hb, s2, rfl, ⟨vs2, hs⟩⟩
                have HW5 := Aside0.mk HB5.out.size
                have H := Aside0.mk (show BfSt w s2 w5.heap.size w6.heap.size vs2 (.slice Av l.length cv) L' nw' _ l _ _ w6 from ⟨hs, HD5.out.below hb, pw_own_below HV5.out hb, below_then HB5.out HB5.out.size hb, Nat.le_refl _, fun q hq => own_lt hs.2.2 q hq⟩)
                clear hs hb HD5 HV5 HB5 cx'
                have cx' := pw_cell_below H.out.2.2.2.1 CX.out
                generalize w6.heap.size = hs6 at H
                generalize w5.heap.size = hs5 at H HW5
                go_wp2_with (fail)
                by_cases htx : y = x
                · as_aux_lemma =>
                    subst htx
                    refine (Base_sto _ s2 _ _ _ _ _ _ H.out.1.sto).mono ?_
                    rintro e wz ⟨rfl, rfl⟩
                    go_wp2_with (fail)
                    refine (Behind_any _ s2 _ _ _ _ _ _ H.out.1.sto (by first | decide | (have := HN.out; have := HKN.out; (try simp only [List.length_append, List.length_singleton, List.length_cons, List.length_nil]); omega))).mono ?_
                    rintro e wz ⟨v7, rfl, ho, hb⟩
                    have HO := Aside0.mk ho
                    clear ho
                    have H2 := Aside0.mk (H.out.below hb)
                    clear hb H cx'
                    have H := H2
                    clear H2
                    have cx' := pw_cell_below H.out.2.2.2.1 CX.out
                    go_wp2_with (fail)
                    by_cases hl0 : l = []
                    · as_aux_lemma =>
                        subst hl0
                        refine (Same_any _ _ v7 _ _ _ _ HO.out H.out.2.2.1 (by first | decide | (have := HN.out; have := HKN.out; (try simp only [List.length_append, List.length_singleton, List.length_cons, List.length_nil]); omega))).mono ?_
                        rintro e wz ⟨rfl, hb⟩
                        clear HO
                        have H2 := Aside0.mk (H.out.below hb)
                        clear hb H cx'
                        have H := H2
                        clear H2
                        have cx' := pw_cell_below H.out.2.2.2.1 CX.out
                        go_wp2_with (fail)
                        refine (Turn_sto _ s2 _ _ _ _ _ H.out.1.sto).mono ?_
                        rintro e wz ⟨rfl, rfl⟩
                        go_wp2_with (fail)
                        have H2 := Aside0.mk (H.out.behind (l' := []) (vb' := .slice none 0 0) (own_nil _ _ _ _))
                        clear H
                        have H := H2
                        clear H2
                        refine (Base_sto _ s2 _ _ _ _ _ _ H.out.1.sto).mono ?_
                        rintro e wz ⟨rfl, rfl⟩
                        go_wp2_with (fail)
                        refine (Behind_any _ s2 _ _ _ _ _ _ H.out.1.sto (by first | decide | (have := HN.out; have := HKN.out; (try simp only [List.length_append, List.length_singleton, List.length_cons, List.length_nil]); omega))).mono ?_
                        rintro e wz ⟨v7, rfl, ho, hb⟩
                        have HO := Aside0.mk ho
                        clear ho
                        have H2 := Aside0.mk (H.out.below hb)
                        clear hb H cx'
                        have H := H2
                        clear H2
                        have cx' := pw_cell_below H.out.2.2.2.1 CX.out
                        go_wp2_with (fail)
                        refine (Same_any _ _ v7 _ _ _ _ HO.out H.out.2.2.1 (by first | decide | (have := HN.out; have := HKN.out; (try simp only [List.length_append, List.length_singleton, List.length_cons, List.length_nil]); omega))).mono ?_
                        rintro e wz ⟨rfl, hb⟩
                        clear HO
                        have H2 := Aside0.mk (H.out.below hb)
                        clear hb H cx'
                        have H := H2
                        clear H2
                        have cx' := pw_cell_below H.out.2.2.2.1 CX.out
                        go_wp2_with (fail)
                        refine (Turn_sto _ s2 _ _ _ _ _ H.out.1.sto).mono ?_
                        rintro e wz ⟨rfl, rfl⟩
                        go_wp2_with (fail)
                        have hkk := HKN.out
                        have hnn := HN.out
                        have hxx := HX.out
                        refine ⟨⟨k + 1, s2, hs5, vs2, L', nw', y, [], txB y, t + 1, HLT.out, by first | rfl | (rw [show wrap64 ((k : Int) + 1) = ((k + 1 : Nat) : Int) by unfold wrap64; omega]), rfl, rfl, by rfl, ⟨⟨HW5.out, by omega, by first | omega | (have := HN.out; omega), by (try simp only [List.length_append, txB_length]); omega, by (try simp only [List.length_append, List.length_singleton, List.length_nil]); omega⟩⟩, ⟨H.out.1⟩, ⟨H.out.2.2.1⟩, ⟨.inl rfl⟩, ⟨H.out.2.1⟩, HL4, ⟨H.out.2.2.2.1⟩⟩, by rw [show wrap64 ((k : Int) + 1) = ((k + 1 : Nat) : Int) by unfold wrap64; omega]; simp only [intOf, Int.toNat_natCast]; have := HLT.out; omega⟩
                    · as_aux_lemma =>
                        have p1 : decide (([] : List ByteArray) = l) = false := decide_eq_false (fun e => hl0 e.symm)
                        refine (Same_any _ _ v7 _ _ _ _ HO.out H.out.2.2.1 (by first | decide | (have := HN.out; have := HKN.out; (try simp only [List.length_append, List.length_singleton, List.length_cons, List.length_nil]); omega))).mono ?_
                        rintro e wz ⟨rfl, hb⟩
                        clear HO
                        have H2 := Aside0.mk (H.out.below hb)
                        clear hb H cx'
                        have H := H2
                        clear H2
                        have cx' := pw_cell_below H.out.2.2.2.1 CX.out
                        go_wp2_with (fail)
                        have H2 := Aside0.mk (H.out.behind (l' := []) (vb' := .slice none 0 0) (own_nil _ _ _ _))
                        clear H
                        have H := H2
                        clear H2
                        refine (Base_sto _ s2 _ _ _ _ _ _ H.out.1.sto).mono ?_
                        rintro e wz ⟨rfl, rfl⟩
                        go_wp2_with (fail)
                        refine (Behind_any _ s2 _ _ _ _ _ _ H.out.1.sto (by first | decide | (have := HN.out; have := HKN.out; (try simp only [List.length_append, List.length_singleton, List.length_cons, List.length_nil]); omega))).mono ?_
                        rintro e wz ⟨v7, rfl, ho, hb⟩
                        have HO := Aside0.mk ho
                        clear ho
                        have H2 := Aside0.mk (H.out.below hb)
                        clear hb H cx'
                        have H := H2
                        clear H2
                        have cx' := pw_cell_below H.out.2.2.2.1 CX.out
                        go_wp2_with (fail)
                        refine (Same_any _ _ v7 _ _ _ _ HO.out H.out.2.2.1 (by first | decide | (have := HN.out; have := HKN.out; (try simp only [List.length_append, List.length_singleton, List.length_cons, List.length_nil]); omega))).mono ?_
                        rintro e wz ⟨rfl, hb⟩
                        clear HO
                        have H2 := Aside0.mk (H.out.below hb)
                        clear hb H cx'
                        have H := H2
                        clear H2
                        have cx' := pw_cell_below H.out.2.2.2.1 CX.out
                        go_wp2_with (fail)
                        refine (Turn_sto _ s2 _ _ _ _ _ H.out.1.sto).mono ?_
                        rintro e wz ⟨rfl, rfl⟩
                        go_wp2_with (fail)
                        have hkk := HKN.out
                        have hnn := HN.out
                        have hxx := HX.out
                        refine ⟨⟨k + 1, s2, hs5, vs2, L', nw', y, [], txB y, t + 1, HLT.out, by first | rfl | (rw [show wrap64 ((k : Int) + 1) = ((k + 1 : Nat) : Int) by unfold wrap64; omega]), rfl, rfl, by rfl, ⟨⟨HW5.out, by omega, by first | omega | (have := HN.out; omega), by (try simp only [List.length_append, txB_length]); omega, by (try simp only [List.length_append, List.length_singleton, List.length_nil]); omega⟩⟩, ⟨H.out.1⟩, ⟨H.out.2.2.1⟩, ⟨.inl rfl⟩, ⟨H.out.2.1⟩, HL4, ⟨H.out.2.2.2.1⟩⟩, by rw [show wrap64 ((k : Int) + 1) = ((k + 1 : Nat) : Int) by unfold wrap64; omega]; simp only [intOf, Int.toNat_natCast]; have := HLT.out; omega⟩
                · as_aux_lemma =>
                    have m0 : ¬ (y.toList = x.toList) := fun h => htx (by
                      rw [ByteArray.toList_eq, ByteArray.toList_eq] at h
                      exact ByteArray.ext (Array.ext' h))
                    have m1 : (y.toList == x.toList) = false := by rw [beq_eq_false_iff_ne]; exact m0
                    have m2 : decide (y.toList = x.toList) = false := decide_eq_false m0
                    have m3 : (y.toList = x.toList) = False := eq_false m0
                    clear m0
                    refine (Base_sto _ s2 _ _ _ _ _ _ H.out.1.sto).mono ?_
                    rintro e wz ⟨rfl, rfl⟩
                    go_wp2_with (fail)
                    have H2 := Aside0.mk (H.out.behind (l' := []) (vb' := .slice none 0 0) (own_nil _ _ _ _))
                    clear H
                    have H := H2
                    clear H2
                    refine (Base_sto _ s2 _ _ _ _ _ _ H.out.1.sto).mono ?_
                    rintro e wz ⟨rfl, rfl⟩
                    go_wp2_with (fail)
                    refine (Behind_any _ s2 _ _ _ _ _ _ H.out.1.sto (by first | decide | (have := HN.out; have := HKN.out; (try simp only [List.length_append, List.length_singleton, List.length_cons, List.length_nil]); omega))).mono ?_
                    rintro e wz ⟨v7, rfl, ho, hb⟩
                    have HO := Aside0.mk ho
                    clear ho
                    have H2 := Aside0.mk (H.out.below hb)
                    clear hb H cx'
                    have H := H2
                    clear H2
                    have cx' := pw_cell_below H.out.2.2.2.1 CX.out
                    go_wp2_with (fail)
                    refine (Same_any _ _ v7 _ _ _ _ HO.out H.out.2.2.1 (by first | decide | (have := HN.out; have := HKN.out; (try simp only [List.length_append, List.length_singleton, List.length_cons, List.length_nil]); omega))).mono ?_
                    rintro e wz ⟨rfl, hb⟩
                    clear HO
                    have H2 := Aside0.mk (H.out.below hb)
                    clear hb H cx'
                    have H := H2
                    clear H2
                    have cx' := pw_cell_below H.out.2.2.2.1 CX.out
                    go_wp2_with (fail)
                    refine (Turn_sto _ s2 _ _ _ _ _ H.out.1.sto).mono ?_
                    rintro e wz ⟨rfl, rfl⟩
                    go_wp2_with (fail)
                    have hkk := HKN.out
                    have hnn := HN.out
                    have hxx := HX.out
                    refine ⟨⟨k + 1, s2, hs5, vs2, L', nw', y, [], txB y, t + 1, HLT.out, by first | rfl | (rw [show wrap64 ((k : Int) + 1) = ((k + 1 : Nat) : Int) by unfold wrap64; omega]), rfl, rfl, by rfl, ⟨⟨HW5.out, by omega, by first | omega | (have := HN.out; omega), by (try simp only [List.length_append, txB_length]); omega, by (try simp only [List.length_append, List.length_singleton, List.length_nil]); omega⟩⟩, ⟨H.out.1⟩, ⟨H.out.2.2.1⟩, ⟨.inl rfl⟩, ⟨H.out.2.1⟩, HL4, ⟨H.out.2.2.2.1⟩⟩, by rw [show wrap64 ((k : Int) + 1) = ((k + 1 : Nat) : Int) by unfold wrap64; omega]; simp only [intOf, Int.toNat_natCast]; have := HLT.out; omega⟩
            · as_aux_lemma =>
                have HL4 := Aside0.mk (show L'.length = 40 ∧ bestP L' 2 = (t, b, x :: l) ∧ LowH L' t from ⟨hl40, hbest, hlow⟩)
                clear hbest hlow hl40
                have cx' := pw_cell_below HB4.out CX.out
                go_wp2_with (fail)
                refine (On_dev _ _ L' f' nw' o' w4 HD4.out (by rw [HL4.out.1]; decide)).mono ?_
                rintro e w5 ⟨rfl, hd, hfr⟩
                have HV5 := Aside0.mk (hfr.own HD4.out HV4.out)
                have HD5 := Aside0.mk hd
                have HB5 := Aside0.mk (show Below w.heap.size w w5 from HB4.out.trans (hfr.below (by omega) (Nat.le_refl _) HB4.out.size))
                clear hd hfr HV4 HD4 HB4 cx'
                have cx' := pw_cell_below HB5.out CX.out
                go_wp2_with (fail)
                have ho := Open_dev _ _ L' (-1) nw' w5 HD5.out (by rw [HL4.out.1]; decide) (by rw [HL4.out.1]; decide)
                rw [HL4.out.2.1] at ho
                refine ho.mono ?_
                clear ho
                rintro e w6 ⟨hb, s2, rfl, ⟨vs2, hs⟩⟩
                have HW5 := Aside0.mk HB5.out.size
                have H := Aside0.mk (show BfSt w s2 w5.heap.size w6.heap.size vs2 (.slice Av l.length cv) L' nw' _ l _ _ w6 from ⟨hs, HD5.out.below hb, pw_own_below HV5.out hb, below_then HB5.out HB5.out.size hb, Nat.le_refl _, fun q hq => own_lt hs.2.2 q hq⟩)
                clear hs hb HD5 HV5 HB5 cx'
                have cx' := pw_cell_below H.out.2.2.2.1 CX.out
                generalize w6.heap.size = hs6 at H
                generalize w5.heap.size = hs5 at H HW5
                go_wp2_with (fail)
                refine (Base_sto _ s2 _ _ _ _ _ _ H.out.1.sto).mono ?_
                rintro e wz ⟨rfl, rfl⟩
                go_wp2_with (fail)
                refine (Behind_any _ s2 _ _ _ _ _ _ H.out.1.sto (by first | decide | (have := HN.out; have := HKN.out; (try simp only [List.length_append, List.length_singleton, List.length_cons, List.length_nil]); omega))).mono ?_
                rintro e wz ⟨v7, rfl, ho, hb⟩
                have HO := Aside0.mk ho
                clear ho
                have H2 := Aside0.mk (H.out.below hb)
                clear hb H cx'
                have H := H2
                clear H2
                have cx' := pw_cell_below H.out.2.2.2.1 CX.out
                go_wp2_with (fail)
                refine (Same_any _ _ v7 _ _ _ _ HO.out H.out.2.2.1 (by first | decide | (have := HN.out; have := HKN.out; (try simp only [List.length_append, List.length_singleton, List.length_cons, List.length_nil]); omega))).mono ?_
                rintro e wz ⟨rfl, hb⟩
                clear HO
                have H2 := Aside0.mk (H.out.below hb)
                clear hb H cx'
                have H := H2
                clear H2
                have cx' := pw_cell_below H.out.2.2.2.1 CX.out
                go_wp2_with (fail)
                refine (Turn_sto _ s2 _ _ _ _ _ H.out.1.sto).mono ?_
                rintro e wz ⟨rfl, rfl⟩
                go_wp2_with (fail)
                have H2 := Aside0.mk (H.out.behind (l' := []) (vb' := .slice none 0 0) (own_nil _ _ _ _))
                clear H
                have H := H2
                clear H2
                by_cases htx : x = y
                · as_aux_lemma =>
                    subst htx
                    refine (Base_sto _ s2 _ _ _ _ _ _ H.out.1.sto).mono ?_
                    rintro e wz ⟨rfl, rfl⟩
                    go_wp2_with (fail)
                    refine (Behind_any _ s2 _ _ _ _ _ _ H.out.1.sto (by first | decide | (have := HN.out; have := HKN.out; (try simp only [List.length_append, List.length_singleton, List.length_cons, List.length_nil]); omega))).mono ?_
                    rintro e wz ⟨v7, rfl, ho, hb⟩
                    have HO := Aside0.mk ho
                    clear ho
                    have H2 := Aside0.mk (H.out.below hb)
                    clear hb H cx'
                    have H := H2
                    clear H2
                    have cx' := pw_cell_below H.out.2.2.2.1 CX.out
                    go_wp2_with (fail)
                    by_cases hl0 : l = []
                    · as_aux_lemma =>
                        subst hl0
                        refine (Same_any _ _ v7 _ _ _ _ HO.out H.out.2.2.1 (by first | decide | (have := HN.out; have := HKN.out; (try simp only [List.length_append, List.length_singleton, List.length_cons, List.length_nil]); omega))).mono ?_
                        rintro e wz ⟨rfl, hb⟩
                        clear HO
                        have H2 := Aside0.mk (H.out.below hb)
                        clear hb H cx'
                        have H := H2
                        clear H2
                        have cx' := pw_cell_below H.out.2.2.2.1 CX.out
                        go_wp2_with (fail)
                        refine (Turn_sto _ s2 _ _ _ _ _ H.out.1.sto).mono ?_
                        rintro e wz ⟨rfl, rfl⟩
                        go_wp2_with (fail)
                        refine (Base_sto _ s2 _ _ _ _ _ _ H.out.1.sto).mono ?_
                        rintro e wz ⟨rfl, rfl⟩
                        go_wp2_with (fail)
                        refine (Turn_sto _ s2 _ _ _ _ _ H.out.1.sto).mono ?_
                        rintro e wz ⟨rfl, rfl⟩
                        go_wp2_with (fail)
                        have HSZ := Aside0.mk H.out.2.2.2.1.size
                        have HOb := Aside0.mk H.out.2.2.2.2.1
                        refine (Behind_any _ s2 _ _ _ _ _ _ H.out.1.sto (by first | decide | (have := HN.out; have := HKN.out; (try simp only [List.length_append, List.length_singleton, List.length_cons, List.length_nil]); omega))).mono ?_
                        rintro e wz ⟨v7, rfl, ho, hb⟩
                        have HO := Aside0.mk ho
                        clear ho
                        have H2 := Aside0.mk (H.out.below hb)
                        clear hb H cx'
                        have H := H2
                        clear H2
                        have cx' := pw_cell_below H.out.2.2.2.1 CX.out
                        have H2 := Aside0.mk (H.out.behind (l' := []) (vb' := v7) (own_weaken HO.out HSZ.out))
                        have HVN := Aside0.mk (fun q hq => Nat.le_trans HOb.out (own_base HO.out q hq) : ∀ q, v7.ownBlock = some q → hs6 ≤ q)
                        clear H HO
                        have H := H2
                        clear H2
                        go_wp2_with (fail)
                        have hkk := HKN.out
                        have hnn := HN.out
                        have hxx := HX.out
                        refine ⟨⟨k + 1, s2, hs5, vs2, L', nw', x, [], b, t, HLT.out, by first | rfl | (rw [show wrap64 ((k : Int) + 1) = ((k + 1 : Nat) : Int) by unfold wrap64; omega]), rfl, rfl, by rfl, ⟨⟨HW5.out, by omega, by first | omega | (have := HN.out; omega), by (try simp only [List.length_append, txB_length]); omega, by (try simp only [List.length_append, List.length_singleton, List.length_nil]); omega⟩⟩, ⟨H.out.1⟩, ⟨H.out.2.2.1⟩, ⟨vn_of H.out.2.2.2.2.2 HVN.out⟩, ⟨H.out.2.1⟩, HL4, ⟨H.out.2.2.2.1⟩⟩, by rw [show wrap64 ((k : Int) + 1) = ((k + 1 : Nat) : Int) by unfold wrap64; omega]; simp only [intOf, Int.toNat_natCast]; have := HLT.out; omega⟩
                    · as_aux_lemma =>
                        have p1 : decide (l = ([] : List ByteArray)) = false := decide_eq_false hl0
                        refine (Same_any _ _ v7 _ _ _ _ HO.out H.out.2.2.1 (by first | decide | (have := HN.out; have := HKN.out; (try simp only [List.length_append, List.length_singleton, List.length_cons, List.length_nil]); omega))).mono ?_
                        rintro e wz ⟨rfl, hb⟩
                        clear HO
                        have H2 := Aside0.mk (H.out.below hb)
                        clear hb H cx'
                        have H := H2
                        clear H2
                        have cx' := pw_cell_below H.out.2.2.2.1 CX.out
                        go_wp2_with (fail)
                        refine (Base_sto _ s2 _ _ _ _ _ _ H.out.1.sto).mono ?_
                        rintro e wz ⟨rfl, rfl⟩
                        go_wp2_with (fail)
                        refine (Turn_sto _ s2 _ _ _ _ _ H.out.1.sto).mono ?_
                        rintro e wz ⟨rfl, rfl⟩
                        go_wp2_with (fail)
                        have HSZ := Aside0.mk H.out.2.2.2.1.size
                        have HOb := Aside0.mk H.out.2.2.2.2.1
                        refine (Behind_any _ s2 _ _ _ _ _ _ H.out.1.sto (by first | decide | (have := HN.out; have := HKN.out; (try simp only [List.length_append, List.length_singleton, List.length_cons, List.length_nil]); omega))).mono ?_
                        rintro e wz ⟨v7, rfl, ho, hb⟩
                        have HO := Aside0.mk ho
                        clear ho
                        have H2 := Aside0.mk (H.out.below hb)
                        clear hb H cx'
                        have H := H2
                        clear H2
                        have cx' := pw_cell_below H.out.2.2.2.1 CX.out
                        have H2 := Aside0.mk (H.out.behind (l' := l) (vb' := v7) (own_weaken HO.out HSZ.out))
                        have HVN := Aside0.mk (fun q hq => Nat.le_trans HOb.out (own_base HO.out q hq) : ∀ q, v7.ownBlock = some q → hs6 ≤ q)
                        clear H HO
                        have H := H2
                        clear H2
                        go_wp2_with (fail)
                        have hkk := HKN.out
                        have hnn := HN.out
                        have hxx := HX.out
                        refine ⟨⟨k + 1, s2, hs5, vs2, L', nw', x, l, b, t, HLT.out, by first | rfl | (rw [show wrap64 ((k : Int) + 1) = ((k + 1 : Nat) : Int) by unfold wrap64; omega]), rfl, rfl, by rfl, ⟨⟨HW5.out, by omega, by first | omega | (have := HN.out; omega), by (try simp only [List.length_append, txB_length]); omega, by (try simp only [List.length_append, List.length_singleton, List.length_nil]); omega⟩⟩, ⟨H.out.1⟩, ⟨H.out.2.2.1⟩, ⟨vn_of H.out.2.2.2.2.2 HVN.out⟩, ⟨H.out.2.1⟩, HL4, ⟨H.out.2.2.2.1⟩⟩, by rw [show wrap64 ((k : Int) + 1) = ((k + 1 : Nat) : Int) by unfold wrap64; omega]; simp only [intOf, Int.toNat_natCast]; have := HLT.out; omega⟩
                · as_aux_lemma =>
                    have m0 : ¬ (x.toList = y.toList) := fun h => htx (by
                      rw [ByteArray.toList_eq, ByteArray.toList_eq] at h
                      exact ByteArray.ext (Array.ext' h))
                    have m1 : (x.toList == y.toList) = false := by rw [beq_eq_false_iff_ne]; exact m0
                    have m2 : decide (x.toList = y.toList) = false := decide_eq_false m0
                    have m3 : (x.toList = y.toList) = False := eq_false m0
                    clear m0
                    refine (Base_sto _ s2 _ _ _ _ _ _ H.out.1.sto).mono ?_
                    rintro e wz ⟨rfl, rfl⟩
                    go_wp2_with (fail)
                    refine (Base_sto _ s2 _ _ _ _ _ _ H.out.1.sto).mono ?_
                    rintro e wz ⟨rfl, rfl⟩
                    go_wp2_with (fail)
                    refine (Turn_sto _ s2 _ _ _ _ _ H.out.1.sto).mono ?_
                    rintro e wz ⟨rfl, rfl⟩
                    go_wp2_with (fail)
                    have HSZ := Aside0.mk H.out.2.2.2.1.size
                    have HOb := Aside0.mk H.out.2.2.2.2.1
                    refine (Behind_any _ s2 _ _ _ _ _ _ H.out.1.sto (by first | decide | (have := HN.out; have := HKN.out; (try simp only [List.length_append, List.length_singleton, List.length_cons, List.length_nil]); omega))).mono ?_
                    rintro e wz ⟨v7, rfl, ho, hb⟩
                    have HO := Aside0.mk ho
                    clear ho
                    have H2 := Aside0.mk (H.out.below hb)
                    clear hb H cx'
                    have H := H2
                    clear H2
                    have cx' := pw_cell_below H.out.2.2.2.1 CX.out
                    have H2 := Aside0.mk (H.out.behind (l' := l) (vb' := v7) (own_weaken HO.out HSZ.out))
                    have HVN := Aside0.mk (fun q hq => Nat.le_trans HOb.out (own_base HO.out q hq) : ∀ q, v7.ownBlock = some q → hs6 ≤ q)
                    clear H HO
                    have H := H2
                    clear H2
                    go_wp2_with (fail)
                    have hkk := HKN.out
                    have hnn := HN.out
                    have hxx := HX.out
                    refine ⟨⟨k + 1, s2, hs5, vs2, L', nw', x, l, b, t, HLT.out, by first | rfl | (rw [show wrap64 ((k : Int) + 1) = ((k + 1 : Nat) : Int) by unfold wrap64; omega]), rfl, rfl, by rfl, ⟨⟨HW5.out, by omega, by first | omega | (have := HN.out; omega), by (try simp only [List.length_append, txB_length]); omega, by (try simp only [List.length_append, List.length_singleton, List.length_nil]); omega⟩⟩, ⟨H.out.1⟩, ⟨H.out.2.2.1⟩, ⟨vn_of H.out.2.2.2.2.2 HVN.out⟩, ⟨H.out.2.1⟩, HL4, ⟨H.out.2.2.2.1⟩⟩, by rw [show wrap64 ((k : Int) + 1) = ((k + 1 : Nat) : Int) by unfold wrap64; omega]; simp only [intOf, Int.toNat_natCast]; have := HLT.out; omega⟩
        · have b1 : (bt == 1) = false := by rw [beq_eq_false_iff_ne]; exact hb1
          have b2 : decide (bt = 1) = false := decide_eq_false hb1
          clear hb1
          as_aux_lemma =>
            have HSB := Aside0.mk (Nat.le_trans HN.out.1 HS.out.1)
            have HRB := Aside0.mk (fun q (hq : vs.ownBlock = some q) => Nat.le_trans HN.out.1 (own_base HS.out.2.2 q hq))
            go_wp2_with (fail)
            refine (Add_fuse B s _ _ vs (x :: l) b t L f nw y _ HS.out HD.out (by rw [HLB.out.1]; decide) (by rw [HLB.out.1]; decide) HF.out (by have := HN.out; have := HKN.out; omega) (by have := HX.out; omega) (by have := HN.out; have := HKN.out; omega) (by have := HN.out; have := HKN.out; rw [List.length_cons]; omega) HLB.out.2.1 HLB.out.2.2).mono ?_
            rintro e w4 ⟨z, L', f', o', nw', rfl, hd, hl4, hfr, hlow, hcase⟩
            have HV4 := Aside0.mk (hfr.own HD.out HS.out.2.1 HV.out HVN.out)
            have HD4 := Aside0.mk hd
            have HB4 := Aside0.mk (show Below w.heap.size w w4 from HB.out.trans (hfr.below (by omega) (Nat.le_refl _) HSB.out HB.out.size HRB.out))
            have hl40 := hl4.trans HLB.out.1
            clear hd hfr hl4 HS HV HD HB HLB HSB HRB HVN cx'
            rcases hcase with ⟨rfl, hbest⟩ | ⟨hz, hbest⟩
            · as_aux_lemma =>
                have HL4 := Aside0.mk (show L'.length = 40 ∧ bestP L' 2 = (t, b ++ txB y, x :: (l ++ [y])) ∧ LowH L' t from ⟨hl40, hbest, hlow⟩)
                clear hbest hlow hl40
                have p1 : decide (l ++ [y] = l) = false := decide_eq_false (fun e => by have := congrArg List.length e; simp at this)
                have cx' := pw_cell_below HB4.out CX.out
                go_wp2_with (fail)
                refine (On_dev _ _ L' f' nw' o' w4 HD4.out (by rw [HL4.out.1]; decide)).mono ?_
                rintro e w5 ⟨rfl, hd, hfr⟩
                have HV5 := Aside0.mk (hfr.own HD4.out HV4.out)
                have HD5 := Aside0.mk hd
                have HB5 := Aside0.mk (show Below w.heap.size w w5 from HB4.out.trans (hfr.below (by omega) (Nat.le_refl _) HB4.out.size))
                clear hd hfr HV4 HD4 HB4 cx'
                have cx' := pw_cell_below HB5.out CX.out
                go_wp2_with (fail)
                have ho := Open_dev _ _ L' (-1) nw' w5 HD5.out (by rw [HL4.out.1]; decide) (by rw [HL4.out.1]; decide)
                rw [HL4.out.2.1] at ho
                refine ho.mono ?_
                clear ho
                rintro e w6 ⟨hb, s2, rfl, ⟨vs2, hs⟩⟩
                have HW5 := Aside0.mk HB5.out.size
                have H := Aside0.mk (show BfSt w s2 w5.heap.size w6.heap.size vs2 (.slice Av l.length cv) L' nw' _ l _ _ w6 from ⟨hs, HD5.out.below hb, pw_own_below HV5.out hb, below_then HB5.out HB5.out.size hb, Nat.le_refl _, fun q hq => own_lt hs.2.2 q hq⟩)
                clear hs hb HD5 HV5 HB5 cx'
                have cx' := pw_cell_below H.out.2.2.2.1 CX.out
                generalize w6.heap.size = hs6 at H
                generalize w5.heap.size = hs5 at H HW5
                go_wp2_with (fail)
                refine (Base_sto _ s2 _ _ _ _ _ _ H.out.1.sto).mono ?_
                rintro e wz ⟨rfl, rfl⟩
                go_wp2_with (fail)
                refine (Behind_any _ s2 _ _ _ _ _ _ H.out.1.sto (by first | decide | (have := HN.out; have := HKN.out; (try simp only [List.length_append, List.length_singleton, List.length_cons, List.length_nil]); omega))).mono ?_
                rintro e wz ⟨v7, rfl, ho, hb⟩
                have HO := Aside0.mk ho
                clear ho
                have H2 := Aside0.mk (H.out.below hb)
                clear hb H cx'
                have H := H2
                clear H2
                have cx' := pw_cell_below H.out.2.2.2.1 CX.out
                go_wp2_with (fail)
                refine (Same_any _ _ v7 _ _ _ _ HO.out H.out.2.2.1 (by first | decide | (have := HN.out; have := HKN.out; (try simp only [List.length_append, List.length_singleton, List.length_cons, List.length_nil]); omega))).mono ?_
                rintro e wz ⟨rfl, hb⟩
                clear HO
                have H2 := Aside0.mk (H.out.below hb)
                clear hb H cx'
                have H := H2
                clear H2
                have cx' := pw_cell_below H.out.2.2.2.1 CX.out
                have HSZ := Aside0.mk H.out.2.2.2.1.size
                have HOb := Aside0.mk H.out.2.2.2.2.1
                obtain ⟨A', c', hvb, _, hCv⟩ := C_of_own H.out.2.2.1
                simp only [Value.slice.injEq] at hvb
                obtain ⟨rfl, _, rfl⟩ := hvb
                have HCV := Aside0.mk hCv
                clear hCv
                have HWZ := Aside0.mk (Below.refl wz.heap.size wz)
                go_wp2_with (first | (at_builtin; refine Kd.R_append_row Value.string ByteArray.empty (h1 := fun _ => rfl) (w0 := wz) wz.heap.size rfl (.tmp 148) (.tmp 149) 46 9 (.string ⟨#[]⟩) 16 rfl Try.underlying46 info9 rfl (by decide) (.slice none 0 0) [] l Av l.length cv (fun _ => True) rfl rfl (fun _ _ => trivial) (Kd.R_nil _ _ _ _ _) HCV.out HWZ.out (Nat.le_refl _) (by have := HN.out; have := HKN.out; simp only [List.length_nil]; omega) ?_; intro v8 w8 hR8 hb8 hg8 hat8; have HO8 : Aside0 (w8.ownsRow wz.heap.size 9 1 v8 (l.map Value.string).length (l.map Value.string)) := ⟨by have hh := Kd.own_of_R hR8; rw [List.length_map]; exact hh⟩; have H8 := Aside0.mk (H.out.below hb8); have HB8 := Aside0.mk hb8; have HT8 : Aside0 (∀ q, v8.ownBlock = some q → wz.heap.size ≤ q) := ⟨fun q hq => own_base HO8.out q hq⟩; clear hR8 hb8 hg8 hat8 cx'; have cx' := pw_cell_below H8.out.2.2.2.1 CX.out) | (at_builtin; refine print_append (w0 := wz) wz.heap.size rfl (.tmp 151) (.tmp 156) 46 9 (.string ⟨#[]⟩) 16 rfl Try.underlying46 info9 rfl (by decide) v8 (l.map Value.string) (.string y) rfl rfl rfl HO8.out HB8.out HB8.out.size (by have := HN.out; have := HKN.out; rw [List.length_map]; omega) ?_; intro v9 w9 ho9 hb9 hg9 hat9; have HO9 : Aside0 (w9.ownsRow wz.heap.size 9 1 v9 (l ++ [y]).length ((l ++ [y]).map Value.string)) := ⟨by simpa using ho9⟩; have H9 := Aside0.mk (H.out.below hb9); clear ho9 hb9 hg9 hat9 cx'; have cx' := pw_cell_below H9.out.2.2.2.1 CX.out))
                clear p1
                have HVN : Aside0 (∀ q, v9.ownBlock = some q → hs6 ≤ q) := ⟨fun q hq => Nat.le_trans HOb.out (own_base HO9.out q hq)⟩
                have H2 := Aside0.mk (H9.out.behind (l' := l ++ [y]) (vb' := v9) (own_weaken HO9.out HSZ.out))
                clear H H8 H9 HO8 HO9 HB8 HT8 HCV HWZ
                have H := H2
                clear H2
                as_aux_lemma =>
                  refine (Base_sto _ s2 _ _ _ _ _ _ H.out.1.sto).mono ?_
                  rintro e wz ⟨rfl, rfl⟩
                  go_wp2_with (fail)
                  refine (Behind_any _ s2 _ _ _ _ _ _ H.out.1.sto (by first | decide | (have := HN.out; have := HKN.out; (try simp only [List.length_append, List.length_singleton, List.length_cons, List.length_nil]); omega))).mono ?_
                  rintro e wz ⟨v7, rfl, ho, hb⟩
                  have HO := Aside0.mk ho
                  clear ho
                  have H2 := Aside0.mk (H.out.below hb)
                  clear hb H cx'
                  have H := H2
                  clear H2
                  have cx' := pw_cell_below H.out.2.2.2.1 CX.out
                  go_wp2_with (fail)
                  refine (Same_any _ _ v7 _ _ _ _ HO.out H.out.2.2.1 (by first | decide | (have := HN.out; have := HKN.out; (try simp only [List.length_append, List.length_singleton, List.length_cons, List.length_nil]); omega))).mono ?_
                  rintro e wz ⟨rfl, hb⟩
                  clear HO
                  have H2 := Aside0.mk (H.out.below hb)
                  clear hb H cx'
                  have H := H2
                  clear H2
                  have cx' := pw_cell_below H.out.2.2.2.1 CX.out
                  go_wp2_with (fail)
                  refine (Turn_sto _ s2 _ _ _ _ _ H.out.1.sto).mono ?_
                  rintro e wz ⟨rfl, rfl⟩
                  go_wp2_with (fail)
                  have hkk := HKN.out
                  have hnn := HN.out
                  have hxx := HX.out
                  refine ⟨⟨k + 1, s2, hs5, vs2, L', nw', x, l ++ [y], b ++ txB y, t, HLT.out, by first | rfl | (rw [show wrap64 ((k : Int) + 1) = ((k + 1 : Nat) : Int) by unfold wrap64; omega]), rfl, rfl, by rfl, ⟨⟨HW5.out, by omega, by first | omega | (have := HN.out; omega), by (try simp only [List.length_append, txB_length]); omega, by (try simp only [List.length_append, List.length_singleton, List.length_nil]); omega⟩⟩, ⟨H.out.1⟩, ⟨H.out.2.2.1⟩, ⟨vn_of H.out.2.2.2.2.2 HVN.out⟩, ⟨H.out.2.1⟩, HL4, ⟨H.out.2.2.2.1⟩⟩, by rw [show wrap64 ((k : Int) + 1) = ((k + 1 : Nat) : Int) by unfold wrap64; omega]; simp only [intOf, Int.toNat_natCast]; have := HLT.out; omega⟩
            · rcases hz with rfl | rfl
              all_goals
                as_aux_lemma =>
                  have HL4 := Aside0.mk (show L'.length = 40 ∧ bestP L' 2 = (t, b, x :: l) ∧ LowH L' t from ⟨hl40, hbest, hlow⟩)
                  clear hbest hlow hl40
                  have p1 : decide (l = l ++ [y]) = false := decide_eq_false (fun e => by have := congrArg List.length e; simp at this)
                  have cx' := pw_cell_below HB4.out CX.out
                  go_wp2_with (fail)
                  refine (On_dev _ _ L' f' nw' o' w4 HD4.out (by rw [HL4.out.1]; decide)).mono ?_
                  rintro e w5 ⟨rfl, hd, hfr⟩
                  have HV5 := Aside0.mk (hfr.own HD4.out HV4.out)
                  have HD5 := Aside0.mk hd
                  have HB5 := Aside0.mk (show Below w.heap.size w w5 from HB4.out.trans (hfr.below (by omega) (Nat.le_refl _) HB4.out.size))
                  clear hd hfr HV4 HD4 HB4 cx'
                  have cx' := pw_cell_below HB5.out CX.out
                  go_wp2_with (fail)
                  have ho := Open_dev _ _ L' (-1) nw' w5 HD5.out (by rw [HL4.out.1]; decide) (by rw [HL4.out.1]; decide)
                  rw [HL4.out.2.1] at ho
                  refine ho.mono ?_
                  clear ho
                  rintro e w6 ⟨hb, s2, rfl, ⟨vs2, hs⟩⟩
                  have HW5 := Aside0.mk HB5.out.size
                  have H := Aside0.mk (show BfSt w s2 w5.heap.size w6.heap.size vs2 (.slice Av l.length cv) L' nw' _ l _ _ w6 from ⟨hs, HD5.out.below hb, pw_own_below HV5.out hb, below_then HB5.out HB5.out.size hb, Nat.le_refl _, fun q hq => own_lt hs.2.2 q hq⟩)
                  clear hs hb HD5 HV5 HB5 cx'
                  have cx' := pw_cell_below H.out.2.2.2.1 CX.out
                  generalize w6.heap.size = hs6 at H
                  generalize w5.heap.size = hs5 at H HW5
                  go_wp2_with (fail)
                  refine (Base_sto _ s2 _ _ _ _ _ _ H.out.1.sto).mono ?_
                  rintro e wz ⟨rfl, rfl⟩
                  go_wp2_with (fail)
                  refine (Behind_any _ s2 _ _ _ _ _ _ H.out.1.sto (by first | decide | (have := HN.out; have := HKN.out; (try simp only [List.length_append, List.length_singleton, List.length_cons, List.length_nil]); omega))).mono ?_
                  rintro e wz ⟨v7, rfl, ho, hb⟩
                  have HO := Aside0.mk ho
                  clear ho
                  have H2 := Aside0.mk (H.out.below hb)
                  clear hb H cx'
                  have H := H2
                  clear H2
                  have cx' := pw_cell_below H.out.2.2.2.1 CX.out
                  go_wp2_with (fail)
                  refine (Same_any _ _ v7 _ _ _ _ HO.out H.out.2.2.1 (by first | decide | (have := HN.out; have := HKN.out; (try simp only [List.length_append, List.length_singleton, List.length_cons, List.length_nil]); omega))).mono ?_
                  rintro e wz ⟨rfl, hb⟩
                  clear HO
                  have H2 := Aside0.mk (H.out.below hb)
                  clear hb H cx'
                  have H := H2
                  clear H2
                  have cx' := pw_cell_below H.out.2.2.2.1 CX.out
                  go_wp2_with (fail)
                  refine (Turn_sto _ s2 _ _ _ _ _ H.out.1.sto).mono ?_
                  rintro e wz ⟨rfl, rfl⟩
                  have HSZ := Aside0.mk H.out.2.2.2.1.size
                  have HOb := Aside0.mk H.out.2.2.2.2.1
                  obtain ⟨A', c', hvb, _, hCv⟩ := C_of_own H.out.2.2.1
                  simp only [Value.slice.injEq] at hvb
                  obtain ⟨rfl, _, rfl⟩ := hvb
                  have HCV := Aside0.mk hCv
                  clear hCv
                  have HWZ := Aside0.mk (Below.refl wz.heap.size wz)
                  go_wp2_with (first | (at_builtin; refine Kd.R_append_row Value.string ByteArray.empty (h1 := fun _ => rfl) (w0 := wz) wz.heap.size rfl (.tmp 148) (.tmp 149) 46 9 (.string ⟨#[]⟩) 16 rfl Try.underlying46 info9 rfl (by decide) (.slice none 0 0) [] l Av l.length cv (fun _ => True) rfl rfl (fun _ _ => trivial) (Kd.R_nil _ _ _ _ _) HCV.out HWZ.out (Nat.le_refl _) (by have := HN.out; have := HKN.out; simp only [List.length_nil]; omega) ?_; intro v8 w8 hR8 hb8 hg8 hat8; have HO8 : Aside0 (w8.ownsRow wz.heap.size 9 1 v8 (l.map Value.string).length (l.map Value.string)) := ⟨by have hh := Kd.own_of_R hR8; rw [List.length_map]; exact hh⟩; have H8 := Aside0.mk (H.out.below hb8); have HB8 := Aside0.mk hb8; have HT8 : Aside0 (∀ q, v8.ownBlock = some q → wz.heap.size ≤ q) := ⟨fun q hq => own_base HO8.out q hq⟩; clear hR8 hb8 hg8 hat8 cx'; have cx' := pw_cell_below H8.out.2.2.2.1 CX.out) | (at_builtin; refine print_append (w0 := wz) wz.heap.size rfl (.tmp 151) (.tmp 156) 46 9 (.string ⟨#[]⟩) 16 rfl Try.underlying46 info9 rfl (by decide) v8 (l.map Value.string) (.string y) rfl rfl rfl HO8.out HB8.out HB8.out.size (by have := HN.out; have := HKN.out; rw [List.length_map]; omega) ?_; intro v9 w9 ho9 hb9 hg9 hat9; have HO9 : Aside0 (w9.ownsRow wz.heap.size 9 1 v9 (l ++ [y]).length ((l ++ [y]).map Value.string)) := ⟨by simpa using ho9⟩; have H9 := Aside0.mk (H.out.below hb9); clear ho9 hb9 hg9 hat9 cx'; have cx' := pw_cell_below H9.out.2.2.2.1 CX.out))
                  have HVN0 : Aside0 (∀ q, v9.ownBlock = some q → hs6 ≤ q) := ⟨fun q hq => Nat.le_trans HOb.out (own_base HO9.out q hq)⟩
                  have H2 := Aside0.mk (H9.out.behind (l' := l ++ [y]) (vb' := v9) (own_weaken HO9.out HSZ.out))
                  clear H H8 H9 HO8 HO9 HB8 HT8 HCV HWZ
                  have H := H2
                  clear H2
                  as_aux_lemma =>
                    refine (Base_sto _ s2 _ _ _ _ _ _ H.out.1.sto).mono ?_
                    rintro e wz ⟨rfl, rfl⟩
                    go_wp2_with (fail)
                    refine (Behind_any _ s2 _ _ _ _ _ _ H.out.1.sto (by first | decide | (have := HN.out; have := HKN.out; (try simp only [List.length_append, List.length_singleton, List.length_cons, List.length_nil]); omega))).mono ?_
                    rintro e wz ⟨v7, rfl, ho, hb⟩
                    have HO := Aside0.mk ho
                    clear ho
                    have H2 := Aside0.mk (H.out.below hb)
                    clear hb H cx'
                    have H := H2
                    clear H2
                    have cx' := pw_cell_below H.out.2.2.2.1 CX.out
                    go_wp2_with (fail)
                    refine (Same_any _ _ v7 _ _ _ _ HO.out H.out.2.2.1 (by first | decide | (have := HN.out; have := HKN.out; (try simp only [List.length_append, List.length_singleton, List.length_cons, List.length_nil]); omega))).mono ?_
                    rintro e wz ⟨rfl, hb⟩
                    clear HO
                    have H2 := Aside0.mk (H.out.below hb)
                    clear hb H cx'
                    have H := H2
                    clear H2
                    have cx' := pw_cell_below H.out.2.2.2.1 CX.out
                    go_wp2_with (fail)
                    refine (Base_sto _ s2 _ _ _ _ _ _ H.out.1.sto).mono ?_
                    rintro e wz ⟨rfl, rfl⟩
                    go_wp2_with (fail)
                    refine (Turn_sto _ s2 _ _ _ _ _ H.out.1.sto).mono ?_
                    rintro e wz ⟨rfl, rfl⟩
                    go_wp2_with (fail)
                    have HSZ := Aside0.mk H.out.2.2.2.1.size
                    have HOb := Aside0.mk H.out.2.2.2.2.1
                    refine (Behind_any _ s2 _ _ _ _ _ _ H.out.1.sto (by first | decide | (have := HN.out; have := HKN.out; (try simp only [List.length_append, List.length_singleton, List.length_cons, List.length_nil]); omega))).mono ?_
                    rintro e wz ⟨v7, rfl, ho, hb⟩
                    have HO := Aside0.mk ho
                    clear ho
                    have H2 := Aside0.mk (H.out.below hb)
                    clear hb H cx'
                    have H := H2
                    clear H2
                    have cx' := pw_cell_below H.out.2.2.2.1 CX.out
                    have H2 := Aside0.mk (H.out.behind (l' := l) (vb' := v7) (own_weaken HO.out HSZ.out))
                    have HVN := Aside0.mk (fun q hq => Nat.le_trans HOb.out (own_base HO.out q hq) : ∀ q, v7.ownBlock = some q → hs6 ≤ q)
                    clear H HO
                    have H := H2
                    clear H2
                    go_wp2_with (fail)
                    have hkk := HKN.out
                    have hnn := HN.out
                    have hxx := HX.out
                    refine ⟨⟨k + 1, s2, hs5, vs2, L', nw', x, l, b, t, HLT.out, by first | rfl | (rw [show wrap64 ((k : Int) + 1) = ((k + 1 : Nat) : Int) by unfold wrap64; omega]), rfl, rfl, by rfl, ⟨⟨HW5.out, by omega, by first | omega | (have := HN.out; omega), by (try simp only [List.length_append, txB_length]); omega, by (try simp only [List.length_append, List.length_singleton, List.length_nil]); omega⟩⟩, ⟨H.out.1⟩, ⟨H.out.2.2.1⟩, ⟨vn_of H.out.2.2.2.2.2 HVN.out⟩, ⟨H.out.2.1⟩, HL4, ⟨H.out.2.2.2.1⟩⟩, by rw [show wrap64 ((k : Int) + 1) = ((k + 1 : Nat) : Int) by unfold wrap64; omega]; simp only [intOf, Int.toNat_natCast]; have := HLT.out; omega⟩
    · obtain rfl : k = l1.length := by omega
      have q2 : decide (l1.length < l1.length) = false := decide_eq_false (by omega)
      have q3 : (l1.length < l1.length) = False := eq_false (by omega)
      clear hk hlt HS HD HLB HV HVN HN
      go_wp2_with (fail)
      refine (sawake_calls _).mono ?_
      rintro e w3 ⟨rfl, hb⟩
      have HB3 := Aside0.mk (show Below w.heap.size w w3 from below_then HB.out HB.out.size hb)
      go_wp2_with (fail)
      go_ret
      exact ⟨rfl, HB3.out⟩
end Go.Proofs.Ytbkbganflnemeaa.Pr
end

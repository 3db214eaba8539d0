/- aead.filled: the walk. -/
import Derived.Test.YtmablneefndedaaHGenA
namespace Go.Proofs.Ytmablneefndedaa.Pr
open Go.RowKit Go.Deep Go.Proofs.YtmablneefndedaaW.PrintWords Go.Proofs.YtmablneefndedaaW.PrintLast Go.Proofs.YtmablneefndedaaW.PrintMore
set_option maxHeartbeats 2000000
set_option linter.unusedVariables false
set_option linter.unusedSimpArgs false
/-- Noughts behind a text up to whole blocks. -/
def fillZ (n : Nat) : Nat := (16 - n % 16) % 16
def fill16 (l : List Nat) : List Nat := l ++ List.replicate (fillZ l.length) 0
def fillT (T : List ByteArray) (k : Nat) : List Nat := (T.take k).flatMap fun t => fill16 (bys t)
theorem fillT_next (T : List ByteArray) (k : Nat) (hk : k < T.length) : fillT T (k + 1) = fillT T k ++ fill16 (bys (T.getD k ⟨#[]⟩)) := by
  unfold fillT
  rw [List.take_succ_eq_append_getElem hk, List.flatMap_append]
  simp [List.getD_eq_getElem?_getD, hk]
theorem fill16_length (l : List Nat) : (fill16 l).length ≤ l.length + 16 := by
  unfold fill16 fillZ
  rw [List.length_append, List.length_replicate]
  omega
theorem fillT_length (T : List ByteArray) (hT : ∀ t ∈ T, t.size ≤ 1000000) : ∀ k, k ≤ T.length → (fillT T k).length ≤ k * 1000016
  | 0, _ => by simp [fillT]
  | k + 1, hk => by
    have := fillT_length T hT k (by omega)
    have h2 := fill16_length (bys (T.getD k ⟨#[]⟩))
    have h3 : (T.getD k ⟨#[]⟩).size ≤ 1000000 := by
      rw [List.getD_eq_getElem?_getD, List.getElem?_eq_getElem (by omega)]
      exact hT _ (List.getElem_mem _)
    rw [fillT_next T k (by omega), List.length_append]
    rw [bys_length] at h2
    omega
theorem byteCells_txt (l m : List Nat) : Lib.byteCells (txt (l ++ m)).data.toList = Lib.byteCells (txt l).data.toList ++ Lib.strCells (txt m) := by
  simp [txt, Lib.byteCells, Lib.strCells]
theorem byteCells_len (l : List Nat) : (Lib.byteCells (txt l).data.toList).length = l.length := by
  simp [txt, Lib.byteCells]
set_option maxRecDepth 100000 in
theorem filled_calls (g c : Nat) (T : List ByteArray) (w : World) (hg : w.heap[g]? = some (.cells (T.map Value.string).toArray 9 (0, 0))) (hT : ∀ t ∈ T, t.size ≤ 1000000) (hl : T.length ≤ 10) (hc : T.length ≤ c) :
    Calls Try.prog 51 #[.slice (some ⟨g, 0, none⟩) T.length c] w fun e w' => e = .returned (.string (txt (fillT T T.length))) ∧ Below w.heap.size w w' := by
  have HG := Aside0.mk hg
  have HT := Aside0.mk hT
  clear hg hT
  go_enter Try.func51, Try.ntmps51
  go_wp2_with (fail)
  go_loopw [8] (fun i wr => ∃ k : Nat, k ≤ T.length ∧ i = .int .i64 k ∧ Aside0 (Lib.IsBuilder 61 5 w.heap.size w.heap.size (Lib.byteCells (txt (fillT T k)).data.toList) wr) ∧ Aside0 (Below w.heap.size w wr)) (fun i _ => T.length - (intOf i).toNat)
  case atStart => exact ⟨0, by omega, rfl, ⟨Lib.fresh_isBuilder _ _ w⟩, ⟨below_alloc (Below.refl _ _) _⟩⟩
  case round =>
    obtain ⟨k, hk, rfl, HI, HB⟩ := hrel
    by_cases hlt : k < T.length
    · have hc0 : wr.cell? ⟨g, k, none⟩ = some (.string (T.getD k ⟨#[]⟩)) := by
        rw [blk_cell (blk_below HG.out HB.out) k]
        simp [hlt, List.getD_eq_getElem?_getD]
      have hts : (T.getD k ⟨#[]⟩).size ≤ 1000000 := by
        rw [List.getD_eq_getElem?_getD, List.getElem?_eq_getElem hlt]
        exact HT.out _ (List.getElem_mem _)
      have hfl := fillT_length T HT.out k (by omega)
      have HN := Aside0.mk (fillT_next T k hlt)
      generalize T.getD k ⟨#[]⟩ = t at hc0 hts HN
      generalize fillT T k = F at HI HN hfl
      have hFl : F.length ≤ 10000160 := by omega
      have HBL := Aside0.mk (byteCells_len F)
      clear hfl
      go_wp2_with (go_at_call 62; refine (Try.Builder_WriteString w.heap.size w.heap.size _ t _ HI.out (by rw [HBL.out]; omega) HB.out.size).mono ?_)
      rintro e w4 ⟨rfl, hI4, hb4⟩
      have HI4 := Aside0.mk hI4
      have HB4 := Aside0.mk (HB.out.trans hb4)
      clear hI4 hb4
      go_wp2_with (fail)
      have e16 : -((t.size : Int) % 16) % 16 = ((fillZ t.size : Nat) : Int) := by unfold fillZ; omega
      rw [e16]
      have hz : fillZ t.size ≤ 16 := by unfold fillZ; omega
      refine (Try.strings_Repeat (⟨#[0]⟩ : ByteArray) (fillZ t.size) _ (by omega) (by show 1 * _ ≤ _; omega)).mono ?_
      rw [txt_repeat]
      rintro e w5 ⟨rfl, hb5⟩
      generalize hV : txt (List.replicate (fillZ t.size) 0) = V
      have hVs : V.size ≤ 16 := by rw [← hV, txt_size, List.length_replicate]; exact hz
      have HV := Aside0.mk hV
      have HI5 : Aside0 (Lib.IsBuilder 61 5 w.heap.size w.heap.size (Lib.byteCells (txt F).data.toList ++ Lib.strCells t) w5) := ⟨isBuilder_below (.inr HI4.out) hb5⟩
      have HB5 := Aside0.mk (below_then HB4.out HB4.out.size hb5)
      have HSL : Aside0 ((Lib.byteCells (txt F).data.toList ++ Lib.strCells t).length = F.length + t.size) := ⟨by rw [List.length_append, HBL.out, Lib.strCells_length]⟩
      clear hV hb5 e16
      go_wp2_with (go_at_call 62; refine (Try.Builder_WriteString w.heap.size w.heap.size _ V _ HI5.out (by rw [HSL.out]; omega) HB5.out.size).mono ?_)
      rintro e w6 ⟨rfl, hI6, hb6⟩
      have HI6 := Aside0.mk hI6
      have HB6 := Aside0.mk (HB5.out.trans hb6)
      clear hI6 hb6
      go_wp2
      refine ⟨⟨k + 1, by omega, by go_num, ⟨?_⟩, HB6⟩, by simp [intOf]; omega⟩
      have e : Lib.byteCells (txt (fillT T (k + 1))).data.toList = Lib.byteCells (txt F).data.toList ++ Lib.strCells t ++ Lib.strCells V := by
        rw [HN.out, byteCells_txt, fill16, txt_append, txt_bys, ← HV.out, bys_length, List.append_assoc]
        congr 1
        simp [Lib.strCells, ByteArray.data_append]
      rw [e]
      exact .inr HI6.out
    · obtain rfl : k = T.length := by omega
      clear hlt hk
      have HX : Aside0 ((⟨(txt (fillT T T.length)).data.toList.toArray⟩ : ByteArray) = txt (fillT T T.length)) := ⟨by simp⟩
      go_wp2_with (go_at_call 64; refine (Try.Builder_String_any w.heap.size w.heap.size _ _ HI.out HB.out.size).mono ?_; rw [HX.out]; rintro e w2 ⟨rfl, hb2⟩)
      go_ret
      exact ⟨rfl, HB.out.trans hb2⟩
end Go.Proofs.Ytmablneefndedaa.Pr

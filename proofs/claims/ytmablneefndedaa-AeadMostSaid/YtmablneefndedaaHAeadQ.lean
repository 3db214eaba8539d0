/- Sealing and opening in plain words. -/
import Derived.Test.YtmablneefndedaaHAeadB
import Derived.Test.YtmablneefndedaaPrxf27
namespace Go.Proofs.Ytmablneefndedaa.Pr
open Go.RowKit Go.Proofs.YtmablneefndedaaW.PrintWords Go.Proofs.YtmablneefndedaaW.PrintLast
set_option maxHeartbeats 1000000
set_option linter.unusedVariables false
set_option linter.unusedSimpArgs false
theorem strB_lt (a b : List Nat) (n i : Nat) : strB a b n i < 256 := by
  unfold strB
  have hl : i % 64 < (chaL a b (n + i / 64)).length := by rw [chaL_length]; exact Nat.mod_lt _ (by decide)
  rw [List.getD_eq_getElem?_getD, List.getElem?_eq_getElem hl]
  exact chaL_lt _ _ _ _ (List.getElem_mem hl)
theorem streamL_length (a b : List Nat) (n : Nat) (s : List Nat) : (streamL a b n s).length = s.length := xorAt_length _ _ _
theorem streamL_get (a b : List Nat) (n : Nat) (s : List Nat) (i : Nat) (hi : i < s.length) : (streamL a b n s)[i]? = some (s.getD i 0 ^^^ strB a b n i) := by
  unfold streamL xorAt
  simp [hi]
theorem streamL_lt (a b : List Nat) (n : Nat) (s : List Nat) (hs : ∀ x ∈ s, x < 256) : ∀ x ∈ streamL a b n s, x < 256 := by
  intro x hx
  obtain ⟨i, hi, rfl⟩ := List.getElem_of_mem hx
  have hi' : i < s.length := by rw [← streamL_length a b n s]; exact hi
  have h := streamL_get a b n s i hi'
  rw [List.getElem?_eq_getElem hi] at h
  rw [Option.some.inj h]
  have h1 : s.getD i 0 < 256 := by
    rw [List.getD_eq_getElem?_getD, List.getElem?_eq_getElem hi']
    exact hs _ (List.getElem_mem hi')
  exact Nat.xor_lt_two_pow (n := 8) h1 (strB_lt a b n i)
/-- Turned twice a text is as it was. -/
theorem streamL_twice (a b : List Nat) (n : Nat) (s : List Nat) : streamL a b n (streamL a b n s) = s := by
  apply List.ext_getElem?
  intro i
  by_cases hi : i < s.length
  · rw [streamL_get _ _ _ _ _ (by rw [streamL_length]; exact hi), List.getD_eq_getElem?_getD, streamL_get _ _ _ _ _ hi]
    simp only [Option.getD_some]
    rw [Nat.xor_assoc, Nat.xor_self, Nat.xor_zero, List.getD_eq_getElem?_getD, List.getElem?_eq_getElem hi]
    rfl
  · rw [List.getElem?_eq_none (by rw [streamL_length, streamL_length]; omega), List.getElem?_eq_none (by omega)]
theorem outT_bnd (V : Nat) (S : List Nat) : ∀ x ∈ outT V S 16, x < 256 := outT_lt V S 16
theorem tagL_length (a b c d : List Nat) : (tagL a b c d).length = 16 := outT_length _ _ _
theorem tagL_lt (a b c d : List Nat) : ∀ x ∈ tagL a b c d, x < 256 := outT_lt _ _ _
def aeadOK (a0 a1 : ByteArray) (x y : Nat) : Prop := a0.size = 32 ∧ a1.size = 12 ∧ x ≤ 32768 ∧ y ≤ 32768 - x
instance (a0 a1 : ByteArray) (x y : Nat) : Decidable (aeadOK a0 a1 x y) := by unfold aeadOK; infer_instance
theorem aead_may_f (a0 a1 : ByteArray) (x y : Nat) (hx : x ≤ 1000000000000000) (hy : y ≤ 1000000000000000) : aead_may.f a0 a1 (x : Int) (y : Int) = some (decide (aeadOK a0 a1 x y)) := by
  unfold aead_may.f aeadOK
  by_cases h0 : a0.size = 32
  · rw [if_pos (by omega)]
    by_cases h1 : a1.size = 12
    · rw [if_pos (by omega)]
      by_cases h2 : x ≤ 32768
      · rw [if_pos (by omega)]
        congr 1
        have hw : wrap64 (32768 - (x : Int)) = 32768 - (x : Int) := by unfold wrap64; omega
        rw [hw]
        apply decide_eq_decide.2
        omega
      · rw [if_neg (by omega)]; congr 1; exact (decide_eq_false (by omega)).symm
    · rw [if_neg (by omega)]; congr 1; exact (decide_eq_false (by omega)).symm
  · rw [if_neg (by omega)]; congr 1; exact (decide_eq_false (by omega)).symm
def sealF (a0 a1 a2 a3 : ByteArray) : ByteArray × Int :=
  if aeadOK a0 a1 a2.size a3.size then (txt (streamL (bys a0) (bys a1) 1 (bys a3) ++ tagL (bys a0) (bys a1) (bys a2) (streamL (bys a0) (bys a1) 1 (bys a3))), 0) else (⟨#[]⟩, 1)
theorem stream_f (a0 a1 a3 : ByteArray) (h0 : a0.size = 32) (h1 : a1.size = 12) (h3 : a3.size ≤ 32768) : chacha_Stream.f a0 a1 1 a3 = some (txt (streamL (bys a0) (bys a1) 1 (bys a3)), 0) := by
  unfold chacha_Stream.f
  rw [if_pos (by omega), if_pos ⟨⟨h0, h1, by decide, by decide⟩, by omega, by omega⟩]
  rfl
def openF (a0 a1 a2 a3 : ByteArray) : ByteArray × Int :=
  if aeadOK a0 a1 a2.size (a3.size - 16) then
    (if a3.size < 16 then (⟨#[]⟩, 70) else if tagL (bys a0) (bys a1) (bys a2) ((bys a3).take (a3.size - 16)) = (bys a3).drop (a3.size - 16) then (txt (streamL (bys a0) (bys a1) 1 ((bys a3).take (a3.size - 16))), 0) else (⟨#[]⟩, 70))
  else (⟨#[]⟩, 1)
/-- There and back. -/
theorem open_seal (a0 a1 a2 a3 : ByteArray) (h : aeadOK a0 a1 a2.size a3.size) : openF a0 a1 a2 (sealF a0 a1 a2 a3).1 = (a3, 0) ∧ (sealF a0 a1 a2 a3).2 = 0 ∧ (sealF a0 a1 a2 a3).1.size = a3.size + 16 ∧ bys (sealF a0 a1 a2 a3).1 = streamL (bys a0) (bys a1) 1 (bys a3) ++ tagL (bys a0) (bys a1) (bys a2) (streamL (bys a0) (bys a1) 1 (bys a3)) := by
  have hsz : (sealF a0 a1 a2 a3).1.size = a3.size + 16 := by
    unfold sealF
    rw [if_pos h, txt_size, List.length_append, streamL_length, tagL_length, bys_length]
  have hb : bys (sealF a0 a1 a2 a3).1 = streamL (bys a0) (bys a1) 1 (bys a3) ++ tagL (bys a0) (bys a1) (bys a2) (streamL (bys a0) (bys a1) 1 (bys a3)) := by
    unfold sealF
    rw [if_pos h]
    refine bys_txt ?_
    intro x hx
    rw [List.mem_append] at hx
    rcases hx with hx | hx
    · exact streamL_lt _ _ _ _ (bys_lt' _) x hx
    · exact tagL_lt _ _ _ _ x hx
  refine ⟨?_, by unfold sealF; rw [if_pos h], hsz, hb⟩
  obtain ⟨k0, k1, k2, k3⟩ := h
  have hl : (streamL (bys a0) (bys a1) 1 (bys a3)).length = a3.size := by rw [streamL_length, bys_length]
  unfold openF
  rw [hsz, Nat.add_sub_cancel, if_pos ⟨k0, k1, k2, k3⟩, if_neg (by omega), hb, List.take_left' hl, List.drop_left' hl, if_pos rfl, streamL_twice, txt_bys]
end Go.Proofs.Ytmablneefndedaa.Pr

/- hkdf.Expand: the walk. -/
-- HAND samphire/hkdf.Expand hkdf_Expand 0 1
-- NEEDS samphire/hmac.Mac
import Derived.Test.YtbmpcdpcdljibaaHHmB
import Derived.Test.YtbmpcdpcdljibaaHShelf
namespace Go.Proofs.Ytbmpcdpcdljibaa.Pr
open Go.RowKit Go.Deep Go.Proofs.YtbmpcdpcdljibaaW.PrintWords Go.Proofs.YtbmpcdpcdljibaaW.PrintLast Go.Proofs.YtbmpcdpcdljibaaW.PrintMore
set_option maxHeartbeats 2000000
set_option linter.unusedVariables false
set_option linter.unusedSimpArgs false
/-- The part number j, on numbers. -/
def partL (key purpose : List Nat) : Nat → List Nat
  | 0 => []
  | j + 1 => macL key (partL key purpose j ++ purpose ++ [(j + 1) % 256])
def expL (key purpose : List Nat) : Nat → List Nat
  | 0 => []
  | j + 1 => expL key purpose j ++ partL key purpose (j + 1)
def hkdf_Expand.f (a0 a1 : ByteArray) (a2 : Int) : Option (ByteArray × Int) :=
  if a2 < 0 ∨ 8160 < a2 then some (⟨#[]⟩, 1) else if a0.size ≤ 1000000000 ∧ a1.size ≤ 1000000000 then some (txt ((expL (bys a0) (bys a1) ((a2.toNat + 31) / 32)).take a2.toNat), 0) else none
theorem partL_length (k p : List Nat) (j : Nat) : (partL k p (j + 1)).length = 32 := sumL_length _
theorem partL_lt (k p : List Nat) : ∀ j, ∀ x ∈ partL k p j, x < 256
  | 0 => by intro x hx; simp [partL] at hx
  | j + 1 => sumL_lt _
theorem expL_length (k p : List Nat) : ∀ j, (expL k p j).length = 32 * j
  | 0 => rfl
  | j + 1 => by rw [expL, List.length_append, expL_length k p j, partL_length]; omega
theorem expL_cells (k p : List Nat) (j : Nat) : (Lib.byteCells (txt (expL k p j)).data.toList).length = 32 * j := by
  rw [← expL_length k p j]
  simp [Lib.byteCells, txt]
theorem isBuilder_below {T e : TypeId} {B b : Nat} {bs : List Value} {w w' : World} (h : Lib.IsBuilder T e B b bs w) (hb : Below w.heap.size w w') : Lib.IsBuilder T e B b bs w' := by
  rcases h with ⟨h1, v, h2, h3, h4⟩ | ⟨h1, v, h2, h3, h4⟩
  · exact .inl ⟨h1, v, blk_below h2 hb, pw_own_below h3 hb, h4⟩
  · exact .inr ⟨h1, v, blk_below h2 hb, pw_own_below h3 hb, h4⟩
set_option maxRecDepth 100000 in
theorem expand (a0 a1 : ByteArray) (n : Nat) (hn : n ≤ 8160) (h0 : a0.size ≤ 1000000000) (h1 : a1.size ≤ 1000000000) (w : World) :
    Calls Try.prog 34 #[.string a0, .string a1, .int .i64 n] w fun e w' => e = .returned (.tuple #[.string (txt ((expL (bys a0) (bys a1) ((n + 31) / 32)).take n)), .int .i64 0]) ∧ Below w.heap.size w w' := by
  have c1 : decide ((n : Int) < 0) = false := decide_eq_false (by omega)
  have c2 : decide (8160 < (n : Int)) = false := decide_eq_false (by omega)
  go_enter Try.func34, Try.ntmps34
  go_wp2_with (fail)
  rw [show ((n : Int) + 32 - 1) / 32 = (((n + 31) / 32 : Nat) : Int) by omega]
  generalize hN : (n + 31) / 32 = N
  have hN1 : N ≤ 255 := by omega
  have hN2 : n ≤ 32 * N := by omega
  have HN := Aside0.mk hN
  clear hN
  have hm32 := Aside0.mk (macT_size)
  go_loopw [9, 21] (fun t i wr => ∃ (k : Nat) (τ : ByteArray), k ≤ N ∧ i = .int .i64 k ∧ t = .string τ ∧ τ.size ≤ 32 ∧ Aside0 (τ = txt (partL (bys a0) (bys a1) k)) ∧ Aside0 (Lib.IsBuilder 66 5 w.heap.size w.heap.size (Lib.byteCells (txt (expL (bys a0) (bys a1) k)).data.toList) wr) ∧ Aside0 (Below w.heap.size w wr)) (fun _ i _ => N - (intOf i).toNat)
  case atStart => exact ⟨0, ⟨#[]⟩, by omega, rfl, rfl, by decide, ⟨rfl⟩, ⟨Lib.fresh_isBuilder _ _ w⟩, ⟨below_alloc (Below.refl _ _) _⟩⟩
  case round =>
    obtain ⟨k, τ, hk, rfl, rfl, hτ, HT, HI, HB⟩ := hrel
    by_cases hlt : k < N
    · have k1 : τ.size + a1.size ≤ 9223372036854775807 := by omega
      have k3 : (9223372036854775807 < τ.size + a1.size) = False := eq_false (Nat.not_lt.2 k1)
      have hcv : (convert 32 9 (.slice (some ⟨wr.heap.size, 0, none⟩) 1 1)).run Try.prog (wr.alloc (.cells #[.int .u8 ((k : Int) + 1)] 5)) = .ok (.string (txt [k + 1])) (wr.alloc (.cells #[.int .u8 ((k : Int) + 1)] 5)) := by
        have := conv_u8s (wr.alloc (.cells (u8s [k + 1]) 5)) 32 9 5 5 wr.heap.size [k + 1] 1 Try.underlying32 Try.underlying5 Try.underlying9 (heap_alloc_last _ _) rfl 1
        simpa [u8s] using this
      generalize hV : txt [k + 1] = V at hcv
      have hVs : V.size ≤ 1 := by rw [← hV, txt_size]; exact Nat.le_refl _
      have HV := Aside0.mk hV
      have k5 : (τ ++ a1).size + V.size ≤ 9223372036854775807 := by rw [ByteArray.size_append]; omega
      have k6 : τ.size + a1.size + V.size ≤ 9223372036854775807 := by omega
      clear hV k3
      have hI1 : Aside0 (Lib.IsBuilder 66 5 w.heap.size w.heap.size (Lib.byteCells (txt (expL (bys a0) (bys a1) k)).data.toList) (wr.alloc (.cells #[.int .u8 ((k : Int) + 1)] 5))) := ⟨isBuilder_below HI.out (below_alloc (Below.refl _ _) _)⟩
      have hB1 : Aside0 (Below w.heap.size w (wr.alloc (.cells #[.int .u8 ((k : Int) + 1)] 5))) := ⟨below_alloc HB.out _⟩
      go_wp2_with (go_at_call 28; refine (hmac_Mac.calls a0 (τ ++ a1 ++ V) _ _ (hmac_Mac_f a0 (τ ++ a1 ++ V) (by omega) (by rw [ByteArray.size_append, ByteArray.size_append]; omega))).mono ?_; rintro e w3 ⟨rfl, hb3⟩; generalize hM : macT a0 (τ ++ a1 ++ V) = τ'; have hI3 : Aside0 (Lib.IsBuilder 66 5 w.heap.size w.heap.size (Lib.byteCells (txt (expL (bys a0) (bys a1) k)).data.toList) w3) := ⟨isBuilder_below hI1.out hb3⟩; have hB3 : Aside0 (Below w.heap.size w w3) := ⟨below_then hB1.out hB1.out.size hb3⟩; clear hb3; have HMM := Aside0.mk hM; clear hM)
      have hτ' : τ'.size = 32 := by rw [← HMM.out, macT_size]
      have hτ2 : τ'.size ≤ 32 := by omega
      have hbl := expL_cells (bys a0) (bys a1) k
      have HBL := Aside0.mk hbl
      have HTS := Aside0.mk hτ'
      clear hbl hτ'
      go_wp2_with (go_at_call 55; refine (Try.Builder_WriteString w.heap.size w.heap.size _ τ' _ hI3.out (by rw [HBL.out]; omega) hB3.out.size).mono ?_; rintro e w4 ⟨rfl, hI4, hb4⟩; have HI4 := Aside0.mk hI4; have HB4 := Aside0.mk hb4; clear hI4 hb4)
      go_wp2
      have hp : txt (partL (bys a0) (bys a1) (k + 1)) = τ' := by
        rw [← HMM.out, macT, bys_append, bys_append, ← HV.out, HT.out, bys_txt (partL_lt _ _ _), bys_txt (by intro x hx; rw [List.mem_singleton] at hx; omega), partL, Nat.mod_eq_of_lt (by omega)]
      refine ⟨⟨k + 1, τ', by omega, by go_num, rfl, hτ2, ⟨hp.symm⟩, ⟨?_⟩, ⟨hB3.out.trans HB4.out⟩⟩, by simp [intOf]; omega⟩
      have e : Lib.byteCells (txt (expL (bys a0) (bys a1) (k + 1))).data.toList = Lib.byteCells (txt (expL (bys a0) (bys a1) k)).data.toList ++ Lib.strCells τ' := by
        rw [← hp, expL]
        simp [txt, Lib.byteCells, Lib.strCells]
      rw [e]
      exact .inr HI4.out
    · obtain rfl : k = N := by omega
      clear hlt hk hτ
      have hbl := expL_length (bys a0) (bys a1) k
      have HX : Aside0 ((⟨(txt (expL (bys a0) (bys a1) k)).data.toList.toArray⟩ : ByteArray) = txt (expL (bys a0) (bys a1) k)) := ⟨by simp⟩
      have hYs : (txt (expL (bys a0) (bys a1) k)).size = 32 * k := by rw [txt_size, hbl]
      have i1 := eq_true (show (n : Int) ≤ ((txt (expL (bys a0) (bys a1) k)).size : Int) by omega)
      have i2 := eq_true (show 0 ≤ (n : Int) by omega)
      clear hYs hbl
      have HF : Aside0 ((txt (expL (bys a0) (bys a1) k)).extract 0 n = txt ((expL (bys a0) (bys a1) k).take n)) := ⟨by rw [txt_extract]; rfl⟩
      go_wp2_with (go_at_call 56; refine (Try.Builder_String_any w.heap.size w.heap.size _ _ HI.out HB.out.size).mono ?_; rw [HX.out]; rintro e w2 ⟨rfl, hb2⟩)
      go_ret2
      rw [HN.out, ← HF.out]
      exact ⟨rfl, HB.out.trans hb2⟩
set_option maxRecDepth 100000 in
theorem expand_no (a0 a1 : ByteArray) (a2 : Int) (h : a2 < 0 ∨ 8160 < a2) (w : World) :
    Calls Try.prog 34 #[.string a0, .string a1, .int .i64 a2] w fun e w' => e = .returned (.tuple #[.string ⟨#[]⟩, .int .i64 1]) ∧ Below w.heap.size w w' := by
  by_cases h0 : a2 < 0
  · have c1 : decide (a2 < 0) = true := decide_eq_true h0
    clear h
    go_enter Try.func34, Try.ntmps34
    go_wp2
    go_ret2
    exact ⟨rfl, Below.refl _ _⟩
  · have c1 : decide (a2 < 0) = false := decide_eq_false h0
    have c2 : decide (8160 < a2) = true := decide_eq_true (by omega)
    clear h
    go_enter Try.func34, Try.ntmps34
    go_wp2
    go_ret2
    exact ⟨rfl, Below.refl _ _⟩
theorem hkdf_Expand.calls (a0 a1 : ByteArray) (a2 : Int) (r1 : ByteArray) (r2 : Int) (w : World) (h : hkdf_Expand.f a0 a1 a2 = some (r1, r2)) :
    Calls Try.prog 34 #[.string a0, .string a1, .int .i64 a2] w fun e w' => e = .returned (.tuple #[.string r1, .int .i64 r2]) ∧ Below w.heap.size w w' := by
  unfold hkdf_Expand.f at h
  by_cases hc : a2 < 0 ∨ 8160 < a2
  · rw [if_pos hc] at h
    simp only [Option.some.injEq, Prod.mk.injEq] at h
    obtain ⟨rfl, rfl⟩ := h
    exact expand_no a0 a1 a2 hc w
  · rw [if_neg hc] at h
    by_cases hs : a0.size ≤ 1000000000 ∧ a1.size ≤ 1000000000
    · rw [if_pos hs] at h
      simp only [Option.some.injEq, Prod.mk.injEq] at h
      obtain ⟨rfl, rfl⟩ := h
      obtain ⟨n, rfl⟩ := Int.eq_ofNat_of_zero_le (show 0 ≤ a2 by omega)
      rw [Int.toNat_natCast]
      exact expand a0 a1 n (by omega) hs.1 hs.2 w
    · rw [if_neg hs] at h
      cases h
end Go.Proofs.Ytbmpcdpcdljibaa.Pr

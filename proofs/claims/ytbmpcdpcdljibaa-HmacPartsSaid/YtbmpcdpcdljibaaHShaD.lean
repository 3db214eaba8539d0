/- sha.Pad and the reference's Pad: the walks. -/
-- HAND samphire/sha.Pad sha_Pad 0 1
-- HAND samphire/samphireref02.Pad samphireref02_Pad 0 1
-- NEEDS samphire/samphireref01.PutBig
import Derived.Test.YtbmpcdpcdljibaaHShaP
import Derived.Test.YtbmpcdpcdljibaaHWordA
namespace Go.Proofs.Ytbmpcdpcdljibaa.Pr
open Go.RowKit Go.Proofs.YtbmpcdpcdljibaaW.PrintWords Go.Proofs.YtbmpcdpcdljibaaW.PrintLast Go.Proofs.YtbmpcdpcdljibaaW.PrintMore
set_option maxHeartbeats 1000000
set_option linter.unusedVariables false
set_option linter.unusedSimpArgs false
theorem by4i_nat (n : Nat) : by4i (n : Int) = ints (by4 n) := by
  simp only [by4i, ints, by4, List.map_cons, List.map_nil]
  congr 1
theorem flat4i_ints (l : List Nat) : (ints l).flatMap by4i = ints (l.flatMap by4) := by
  induction l with
  | nil => rfl
  | cons x l ih =>
    have : ints (x :: l) = (x : Int) :: ints l := rfl
    rw [this, List.flatMap_cons, List.flatMap_cons, ints_append, ih, by4i_nat]
theorem txt_append (a b : List Nat) : txt (a ++ b) = txt a ++ txt b := by
  apply ByteArray.ext
  simp [txt, ByteArray.data_append]
theorem txt_repeat (n : Nat) : (⟨(Lib.repeatL (⟨#[0]⟩ : ByteArray).data.toList n).toArray⟩ : ByteArray) = txt (List.replicate n 0) := by
  have h := Lib.repeatL_replicate 0 1 n
  rw [show ((⟨#[0]⟩ : ByteArray).data.toList) = List.replicate 1 0 from rfl, h, Nat.mul_one]
  simp [txt]
theorem word_PutBig_ints (l : List Int) (A0 : Option Addr) (c0 : Nat) (w : World) (hr0 : Kd.C (Kd.int .i64) w A0 l.length l) (hc0 : l.length ≤ c0) (hl : l.length ≤ 1000000) :
    Calls Try.prog 51 #[.slice A0 l.length c0] w fun e w' => e = .returned (.string (strOfNums (l.flatMap by4i))) ∧ Below w.heap.size w w' := by
  have HR := Aside0.mk hr0
  clear hr0
  go_enter Try.func51, Try.ntmps51
  go_wp2_with (go_at_call 63; refine (word_put.plain A0 c0 l _ HR.out hc0 hl).mono ?_; rintro e w' ⟨rfl, hb⟩)
  go_ret
  exact ⟨rfl, hb⟩
/-- A row that was just made reads. -/
theorem lit_reads (W : World) (xs : List Int) (e : TypeId) (hm : xs.length ≤ 1000000) : Kd.C (Kd.int .i64) (W.alloc (.cells (nums .i64 xs).toArray e)) (some ⟨W.heap.size, 0, none⟩) xs.length xs :=
  Kd.C_of_reads (d := (0 : Int)) (h1 := fun _ => rfl) (own_reads' (own_lit W 0 e .i64 xs (Nat.zero_le _) (by omega)))
def padF (a0 : Int) : Option (ByteArray × Int) := if 0 ≤ a0 ∧ a0 ≤ 1125899906842624 then some (txt (padL a0.toNat), 0) else some (⟨#[]⟩, 1)
def sha_Pad.f (a0 : Int) : Option (ByteArray × Int) := padF a0
def samphireref02_Pad.f (a0 : Int) : Option (ByteArray × Int) := padF a0
set_option maxRecDepth 100000 in
theorem sha_Pad.yes (n : Nat) (w : World) (h1 : (n : Int) ≤ 1125899906842624) :
    Calls Try.prog 21 #[.int .i64 n] w fun e w' => e = .returned (.tuple #[.string (txt (padL n)), .int .i64 0]) ∧ Below w.heap.size w w' := by
  have d0 : decide ((n : Int) < 0) = false := by simp
  have d1 : decide (1125899906842624 < (n : Int)) = false := by simpa using h1
  have e2 := Aside0.mk (show [(n : Int) / 536870912, (n : Int) * 8] = ints [n / 536870912, 8 * n] by simp [ints]; omega)
  have hm : (119 - n % 64) % 64 ≤ 64 := by omega
  go_enter Try.func21, Try.ntmps21
  go_wp2_with (fail)
  rw [show (((119 : Int) - (n : Int)) % 64) = (((119 - n % 64) % 64 : Nat) : Int) by omega]
  refine (Try.strings_Repeat (⟨#[0]⟩ : ByteArray) ((119 - n % 64) % 64) _ (by omega) (by show 1 * _ ≤ _; omega)).mono ?_
  rw [txt_repeat]
  rintro e w1 ⟨rfl, hb1⟩
  generalize hT : txt (List.replicate ((119 - n % 64) % 64) 0) = T
  have hTs : T.size ≤ 64 := by rw [← hT, txt_size, List.length_replicate]; exact hm
  have HT := Aside0.mk hT
  clear hT
  have k1 : 1 + T.size ≤ 9223372036854775807 := by omega
  have k2 : decide (1 + T.size ≤ 9223372036854775807) = true := decide_eq_true k1
  have C := word_PutBig_ints [(n : Int) / 536870912, (n : Int) * 8] (some ⟨w1.heap.size, 0, none⟩) 2 _ (lit_reads w1 [(n : Int) / 536870912, (n : Int) * 8] 3 (by simp)) (by simp) (by simp)
  have e3 : strOfNums (([(n : Int) / 536870912, (n : Int) * 8] : List Int).flatMap by4i) = txt (([n / 536870912, 8 * n] : List Nat).flatMap by4) := by rw [e2.out, flat4i_ints, str_ints]
  rw [e3] at C
  clear e3
  generalize hU : txt (([n / 536870912, 8 * n] : List Nat).flatMap by4) = U at C
  have hUs : U.size ≤ 8 := by rw [← hU, txt_size]; simp [by4]
  have HU := Aside0.mk hU
  have HC := Aside0.mk C
  clear hU hm C
  have hs3 : ((⟨#[128]⟩ : ByteArray) ++ T).size = 1 + T.size := by rw [ByteArray.size_append]; rfl
  have k3 : ((⟨#[128]⟩ : ByteArray) ++ T).size + U.size ≤ 9223372036854775807 := by rw [hs3]; omega
  have k5 : 1 + T.size + U.size ≤ 9223372036854775807 := by omega
  clear hs3
  have k4 : decide (((⟨#[128]⟩ : ByteArray) ++ T).size + U.size ≤ 9223372036854775807) = true := decide_eq_true k3
  go_wp2_with (go_at_call 51; refine HC.out.mono ?_; rintro e w2 ⟨rfl, hb2⟩)
  go_ret2
  refine ⟨congrArg (fun z => Ending.returned (Value.tuple #[.string z, .int .i64 0])) ?_, ?_⟩
  · show ((⟨#[128]⟩ : ByteArray) ++ T) ++ U = txt (padL n)
    rw [← HT.out, ← HU.out]
    have e5 : padL n = ([128] ++ List.replicate ((119 - n % 64) % 64) 0) ++ ([n / 536870912, 8 * n] : List Nat).flatMap by4 := by
      simp [padL]
    rw [e5, txt_append, txt_append]
    rfl
  · exact below_then (below_alloc hb1 _) (below_alloc hb1 _).size hb2
set_option maxRecDepth 100000 in
theorem sha_Pad.no (a0 : Int) (w : World) (h : ¬ (0 ≤ a0 ∧ a0 ≤ 1125899906842624)) :
    Calls Try.prog 21 #[.int .i64 a0] w fun e w' => e = .returned (.tuple #[.string ⟨#[]⟩, .int .i64 1]) ∧ Below w.heap.size w w' := by
  by_cases h0 : a0 < 0
  · have d0 : decide (a0 < 0) = true := decide_eq_true h0
    clear h
    go_enter Try.func21, Try.ntmps21
    go_wp2
    go_ret2
    exact ⟨rfl, Below.refl _ _⟩
  · have d0 : decide (a0 < 0) = false := decide_eq_false h0
    have d1 : decide (1125899906842624 < a0) = true := decide_eq_true (by omega)
    clear h
    go_enter Try.func21, Try.ntmps21
    go_wp2
    go_ret2
    exact ⟨rfl, Below.refl _ _⟩
theorem sha_Pad.calls (a0 : Int) (r1 : ByteArray) (r2 : Int) (w : World) (h : sha_Pad.f a0 = some (r1, r2)) :
    Calls Try.prog 21 #[.int .i64 a0] w fun e w' => e = .returned (.tuple #[.string r1, .int .i64 r2]) ∧ Below w.heap.size w w' := by
  unfold sha_Pad.f padF at h
  by_cases hc : 0 ≤ a0 ∧ a0 ≤ 1125899906842624
  · rw [if_pos hc] at h
    simp only [Option.some.injEq, Prod.mk.injEq] at h
    obtain ⟨rfl, rfl⟩ := h
    obtain ⟨n, rfl⟩ := Int.eq_ofNat_of_zero_le hc.1
    exact sha_Pad.yes n w hc.2
  · rw [if_neg hc] at h
    simp only [Option.some.injEq, Prod.mk.injEq] at h
    obtain ⟨rfl, rfl⟩ := h
    exact sha_Pad.no a0 w hc
theorem by4_mod (x : Nat) : by4 (x % 4294967296) = by4 x := by
  simp only [by4]
  congr 1
  · omega
  · congr 1
    · omega
    · congr 1
      · omega
      · congr 1
        omega
/-- The reference's PutBig, of the two halves of a length. -/
theorem putBig_two (n : Nat) (h1 : n ≤ 1125899906842624) (W : World) :
    Calls Try.prog 41 #[.slice (some ⟨W.heap.size, 0, none⟩) 2 2] (W.alloc (.cells #[.int .i64 (8 * (n : Int) / 4294967296), .int .i64 (bits .and .i64 (8 * (n : Int)) 4294967295)] 3)) fun e w' => e = .returned (.string (txt (([n / 536870912, 8 * n] : List Nat).flatMap by4))) ∧ Below (W.alloc (.cells #[.int .i64 (8 * (n : Int) / 4294967296), .int .i64 (bits .and .i64 (8 * (n : Int)) 4294967295)] 3)).heap.size (W.alloc (.cells #[.int .i64 (8 * (n : Int) / 4294967296), .int .i64 (bits .and .i64 (8 * (n : Int)) 4294967295)] 3)) w' := by
  obtain ⟨K, hK⟩ := putBig_ev [8 * n / 4294967296, 8 * n % 4294967296] (by intro i; rcases i with _ | _ | i <;> simp <;> omega) (by simp)
  have e1 : bits .and .i64 (8 * (n : Int)) 4294967295 = ((8 * n % 4294967296 : Nat) : Int) := by
    have := mask62 (8 * n) (by omega)
    rw [← this]
    congr 1
  have e2 : [8 * (n : Int) / 4294967296, bits .and .i64 (8 * (n : Int)) 4294967295] = ints [8 * n / 4294967296, 8 * n % 4294967296] := by
    rw [e1]
    simp [ints]
  have e3 : txt (([8 * n / 4294967296, 8 * n % 4294967296] : List Nat).flatMap by4) = txt (([n / 536870912, 8 * n] : List Nat).flatMap by4) := by
    simp only [List.flatMap_cons, List.flatMap_nil, by4_mod]
    rw [show 8 * n / 4294967296 = n / 536870912 by omega]
  have h := samphireref01_PutBig.calls K (some ⟨W.heap.size, 0, none⟩) 2 (ints [8 * n / 4294967296, 8 * n % 4294967296]) _ _ (lit_reads W (ints [8 * n / 4294967296, 8 * n % 4294967296]) 3 (by simp [ints])) (by simp [ints]) (hK K (Nat.le_refl _))
  rw [e3, ← e2] at h
  exact h
/-- How many noughts there are yet to come. -/
def zs (n : Nat) : Nat := (119 - n % 64) % 64
set_option maxRecDepth 100000 in
theorem samphireref02_Pad.yes (n : Nat) (w : World) (h1 : (n : Int) ≤ 1125899906842624) :
    Calls Try.prog 22 #[.int .i64 n] w fun e w' => e = .returned (.tuple #[.string (txt (padL n)), .int .i64 0]) ∧ Below w.heap.size w w' := by
  have d0 : decide ((n : Int) < 0) = false := by simp
  have d1 : decide (1125899906842624 < (n : Int)) = false := by simpa using h1
  have hi8 : (Try.prog.info? 5).map (fun i => (i.zero, i.size, i.bytes)) = some (some (.int .u8 0), 1, 1) := by kernel_rfl
  go_enter Try.func22, Try.ntmps22
  go_wp2
  go_loopg [4] (zs n) (fun gk v wr => ∃ j : Nat, Aside0 (j + gk = zs n) ∧ Aside0 (wr.ownsRow w.heap.size 5 1 v (j + 1) (nums .u8 (ints (128 :: List.replicate j 0)))) ∧ Aside0 (Below w.heap.size w wr))
  case atStart => exact ⟨0, ⟨by omega⟩, ⟨own_lit w _ 5 .u8 [128] (Nat.le_refl _) (by decide)⟩, ⟨below_alloc (Below.refl _ _) _⟩⟩
  case round =>
    obtain ⟨j, HJ, HO, HB⟩ := hrel
    obtain ⟨A, c, hv⟩ := own_slice HO.out
    subst hv
    cases gk with
    | zero =>
      have hj := HJ.out
      have q1 : (((n : Int) + ((j : Int) + 1) + 8) % 64 != 0) = false := by
        rw [bne_eq_false_iff_eq]
        unfold zs at hj
        omega
      have q2 : (((n : Int) + ((j : Int) + 1) + 8) % 64 == 0) = true := by
        rw [beq_iff_eq]
        unfold zs at hj
        omega
      have hj2 : j ≤ 64 := by unfold zs at hj; omega
      have hn0 : n ≤ 1125899906842624 := by omega
      have HC := Aside0.mk (putBig_two n hn0)
      generalize hU : txt (([n / 536870912, 8 * n] : List Nat).flatMap by4) = U at HC
      have hUs : U.size ≤ 8 := by rw [← hU, txt_size]; simp [by4]
      have HU := Aside0.mk hU
      have HCV := Aside0.mk (fun (W' : World) (h : W'.ownsRow w.heap.size 5 1 (.slice A (j + 1) c) (j + 1) (nums .u8 (ints (128 :: List.replicate j 0)))) => own_string (P := Try.prog) Try.underlying32 Try.underlying5 Try.underlying9 h)
      rw [str_ints] at HCV
      generalize hT : txt (128 :: List.replicate j 0) = T at HCV
      have hTs : T.size ≤ 65 := by rw [← hT, txt_size]; simp; exact hj2
      have HT := Aside0.mk hT
      have k1 : T.size + U.size ≤ 9223372036854775807 := by omega
      have k2 : decide (T.size + U.size ≤ 9223372036854775807) = true := decide_eq_true k1
      have k3 : (9223372036854775807 < T.size + U.size) = False := eq_false (Nat.not_lt.2 k1)
      have hjz : j = zs n := by omega
      have HZ := Aside0.mk hjz
      clear hj hjz hT hU hn0
      go_wp2
      have HO2 : Aside0 (wr.drew.ownsRow w.heap.size 5 1 (.slice A (j + 1) c) (j + 1) (nums .u8 (ints (128 :: List.replicate j 0)))) := ⟨HO.out⟩
      have HB2 : Aside0 (Below w.heap.size w wr.drew) := ⟨pw_below_drewN HB.out 1⟩
      refine start_ (n := 11) (S := fun w' => (convert 32 9 (.slice A (j + 1) c)).run Try.prog w' = .ok (.string T) w') (ds := []) #[false, false, false, false, false, false, false, false, false, false, false] (by kernel_rfl) rfl rfl (HCV.out _ HO2.out) (fun hHeld => ?_)
      generalize wr.drew = W at HO2 HB2 hHeld ⊢
      refine pure_ (i := 0) (N := some 25) (v := ?_) (a' := ?_) #[true, false, false, false, false, false, false, false, false, false, false] rfl rfl (by kernel_rfl) (fun _ _ _ h => h) (Or.inl ⟨by rfl, ?_⟩) ?_ ?_
      rotate_left
      · intro w'
        go_simp
        with_reducible rfl
      rotate_left
      · simp only [Act.put, List.setIfInBounds_toArray, List.set_cons_zero, List.set_cons_succ, i64_w, i32_w]
        rfl
      refine pure_ (i := 2) (N := some 27) (v := ?_) (a' := ?_) #[true, false, true, false, false, false, false, false, false, false, false] rfl rfl (by kernel_rfl) (fun _ _ _ h => h) (Or.inl ⟨by rfl, ?_⟩) ?_ ?_
      rotate_left
      · intro w'
        go_simp
        with_reducible rfl
      rotate_left
      · simp only [Act.put, List.setIfInBounds_toArray, List.set_cons_zero, List.set_cons_succ, i64_w, i32_w]
        rfl
      refine pure_ (i := 3) (N := some 28) (v := ?_) (a' := ?_) #[true, false, true, true, false, false, false, false, false, false, false] rfl rfl (by kernel_rfl) (fun _ _ _ h => h) (Or.inl ⟨by rfl, ?_⟩) ?_ ?_
      rotate_left
      · intro w'
        go_simp
        with_reducible rfl
      rotate_left
      · simp only [Act.put, List.setIfInBounds_toArray, List.set_cons_zero, List.set_cons_succ, i64_w, i32_w]
        rfl
      refine pure_ (i := 4) (N := some 29) (v := ?_) (a' := ?_) #[true, false, true, true, true, false, false, false, false, false, false] rfl rfl (by kernel_rfl) (fun _ _ _ h => h) (Or.inl ⟨by rfl, ?_⟩) ?_ ?_
      rotate_left
      · intro w'
        go_simp
        with_reducible rfl
      rotate_left
      · simp only [Act.put, List.setIfInBounds_toArray, List.set_cons_zero, List.set_cons_succ, i64_w, i32_w]
        rfl
      refine pure_ (i := 5) (N := some 30) (v := ?_) (a' := ?_) #[true, false, true, true, true, true, false, false, false, false, false] rfl rfl (by kernel_rfl) (fun _ _ _ h => h) (Or.inl ⟨by rfl, ?_⟩) ?_ ?_
      rotate_left
      · intro w'
        go_simp
        with_reducible rfl
      rotate_left
      · simp only [Act.put, List.setIfInBounds_toArray, List.set_cons_zero, List.set_cons_succ, i64_w, i32_w]
        rfl
      refine take_ (i := 1) (N := some 26) (v := ?_) (a' := ?_) #[true, true, true, true, true, true, false, false, false, false, false] rfl rfl (by kernel_rfl) (fun _ _ _ h => h) (Or.inl ⟨by rfl, ?_⟩) hHeld ?_ ?_
      rotate_left
      · intro w' s0
        go_simp
        with_reducible rfl
      rotate_left
      · simp only [Act.put, List.setIfInBounds_toArray, List.set_cons_zero, List.set_cons_succ, i64_w, i32_w]
        rfl
      refine one_ (i := 6) (N := some 31) #[true, true, true, true, true, true, true, false, false, false, false] rfl rfl (by kernel_rfl) (by decide) (fun K hK => ?_)
      refine value_ (w1 := ?_) (v := ?_) (by rfl) rfl ?_ ?_
      rotate_left 2
      · go_simp
        constructor
        · rfl
        · rfl
      refine hK.out _ _ (HCV.out _ (own_alloc HO2.out _)) (fun hHeld => ?_)
      clear hK K
      refine norm_ (a' := ?_) ?_ ?_
      rotate_left
      · show Act.put _ (some 31) _ = _
        simp only [Act.put, List.setIfInBounds_toArray, List.set_cons_zero, List.set_cons_succ, i64_w, i32_w]
        rfl
      refine one_ (i := 7) (N := some 32) #[true, true, true, true, true, true, true, true, false, false, false] rfl rfl (by kernel_rfl) (by decide) (fun K hK => ?_)
      refine goes_ Try.func41 (by kernel_rfl) rfl #[.slice (some ⟨W.heap.size, 0, none⟩) 2 2] (by rfl) rfl rfl (by simp only [List.map_toArray, List.map_cons, List.map_nil]; rfl) ?_
      with_reducible refine (HC.out W).mono ?_
      rintro e w16 ⟨rfl, hb⟩
      refine ⟨_, rfl, ?_⟩
      have HO3 := Aside0.mk (pw_own_below (own_alloc HO2.out _) hb)
      refine hK.out _ _ (HCV.out _ HO3.out) (fun hHeld => ?_)
      clear hK K
      refine norm_ (a' := ?_) ?_ ?_
      rotate_left
      · show Act.put _ (some 32) _ = _
        simp only [Act.put, List.setIfInBounds_toArray, List.set_cons_zero, List.set_cons_succ, i64_w, i32_w]
        rfl
      refine pure_ (i := 8) (N := some 33) (v := ?_) (a' := ?_) #[true, true, true, true, true, true, true, true, true, false, false] rfl rfl (by kernel_rfl) (fun _ _ _ h => h) (Or.inl ⟨by rfl, ?_⟩) ?_ ?_
      rotate_left
      · intro w'
        go_simp
        with_reducible rfl
      rotate_left
      · simp only [Act.put, List.setIfInBounds_toArray, List.set_cons_zero, List.set_cons_succ, i64_w, i32_w]
        rfl
      refine pure_ (i := 9) (N := some 2) (v := ?_) (a' := ?_) #[true, true, true, true, true, true, true, true, true, true, false] rfl rfl (by kernel_rfl) (fun _ _ _ h => h) (Or.inl ⟨by rfl, ?_⟩) ?_ ?_
      rotate_left
      · intro w'
        go_simp
        with_reducible rfl
      rotate_left
      · simp only [Act.put, List.setIfInBounds_toArray, List.set_cons_zero, List.set_cons_succ, i64_w, i32_w]
        rfl
      refine pure_ (i := 10) (N := some 3) (v := ?_) (a' := ?_) #[true, true, true, true, true, true, true, true, true, true, true] rfl rfl (by kernel_rfl) (fun _ _ _ h => h) (Or.inl ⟨by rfl, ?_⟩) ?_ ?_
      rotate_left
      · intro w'
        go_simp
        with_reducible rfl
      rotate_left
      · simp only [Act.put, List.setIfInBounds_toArray, List.set_cons_zero, List.set_cons_succ, i64_w, i32_w]
        rfl
      refine done_ (by kernel_rfl) ?_

      go_wp2
      go_ret2
      refine ⟨congrArg (fun z => Ending.returned (Value.tuple #[.string z, .int .i64 0])) ?_, ?_⟩
      · show T ++ U = txt (padL n)
        rw [← HT.out, ← HU.out, HZ.out, ← txt_append]
        congr 1
        simp [padL, zs]
      · exact below_then (below_alloc HB2.out _) (below_alloc HB2.out _).size hb
    | succ g =>
      have hz : zs n < 64 := Nat.mod_lt _ (by decide)
      have hj := HJ.out
      have q1 : (((n : Int) + ((j : Int) + 1) + 8) % 64 != 0) = true := by
        rw [bne_iff_ne]
        unfold zs at hj hz
        omega
      have q2 : (((n : Int) + ((j : Int) + 1) + 8) % 64 == 0) = false := by
        rw [beq_eq_false_iff_ne]
        unfold zs at hj hz
        omega
      have hj2 : j ≤ 64 := by omega
      clear hj hz
      have hl8 : (ints (128 :: List.replicate j 0)).length = j + 1 := by simp [ints]
      have HL8 := Aside0.mk hl8
      clear hl8
      go_wp2_with (at_builtin; refine print_append_num (w0 := w) w.heap.size rfl (.tmp 20) (.tmp 21) 32 5 .u8 1 rfl Try.underlying32 hi8 (by decide) (.slice A (j + 1) c) (ints (128 :: List.replicate j 0)) 0 rfl rfl ?aO ?aB ?aS ?aL ?_; (case aO => rw [HL8.out]; exact HO.out); (case aB => exact HB.out); (case aS => exact HB.out.size); (case aL => rw [HL8.out]; omega); intro v1 w1 ho hb hg hat; clear hg hat; have HO1 := Aside0.mk ho; have HB1 := Aside0.mk hb; clear ho hb)
      go_roundg g
      case measure => omega
      case rel =>
        refine ⟨j + 1, ⟨by have := HJ.out; omega⟩, ⟨?_⟩, ⟨HB1.out⟩⟩
        have e : ints (128 :: List.replicate j 0) ++ [0] = ints (128 :: List.replicate (j + 1) 0) := by
          rw [List.replicate_succ']
          simp [ints]
        have := HO1.out
        rw [e] at this
        simpa [ints] using this
set_option maxRecDepth 100000 in
theorem samphireref02_Pad.no (a0 : Int) (w : World) (h : ¬ (0 ≤ a0 ∧ a0 ≤ 1125899906842624)) :
    Calls Try.prog 22 #[.int .i64 a0] w fun e w' => e = .returned (.tuple #[.string ⟨#[]⟩, .int .i64 1]) ∧ Below w.heap.size w w' := by
  by_cases h0 : a0 < 0
  · have d0 : decide (a0 < 0) = true := decide_eq_true h0
    clear h
    go_enter Try.func22, Try.ntmps22
    go_wp2
    go_ret2
    exact ⟨rfl, Below.refl _ _⟩
  · have d0 : decide (a0 < 0) = false := decide_eq_false h0
    have d1 : decide (1125899906842624 < a0) = true := decide_eq_true (by omega)
    clear h
    go_enter Try.func22, Try.ntmps22
    go_wp2
    go_ret2
    exact ⟨rfl, Below.refl _ _⟩
theorem samphireref02_Pad.calls (a0 : Int) (r1 : ByteArray) (r2 : Int) (w : World) (h : samphireref02_Pad.f a0 = some (r1, r2)) :
    Calls Try.prog 22 #[.int .i64 a0] w fun e w' => e = .returned (.tuple #[.string r1, .int .i64 r2]) ∧ Below w.heap.size w w' := by
  unfold samphireref02_Pad.f padF at h
  by_cases hc : 0 ≤ a0 ∧ a0 ≤ 1125899906842624
  · rw [if_pos hc] at h
    simp only [Option.some.injEq, Prod.mk.injEq] at h
    obtain ⟨rfl, rfl⟩ := h
    obtain ⟨n, rfl⟩ := Int.eq_ofNat_of_zero_le hc.1
    exact samphireref02_Pad.yes n w hc.2
  · rw [if_neg hc] at h
    simp only [Option.some.injEq, Prod.mk.injEq] at h
    obtain ⟨rfl, rfl⟩ := h
    exact samphireref02_Pad.no a0 w hc
end Go.Proofs.Ytbmpcdpcdljibaa.Pr

/- sha.Pad and the reference's Pad: the walks. -/
-- HAND samphire/sha.Pad sha_Pad 0 1
-- HAND samphire/samphireref02.Pad samphireref02_Pad 0 1
-- HAND samphire/sha.Sum sha_Sum 0 1
-- HAND samphire/samphireref02.Sum samphireref02_Sum 0 1
-- NEEDS samphire/samphireref01.PutBig
-- NEEDS samphire/samphireref02.Begin
-- NEEDS samphire/samphireref02.Block
-- NEEDS samphire/samphireref02.Pad
-- NEEDS samphire/sha.Pad
import Derived.Test.YtbmpcdpcdljibaaHShaP
import Derived.Test.YtbmpcdpcdljibaaHWordA
namespace Go.Proofs.Ytbmpcdpcdljibaa.Pr
open Go.RowKit Go.Proofs.YtbmpcdpcdljibaaW.PrintWords Go.Proofs.YtbmpcdpcdljibaaW.PrintLast Go.Proofs.YtbmpcdpcdljibaaW.PrintMore
set_option maxHeartbeats 1000000
set_option linter.unusedVariables false
set_option linter.unusedSimpArgs false
theorem by4i_nat (n : Nat) : by4i (n : Int) = ints (by4 n) := by
  simp only [by4i, ints, by4, List.map_cons, List.map_nil]
  congr 1
theorem flat4i_ints (l : List Nat) : (ints l).flatMap by4i = ints (l.flatMap by4) := by
  induction l with
  | nil => rfl
  | cons x l ih =>
    have : ints (x :: l) = (x : Int) :: ints l := rfl
    rw [this, List.flatMap_cons, List.flatMap_cons, ints_append, ih, by4i_nat]
theorem txt_append (a b : List Nat) : txt (a ++ b) = txt a ++ txt b := by
  apply ByteArray.ext
  simp [txt, ByteArray.data_append]
theorem txt_repeat (n : Nat) : (⟨(Lib.repeatL (⟨#[0]⟩ : ByteArray).data.toList n).toArray⟩ : ByteArray) = txt (List.replicate n 0) := by
  have h := Lib.repeatL_replicate 0 1 n
  rw [show ((⟨#[0]⟩ : ByteArray).data.toList) = List.replicate 1 0 from rfl, h, Nat.mul_one]
  simp [txt]
theorem word_PutBig_ints (l : List Int) (A0 : Option Addr) (c0 : Nat) (w : World) (hr0 : Kd.C (Kd.int .i64) w A0 l.length l) (hc0 : l.length ≤ c0) (hl : l.length ≤ 1000000) :
    Calls Try.prog 51 #[.slice A0 l.length c0] w fun e w' => e = .returned (.string (strOfNums (l.flatMap by4i))) ∧ Below w.heap.size w w' := by
  have HR := Aside0.mk hr0
  clear hr0
  go_enter Try.func51, Try.ntmps51
  go_wp2_with (go_at_call 63; refine (word_put.plain A0 c0 l _ HR.out hc0 hl).mono ?_; rintro e w' ⟨rfl, hb⟩)
  go_ret
  exact ⟨rfl, hb⟩
/-- A row that was just made reads. -/
theorem lit_reads (W : World) (xs : List Int) (e : TypeId) (hm : xs.length ≤ 1000000) : Kd.C (Kd.int .i64) (W.alloc (.cells (nums .i64 xs).toArray e)) (some ⟨W.heap.size, 0, none⟩) xs.length xs :=
  Kd.C_of_reads (d := (0 : Int)) (h1 := fun _ => rfl) (own_reads' (own_lit W 0 e .i64 xs (Nat.zero_le _) (by omega)))
def padF (a0 : Int) : Option (ByteArray × Int) := if 0 ≤ a0 ∧ a0 ≤ 1125899906842624 then some (txt (padL a0.toNat), 0) else some (⟨#[]⟩, 1)
def sha_Pad.f (a0 : Int) : Option (ByteArray × Int) := padF a0
def samphireref02_Pad.f (a0 : Int) : Option (ByteArray × Int) := padF a0
set_option maxRecDepth 100000 in
theorem sha_Pad.yes (n : Nat) (w : World) (h1 : (n : Int) ≤ 1125899906842624) :
    Calls Try.prog 21 #[.int .i64 n] w fun e w' => e = .returned (.tuple #[.string (txt (padL n)), .int .i64 0]) ∧ Below w.heap.size w w' := by
  have d0 : decide ((n : Int) < 0) = false := by simp
  have d1 : decide (1125899906842624 < (n : Int)) = false := by simpa using h1
  have e2 := Aside0.mk (show [(n : Int) / 536870912, (n : Int) * 8] = ints [n / 536870912, 8 * n] by simp [ints]; omega)
  have hm : (119 - n % 64) % 64 ≤ 64 := by omega
  go_enter Try.func21, Try.ntmps21
  go_wp2_with (fail)
  rw [show (((119 : Int) - (n : Int)) % 64) = (((119 - n % 64) % 64 : Nat) : Int) by omega]
  refine (Try.strings_Repeat (⟨#[0]⟩ : ByteArray) ((119 - n % 64) % 64) _ (by omega) (by show 1 * _ ≤ _; omega)).mono ?_
  rw [txt_repeat]
  rintro e w1 ⟨rfl, hb1⟩
  generalize hT : txt (List.replicate ((119 - n % 64) % 64) 0) = T
  have hTs : T.size ≤ 64 := by rw [← hT, txt_size, List.length_replicate]; exact hm
  have HT := Aside0.mk hT
  clear hT
  have k1 : 1 + T.size ≤ 9223372036854775807 := by omega
  have k2 : decide (1 + T.size ≤ 9223372036854775807) = true := decide_eq_true k1
  have C := word_PutBig_ints [(n : Int) / 536870912, (n : Int) * 8] (some ⟨w1.heap.size, 0, none⟩) 2 _ (lit_reads w1 [(n : Int) / 536870912, (n : Int) * 8] 3 (by simp)) (by simp) (by simp)
  have e3 : strOfNums (([(n : Int) / 536870912, (n : Int) * 8] : List Int).flatMap by4i) = txt (([n / 536870912, 8 * n] : List Nat).flatMap by4) := by rw [e2.out, flat4i_ints, str_ints]
  rw [e3] at C
  clear e3
  generalize hU : txt (([n / 536870912, 8 * n] : List Nat).flatMap by4) = U at C
  have hUs : U.size ≤ 8 := by rw [← hU, txt_size]; simp [by4]
  have HU := Aside0.mk hU
  have HC := Aside0.mk C
  clear hU hm C
  have hs3 : ((⟨#[128]⟩ : ByteArray) ++ T).size = 1 + T.size := by rw [ByteArray.size_append]; rfl
  have k3 : ((⟨#[128]⟩ : ByteArray) ++ T).size + U.size ≤ 9223372036854775807 := by rw [hs3]; omega
  have k5 : 1 + T.size + U.size ≤ 9223372036854775807 := by omega
  clear hs3
  have k4 : decide (((⟨#[128]⟩ : ByteArray) ++ T).size + U.size ≤ 9223372036854775807) = true := decide_eq_true k3
  go_wp2_with (go_at_call 51; refine HC.out.mono ?_; rintro e w2 ⟨rfl, hb2⟩)
  go_ret2
  refine ⟨congrArg (fun z => Ending.returned (Value.tuple #[.string z, .int .i64 0])) ?_, ?_⟩
  · show ((⟨#[128]⟩ : ByteArray) ++ T) ++ U = txt (padL n)
    rw [← HT.out, ← HU.out]
    have e5 : padL n = ([128] ++ List.replicate ((119 - n % 64) % 64) 0) ++ ([n / 536870912, 8 * n] : List Nat).flatMap by4 := by
      simp [padL]
    rw [e5, txt_append, txt_append]
    rfl
  · exact below_then (below_alloc hb1 _) (below_alloc hb1 _).size hb2
set_option maxRecDepth 100000 in
theorem sha_Pad.no (a0 : Int) (w : World) (h : ¬ (0 ≤ a0 ∧ a0 ≤ 1125899906842624)) :
    Calls Try.prog 21 #[.int .i64 a0] w fun e w' => e = .returned (.tuple #[.string ⟨#[]⟩, .int .i64 1]) ∧ Below w.heap.size w w' := by
  by_cases h0 : a0 < 0
  · have d0 : decide (a0 < 0) = true := decide_eq_true h0
    clear h
    go_enter Try.func21, Try.ntmps21
    go_wp2
    go_ret2
    exact ⟨rfl, Below.refl _ _⟩
  · have d0 : decide (a0 < 0) = false := decide_eq_false h0
    have d1 : decide (1125899906842624 < a0) = true := decide_eq_true (by omega)
    clear h
    go_enter Try.func21, Try.ntmps21
    go_wp2
    go_ret2
    exact ⟨rfl, Below.refl _ _⟩
theorem sha_Pad.calls (a0 : Int) (r1 : ByteArray) (r2 : Int) (w : World) (h : sha_Pad.f a0 = some (r1, r2)) :
    Calls Try.prog 21 #[.int .i64 a0] w fun e w' => e = .returned (.tuple #[.string r1, .int .i64 r2]) ∧ Below w.heap.size w w' := by
  unfold sha_Pad.f padF at h
  by_cases hc : 0 ≤ a0 ∧ a0 ≤ 1125899906842624
  · rw [if_pos hc] at h
    simp only [Option.some.injEq, Prod.mk.injEq] at h
    obtain ⟨rfl, rfl⟩ := h
    obtain ⟨n, rfl⟩ := Int.eq_ofNat_of_zero_le hc.1
    exact sha_Pad.yes n w hc.2
  · rw [if_neg hc] at h
    simp only [Option.some.injEq, Prod.mk.injEq] at h
    obtain ⟨rfl, rfl⟩ := h
    exact sha_Pad.no a0 w hc
theorem by4_mod (x : Nat) : by4 (x % 4294967296) = by4 x := by
  simp only [by4]
  congr 1
  · omega
  · congr 1
    · omega
    · congr 1
      · omega
      · congr 1
        omega
/-- The reference's PutBig, of the two halves of a length. -/
theorem putBig_two (n : Nat) (h1 : n ≤ 1125899906842624) (W : World) :
    Calls Try.prog 41 #[.slice (some ⟨W.heap.size, 0, none⟩) 2 2] (W.alloc (.cells #[.int .i64 (8 * (n : Int) / 4294967296), .int .i64 (bits .and .i64 (8 * (n : Int)) 4294967295)] 3)) fun e w' => e = .returned (.string (txt (([n / 536870912, 8 * n] : List Nat).flatMap by4))) ∧ Below (W.alloc (.cells #[.int .i64 (8 * (n : Int) / 4294967296), .int .i64 (bits .and .i64 (8 * (n : Int)) 4294967295)] 3)).heap.size (W.alloc (.cells #[.int .i64 (8 * (n : Int) / 4294967296), .int .i64 (bits .and .i64 (8 * (n : Int)) 4294967295)] 3)) w' := by
  obtain ⟨K, hK⟩ := putBig_ev [8 * n / 4294967296, 8 * n % 4294967296] (by intro i; rcases i with _ | _ | i <;> simp <;> omega) (by simp)
  have e1 : bits .and .i64 (8 * (n : Int)) 4294967295 = ((8 * n % 4294967296 : Nat) : Int) := by
    have := mask62 (8 * n) (by omega)
    rw [← this]
    congr 1
  have e2 : [8 * (n : Int) / 4294967296, bits .and .i64 (8 * (n : Int)) 4294967295] = ints [8 * n / 4294967296, 8 * n % 4294967296] := by
    rw [e1]
    simp [ints]
  have e3 : txt (([8 * n / 4294967296, 8 * n % 4294967296] : List Nat).flatMap by4) = txt (([n / 536870912, 8 * n] : List Nat).flatMap by4) := by
    simp only [List.flatMap_cons, List.flatMap_nil, by4_mod]
    rw [show 8 * n / 4294967296 = n / 536870912 by omega]
  have h := samphireref01_PutBig.calls K (some ⟨W.heap.size, 0, none⟩) 2 (ints [8 * n / 4294967296, 8 * n % 4294967296]) _ _ (lit_reads W (ints [8 * n / 4294967296, 8 * n % 4294967296]) 3 (by simp [ints])) (by simp [ints]) (hK K (Nat.le_refl _))
  rw [e3, ← e2] at h
  exact h
/-- How many noughts there are yet to come. -/
def zs (n : Nat) : Nat := (119 - n % 64) % 64
set_option maxRecDepth 100000 in
theorem samphireref02_Pad.yes (n : Nat) (w : World) (h1 : (n : Int) ≤ 1125899906842624) :
    Calls Try.prog 22 #[.int .i64 n] w fun e w' => e = .returned (.tuple #[.string (txt (padL n)), .int .i64 0]) ∧ Below w.heap.size w w' := by
  have d0 : decide ((n : Int) < 0) = false := by simp
  have d1 : decide (1125899906842624 < (n : Int)) = false := by simpa using h1
  have hi8 : (Try.prog.info? 5).map (fun i => (i.zero, i.size, i.bytes)) = some (some (.int .u8 0), 1, 1) := by kernel_rfl
  go_enter Try.func22, Try.ntmps22
  go_wp2
  go_loopg [4] (zs n) (fun gk v wr => ∃ j : Nat, Aside0 (j + gk = zs n) ∧ Aside0 (wr.ownsRow w.heap.size 5 1 v (j + 1) (nums .u8 (ints (128 :: List.replicate j 0)))) ∧ Aside0 (Below w.heap.size w wr))
  case atStart => exact ⟨0, ⟨by omega⟩, ⟨own_lit w _ 5 .u8 [128] (Nat.le_refl _) (by decide)⟩, ⟨below_alloc (Below.refl _ _) _⟩⟩
  case round =>
    obtain ⟨j, HJ, HO, HB⟩ := hrel
    obtain ⟨A, c, hv⟩ := own_slice HO.out
    subst hv
    cases gk with
    | zero =>
      have hj := HJ.out
      have q1 : (((n : Int) + ((j : Int) + 1) + 8) % 64 != 0) = false := by
        rw [bne_eq_false_iff_eq]
        unfold zs at hj
        omega
      have q2 : (((n : Int) + ((j : Int) + 1) + 8) % 64 == 0) = true := by
        rw [beq_iff_eq]
        unfold zs at hj
        omega
      have hj2 : j ≤ 64 := by unfold zs at hj; omega
      have hn0 : n ≤ 1125899906842624 := by omega
      have HC := Aside0.mk (putBig_two n hn0)
      generalize hU : txt (([n / 536870912, 8 * n] : List Nat).flatMap by4) = U at HC
      have hUs : U.size ≤ 8 := by rw [← hU, txt_size]; simp [by4]
      have HU := Aside0.mk hU
      have HCV := Aside0.mk (fun (W' : World) (h : W'.ownsRow w.heap.size 5 1 (.slice A (j + 1) c) (j + 1) (nums .u8 (ints (128 :: List.replicate j 0)))) => own_string (P := Try.prog) Try.underlying32 Try.underlying5 Try.underlying9 h)
      rw [str_ints] at HCV
      generalize hT : txt (128 :: List.replicate j 0) = T at HCV
      have hTs : T.size ≤ 65 := by rw [← hT, txt_size]; simp; exact hj2
      have HT := Aside0.mk hT
      have k1 : T.size + U.size ≤ 9223372036854775807 := by omega
      have k2 : decide (T.size + U.size ≤ 9223372036854775807) = true := decide_eq_true k1
      have k3 : (9223372036854775807 < T.size + U.size) = False := eq_false (Nat.not_lt.2 k1)
      have hjz : j = zs n := by omega
      have HZ := Aside0.mk hjz
      clear hj hjz hT hU hn0
      go_wp2
      have HO2 : Aside0 (wr.drew.ownsRow w.heap.size 5 1 (.slice A (j + 1) c) (j + 1) (nums .u8 (ints (128 :: List.replicate j 0)))) := ⟨HO.out⟩
      have HB2 : Aside0 (Below w.heap.size w wr.drew) := ⟨pw_below_drewN HB.out 1⟩
      refine start_ (n := 11) (S := fun w' => (convert 32 9 (.slice A (j + 1) c)).run Try.prog w' = .ok (.string T) w') (ds := []) #[false, false, false, false, false, false, false, false, false, false, false] (by kernel_rfl) rfl rfl (HCV.out _ HO2.out) (fun hHeld => ?_)
      generalize wr.drew = W at HO2 HB2 hHeld ⊢
      refine pure_ (i := 0) (N := some 25) (v := ?_) (a' := ?_) #[true, false, false, false, false, false, false, false, false, false, false] rfl rfl (by kernel_rfl) (fun _ _ _ h => h) (Or.inl ⟨by rfl, ?_⟩) ?_ ?_
      rotate_left
      · intro w'
        go_simp
        with_reducible rfl
      rotate_left
      · simp only [Act.put, List.setIfInBounds_toArray, List.set_cons_zero, List.set_cons_succ, i64_w, i32_w]
        rfl
      refine pure_ (i := 2) (N := some 27) (v := ?_) (a' := ?_) #[true, false, true, false, false, false, false, false, false, false, false] rfl rfl (by kernel_rfl) (fun _ _ _ h => h) (Or.inl ⟨by rfl, ?_⟩) ?_ ?_
      rotate_left
      · intro w'
        go_simp
        with_reducible rfl
      rotate_left
      · simp only [Act.put, List.setIfInBounds_toArray, List.set_cons_zero, List.set_cons_succ, i64_w, i32_w]
        rfl
      refine pure_ (i := 3) (N := some 28) (v := ?_) (a' := ?_) #[true, false, true, true, false, false, false, false, false, false, false] rfl rfl (by kernel_rfl) (fun _ _ _ h => h) (Or.inl ⟨by rfl, ?_⟩) ?_ ?_
      rotate_left
      · intro w'
        go_simp
        with_reducible rfl
      rotate_left
      · simp only [Act.put, List.setIfInBounds_toArray, List.set_cons_zero, List.set_cons_succ, i64_w, i32_w]
        rfl
      refine pure_ (i := 4) (N := some 29) (v := ?_) (a' := ?_) #[true, false, true, true, true, false, false, false, false, false, false] rfl rfl (by kernel_rfl) (fun _ _ _ h => h) (Or.inl ⟨by rfl, ?_⟩) ?_ ?_
      rotate_left
      · intro w'
        go_simp
        with_reducible rfl
      rotate_left
      · simp only [Act.put, List.setIfInBounds_toArray, List.set_cons_zero, List.set_cons_succ, i64_w, i32_w]
        rfl
      refine pure_ (i := 5) (N := some 30) (v := ?_) (a' := ?_) #[true, false, true, true, true, true, false, false, false, false, false] rfl rfl (by kernel_rfl) (fun _ _ _ h => h) (Or.inl ⟨by rfl, ?_⟩) ?_ ?_
      rotate_left
      · intro w'
        go_simp
        with_reducible rfl
      rotate_left
      · simp only [Act.put, List.setIfInBounds_toArray, List.set_cons_zero, List.set_cons_succ, i64_w, i32_w]
        rfl
      refine take_ (i := 1) (N := some 26) (v := ?_) (a' := ?_) #[true, true, true, true, true, true, false, false, false, false, false] rfl rfl (by kernel_rfl) (fun _ _ _ h => h) (Or.inl ⟨by rfl, ?_⟩) hHeld ?_ ?_
      rotate_left
      · intro w' s0
        go_simp
        with_reducible rfl
      rotate_left
      · simp only [Act.put, List.setIfInBounds_toArray, List.set_cons_zero, List.set_cons_succ, i64_w, i32_w]
        rfl
      refine one_ (i := 6) (N := some 31) #[true, true, true, true, true, true, true, false, false, false, false] rfl rfl (by kernel_rfl) (by decide) (fun K hK => ?_)
      refine value_ (w1 := ?_) (v := ?_) (by rfl) rfl ?_ ?_
      rotate_left 2
      · go_simp
        constructor
        · rfl
        · rfl
      refine hK.out _ _ (HCV.out _ (own_alloc HO2.out _)) (fun hHeld => ?_)
      clear hK K
      refine norm_ (a' := ?_) ?_ ?_
      rotate_left
      · show Act.put _ (some 31) _ = _
        simp only [Act.put, List.setIfInBounds_toArray, List.set_cons_zero, List.set_cons_succ, i64_w, i32_w]
        rfl
      refine one_ (i := 7) (N := some 32) #[true, true, true, true, true, true, true, true, false, false, false] rfl rfl (by kernel_rfl) (by decide) (fun K hK => ?_)
      refine goes_ Try.func41 (by kernel_rfl) rfl #[.slice (some ⟨W.heap.size, 0, none⟩) 2 2] (by rfl) rfl rfl (by simp only [List.map_toArray, List.map_cons, List.map_nil]; rfl) ?_
      with_reducible refine (HC.out W).mono ?_
      rintro e w16 ⟨rfl, hb⟩
      refine ⟨_, rfl, ?_⟩
      have HO3 := Aside0.mk (pw_own_below (own_alloc HO2.out _) hb)
      refine hK.out _ _ (HCV.out _ HO3.out) (fun hHeld => ?_)
      clear hK K
      refine norm_ (a' := ?_) ?_ ?_
      rotate_left
      · show Act.put _ (some 32) _ = _
        simp only [Act.put, List.setIfInBounds_toArray, List.set_cons_zero, List.set_cons_succ, i64_w, i32_w]
        rfl
      refine pure_ (i := 8) (N := some 33) (v := ?_) (a' := ?_) #[true, true, true, true, true, true, true, true, true, false, false] rfl rfl (by kernel_rfl) (fun _ _ _ h => h) (Or.inl ⟨by rfl, ?_⟩) ?_ ?_
      rotate_left
      · intro w'
        go_simp
        with_reducible rfl
      rotate_left
      · simp only [Act.put, List.setIfInBounds_toArray, List.set_cons_zero, List.set_cons_succ, i64_w, i32_w]
        rfl
      refine pure_ (i := 9) (N := some 2) (v := ?_) (a' := ?_) #[true, true, true, true, true, true, true, true, true, true, false] rfl rfl (by kernel_rfl) (fun _ _ _ h => h) (Or.inl ⟨by rfl, ?_⟩) ?_ ?_
      rotate_left
      · intro w'
        go_simp
        with_reducible rfl
      rotate_left
      · simp only [Act.put, List.setIfInBounds_toArray, List.set_cons_zero, List.set_cons_succ, i64_w, i32_w]
        rfl
      refine pure_ (i := 10) (N := some 3) (v := ?_) (a' := ?_) #[true, true, true, true, true, true, true, true, true, true, true] rfl rfl (by kernel_rfl) (fun _ _ _ h => h) (Or.inl ⟨by rfl, ?_⟩) ?_ ?_
      rotate_left
      · intro w'
        go_simp
        with_reducible rfl
      rotate_left
      · simp only [Act.put, List.setIfInBounds_toArray, List.set_cons_zero, List.set_cons_succ, i64_w, i32_w]
        rfl
      refine done_ (by kernel_rfl) ?_

      go_wp2
      go_ret2
      refine ⟨congrArg (fun z => Ending.returned (Value.tuple #[.string z, .int .i64 0])) ?_, ?_⟩
      · show T ++ U = txt (padL n)
        rw [← HT.out, ← HU.out, HZ.out, ← txt_append]
        congr 1
        simp [padL, zs]
      · exact below_then (below_alloc HB2.out _) (below_alloc HB2.out _).size hb
    | succ g =>
      have hz : zs n < 64 := Nat.mod_lt _ (by decide)
      have hj := HJ.out
      have q1 : (((n : Int) + ((j : Int) + 1) + 8) % 64 != 0) = true := by
        rw [bne_iff_ne]
        unfold zs at hj hz
        omega
      have q2 : (((n : Int) + ((j : Int) + 1) + 8) % 64 == 0) = false := by
        rw [beq_eq_false_iff_ne]
        unfold zs at hj hz
        omega
      have hj2 : j ≤ 64 := by omega
      clear hj hz
      have hl8 : (ints (128 :: List.replicate j 0)).length = j + 1 := by simp [ints]
      have HL8 := Aside0.mk hl8
      clear hl8
      go_wp2_with (at_builtin; refine print_append_num (w0 := w) w.heap.size rfl (.tmp 20) (.tmp 21) 32 5 .u8 1 rfl Try.underlying32 hi8 (by decide) (.slice A (j + 1) c) (ints (128 :: List.replicate j 0)) 0 rfl rfl ?aO ?aB ?aS ?aL ?_; (case aO => rw [HL8.out]; exact HO.out); (case aB => exact HB.out); (case aS => exact HB.out.size); (case aL => rw [HL8.out]; omega); intro v1 w1 ho hb hg hat; clear hg hat; have HO1 := Aside0.mk ho; have HB1 := Aside0.mk hb; clear ho hb)
      go_roundg g
      case measure => omega
      case rel =>
        refine ⟨j + 1, ⟨by have := HJ.out; omega⟩, ⟨?_⟩, ⟨HB1.out⟩⟩
        have e : ints (128 :: List.replicate j 0) ++ [0] = ints (128 :: List.replicate (j + 1) 0) := by
          rw [List.replicate_succ']
          simp [ints]
        have := HO1.out
        rw [e] at this
        simpa [ints] using this
set_option maxRecDepth 100000 in
theorem samphireref02_Pad.no (a0 : Int) (w : World) (h : ¬ (0 ≤ a0 ∧ a0 ≤ 1125899906842624)) :
    Calls Try.prog 22 #[.int .i64 a0] w fun e w' => e = .returned (.tuple #[.string ⟨#[]⟩, .int .i64 1]) ∧ Below w.heap.size w w' := by
  by_cases h0 : a0 < 0
  · have d0 : decide (a0 < 0) = true := decide_eq_true h0
    clear h
    go_enter Try.func22, Try.ntmps22
    go_wp2
    go_ret2
    exact ⟨rfl, Below.refl _ _⟩
  · have d0 : decide (a0 < 0) = false := decide_eq_false h0
    have d1 : decide (1125899906842624 < a0) = true := decide_eq_true (by omega)
    clear h
    go_enter Try.func22, Try.ntmps22
    go_wp2
    go_ret2
    exact ⟨rfl, Below.refl _ _⟩
theorem samphireref02_Pad.calls (a0 : Int) (r1 : ByteArray) (r2 : Int) (w : World) (h : samphireref02_Pad.f a0 = some (r1, r2)) :
    Calls Try.prog 22 #[.int .i64 a0] w fun e w' => e = .returned (.tuple #[.string r1, .int .i64 r2]) ∧ Below w.heap.size w w' := by
  unfold samphireref02_Pad.f padF at h
  by_cases hc : 0 ≤ a0 ∧ a0 ≤ 1125899906842624
  · rw [if_pos hc] at h
    simp only [Option.some.injEq, Prod.mk.injEq] at h
    obtain ⟨rfl, rfl⟩ := h
    obtain ⟨n, rfl⟩ := Int.eq_ofNat_of_zero_le hc.1
    exact samphireref02_Pad.yes n w hc.2
  · rw [if_neg hc] at h
    simp only [Option.some.injEq, Prod.mk.injEq] at h
    obtain ⟨rfl, rfl⟩ := h
    exact samphireref02_Pad.no a0 w hc
end Go.Proofs.Ytbmpcdpcdljibaa.Pr

namespace Go.Proofs.Ytbmpcdpcdljibaa.Pr
open Go.RowKit Go.Deep Go.Proofs.YtbmpcdpcdljibaaW.PrintWords Go.Proofs.YtbmpcdpcdljibaaW.PrintLast Go.Proofs.YtbmpcdpcdljibaaW.PrintMore
set_option maxHeartbeats 2000000
set_option linter.unusedVariables false
set_option linter.unusedSimpArgs false
theorem St.bytes_length (s : St) : s.bytes.length = 32 := rfl
theorem St.bytes_lt (s : St) : ∀ n ∈ s.bytes, n < 256 := by
  intro n hn
  simp only [St.bytes, St.list, by4, List.flatMap_cons, List.flatMap_nil, List.cons_append, List.nil_append, List.mem_cons, List.not_mem_nil, or_false] at hn
  omega
theorem be4_by4 (x : Nat) (h : x < 4294967296) : x / 16777216 % 256 * 16777216 + x / 65536 % 256 * 65536 + x / 256 % 256 * 256 + x % 256 = x := by omega
theorem stOf_bytes (s : St) (h : s.ok) : stOf s.bytes = s := by
  obtain ⟨a, b, c, d, e, f, g, hh⟩ := s
  obtain ⟨h1, h2, h3, h4, h5, h6, h7, h8⟩ := h
  simp only at h1 h2 h3 h4 h5 h6 h7 h8
  simp only [stOf, be4, St.bytes, St.list, by4, List.flatMap_cons, List.flatMap_nil, List.cons_append, List.nil_append]
  simp [be4_by4 a h1, be4_by4 b h2, be4_by4 c h3, be4_by4 d h4, be4_by4 e h5, be4_by4 f h6, be4_by4 g h7, be4_by4 hh h8]
theorem bys_bytes (s : St) : bys (txt s.bytes) = s.bytes := bys_txt s.bytes_lt
theorem blks_succ (n : Nat) : ∀ (s : St) (l : List Nat), blks (n + 1) s l = stp (blks n s l) ((l.drop (64 * n)).take 64) := by
  induction n with
  | zero => intro s l; simp [blks]
  | succ n ih =>
    intro s l
    rw [blks, ih, blks, List.drop_drop]
    congr 2
    congr 1
    omega
theorem stp_ok (s : St) (l : List Nat) : (stp s l).ok := St.add_ok _ _
theorem blks_ok (n : Nat) : ∀ (s : St) (l : List Nat), s.ok → (blks n s l).ok := by
  induction n with
  | zero => intro s l h; exact h
  | succ n ih => intro s l h; exact ih _ _ (stp_ok _ _)
theorem bys_append (a b : ByteArray) : bys (a ++ b) = bys a ++ bys b := by
  simp [bys, ByteArray.data_append]
theorem padL_lt (n : Nat) : ∀ x ∈ padL n, x < 256 := by
  intro x hx
  simp only [padL, by4, List.mem_cons, List.mem_append, List.mem_replicate, List.not_mem_nil, or_false] at hx
  omega
theorem padL_len (n : Nat) : (padL n).length = 9 + (119 - n % 64) % 64 := by
  simp [padL, by4]
  omega
/-- All bytes that are summed. -/
def allL (a : ByteArray) : List Nat := bys a ++ padL a.size
theorem allL_len (a : ByteArray) : ∃ m, (allL a).length = 64 * m ∧ a.size < 64 * m := by
  refine ⟨(a.size + 9 + (119 - a.size % 64) % 64) / 64, ?_, ?_⟩
  · rw [allL, List.length_append, bys_length, padL_len]
    omega
  · omega
def sumF (a0 : ByteArray) : Option ByteArray := if a0.size ≤ 1000000000000 then some (txt (blks ((allL a0).length / 64) St0 (allL a0)).bytes) else none
def sha_Sum.f (a0 : ByteArray) : Option ByteArray := sumF a0
def samphireref02_Sum.f (a0 : ByteArray) : Option ByteArray := sumF a0
theorem refBegin (w : World) : Calls Try.prog 18 #[] w fun e w' => e = .returned (.string (txt St0.bytes)) ∧ Below w.heap.size w w' := by
  obtain ⟨K, hK⟩ := begin_ev
  exact samphireref02_Begin.calls K _ w (hK K (Nat.le_refl _))
theorem refBlock (s b : ByteArray) (w : World) (hs : s.size = 32) (hb : b.size = 64) :
    Calls Try.prog 20 #[.string s, .string b] w fun e w' => e = .returned (.tuple #[.string (txt (stp (stOf (bys s)) (bys b)).bytes), .int .i64 0]) ∧ Below w.heap.size w w' := by
  obtain ⟨K, hK⟩ := block_ev s b
  rw [if_pos ⟨hs, hb⟩] at hK
  exact samphireref02_Block.calls K s b _ _ w (hK K (Nat.le_refl _))
set_option maxRecDepth 100000 in
theorem refSum (a0 : ByteArray) (w : World) (hn : a0.size ≤ 1000000000000) :
    Calls Try.prog 25 #[.string a0] w fun e w' => e = .returned (.string (txt (blks ((allL a0).length / 64) St0 (allL a0)).bytes)) ∧ Below w.heap.size w w' := by
  have hn1 : (a0.size : Int) ≤ 1125899906842624 := by omega
  obtain ⟨m, hm, hm2⟩ := allL_len a0
  have e0 : (allL a0).length / 64 = m := by omega
  rw [e0]
  clear e0
  go_enter Try.func25, Try.ntmps25
  go_wp2_with (fail)
  refine (samphireref02_Pad.yes a0.size _ hn1).mono ?_
  rintro e w1 ⟨rfl, hb1⟩
  generalize hT : txt (padL a0.size) = T
  have hTs : T.size ≤ 100 := by rw [← hT, txt_size, padL_len]; omega
  have k1 : a0.size + T.size ≤ 9223372036854775807 := by omega
  have k3 : (9223372036854775807 < a0.size + T.size) = False := eq_false (Nat.not_lt.2 k1)
  have hS : bys (a0 ++ T) = allL a0 := by rw [bys_append, ← hT, bys_txt (padL_lt _)]; rfl
  have hSs : (a0 ++ T).size = 64 * m := by rw [← bys_length, hS, hm]
  have HSs := Aside0.mk hSs
  have hs1 : (a0 ++ T).size ≤ 1000000000200 := by rw [ByteArray.size_append]; omega
  clear hSs
  clear hT hn1
  have HS := Aside0.mk hS
  have HM := Aside0.mk hm
  clear hS hm
  go_wp2_with (go_at_call 18; refine (refBegin _).mono ?_; generalize a0 ++ T = S at HS HSs hs1 ⊢; rintro e w2 ⟨rfl, hb2⟩)
  have hB0 := below_then hb1 hb1.size hb2
  have HB0 := Aside0.mk hB0
  clear hB0 hb1 hb2 k1 k3
  go_wp2
  go_loopw [5, 6] (fun st i wr => ∃ (q : Nat) (τ : ByteArray), i = .int .i64 q ∧ st = .string τ ∧ q ≤ S.size ∧ τ.size = 32 ∧ Aside0 (∃ j, q = 64 * j ∧ j ≤ m ∧ τ = txt (blks j St0 (allL a0)).bytes) ∧ Aside0 (Below w.heap.size w wr)) (fun _ i _ => S.size + 64 - (intOf i).toNat)
  case atStart => exact ⟨0, txt St0.bytes, rfl, rfl, by omega, rfl, ⟨0, rfl, by omega, rfl⟩, HB0⟩
  case round =>
    obtain ⟨q, τ, rfl, rfl, hq, hτ, HJ, HB⟩ := hrel
    by_cases hlt : q + 64 ≤ S.size
    · have hx : (S.extract q (q + 64)).size = 64 := by simp; omega
      have HX := Aside0.mk hx
      have HT := Aside0.mk hτ
      clear hx hτ
      have i1 := eq_true (show (q : Int) + 64 ≤ (S.size : Int) by omega)
      have i2 := eq_true (show (q : Int) ≤ (q : Int) + 64 by omega)
      have i3 := eq_true (show 0 ≤ (q : Int) by omega)
      have i4 : ((q : Int) + 64).toNat = q + 64 := by omega
      go_wp2_with (go_at_call 20; refine (refBlock τ (S.extract q (q + 64)) _ HT.out HX.out).mono ?_; rintro e w3 ⟨rfl, hb3⟩)
      go_roundw
      case measure => simp [intOf]; omega
      case rel =>
        obtain ⟨j, hj1, hj2, hj3⟩ := HJ.out
        have hj4 : j + 1 ≤ m := by have := HSs.out; omega
        refine ⟨q + 64, _, by go_num, rfl, hlt, by rw [txt_size, St.bytes_length], ⟨j + 1, by omega, hj4, ?_⟩, ⟨below_then HB.out HB.out.size hb3⟩⟩
        rw [blks_succ, hj3, bys_bytes, stOf_bytes _ (blks_ok _ _ _ St0_ok), bys_extract, HS.out, hj1]
        rw [Nat.add_sub_cancel_left]
    · clear hτ
      have i1 := eq_false (show ¬ (q : Int) + 64 ≤ (S.size : Int) by omega)
      go_wp2
      go_ret
      obtain ⟨j, hj1, hj2, hj3⟩ := HJ.out
      have hj4 : j = m := by have := HSs.out; omega
      rw [← hj4, ← hj3]
      exact ⟨rfl, HB.out⟩
theorem samphireref02_Sum.calls (a0 : ByteArray) (r : ByteArray) (w : World) (h : samphireref02_Sum.f a0 = some r) :
    Calls Try.prog 25 #[.string a0] w fun e w' => e = .returned (.string r) ∧ Below w.heap.size w w' := by
  unfold samphireref02_Sum.f sumF at h
  by_cases hc : a0.size ≤ 1000000000000
  · rw [if_pos hc] at h
    obtain rfl := Option.some.inj h
    exact refSum a0 w hc
  · rw [if_neg hc] at h
    cases h
def strLen : Value → Nat | .string s => s.size | _ => 0
/-- The state in a row of the heap. -/
def StAt (g : Nat) (s : St) (w : World) : Prop := w.heap[g]? = some (.cells #[.int .u32 (s.a : Int), .int .u32 (s.b : Int), .int .u32 (s.c : Int), .int .u32 (s.d : Int), .int .u32 (s.e : Int), .int .u32 (s.f : Int), .int .u32 (s.g : Int), .int .u32 (s.h : Int)] 45 (0, 0))
def KAt (g : Nat) (w : World) : Prop := w.heap[g]? = some (.cells (u32s shaK) 50 (0, 0))
theorem StAt.store {g : Nat} {s : St} {w : World} (h : StAt g s w) (t : St) : StAt g t (w.setRow g #[.int .u32 (t.a : Int), .int .u32 (t.b : Int), .int .u32 (t.c : Int), .int .u32 (t.d : Int), .int .u32 (t.e : Int), .int .u32 (t.f : Int), .int .u32 (t.g : Int), .int .u32 (t.h : Int)]) :=
  setRow_heap _ _ _ _ _ _ h
theorem below_setRow8 {B g : Nat} {w0 w : World} (hb : Below B w0 w) (hg : B ≤ g) (cs : Array Value) : Below B w0 (w.setRow g cs) :=
  ⟨hb.os, hb.tape, hb.output, by simpa [World.setRow] using hb.size, fun k hk => by rw [setRow_other _ _ _ _ (by omega)]; exact hb.block k hk⟩
theorem KAt.store {g g' : Nat} {w : World} (h : KAt g w) (hg : g ≠ g') (cs : Array Value) : KAt g (w.setRow g' cs) := by
  unfold KAt
  rw [setRow_other _ _ _ _ hg]
  exact h
set_option maxRecDepth 100000 in
theorem shaSum (a0 : ByteArray) (w : World) (hn : a0.size ≤ 1000000000000) :
    Calls Try.prog 24 #[.string a0] w fun e w' => e = .returned (.string (txt (blks ((allL a0).length / 64) St0 (allL a0)).bytes)) ∧ Below w.heap.size w w' := by
  have hinf : (Try.prog.info? 50).map (·.size) = some 64 := by kernel_rfl
  have hinf8 : (Try.prog.info? 45).map (·.size) = some 8 := by kernel_rfl
  have hn1 : (a0.size : Int) ≤ 1125899906842624 := by omega
  obtain ⟨m, hm, hm2⟩ := allL_len a0
  have e0 : (allL a0).length / 64 = m := by omega
  rw [e0]
  clear e0
  have HI := Aside0.mk hinf
  have HI8 := Aside0.mk hinf8
  clear hinf hinf8
  go_enter Try.func24, Try.ntmps24
  go_wp2_with (fail)
  refine (sha_Pad.yes a0.size _ hn1).mono ?_
  rintro e w1 ⟨rfl, hb1⟩
  generalize hT : txt (padL a0.size) = T
  have hTs : T.size ≤ 100 := by rw [← hT, txt_size, padL_len]; omega
  have hTb : bys T = padL a0.size := by rw [← hT, bys_txt (padL_lt _)]
  have HTB := Aside0.mk hTb
  have HM := Aside0.mk hm
  clear hT hm hTb hn1
  go_wp2_with (first | (go_at_call 43; refine (constants.calls _).mono ?_; rintro e w2 ⟨rfl, hb2⟩; have HB2 := Aside0.mk (below_then hb1 hb1.size hb2); clear hb1 hb2) | (refine wpList_store_row rfl 50 (.tmp 5) (.tmp 16) rfl _ (u32s shaK) rfl rfl 50 _ (heap_alloc_last _ _) HI.out (by rfl) (u32s_one _) ?_; rw [World.setRow_alloc_new]) | (go_at_call 39; refine (sha_start.calls _).mono ?_; rintro e w3 ⟨rfl, hb3⟩))
  have HK : KAt w2.heap.size (w3.alloc (.cells #[.int .u32 (St0.a : Int), .int .u32 (St0.b : Int), .int .u32 (St0.c : Int), .int .u32 (St0.d : Int), .int .u32 (St0.e : Int), .int .u32 (St0.f : Int), .int .u32 (St0.g : Int), .int .u32 (St0.h : Int)] 45)) := blk_alloc (blk_below (heap_alloc_last _ _) hb3) _
  have HS0 : StAt w3.heap.size St0 (w3.alloc (.cells #[.int .u32 (St0.a : Int), .int .u32 (St0.b : Int), .int .u32 (St0.c : Int), .int .u32 (St0.d : Int), .int .u32 (St0.e : Int), .int .u32 (St0.f : Int), .int .u32 (St0.g : Int), .int .u32 (St0.h : Int)] 45)) := heap_alloc_last _ _
  have q1 : Below w.heap.size w (w2.alloc (.cells (u32s shaK) 50)) := below_alloc HB2.out _
  have HB4 : Below w.heap.size w (w3.alloc (.cells #[.int .u32 (St0.a : Int), .int .u32 (St0.b : Int), .int .u32 (St0.c : Int), .int .u32 (St0.d : Int), .int .u32 (St0.e : Int), .int .u32 (St0.f : Int), .int .u32 (St0.g : Int), .int .u32 (St0.h : Int)] 45)) := below_alloc (below_then q1 q1.size hb3) _
  have hk1 : w2.heap.size ≠ w3.heap.size := by have := hb3.size; simp at this; omega
  have hk2 : w.heap.size ≤ w3.heap.size := by have := hb3.size; have := q1.size; omega
  have AK := Aside0.mk HK
  have AS := Aside0.mk HS0
  have AB := Aside0.mk HB4
  have A1 := Aside0.mk hk1
  have A2 := Aside0.mk hk2
  clear HK HS0 HB4 q1 hb3 hk1 hk2 HB2
  generalize w3.alloc (.cells #[.int .u32 (St0.a : Int), .int .u32 (St0.b : Int), .int .u32 (St0.c : Int), .int .u32 (St0.d : Int), .int .u32 (St0.e : Int), .int .u32 (St0.f : Int), .int .u32 (St0.g : Int), .int .u32 (St0.h : Int)] 45) = w4 at AK AS AB ⊢
  generalize w2.heap.size = gc at AK A1 ⊢
  generalize w3.heap.size = gh at AS A1 A2 ⊢
  obtain ⟨M, hM⟩ : ∃ M : Nat, (a0.size : Int) / 64 * 64 = (M : Int) := ⟨a0.size / 64 * 64, by omega⟩
  rw [hM]
  have hM2 : M ≤ a0.size := by omega
  have hM3 : a0.size < M + 64 := by omega
  have hM4 : ∃ j, M = 64 * j := ⟨a0.size / 64, by omega⟩
  have HM4 := Aside0.mk hM4
  clear hM hM4
  go_loopw [8] (fun i wr => ∃ (q j : Nat), i = .int .i64 q ∧ q ≤ M ∧ Aside0 (q = 64 * j) ∧ Aside0 (KAt gc wr) ∧ Aside0 (StAt gh (blks j St0 (allL a0)) wr) ∧ Aside0 (Below w.heap.size w wr)) (fun i _ => M - (intOf i).toNat)
  case atStart => exact ⟨0, 0, rfl, by omega, ⟨rfl⟩, AK, AS, AB⟩
  case round =>
    clear AK AS AB
    obtain ⟨q, j, rfl, hq, HJ, HK, HS, HB⟩ := hrel
    by_cases hlt : q < M
    · have hle : q + 64 ≤ a0.size := by
        obtain ⟨j', hj'⟩ := HM4.out
        have := HJ.out
        omega
      have hx : (a0.extract q (q + 64)).size = 64 := by simp; omega
      have HX := Aside0.mk hx
      clear hx
      generalize hst : blks j St0 (allL a0) = st at HS
      have hok : st.ok := by rw [← hst]; exact blks_ok _ _ _ St0_ok
      have HST := Aside0.mk hst
      have HOK := Aside0.mk hok
      clear hst hok
      obtain ⟨a, b, c, d, e, f, g, h⟩ := st
      have i1 := eq_true (show (q : Int) + 64 ≤ (a0.size : Int) by omega)
      have i2 := eq_true (show (q : Int) ≤ (q : Int) + 64 by omega)
      have i3 := eq_true (show 0 ≤ (q : Int) by omega)
      have i4 : ((q : Int) + 64).toNat = q + 64 := by omega
      have i5 : IntKind.i64.wrap ((q : Int) + 64) = (q : Int) + 64 := IntWalk.i64_in _ (by omega)
      go_wp2_with (fail)
      refine wp_still_tail 6 (by kernel_rfl) (by kernel_rfl) ?_
      intro W hW
      have hcv := cell_row8 (w := W) (g := gh) (t := 45) (by rw [hW]; exact HS.out)
      have HK2 : Aside0 (KAt gc W) := ⟨by rw [hW]; exact HK.out⟩
      have HS2 : Aside0 (StAt gh ⟨a, b, c, d, e, f, g, h⟩ W) := ⟨by rw [hW]; exact HS.out⟩
      have HB2 : Aside0 (Below w.heap.size w W) := ⟨by rw [hW]; exact pw_below_drewN HB.out 1⟩
      clear hW HS HK HB
      simp only [List.take_succ_cons, List.take_zero, List.drop_succ_cons, List.drop_zero]
      repeat still_step
      refine wpStill_nil ?_
      clear hcv
      go_wp2_with (first | (go_at_call 44; refine (sums_step.calls a b c d e f g h gc (a0.extract q (q + 64)) W HOK.out HX.out HK2.out).mono ?_; rintro e5 w5 ⟨⟨s', hs', rfl⟩, hb5⟩; generalize hV : #[Value.int .u32 (s'.a : Int), Value.int .u32 (s'.b : Int), Value.int .u32 (s'.c : Int), Value.int .u32 (s'.d : Int), Value.int .u32 (s'.e : Int), Value.int .u32 (s'.f : Int), Value.int .u32 (s'.g : Int), Value.int .u32 (s'.h : Int)] = V; have HV := Aside0.mk hV; clear hV; have HS5 := Aside0.mk hs'; have HB5 := Aside0.mk hb5; clear hs' hb5) | (refine wpList_store_row rfl 45 (.tmp 6) (.tmp 33) rfl gh V rfl rfl 45 _ (blk_below HS2.out HB5.out) (by rw [← HV.out]; exact HI8.out) (by rw [← HV.out]; rfl) (by rw [← HV.out]; exact u32s_one [s'.a, s'.b, s'.c, s'.d, s'.e, s'.f, s'.g, s'.h]) ?_))
      rw [← HV.out]
      have HK6 : Aside0 (KAt gc (w5.setRow gh #[.int .u32 (s'.a : Int), .int .u32 (s'.b : Int), .int .u32 (s'.c : Int), .int .u32 (s'.d : Int), .int .u32 (s'.e : Int), .int .u32 (s'.f : Int), .int .u32 (s'.g : Int), .int .u32 (s'.h : Int)])) := ⟨KAt.store (blk_below HK2.out HB5.out) A1.out _⟩
      have HS6 : Aside0 (StAt gh s' (w5.setRow gh #[.int .u32 (s'.a : Int), .int .u32 (s'.b : Int), .int .u32 (s'.c : Int), .int .u32 (s'.d : Int), .int .u32 (s'.e : Int), .int .u32 (s'.f : Int), .int .u32 (s'.g : Int), .int .u32 (s'.h : Int)])) := ⟨StAt.store (blk_below HS2.out HB5.out) s'⟩
      have HB6 : Aside0 (Below w.heap.size w (w5.setRow gh #[.int .u32 (s'.a : Int), .int .u32 (s'.b : Int), .int .u32 (s'.c : Int), .int .u32 (s'.d : Int), .int .u32 (s'.e : Int), .int .u32 (s'.f : Int), .int .u32 (s'.g : Int), .int .u32 (s'.h : Int)])) := ⟨below_setRow8 (below_then HB2.out HB2.out.size HB5.out) A2.out _⟩
      generalize w5.setRow gh #[.int .u32 (s'.a : Int), .int .u32 (s'.b : Int), .int .u32 (s'.c : Int), .int .u32 (s'.d : Int), .int .u32 (s'.e : Int), .int .u32 (s'.f : Int), .int .u32 (s'.g : Int), .int .u32 (s'.h : Int)] = w6 at HK6 HS6 HB6 ⊢
      go_wp2
      refine ⟨⟨q + 64, j + 1, by go_num, by obtain ⟨j', hj'⟩ := HM4.out; have := HJ.out; omega, ⟨by have := HJ.out; omega⟩, HK6, ⟨?_⟩, HB6⟩, by simp [intOf]; omega⟩
      have e : blks (j + 1) St0 (allL a0) = s' := by
        rw [blks_succ, HST.out, HS5.out, bys_extract, allL, ← HJ.out, List.drop_append_of_le_length (by rw [bys_length]; omega), List.take_append_of_le_length (by rw [List.length_drop, bys_length]; omega), Nat.add_sub_cancel_left]
      rw [e]
      exact HS6.out
    · have hqM : q = M := by omega
      subst hqM
      clear hlt hq
      have i1 := eq_true (show (q : Int) ≤ (a0.size : Int) by omega)
      have i3 := eq_true (show 0 ≤ (q : Int) by omega)
      have hsz : (a0.extract q a0.size).size ≤ 64 := by simp; omega
      have k1 : (a0.extract q a0.size).size + T.size ≤ 9223372036854775807 := by omega
      have k3 : (9223372036854775807 < (a0.extract q a0.size).size + T.size) = False := eq_false (Nat.not_lt.2 k1)
      go_wp2_with (fail)
      have HT : Aside0 (bys (a0.extract q a0.size ++ T) = (allL a0).drop (64 * j)) := ⟨by rw [bys_append, HTB.out, bys_extract, allL, ← HJ.out, List.drop_append_of_le_length (by rw [bys_length]; omega), List.take_of_length_le (by rw [List.length_drop, bys_length]; omega)]⟩
      have ht : (a0.extract q a0.size ++ T).size ≤ 200 := by rw [ByteArray.size_append]; omega
      have hjm : 64 * j ≤ 64 * m := by have := HJ.out; omega
      generalize a0.extract q a0.size ++ T = U at HT ht ⊢
      clear k1 k3 hsz i1 i3
      go_loopw [9] (fun t wr => ∃ (j : Nat) (τ : ByteArray), t = .string τ ∧ τ.size ≤ 200 ∧ Aside0 (bys τ = (allL a0).drop (64 * j)) ∧ Aside0 (64 * j ≤ 64 * m) ∧ Aside0 (KAt gc wr) ∧ Aside0 (StAt gh (blks j St0 (allL a0)) wr) ∧ Aside0 (Below w.heap.size w wr)) (fun t _ => strLen t)
      case atStart => exact ⟨j, U, rfl, ht, HT, ⟨hjm⟩, HK, HS, HB⟩
      case round =>
        clear HJ HK HS HB HT
        obtain ⟨j, τ, rfl, hτ, HT, HJ, HK, HS, HB⟩ := hrel
        have hlen : τ.size = 64 * m - 64 * j := by rw [← bys_length, HT.out, List.length_drop, HM.out]
        by_cases hz : τ.size = 0
        · have hτ0 : τ = ⟨#[]⟩ := by
            obtain ⟨⟨l⟩⟩ := τ
            congr
            cases l with
            | nil => rfl
            | cons x l => simp [ByteArray.size] at hz
          subst hτ0
          have hjm : j = m := by have := HJ.out; rw [hz] at hlen; omega
          clear hτ hlen hz HT
          rw [hjm] at HS
          generalize hst : blks m St0 (allL a0) = st at HS
          have HST := Aside0.mk hst
          clear hst
          obtain ⟨a, b, c, d, e, f, g, h⟩ := st
          have hcv := cell_row8 (w := wr) (g := gh) (t := 45) HS.out
          go_wp2_with (go_at_call 40; refine (sums_text.calls _ _ _ _ _ _ _ _ _).mono ?_; rintro e w7 ⟨rfl, hb7⟩)
          go_ret
          rw [HST.out]
          exact ⟨rfl, below_then HB.out HB.out.size hb7⟩
        · have hge : 64 ≤ τ.size := by have := HJ.out; omega
          have hx : (τ.extract 0 64).size = 64 := by simp; omega
          have HX := Aside0.mk hx
          have HL := Aside0.mk hlen
          clear hx hlen
          generalize hst : blks j St0 (allL a0) = st at HS
          have hok : st.ok := by rw [← hst]; exact blks_ok _ _ _ St0_ok
          have HST := Aside0.mk hst
          have HOK := Aside0.mk hok
          clear hst hok
          obtain ⟨a, b, c, d, e, f, g, h⟩ := st
          have i1 := eq_true (show (64 : Int) ≤ (τ.size : Int) by omega)
          have i2 : τ.toList.isEmpty = false := by
            rw [ByteArray.toList_eq]
            obtain ⟨⟨l⟩⟩ := τ
            cases l with
            | nil => exact absurd rfl hz
            | cons x l => rfl
          go_wp2_with (fail)
          refine wp_still_tail 3 (by kernel_rfl) (by kernel_rfl) ?_
          intro W hW
          have hcv := cell_row8 (w := W) (g := gh) (t := 45) (by rw [hW]; exact HS.out)
          have HK2 : Aside0 (KAt gc W) := ⟨by rw [hW]; exact HK.out⟩
          have HS2 : Aside0 (StAt gh ⟨a, b, c, d, e, f, g, h⟩ W) := ⟨by rw [hW]; exact HS.out⟩
          have HB2 : Aside0 (Below w.heap.size w W) := ⟨by rw [hW]; exact pw_below_drewN HB.out 1⟩
          clear hW HS HK HB
          simp only [List.take_succ_cons, List.take_zero, List.drop_succ_cons, List.drop_zero]
          repeat still_step
          refine wpStill_nil ?_
          clear hcv
          go_wp2_with (first | (go_at_call 44; refine (sums_step.calls a b c d e f g h gc (τ.extract 0 64) W HOK.out HX.out HK2.out).mono ?_; rintro e5 w5 ⟨⟨s', hs', rfl⟩, hb5⟩; generalize hV : #[Value.int .u32 (s'.a : Int), Value.int .u32 (s'.b : Int), Value.int .u32 (s'.c : Int), Value.int .u32 (s'.d : Int), Value.int .u32 (s'.e : Int), Value.int .u32 (s'.f : Int), Value.int .u32 (s'.g : Int), Value.int .u32 (s'.h : Int)] = V; have HV := Aside0.mk hV; clear hV; have HS5 := Aside0.mk hs'; have HB5 := Aside0.mk hb5; clear hs' hb5) | (refine wpList_store_row rfl 45 (.tmp 6) (.tmp 46) rfl gh V rfl rfl 45 _ (blk_below HS2.out HB5.out) (by rw [← HV.out]; exact HI8.out) (by rw [← HV.out]; rfl) (by rw [← HV.out]; exact u32s_one [s'.a, s'.b, s'.c, s'.d, s'.e, s'.f, s'.g, s'.h]) ?_))
          rw [← HV.out]
          have HK6 : Aside0 (KAt gc (w5.setRow gh #[.int .u32 (s'.a : Int), .int .u32 (s'.b : Int), .int .u32 (s'.c : Int), .int .u32 (s'.d : Int), .int .u32 (s'.e : Int), .int .u32 (s'.f : Int), .int .u32 (s'.g : Int), .int .u32 (s'.h : Int)])) := ⟨KAt.store (blk_below HK2.out HB5.out) A1.out _⟩
          have HS6 : Aside0 (StAt gh s' (w5.setRow gh #[.int .u32 (s'.a : Int), .int .u32 (s'.b : Int), .int .u32 (s'.c : Int), .int .u32 (s'.d : Int), .int .u32 (s'.e : Int), .int .u32 (s'.f : Int), .int .u32 (s'.g : Int), .int .u32 (s'.h : Int)])) := ⟨StAt.store (blk_below HS2.out HB5.out) s'⟩
          have HB6 : Aside0 (Below w.heap.size w (w5.setRow gh #[.int .u32 (s'.a : Int), .int .u32 (s'.b : Int), .int .u32 (s'.c : Int), .int .u32 (s'.d : Int), .int .u32 (s'.e : Int), .int .u32 (s'.f : Int), .int .u32 (s'.g : Int), .int .u32 (s'.h : Int)])) := ⟨below_setRow8 (below_then HB2.out HB2.out.size HB5.out) A2.out _⟩
          generalize w5.setRow gh #[.int .u32 (s'.a : Int), .int .u32 (s'.b : Int), .int .u32 (s'.c : Int), .int .u32 (s'.d : Int), .int .u32 (s'.e : Int), .int .u32 (s'.f : Int), .int .u32 (s'.g : Int), .int .u32 (s'.h : Int)] = w6 at HK6 HS6 HB6 ⊢
          go_wp2
          refine ⟨⟨j + 1, τ.extract 64 τ.size, rfl, by simp; omega, ⟨?_⟩, ⟨by have := HJ.out; have := HL.out; omega⟩, HK6, ⟨?_⟩, HB6⟩, by simp [strLen]; omega⟩
          · rw [bys_extract, HT.out, List.take_of_length_le (by have := HL.out; simp [HM.out]; omega), List.drop_drop]
            rfl
          · have e : blks (j + 1) St0 (allL a0) = s' := by
              rw [blks_succ, HST.out, HS5.out, bys_extract, HT.out]
              rfl
            rw [e]
            exact HS6.out
theorem sha_Sum.calls (a0 : ByteArray) (r : ByteArray) (w : World) (h : sha_Sum.f a0 = some r) :
    Calls Try.prog 24 #[.string a0] w fun e w' => e = .returned (.string r) ∧ Below w.heap.size w w' := by
  unfold sha_Sum.f sumF at h
  by_cases hc : a0.size ≤ 1000000000000
  · rw [if_pos hc] at h
    obtain rfl := Option.some.inj h
    exact shaSum a0 w hc
  · rw [if_neg hc] at h
    cases h
end Go.Proofs.Ytbmpcdpcdljibaa.Pr

namespace Go.Proofs.Ytbmpcdpcdljibaa.Pr
open Go.RowKit Go.Proofs.YtbmpcdpcdljibaaW.PrintWords Go.Proofs.YtbmpcdpcdljibaaW.PrintLast
theorem sumL_length (l : List Nat) : (sumL l).length = 32 := rfl
theorem sumL_lt (l : List Nat) : ∀ n ∈ sumL l, n < 256 := St.bytes_lt _
theorem allL_bys (a : ByteArray) : allL a = bys a ++ padL (bys a).length := by rw [allL, bys_length]
/-- The sum of a text. -/
def sumT (a : ByteArray) : ByteArray := txt (sumL (bys a))
theorem sumT_size (a : ByteArray) : (sumT a).size = 32 := by rw [sumT, txt_size, sumL_length]
theorem bys_sumT (a : ByteArray) : bys (sumT a) = sumL (bys a) := bys_txt (sumL_lt _)
theorem sumF_eq (a : ByteArray) (h : a.size ≤ 1000000000000) : sumF a = some (sumT a) := by
  unfold sumF
  rw [if_pos h, allL_bys]
  rfl
theorem sha_Sum_f (a : ByteArray) (h : a.size ≤ 1000000000000) : sha_Sum.f a = some (sumT a) := sumF_eq a h
theorem ref_Sum_f (a : ByteArray) (h : a.size ≤ 1000000000000) : samphireref02_Sum.f a = some (sumT a) := sumF_eq a h
theorem sum_abc : sumL [97, 98, 99] = [186, 120, 22, 191, 143, 1, 207, 234, 65, 65, 64, 222, 93, 174, 34, 35, 176, 3, 97, 163, 150, 23, 122, 156, 180, 16, 255, 97, 242, 0, 21, 173] := by decide +kernel
theorem sum_nil : (sumL []).take 4 = [227, 176, 196, 66] := by decide +kernel
theorem sum_56 : (sumL [97, 98, 99, 100, 98, 99, 100, 101, 99, 100, 101, 102, 100, 101, 102, 103, 101, 102, 103, 104, 102, 103, 104, 105, 103, 104, 105, 106, 104, 105, 106, 107, 105, 106, 107, 108, 106, 107, 108, 109, 107, 108, 109, 110, 108, 109, 110, 111, 109, 110, 111, 112, 110, 111, 112, 113]).take 4 = [36, 141, 106, 97] := by decide +kernel
theorem txt_toList (l : List Nat) : (txt l).toList = l.map fun n => UInt8.ofNat n := by rw [ByteArray.toList_eq]; rfl
theorem txt_extract (l : List Nat) (i j : Nat) : (txt l).extract i j = txt ((l.drop i).take (j - i)) := by
  unfold txt
  apply ByteArray.ext
  simp [ByteArray.data_extract, List.map_take, List.map_drop]
end Go.Proofs.Ytbmpcdpcdljibaa.Pr

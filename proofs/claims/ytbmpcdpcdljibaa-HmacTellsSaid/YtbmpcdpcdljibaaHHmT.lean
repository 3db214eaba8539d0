/- HmacTells: the walk, and what it answers. -/
import Derived.Test.YtbmpcdpcdljibaaPureHmacSums
import Derived.Test.YtbmpcdpcdljibaaPrxf27
namespace Go.Proofs.Ytbmpcdpcdljibaa.Pr
open Go.RowKit Go.Deep Go.Proofs.YtbmpcdpcdljibaaW.PrintWords Go.Proofs.YtbmpcdpcdljibaaW.PrintLast Go.Proofs.YtbmpcdpcdljibaaW.PrintMore
set_option maxHeartbeats 2000000
set_option linter.unusedVariables false
set_option linter.unusedSimpArgs false
theorem and_31t (n : Int) : bits .and .i64 n 31 = n % 32 := by
  have h127 : (BitVec.ofInt 64 31).toNat = 2 ^ 5 - 1 := by decide
  have key : (BitVec.ofInt 64 n &&& BitVec.ofInt 64 31).toNat = (n % ((2 ^ 64 : Nat) : Int)).toNat % 2 ^ 5 := by
    rw [BitVec.toNat_and, BitVec.toNat_ofInt, h127, Nat.and_two_pow_sub_one_eq_mod]
  show IntKind.i64.wrap ((BitVec.ofInt 64 n &&& BitVec.ofInt 64 31).toNat : Nat) = n % 32
  rw [key, IntKind.wrap_i64]
  omega
theorem and_255t (n : Int) : bits .and .i64 n 255 = n % 256 := by
  have h127 : (BitVec.ofInt 64 255).toNat = 2 ^ 8 - 1 := by decide
  have key : (BitVec.ofInt 64 n &&& BitVec.ofInt 64 255).toNat = (n % ((2 ^ 64 : Nat) : Int)).toNat % 2 ^ 8 := by
    rw [BitVec.toNat_and, BitVec.toNat_ofInt, h127, Nat.and_two_pow_sub_one_eq_mod]
  show IntKind.i64.wrap ((BitVec.ofInt 64 n &&& BitVec.ofInt 64 255).toNat : Nat) = n % 256
  rw [key, IntKind.wrap_i64]
  omega
theorem BAt.cut {g : Nat} {l : List Nat} {rest : Array Value} {w : World} (h : BAt g l rest w) (n : Nat) : ∃ r', BAt g (l.take n) r' w := by
  refine ⟨u8s (l.drop n) ++ rest, ?_⟩
  have e : u8s (l.take n) ++ (u8s (l.drop n) ++ rest) = u8s l ++ rest := by
    rw [← Array.append_assoc]
    congr 1
    unfold u8s
    apply Array.ext'
    rw [Array.toList_append, ← List.map_append, List.take_append_drop]
  unfold BAt
  rw [e]
  exact h
theorem conv_bat_take (W : World) (g : Nat) (l : List Nat) (rest : Array Value) (h : BAt g l rest W) (n : Nat) (hn : n ≤ l.length) (c : Nat) :
    (convert 32 9 (.slice (some ⟨g, 0, none⟩) n c)).run Try.prog W = .ok (.string (txt (l.take n))) W := by
  obtain ⟨r', h'⟩ := h.cut n
  exact conv_bat W g (l.take n) r' h' n (by rw [List.length_take]; omega) c
set_option maxRecDepth 100000 in
theorem tells (a0 a1 : ByteArray) (x y : Int) (h0 : a0.size ≤ 1024) (h1 : a1.size ≤ 1024) (w : World) :
    Calls Try.prog 10 #[.string a0, .string a1, .agg #[.int .i64 x, .int .i64 y]] w fun e w' => e = .returned (.bool true) ∧ Below w.heap.size w w' := by
  have c1 : decide (1024 < (a0.size : Int)) = false := decide_eq_false (by omega)
  have c2 : decide (1024 < (a1.size : Int)) = false := decide_eq_false (by omega)
  obtain ⟨i, hi, hi2⟩ : ∃ i : Nat, bits .and .i64 x 31 = (i : Int) ∧ i < 32 := ⟨(x % 32).toNat, by rw [and_31t]; omega, by omega⟩
  obtain ⟨b, hb, hb2⟩ : ∃ b : Nat, bits .and .i64 y 255 = (b : Int) ∧ b < 256 := ⟨(y % 256).toNat, by rw [and_255t]; omega, by omega⟩
  go_enter Try.func10, Try.ntmps10
  go_wp2
  go_quiet (fail)
  go_wp2_with (go_at_call 28; refine (hmac_Mac.calls a0 a1 _ _ (hmac_Mac_f a0 a1 (by omega) (by omega))).mono ?_; rintro e w1 ⟨rfl, hb1⟩)
  rw [print_bytes (P := Try.prog) 9 32 5 Try.underlying9 Try.underlying32 Try.underlying5 (macT a0 a1) w1]
  have HM : Aside0 (bys (macT a0 a1) = macL (bys a0) (bys a1)) := ⟨bys_macT a0 a1⟩
  have hms : (macT a0 a1).size = 32 := macT_size a0 a1
  have hsz := hb1.size
  have HB2 : Aside0 (Below w.heap.size w (Lib.bytesWorld w1 5 (macT a0 a1))) := ⟨bytes_below (below_then (pw_below_drewN (below_alloc (Below.refl _ _) _) _) (pw_below_drewN (below_alloc (Below.refl _ _) _) _).size hb1) (by simp at hsz; omega) _ _⟩
  have HG : Aside0 (w.heap.size ≤ w1.heap.size) := ⟨by simp at hsz; omega⟩
  obtain ⟨rest, HR⟩ := bytes_row w1 (macT a0 a1)
  rw [HM.out] at HR
  have hl : (macL (bys a0) (bys a1)).length = 32 := sumL_length _
  have hlt : ∀ z ∈ macL (bys a0) (bys a1), z < 256 := sumL_lt _
  generalize hLd : macL (bys a0) (bys a1) = L at HR hl hlt
  have HL := Aside0.mk hLd
  rw [hms]
  generalize Lib.bytesWorld w1 5 (macT a0 a1) = w2 at HR HB2 ⊢
  have hcp := grownCap_ge w1 32 0 5
  generalize grownCap w1 32 0 5 = cp at hcp ⊢
  generalize w1.heap.size = g at HR HG ⊢
  have hx0 : L[i]? = some (L.getD i 0) := by
    rw [List.getElem?_eq_getElem (by omega)]
    simp [show i < L.length by omega]
  have hxb : L.getD i 0 < 256 := by
    rw [List.getD_eq_getElem?_getD, List.getElem?_eq_getElem (by omega)]
    exact hlt _ (List.getElem_mem _)
  have hcell := BAt.cell HR hx0
  have hfr := BAt.frozen HR hx0
  have HR2 := Aside0.mk (BAt.store HR i (L.getD i 0 ^^^ b) (by omega))
  generalize hz : L.getD i 0 = z at hcell hxb HR2
  have hxor := u8_xor_nat z b hxb hb2
  have HB3 : Aside0 (Below w.heap.size w (w2.setCell ⟨g, i, none⟩ (.int .u8 ((z ^^^ b : Nat) : Int)))) := ⟨HB2.out.setCell (p := ⟨g, i, none⟩) HG.out _⟩
  have HZ := Aside0.mk hz
  have HLN := Aside0.mk hl
  have HLT := Aside0.mk hlt
  clear hsz hb1 HR hl hlt hLd hz hx0 hms
  go_wp2
  rw [conv_bat _ g _ rest HR2.out 32 (by rw [List.length_set]; exact HLN.out) cp]
  generalize w2.setCell ⟨g, i, none⟩ (.int .u8 ((z ^^^ b : Nat) : Int)) = w3 at HR2 HB3 ⊢
  have hbl : ∀ q ∈ L.set i (z ^^^ b), q < 256 := by
    intro q hq
    rcases List.mem_or_eq_of_mem_set hq with h | h
    · exact HLT.out q h
    · rw [h]
      exact Nat.xor_lt_two_pow (n := 8) hxb hb2
  have HV : Aside0 (bys (txt (L.set i (z ^^^ b))) = L.set i (z ^^^ b)) := ⟨bys_txt hbl⟩
  have HV2 : Aside0 (bys (txt ((L.set i (z ^^^ b)).take 31)) = (L.set i (z ^^^ b)).take 31) := ⟨bys_txt (fun q hq => hbl q (List.mem_of_mem_take hq))⟩
  have hne : Aside0 (¬ L = (L.set i (z ^^^ b)).take 31) := ⟨fun h => by
    have := congrArg List.length h
    rw [List.length_take, List.length_set, HLN.out] at this
    omega⟩
  generalize hV0 : txt (L.set i (z ^^^ b)) = V at HV ⊢
  have HV0 := Aside0.mk hV0
  clear hV0 hbl hcell hfr hxor
  have c31 := eq_true (show 31 ≤ cp by omega)
  have c31i := eq_true (show (31 : Int) ≤ (cp : Int) by omega)
  by_cases hb0 : b = 0
  · have hq : Aside0 (L = L.set i (z ^^^ b)) := ⟨by
      rw [hb0, Nat.xor_zero, ← HZ.out]
      apply List.ext_getElem?
      intro j
      rw [List.getElem?_set]
      split
      · rename_i h
        subst h
        rw [if_pos (by rw [HLN.out]; exact hi2), List.getElem?_eq_getElem (by rw [HLN.out]; exact hi2)]
        simp [show i < L.length by rw [HLN.out]; exact hi2]
      · rfl⟩
    subst hb0
    go_wp2_with (go_at_call 30; refine (hmac_Check.calls 70 a0 a1 V _ _ (hmac_Check_f a0 a1 V (by omega) (by omega) 70 (by decide))).mono ?_; rw [show decide (macL (bys a0) (bys a1) = bys V) = true from (by rw [HL.out, HV.out]; exact decide_eq_true hq.out)]; rintro e w4 ⟨rfl, hb4⟩; have HR4 := Aside0.mk (show BAt g _ rest w4 from blk_below HR2.out hb4); have HB4 := Aside0.mk (below_then HB3.out HB3.out.size hb4); clear hb4)
    rw [conv_bat_take _ g _ rest HR4.out 31 (by rw [List.length_set, HLN.out]; decide) cp]
    generalize txt ((L.set i (z ^^^ _)).take 31) = U at HV2 ⊢
    go_wp2_with (first | (go_at_call 30; refine (hmac_Check.calls 70 a0 a1 U _ _ (hmac_Check_f a0 a1 U (by omega) (by omega) 70 (by decide))).mono ?_; rw [show decide (macL (bys a0) (bys a1) = bys U) = false from (by rw [HL.out, HV2.out]; exact decide_eq_false hne.out)]; rintro e w5 ⟨rfl, hb5⟩; have HB5 := Aside0.mk (below_then HB4.out HB4.out.size hb5); clear hb5) | (go_at_call 27; refine (samphirelaw03_jefe.calls 70 _ _ (Pure.jefe_f 70 (by decide))).mono ?_; rintro e w6 ⟨rfl, hb6⟩))
    go_ret
    exact ⟨rfl, below_then HB5.out HB5.out.size hb6⟩
  · have hq : Aside0 (¬ L = L.set i (z ^^^ b)) := ⟨fun h => hb0 (by
      have h2 := congrArg (fun l => l.getD i 0) h
      simp only [List.getD_eq_getElem?_getD, List.getElem?_set] at h2
      rw [if_pos trivial, if_pos (by rw [HLN.out]; exact hi2), ← List.getD_eq_getElem?_getD, HZ.out] at h2
      rw [Option.getD_some] at h2
      have h3 : z ^^^ z = z ^^^ (z ^^^ b) := by rw [← h2]
      rw [Nat.xor_self, ← Nat.xor_assoc, Nat.xor_self, Nat.zero_xor] at h3
      exact h3.symm)⟩
    have hb1 : (((b : Nat) : Int) == 0) = false := by rw [beq_eq_false_iff_ne]; omega
    go_wp2_with (go_at_call 30; refine (hmac_Check.calls 70 a0 a1 V _ _ (hmac_Check_f a0 a1 V (by omega) (by omega) 70 (by decide))).mono ?_; rw [show decide (macL (bys a0) (bys a1) = bys V) = false from (by rw [HL.out, HV.out]; exact decide_eq_false hq.out)]; rintro e w4 ⟨rfl, hb4⟩; have HR4 := Aside0.mk (show BAt g _ rest w4 from blk_below HR2.out hb4); have HB4 := Aside0.mk (below_then HB3.out HB3.out.size hb4); clear hb4)
    rw [conv_bat_take _ g _ rest HR4.out 31 (by rw [List.length_set, HLN.out]; decide) cp]
    generalize txt ((L.set i (z ^^^ _)).take 31) = U at HV2 ⊢
    go_wp2_with (first | (go_at_call 30; refine (hmac_Check.calls 70 a0 a1 U _ _ (hmac_Check_f a0 a1 U (by omega) (by omega) 70 (by decide))).mono ?_; rw [show decide (macL (bys a0) (bys a1) = bys U) = false from (by rw [HL.out, HV2.out]; exact decide_eq_false hne.out)]; rintro e w5 ⟨rfl, hb5⟩; have HB5 := Aside0.mk (below_then HB4.out HB4.out.size hb5); clear hb5) | (go_at_call 27; refine (samphirelaw03_jefe.calls 70 _ _ (Pure.jefe_f 70 (by decide))).mono ?_; rintro e w6 ⟨rfl, hb6⟩))
    go_ret
    exact ⟨rfl, below_then HB5.out HB5.out.size hb6⟩
set_option maxRecDepth 100000 in
theorem tells_heavy (a0 a1 : ByteArray) (x y : Int) (h : ¬ (a0.size ≤ 1024 ∧ a1.size ≤ 1024)) (w : World) :
    Calls Try.prog 10 #[.string a0, .string a1, .agg #[.int .i64 x, .int .i64 y]] w fun e w' => e = .returned (.bool true) ∧ Below w.heap.size w w' := by
  obtain ⟨b, hb, hb2⟩ : ∃ b : Nat, bits .and .i64 y 255 = (b : Int) ∧ b < 256 := ⟨(y % 256).toNat, by rw [and_255t]; omega, by omega⟩
  by_cases h0 : a0.size ≤ 1024
  · have c1 : decide (1024 < (a0.size : Int)) = false := decide_eq_false (by omega)
    have c2 : decide (1024 < (a1.size : Int)) = true := decide_eq_true (by omega)
    clear h h0
    go_enter Try.func10, Try.ntmps10
    go_wp2
    go_quiet (fail)
    go_wp2_with (go_at_call 27; refine (samphirelaw03_jefe.calls 70 _ _ (Pure.jefe_f 70 (by decide))).mono ?_; rintro e w6 ⟨rfl, hb6⟩)
    go_ret
    exact ⟨rfl, below_then (pw_below_drewN (below_alloc (Below.refl _ _) _) _) (pw_below_drewN (below_alloc (Below.refl _ _) _) _).size hb6⟩
  · have c1 : decide (1024 < (a0.size : Int)) = true := decide_eq_true (by omega)
    clear h h0
    go_enter Try.func10, Try.ntmps10
    go_wp2
    go_quiet (fail)
    go_wp2_with (go_at_call 27; refine (samphirelaw03_jefe.calls 70 _ _ (Pure.jefe_f 70 (by decide))).mono ?_; rintro e w6 ⟨rfl, hb6⟩)
    go_ret
    exact ⟨rfl, below_then (pw_below_drewN (below_alloc (Below.refl _ _) _) _) (pw_below_drewN (below_alloc (Below.refl _ _) _) _).size hb6⟩
theorem tells_all (a0 a1 : ByteArray) (x y : Int) (w : World) :
    Calls Try.prog 10 #[.string a0, .string a1, .agg #[.int .i64 x, .int .i64 y]] w fun e w' => e = .returned (.bool true) ∧ Below w.heap.size w w' := by
  by_cases h : a0.size ≤ 1024 ∧ a1.size ≤ 1024
  · exact tells a0 a1 x y h.1 h.2 w
  · exact tells_heavy a0 a1 x y h w
end Go.Proofs.Ytbmpcdpcdljibaa.Pr

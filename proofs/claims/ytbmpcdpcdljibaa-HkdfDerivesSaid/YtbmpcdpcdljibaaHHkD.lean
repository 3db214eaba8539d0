/- HkdfDerives: the walk, and what it answers. -/
import Derived.Test.YtbmpcdpcdljibaaHHkB
import Derived.Test.YtbmpcdpcdljibaaPrxf32
import Derived.Test.YtbmpcdpcdljibaaPrxf33
import Derived.Test.YtbmpcdpcdljibaaPrxf36
import Derived.Test.YtbmpcdpcdljibaaPrxf38
namespace Go.Proofs.Ytbmpcdpcdljibaa.Pr
open Go.RowKit Go.Deep Go.Proofs.YtbmpcdpcdljibaaW.PrintWords Go.Proofs.YtbmpcdpcdljibaaW.PrintLast Go.Proofs.YtbmpcdpcdljibaaW.PrintMore
set_option maxHeartbeats 2000000
set_option linter.unusedVariables false
set_option linter.unusedSimpArgs false
theorem and_255d (n : Int) : bits .and .i64 n 255 = n % 256 := by
  have h127 : (BitVec.ofInt 64 255).toNat = 2 ^ 8 - 1 := by decide
  have key : (BitVec.ofInt 64 n &&& BitVec.ofInt 64 255).toNat = (n % ((2 ^ 64 : Nat) : Int)).toNat % 2 ^ 8 := by
    rw [BitVec.toNat_and, BitVec.toNat_ofInt, h127, Nat.and_two_pow_sub_one_eq_mod]
  show IntKind.i64.wrap ((BitVec.ofInt 64 n &&& BitVec.ofInt 64 255).toNat : Nat) = n % 256
  rw [key, IntKind.wrap_i64]
  omega
/-- The bytes that are derived. -/
def derT (a0 a1 : ByteArray) (n : Nat) : ByteArray := txt ((expL (macL (bys a0) (bys a1)) [112] ((n + 31) / 32)).take n)
theorem Expand_der (a0 a1 : ByteArray) (n : Nat) (hn : n ≤ 8160) : hkdf_Expand.f (macT a0 a1) ⟨#[112]⟩ (n : Int) = some (derT a0 a1 n, 0) := by
  rw [hkdf_Expand_f _ _ (by rw [macT_size]; omega) (by decide) n hn, bys_macT]
  rfl
theorem Derive_der (a0 a1 : ByteArray) (h0 : a0.size ≤ 512) (h1 : a1.size ≤ 512) (n : Nat) (hn : n ≤ 8160) : hkdf_Derive.f a0 a1 ⟨#[112]⟩ (n : Int) = some (derT a0 a1 n, 0) := by
  unfold hkdf_Derive.f
  rw [hkdf_Extract_f _ _ (by omega) (by omega), Option.bind_some, Expand_der a0 a1 n hn, Option.bind_some]
theorem derT_size (a0 a1 : ByteArray) (n : Nat) : (derT a0 a1 n).size = n := by
  rw [derT, txt_size, List.length_take, expL_length]
  omega
theorem expL_prefix (k p : List Nat) : ∀ (d i : Nat), (expL k p (i + d)).take (32 * i) = expL k p i
  | 0, i => List.take_of_length_le (by rw [Nat.add_zero, expL_length]; exact Nat.le_refl _)
  | d + 1, i => by
    rw [← Nat.add_assoc, expL, List.take_append_of_le_length (by rw [expL_length]; omega)]
    exact expL_prefix k p d i
theorem derT_take (a0 a1 : ByteArray) (n m : Nat) (h : n ≤ m) : (derT a0 a1 m).extract 0 n = derT a0 a1 n := by
  unfold derT
  rw [txt_extract, Nat.sub_zero, List.drop_zero, List.take_take, Nat.min_eq_left h]
  obtain ⟨d, hd⟩ : ∃ d, (m + 31) / 32 = (n + 31) / 32 + d := ⟨(m + 31) / 32 - (n + 31) / 32, by omega⟩
  rw [hd, ← expL_prefix _ _ d ((n + 31) / 32), List.take_take, Nat.min_eq_left (by omega)]
theorem strs_reads (W : World) (a b : ByteArray) (e : Nat) : Kd.C Kd.string (W.alloc (.cells #[.string a, .string b] e)) (some ⟨W.heap.size, 0, none⟩) 2 [a, b] := by
  refine Kd.C_of_reads (enc := Value.string) (d := ByteArray.empty) (h1 := fun _ => rfl) ⟨rfl, by decide, fun _ => ⟨_, rfl, fun j hj => ?_⟩⟩
  rw [add_plain, cell_of_row _ _ _ _ _ _ (heap_alloc_new _ _)]
  match j, hj with
  | 0, _ => rfl
  | 1, _ => rfl
set_option maxRecDepth 100000 in
theorem derives (a0 a1 : ByteArray) (x y : Int) (h0 : a0.size ≤ 512) (h1 : a1.size ≤ 512) (w : World) :
    Calls Try.prog 14 #[.string a0, .string a1, .agg #[.int .i64 x, .int .i64 y]] w fun e w' => e = .returned (.bool true) ∧ Below w.heap.size w w' := by
  obtain ⟨n0, hx, hx2⟩ : ∃ n : Nat, bits .and .i64 x 255 = (n : Int) ∧ n < 256 := ⟨(x % 256).toNat, by rw [and_255d]; omega, by omega⟩
  obtain ⟨m0, hy, hy2⟩ : ∃ n : Nat, bits .and .i64 y 255 = (n : Int) ∧ n < 256 := ⟨(y % 256).toNat, by rw [and_255d]; omega, by omega⟩
  go_enter Try.func14, Try.ntmps14
  go_wp2_with (fail)
  have hlf : samphirelaw04_light.f 3 [a0, a1] = some true := by
    have := light_two a0 a1 0
    rw [decide_eq_true ⟨h0, h1⟩] at this
    exact this
  have CL := fun (W : World) => samphirelaw04_light.calls 3 (some ⟨W.heap.size, 0, none⟩) 2 [a0, a1] true (W.alloc (.cells #[.string a0, .string a1] 9)) (strs_reads W a0 a1 9) (Nat.le_refl 2) hlf
  have CL2 := CL (w.alloc (.cells #[.int .i64 x, .int .i64 y] 37))
  rw [show (w.alloc (.cells #[.int .i64 x, .int .i64 y] 37)).heap.size = w.heap.size + 1 by simp, show ([a0, a1] : List ByteArray).length = 2 from rfl] at CL2
  with_reducible refine CL2.mono ?_
  rintro e w1 ⟨rfl, ⟨nd, rfl⟩⟩
  go_wp2_with (fail)
  obtain ⟨n, hn, hn2⟩ : ∃ n : Nat, (n0 : Int) % 200 = (n : Int) ∧ n < 200 := ⟨n0 % 200, by omega, by omega⟩
  rw [hn]
  obtain ⟨m, hm, hm2, hm3⟩ : ∃ m : Nat, wrap64 ((n : Int) + (m0 : Int) % (201 - (n : Int))) = (m : Int) ∧ m ≤ 200 ∧ n ≤ m := by
    have q1 : 0 ≤ (m0 : Int) % (201 - (n : Int)) := Int.emod_nonneg _ (by omega)
    have q2 : (m0 : Int) % (201 - (n : Int)) < 201 - (n : Int) := Int.emod_lt_of_pos _ (by omega)
    refine ⟨((n : Int) + (m0 : Int) % (201 - (n : Int))).toNat, ?_, by omega, by omega⟩
    rw [wrapN _ (by omega) (by omega)]
    omega
  rw [hm]
  clear hn hm hx hy
  have HB1 := Aside0.mk (show Below w.heap.size w (((w.alloc (.cells #[.int .i64 x, .int .i64 y] 37)).alloc (.cells #[.string a0, .string a1] 9)).drewN nd) from pw_below_drewN (below_alloc (below_alloc (Below.refl _ _) _) _) _)
  generalize ((w.alloc (.cells #[.int .i64 x, .int .i64 y] 37)).alloc (.cells #[.string a0, .string a1] 9)).drewN nd = w1 at HB1 ⊢
  refine (hkdf_Derive.calls a0 a1 ⟨#[112]⟩ (n : Int) _ _ w1 (Derive_der a0 a1 h0 h1 n (by omega))).mono ?_
  rintro e w2 ⟨rfl, hb2⟩
  have HB2 := Aside0.mk (below_then HB1.out HB1.out.size hb2)
  clear hb2
  go_wp2_with (fail)
  refine (hkdf_Derive.calls a0 a1 ⟨#[112]⟩ (m : Int) _ _ w2 (Derive_der a0 a1 h0 h1 m (by omega))).mono ?_
  rintro e w3 ⟨rfl, hb3⟩
  have HB3 := Aside0.mk (below_then HB2.out HB2.out.size hb3)
  clear hb3
  have hxs : hkdf_Extract.f a0 a1 = some (macT a0 a1) := hkdf_Extract_f a0 a1 (by omega) (by omega)
  have HX := Aside0.mk hxs
  clear hxs
  go_wp2_with (fail)
  refine (hkdf_Extract.calls a0 a1 _ w3 HX.out).mono ?_
  rintro e w4 ⟨rfl, hb4⟩
  have HB4 := Aside0.mk (below_then HB3.out HB3.out.size hb4)
  clear hb4
  go_wp2_with (fail)
  refine (hkdf_Expand.calls (macT a0 a1) ⟨#[112]⟩ (m : Int) _ _ w4 (Expand_der a0 a1 m (by omega))).mono ?_
  rintro e w5 ⟨rfl, hb5⟩
  have HB5 := Aside0.mk (below_then HB4.out HB4.out.size hb5)
  clear hb5
  have hA : (derT a0 a1 n).size = n := derT_size a0 a1 n
  have hBm : (derT a0 a1 m).size = m := derT_size a0 a1 m
  have hAB := Aside0.mk (derT_take a0 a1 n m hm3)
  generalize derT a0 a1 n = A at hA hAB ⊢
  generalize derT a0 a1 m = B at hBm hAB ⊢
  have HA := Aside0.mk hA
  have HBm := Aside0.mk hBm
  have c1 : ((A.size : Int) == (n : Int)) = true := by rw [hA]; exact beq_self_eq_true _
  have c2 : ((B.size : Int) == (m : Int)) = true := by rw [hBm]; exact beq_self_eq_true _
  have c3 := eq_true (show (n : Int) ≤ (B.size : Int) by omega)
  have c3b := eq_true (show n ≤ B.size by omega)
  have c4 := eq_true (show (0 : Int) ≤ (n : Int) by omega)
  have c5 : (B.extract 0 n).toList = A.toList := by rw [hAB.out]
  clear hA hBm
  go_wp2_with (go_at_call 33; refine (samphirelaw04_one.calls _ _ one_f).mono ?_; rintro e w6 ⟨rfl, hb6⟩)
  go_ret
  exact ⟨rfl, below_then HB5.out HB5.out.size hb6⟩
set_option maxRecDepth 100000 in
theorem derives_heavy (a0 a1 : ByteArray) (x y : Int) (h : ¬ (a0.size ≤ 512 ∧ a1.size ≤ 512)) (w : World) :
    Calls Try.prog 14 #[.string a0, .string a1, .agg #[.int .i64 x, .int .i64 y]] w fun e w' => e = .returned (.bool true) ∧ Below w.heap.size w w' := by
  have hlf : samphirelaw04_light.f 3 [a0, a1] = some false := by
    have := light_two a0 a1 0
    rw [decide_eq_false h] at this
    exact this
  have CL := fun (W : World) => samphirelaw04_light.calls 3 (some ⟨W.heap.size, 0, none⟩) 2 [a0, a1] false (W.alloc (.cells #[.string a0, .string a1] 9)) (strs_reads W a0 a1 9) (Nat.le_refl 2) hlf
  have CL2 := CL (w.alloc (.cells #[.int .i64 x, .int .i64 y] 37))
  rw [show (w.alloc (.cells #[.int .i64 x, .int .i64 y] 37)).heap.size = w.heap.size + 1 by simp, show ([a0, a1] : List ByteArray).length = 2 from rfl] at CL2
  have HC := Aside0.mk CL2
  clear CL2 CL hlf h
  go_enter Try.func14, Try.ntmps14
  go_wp2_with (fail)
  with_reducible refine HC.out.mono ?_
  rintro e w1 ⟨rfl, ⟨nd, rfl⟩⟩
  go_wp2_with (go_at_call 33; refine (samphirelaw04_one.calls _ _ one_f).mono ?_; rintro e w6 ⟨rfl, hb6⟩)
  go_ret
  exact ⟨rfl, below_then (pw_below_drewN (below_alloc (below_alloc (Below.refl _ _) _) _) _) (pw_below_drewN (below_alloc (below_alloc (Below.refl _ _) _) _) _).size hb6⟩
theorem derives_all (a0 a1 : ByteArray) (x y : Int) (w : World) :
    Calls Try.prog 14 #[.string a0, .string a1, .agg #[.int .i64 x, .int .i64 y]] w fun e w' => e = .returned (.bool true) ∧ Below w.heap.size w w' := by
  by_cases h : a0.size ≤ 512 ∧ a1.size ≤ 512
  · exact derives a0 a1 x y h.1 h.2 w
  · exact derives_heavy a0 a1 x y h w
end Go.Proofs.Ytbmpcdpcdljibaa.Pr

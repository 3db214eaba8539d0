/- The reference's turn to the right, at each count that it uses. -/
-- HAND samphire/samphireref02.right samphireref02_right 0 0
import Derived.Test.YtbmpcdpcdljibaaHShaR
import Derived.BigQuiet
namespace Go.Proofs.Ytbmpcdpcdljibaa.Pr
open Go.RowKit Go.Proofs.YtbmpcdpcdljibaaW.PrintWords
set_option maxHeartbeats 1000000
set_option linter.unusedVariables false
set_option linter.unusedSimpArgs false
theorem wraps_i62 (n : Int) (h₀ : 0 ≤ n) (h₁ : n < 2 ^ 62) : IntKind.i64.wrap n = n := by rw [IntKind.wrap_i64]; omega
theorem or62 (a b : Nat) (ha : a < 4611686018427387904) (hb : b < 4611686018427387904) : bits .or .i64 (a : Int) (b : Int) = ((a ||| b : Nat) : Int) :=
  (bits_nat .i64 62 (by decide) wraps_i62 a b (by simpa using ha) (by simpa using hb)).2
theorem and62 (a b : Nat) (ha : a < 4611686018427387904) (hb : b < 4611686018427387904) : bits .and .i64 (a : Int) (b : Int) = ((a &&& b : Nat) : Int) :=
  (bits_nat .i64 62 (by decide) wraps_i62 a b (by simpa using ha) (by simpa using hb)).1
theorem xor62 (a b : Nat) (ha : a < 4611686018427387904) (hb : b < 4611686018427387904) : bits .xor .i64 (a : Int) (b : Int) = ((a ^^^ b : Nat) : Int) := by
  have ha' : a % 2 ^ 64 = a := Nat.mod_eq_of_lt (by have : (4611686018427387904 : Nat) < 2 ^ 64 := by decide
                                                    omega)
  have hb' : b % 2 ^ 64 = b := Nat.mod_eq_of_lt (by have : (4611686018427387904 : Nat) < 2 ^ 64 := by decide
                                                    omega)
  have hx : a ^^^ b < 2 ^ 62 := Nat.xor_lt_two_pow (by simpa using ha) (by simpa using hb)
  have e : bits .xor .i64 (a : Int) (b : Int) = IntKind.i64.wrap ((a ^^^ b : Nat) : Int) := by
    simp only [bits, BitVec.ofInt_natCast, BitVec.toNat_xor, BitVec.toNat_ofNat]
    rw [show (IntKind.i64.bits) = 64 from rfl, ha', hb']
  rw [e]
  exact wraps_i62 _ (Int.natCast_nonneg _) (by exact_mod_cast hx)
theorem mask62 (a : Nat) (ha : a < 4611686018427387904) : bits .and .i64 (a : Int) 4294967295 = ((a % 4294967296 : Nat) : Int) := by
  have := and62 a 4294967295 ha (by decide)
  rw [show ((4294967295 : Nat) : Int) = 4294967295 from rfl] at this
  rw [this, show (4294967295 : Nat) = 2 ^ 32 - 1 from rfl, Nat.and_two_pow_sub_one_eq_mod]
theorem word_any (a : Nat) (w : World) (ha : a < 4611686018427387904) : Calls Try.prog 48 #[.int .i64 a] w fun e w' => e = .returned (.int .i64 (a % 4294967296 : Nat)) ∧ w' = w := by
  have h := mask62 a ha
  have H := Aside0.mk h
  clear h
  go_enter Try.func48, Try.ntmps48
  go_wp2
  go_ret
  exact ⟨congrArg (fun z => Ending.returned (Value.int .i64 z)) H.out, rfl⟩
theorem rot_or62 (x n p q : Nat) (hx : x < 4294967296) (hp4 : p ≤ 1073741824) (hq : 2 ^ n = q) (hp : 2 ^ (32 - n) = p) : (x * p ||| x / q) % 4294967296 = rotr x n := by
  unfold rotr
  rw [Nat.shiftRight_eq_div_pow, Nat.shiftLeft_eq, hq, hp, Nat.or_comm (x / q), show (4294967296 : Nat) = 2 ^ 32 from rfl, Nat.or_mod_two_pow]
  rw [Nat.mod_eq_of_lt (a := x / q) (Nat.lt_of_le_of_lt (Nat.div_le_self _ _) hx)]
theorem rright_2 (x : Nat) (w : World) (hx : x < 4294967296) : Calls Try.prog 49 #[.int .i64 x, .int .i64 2] w fun e w' => e = .returned (.int .i64 (rotr x 2 : Nat)) ∧ Drawn0 w w' := by
  have h1 : bits .and .i64 30 31 = 30 := by kernel_rfl
  have h3 : bits .or .i64 ((x : Int) * 1073741824) ((x : Int) / 4) = ((x * 1073741824 ||| x / 4 : Nat) : Int) := by
    have := or62 (x * 1073741824) (x / 4) (by omega) (by omega)
    rw [← this]; simp
  have hlt : x * 1073741824 ||| x / 4 < 4611686018427387904 := by
    have h4 : x * 1073741824 < 2 ^ 62 := by omega
    have h5 : x / 4 < 2 ^ 62 := by omega
    exact Nat.or_lt_two_pow h4 h5
  have hm : x % 4294967296 = x := Nat.mod_eq_of_lt hx
  have hm2 : (x : Int) % 4294967296 = x := by omega
  have HLT := Aside0.mk hlt
  clear hlt
  go_enter Try.func49, Try.ntmps49
  go_wp2
  go_quiet ((first | (go_at_call 48; exact Calls.quiet_of_same (word_any x _ (by omega))) | (go_at_call 48; exact Calls.quiet_of_same (word_any (x * 1073741824 ||| x / 4) _ HLT.out))))
  go_wp2
  go_ret
  exact ⟨by first | exact congrArg (fun z => Ending.returned (Value.int .i64 z)) (congrArg (Nat.cast (R := Int)) (rot_or62 x 2 1073741824 4 hx (by decide) (by decide) (by decide))) | (rw [← rot_or62 x 2 1073741824 4 hx (by decide) (by decide) (by decide)]; simp), ⟨⟨_, rfl⟩⟩⟩
theorem rright_6 (x : Nat) (w : World) (hx : x < 4294967296) : Calls Try.prog 49 #[.int .i64 x, .int .i64 6] w fun e w' => e = .returned (.int .i64 (rotr x 6 : Nat)) ∧ Drawn0 w w' := by
  have h1 : bits .and .i64 26 31 = 26 := by kernel_rfl
  have h3 : bits .or .i64 ((x : Int) * 67108864) ((x : Int) / 64) = ((x * 67108864 ||| x / 64 : Nat) : Int) := by
    have := or62 (x * 67108864) (x / 64) (by omega) (by omega)
    rw [← this]; simp
  have hlt : x * 67108864 ||| x / 64 < 4611686018427387904 := by
    have h4 : x * 67108864 < 2 ^ 62 := by omega
    have h5 : x / 64 < 2 ^ 62 := by omega
    exact Nat.or_lt_two_pow h4 h5
  have hm : x % 4294967296 = x := Nat.mod_eq_of_lt hx
  have hm2 : (x : Int) % 4294967296 = x := by omega
  have HLT := Aside0.mk hlt
  clear hlt
  go_enter Try.func49, Try.ntmps49
  go_wp2
  go_quiet ((first | (go_at_call 48; exact Calls.quiet_of_same (word_any x _ (by omega))) | (go_at_call 48; exact Calls.quiet_of_same (word_any (x * 67108864 ||| x / 64) _ HLT.out))))
  go_wp2
  go_ret
  exact ⟨by first | exact congrArg (fun z => Ending.returned (Value.int .i64 z)) (congrArg (Nat.cast (R := Int)) (rot_or62 x 6 67108864 64 hx (by decide) (by decide) (by decide))) | (rw [← rot_or62 x 6 67108864 64 hx (by decide) (by decide) (by decide)]; simp), ⟨⟨_, rfl⟩⟩⟩
theorem rright_7 (x : Nat) (w : World) (hx : x < 4294967296) : Calls Try.prog 49 #[.int .i64 x, .int .i64 7] w fun e w' => e = .returned (.int .i64 (rotr x 7 : Nat)) ∧ Drawn0 w w' := by
  have h1 : bits .and .i64 25 31 = 25 := by kernel_rfl
  have h3 : bits .or .i64 ((x : Int) * 33554432) ((x : Int) / 128) = ((x * 33554432 ||| x / 128 : Nat) : Int) := by
    have := or62 (x * 33554432) (x / 128) (by omega) (by omega)
    rw [← this]; simp
  have hlt : x * 33554432 ||| x / 128 < 4611686018427387904 := by
    have h4 : x * 33554432 < 2 ^ 62 := by omega
    have h5 : x / 128 < 2 ^ 62 := by omega
    exact Nat.or_lt_two_pow h4 h5
  have hm : x % 4294967296 = x := Nat.mod_eq_of_lt hx
  have hm2 : (x : Int) % 4294967296 = x := by omega
  have HLT := Aside0.mk hlt
  clear hlt
  go_enter Try.func49, Try.ntmps49
  go_wp2
  go_quiet ((first | (go_at_call 48; exact Calls.quiet_of_same (word_any x _ (by omega))) | (go_at_call 48; exact Calls.quiet_of_same (word_any (x * 33554432 ||| x / 128) _ HLT.out))))
  go_wp2
  go_ret
  exact ⟨by first | exact congrArg (fun z => Ending.returned (Value.int .i64 z)) (congrArg (Nat.cast (R := Int)) (rot_or62 x 7 33554432 128 hx (by decide) (by decide) (by decide))) | (rw [← rot_or62 x 7 33554432 128 hx (by decide) (by decide) (by decide)]; simp), ⟨⟨_, rfl⟩⟩⟩
theorem rright_11 (x : Nat) (w : World) (hx : x < 4294967296) : Calls Try.prog 49 #[.int .i64 x, .int .i64 11] w fun e w' => e = .returned (.int .i64 (rotr x 11 : Nat)) ∧ Drawn0 w w' := by
  have h1 : bits .and .i64 21 31 = 21 := by kernel_rfl
  have h3 : bits .or .i64 ((x : Int) * 2097152) ((x : Int) / 2048) = ((x * 2097152 ||| x / 2048 : Nat) : Int) := by
    have := or62 (x * 2097152) (x / 2048) (by omega) (by omega)
    rw [← this]; simp
  have hlt : x * 2097152 ||| x / 2048 < 4611686018427387904 := by
    have h4 : x * 2097152 < 2 ^ 62 := by omega
    have h5 : x / 2048 < 2 ^ 62 := by omega
    exact Nat.or_lt_two_pow h4 h5
  have hm : x % 4294967296 = x := Nat.mod_eq_of_lt hx
  have hm2 : (x : Int) % 4294967296 = x := by omega
  have HLT := Aside0.mk hlt
  clear hlt
  go_enter Try.func49, Try.ntmps49
  go_wp2
  go_quiet ((first | (go_at_call 48; exact Calls.quiet_of_same (word_any x _ (by omega))) | (go_at_call 48; exact Calls.quiet_of_same (word_any (x * 2097152 ||| x / 2048) _ HLT.out))))
  go_wp2
  go_ret
  exact ⟨by first | exact congrArg (fun z => Ending.returned (Value.int .i64 z)) (congrArg (Nat.cast (R := Int)) (rot_or62 x 11 2097152 2048 hx (by decide) (by decide) (by decide))) | (rw [← rot_or62 x 11 2097152 2048 hx (by decide) (by decide) (by decide)]; simp), ⟨⟨_, rfl⟩⟩⟩
theorem rright_13 (x : Nat) (w : World) (hx : x < 4294967296) : Calls Try.prog 49 #[.int .i64 x, .int .i64 13] w fun e w' => e = .returned (.int .i64 (rotr x 13 : Nat)) ∧ Drawn0 w w' := by
  have h1 : bits .and .i64 19 31 = 19 := by kernel_rfl
  have h3 : bits .or .i64 ((x : Int) * 524288) ((x : Int) / 8192) = ((x * 524288 ||| x / 8192 : Nat) : Int) := by
    have := or62 (x * 524288) (x / 8192) (by omega) (by omega)
    rw [← this]; simp
  have hlt : x * 524288 ||| x / 8192 < 4611686018427387904 := by
    have h4 : x * 524288 < 2 ^ 62 := by omega
    have h5 : x / 8192 < 2 ^ 62 := by omega
    exact Nat.or_lt_two_pow h4 h5
  have hm : x % 4294967296 = x := Nat.mod_eq_of_lt hx
  have hm2 : (x : Int) % 4294967296 = x := by omega
  have HLT := Aside0.mk hlt
  clear hlt
  go_enter Try.func49, Try.ntmps49
  go_wp2
  go_quiet ((first | (go_at_call 48; exact Calls.quiet_of_same (word_any x _ (by omega))) | (go_at_call 48; exact Calls.quiet_of_same (word_any (x * 524288 ||| x / 8192) _ HLT.out))))
  go_wp2
  go_ret
  exact ⟨by first | exact congrArg (fun z => Ending.returned (Value.int .i64 z)) (congrArg (Nat.cast (R := Int)) (rot_or62 x 13 524288 8192 hx (by decide) (by decide) (by decide))) | (rw [← rot_or62 x 13 524288 8192 hx (by decide) (by decide) (by decide)]; simp), ⟨⟨_, rfl⟩⟩⟩
theorem rright_17 (x : Nat) (w : World) (hx : x < 4294967296) : Calls Try.prog 49 #[.int .i64 x, .int .i64 17] w fun e w' => e = .returned (.int .i64 (rotr x 17 : Nat)) ∧ Drawn0 w w' := by
  have h1 : bits .and .i64 15 31 = 15 := by kernel_rfl
  have h3 : bits .or .i64 ((x : Int) * 32768) ((x : Int) / 131072) = ((x * 32768 ||| x / 131072 : Nat) : Int) := by
    have := or62 (x * 32768) (x / 131072) (by omega) (by omega)
    rw [← this]; simp
  have hlt : x * 32768 ||| x / 131072 < 4611686018427387904 := by
    have h4 : x * 32768 < 2 ^ 62 := by omega
    have h5 : x / 131072 < 2 ^ 62 := by omega
    exact Nat.or_lt_two_pow h4 h5
  have hm : x % 4294967296 = x := Nat.mod_eq_of_lt hx
  have hm2 : (x : Int) % 4294967296 = x := by omega
  have HLT := Aside0.mk hlt
  clear hlt
  go_enter Try.func49, Try.ntmps49
  go_wp2
  go_quiet ((first | (go_at_call 48; exact Calls.quiet_of_same (word_any x _ (by omega))) | (go_at_call 48; exact Calls.quiet_of_same (word_any (x * 32768 ||| x / 131072) _ HLT.out))))
  go_wp2
  go_ret
  exact ⟨by first | exact congrArg (fun z => Ending.returned (Value.int .i64 z)) (congrArg (Nat.cast (R := Int)) (rot_or62 x 17 32768 131072 hx (by decide) (by decide) (by decide))) | (rw [← rot_or62 x 17 32768 131072 hx (by decide) (by decide) (by decide)]; simp), ⟨⟨_, rfl⟩⟩⟩
theorem rright_18 (x : Nat) (w : World) (hx : x < 4294967296) : Calls Try.prog 49 #[.int .i64 x, .int .i64 18] w fun e w' => e = .returned (.int .i64 (rotr x 18 : Nat)) ∧ Drawn0 w w' := by
  have h1 : bits .and .i64 14 31 = 14 := by kernel_rfl
  have h3 : bits .or .i64 ((x : Int) * 16384) ((x : Int) / 262144) = ((x * 16384 ||| x / 262144 : Nat) : Int) := by
    have := or62 (x * 16384) (x / 262144) (by omega) (by omega)
    rw [← this]; simp
  have hlt : x * 16384 ||| x / 262144 < 4611686018427387904 := by
    have h4 : x * 16384 < 2 ^ 62 := by omega
    have h5 : x / 262144 < 2 ^ 62 := by omega
    exact Nat.or_lt_two_pow h4 h5
  have hm : x % 4294967296 = x := Nat.mod_eq_of_lt hx
  have hm2 : (x : Int) % 4294967296 = x := by omega
  have HLT := Aside0.mk hlt
  clear hlt
  go_enter Try.func49, Try.ntmps49
  go_wp2
  go_quiet ((first | (go_at_call 48; exact Calls.quiet_of_same (word_any x _ (by omega))) | (go_at_call 48; exact Calls.quiet_of_same (word_any (x * 16384 ||| x / 262144) _ HLT.out))))
  go_wp2
  go_ret
  exact ⟨by first | exact congrArg (fun z => Ending.returned (Value.int .i64 z)) (congrArg (Nat.cast (R := Int)) (rot_or62 x 18 16384 262144 hx (by decide) (by decide) (by decide))) | (rw [← rot_or62 x 18 16384 262144 hx (by decide) (by decide) (by decide)]; simp), ⟨⟨_, rfl⟩⟩⟩
theorem rright_19 (x : Nat) (w : World) (hx : x < 4294967296) : Calls Try.prog 49 #[.int .i64 x, .int .i64 19] w fun e w' => e = .returned (.int .i64 (rotr x 19 : Nat)) ∧ Drawn0 w w' := by
  have h1 : bits .and .i64 13 31 = 13 := by kernel_rfl
  have h3 : bits .or .i64 ((x : Int) * 8192) ((x : Int) / 524288) = ((x * 8192 ||| x / 524288 : Nat) : Int) := by
    have := or62 (x * 8192) (x / 524288) (by omega) (by omega)
    rw [← this]; simp
  have hlt : x * 8192 ||| x / 524288 < 4611686018427387904 := by
    have h4 : x * 8192 < 2 ^ 62 := by omega
    have h5 : x / 524288 < 2 ^ 62 := by omega
    exact Nat.or_lt_two_pow h4 h5
  have hm : x % 4294967296 = x := Nat.mod_eq_of_lt hx
  have hm2 : (x : Int) % 4294967296 = x := by omega
  have HLT := Aside0.mk hlt
  clear hlt
  go_enter Try.func49, Try.ntmps49
  go_wp2
  go_quiet ((first | (go_at_call 48; exact Calls.quiet_of_same (word_any x _ (by omega))) | (go_at_call 48; exact Calls.quiet_of_same (word_any (x * 8192 ||| x / 524288) _ HLT.out))))
  go_wp2
  go_ret
  exact ⟨by first | exact congrArg (fun z => Ending.returned (Value.int .i64 z)) (congrArg (Nat.cast (R := Int)) (rot_or62 x 19 8192 524288 hx (by decide) (by decide) (by decide))) | (rw [← rot_or62 x 19 8192 524288 hx (by decide) (by decide) (by decide)]; simp), ⟨⟨_, rfl⟩⟩⟩
theorem rright_22 (x : Nat) (w : World) (hx : x < 4294967296) : Calls Try.prog 49 #[.int .i64 x, .int .i64 22] w fun e w' => e = .returned (.int .i64 (rotr x 22 : Nat)) ∧ Drawn0 w w' := by
  have h1 : bits .and .i64 10 31 = 10 := by kernel_rfl
  have h3 : bits .or .i64 ((x : Int) * 1024) ((x : Int) / 4194304) = ((x * 1024 ||| x / 4194304 : Nat) : Int) := by
    have := or62 (x * 1024) (x / 4194304) (by omega) (by omega)
    rw [← this]; simp
  have hlt : x * 1024 ||| x / 4194304 < 4611686018427387904 := by
    have h4 : x * 1024 < 2 ^ 62 := by omega
    have h5 : x / 4194304 < 2 ^ 62 := by omega
    exact Nat.or_lt_two_pow h4 h5
  have hm : x % 4294967296 = x := Nat.mod_eq_of_lt hx
  have hm2 : (x : Int) % 4294967296 = x := by omega
  have HLT := Aside0.mk hlt
  clear hlt
  go_enter Try.func49, Try.ntmps49
  go_wp2
  go_quiet ((first | (go_at_call 48; exact Calls.quiet_of_same (word_any x _ (by omega))) | (go_at_call 48; exact Calls.quiet_of_same (word_any (x * 1024 ||| x / 4194304) _ HLT.out))))
  go_wp2
  go_ret
  exact ⟨by first | exact congrArg (fun z => Ending.returned (Value.int .i64 z)) (congrArg (Nat.cast (R := Int)) (rot_or62 x 22 1024 4194304 hx (by decide) (by decide) (by decide))) | (rw [← rot_or62 x 22 1024 4194304 hx (by decide) (by decide) (by decide)]; simp), ⟨⟨_, rfl⟩⟩⟩
theorem rright_25 (x : Nat) (w : World) (hx : x < 4294967296) : Calls Try.prog 49 #[.int .i64 x, .int .i64 25] w fun e w' => e = .returned (.int .i64 (rotr x 25 : Nat)) ∧ Drawn0 w w' := by
  have h1 : bits .and .i64 7 31 = 7 := by kernel_rfl
  have h3 : bits .or .i64 ((x : Int) * 128) ((x : Int) / 33554432) = ((x * 128 ||| x / 33554432 : Nat) : Int) := by
    have := or62 (x * 128) (x / 33554432) (by omega) (by omega)
    rw [← this]; simp
  have hlt : x * 128 ||| x / 33554432 < 4611686018427387904 := by
    have h4 : x * 128 < 2 ^ 62 := by omega
    have h5 : x / 33554432 < 2 ^ 62 := by omega
    exact Nat.or_lt_two_pow h4 h5
  have hm : x % 4294967296 = x := Nat.mod_eq_of_lt hx
  have hm2 : (x : Int) % 4294967296 = x := by omega
  have HLT := Aside0.mk hlt
  clear hlt
  go_enter Try.func49, Try.ntmps49
  go_wp2
  go_quiet ((first | (go_at_call 48; exact Calls.quiet_of_same (word_any x _ (by omega))) | (go_at_call 48; exact Calls.quiet_of_same (word_any (x * 128 ||| x / 33554432) _ HLT.out))))
  go_wp2
  go_ret
  exact ⟨by first | exact congrArg (fun z => Ending.returned (Value.int .i64 z)) (congrArg (Nat.cast (R := Int)) (rot_or62 x 25 128 33554432 hx (by decide) (by decide) (by decide))) | (rw [← rot_or62 x 25 128 33554432 hx (by decide) (by decide) (by decide)]; simp), ⟨⟨_, rfl⟩⟩⟩
def rrOk (n : Int) : Bool := [2, 6, 7, 11, 13, 17, 18, 19, 22, 25].contains n
def samphireref02_right.f (a0 a1 : Int) : Option Int := if 0 ≤ a0 ∧ a0 < 4294967296 ∧ rrOk a1 = true then some ((rotr a0.toNat a1.toNat : Nat) : Int) else none
theorem samphireref02_right.at_ (x : Nat) (n : Nat) (hx : x < 4294967296) (hn : rrOk n = true) : samphireref02_right.f x n = some ((rotr x n : Nat) : Int) := by
  unfold samphireref02_right.f
  rw [if_pos ⟨by omega, by omega, hn⟩]
  simp
theorem samphireref02_right.calls (a0 : Int) (a1 : Int) (r : Int) (w : World) (h : samphireref02_right.f a0 a1 = some r) :
    Calls Try.prog 49 #[.int .i64 a0, .int .i64 a1] w fun e w' => e = .returned (.int .i64 r) ∧ Drawn0 w w' := by
  unfold samphireref02_right.f at h
  by_cases hc : 0 ≤ a0 ∧ a0 < 4294967296 ∧ rrOk a1 = true
  · rw [if_pos hc] at h
    obtain rfl := Option.some.inj h
    obtain ⟨h0, h1, h2⟩ := hc
    obtain ⟨x, rfl⟩ := Int.eq_ofNat_of_zero_le h0
    have hx : x < 4294967296 := by omega
    have h3 : a1 ∈ ([2, 6, 7, 11, 13, 17, 18, 19, 22, 25] : List Int) := by
      unfold rrOk at h2
      exact List.contains_iff_mem.1 h2
    clear h h1 h2
    simp only [List.mem_cons, List.not_mem_nil, or_false] at h3
    rw [Int.toNat_natCast]
    rcases h3 with rfl | rfl | rfl | rfl | rfl | rfl | rfl | rfl | rfl | rfl
    · exact rright_2 x w hx
    · exact rright_6 x w hx
    · exact rright_7 x w hx
    · exact rright_11 x w hx
    · exact rright_13 x w hx
    · exact rright_17 x w hx
    · exact rright_18 x w hx
    · exact rright_19 x w hx
    · exact rright_22 x w hx
    · exact rright_25 x w hx
  · rw [if_neg hc] at h
    cases h
end Go.Proofs.Ytbmpcdpcdljibaa.Pr

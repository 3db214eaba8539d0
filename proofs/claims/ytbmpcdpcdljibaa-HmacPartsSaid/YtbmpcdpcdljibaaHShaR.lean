/- sha's turn to the right, at each count that the sum uses: the world stays as it is. -/
import Derived.Test.YtbmpcdpcdljibaaHShaA
import Derived.Laws.BitsLemmas
namespace Go.Proofs.Ytbmpcdpcdljibaa.Pr
open Go.RowKit Go.Proofs.YtbmpcdpcdljibaaW.PrintWords
set_option maxHeartbeats 400000
set_option linter.unusedVariables false
set_option linter.unusedSimpArgs false
theorem wraps_u32 (n : Int) (h₀ : 0 ≤ n) (h₁ : n < 2 ^ 32) : IntKind.u32.wrap n = n := by rw [IntKind.wrap_u32]; omega
theorem or32 (a b : Nat) (ha : a < 4294967296) (hb : b < 4294967296) : bits .or .u32 (a : Int) (b : Int) = ((a ||| b : Nat) : Int) :=
  (bits_nat .u32 32 (by decide) wraps_u32 a b (by simpa using ha) (by simpa using hb)).2
theorem and32 (a b : Nat) (ha : a < 4294967296) (hb : b < 4294967296) : bits .and .u32 (a : Int) (b : Int) = ((a &&& b : Nat) : Int) :=
  (bits_nat .u32 32 (by decide) wraps_u32 a b (by simpa using ha) (by simpa using hb)).1
theorem xor32 (a b : Nat) (ha : a < 4294967296) (hb : b < 4294967296) : bits .xor .u32 (a : Int) (b : Int) = ((a ^^^ b : Nat) : Int) := by
  have ha' : a % 2 ^ 32 = a := Nat.mod_eq_of_lt (by simpa using ha)
  have hb' : b % 2 ^ 32 = b := Nat.mod_eq_of_lt (by simpa using hb)
  have hx : a ^^^ b < 2 ^ 32 := Nat.xor_lt_two_pow (by simpa using ha) (by simpa using hb)
  have e : bits .xor .u32 (a : Int) (b : Int) = IntKind.u32.wrap ((a ^^^ b : Nat) : Int) := by
    simp only [bits, BitVec.ofInt_natCast, BitVec.toNat_xor, BitVec.toNat_ofNat]
    rw [show (IntKind.u32.bits) = 32 from rfl, ha', hb']
  rw [e]
  exact wraps_u32 _ (Int.natCast_nonneg _) (by exact_mod_cast hx)
theorem rotr_lt (x n : Nat) (hx : x < 4294967296) : rotr x n < 4294967296 := by
  unfold rotr
  have h1 : x >>> n < 2 ^ 32 := by rw [Nat.shiftRight_eq_div_pow]; exact Nat.lt_of_le_of_lt (Nat.div_le_self _ _) (by simpa using hx)
  exact Nat.or_lt_two_pow h1 (Nat.mod_lt _ (by decide))
theorem rot_or (x n p q : Nat) (hx : x < 4294967296) (hq : 2 ^ n = q) (hp : 2 ^ (32 - n) = p) : bits .or .u32 ((x : Int) * (p : Int) % 4294967296) ((x : Int) / (q : Int)) = ((rotr x n : Nat) : Int) := by
  have e1 : ((x : Int) * (p : Int) % 4294967296) = ((x * p % 4294967296 : Nat) : Int) := by simp
  have e2 : ((x : Int) / (q : Int)) = ((x / q : Nat) : Int) := by simp
  rw [e1, e2, or32 _ _ (Nat.mod_lt _ (by decide)) (Nat.lt_of_le_of_lt (Nat.div_le_self _ _) hx)]
  unfold rotr
  rw [Nat.shiftRight_eq_div_pow, Nat.shiftLeft_eq, hq, hp, Nat.or_comm]
theorem right_2 (x : Nat) (w : World) (hx : x < 4294967296) : Calls Try.prog 57 #[.int .u32 x, .int .i64 2] w fun e w' => e = .returned (.int .u32 (rotr x 2 : Nat)) ∧ w' = w := by
  have h1 : bits .and .u64 (IntKind.u64.wrap (-2)) 31 = 30 := by kernel_rfl
  have h2 : IntKind.u64.wrap (32 - 30) = 2 := by kernel_rfl
  go_enter Try.func57, Try.ntmps57
  go_wp2
  go_ret
  exact ⟨congrArg (fun z => Ending.returned (Value.int .u32 z)) (rot_or x 2 1073741824 4 hx (by decide) (by decide)), rfl⟩
theorem right_6 (x : Nat) (w : World) (hx : x < 4294967296) : Calls Try.prog 57 #[.int .u32 x, .int .i64 6] w fun e w' => e = .returned (.int .u32 (rotr x 6 : Nat)) ∧ w' = w := by
  have h1 : bits .and .u64 (IntKind.u64.wrap (-6)) 31 = 26 := by kernel_rfl
  have h2 : IntKind.u64.wrap (32 - 26) = 6 := by kernel_rfl
  go_enter Try.func57, Try.ntmps57
  go_wp2
  go_ret
  exact ⟨congrArg (fun z => Ending.returned (Value.int .u32 z)) (rot_or x 6 67108864 64 hx (by decide) (by decide)), rfl⟩
theorem right_7 (x : Nat) (w : World) (hx : x < 4294967296) : Calls Try.prog 57 #[.int .u32 x, .int .i64 7] w fun e w' => e = .returned (.int .u32 (rotr x 7 : Nat)) ∧ w' = w := by
  have h1 : bits .and .u64 (IntKind.u64.wrap (-7)) 31 = 25 := by kernel_rfl
  have h2 : IntKind.u64.wrap (32 - 25) = 7 := by kernel_rfl
  go_enter Try.func57, Try.ntmps57
  go_wp2
  go_ret
  exact ⟨congrArg (fun z => Ending.returned (Value.int .u32 z)) (rot_or x 7 33554432 128 hx (by decide) (by decide)), rfl⟩
theorem right_11 (x : Nat) (w : World) (hx : x < 4294967296) : Calls Try.prog 57 #[.int .u32 x, .int .i64 11] w fun e w' => e = .returned (.int .u32 (rotr x 11 : Nat)) ∧ w' = w := by
  have h1 : bits .and .u64 (IntKind.u64.wrap (-11)) 31 = 21 := by kernel_rfl
  have h2 : IntKind.u64.wrap (32 - 21) = 11 := by kernel_rfl
  go_enter Try.func57, Try.ntmps57
  go_wp2
  go_ret
  exact ⟨congrArg (fun z => Ending.returned (Value.int .u32 z)) (rot_or x 11 2097152 2048 hx (by decide) (by decide)), rfl⟩
theorem right_13 (x : Nat) (w : World) (hx : x < 4294967296) : Calls Try.prog 57 #[.int .u32 x, .int .i64 13] w fun e w' => e = .returned (.int .u32 (rotr x 13 : Nat)) ∧ w' = w := by
  have h1 : bits .and .u64 (IntKind.u64.wrap (-13)) 31 = 19 := by kernel_rfl
  have h2 : IntKind.u64.wrap (32 - 19) = 13 := by kernel_rfl
  go_enter Try.func57, Try.ntmps57
  go_wp2
  go_ret
  exact ⟨congrArg (fun z => Ending.returned (Value.int .u32 z)) (rot_or x 13 524288 8192 hx (by decide) (by decide)), rfl⟩
theorem right_17 (x : Nat) (w : World) (hx : x < 4294967296) : Calls Try.prog 57 #[.int .u32 x, .int .i64 17] w fun e w' => e = .returned (.int .u32 (rotr x 17 : Nat)) ∧ w' = w := by
  have h1 : bits .and .u64 (IntKind.u64.wrap (-17)) 31 = 15 := by kernel_rfl
  have h2 : IntKind.u64.wrap (32 - 15) = 17 := by kernel_rfl
  go_enter Try.func57, Try.ntmps57
  go_wp2
  go_ret
  exact ⟨congrArg (fun z => Ending.returned (Value.int .u32 z)) (rot_or x 17 32768 131072 hx (by decide) (by decide)), rfl⟩
theorem right_18 (x : Nat) (w : World) (hx : x < 4294967296) : Calls Try.prog 57 #[.int .u32 x, .int .i64 18] w fun e w' => e = .returned (.int .u32 (rotr x 18 : Nat)) ∧ w' = w := by
  have h1 : bits .and .u64 (IntKind.u64.wrap (-18)) 31 = 14 := by kernel_rfl
  have h2 : IntKind.u64.wrap (32 - 14) = 18 := by kernel_rfl
  go_enter Try.func57, Try.ntmps57
  go_wp2
  go_ret
  exact ⟨congrArg (fun z => Ending.returned (Value.int .u32 z)) (rot_or x 18 16384 262144 hx (by decide) (by decide)), rfl⟩
theorem right_19 (x : Nat) (w : World) (hx : x < 4294967296) : Calls Try.prog 57 #[.int .u32 x, .int .i64 19] w fun e w' => e = .returned (.int .u32 (rotr x 19 : Nat)) ∧ w' = w := by
  have h1 : bits .and .u64 (IntKind.u64.wrap (-19)) 31 = 13 := by kernel_rfl
  have h2 : IntKind.u64.wrap (32 - 13) = 19 := by kernel_rfl
  go_enter Try.func57, Try.ntmps57
  go_wp2
  go_ret
  exact ⟨congrArg (fun z => Ending.returned (Value.int .u32 z)) (rot_or x 19 8192 524288 hx (by decide) (by decide)), rfl⟩
theorem right_22 (x : Nat) (w : World) (hx : x < 4294967296) : Calls Try.prog 57 #[.int .u32 x, .int .i64 22] w fun e w' => e = .returned (.int .u32 (rotr x 22 : Nat)) ∧ w' = w := by
  have h1 : bits .and .u64 (IntKind.u64.wrap (-22)) 31 = 10 := by kernel_rfl
  have h2 : IntKind.u64.wrap (32 - 10) = 22 := by kernel_rfl
  go_enter Try.func57, Try.ntmps57
  go_wp2
  go_ret
  exact ⟨congrArg (fun z => Ending.returned (Value.int .u32 z)) (rot_or x 22 1024 4194304 hx (by decide) (by decide)), rfl⟩
theorem right_25 (x : Nat) (w : World) (hx : x < 4294967296) : Calls Try.prog 57 #[.int .u32 x, .int .i64 25] w fun e w' => e = .returned (.int .u32 (rotr x 25 : Nat)) ∧ w' = w := by
  have h1 : bits .and .u64 (IntKind.u64.wrap (-25)) 31 = 7 := by kernel_rfl
  have h2 : IntKind.u64.wrap (32 - 7) = 25 := by kernel_rfl
  go_enter Try.func57, Try.ntmps57
  go_wp2
  go_ret
  exact ⟨congrArg (fun z => Ending.returned (Value.int .u32 z)) (rot_or x 25 128 33554432 hx (by decide) (by decide)), rfl⟩
end Go.Proofs.Ytbmpcdpcdljibaa.Pr

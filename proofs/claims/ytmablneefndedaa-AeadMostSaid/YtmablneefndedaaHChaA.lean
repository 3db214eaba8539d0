/- chacha's words in plain Lean; what both sides' rotations and the program's quarter round answer. -/
import Derived.Test.YtmablneefndedaaHShaA
import Derived.Test.YtmablneefndedaaPrxf104
import Derived.Test.YtmablneefndedaaPrxf114
namespace Go.Proofs.Ytmablneefndedaa.Pr
open Go.RowKit Go.Proofs.YtmablneefndedaaW.PrintWords
set_option maxHeartbeats 1000000
set_option linter.unusedVariables false
set_option linter.unusedSimpArgs false
def qa1 (a b : Nat) : Nat := (a + b) % 4294967296
def qd1 (a b d : Nat) : Nat := rotr (d ^^^ qa1 a b) 16
def qc1 (a b c d : Nat) : Nat := (c + qd1 a b d) % 4294967296
def qb1 (a b c d : Nat) : Nat := rotr (b ^^^ qc1 a b c d) 20
def qa2 (a b c d : Nat) : Nat := (qa1 a b + qb1 a b c d) % 4294967296
def qd2 (a b c d : Nat) : Nat := rotr (qd1 a b d ^^^ qa2 a b c d) 24
def qc2 (a b c d : Nat) : Nat := (qc1 a b c d + qd2 a b c d) % 4294967296
def qb2 (a b c d : Nat) : Nat := rotr (qb1 a b c d ^^^ qc2 a b c d) 25
theorem xlt32 {a b : Nat} (ha : a < 4294967296) (hb : b < 4294967296) : a ^^^ b < 4294967296 := Nat.xor_lt_two_pow (n := 32) ha hb
theorem left_16 (x : Nat) (hx : x < 4294967296) : bits_RotateLeft32.f x 16 = some ((rotr x 16 : Nat) : Int) := by
  unfold bits_RotateLeft32.f
  rw [show Go.bits .and .u64 (IntKind.u64.wrap 16) 31 = 16 by decide +kernel, if_pos (by decide), show IntKind.u64.wrap (32 - 16) = 16 by decide +kernel, if_pos (by decide)]
  rw [show shl .u32 (x : Int) 16 = (x : Int) * ((65536 : Nat) : Int) % 4294967296 by unfold shl; rw [IntKind.wrap_u32]; rfl, show shr .u32 (x : Int) 16 = (x : Int) / ((65536 : Nat) : Int) from rfl, rot_or x 16 65536 65536 hx rfl rfl]
theorem left_12 (x : Nat) (hx : x < 4294967296) : bits_RotateLeft32.f x 12 = some ((rotr x 20 : Nat) : Int) := by
  unfold bits_RotateLeft32.f
  rw [show Go.bits .and .u64 (IntKind.u64.wrap 12) 31 = 12 by decide +kernel, if_pos (by decide), show IntKind.u64.wrap (32 - 12) = 20 by decide +kernel, if_pos (by decide)]
  rw [show shl .u32 (x : Int) 12 = (x : Int) * ((4096 : Nat) : Int) % 4294967296 by unfold shl; rw [IntKind.wrap_u32]; rfl, show shr .u32 (x : Int) 20 = (x : Int) / ((1048576 : Nat) : Int) from rfl, rot_or x 20 4096 1048576 hx rfl rfl]
theorem left_8 (x : Nat) (hx : x < 4294967296) : bits_RotateLeft32.f x 8 = some ((rotr x 24 : Nat) : Int) := by
  unfold bits_RotateLeft32.f
  rw [show Go.bits .and .u64 (IntKind.u64.wrap 8) 31 = 8 by decide +kernel, if_pos (by decide), show IntKind.u64.wrap (32 - 8) = 24 by decide +kernel, if_pos (by decide)]
  rw [show shl .u32 (x : Int) 8 = (x : Int) * ((256 : Nat) : Int) % 4294967296 by unfold shl; rw [IntKind.wrap_u32]; rfl, show shr .u32 (x : Int) 24 = (x : Int) / ((16777216 : Nat) : Int) from rfl, rot_or x 24 256 16777216 hx rfl rfl]
theorem left_7 (x : Nat) (hx : x < 4294967296) : bits_RotateLeft32.f x 7 = some ((rotr x 25 : Nat) : Int) := by
  unfold bits_RotateLeft32.f
  rw [show Go.bits .and .u64 (IntKind.u64.wrap 7) 31 = 7 by decide +kernel, if_pos (by decide), show IntKind.u64.wrap (32 - 7) = 25 by decide +kernel, if_pos (by decide)]
  rw [show shl .u32 (x : Int) 7 = (x : Int) * ((128 : Nat) : Int) % 4294967296 by unfold shl; rw [IntKind.wrap_u32]; rfl, show shr .u32 (x : Int) 25 = (x : Int) / ((33554432 : Nat) : Int) from rfl, rot_or x 25 128 33554432 hx rfl rfl]
theorem qbounds (a b c d : Nat) (ha : a < 4294967296) (hb : b < 4294967296) (hc : c < 4294967296) (hd : d < 4294967296) :
    qa1 a b < 4294967296 ∧ qd1 a b d < 4294967296 ∧ qc1 a b c d < 4294967296 ∧ qb1 a b c d < 4294967296 ∧ qa2 a b c d < 4294967296 ∧ qd2 a b c d < 4294967296 ∧ qc2 a b c d < 4294967296 ∧ qb2 a b c d < 4294967296 := by
  have hm : ∀ n : Nat, n % 4294967296 < 4294967296 := fun n => Nat.mod_lt _ (by decide)
  have hr : ∀ x n, x < 4294967296 → rotr x n < 4294967296 := fun x n h => rotr_lt x n h
  have k1 : qa1 a b < 4294967296 := hm _
  have k2 : qd1 a b d < 4294967296 := hr _ _ (xlt32 hd k1)
  have k3 : qc1 a b c d < 4294967296 := hm _
  have k4 : qb1 a b c d < 4294967296 := hr _ _ (xlt32 hb k3)
  have k5 : qa2 a b c d < 4294967296 := hm _
  have k6 : qd2 a b c d < 4294967296 := hr _ _ (xlt32 k2 k5)
  have k7 : qc2 a b c d < 4294967296 := hm _
  exact ⟨k1, k2, k3, k4, k5, k6, k7, hr _ _ (xlt32 k4 k7)⟩
set_option maxRecDepth 100000 in
theorem quarter_calls (a b c d : Nat) (w : World) (ha : a < 4294967296) (hb : b < 4294967296) (hc : c < 4294967296) (hd : d < 4294967296) :
    Calls Try.prog 75 #[.int .u32 a, .int .u32 b, .int .u32 c, .int .u32 d] w fun e w' => e = .returned (.tuple #[.int .u32 (qa2 a b c d : Nat), .int .u32 (qb2 a b c d : Nat), .int .u32 (qc2 a b c d : Nat), .int .u32 (qd2 a b c d : Nat)]) ∧ ∃ n, w' = w.drewN n := by
  obtain ⟨k1, k2, k3, k4, k5, k6, k7, k8⟩ := qbounds a b c d ha hb hc hd
  have e1 : ((a : Int) + b) % 4294967296 = ((qa1 a b : Nat) : Int) := by simp [qa1]
  have e2 : ((c : Int) + ((qd1 a b d : Nat) : Int)) % 4294967296 = ((qc1 a b c d : Nat) : Int) := by simp [qc1]
  have e3 : ((a : Int) + b + ((qb1 a b c d : Nat) : Int)) % 4294967296 = ((qa2 a b c d : Nat) : Int) := by simp [qa2, qa1]
  have e4 : ((c : Int) + ((qd1 a b d : Nat) : Int) + ((qd2 a b c d : Nat) : Int)) % 4294967296 = ((qc2 a b c d : Nat) : Int) := by simp [qc2, qc1]
  have c1 := Aside0.mk (show bits_RotateLeft32.f (Go.bits .xor .u32 d (((a : Int) + b) % 4294967296)) 16 = some ((qd1 a b d : Nat) : Int) by
    rw [e1, xor32 d _ hd k1]; exact left_16 _ (xlt32 hd k1))
  have c2 := Aside0.mk (show bits_RotateLeft32.f (Go.bits .xor .u32 b (((c : Int) + ((qd1 a b d : Nat) : Int)) % 4294967296)) 12 = some ((qb1 a b c d : Nat) : Int) by
    rw [e2, xor32 b _ hb k3]; exact left_12 _ (xlt32 hb k3))
  have c3 := Aside0.mk (show bits_RotateLeft32.f (Go.bits .xor .u32 ((qd1 a b d : Nat) : Int) (((a : Int) + b + ((qb1 a b c d : Nat) : Int)) % 4294967296)) 8 = some ((qd2 a b c d : Nat) : Int) by
    rw [e3, xor32 _ _ k2 k5]; exact left_8 _ (xlt32 k2 k5))
  have c4 := Aside0.mk (show bits_RotateLeft32.f (Go.bits .xor .u32 ((qb1 a b c d : Nat) : Int) (((c : Int) + ((qd1 a b d : Nat) : Int) + ((qd2 a b c d : Nat) : Int)) % 4294967296)) 7 = some ((qb2 a b c d : Nat) : Int) by
    rw [e4, xor32 _ _ k4 k7]; exact left_7 _ (xlt32 k4 k7))
  have E1 := Aside0.mk e1
  have E2 := Aside0.mk e2
  have E3 := Aside0.mk e3
  have E4 := Aside0.mk e4
  clear e1 e2 e3 e4 k1 k2 k3 k4 k5 k6 k7 k8 ha hb hc hd
  generalize qd1 a b d = d1 at *
  generalize qb1 a b c d = b1 at *
  generalize qd2 a b c d = d2 at *
  generalize qb2 a b c d = b2 at *
  go_enter Try.func75, Try.ntmps75
  go_wp2_with (fail)
  refine (bits_RotateLeft32.calls _ 16 _ _ c1.out).mono ?_
  rintro e w1 ⟨rfl, ⟨n1, rfl⟩⟩
  go_wp2_with (fail)
  refine (bits_RotateLeft32.calls _ 12 _ _ c2.out).mono ?_
  rintro e w1 ⟨rfl, ⟨n2, rfl⟩⟩
  go_wp2_with (fail)
  refine (bits_RotateLeft32.calls _ 8 _ _ c3.out).mono ?_
  rintro e w1 ⟨rfl, ⟨n3, rfl⟩⟩
  go_wp2_with (fail)
  refine (bits_RotateLeft32.calls _ 7 _ _ c4.out).mono ?_
  rintro e w1 ⟨rfl, ⟨n4, rfl⟩⟩
  go_wp2_with (fail)
  refine bodyPost_ret (results_list (rs := [.tmp 8, .tmp 9, .tmp 10, .tmp 11]) rfl (by simp) (.tmp (.tmp (.tmp (.tmp .nil))))) rfl ?_
  refine ⟨?_, n1 + n2 + n3 + n4, ?_⟩
  · rw [← E4.out, ← E3.out]
    rfl
  · simp only [World.drewN_drewN]
theorem rword (a : Nat) (h : a < 4611686018427387904) : samphireref01_Word.f (a : Int) = some ((a % 4294967296 : Nat) : Int) := by
  unfold samphireref01_Word.f
  rw [mask62 a h]
theorem wr62 (x : Int) (h0 : 0 ≤ x) (h1 : x < 4611686018427387904) : wrap64 x = x := by unfold wrap64; omega
set_option maxRecDepth 100000 in
theorem rot_16 (x : Nat) (w : World) (hx : x < 4294967296) : Calls Try.prog 122 #[.int .i64 x, .int .i64 16] w fun e w' => e = .returned (.int .i64 (rotr x 16 : Nat)) ∧ ∃ n, w' = w.drewN n := by
  have h1 : bits .and .i64 16 31 = 16 := by kernel_rfl
  have h3 : bits .or .i64 ((x : Int) * 65536) ((x : Int) / 65536) = ((x * 65536 ||| x / 65536 : Nat) : Int) := by
    have := or62 (x * 65536) (x / 65536) (by omega) (by omega)
    rw [← this]; simp
  have hlt : x * 65536 ||| x / 65536 < 4611686018427387904 := by
    have h4 : x * 65536 < 2 ^ 62 := by omega
    have h5 : x / 65536 < 2 ^ 62 := by omega
    exact Nat.or_lt_two_pow h4 h5
  have hm : x % 4294967296 = x := Nat.mod_eq_of_lt hx
  have hm2 : (x : Int) % 4294967296 = x := by omega
  have HLT := Aside0.mk hlt
  clear hlt
  go_enter Try.func122, Try.ntmps122
  go_wp2
  go_quiet ((first | (go_at_call 114; exact Calls.quiet_of_same (word_any x _ (by omega))) | (go_at_call 114; exact Calls.quiet_of_same (word_any (x * 65536 ||| x / 65536) _ HLT.out))))
  go_wp2
  go_ret
  exact ⟨by first | exact congrArg (fun z => Ending.returned (Value.int .i64 z)) (congrArg (Nat.cast (R := Int)) (rot_or62 x 16 65536 65536 hx (by decide) (by decide) (by decide))) | (rw [← rot_or62 x 16 65536 65536 hx (by decide) (by decide) (by decide)]; simp), by first | exact ⟨_, rfl⟩ | exact ⟨_, World.drewN_drewN _ _ _⟩⟩
set_option maxRecDepth 100000 in
theorem rot_12 (x : Nat) (w : World) (hx : x < 4294967296) : Calls Try.prog 122 #[.int .i64 x, .int .i64 12] w fun e w' => e = .returned (.int .i64 (rotr x 20 : Nat)) ∧ ∃ n, w' = w.drewN n := by
  have h1 : bits .and .i64 12 31 = 12 := by kernel_rfl
  have h3 : bits .or .i64 ((x : Int) * 4096) ((x : Int) / 1048576) = ((x * 4096 ||| x / 1048576 : Nat) : Int) := by
    have := or62 (x * 4096) (x / 1048576) (by omega) (by omega)
    rw [← this]; simp
  have hlt : x * 4096 ||| x / 1048576 < 4611686018427387904 := by
    have h4 : x * 4096 < 2 ^ 62 := by omega
    have h5 : x / 1048576 < 2 ^ 62 := by omega
    exact Nat.or_lt_two_pow h4 h5
  have hm : x % 4294967296 = x := Nat.mod_eq_of_lt hx
  have hm2 : (x : Int) % 4294967296 = x := by omega
  have HLT := Aside0.mk hlt
  clear hlt
  go_enter Try.func122, Try.ntmps122
  go_wp2
  go_quiet ((first | (go_at_call 114; exact Calls.quiet_of_same (word_any x _ (by omega))) | (go_at_call 114; exact Calls.quiet_of_same (word_any (x * 4096 ||| x / 1048576) _ HLT.out))))
  go_wp2
  go_ret
  exact ⟨by first | exact congrArg (fun z => Ending.returned (Value.int .i64 z)) (congrArg (Nat.cast (R := Int)) (rot_or62 x 20 4096 1048576 hx (by decide) (by decide) (by decide))) | (rw [← rot_or62 x 20 4096 1048576 hx (by decide) (by decide) (by decide)]; simp), by first | exact ⟨_, rfl⟩ | exact ⟨_, World.drewN_drewN _ _ _⟩⟩
set_option maxRecDepth 100000 in
theorem rot_8 (x : Nat) (w : World) (hx : x < 4294967296) : Calls Try.prog 122 #[.int .i64 x, .int .i64 8] w fun e w' => e = .returned (.int .i64 (rotr x 24 : Nat)) ∧ ∃ n, w' = w.drewN n := by
  have h1 : bits .and .i64 8 31 = 8 := by kernel_rfl
  have h3 : bits .or .i64 ((x : Int) * 256) ((x : Int) / 16777216) = ((x * 256 ||| x / 16777216 : Nat) : Int) := by
    have := or62 (x * 256) (x / 16777216) (by omega) (by omega)
    rw [← this]; simp
  have hlt : x * 256 ||| x / 16777216 < 4611686018427387904 := by
    have h4 : x * 256 < 2 ^ 62 := by omega
    have h5 : x / 16777216 < 2 ^ 62 := by omega
    exact Nat.or_lt_two_pow h4 h5
  have hm : x % 4294967296 = x := Nat.mod_eq_of_lt hx
  have hm2 : (x : Int) % 4294967296 = x := by omega
  have HLT := Aside0.mk hlt
  clear hlt
  go_enter Try.func122, Try.ntmps122
  go_wp2
  go_quiet ((first | (go_at_call 114; exact Calls.quiet_of_same (word_any x _ (by omega))) | (go_at_call 114; exact Calls.quiet_of_same (word_any (x * 256 ||| x / 16777216) _ HLT.out))))
  go_wp2
  go_ret
  exact ⟨by first | exact congrArg (fun z => Ending.returned (Value.int .i64 z)) (congrArg (Nat.cast (R := Int)) (rot_or62 x 24 256 16777216 hx (by decide) (by decide) (by decide))) | (rw [← rot_or62 x 24 256 16777216 hx (by decide) (by decide) (by decide)]; simp), by first | exact ⟨_, rfl⟩ | exact ⟨_, World.drewN_drewN _ _ _⟩⟩
set_option maxRecDepth 100000 in
theorem rot_7 (x : Nat) (w : World) (hx : x < 4294967296) : Calls Try.prog 122 #[.int .i64 x, .int .i64 7] w fun e w' => e = .returned (.int .i64 (rotr x 25 : Nat)) ∧ ∃ n, w' = w.drewN n := by
  have h1 : bits .and .i64 7 31 = 7 := by kernel_rfl
  have h3 : bits .or .i64 ((x : Int) * 128) ((x : Int) / 33554432) = ((x * 128 ||| x / 33554432 : Nat) : Int) := by
    have := or62 (x * 128) (x / 33554432) (by omega) (by omega)
    rw [← this]; simp
  have hlt : x * 128 ||| x / 33554432 < 4611686018427387904 := by
    have h4 : x * 128 < 2 ^ 62 := by omega
    have h5 : x / 33554432 < 2 ^ 62 := by omega
    exact Nat.or_lt_two_pow h4 h5
  have hm : x % 4294967296 = x := Nat.mod_eq_of_lt hx
  have hm2 : (x : Int) % 4294967296 = x := by omega
  have HLT := Aside0.mk hlt
  clear hlt
  go_enter Try.func122, Try.ntmps122
  go_wp2
  go_quiet ((first | (go_at_call 114; exact Calls.quiet_of_same (word_any x _ (by omega))) | (go_at_call 114; exact Calls.quiet_of_same (word_any (x * 128 ||| x / 33554432) _ HLT.out))))
  go_wp2
  go_ret
  exact ⟨by first | exact congrArg (fun z => Ending.returned (Value.int .i64 z)) (congrArg (Nat.cast (R := Int)) (rot_or62 x 25 128 33554432 hx (by decide) (by decide) (by decide))) | (rw [← rot_or62 x 25 128 33554432 hx (by decide) (by decide) (by decide)]; simp), by first | exact ⟨_, rfl⟩ | exact ⟨_, World.drewN_drewN _ _ _⟩⟩
end Go.Proofs.Ytmablneefndedaa.Pr

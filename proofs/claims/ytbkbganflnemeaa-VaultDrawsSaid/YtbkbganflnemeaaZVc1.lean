/- Joined texts (pack.py): what the statement's proof needs, part c1. No condition. -/
import Derived.Below
import Derived.Deep.Draws
import Derived.Deep.AppendLies
import Derived.Maps.AppendAt
import Derived.OwnWalk
import Derived.Laws.BytesArg
import Derived.Laws.MakeOwn
import Derived.Laws.OwnMore
import Derived.Deep.OwnRows
import Derived.Tactics
import Derived.Lib.ConvBytes
import Derived.Laws.Slices
import Derived.WalkKit
import Derived.KernelRfl
import Derived.RowKit3
import Derived.Deep.LoopGhost
import Derived.Deep.QuietTactic
import Derived.BigQuiet
import Derived.WideLaws
import Derived.Deep.DeepCutAuto
import Derived.Deep.CutBlock
import Derived.Deep.RegionHeld3
import Derived.Laws.Rows
import Derived.Lib.AppendStr
import Derived.ArgAppend
import Derived.Laws.IdiomCopy
import Derived.RowKit
import Derived.OrdersHeld
import Derived.Laws.BitsLemmas
import Derived.Laws.StructEq
import Derived.Shelf.Strings.Builder1
import Derived.Shelf.Strings.Builder2
import Derived.Shelf.Strings.OnBuilder
import Derived.Shelf.Strings.BuilderF
import Derived.Shelf.Strings.Prefix
import Derived.Shelf.Bits.Mul64
import Derived.Shelf.Strings.Repeat
import Derived.Test.YtbkbganflnemeaaProg
import Derived.Deep.RegionLaw
import Derived.StillTailTactics
import Derived.Deep.Light
import Derived.Deep.RegionHeldLaw
import Derived.Deep.DrawnRows
import Derived.IntWalk
import Derived.Deep.WholeRow
import Derived.Laws.CopyOwn
import Derived.Maps.OwnSet
import Derived.Tactics2
import Derived.Defers
import Derived.Recover
import Derived.Laws.Pointers
import Derived.Test.YtbkbganflnemeaaRows
import Derived.ProofKit
import Derived.OpenShut
import Derived.ShutString
import Derived.ChangeOld
import Derived.SizedLaws
import Derived.Test.YtbkbganflnemeaaZVa1
import Derived.Test.YtbkbganflnemeaaZVa2
set_option linter.unusedVariables false
set_option linter.unusedSimpArgs false
section
namespace Go.Proofs.Ytbkbganflnemeaa.Pr
open Go.RowKit Go.Deep Go.Maps Go.Proofs.YtbkbganflnemeaaW.PrintWords Go.Proofs.YtbkbganflnemeaaW.PrintLast Go.Proofs.YtbkbganflnemeaaW.PrintMore
set_option maxHeartbeats 4000000
theorem and_7v (n : Int) : bits .and .i64 n 7 = n % 8 := by
 have h127 : (BitVec.ofInt 64 7).toNat = 2 ^ 3 - 1 := by decide
 have key : (BitVec.ofInt 64 n &&& BitVec.ofInt 64 7).toNat = (n % ((2 ^ 64 : Nat) : Int)).toNat % 2 ^ 3 := by
  rw [BitVec.toNat_and, BitVec.toNat_ofInt, h127, Nat.and_two_pow_sub_one_eq_mod]
 show IntKind.i64.wrap ((BitVec.ofInt 64 n &&& BitVec.ofInt 64 7).toNat : Nat) = n % 8
 rw [key, IntKind.wrap_i64]
 omega
theorem and_31v (n : Int) : bits .and .i64 n 31 = n % 32 := by
 have h127 : (BitVec.ofInt 64 31).toNat = 2 ^ 5 - 1 := by decide
 have key : (BitVec.ofInt 64 n &&& BitVec.ofInt 64 31).toNat = (n % ((2 ^ 64 : Nat) : Int)).toNat % 2 ^ 5 := by
  rw [BitVec.toNat_and, BitVec.toNat_ofInt, h127, Nat.and_two_pow_sub_one_eq_mod]
 show IntKind.i64.wrap ((BitVec.ofInt 64 n &&& BitVec.ofInt 64 31).toNat : Nat) = n % 32
 rw [key, IntKind.wrap_i64]
 omega
theorem drawL_add (seed : ByteArray) (c a : Nat) : ∀ b, drawL seed c (a + b) = drawL seed c a ++ drawL seed (c + a) b
 | 0 => by simp [drawL]
 | b + 1 => by rw [← Nat.add_assoc, drawL, drawL_add seed c a b, drawL, List.append_assoc, Nat.add_assoc]
theorem draw_all (seed : ByteArray) (n m : Nat) (hm : m ≤ 31) : (drawL seed 0 ((32 * n + m + 31) / 32)).take (32 * n + m) = drawL seed 0 n ++ (drawL seed n ((m + 31) / 32)).take m := by
 rw [show (32 * n + m + 31) / 32 = n + (m + 31) / 32 by omega, drawL_add, Nat.zero_add, List.take_append, drawL_length, Nat.add_sub_cancel_left, List.take_of_length_le (by rw [drawL_length]; omega)]
theorem draw_one (seed : ByteArray) (c : Nat) : (drawL seed c ((32 + 31) / 32)).take 32 = drawL seed c 1 := List.take_of_length_le (by rw [drawL_length]; decide)
theorem draws_heavy (seed : ByteArray) (a b : Int) (h : ¬ seed.size ≤ 100) (w : World) :
  Calls Try.prog 8 #[.string seed, .int .i64 a, .int .i64 b] w fun e w' => e = .returned (.bool true) ∧ Below w.heap.size w w' := by
 have d1 : decide (100 < (seed.size : Int)) = true := decide_eq_true (by omega)
 clear h
 go_enter Try.func8, Try.ntmps8
 go_wp2_with (fail)
 refine (vawake_calls _).mono ?_
 rintro e w1 ⟨rfl, hb⟩
 go_wp2_with (fail)
 go_ret
 exact ⟨rfl, hb⟩
set_option maxRecDepth 100000 in
theorem draws_light (seed : ByteArray) (a b : Int) (h : seed.size ≤ 100) (w : World) :
  Calls Try.prog 8 #[.string seed, .int .i64 a, .int .i64 b] w fun e w' => e = .returned (.bool true) ∧ Below w.heap.size w w' := by
 have d1 : decide (100 < (seed.size : Int)) = false := decide_eq_false (by omega)
 obtain ⟨n, hn⟩ : ∃ n : Nat, bits .and .i64 a 7 = (n : Int) := ⟨(a % 8).toNat, by rw [and_7v]; omega⟩
 obtain ⟨m, hm⟩ : ∃ m : Nat, bits .and .i64 b 31 = (m : Int) := ⟨(b % 32).toNat, by rw [and_31v]; omega⟩
 have hn7 : n ≤ 7 := by rw [and_7v] at hn; omega
 have hm31 : m ≤ 31 := by rw [and_31v] at hm; omega
 have HS := Aside0.mk (show seed.size ≤ 1000000 by omega)
 clear h
 go_enter Try.func8, Try.ntmps8
 go_wp2_with (fail)
 refine (Ideal_calls seed _).mono ?_
 rintro e w1 ⟨rfl, hI, hb⟩
 have HA1 := Aside0.mk hI
 have HB1 := Aside0.mk hb
 clear hI hb
 generalize hma : w.heap.size = ma at HA1 ⊢
 have HMA := Aside0.mk hma
 clear hma
 go_wp2_with (fail)
 refine (Ideal_calls seed _).mono ?_
 rintro e w2 ⟨rfl, hI, hb⟩
 have HC1 := Aside0.mk hI
 have HA2 := Aside0.mk (HA1.out.below hb)
 have HB2 := Aside0.mk (show Below w.heap.size w w2 from below_then HB1.out HB1.out.size hb)
 have HLT := Aside0.mk (show ma + 2 < w1.heap.size from blk_lt HA1.out.box)
 clear hI hb HA1 HB1
 generalize w1.heap.size = mc at HC1 HLT ⊢
 go_wp2_with (fail)
 have e0 : (32 * (n : Int) + (m : Int)) = ((32 * n + m : Nat) : Int) := by omega
 rw [e0]
 clear e0
 refine (Drawn_ideal (ma + 2) (ma + 1) ma seed 0 0 (32 * n + m) (.map []) _ HS.out (by decide) (by omega) HA2.out).mono ?_
 rintro e w3 ⟨rfl, hI, hf⟩
 have HA3 := Aside0.mk hI
 have HC3 := Aside0.mk (HC1.out.other hf (by have := HLT.out; omega) (by have := HLT.out; omega) (by have := HLT.out; omega) (by have := HLT.out; omega) (by have := HLT.out; omega) (by have := HLT.out; omega))
 have HB3 := Aside0.mk (HB2.out.trans (hf.below (by have := HMA.out; omega) (by have := HMA.out; omega) HB2.out.size))
 have HMC := Aside0.mk (show w.heap.size ≤ mc by have := HLT.out; have := HMA.out; omega)
 rw [draw_all seed n m hm31]
 have hAL : (txt (drawL seed 0 n ++ (drawL seed n ((m + 31) / 32)).take m)).size = 32 * n + m := by rw [txt_size, List.length_append, drawL_length, List.length_take, drawL_length]; omega
 generalize hA : txt (drawL seed 0 n ++ (drawL seed n ((m + 31) / 32)).take m) = ALL at *
 have HA := Aside0.mk hA
 have HAL := Aside0.mk hAL
 have HM := Aside0.mk hm31
 have HN := Aside0.mk hn7
 clear hI hf HA2 HC1 HB2 hA hAL hm31 hn7
 generalize 0 + (32 * n + m + 31) / 32 = ca at HA3
 go_wp2_with (fail)
 go_loopw [12, 13] (fun s i wr => ∃ (k : Nat) (σ : ByteArray), k ≤ n ∧ s = .string σ ∧ i = .int .i64 k ∧ σ.size ≤ 1000 ∧ Aside0 (σ = txt (drawL seed 0 k)) ∧ Aside0 (IdealAt (mc + 2) (mc + 1) mc seed k 0 (.map []) wr) ∧ Aside0 (IdealAt (ma + 2) (ma + 1) ma seed ca 0 (.map []) wr) ∧ Aside0 (Below w.heap.size w wr)) (fun _ i _ => n - (intOf i).toNat)
 case atStart => exact ⟨0, ⟨#[]⟩, by omega, rfl, rfl, by decide, ⟨rfl⟩, HC3, HA3, HB3⟩
 case round =>
  clear HC3 HA3 HB3
  obtain ⟨k, σ, hk, rfl, rfl, hσ, HSG, HC, HI, HB⟩ := hrel
  have hk7 : k ≤ 7 := Nat.le_trans hk HN.out
  by_cases hlt : k < n
  ·have d2 : decide (k < n) = true := decide_eq_true hlt
   have hdr := Drawn_ideal (mc + 2) (mc + 1) mc seed k 0 32 (.map []) wr HS.out (by omega) (by decide) HC.out
   rw [draw_one] at hdr
   have hdr : Calls _ _ #[_, .int .i64 32] _ _ := hdr
   have hP : (txt (drawL seed k 1)).size = 32 := by rw [txt_size, drawL_length]
   have hJ : txt (drawL seed 0 k) ++ txt (drawL seed k 1) = txt (drawL seed 0 (k + 1)) := by rw [← txt_append, drawL_add, Nat.zero_add]
   have hJs : (txt (drawL seed 0 (k + 1))).size ≤ 1000 := by rw [txt_size, drawL_length]; omega
   have HJ := Aside0.mk hJ
   have HJs := Aside0.mk hJs
   clear hJ hJs
   generalize txt (drawL seed k 1) = PT at *
   have k1 : σ.size + PT.size ≤ 9223372036854775807 := by omega
   have HDR := Aside0.mk hdr
   have HLT2 := Aside0.mk hlt
   have HK7 := Aside0.mk hk7
   clear hdr hP hlt hk hk7
   go_wp2_with (go_at_call 30; refine HDR.out.mono ?_; rintro e w4 ⟨rfl, hI, hf⟩; have HC4 := Aside0.mk hI; have HI4 := Aside0.mk (HI.out.other hf (by have := HLT.out; omega) (by have := HLT.out; omega) (by have := HLT.out; omega) (by have := HLT.out; omega) (by have := HLT.out; omega) (by have := HLT.out; omega)); have HB4 := Aside0.mk (HB.out.trans (hf.below (by have := HMC.out; omega) HMC.out HB.out.size)); clear hI hf)
   have := HK7.out
   exact ⟨⟨k + 1, σ ++ PT, HLT2.out, rfl, by rw [show wrap64 ((k : Int) + 1) = ((k + 1 : Nat) : Int) by unfold wrap64; omega], by rw [HSG.out, HJ.out]; exact HJs.out, ⟨by rw [HSG.out, HJ.out]⟩, HC4, HI4, HB4⟩, by have := HLT2.out; rw [show wrap64 ((k : Int) + 1) = ((k + 1 : Nat) : Int) by unfold wrap64; omega]; simp only [intOf, Int.toNat_natCast]; omega⟩
  ·obtain rfl : k = n := by omega
   have d2 : decide (k < k) = false := decide_eq_false (by omega)
   have d2b : (k < k) = False := eq_false (by omega)
   have hdr := Drawn_ideal (mc + 2) (mc + 1) mc seed k 0 m (.map []) wr HS.out (by omega) (by have := HM.out; omega) HC.out
   have hP : (txt ((drawL seed k ((m + 31) / 32)).take m)).size ≤ 32 := by rw [txt_size, List.length_take]; have := HM.out; omega
   have hJ : σ ++ txt ((drawL seed k ((m + 31) / 32)).take m) = ALL := by rw [HSG.out, ← txt_append, HA.out]
   have HJ := Aside0.mk hJ
   clear hJ
   generalize txt ((drawL seed k ((m + 31) / 32)).take m) = PT at *
   have k1 : σ.size + PT.size ≤ 9223372036854775807 := by omega
   have HDR := Aside0.mk hdr
   have d3 : (ALL.size : Int) = 32 * (k : Int) + (m : Int) := by rw [HAL.out]; omega
   clear hdr hP hlt hk7
   have e32 : (32 : Int) = ((32 : Nat) : Int) := rfl
   go_wp2_with (fail)
   refine HDR.out.mono ?_
   rintro e w4 ⟨rfl, hI, hf⟩
   have HI4 := Aside0.mk (HI.out.other hf (by have := HLT.out; omega) (by have := HLT.out; omega) (by have := HLT.out; omega) (by have := HLT.out; omega) (by have := HLT.out; omega) (by have := HLT.out; omega))
   have HB4 := Aside0.mk (HB.out.trans (hf.below (by have := HMC.out; omega) HMC.out HB.out.size))
   clear hI hf e32 HDR HC HI HB
   have HK := Aside0.mk k1
   have hm1 : Calls _ _ #[_, .int .i64 (-1)] w4 _ := Drawn_bad (some ⟨ma + 2, 0, none⟩) (-1) (Or.inl (by decide)) w4
   have HD4 := Aside0.mk hm1
   have hJ : σ ++ PT = ALL := HJ.out
   have wA : wrap64 (32 * (k : Int)) = 32 * (k : Int) := by have := HN.out; unfold wrap64; omega
   have wB : wrap64 (32 * (k : Int) + (m : Int)) = 32 * (k : Int) + (m : Int) := by have := HN.out; have := HM.out; unfold wrap64; omega
   clear hm1 HI4
   go_wp2_with (fail)
   refine HD4.out.mono ?_
   rintro e w5 ⟨rfl, hb⟩
   have HB5 := Aside0.mk (show Below w.heap.size w w5 from below_then HB4.out HB4.out.size hb)
   clear hb HB4 HD4
   go_wp2_with (fail)
   refine (Real_calls w5).mono ?_
   rintro e w6 ⟨rfl, hR, hb⟩
   have HR := Aside0.mk hR
   have HB6 := Aside0.mk (show Below w.heap.size w w6 from below_then HB5.out HB5.out.size hb)
   clear hb HB5 hR
   have hm1 : Calls _ _ #[_, .int .i64 32] w6 _ := Drawn_real w5.heap.size 32 w6 HR.out
   have HD6 := Aside0.mk hm1
   clear hm1 HR
   generalize w5.heap.size = md at HD6 ⊢
   go_wp2_with (fail)
   refine HD6.out.mono ?_
   rintro e w7 ⟨rfl, hb⟩
   have HB7 := Aside0.mk (show Below w.heap.size w w7 from below_then HB6.out HB6.out.size hb)
   clear hb HB6 HD6
   go_wp2_with (fail)
   refine (vawake_calls w7).mono ?_
   rintro e w8 ⟨rfl, hb⟩
   have HB8 := Aside0.mk (show Below w.heap.size w w8 from below_then HB7.out HB7.out.size hb)
   go_wp2_with (fail)
   go_ret
   exact ⟨rfl, HB8.out⟩
theorem draws_all (seed : ByteArray) (a b : Int) (w : World) :
  Calls Try.prog 8 #[.string seed, .int .i64 a, .int .i64 b] w fun e w' => e = .returned (.bool true) ∧ Below w.heap.size w w' := by
 by_cases h : seed.size ≤ 100
 ·exact draws_light seed a b h w
 ·exact draws_heavy seed a b h w
end Go.Proofs.Ytbkbganflnemeaa.Pr
end

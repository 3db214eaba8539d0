/- Joined texts (pack.py): what the statement's proof needs, part a4. No condition. -/
import Derived.Below
import Derived.Deep.Draws
import Derived.Deep.AppendLies
import Derived.Maps.AppendAt
import Derived.OwnWalk
import Derived.Laws.BytesArg
import Derived.Laws.MakeOwn
import Derived.Laws.OwnMore
import Derived.Deep.OwnRows
import Derived.Tactics
import Derived.Lib.ConvBytes
import Derived.Laws.Slices
import Derived.WalkKit
import Derived.KernelRfl
import Derived.RowKit3
import Derived.Deep.LoopGhost
import Derived.Deep.QuietTactic
import Derived.BigQuiet
import Derived.WideLaws
import Derived.Deep.DeepCutAuto
import Derived.Deep.CutBlock
import Derived.Deep.RegionHeld3
import Derived.Laws.Rows
import Derived.Lib.AppendStr
import Derived.ArgAppend
import Derived.Laws.IdiomCopy
import Derived.RowKit
import Derived.OrdersHeld
import Derived.Laws.BitsLemmas
import Derived.Laws.StructEq
import Derived.Test.YtbkbganflnemeaaGreatRows
import Derived.ProofKit
import Derived.OpenShut
import Derived.ShutString
import Derived.ChangeOld
import Derived.Shelf.Strings.Builder1
import Derived.Shelf.Strings.Builder2
import Derived.Shelf.Strings.OnBuilder
import Derived.Shelf.Strings.BuilderF
import Derived.Shelf.Strings.Prefix
import Derived.Shelf.Bits.Mul64
import Derived.Shelf.Strings.Repeat
import Derived.Test.YtbkbganflnemeaaGreatProg
import Derived.Deep.RegionLaw
import Derived.StillTailTactics
import Derived.Deep.Light
import Derived.Deep.RegionHeldLaw
import Derived.Deep.DrawnRows
import Derived.IntWalk
import Derived.Deep.WholeRow
import Derived.Laws.CopyOwn
import Derived.SizedLaws
import Derived.Test.YtbkbganflnemeaaGreatZXa1
import Derived.Test.YtbkbganflnemeaaGreatZXa2
import Derived.Test.YtbkbganflnemeaaGreatZXa3
set_option linter.unusedVariables false
set_option linter.unusedSimpArgs false
section
namespace Go.Proofs.YtbkbganflnemeaaGreat.Pr
open Go.RowKit Go.Deep Go.Proofs.YtbkbganflnemeaaGreatW.PrintWords Go.Proofs.YtbkbganflnemeaaGreatW.PrintLast Go.Proofs.YtbkbganflnemeaaGreatW.PrintMore
set_option maxHeartbeats 2000000
theorem or_shl (x y q i : Nat) (hq : q = 2 ^ i) (hi : q ≤ 67108864) (hx : x < q) (hy : y < 256) :
  bits .or .u64 (x : Int) (IntKind.u64.wrap (IntKind.u64.wrap (y : Int) * (q : Int))) = ((x + y * q : Nat) : Int) := by
 have h2 : y * q ≤ 256 * 67108864 := Nat.mul_le_mul (by omega) hi
 rw [wraps_u64 (y : Int) (by omega) (by omega), show (y : Int) * (q : Int) = ((y * q : Nat) : Int) by simp, wraps_u64 _ (Int.natCast_nonneg _) (by omega), or64 _ _ (by omega) (by omega)]
 have h3 : x ||| y * q = x + y * q := by
  rw [Nat.or_comm, Nat.mul_comm y q, hq, ← Nat.two_pow_add_eq_or_of_lt (by rw [← hq]; exact hx) y, ← hq]
  omega
 rw [h3]
theorem or_zero64 (x : Nat) (hx : x < 18446744073709551616) : bits .or .u64 0 (x : Int) = (x : Int) := by
 have := or64 0 x (by decide) hx
 rw [show ((0 : Nat) : Int) = 0 from rfl] at this
 rw [this]
 simp
theorem rd_0 (V y : Nat) (hV : V < 1) (hy : y < 256) : limbs (V + 1 * y) = (limbs V).set 0 (V % 67108864 + y * 1) := by
 simp only [limbs, List.set_cons_succ, List.set_cons_zero, List.cons.injEq, and_true]
 refine ⟨?_, ?_, ?_, ?_, ?_⟩ <;> omega
theorem rd_1 (V y : Nat) (hV : V < 256) (hy : y < 256) : limbs (V + 256 * y) = (limbs V).set 0 (V % 67108864 + y * 256) := by
 simp only [limbs, List.set_cons_succ, List.set_cons_zero, List.cons.injEq, and_true]
 refine ⟨?_, ?_, ?_, ?_, ?_⟩ <;> omega
theorem rd_2 (V y : Nat) (hV : V < 65536) (hy : y < 256) : limbs (V + 65536 * y) = (limbs V).set 0 (V % 67108864 + y * 65536) := by
 simp only [limbs, List.set_cons_succ, List.set_cons_zero, List.cons.injEq, and_true]
 refine ⟨?_, ?_, ?_, ?_, ?_⟩ <;> omega
theorem rd_3 (V y : Nat) (hV : V < 16777216) (hy : y < 256) : limbs (V + 16777216 * y) = ((limbs V).set 1 ((V % 67108864 + y * 16777216) / 67108864)).set 0 ((V % 67108864 + y * 16777216) % 67108864) := by
 simp only [limbs, List.set_cons_succ, List.set_cons_zero, List.cons.injEq, and_true]
 refine ⟨?_, ?_, ?_, ?_, ?_⟩ <;> omega
theorem rd_4 (V y : Nat) (hV : V < 4294967296) (hy : y < 256) : limbs (V + 4294967296 * y) = (limbs V).set 1 (V / 67108864 % 67108864 + y * 64) := by
 simp only [limbs, List.set_cons_succ, List.set_cons_zero, List.cons.injEq, and_true]
 refine ⟨?_, ?_, ?_, ?_, ?_⟩ <;> omega
theorem rd_5 (V y : Nat) (hV : V < 1099511627776) (hy : y < 256) : limbs (V + 1099511627776 * y) = (limbs V).set 1 (V / 67108864 % 67108864 + y * 16384) := by
 simp only [limbs, List.set_cons_succ, List.set_cons_zero, List.cons.injEq, and_true]
 refine ⟨?_, ?_, ?_, ?_, ?_⟩ <;> omega
theorem rd_6 (V y : Nat) (hV : V < 281474976710656) (hy : y < 256) : limbs (V + 281474976710656 * y) = ((limbs V).set 2 ((V / 67108864 % 67108864 + y * 4194304) / 67108864)).set 1 ((V / 67108864 % 67108864 + y * 4194304) % 67108864) := by
 simp only [limbs, List.set_cons_succ, List.set_cons_zero, List.cons.injEq, and_true]
 refine ⟨?_, ?_, ?_, ?_, ?_⟩ <;> omega
theorem rd_7 (V y : Nat) (hV : V < 72057594037927936) (hy : y < 256) : limbs (V + 72057594037927936 * y) = (limbs V).set 2 (V / 4503599627370496 % 67108864 + y * 16) := by
 simp only [limbs, List.set_cons_succ, List.set_cons_zero, List.cons.injEq, and_true]
 refine ⟨?_, ?_, ?_, ?_, ?_⟩ <;> omega
theorem rd_8 (V y : Nat) (hV : V < 18446744073709551616) (hy : y < 256) : limbs (V + 18446744073709551616 * y) = (limbs V).set 2 (V / 4503599627370496 % 67108864 + y * 4096) := by
 simp only [limbs, List.set_cons_succ, List.set_cons_zero, List.cons.injEq, and_true]
 refine ⟨?_, ?_, ?_, ?_, ?_⟩ <;> omega
theorem rd_9 (V y : Nat) (hV : V < 4722366482869645213696) (hy : y < 256) : limbs (V + 4722366482869645213696 * y) = ((limbs V).set 3 ((V / 4503599627370496 % 67108864 + y * 1048576) / 67108864)).set 2 ((V / 4503599627370496 % 67108864 + y * 1048576) % 67108864) := by
 simp only [limbs, List.set_cons_succ, List.set_cons_zero, List.cons.injEq, and_true]
 refine ⟨?_, ?_, ?_, ?_, ?_⟩ <;> omega
theorem rd_10 (V y : Nat) (hV : V < 1208925819614629174706176) (hy : y < 256) : limbs (V + 1208925819614629174706176 * y) = (limbs V).set 3 (V / 302231454903657293676544 % 67108864 + y * 4) := by
 simp only [limbs, List.set_cons_succ, List.set_cons_zero, List.cons.injEq, and_true]
 refine ⟨?_, ?_, ?_, ?_, ?_⟩ <;> omega
theorem rd_11 (V y : Nat) (hV : V < 309485009821345068724781056) (hy : y < 256) : limbs (V + 309485009821345068724781056 * y) = (limbs V).set 3 (V / 302231454903657293676544 % 67108864 + y * 1024) := by
 simp only [limbs, List.set_cons_succ, List.set_cons_zero, List.cons.injEq, and_true]
 refine ⟨?_, ?_, ?_, ?_, ?_⟩ <;> omega
theorem rd_12 (V y : Nat) (hV : V < 79228162514264337593543950336) (hy : y < 256) : limbs (V + 79228162514264337593543950336 * y) = (limbs V).set 3 (V / 302231454903657293676544 % 67108864 + y * 262144) := by
 simp only [limbs, List.set_cons_succ, List.set_cons_zero, List.cons.injEq, and_true]
 refine ⟨?_, ?_, ?_, ?_, ?_⟩ <;> omega
theorem rd_13 (V y : Nat) (hV : V < 20282409603651670423947251286016) (hy : y < 256) : limbs (V + 20282409603651670423947251286016 * y) = (limbs V).set 4 (V / 20282409603651670423947251286016 % 67108864 + y * 1) := by
 simp only [limbs, List.set_cons_succ, List.set_cons_zero, List.cons.injEq, and_true]
 refine ⟨?_, ?_, ?_, ?_, ?_⟩ <;> omega
theorem rd_14 (V y : Nat) (hV : V < 5192296858534827628530496329220096) (hy : y < 256) : limbs (V + 5192296858534827628530496329220096 * y) = (limbs V).set 4 (V / 20282409603651670423947251286016 % 67108864 + y * 256) := by
 simp only [limbs, List.set_cons_succ, List.set_cons_zero, List.cons.injEq, and_true]
 refine ⟨?_, ?_, ?_, ?_, ?_⟩ <;> omega
theorem rd_15 (V y : Nat) (hV : V < 1329227995784915872903807060280344576) (hy : y < 256) : limbs (V + 1329227995784915872903807060280344576 * y) = (limbs V).set 4 (V / 20282409603651670423947251286016 % 67108864 + y * 65536) := by
 simp only [limbs, List.set_cons_succ, List.set_cons_zero, List.cons.injEq, and_true]
 refine ⟨?_, ?_, ?_, ?_, ?_⟩ <;> omega
theorem rd_16 (V y : Nat) (hV : V < 340282366920938463463374607431768211456) (hy : y < 4) : limbs (V + 340282366920938463463374607431768211456 * y) = (limbs V).set 4 (V / 20282409603651670423947251286016 % 67108864 + y * 16777216) := by
 simp only [limbs, List.set_cons_succ, List.set_cons_zero, List.cons.injEq, and_true]
 refine ⟨?_, ?_, ?_, ?_, ?_⟩ <;> omega
set_option maxRecDepth 100000 in
theorem poly_read_calls (s : ByteArray) (w : World) (hs : s.size ≤ 17) (h17 : (bys s).getD 16 0 < 4) :
  Calls Tryz.prog 150 #[.string s] w fun E w' => E = .returned (.agg (u64s (limbs (dv (bys s))))) ∧ Below w.heap.size w w' := by
 have hi : (Tryz.prog.info? 181).map (·.size) = some 5 := by kernel_rfl
 have HI := Aside0.mk hi
 have HB := Aside0.mk (bys_lt s)
 have H17 := Aside0.mk h17
 have HLn := Aside0.mk (bys_length s)
 have HG : Aside0 (∀ i (hi : i < s.size), (s[i]'hi).toNat = (bys s).getD i 0) := ⟨fun i hi => by
  have hl : i < s.data.toList.length := by rw [data_length]; exact hi
  simp only [bys, List.getD_eq_getElem?_getD, List.getElem?_map, List.getElem?_eq_getElem hl, Option.map_some, Option.getD_some]
  rfl⟩
 have HDL : Aside0 (∀ k, k ≤ s.size → dv ((bys s).take k) < 256 ^ k) := ⟨fun k hk => by
  have := dv_lt ((bys s).take k) (fun i => by
   rw [List.getD_eq_getElem?_getD, List.getElem?_take]
   split
   ·have := bys_lt s i; rwa [List.getD_eq_getElem?_getD] at this
   ·simp)
  rwa [List.length_take, Nat.min_eq_left (by rw [bys_length]; exact hk)] at this⟩
 have HDS : Aside0 (∀ k, dv ((bys s).take (k + 1)) = dv ((bys s).take k) + 256 ^ k * (bys s).getD k 0) := ⟨fun k => dv_take_succ _ k⟩
 clear hi h17
 go_enter Tryz.func150, Tryz.ntmps150
 go_wp2_with (fail)
 have H : Aside0 (PN w [List.replicate 5 0, limbs (dv ((bys s).take 0))] ((w.alloc (.cells (u64s (List.replicate 5 0)) 181)).alloc (.cells (u64s (List.replicate 5 0)) 181))) := ⟨by rw [show limbs (dv ((bys s).take 0)) = List.replicate 5 0 by simp [limbs, dv]]; exact ((PN.nil w).push _).push _⟩
 go_loopw [9] (fun i wr => ∃ k : Nat, k ≤ s.size ∧ i = .int .i64 k ∧ Aside0 (PN w [List.replicate 5 0, limbs (dv ((bys s).take k))] wr)) (fun i _ => s.size - (intOf i).toNat)
 case atStart => exact ⟨0, by omega, rfl, H⟩
 case round =>
  clear H
  obtain ⟨k, hk, rfl, H⟩ := hrel
  by_cases hlt : k < s.size
  ·have HK : Aside0 (k = 0 ∨ k = 1 ∨ k = 2 ∨ k = 3 ∨ k = 4 ∨ k = 5 ∨ k = 6 ∨ k = 7 ∨ k = 8 ∨ k = 9 ∨ k = 10 ∨ k = 11 ∨ k = 12 ∨ k = 13 ∨ k = 14 ∨ k = 15 ∨ k = 16) := ⟨by omega⟩
   have hy := HB.out k
   have hV := HDL.out k hk
   have hg := HG.out k hlt
   have hds := HDS.out k
   have h16 : k = 16 → (bys s).getD k 0 < 4 := fun e => e ▸ H17.out
   generalize (bys s).getD k 0 = y at hy hg hds h16
   generalize dv ((bys s).take k) = V at H hV hds
   have HDSk := Aside0.mk hds
   clear hds
   rcases HK.out with h | h | h | h | h | h | h | h | h | h | h | h | h | h | h | h | h
   ·as_aux_lemma =>
    subst h
    clear HK
    have hV2 : V < 1 := hV
    have hy2 : y < 256 := hy
    have hR := rd_0 V y hV2 hy2
    have hx0 : V % 67108864 < 1 := by omega
    have hc := (H.out.cell 1 0 rfl (by show _ < 5; decide)).1
    have hf := (H.out.cell 1 0 rfl (by show _ < 5; decide)).2
    have hcv : (limbs V).getD 0 0 = V % 67108864 := rfl
    rw [hcv] at hc
    clear hcv
    generalize V % 67108864 = X0 at hR hx0 hc
    have E : bits .or .u64 (X0 : Int) (IntKind.u64.wrap (IntKind.u64.wrap (y : Int))) = ((X0 + y * 1 : Nat) : Int) := by
     have := or_shl X0 y 1 0 rfl (by decide) hx0 hy
     rw [show ((1 : Nat) : Int) = 1 from rfl, Int.mul_one, wraps_u64 (y : Int) (by omega) (by omega), wraps_u64 (y : Int) (by omega) (by omega)] at this
     rw [wraps_u64 (y : Int) (by omega) (by omega), wraps_u64 (y : Int) (by omega) (by omega), this, Nat.mul_one]
    have hXb : X0 + y * 1 < 67108864 := by omega
    generalize X0 + y * 1 = X at E hR hXb
    have HR := Aside0.mk hR
    have HV' : Aside0 (dv (List.take (0 + 1) (bys s)) = V + 1 * y) := ⟨HDSk.out⟩
    have t0 : decide ((0 : Int) < (s.size : Int)) = true := decide_eq_true (by omega)
    have hle : 0 < s.size := hlt
    have t00 : (0 : Int) < (s.size : Int) := by omega
    clear hV hV2 hR hx0 hy hy2 h16 HDSk
    simp only [adr] at hc hf
    rw [show ((0 : Nat) : Int) = 0 from rfl]
    have t1 : decide (0 < (X : Int) / 67108864) = false := decide_eq_false (by omega)
    have t2 : decide (0 < X / 67108864) = false := decide_eq_false (by omega)
    clear hXb
    go_wp2_with (fail)
    refine wp_still_tail 13 (by kernel_rfl) (by kernel_rfl) ?_
    intro W hW
    have g1 : W.cell? ⟨w.heap.size + 1, 0, none⟩ = some (.int .u64 (X0 : Int)) := by rw [hW]; exact hc
    have gf : W.frozen? ⟨w.heap.size + 1, 0, none⟩ = false := by rw [hW]; exact hf
    have HW : Aside0 (PN w [List.replicate 5 0, limbs V] W) := ⟨by rw [hW]; exact H.out.drew⟩
    have wj : IntKind.i64.wrap 0 = 0 := by decide +kernel
    have wr_ : IntKind.i64.wrap 0 = 0 := by decide +kernel
    clear hW hc hf
    simp only [List.take_succ_cons, List.take_zero, List.drop_succ_cons, List.drop_zero]
    repeat still_step
    refine wpStill_nil ?_
    clear wj wr_
    go_wp2
    refine ⟨⟨1, by omega, rfl, ?_⟩, by simp [intOf]; omega⟩
    rw [HV'.out, HR.out]
    exact ⟨HW.out.set 1 0 X rfl⟩
   ·as_aux_lemma =>
    subst h
    clear HK
    have hV2 : V < 256 := hV
    have hy2 : y < 256 := hy
    have hR := rd_1 V y hV2 hy2
    have hx0 : V % 67108864 < 256 := by omega
    have hc := (H.out.cell 1 0 rfl (by show _ < 5; decide)).1
    have hf := (H.out.cell 1 0 rfl (by show _ < 5; decide)).2
    have hcv : (limbs V).getD 0 0 = V % 67108864 := rfl
    rw [hcv] at hc
    clear hcv
    generalize V % 67108864 = X0 at hR hx0 hc
    have E : bits .or .u64 (X0 : Int) (IntKind.u64.wrap (IntKind.u64.wrap (y : Int) * 256)) = ((X0 + y * 256 : Nat) : Int) := by
     have := or_shl X0 y 256 8 rfl (by decide) hx0 hy
     exact this
    have hXb : X0 + y * 256 < 67108864 := by omega
    generalize X0 + y * 256 = X at E hR hXb
    have HR := Aside0.mk hR
    have HV' : Aside0 (dv (List.take (1 + 1) (bys s)) = V + 256 * y) := ⟨HDSk.out⟩
    have t0 : decide ((1 : Int) < (s.size : Int)) = true := decide_eq_true (by omega)
    have hle : 1 < s.size := hlt
    have t00 : (1 : Int) < (s.size : Int) := by omega
    clear hV hV2 hR hx0 hy hy2 h16 HDSk
    simp only [adr] at hc hf
    rw [show ((1 : Nat) : Int) = 1 from rfl]
    have t1 : decide (0 < (X : Int) / 67108864) = false := decide_eq_false (by omega)
    have t2 : decide (0 < X / 67108864) = false := decide_eq_false (by omega)
    clear hXb
    go_wp2_with (fail)
    refine wp_still_tail 13 (by kernel_rfl) (by kernel_rfl) ?_
    intro W hW
    have g1 : W.cell? ⟨w.heap.size + 1, 0, none⟩ = some (.int .u64 (X0 : Int)) := by rw [hW]; exact hc
    have gf : W.frozen? ⟨w.heap.size + 1, 0, none⟩ = false := by rw [hW]; exact hf
    have HW : Aside0 (PN w [List.replicate 5 0, limbs V] W) := ⟨by rw [hW]; exact H.out.drew⟩
    have wj : IntKind.i64.wrap 0 = 0 := by decide +kernel
    have wr_ : IntKind.i64.wrap 8 = 8 := by decide +kernel
    clear hW hc hf
    simp only [List.take_succ_cons, List.take_zero, List.drop_succ_cons, List.drop_zero]
    repeat still_step
    refine wpStill_nil ?_
    clear wj wr_
    go_wp2
    refine ⟨⟨2, by omega, rfl, ?_⟩, by simp [intOf]; omega⟩
    rw [HV'.out, HR.out]
    exact ⟨HW.out.set 1 0 X rfl⟩
   ·as_aux_lemma =>
    subst h
    clear HK
    have hV2 : V < 65536 := hV
    have hy2 : y < 256 := hy
    have hR := rd_2 V y hV2 hy2
    have hx0 : V % 67108864 < 65536 := by omega
    have hc := (H.out.cell 1 0 rfl (by show _ < 5; decide)).1
    have hf := (H.out.cell 1 0 rfl (by show _ < 5; decide)).2
    have hcv : (limbs V).getD 0 0 = V % 67108864 := rfl
    rw [hcv] at hc
    clear hcv
    generalize V % 67108864 = X0 at hR hx0 hc
    have E : bits .or .u64 (X0 : Int) (IntKind.u64.wrap (IntKind.u64.wrap (y : Int) * 65536)) = ((X0 + y * 65536 : Nat) : Int) := by
     have := or_shl X0 y 65536 16 rfl (by decide) hx0 hy
     exact this
    have hXb : X0 + y * 65536 < 67108864 := by omega
    generalize X0 + y * 65536 = X at E hR hXb
    have HR := Aside0.mk hR
    have HV' : Aside0 (dv (List.take (2 + 1) (bys s)) = V + 65536 * y) := ⟨HDSk.out⟩
    have t0 : decide ((2 : Int) < (s.size : Int)) = true := decide_eq_true (by omega)
    have hle : 2 < s.size := hlt
    have t00 : (2 : Int) < (s.size : Int) := by omega
    clear hV hV2 hR hx0 hy hy2 h16 HDSk
    simp only [adr] at hc hf
    rw [show ((2 : Nat) : Int) = 2 from rfl]
    have t1 : decide (0 < (X : Int) / 67108864) = false := decide_eq_false (by omega)
    have t2 : decide (0 < X / 67108864) = false := decide_eq_false (by omega)
    clear hXb
    go_wp2_with (fail)
    refine wp_still_tail 13 (by kernel_rfl) (by kernel_rfl) ?_
    intro W hW
    have g1 : W.cell? ⟨w.heap.size + 1, 0, none⟩ = some (.int .u64 (X0 : Int)) := by rw [hW]; exact hc
    have gf : W.frozen? ⟨w.heap.size + 1, 0, none⟩ = false := by rw [hW]; exact hf
    have HW : Aside0 (PN w [List.replicate 5 0, limbs V] W) := ⟨by rw [hW]; exact H.out.drew⟩
    have wj : IntKind.i64.wrap 0 = 0 := by decide +kernel
    have wr_ : IntKind.i64.wrap 16 = 16 := by decide +kernel
    clear hW hc hf
    simp only [List.take_succ_cons, List.take_zero, List.drop_succ_cons, List.drop_zero]
    repeat still_step
    refine wpStill_nil ?_
    clear wj wr_
    go_wp2
    refine ⟨⟨3, by omega, rfl, ?_⟩, by simp [intOf]; omega⟩
    rw [HV'.out, HR.out]
    exact ⟨HW.out.set 1 0 X rfl⟩
   ·as_aux_lemma =>
    subst h
    clear HK
    have hV2 : V < 16777216 := hV
    have hy2 : y < 256 := hy
    have hR := rd_3 V y hV2 hy2
    have hx0 : V % 67108864 < 16777216 := by omega
    have hc := (H.out.cell 1 0 rfl (by show _ < 5; decide)).1
    have hf := (H.out.cell 1 0 rfl (by show _ < 5; decide)).2
    have hcv : (limbs V).getD 0 0 = V % 67108864 := rfl
    rw [hcv] at hc
    clear hcv
    have hc1 := (H.out.cell 1 1 rfl (by show _ < 5; decide)).1
    have hf1 := (H.out.cell 1 1 rfl (by show _ < 5; decide)).2
    have hcv1 : (limbs V).getD 1 0 = V / 67108864 % 67108864 := rfl
    have hz1 : V / 67108864 % 67108864 = 0 := by omega
    rw [hcv1, hz1] at hc1
    clear hcv1
    generalize V % 67108864 = X0 at hR hx0 hc
    have E : bits .or .u64 (X0 : Int) (IntKind.u64.wrap (IntKind.u64.wrap (y : Int) * 16777216)) = ((X0 + y * 16777216 : Nat) : Int) := by
     have := or_shl X0 y 16777216 24 rfl (by decide) hx0 hy
     exact this
    have hXb : X0 + y * 16777216 < 17179869184 := by omega
    generalize X0 + y * 16777216 = X at E hR hXb
    have HR := Aside0.mk hR
    have HV' : Aside0 (dv (List.take (3 + 1) (bys s)) = V + 16777216 * y) := ⟨HDSk.out⟩
    have t0 : decide ((3 : Int) < (s.size : Int)) = true := decide_eq_true (by omega)
    have hle : 3 < s.size := hlt
    have t00 : (3 : Int) < (s.size : Int) := by omega
    clear hV hV2 hR hx0 hy hy2 h16 HDSk
    simp only [adr] at hc hf hc1 hf1
    rw [show ((3 : Nat) : Int) = 3 from rfl]
    by_cases hov : 67108864 ≤ X
    ·as_aux_lemma =>
     have t1 : decide (0 < (X : Int) / 67108864) = true := decide_eq_true (by omega)
     have t2 : decide (0 < X / 67108864) = true := decide_eq_true (by omega)
     have hm := mask26 X (by omega)
     have ho := or_zero64 (X / 67108864) (by omega)
     rw [show ((X / 67108864 : Nat) : Int) = (X : Int) / 67108864 by simp] at ho
     clear hXb hz1
     go_wp2_with (fail)
     refine wp_still_tail 13 (by kernel_rfl) (by kernel_rfl) ?_
     intro W hW
     have g1 : W.cell? ⟨w.heap.size + 1, 0, none⟩ = some (.int .u64 (X0 : Int)) := by rw [hW]; exact hc
     have gf : W.frozen? ⟨w.heap.size + 1, 0, none⟩ = false := by rw [hW]; exact hf
     have HW : Aside0 (PN w [List.replicate 5 0, limbs V] W) := ⟨by rw [hW]; exact H.out.drew⟩
     have wj : IntKind.i64.wrap 0 = 0 := by decide +kernel
     have wr_ : IntKind.i64.wrap 24 = 24 := by decide +kernel
     have g3 : W.cell? ⟨w.heap.size + 1, 1, none⟩ = some (.int .u64 0) := by rw [hW]; exact hc1
     have gf3 : W.frozen? ⟨w.heap.size + 1, 1, none⟩ = false := by rw [hW]; exact hf1
     clear hW hc hf hc1 hf1
     simp only [List.take_succ_cons, List.take_zero, List.drop_succ_cons, List.drop_zero]
     repeat still_step
     refine wpStill_nil ?_
     clear wj wr_
     go_wp2
     refine ⟨⟨4, by omega, rfl, ?_⟩, by simp [intOf]; omega⟩
     rw [HV'.out, HR.out]
     have h1 := (HW.out.set 1 0 X rfl)
     have h2 := (h1.set 1 1 (X / 67108864) (l := (limbs V).set 0 X) rfl)
     have h3 := (h2.set 1 0 (X % 67108864) (l := ((limbs V).set 0 X).set 1 (X / 67108864)) rfl)
     exact ⟨h3⟩
    ·as_aux_lemma =>
     have t1 : decide (0 < (X : Int) / 67108864) = false := decide_eq_false (by omega)
     have t2 : decide (0 < X / 67108864) = false := decide_eq_false (by omega)
     have hX0 : X / 67108864 = 0 := by omega
     have hX1 : X % 67108864 = X := by omega
     have HX0 := Aside0.mk hX0
     have HX1 := Aside0.mk hX1
     have hlz : (limbs V).set 1 0 = limbs V := by rw [← hz1]; rfl
     have HLZ := Aside0.mk hlz
     clear hXb hX0 hX1 hlz hz1
     go_wp2_with (fail)
     refine wp_still_tail 13 (by kernel_rfl) (by kernel_rfl) ?_
     intro W hW
     have g1 : W.cell? ⟨w.heap.size + 1, 0, none⟩ = some (.int .u64 (X0 : Int)) := by rw [hW]; exact hc
     have gf : W.frozen? ⟨w.heap.size + 1, 0, none⟩ = false := by rw [hW]; exact hf
     have HW : Aside0 (PN w [List.replicate 5 0, limbs V] W) := ⟨by rw [hW]; exact H.out.drew⟩
     have wj : IntKind.i64.wrap 0 = 0 := by decide +kernel
     have wr_ : IntKind.i64.wrap 24 = 24 := by decide +kernel
     have g3 : W.cell? ⟨w.heap.size + 1, 1, none⟩ = some (.int .u64 0) := by rw [hW]; exact hc1
     have gf3 : W.frozen? ⟨w.heap.size + 1, 1, none⟩ = false := by rw [hW]; exact hf1
     clear hW hc hf hc1 hf1
     simp only [List.take_succ_cons, List.take_zero, List.drop_succ_cons, List.drop_zero]
     repeat still_step
     refine wpStill_nil ?_
     clear wj wr_
     go_wp2
     refine ⟨⟨4, by omega, rfl, ?_⟩, by simp [intOf]; omega⟩
     rw [HV'.out, HR.out]
     rw [HX0.out, HX1.out, HLZ.out]
     exact ⟨HW.out.set 1 0 X rfl⟩
   ·as_aux_lemma =>
    subst h
    clear HK
    have hV2 : V < 4294967296 := hV
    have hy2 : y < 256 := hy
    have hR := rd_4 V y hV2 hy2
    have hx0 : V / 67108864 % 67108864 < 64 := by omega
    have hc := (H.out.cell 1 1 rfl (by show _ < 5; decide)).1
    have hf := (H.out.cell 1 1 rfl (by show _ < 5; decide)).2
    have hcv : (limbs V).getD 1 0 = V / 67108864 % 67108864 := rfl
    rw [hcv] at hc
    clear hcv
    generalize V / 67108864 % 67108864 = X0 at hR hx0 hc
    have E : bits .or .u64 (X0 : Int) (IntKind.u64.wrap (IntKind.u64.wrap (y : Int) * 64)) = ((X0 + y * 64 : Nat) : Int) := by
     have := or_shl X0 y 64 6 rfl (by decide) hx0 hy
     exact this
    have hXb : X0 + y * 64 < 67108864 := by omega
    generalize X0 + y * 64 = X at E hR hXb
    have HR := Aside0.mk hR
    have HV' : Aside0 (dv (List.take (4 + 1) (bys s)) = V + 4294967296 * y) := ⟨HDSk.out⟩
    have t0 : decide ((4 : Int) < (s.size : Int)) = true := decide_eq_true (by omega)
    have hle : 4 < s.size := hlt
    have t00 : (4 : Int) < (s.size : Int) := by omega
    clear hV hV2 hR hx0 hy hy2 h16 HDSk
    simp only [adr] at hc hf
    rw [show ((4 : Nat) : Int) = 4 from rfl]
    have t1 : decide (0 < (X : Int) / 67108864) = false := decide_eq_false (by omega)
    have t2 : decide (0 < X / 67108864) = false := decide_eq_false (by omega)
    clear hXb
    go_wp2_with (fail)
    refine wp_still_tail 13 (by kernel_rfl) (by kernel_rfl) ?_
    intro W hW
    have g1 : W.cell? ⟨w.heap.size + 1, 1, none⟩ = some (.int .u64 (X0 : Int)) := by rw [hW]; exact hc
    have gf : W.frozen? ⟨w.heap.size + 1, 1, none⟩ = false := by rw [hW]; exact hf
    have HW : Aside0 (PN w [List.replicate 5 0, limbs V] W) := ⟨by rw [hW]; exact H.out.drew⟩
    have wj : IntKind.i64.wrap 1 = 1 := by decide +kernel
    have wr_ : IntKind.i64.wrap 6 = 6 := by decide +kernel
    clear hW hc hf
    simp only [List.take_succ_cons, List.take_zero, List.drop_succ_cons, List.drop_zero]
    repeat still_step
    refine wpStill_nil ?_
    clear wj wr_
    go_wp2
    refine ⟨⟨5, by omega, rfl, ?_⟩, by simp [intOf]; omega⟩
    rw [HV'.out, HR.out]
    exact ⟨HW.out.set 1 1 X rfl⟩
   ·as_aux_lemma =>
    subst h
    clear HK
    have hV2 : V < 1099511627776 := hV
    have hy2 : y < 256 := hy
    have hR := rd_5 V y hV2 hy2
    have hx0 : V / 67108864 % 67108864 < 16384 := by omega
    have hc := (H.out.cell 1 1 rfl (by show _ < 5; decide)).1
    have hf := (H.out.cell 1 1 rfl (by show _ < 5; decide)).2
    have hcv : (limbs V).getD 1 0 = V / 67108864 % 67108864 := rfl
    rw [hcv] at hc
    clear hcv
    generalize V / 67108864 % 67108864 = X0 at hR hx0 hc
    have E : bits .or .u64 (X0 : Int) (IntKind.u64.wrap (IntKind.u64.wrap (y : Int) * 16384)) = ((X0 + y * 16384 : Nat) : Int) := by
     have := or_shl X0 y 16384 14 rfl (by decide) hx0 hy
     exact this
    have hXb : X0 + y * 16384 < 67108864 := by omega
    generalize X0 + y * 16384 = X at E hR hXb
    have HR := Aside0.mk hR
    have HV' : Aside0 (dv (List.take (5 + 1) (bys s)) = V + 1099511627776 * y) := ⟨HDSk.out⟩
    have t0 : decide ((5 : Int) < (s.size : Int)) = true := decide_eq_true (by omega)
    have hle : 5 < s.size := hlt
    have t00 : (5 : Int) < (s.size : Int) := by omega
    clear hV hV2 hR hx0 hy hy2 h16 HDSk
    simp only [adr] at hc hf
    rw [show ((5 : Nat) : Int) = 5 from rfl]
    have t1 : decide (0 < (X : Int) / 67108864) = false := decide_eq_false (by omega)
    have t2 : decide (0 < X / 67108864) = false := decide_eq_false (by omega)
    clear hXb
    go_wp2_with (fail)
    refine wp_still_tail 13 (by kernel_rfl) (by kernel_rfl) ?_
    intro W hW
    have g1 : W.cell? ⟨w.heap.size + 1, 1, none⟩ = some (.int .u64 (X0 : Int)) := by rw [hW]; exact hc
    have gf : W.frozen? ⟨w.heap.size + 1, 1, none⟩ = false := by rw [hW]; exact hf
    have HW : Aside0 (PN w [List.replicate 5 0, limbs V] W) := ⟨by rw [hW]; exact H.out.drew⟩
    have wj : IntKind.i64.wrap 1 = 1 := by decide +kernel
    have wr_ : IntKind.i64.wrap 14 = 14 := by decide +kernel
    clear hW hc hf
    simp only [List.take_succ_cons, List.take_zero, List.drop_succ_cons, List.drop_zero]
    repeat still_step
    refine wpStill_nil ?_
    clear wj wr_
    go_wp2
    refine ⟨⟨6, by omega, rfl, ?_⟩, by simp [intOf]; omega⟩
    rw [HV'.out, HR.out]
    exact ⟨HW.out.set 1 1 X rfl⟩
   ·as_aux_lemma =>
    subst h
    clear HK
    have hV2 : V < 281474976710656 := hV
    have hy2 : y < 256 := hy
    have hR := rd_6 V y hV2 hy2
    have hx0 : V / 67108864 % 67108864 < 4194304 := by omega
    have hc := (H.out.cell 1 1 rfl (by show _ < 5; decide)).1
    have hf := (H.out.cell 1 1 rfl (by show _ < 5; decide)).2
    have hcv : (limbs V).getD 1 0 = V / 67108864 % 67108864 := rfl
    rw [hcv] at hc
    clear hcv
    have hc1 := (H.out.cell 1 2 rfl (by show _ < 5; decide)).1
    have hf1 := (H.out.cell 1 2 rfl (by show _ < 5; decide)).2
    have hcv1 : (limbs V).getD 2 0 = V / 4503599627370496 % 67108864 := rfl
    have hz1 : V / 4503599627370496 % 67108864 = 0 := by omega
    rw [hcv1, hz1] at hc1
    clear hcv1
    generalize V / 67108864 % 67108864 = X0 at hR hx0 hc
    have E : bits .or .u64 (X0 : Int) (IntKind.u64.wrap (IntKind.u64.wrap (y : Int) * 4194304)) = ((X0 + y * 4194304 : Nat) : Int) := by
     have := or_shl X0 y 4194304 22 rfl (by decide) hx0 hy
     exact this
    have hXb : X0 + y * 4194304 < 17179869184 := by omega
    generalize X0 + y * 4194304 = X at E hR hXb
    have HR := Aside0.mk hR
    have HV' : Aside0 (dv (List.take (6 + 1) (bys s)) = V + 281474976710656 * y) := ⟨HDSk.out⟩
    have t0 : decide ((6 : Int) < (s.size : Int)) = true := decide_eq_true (by omega)
    have hle : 6 < s.size := hlt
    have t00 : (6 : Int) < (s.size : Int) := by omega
    clear hV hV2 hR hx0 hy hy2 h16 HDSk
    simp only [adr] at hc hf hc1 hf1
    rw [show ((6 : Nat) : Int) = 6 from rfl]
    by_cases hov : 67108864 ≤ X
    ·as_aux_lemma =>
     have t1 : decide (0 < (X : Int) / 67108864) = true := decide_eq_true (by omega)
     have t2 : decide (0 < X / 67108864) = true := decide_eq_true (by omega)
     have hm := mask26 X (by omega)
     have ho := or_zero64 (X / 67108864) (by omega)
     rw [show ((X / 67108864 : Nat) : Int) = (X : Int) / 67108864 by simp] at ho
     clear hXb hz1
     go_wp2_with (fail)
     refine wp_still_tail 13 (by kernel_rfl) (by kernel_rfl) ?_
     intro W hW
     have g1 : W.cell? ⟨w.heap.size + 1, 1, none⟩ = some (.int .u64 (X0 : Int)) := by rw [hW]; exact hc
     have gf : W.frozen? ⟨w.heap.size + 1, 1, none⟩ = false := by rw [hW]; exact hf
     have HW : Aside0 (PN w [List.replicate 5 0, limbs V] W) := ⟨by rw [hW]; exact H.out.drew⟩
     have wj : IntKind.i64.wrap 1 = 1 := by decide +kernel
     have wr_ : IntKind.i64.wrap 22 = 22 := by decide +kernel
     have g3 : W.cell? ⟨w.heap.size + 1, 2, none⟩ = some (.int .u64 0) := by rw [hW]; exact hc1
     have gf3 : W.frozen? ⟨w.heap.size + 1, 2, none⟩ = false := by rw [hW]; exact hf1
     clear hW hc hf hc1 hf1
     simp only [List.take_succ_cons, List.take_zero, List.drop_succ_cons, List.drop_zero]
     repeat still_step
     refine wpStill_nil ?_
     clear wj wr_
     go_wp2
     refine ⟨⟨7, by omega, rfl, ?_⟩, by simp [intOf]; omega⟩
     rw [HV'.out, HR.out]
     have h1 := (HW.out.set 1 1 X rfl)
     have h2 := (h1.set 1 2 (X / 67108864) (l := (limbs V).set 1 X) rfl)
     have h3 := (h2.set 1 1 (X % 67108864) (l := ((limbs V).set 1 X).set 2 (X / 67108864)) rfl)
     exact ⟨h3⟩
    ·as_aux_lemma =>
     have t1 : decide (0 < (X : Int) / 67108864) = false := decide_eq_false (by omega)
     have t2 : decide (0 < X / 67108864) = false := decide_eq_false (by omega)
     have hX0 : X / 67108864 = 0 := by omega
     have hX1 : X % 67108864 = X := by omega
     have HX0 := Aside0.mk hX0
     have HX1 := Aside0.mk hX1
     have hlz : (limbs V).set 2 0 = limbs V := by rw [← hz1]; rfl
     have HLZ := Aside0.mk hlz
     clear hXb hX0 hX1 hlz hz1
     go_wp2_with (fail)
     refine wp_still_tail 13 (by kernel_rfl) (by kernel_rfl) ?_
     intro W hW
     have g1 : W.cell? ⟨w.heap.size + 1, 1, none⟩ = some (.int .u64 (X0 : Int)) := by rw [hW]; exact hc
     have gf : W.frozen? ⟨w.heap.size + 1, 1, none⟩ = false := by rw [hW]; exact hf
     have HW : Aside0 (PN w [List.replicate 5 0, limbs V] W) := ⟨by rw [hW]; exact H.out.drew⟩
     have wj : IntKind.i64.wrap 1 = 1 := by decide +kernel
     have wr_ : IntKind.i64.wrap 22 = 22 := by decide +kernel
     have g3 : W.cell? ⟨w.heap.size + 1, 2, none⟩ = some (.int .u64 0) := by rw [hW]; exact hc1
     have gf3 : W.frozen? ⟨w.heap.size + 1, 2, none⟩ = false := by rw [hW]; exact hf1
     clear hW hc hf hc1 hf1
     simp only [List.take_succ_cons, List.take_zero, List.drop_succ_cons, List.drop_zero]
     repeat still_step
     refine wpStill_nil ?_
     clear wj wr_
     go_wp2
     refine ⟨⟨7, by omega, rfl, ?_⟩, by simp [intOf]; omega⟩
     rw [HV'.out, HR.out]
     rw [HX0.out, HX1.out, HLZ.out]
     exact ⟨HW.out.set 1 1 X rfl⟩
   ·as_aux_lemma =>
    subst h
    clear HK
    have hV2 : V < 72057594037927936 := hV
    have hy2 : y < 256 := hy
    have hR := rd_7 V y hV2 hy2
    have hx0 : V / 4503599627370496 % 67108864 < 16 := by omega
    have hc := (H.out.cell 1 2 rfl (by show _ < 5; decide)).1
    have hf := (H.out.cell 1 2 rfl (by show _ < 5; decide)).2
    have hcv : (limbs V).getD 2 0 = V / 4503599627370496 % 67108864 := rfl
    rw [hcv] at hc
    clear hcv
    generalize V / 4503599627370496 % 67108864 = X0 at hR hx0 hc
    have E : bits .or .u64 (X0 : Int) (IntKind.u64.wrap (IntKind.u64.wrap (y : Int) * 16)) = ((X0 + y * 16 : Nat) : Int) := by
     have := or_shl X0 y 16 4 rfl (by decide) hx0 hy
     exact this
    have hXb : X0 + y * 16 < 67108864 := by omega
    generalize X0 + y * 16 = X at E hR hXb
    have HR := Aside0.mk hR
    have HV' : Aside0 (dv (List.take (7 + 1) (bys s)) = V + 72057594037927936 * y) := ⟨HDSk.out⟩
    have t0 : decide ((7 : Int) < (s.size : Int)) = true := decide_eq_true (by omega)
    have hle : 7 < s.size := hlt
    have t00 : (7 : Int) < (s.size : Int) := by omega
    clear hV hV2 hR hx0 hy hy2 h16 HDSk
    simp only [adr] at hc hf
    rw [show ((7 : Nat) : Int) = 7 from rfl]
    have t1 : decide (0 < (X : Int) / 67108864) = false := decide_eq_false (by omega)
    have t2 : decide (0 < X / 67108864) = false := decide_eq_false (by omega)
    clear hXb
    go_wp2_with (fail)
    refine wp_still_tail 13 (by kernel_rfl) (by kernel_rfl) ?_
    intro W hW
    have g1 : W.cell? ⟨w.heap.size + 1, 2, none⟩ = some (.int .u64 (X0 : Int)) := by rw [hW]; exact hc
    have gf : W.frozen? ⟨w.heap.size + 1, 2, none⟩ = false := by rw [hW]; exact hf
    have HW : Aside0 (PN w [List.replicate 5 0, limbs V] W) := ⟨by rw [hW]; exact H.out.drew⟩
    have wj : IntKind.i64.wrap 2 = 2 := by decide +kernel
    have wr_ : IntKind.i64.wrap 4 = 4 := by decide +kernel
    clear hW hc hf
    simp only [List.take_succ_cons, List.take_zero, List.drop_succ_cons, List.drop_zero]
    repeat still_step
    refine wpStill_nil ?_
    clear wj wr_
    go_wp2
    refine ⟨⟨8, by omega, rfl, ?_⟩, by simp [intOf]; omega⟩
    rw [HV'.out, HR.out]
    exact ⟨HW.out.set 1 2 X rfl⟩
   ·as_aux_lemma =>
    subst h
    clear HK
    have hV2 : V < 18446744073709551616 := hV
    have hy2 : y < 256 := hy
    have hR := rd_8 V y hV2 hy2
    have hx0 : V / 4503599627370496 % 67108864 < 4096 := by omega
    have hc := (H.out.cell 1 2 rfl (by show _ < 5; decide)).1
    have hf := (H.out.cell 1 2 rfl (by show _ < 5; decide)).2
    have hcv : (limbs V).getD 2 0 = V / 4503599627370496 % 67108864 := rfl
    rw [hcv] at hc
    clear hcv
    generalize V / 4503599627370496 % 67108864 = X0 at hR hx0 hc
    have E : bits .or .u64 (X0 : Int) (IntKind.u64.wrap (IntKind.u64.wrap (y : Int) * 4096)) = ((X0 + y * 4096 : Nat) : Int) := by
     have := or_shl X0 y 4096 12 rfl (by decide) hx0 hy
     exact this
    have hXb : X0 + y * 4096 < 67108864 := by omega
    generalize X0 + y * 4096 = X at E hR hXb
    have HR := Aside0.mk hR
    have HV' : Aside0 (dv (List.take (8 + 1) (bys s)) = V + 18446744073709551616 * y) := ⟨HDSk.out⟩
    have t0 : decide ((8 : Int) < (s.size : Int)) = true := decide_eq_true (by omega)
    have hle : 8 < s.size := hlt
    have t00 : (8 : Int) < (s.size : Int) := by omega
    clear hV hV2 hR hx0 hy hy2 h16 HDSk
    simp only [adr] at hc hf
    rw [show ((8 : Nat) : Int) = 8 from rfl]
    have t1 : decide (0 < (X : Int) / 67108864) = false := decide_eq_false (by omega)
    have t2 : decide (0 < X / 67108864) = false := decide_eq_false (by omega)
    clear hXb
    go_wp2_with (fail)
    refine wp_still_tail 13 (by kernel_rfl) (by kernel_rfl) ?_
    intro W hW
    have g1 : W.cell? ⟨w.heap.size + 1, 2, none⟩ = some (.int .u64 (X0 : Int)) := by rw [hW]; exact hc
    have gf : W.frozen? ⟨w.heap.size + 1, 2, none⟩ = false := by rw [hW]; exact hf
    have HW : Aside0 (PN w [List.replicate 5 0, limbs V] W) := ⟨by rw [hW]; exact H.out.drew⟩
    have wj : IntKind.i64.wrap 2 = 2 := by decide +kernel
    have wr_ : IntKind.i64.wrap 12 = 12 := by decide +kernel
    clear hW hc hf
    simp only [List.take_succ_cons, List.take_zero, List.drop_succ_cons, List.drop_zero]
    repeat still_step
    refine wpStill_nil ?_
    clear wj wr_
    go_wp2
    refine ⟨⟨9, by omega, rfl, ?_⟩, by simp [intOf]; omega⟩
    rw [HV'.out, HR.out]
    exact ⟨HW.out.set 1 2 X rfl⟩
   ·as_aux_lemma =>
    subst h
    clear HK
    have hV2 : V < 4722366482869645213696 := hV
    have hy2 : y < 256 := hy
    have hR := rd_9 V y hV2 hy2
    have hx0 : V / 4503599627370496 % 67108864 < 1048576 := by omega
    have hc := (H.out.cell 1 2 rfl (by show _ < 5; decide)).1
    have hf := (H.out.cell 1 2 rfl (by show _ < 5; decide)).2
    have hcv : (limbs V).getD 2 0 = V / 4503599627370496 % 67108864 := rfl
    rw [hcv] at hc
    clear hcv
    have hc1 := (H.out.cell 1 3 rfl (by show _ < 5; decide)).1
    have hf1 := (H.out.cell 1 3 rfl (by show _ < 5; decide)).2
    have hcv1 : (limbs V).getD 3 0 = V / 302231454903657293676544 % 67108864 := rfl
    have hz1 : V / 302231454903657293676544 % 67108864 = 0 := by omega
    rw [hcv1, hz1] at hc1
    clear hcv1
    generalize V / 4503599627370496 % 67108864 = X0 at hR hx0 hc
    have E : bits .or .u64 (X0 : Int) (IntKind.u64.wrap (IntKind.u64.wrap (y : Int) * 1048576)) = ((X0 + y * 1048576 : Nat) : Int) := by
     have := or_shl X0 y 1048576 20 rfl (by decide) hx0 hy
     exact this
    have hXb : X0 + y * 1048576 < 17179869184 := by omega
    generalize X0 + y * 1048576 = X at E hR hXb
    have HR := Aside0.mk hR
    have HV' : Aside0 (dv (List.take (9 + 1) (bys s)) = V + 4722366482869645213696 * y) := ⟨HDSk.out⟩
    have t0 : decide ((9 : Int) < (s.size : Int)) = true := decide_eq_true (by omega)
    have hle : 9 < s.size := hlt
    have t00 : (9 : Int) < (s.size : Int) := by omega
    clear hV hV2 hR hx0 hy hy2 h16 HDSk
    simp only [adr] at hc hf hc1 hf1
    rw [show ((9 : Nat) : Int) = 9 from rfl]
    by_cases hov : 67108864 ≤ X
    ·as_aux_lemma =>
     have t1 : decide (0 < (X : Int) / 67108864) = true := decide_eq_true (by omega)
     have t2 : decide (0 < X / 67108864) = true := decide_eq_true (by omega)
     have hm := mask26 X (by omega)
     have ho := or_zero64 (X / 67108864) (by omega)
     rw [show ((X / 67108864 : Nat) : Int) = (X : Int) / 67108864 by simp] at ho
     clear hXb hz1
     go_wp2_with (fail)
     refine wp_still_tail 13 (by kernel_rfl) (by kernel_rfl) ?_
     intro W hW
     have g1 : W.cell? ⟨w.heap.size + 1, 2, none⟩ = some (.int .u64 (X0 : Int)) := by rw [hW]; exact hc
     have gf : W.frozen? ⟨w.heap.size + 1, 2, none⟩ = false := by rw [hW]; exact hf
     have HW : Aside0 (PN w [List.replicate 5 0, limbs V] W) := ⟨by rw [hW]; exact H.out.drew⟩
     have wj : IntKind.i64.wrap 2 = 2 := by decide +kernel
     have wr_ : IntKind.i64.wrap 20 = 20 := by decide +kernel
     have g3 : W.cell? ⟨w.heap.size + 1, 3, none⟩ = some (.int .u64 0) := by rw [hW]; exact hc1
     have gf3 : W.frozen? ⟨w.heap.size + 1, 3, none⟩ = false := by rw [hW]; exact hf1
     clear hW hc hf hc1 hf1
     simp only [List.take_succ_cons, List.take_zero, List.drop_succ_cons, List.drop_zero]
     repeat still_step
     refine wpStill_nil ?_
     clear wj wr_
     go_wp2
     refine ⟨⟨10, by omega, rfl, ?_⟩, by simp [intOf]; omega⟩
     rw [HV'.out, HR.out]
     have h1 := (HW.out.set 1 2 X rfl)
     have h2 := (h1.set 1 3 (X / 67108864) (l := (limbs V).set 2 X) rfl)
     have h3 := (h2.set 1 2 (X % 67108864) (l := ((limbs V).set 2 X).set 3 (X / 67108864)) rfl)
     exact ⟨h3⟩
    ·as_aux_lemma =>
     have t1 : decide (0 < (X : Int) / 67108864) = false := decide_eq_false (by omega)
     have t2 : decide (0 < X / 67108864) = false := decide_eq_false (by omega)
     have hX0 : X / 67108864 = 0 := by omega
     have hX1 : X % 67108864 = X := by omega
     have HX0 := Aside0.mk hX0
     have HX1 := Aside0.mk hX1
     have hlz : (limbs V).set 3 0 = limbs V := by rw [← hz1]; rfl
     have HLZ := Aside0.mk hlz
     clear hXb hX0 hX1 hlz hz1
     go_wp2_with (fail)
     refine wp_still_tail 13 (by kernel_rfl) (by kernel_rfl) ?_
     intro W hW
     have g1 : W.cell? ⟨w.heap.size + 1, 2, none⟩ = some (.int .u64 (X0 : Int)) := by rw [hW]; exact hc
     have gf : W.frozen? ⟨w.heap.size + 1, 2, none⟩ = false := by rw [hW]; exact hf
     have HW : Aside0 (PN w [List.replicate 5 0, limbs V] W) := ⟨by rw [hW]; exact H.out.drew⟩
     have wj : IntKind.i64.wrap 2 = 2 := by decide +kernel
     have wr_ : IntKind.i64.wrap 20 = 20 := by decide +kernel
     have g3 : W.cell? ⟨w.heap.size + 1, 3, none⟩ = some (.int .u64 0) := by rw [hW]; exact hc1
     have gf3 : W.frozen? ⟨w.heap.size + 1, 3, none⟩ = false := by rw [hW]; exact hf1
     clear hW hc hf hc1 hf1
     simp only [List.take_succ_cons, List.take_zero, List.drop_succ_cons, List.drop_zero]
     repeat still_step
     refine wpStill_nil ?_
     clear wj wr_
     go_wp2
     refine ⟨⟨10, by omega, rfl, ?_⟩, by simp [intOf]; omega⟩
     rw [HV'.out, HR.out]
     rw [HX0.out, HX1.out, HLZ.out]
     exact ⟨HW.out.set 1 2 X rfl⟩
   ·as_aux_lemma =>
    subst h
    clear HK
    have hV2 : V < 1208925819614629174706176 := hV
    have hy2 : y < 256 := hy
    have hR := rd_10 V y hV2 hy2
    have hx0 : V / 302231454903657293676544 % 67108864 < 4 := by omega
    have hc := (H.out.cell 1 3 rfl (by show _ < 5; decide)).1
    have hf := (H.out.cell 1 3 rfl (by show _ < 5; decide)).2
    have hcv : (limbs V).getD 3 0 = V / 302231454903657293676544 % 67108864 := rfl
    rw [hcv] at hc
    clear hcv
    generalize V / 302231454903657293676544 % 67108864 = X0 at hR hx0 hc
    have E : bits .or .u64 (X0 : Int) (IntKind.u64.wrap (IntKind.u64.wrap (y : Int) * 4)) = ((X0 + y * 4 : Nat) : Int) := by
     have := or_shl X0 y 4 2 rfl (by decide) hx0 hy
     exact this
    have hXb : X0 + y * 4 < 67108864 := by omega
    generalize X0 + y * 4 = X at E hR hXb
    have HR := Aside0.mk hR
    have HV' : Aside0 (dv (List.take (10 + 1) (bys s)) = V + 1208925819614629174706176 * y) := ⟨HDSk.out⟩
    have t0 : decide ((10 : Int) < (s.size : Int)) = true := decide_eq_true (by omega)
    have hle : 10 < s.size := hlt
    have t00 : (10 : Int) < (s.size : Int) := by omega
    clear hV hV2 hR hx0 hy hy2 h16 HDSk
    simp only [adr] at hc hf
    rw [show ((10 : Nat) : Int) = 10 from rfl]
    have t1 : decide (0 < (X : Int) / 67108864) = false := decide_eq_false (by omega)
    have t2 : decide (0 < X / 67108864) = false := decide_eq_false (by omega)
    clear hXb
    go_wp2_with (fail)
    refine wp_still_tail 13 (by kernel_rfl) (by kernel_rfl) ?_
    intro W hW
    have g1 : W.cell? ⟨w.heap.size + 1, 3, none⟩ = some (.int .u64 (X0 : Int)) := by rw [hW]; exact hc
    have gf : W.frozen? ⟨w.heap.size + 1, 3, none⟩ = false := by rw [hW]; exact hf
    have HW : Aside0 (PN w [List.replicate 5 0, limbs V] W) := ⟨by rw [hW]; exact H.out.drew⟩
    have wj : IntKind.i64.wrap 3 = 3 := by decide +kernel
    have wr_ : IntKind.i64.wrap 2 = 2 := by decide +kernel
    clear hW hc hf
    simp only [List.take_succ_cons, List.take_zero, List.drop_succ_cons, List.drop_zero]
    repeat still_step
    refine wpStill_nil ?_
    clear wj wr_
    go_wp2
    refine ⟨⟨11, by omega, rfl, ?_⟩, by simp [intOf]; omega⟩
    rw [HV'.out, HR.out]
    exact ⟨HW.out.set 1 3 X rfl⟩
   ·as_aux_lemma =>
    subst h
    clear HK
    have hV2 : V < 309485009821345068724781056 := hV
    have hy2 : y < 256 := hy
    have hR := rd_11 V y hV2 hy2
    have hx0 : V / 302231454903657293676544 % 67108864 < 1024 := by omega
    have hc := (H.out.cell 1 3 rfl (by show _ < 5; decide)).1
    have hf := (H.out.cell 1 3 rfl (by show _ < 5; decide)).2
    have hcv : (limbs V).getD 3 0 = V / 302231454903657293676544 % 67108864 := rfl
    rw [hcv] at hc
    clear hcv
    generalize V / 302231454903657293676544 % 67108864 = X0 at hR hx0 hc
    have E : bits .or .u64 (X0 : Int) (IntKind.u64.wrap (IntKind.u64.wrap (y : Int) * 1024)) = ((X0 + y * 1024 : Nat) : Int) := by
     have := or_shl X0 y 1024 10 rfl (by decide) hx0 hy
     exact this
    have hXb : X0 + y * 1024 < 67108864 := by omega
    generalize X0 + y * 1024 = X at E hR hXb
    have HR := Aside0.mk hR
    have HV' : Aside0 (dv (List.take (11 + 1) (bys s)) = V + 309485009821345068724781056 * y) := ⟨HDSk.out⟩
    have t0 : decide ((11 : Int) < (s.size : Int)) = true := decide_eq_true (by omega)
    have hle : 11 < s.size := hlt
    have t00 : (11 : Int) < (s.size : Int) := by omega
    clear hV hV2 hR hx0 hy hy2 h16 HDSk
    simp only [adr] at hc hf
    rw [show ((11 : Nat) : Int) = 11 from rfl]
    have t1 : decide (0 < (X : Int) / 67108864) = false := decide_eq_false (by omega)
    have t2 : decide (0 < X / 67108864) = false := decide_eq_false (by omega)
    clear hXb
    go_wp2_with (fail)
    refine wp_still_tail 13 (by kernel_rfl) (by kernel_rfl) ?_
    intro W hW
    have g1 : W.cell? ⟨w.heap.size + 1, 3, none⟩ = some (.int .u64 (X0 : Int)) := by rw [hW]; exact hc
    have gf : W.frozen? ⟨w.heap.size + 1, 3, none⟩ = false := by rw [hW]; exact hf
    have HW : Aside0 (PN w [List.replicate 5 0, limbs V] W) := ⟨by rw [hW]; exact H.out.drew⟩
    have wj : IntKind.i64.wrap 3 = 3 := by decide +kernel
    have wr_ : IntKind.i64.wrap 10 = 10 := by decide +kernel
    clear hW hc hf
    simp only [List.take_succ_cons, List.take_zero, List.drop_succ_cons, List.drop_zero]
    repeat still_step
    refine wpStill_nil ?_
    clear wj wr_
    go_wp2
    refine ⟨⟨12, by omega, rfl, ?_⟩, by simp [intOf]; omega⟩
    rw [HV'.out, HR.out]
    exact ⟨HW.out.set 1 3 X rfl⟩
   ·as_aux_lemma =>
    subst h
    clear HK
    have hV2 : V < 79228162514264337593543950336 := hV
    have hy2 : y < 256 := hy
    have hR := rd_12 V y hV2 hy2
    have hx0 : V / 302231454903657293676544 % 67108864 < 262144 := by omega
    have hc := (H.out.cell 1 3 rfl (by show _ < 5; decide)).1
    have hf := (H.out.cell 1 3 rfl (by show _ < 5; decide)).2
    have hcv : (limbs V).getD 3 0 = V / 302231454903657293676544 % 67108864 := rfl
    rw [hcv] at hc
    clear hcv
    generalize V / 302231454903657293676544 % 67108864 = X0 at hR hx0 hc
    have E : bits .or .u64 (X0 : Int) (IntKind.u64.wrap (IntKind.u64.wrap (y : Int) * 262144)) = ((X0 + y * 262144 : Nat) : Int) := by
     have := or_shl X0 y 262144 18 rfl (by decide) hx0 hy
     exact this
    have hXb : X0 + y * 262144 < 67108864 := by omega
    generalize X0 + y * 262144 = X at E hR hXb
    have HR := Aside0.mk hR
    have HV' : Aside0 (dv (List.take (12 + 1) (bys s)) = V + 79228162514264337593543950336 * y) := ⟨HDSk.out⟩
    have t0 : decide ((12 : Int) < (s.size : Int)) = true := decide_eq_true (by omega)
    have hle : 12 < s.size := hlt
    have t00 : (12 : Int) < (s.size : Int) := by omega
    clear hV hV2 hR hx0 hy hy2 h16 HDSk
    simp only [adr] at hc hf
    rw [show ((12 : Nat) : Int) = 12 from rfl]
    have t1 : decide (0 < (X : Int) / 67108864) = false := decide_eq_false (by omega)
    have t2 : decide (0 < X / 67108864) = false := decide_eq_false (by omega)
    clear hXb
    go_wp2_with (fail)
    refine wp_still_tail 13 (by kernel_rfl) (by kernel_rfl) ?_
    intro W hW
    have g1 : W.cell? ⟨w.heap.size + 1, 3, none⟩ = some (.int .u64 (X0 : Int)) := by rw [hW]; exact hc
    have gf : W.frozen? ⟨w.heap.size + 1, 3, none⟩ = false := by rw [hW]; exact hf
    have HW : Aside0 (PN w [List.replicate 5 0, limbs V] W) := ⟨by rw [hW]; exact H.out.drew⟩
    have wj : IntKind.i64.wrap 3 = 3 := by decide +kernel
    have wr_ : IntKind.i64.wrap 18 = 18 := by decide +kernel
    clear hW hc hf
    simp only [List.take_succ_cons, List.take_zero, List.drop_succ_cons, List.drop_zero]
    repeat still_step
    refine wpStill_nil ?_
    clear wj wr_
    go_wp2
    refine ⟨⟨13, by omega, rfl, ?_⟩, by simp [intOf]; omega⟩
    rw [HV'.out, HR.out]
    exact ⟨HW.out.set 1 3 X rfl⟩
   ·as_aux_lemma =>
    subst h
    clear HK
    have hV2 : V < 20282409603651670423947251286016 := hV
    have hy2 : y < 256 := hy
    have hR := rd_13 V y hV2 hy2
    have hx0 : V / 20282409603651670423947251286016 % 67108864 < 1 := by omega
    have hc := (H.out.cell 1 4 rfl (by show _ < 5; decide)).1
    have hf := (H.out.cell 1 4 rfl (by show _ < 5; decide)).2
    have hcv : (limbs V).getD 4 0 = V / 20282409603651670423947251286016 % 67108864 := rfl
    rw [hcv] at hc
    clear hcv
    generalize V / 20282409603651670423947251286016 % 67108864 = X0 at hR hx0 hc
    have E : bits .or .u64 (X0 : Int) (IntKind.u64.wrap (IntKind.u64.wrap (y : Int))) = ((X0 + y * 1 : Nat) : Int) := by
     have := or_shl X0 y 1 0 rfl (by decide) hx0 hy
     rw [show ((1 : Nat) : Int) = 1 from rfl, Int.mul_one, wraps_u64 (y : Int) (by omega) (by omega), wraps_u64 (y : Int) (by omega) (by omega)] at this
     rw [wraps_u64 (y : Int) (by omega) (by omega), wraps_u64 (y : Int) (by omega) (by omega), this, Nat.mul_one]
    have hXb : X0 + y * 1 < 67108864 := by omega
    generalize X0 + y * 1 = X at E hR hXb
    have HR := Aside0.mk hR
    have HV' : Aside0 (dv (List.take (13 + 1) (bys s)) = V + 20282409603651670423947251286016 * y) := ⟨HDSk.out⟩
    have t0 : decide ((13 : Int) < (s.size : Int)) = true := decide_eq_true (by omega)
    have hle : 13 < s.size := hlt
    have t00 : (13 : Int) < (s.size : Int) := by omega
    clear hV hV2 hR hx0 hy hy2 h16 HDSk
    simp only [adr] at hc hf
    rw [show ((13 : Nat) : Int) = 13 from rfl]
    have t1 : decide (0 < (X : Int) / 67108864) = false := decide_eq_false (by omega)
    have t2 : decide (0 < X / 67108864) = false := decide_eq_false (by omega)
    clear hXb
    go_wp2_with (fail)
    refine wp_still_tail 13 (by kernel_rfl) (by kernel_rfl) ?_
    intro W hW
    have g1 : W.cell? ⟨w.heap.size + 1, 4, none⟩ = some (.int .u64 (X0 : Int)) := by rw [hW]; exact hc
    have gf : W.frozen? ⟨w.heap.size + 1, 4, none⟩ = false := by rw [hW]; exact hf
    have HW : Aside0 (PN w [List.replicate 5 0, limbs V] W) := ⟨by rw [hW]; exact H.out.drew⟩
    have wj : IntKind.i64.wrap 4 = 4 := by decide +kernel
    have wr_ : IntKind.i64.wrap 0 = 0 := by decide +kernel
    clear hW hc hf
    simp only [List.take_succ_cons, List.take_zero, List.drop_succ_cons, List.drop_zero]
    repeat still_step
    refine wpStill_nil ?_
    clear wj wr_
    go_wp2
    refine ⟨⟨14, by omega, rfl, ?_⟩, by simp [intOf]; omega⟩
    rw [HV'.out, HR.out]
    exact ⟨HW.out.set 1 4 X rfl⟩
   ·as_aux_lemma =>
    subst h
    clear HK
    have hV2 : V < 5192296858534827628530496329220096 := hV
    have hy2 : y < 256 := hy
    have hR := rd_14 V y hV2 hy2
    have hx0 : V / 20282409603651670423947251286016 % 67108864 < 256 := by omega
    have hc := (H.out.cell 1 4 rfl (by show _ < 5; decide)).1
    have hf := (H.out.cell 1 4 rfl (by show _ < 5; decide)).2
    have hcv : (limbs V).getD 4 0 = V / 20282409603651670423947251286016 % 67108864 := rfl
    rw [hcv] at hc
    clear hcv
    generalize V / 20282409603651670423947251286016 % 67108864 = X0 at hR hx0 hc
    have E : bits .or .u64 (X0 : Int) (IntKind.u64.wrap (IntKind.u64.wrap (y : Int) * 256)) = ((X0 + y * 256 : Nat) : Int) := by
     have := or_shl X0 y 256 8 rfl (by decide) hx0 hy
     exact this
    have hXb : X0 + y * 256 < 67108864 := by omega
    generalize X0 + y * 256 = X at E hR hXb
    have HR := Aside0.mk hR
    have HV' : Aside0 (dv (List.take (14 + 1) (bys s)) = V + 5192296858534827628530496329220096 * y) := ⟨HDSk.out⟩
    have t0 : decide ((14 : Int) < (s.size : Int)) = true := decide_eq_true (by omega)
    have hle : 14 < s.size := hlt
    have t00 : (14 : Int) < (s.size : Int) := by omega
    clear hV hV2 hR hx0 hy hy2 h16 HDSk
    simp only [adr] at hc hf
    rw [show ((14 : Nat) : Int) = 14 from rfl]
    have t1 : decide (0 < (X : Int) / 67108864) = false := decide_eq_false (by omega)
    have t2 : decide (0 < X / 67108864) = false := decide_eq_false (by omega)
    clear hXb
    go_wp2_with (fail)
    refine wp_still_tail 13 (by kernel_rfl) (by kernel_rfl) ?_
    intro W hW
    have g1 : W.cell? ⟨w.heap.size + 1, 4, none⟩ = some (.int .u64 (X0 : Int)) := by rw [hW]; exact hc
    have gf : W.frozen? ⟨w.heap.size + 1, 4, none⟩ = false := by rw [hW]; exact hf
    have HW : Aside0 (PN w [List.replicate 5 0, limbs V] W) := ⟨by rw [hW]; exact H.out.drew⟩
    have wj : IntKind.i64.wrap 4 = 4 := by decide +kernel
    have wr_ : IntKind.i64.wrap 8 = 8 := by decide +kernel
    clear hW hc hf
    simp only [List.take_succ_cons, List.take_zero, List.drop_succ_cons, List.drop_zero]
    repeat still_step
    refine wpStill_nil ?_
    clear wj wr_
    go_wp2
    refine ⟨⟨15, by omega, rfl, ?_⟩, by simp [intOf]; omega⟩
    rw [HV'.out, HR.out]
    exact ⟨HW.out.set 1 4 X rfl⟩
   ·as_aux_lemma =>
    subst h
    clear HK
    have hV2 : V < 1329227995784915872903807060280344576 := hV
    have hy2 : y < 256 := hy
    have hR := rd_15 V y hV2 hy2
    have hx0 : V / 20282409603651670423947251286016 % 67108864 < 65536 := by omega
    have hc := (H.out.cell 1 4 rfl (by show _ < 5; decide)).1
    have hf := (H.out.cell 1 4 rfl (by show _ < 5; decide)).2
    have hcv : (limbs V).getD 4 0 = V / 20282409603651670423947251286016 % 67108864 := rfl
    rw [hcv] at hc
    clear hcv
    generalize V / 20282409603651670423947251286016 % 67108864 = X0 at hR hx0 hc
    have E : bits .or .u64 (X0 : Int) (IntKind.u64.wrap (IntKind.u64.wrap (y : Int) * 65536)) = ((X0 + y * 65536 : Nat) : Int) := by
     have := or_shl X0 y 65536 16 rfl (by decide) hx0 hy
     exact this
    have hXb : X0 + y * 65536 < 67108864 := by omega
    generalize X0 + y * 65536 = X at E hR hXb
    have HR := Aside0.mk hR
    have HV' : Aside0 (dv (List.take (15 + 1) (bys s)) = V + 1329227995784915872903807060280344576 * y) := ⟨HDSk.out⟩
    have t0 : decide ((15 : Int) < (s.size : Int)) = true := decide_eq_true (by omega)
    have hle : 15 < s.size := hlt
    have t00 : (15 : Int) < (s.size : Int) := by omega
    clear hV hV2 hR hx0 hy hy2 h16 HDSk
    simp only [adr] at hc hf
    rw [show ((15 : Nat) : Int) = 15 from rfl]
    have t1 : decide (0 < (X : Int) / 67108864) = false := decide_eq_false (by omega)
    have t2 : decide (0 < X / 67108864) = false := decide_eq_false (by omega)
    clear hXb
    go_wp2_with (fail)
    refine wp_still_tail 13 (by kernel_rfl) (by kernel_rfl) ?_
    intro W hW
    have g1 : W.cell? ⟨w.heap.size + 1, 4, none⟩ = some (.int .u64 (X0 : Int)) := by rw [hW]; exact hc
    have gf : W.frozen? ⟨w.heap.size + 1, 4, none⟩ = false := by rw [hW]; exact hf
    have HW : Aside0 (PN w [List.replicate 5 0, limbs V] W) := ⟨by rw [hW]; exact H.out.drew⟩
    have wj : IntKind.i64.wrap 4 = 4 := by decide +kernel
    have wr_ : IntKind.i64.wrap 16 = 16 := by decide +kernel
    clear hW hc hf
    simp only [List.take_succ_cons, List.take_zero, List.drop_succ_cons, List.drop_zero]
    repeat still_step
    refine wpStill_nil ?_
    clear wj wr_
    go_wp2
    refine ⟨⟨16, by omega, rfl, ?_⟩, by simp [intOf]; omega⟩
    rw [HV'.out, HR.out]
    exact ⟨HW.out.set 1 4 X rfl⟩
   ·as_aux_lemma =>
    subst h
    clear HK
    have hV2 : V < 340282366920938463463374607431768211456 := hV
    have hy2 : y < 4 := h16 rfl
    have hR := rd_16 V y hV2 hy2
    have hx0 : V / 20282409603651670423947251286016 % 67108864 < 16777216 := by omega
    have hc := (H.out.cell 1 4 rfl (by show _ < 5; decide)).1
    have hf := (H.out.cell 1 4 rfl (by show _ < 5; decide)).2
    have hcv : (limbs V).getD 4 0 = V / 20282409603651670423947251286016 % 67108864 := rfl
    rw [hcv] at hc
    clear hcv
    generalize V / 20282409603651670423947251286016 % 67108864 = X0 at hR hx0 hc
    have E : bits .or .u64 (X0 : Int) (IntKind.u64.wrap (IntKind.u64.wrap (y : Int) * 16777216)) = ((X0 + y * 16777216 : Nat) : Int) := by
     have := or_shl X0 y 16777216 24 rfl (by decide) hx0 hy
     exact this
    have hXb : X0 + y * 16777216 < 67108864 := by omega
    generalize X0 + y * 16777216 = X at E hR hXb
    have HR := Aside0.mk hR
    have HV' : Aside0 (dv (List.take (16 + 1) (bys s)) = V + 340282366920938463463374607431768211456 * y) := ⟨HDSk.out⟩
    have t0 : decide ((16 : Int) < (s.size : Int)) = true := decide_eq_true (by omega)
    have hle : 16 < s.size := hlt
    have t00 : (16 : Int) < (s.size : Int) := by omega
    clear hV hV2 hR hx0 hy hy2 h16 HDSk
    simp only [adr] at hc hf
    rw [show ((16 : Nat) : Int) = 16 from rfl]
    have t1 : decide (0 < (X : Int) / 67108864) = false := decide_eq_false (by omega)
    have t2 : decide (0 < X / 67108864) = false := decide_eq_false (by omega)
    clear hXb
    go_wp2_with (fail)
    refine wp_still_tail 13 (by kernel_rfl) (by kernel_rfl) ?_
    intro W hW
    have g1 : W.cell? ⟨w.heap.size + 1, 4, none⟩ = some (.int .u64 (X0 : Int)) := by rw [hW]; exact hc
    have gf : W.frozen? ⟨w.heap.size + 1, 4, none⟩ = false := by rw [hW]; exact hf
    have HW : Aside0 (PN w [List.replicate 5 0, limbs V] W) := ⟨by rw [hW]; exact H.out.drew⟩
    have wj : IntKind.i64.wrap 4 = 4 := by decide +kernel
    have wr_ : IntKind.i64.wrap 24 = 24 := by decide +kernel
    clear hW hc hf
    simp only [List.take_succ_cons, List.take_zero, List.drop_succ_cons, List.drop_zero]
    repeat still_step
    refine wpStill_nil ?_
    clear wj wr_
    go_wp2
    refine ⟨⟨17, by omega, rfl, ?_⟩, by simp [intOf]; omega⟩
    rw [HV'.out, HR.out]
    exact ⟨HW.out.set 1 4 X rfl⟩
  ·obtain rfl : k = s.size := by omega
   clear hlt hk
   have hr : dv ((bys s).take s.size) = dv (bys s) := by rw [← bys_length, List.take_length]
   rw [hr] at H
   have HCL := Aside0.mk (show (limbs (dv (bys s))).length = 5 from rfl)
   generalize hR : limbs (dv (bys s)) = r at *
   have HRe := Aside0.mk hR
   clear hR hr
   go_upto_region 12 with (fail)
   have hrow := H.out.rows 1 r rfl
   have hout := H.out.rows 0 _ rfl
   simp only [adr] at hrow hout
   have hsz : (Tryz.prog.info? 181).map (·.size) = some (u64s r).size := by rw [u64s_size, HCL.out]; exact HI.out
   have hsz2 : (u64s (List.replicate 5 0)).size = (u64s r).size := by rw [u64s_size, u64s_size, HCL.out]; rfl
   have HROW := Aside0.mk hrow
   have HOUT := Aside0.mk hout
   have HSZ := Aside0.mk hsz
   have HSZ2 := Aside0.mk hsz2
   clear hrow hout hsz hsz2
   go_wp2_with (first | (with_reducible refine wpList_load_row rfl 181 (.tmp 3) rfl (w.heap.size + 1) rfl 181 (u64s r) (0, 0) _ HROW.out Tryz.underlying181 rfl HSZ.out ?_) | (refine wpList_store_row rfl 181 (.tmp 2) (.tmp 49) rfl (w.heap.size) (u64s r) rfl rfl 181 _ HOUT.out HSZ.out HSZ2.out (u64s_one _) ?_))
   exact bodyPost_ret (results_cell_row Tryz.results150 _ _ (w.heap.size) 181 (u64s r) (0, 0) _ rfl (setRow_heap _ _ _ _ _ _ HOUT.out) Tryz.underlying181 rfl HSZ.out) rfl ⟨by first | (rw [HRe.out]; done) | (rw [HRe.out]; rfl) | rfl, below_setRow H.out.below (by omega) _⟩
def blkN (s : List Nat) (j : Nat) : Nat := dv ((s.drop (16 * j)).take 16 ++ [1])
def accL (r s : List Nat) : Nat → List Nat
 | 0 => List.replicate 5 0
 | j + 1 => car (mulL (addL (accL r s j) (limbs (blkN s j))) r)
def pmacL (key s : List Nat) : List Nat := outT (lv (whole (accL (limbs (dv (clampL (key.take 16)))) s ((s.length + 15) / 16)))) (key.drop 16) 16
theorem accL_lim {r : List Nat} (hr : Lim 67108864 r) (s : List Nat) : ∀ j, Lim 67141632 (accL r s j)
  | 0 => by
    have : accL r s 0 = [0, 0, 0, 0, 0] := rfl
    rw [this]; apply Lim.mk5 <;> decide
  | j + 1 => car_lim (mulL_lim ((addL_lim (accL_lim hr s j) (limbs_lim _)).mono (by decide)) hr)
def PN5 (r : List Nat) (a b c d e : Nat) : Prop := r = [a, b, c, d, e]
structure MA (w : World) (gr ga : Nat) (r a : List Nat) (W : World) : Prop where
 below : Below w.heap.size w W
 rrow : W.heap[gr]? = some (.cells (u64s r) 181 (0, 0))
 arow : W.heap[ga]? = some (.cells (u64s a) 181 (0, 0))
 ne : gr ≠ ga
 ge : w.heap.size ≤ ga
theorem MA.put5 {w W : World} {gr ga : Nat} {r a : List Nat} (h : MA w gr ga r a W) {x0 x1 x2 x3 x4 : Nat} (y0 y1 y2 y3 y4 : Nat) (ha : a = [x0, x1, x2, x3, x4] := by rfl) : MA w gr ga r [y0, y1, y2, y3, y4] (((((W.setCell ⟨ga, 0, none⟩ (.int .u64 (y0 : Int))).setCell ⟨ga, 1, none⟩ (.int .u64 (y1 : Int))).setCell ⟨ga, 2, none⟩ (.int .u64 (y2 : Int))).setCell ⟨ga, 3, none⟩ (.int .u64 (y3 : Int))).setCell ⟨ga, 4, none⟩ (.int .u64 (y4 : Int))) := by
 subst ha
 have hn := h.ne
 have hg := h.ge
 refine ⟨?_, ?_, ?_, hn, hg⟩
 ·exact below_set (below_set (below_set (below_set (below_set h.below hg) hg) hg) hg) hg
 ·exact blk_far (blk_far (blk_far (blk_far (blk_far h.rrow hn _) hn _) hn _) hn _) hn _
 ·exact blk_put (blk_put (blk_put (blk_put (blk_put h.arow 0 _ rfl) 1 _ rfl) 2 _ rfl) 3 _ rfl) 4 _ rfl
set_option maxRecDepth 100000 in
theorem poly_Mac.yes (a0 a1 : ByteArray) (w : World) (h0 : a0.size = 32) (h1 : a1.size ≤ 65536) :
  Calls Tryz.prog 104 #[.string a0, .string a1] w fun E w' => E = .returned (.tuple #[.string (txt (pmacL (bys a0) (bys a1))), .int .i64 0]) ∧ Below w.heap.size w w' := by
 have hcl := poly_Clamp.yes (a0.extract 0 16)
 have hks : (a0.extract 0 16).size = 16 := by rw [ByteArray.size_extract]; omega
 have HCL := Aside0.mk (fun W => hcl W hks)
 clear hcl hks
 have hsz : (txt (clampL (bys (a0.extract 0 16)))).size = 16 := by rw [txt_size, clampL_length, bys_length, ByteArray.size_extract]; omega
 have hb : bys (txt (clampL (bys (a0.extract 0 16)))) = clampL (bys (a0.extract 0 16)) := bys_txt (clampL_lt _ (bys_lt _))
 have hrd := fun W => poly_read_calls (txt (clampL (bys (a0.extract 0 16)))) W (by omega) (by rw [List.getD_eq_getElem?_getD, List.getElem?_eq_none (by rw [bys_length]; omega)]; decide)
 rw [hb] at hrd
 have HRD := Aside0.mk hrd
 clear hrd hb hsz
 have t1 : ((a0.size : Int) != 32) = false := by rw [bne_eq_false_iff_eq]; omega
 have t2 : decide (65536 < (a1.size : Int)) = false := decide_eq_false (by omega)
 go_enter Tryz.func104, Tryz.ntmps104
 go_wp2_with (fail)
 refine (HCL.out _).mono ?_
 rintro e w1 ⟨rfl, hb1⟩
 have HKe : Aside0 (clampL (bys (a0.extract 0 16)) = clampL ((bys a0).take 16)) := ⟨by rw [bys_extract]; rfl⟩
 have hrl := limbs_lim (dv (clampL (bys (a0.extract 0 16))))
 have HRe : Aside0 (limbs (dv (clampL (bys (a0.extract 0 16)))) = limbs (dv (clampL ((bys a0).take 16)))) := ⟨by rw [HKe.out]⟩
 have hi : ∀ m : List Nat, m.length = 5 → (Tryz.prog.info? 181).map (·.size) = some (u64s m).size := by intro m hm; rw [u64s_size, hm]; kernel_rfl
 have HI := Aside0.mk hi
 clear hi
 go_wp2_with (fail)
 refine (HRD.out _).mono ?_
 generalize limbs (dv (clampL (bys (a0.extract 0 16)))) = r at hrl HRe ⊢
 have HRL := Aside0.mk hrl
 clear hrl HRD
 rintro e w2 ⟨rfl, hb2⟩
 go_upto_region 5 with (refine wpList_store_row rfl 181 (.tmp 8) (.tmp 26) rfl _ (u64s r) rfl rfl 181 _ (heap_alloc_last _ _) (HI.out r HRL.out.len) (by rw [u64s_size, HRL.out.len]; rfl) (u64s_one _) ?_; rw [World.setRow_alloc_new])
 go_wp2_with (fail)
 have HS : Aside0 (a1 = a1.extract (min (16 * 0) a1.size) a1.size) := ⟨by simp⟩
 have H : Aside0 (MA w w2.heap.size (w2.heap.size + 1) r (accL r (bys a1) 0) ((w2.alloc (.cells (u64s r) 181)).alloc (.cells (u64s (List.replicate 5 0)) 181))) := ⟨⟨below_alloc (below_alloc (below_then hb1 hb1.size hb2) _) _, blk_alloc (blk_new _ _) _, by
  have := blk_new (w2.alloc (.cells (u64s r) 181)) (.cells (u64s (List.replicate 5 0)) 181)
  rwa [show (w2.alloc (.cells (u64s r) 181)).heap.size = w2.heap.size + 1 by simp] at this, by omega, Nat.le_succ_of_le (Nat.le_trans hb1.size hb2.size)⟩⟩
 have e5 : #[Value.int IntKind.u64 0, Value.int IntKind.u64 0, Value.int IntKind.u64 0, Value.int IntKind.u64 0, Value.int IntKind.u64 0] = u64s (List.replicate 5 0) := rfl
 rw [e5]
 clear e5 hb1 hb2
 generalize (w2.alloc (.cells (u64s r) 181)).alloc (.cells (u64s (List.replicate 5 0)) 181) = W0 at H ⊢
 generalize w2.heap.size + 1 = ga at H ⊢
 generalize w2.heap.size = gr at H ⊢
 go_loopw [1] (fun s wr => ∃ j : Nat, 16 * j < a1.size + 16 ∧ s = .string (a1.extract (min (16 * j) a1.size) a1.size) ∧ Aside0 (MA w gr ga r (accL r (bys a1) j) wr)) (fun s _ => (match s with | .string t => t.size | _ => 0))
 case atStart => exact ⟨0, by omega, by rw [← HS.out], H⟩
 case round =>
  clear H
  obtain ⟨j, hj, rfl, H⟩ := hrel
  have hts : (a1.extract (min (16 * j) a1.size) a1.size).size = a1.size - 16 * j := by rw [ByteArray.size_extract]; omega
  have htb : bys (a1.extract (min (16 * j) a1.size) a1.size) = (bys a1).drop (16 * j) := by
   rw [bys_extract]
   by_cases hc : 16 * j ≤ a1.size
   ·rw [Nat.min_eq_left hc, List.take_of_length_le (by rw [List.length_drop, bys_length]; omega)]
   ·rw [Nat.min_eq_right (by omega), List.drop_of_length_le (by rw [bys_length]; omega), List.drop_of_length_le (by rw [bys_length]; omega)]; simp
  have hte : ∀ q, q ≤ a1.size - 16 * j → (a1.extract (min (16 * j) a1.size) a1.size).extract q (a1.size - 16 * j) = a1.extract (min (16 * j) a1.size + q) a1.size := by
   intro q hq
   rw [ByteArray.extract_extract]
   congr 1
   omega
  by_cases hlt : 16 * j < a1.size
  ·generalize a1.extract (min (16 * j) a1.size) a1.size = τ at hts htb hte ⊢
   have hne : τ.toList.isEmpty = false := by
    rw [ByteArray.toList_eq]
    cases hl : τ.data.toList with
    | nil => have := data_length τ; rw [hl] at this; simp at this; omega
    | cons x l => rfl
   have HTB := Aside0.mk htb
   have HTE := Aside0.mk hte
   have HTS := Aside0.mk hts
   have hpos : 0 < τ.size := by omega
   have hle : τ.size ≤ 65536 := by omega
   clear htb hte hts
   go_upto_region 8 with (fail)
   rw [show min 16 (τ.size : Int) = ((min 16 τ.size : Nat) : Int) by omega]
   have hq1 : min 16 τ.size ≤ τ.size := by omega
   have hq2 : min 16 τ.size ≤ 16 := by omega
   have hq3 : 0 < min 16 τ.size := by omega
   have HQ : Aside0 (min 16 τ.size = 16 ∨ min 16 τ.size = τ.size) := ⟨by omega⟩
   generalize min 16 τ.size = q at hq1 hq2 hq3 HQ ⊢
   have hT : bys (τ.extract 0 q ++ ⟨#[1]⟩) = ((bys a1).drop (16 * j)).take 16 ++ [1] := by
    rw [bys_append, bys_extract, HTB.out, List.drop_zero, Nat.sub_zero]
    congr 1
    rcases HQ.out with h | h
    ·rw [h]
    ·rw [h, HTS.out, List.take_of_length_le (by rw [List.length_drop, bys_length]; omega), List.take_of_length_le (by rw [List.length_drop, bys_length]; have := HTS.out; omega)]
   have hTs : (τ.extract 0 q ++ (⟨#[1]⟩ : ByteArray)).size ≤ 17 := by
    rw [ByteArray.size_append, ByteArray.size_extract]; show min q τ.size - 0 + 1 ≤ 17; omega
   have h16 : (bys (τ.extract 0 q ++ ⟨#[1]⟩)).getD 16 0 < 4 := by
    rw [hT, List.getD_eq_getElem?_getD]
    generalize hB : ((bys a1).drop (16 * j)).take 16 = B
    have hBl : B.length ≤ 16 := by rw [← hB, List.length_take]; omega
    by_cases hB16 : B.length = 16
    ·rw [List.getElem?_append_right (by omega), hB16]; decide
    ·rw [List.getElem?_eq_none (by rw [List.length_append]; simp; omega)]; decide
   have HRT : Aside0 (∀ W, Calls Tryz.prog 150 #[.string (τ.extract 0 q ++ ⟨#[1]⟩)] W fun E w' => E = .returned (.agg (u64s (limbs (blkN (bys a1) j)))) ∧ Below W.heap.size W w') := ⟨fun W => by
    have := poly_read_calls _ W hTs h16
    rw [hT] at this
    exact this⟩
   have hNl := limbs_lim (blkN (bys a1) j)
   have hacc : accL r (bys a1) (j + 1) = car (mulL (addL (accL r (bys a1) j) (limbs (blkN (bys a1) j))) r) := rfl
   have hAl := accL_lim HRL.out (bys a1) j
   generalize limbs (blkN (bys a1) j) = N at HRT hNl hacc
   have hAD := fun W => number_add_calls (accL r (bys a1) j) N W (hAl.mono (by decide)) (hNl.mono (by decide))
   have hDl : Lim 268435456 (addL (accL r (bys a1) j) N) := (addL_lim hAl hNl).mono (by decide)
   generalize addL (accL r (bys a1) j) N = D at hacc hAD hDl
   have hTM := fun W => number_times_calls D r W hDl HRL.out
   have hCl : (car (mulL D r)).length = 5 := by rw [car_length]; simp [mulL]
   rw [← hacc] at hTM hCl
   obtain ⟨y0, y1, y2, y3, y4, hy⟩ := five hCl
   obtain ⟨x0, x1, x2, x3, x4, hx⟩ := five hAl.len
   obtain ⟨r0, r1, r2, r3, r4, hr⟩ := five HRL.out.len
   have HY := Aside0.mk hy
   rw [hy] at hTM
   rw [hx] at hAD H
   rw [hr] at hTM
   have HRr : Aside0 (PN5 r r0 r1 r2 r3 r4) := ⟨hr⟩
   have hrr := H.out.rrow
   rw [hr] at hrr
   have HAD : Aside0 (∀ W, Calls Tryz.prog 151 #[.agg #[.int .u64 (x0 : Int), .int .u64 (x1 : Int), .int .u64 (x2 : Int), .int .u64 (x3 : Int), .int .u64 (x4 : Int)], .agg (u64s N)] W fun e w' => e = .returned (.agg (u64s D)) ∧ Below W.heap.size W w') := ⟨hAD⟩
   have HTM : Aside0 (∀ W, Calls Tryz.prog 152 #[.agg (u64s D), .agg #[.int .u64 (r0 : Int), .int .u64 (r1 : Int), .int .u64 (r2 : Int), .int .u64 (r3 : Int), .int .u64 (r4 : Int)]] W fun e w' => e = .returned (.agg #[.int .u64 (y0 : Int), .int .u64 (y1 : Int), .int .u64 (y2 : Int), .int .u64 (y3 : Int), .int .u64 (y4 : Int)]) ∧ Below W.heap.size W w') := ⟨hTM⟩
   have ca0 : wr.cell? ⟨ga, 0, none⟩ = some (.int .u64 (x0 : Int)) := blk_cell H.out.arow 0
   have ca1 : wr.cell? ⟨ga, 1, none⟩ = some (.int .u64 (x1 : Int)) := blk_cell H.out.arow 1
   have ca2 : wr.cell? ⟨ga, 2, none⟩ = some (.int .u64 (x2 : Int)) := blk_cell H.out.arow 2
   have ca3 : wr.cell? ⟨ga, 3, none⟩ = some (.int .u64 (x3 : Int)) := blk_cell H.out.arow 3
   have ca4 : wr.cell? ⟨ga, 4, none⟩ = some (.int .u64 (x4 : Int)) := blk_cell H.out.arow 4
   have cr0 : wr.cell? ⟨gr, 0, none⟩ = some (.int .u64 (r0 : Int)) := blk_cell hrr 0
   have cr1 : wr.cell? ⟨gr, 1, none⟩ = some (.int .u64 (r1 : Int)) := blk_cell hrr 1
   have cr2 : wr.cell? ⟨gr, 2, none⟩ = some (.int .u64 (r2 : Int)) := blk_cell hrr 2
   have cr3 : wr.cell? ⟨gr, 3, none⟩ = some (.int .u64 (r3 : Int)) := blk_cell hrr 3
   have cr4 : wr.cell? ⟨gr, 4, none⟩ = some (.int .u64 (r4 : Int)) := blk_cell hrr 4
   have k3 : (9223372036854775807 < q + 1) = False := eq_false (by omega)
   have kq : (q : Int) ≤ (τ.size : Int) := by omega
   clear hT hTs h16 hNl hacc hAl hAD hDl hTM hCl hy hx hr hrr
   refine start_ (n := 10) (S := fun w' => w'.cell? ⟨ga, 0, none⟩ = some (.int .u64 (x0 : Int)) ∧ w'.cell? ⟨ga, 1, none⟩ = some (.int .u64 (x1 : Int)) ∧ w'.cell? ⟨ga, 2, none⟩ = some (.int .u64 (x2 : Int)) ∧ w'.cell? ⟨ga, 3, none⟩ = some (.int .u64 (x3 : Int)) ∧ w'.cell? ⟨ga, 4, none⟩ = some (.int .u64 (x4 : Int)) ∧ w'.cell? ⟨gr, 0, none⟩ = some (.int .u64 (r0 : Int)) ∧ w'.cell? ⟨gr, 1, none⟩ = some (.int .u64 (r1 : Int)) ∧ w'.cell? ⟨gr, 2, none⟩ = some (.int .u64 (r2 : Int)) ∧ w'.cell? ⟨gr, 3, none⟩ = some (.int .u64 (r3 : Int)) ∧ w'.cell? ⟨gr, 4, none⟩ = some (.int .u64 (r4 : Int))) (ds := [9]) #[false, false, false, false, false, false, false, false, false, false] (by kernel_rfl) rfl rfl ⟨(show _ from ca0), (show _ from ca1), (show _ from ca2), (show _ from ca3), (show _ from ca4), (show _ from cr0), (show _ from cr1), (show _ from cr2), (show _ from cr3), (show _ from cr4)⟩ (fun hHeld => ?_)
   refine pz_ 1 33 rfl rfl (by kernel_rfl) ?_
   refine pz_ 2 34 rfl rfl (by kernel_rfl) ?_
   refine pz_ 3 35 rfl rfl (by kernel_rfl) ?_
   refine pz_ 4 36 rfl rfl (by kernel_rfl) ?_
   refine take_ (i := 0) (N := some 32) (v := ?_) (a' := ?_) #[true, true, true, true, true, false, false, false, false, false] rfl rfl (by kernel_rfl) (fun _ _ _ h => h) (Or.inl ⟨by rfl, ?_⟩) hHeld ?_ ?_
   rotate_left
   ·rintro w' ⟨s0, s1, s2, s3, s4, s5, s6, s7, s8, s9⟩
    go_simp
    with_reducible rfl
   rotate_left
   ·simp only [Act.put, List.setIfInBounds_toArray, List.set_cons_zero, List.set_cons_succ, i64_w, i32_w]
    rfl
   refine take_ (i := 7) (N := some 39) (v := ?_) (a' := ?_) #[true, true, true, true, true, false, false, true, false, false] rfl rfl (by kernel_rfl) (fun _ _ _ h => h) (Or.inl ⟨by rfl, ?_⟩) hHeld ?_ ?_
   rotate_left
   ·rintro w' ⟨s0, s1, s2, s3, s4, s5, s6, s7, s8, s9⟩
    go_simp
    with_reducible rfl
   rotate_left
   ·simp only [Act.put, List.setIfInBounds_toArray, List.set_cons_zero, List.set_cons_succ, i64_w, i32_w]
    rfl
   refine one_ (i := 5) (N := some 37) #[true, true, true, true, true, true, false, true, false, false] rfl rfl (by kernel_rfl) (by decide) (fun K hK => ?_)
   refine goes_ Tryz.func150 (by kernel_rfl) rfl #[.string (τ.extract 0 q ++ ⟨#[1]⟩)] (by rfl) rfl rfl (by simp only [List.map_toArray, List.map_cons, List.map_nil]; rfl) ?_
   with_reducible refine (HRT.out _).mono ?_
   rintro e w3 ⟨rfl, hb3⟩
   refine ⟨_, rfl, ?_⟩
   refine hK.out _ _ ⟨(pw_cell_below hb3 (show _ from ca0)), (pw_cell_below hb3 (show _ from ca1)), (pw_cell_below hb3 (show _ from ca2)), (pw_cell_below hb3 (show _ from ca3)), (pw_cell_below hb3 (show _ from ca4)), (pw_cell_below hb3 (show _ from cr0)), (pw_cell_below hb3 (show _ from cr1)), (pw_cell_below hb3 (show _ from cr2)), (pw_cell_below hb3 (show _ from cr3)), (pw_cell_below hb3 (show _ from cr4))⟩ (fun hHeld => ?_)
   clear hK K
   refine norm_ sa_ ?_
   refine one_ (i := 6) (N := some 38) #[true, true, true, true, true, true, true, true, false, false] rfl rfl (by kernel_rfl) (by decide) (fun K hK => ?_)
   refine goes_ Tryz.func151 (by kernel_rfl) rfl #[.agg #[.int .u64 (x0 : Int), .int .u64 (x1 : Int), .int .u64 (x2 : Int), .int .u64 (x3 : Int), .int .u64 (x4 : Int)], .agg (u64s N)] (by rfl) rfl rfl (by simp only [List.map_toArray, List.map_cons, List.map_nil]; rfl) ?_
   with_reducible refine (HAD.out _).mono ?_
   rintro e w4 ⟨rfl, hb4⟩
   refine ⟨_, rfl, ?_⟩
   refine hK.out _ _ ⟨(pw_cell_below hb4 (pw_cell_below hb3 (show _ from ca0))), (pw_cell_below hb4 (pw_cell_below hb3 (show _ from ca1))), (pw_cell_below hb4 (pw_cell_below hb3 (show _ from ca2))), (pw_cell_below hb4 (pw_cell_below hb3 (show _ from ca3))), (pw_cell_below hb4 (pw_cell_below hb3 (show _ from ca4))), (pw_cell_below hb4 (pw_cell_below hb3 (show _ from cr0))), (pw_cell_below hb4 (pw_cell_below hb3 (show _ from cr1))), (pw_cell_below hb4 (pw_cell_below hb3 (show _ from cr2))), (pw_cell_below hb4 (pw_cell_below hb3 (show _ from cr3))), (pw_cell_below hb4 (pw_cell_below hb3 (show _ from cr4)))⟩ (fun hHeld => ?_)
   clear hK K
   refine norm_ sa_ ?_
   refine one_ (i := 8) (N := some 40) #[true, true, true, true, true, true, true, true, true, false] rfl rfl (by kernel_rfl) (by decide) (fun K hK => ?_)
   refine goes_ Tryz.func152 (by kernel_rfl) rfl #[.agg (u64s D), .agg #[.int .u64 (r0 : Int), .int .u64 (r1 : Int), .int .u64 (r2 : Int), .int .u64 (r3 : Int), .int .u64 (r4 : Int)]] (by rfl) rfl rfl (by simp only [List.map_toArray, List.map_cons, List.map_nil]; rfl) ?_
   with_reducible refine (HTM.out _).mono ?_
   rintro e w5 ⟨rfl, hb5⟩
   refine ⟨_, rfl, ?_⟩
   have hrow5 := blk_below (blk_below (blk_below (blk_drew H.out.arow) hb3) hb4) hb5
   have hbel5 := below_then (below_then (below_then (below_drew H.out.below) H.out.below.size hb3) (Nat.le_trans H.out.below.size hb3.size) hb4) (Nat.le_trans (Nat.le_trans H.out.below.size hb3.size) hb4.size) hb5
   have hrr5 := blk_below (blk_below (blk_below (blk_drew H.out.rrow) hb3) hb4) hb5
   have kf : ∀ i, w5.frozen? ⟨ga, i, none⟩ = false := fun i => blk_frozen hrow5 i
   refine hK.out _ _ ⟨(pw_cell_below hb5 (pw_cell_below hb4 (pw_cell_below hb3 (show _ from ca0)))), (pw_cell_below hb5 (pw_cell_below hb4 (pw_cell_below hb3 (show _ from ca1)))), (pw_cell_below hb5 (pw_cell_below hb4 (pw_cell_below hb3 (show _ from ca2)))), (pw_cell_below hb5 (pw_cell_below hb4 (pw_cell_below hb3 (show _ from ca3)))), (pw_cell_below hb5 (pw_cell_below hb4 (pw_cell_below hb3 (show _ from ca4)))), (pw_cell_below hb5 (pw_cell_below hb4 (pw_cell_below hb3 (show _ from cr0)))), (pw_cell_below hb5 (pw_cell_below hb4 (pw_cell_below hb3 (show _ from cr1)))), (pw_cell_below hb5 (pw_cell_below hb4 (pw_cell_below hb3 (show _ from cr2)))), (pw_cell_below hb5 (pw_cell_below hb4 (pw_cell_below hb3 (show _ from cr3)))), (pw_cell_below hb5 (pw_cell_below hb4 (pw_cell_below hb3 (show _ from cr4))))⟩ (fun hHeld => ?_)
   clear hK K
   refine norm_ sa_ ?_
   refine last_ (i := 9) (N := none) #[true, true, true, true, true, true, true, true, true, true] rfl rfl (by kernel_rfl) (by decide) (fun K hK => ?_)
   refine skip_ (w1 := ?_) (by rfl) rfl ?_ ?_
   rotate_left
   ·go_simp
    rfl
   refine hK.out _ _ ?_
   clear hK K
   refine done_ (by kernel_rfl) ?_
   have HN : Aside0 (MA w gr ga r (accL r (bys a1) (j + 1)) (((((w5.setCell ⟨ga, 0, none⟩ (.int .u64 (y0 : Int))).setCell ⟨ga, 1, none⟩ (.int .u64 (y1 : Int))).setCell ⟨ga, 2, none⟩ (.int .u64 (y2 : Int))).setCell ⟨ga, 3, none⟩ (.int .u64 (y3 : Int))).setCell ⟨ga, 4, none⟩ (.int .u64 (y4 : Int)))) := ⟨by
    rw [HY.out]
    exact MA.put5 ⟨hbel5, hrr5, hrow5, H.out.ne, H.out.ge⟩ y0 y1 y2 y3 y4⟩
   clear ca0 ca1 ca2 ca3 ca4 cr0 cr1 cr2 cr3 cr4 hHeld kf k3 hrow5 hbel5 hrr5 hb3 hb4 hb5 H
   generalize (((((w5.setCell ⟨ga, 0, none⟩ (.int .u64 (y0 : Int))).setCell ⟨ga, 1, none⟩ (.int .u64 (y1 : Int))).setCell ⟨ga, 2, none⟩ (.int .u64 (y2 : Int))).setCell ⟨ga, 3, none⟩ (.int .u64 (y3 : Int))).setCell ⟨ga, 4, none⟩ (.int .u64 (y4 : Int))) = W6 at HN ⊢
   go_wp2
   rw [show τ.extract q τ.size = a1.extract (min (16 * (j + 1)) a1.size) a1.size by
    have := HTE.out q (by have := HTS.out; omega)
    rw [← HTS.out] at this
    rw [this]
    congr 1
    have := HTS.out
    rcases HQ.out with h | h <;> omega]
   refine ⟨⟨j + 1, by omega, rfl, HN⟩, ?_⟩
   show (a1.extract (min (16 * (j + 1)) a1.size) a1.size).size < τ.size
   rw [ByteArray.size_extract, HTS.out]
   omega
  ·have he : a1.extract (min (16 * j) a1.size) a1.size = ⟨#[]⟩ := by
    apply ByteArray.ext
    apply Array.eq_empty_of_size_eq_zero
    show (a1.extract (min (16 * j) a1.size) a1.size).size = 0
    omega
   have hjn : (a1.size + 15) / 16 = j := by omega
   rw [he]
   clear hts htb hte he
   have HM : Aside0 (pmacL (bys a0) (bys a1) = outT (lv (whole (accL r (bys a1) j))) ((bys a0).drop 16) 16) := ⟨by
    unfold pmacL
    rw [bys_length, hjn, ← HRe.out]⟩
   have hAl := accL_lim HRL.out (bys a1) j
   generalize accL r (bys a1) j = A at H HM hAl
   have hWl : Lim 67108864 (whole A) := whole_lim (hAl.mono (by decide))
   have hWH := fun W => number_whole_calls A W (hAl.mono (by decide))
   obtain ⟨x0, x1, x2, x3, x4, hx⟩ := five hAl.len
   obtain ⟨z0, z1, z2, z3, z4, hz⟩ := five hWl.len
   rw [hz] at hWH HM hWl
   rw [hx] at hWH H
   have hBY := fun W => number_bytes_calls z0 z1 z2 z3 z4 (a0.extract 16 32) W hWl (by rw [ByteArray.size_extract]; omega)
   have hbk : bys (a0.extract 16 32) = (bys a0).drop 16 := by
    rw [bys_extract, List.take_of_length_le (by rw [List.length_drop, bys_length]; omega)]
   rw [hbk] at hBY
   have HWH : Aside0 (∀ W, Calls Tryz.prog 153 #[.agg #[.int .u64 (x0 : Int), .int .u64 (x1 : Int), .int .u64 (x2 : Int), .int .u64 (x3 : Int), .int .u64 (x4 : Int)]] W fun e w' => e = .returned (.agg #[.int .u64 (z0 : Int), .int .u64 (z1 : Int), .int .u64 (z2 : Int), .int .u64 (z3 : Int), .int .u64 (z4 : Int)]) ∧ Below W.heap.size W w') := ⟨hWH⟩
   have HBY : Aside0 (∀ W, Calls Tryz.prog 154 #[.agg #[.int .u64 (z0 : Int), .int .u64 (z1 : Int), .int .u64 (z2 : Int), .int .u64 (z3 : Int), .int .u64 (z4 : Int)], .string (a0.extract 16 32)] W fun e w' => e = .returned (.string (txt (outT (lv [z0, z1, z2, z3, z4]) ((bys a0).drop 16) 16))) ∧ Below W.heap.size W w') := ⟨hBY⟩
   have HHM := HM
   generalize outT (lv [z0, z1, z2, z3, z4]) ((bys a0).drop 16) 16 = M at HHM HBY
   have ca0 : wr.cell? ⟨ga, 0, none⟩ = some (.int .u64 (x0 : Int)) := blk_cell H.out.arow 0
   have ca1 : wr.cell? ⟨ga, 1, none⟩ = some (.int .u64 (x1 : Int)) := blk_cell H.out.arow 1
   have ca2 : wr.cell? ⟨ga, 2, none⟩ = some (.int .u64 (x2 : Int)) := blk_cell H.out.arow 2
   have ca3 : wr.cell? ⟨ga, 3, none⟩ = some (.int .u64 (x3 : Int)) := blk_cell H.out.arow 3
   have ca4 : wr.cell? ⟨ga, 4, none⟩ = some (.int .u64 (x4 : Int)) := blk_cell H.out.arow 4
   have HBE := Aside0.mk H.out.below
   have k32 : (16 : Int) ≤ (a0.size : Int) := by omega
   clear hjn hAl hWl hWH hBY hx hz hbk HM hlt hj t1 t2
   go_upto_region 10 with (fail)
   refine start_ (n := 7) (S := fun w' => w'.cell? ⟨ga, 0, none⟩ = some (.int .u64 (x0 : Int)) ∧ w'.cell? ⟨ga, 1, none⟩ = some (.int .u64 (x1 : Int)) ∧ w'.cell? ⟨ga, 2, none⟩ = some (.int .u64 (x2 : Int)) ∧ w'.cell? ⟨ga, 3, none⟩ = some (.int .u64 (x3 : Int)) ∧ w'.cell? ⟨ga, 4, none⟩ = some (.int .u64 (x4 : Int))) (ds := []) #[false, false, false, false, false, false, false] (by kernel_rfl) rfl rfl ⟨(show _ from ca0), (show _ from ca1), (show _ from ca2), (show _ from ca3), (show _ from ca4)⟩ (fun hHeld => ?_)
   refine pz_ 2 46 rfl rfl (by kernel_rfl) ?_
   refine pz_ 3 47 rfl rfl (by kernel_rfl) ?_
   refine take_ (i := 0) (N := some 44) (v := ?_) (a' := ?_) #[true, false, true, true, false, false, false] rfl rfl (by kernel_rfl) (fun _ _ _ h => h) (Or.inl ⟨by rfl, ?_⟩) hHeld ?_ ?_
   rotate_left
   ·rintro w' ⟨s0, s1, s2, s3, s4⟩
    go_simp
    with_reducible rfl
   rotate_left
   ·simp only [Act.put, List.setIfInBounds_toArray, List.set_cons_zero, List.set_cons_succ, i64_w, i32_w]
    rfl
   refine one_ (i := 1) (N := some 45) #[true, true, true, true, false, false, false] rfl rfl (by kernel_rfl) (by decide) (fun K hK => ?_)
   refine goes_ Tryz.func153 (by kernel_rfl) rfl #[.agg #[.int .u64 (x0 : Int), .int .u64 (x1 : Int), .int .u64 (x2 : Int), .int .u64 (x3 : Int), .int .u64 (x4 : Int)]] (by rfl) rfl rfl (by simp only [List.map_toArray, List.map_cons, List.map_nil]; rfl) ?_
   with_reducible refine (HWH.out _).mono ?_
   rintro e w3 ⟨rfl, hb3⟩
   refine ⟨_, rfl, ?_⟩
   refine hK.out _ _ ⟨(pw_cell_below hb3 (show _ from ca0)), (pw_cell_below hb3 (show _ from ca1)), (pw_cell_below hb3 (show _ from ca2)), (pw_cell_below hb3 (show _ from ca3)), (pw_cell_below hb3 (show _ from ca4))⟩ (fun hHeld => ?_)
   clear hK K
   refine norm_ sa_ ?_
   refine one_ (i := 4) (N := some 48) #[true, true, true, true, true, false, false] rfl rfl (by kernel_rfl) (by decide) (fun K hK => ?_)
   refine goes_ Tryz.func154 (by kernel_rfl) rfl #[.agg #[.int .u64 (z0 : Int), .int .u64 (z1 : Int), .int .u64 (z2 : Int), .int .u64 (z3 : Int), .int .u64 (z4 : Int)], .string (a0.extract 16 32)] (by rfl) rfl rfl (by simp only [List.map_toArray, List.map_cons, List.map_nil]; rfl) ?_
   with_reducible refine (HBY.out _).mono ?_
   rintro e w4 ⟨rfl, hb4⟩
   refine ⟨_, rfl, ?_⟩
   refine hK.out _ _ ⟨(pw_cell_below hb4 (pw_cell_below hb3 (show _ from ca0))), (pw_cell_below hb4 (pw_cell_below hb3 (show _ from ca1))), (pw_cell_below hb4 (pw_cell_below hb3 (show _ from ca2))), (pw_cell_below hb4 (pw_cell_below hb3 (show _ from ca3))), (pw_cell_below hb4 (pw_cell_below hb3 (show _ from ca4)))⟩ (fun hHeld => ?_)
   clear hK K
   refine norm_ sa_ ?_
   refine pz_ 5 4 rfl rfl (by kernel_rfl) ?_
   refine pz_ 6 5 rfl rfl (by kernel_rfl) ?_
   refine done_ (by kernel_rfl) ?_
   have hbel := below_then (below_then (below_drew HBE.out) HBE.out.size hb3) (Nat.le_trans HBE.out.size hb3.size) hb4
   have HBL := Aside0.mk hbel
   clear hbel hb3 hb4 hHeld ca0 ca1 ca2 ca3 ca4 k32
   go_wp2
   go_ret2
   exact ⟨by first | (rw [HHM.out]; done) | (rw [HHM.out]; rfl), HBL.out⟩
end Go.Proofs.YtbkbganflnemeaaGreat.Pr
end

section
namespace Go.Proofs.YtbkbganflnemeaaGreat.Pr
open Go.RowKit Go.Proofs.YtbkbganflnemeaaGreatW.PrintWords Go.Proofs.YtbkbganflnemeaaGreatW.PrintLast Go.Proofs.YtbkbganflnemeaaGreatW.PrintMore
attribute [local go_sem] max2_int min2_int max_two min_two max_three min_three max_four min_four
def word_PutSmall.f (l0 : List Int) : Option (ByteArray) := (word_put.f l0 true).bind fun t205 => (some t205)
set_option maxHeartbeats 8000000 in
set_option maxRecDepth 100000 in
theorem word_PutSmall.calls (A0 : Option Addr) (c0 : Nat) (l0 : List Int) (r : ByteArray) (w : World) (hr0 : Kd.C (Kd.int .i64) w A0 l0.length l0) (hc0 : l0.length ≤ c0) (h : word_PutSmall.f l0 = some r) :
  Calls Tryz.prog 106 #[.slice A0 l0.length c0] w fun e w' => e = .returned (.string r) ∧ Below w.heap.size w w' := by
 have HR0 := Aside0.mk hr0; have HC0 := Aside0.mk hc0; clear hr0 hc0; have HB := Aside0.mk (Below.refl w.heap.size w); have H : ((word_put.f l0 true).bind fun t205 => (some t205)) = some r := h; clear h; replace H := Option.bind_eq_some_iff.mp H; obtain ⟨t205, A20, H⟩ := H; have A2 := Aside0.mk A20; clear A20; obtain rfl := Option.some.inj H; go_enter Tryz.func106, Tryz.ntmps106
 go_wp2_with (first | ((with_reducible refine gate_callee (f := 117) rfl ?_); refine gl_ 4 Tryz.func117 #[.slice A0 l0.length c0, .bool true] ?_; (with_reducible refine (word_put.calls _ _ l0 true t205 _ ?side1 ?side2 A2.out).mono ?_); (case side1 => exact ca_ HR0.out); (case side2 => exact HC0.out); rintro e w3 ⟨rfl, hb⟩; refine ⟨_, rfl, ?_⟩; replace HB := Aside0.mk (below_step hb_ hb)))
 go_ret
 exact ⟨ew_, hb_⟩
end Go.Proofs.YtbkbganflnemeaaGreat.Pr
end

section
namespace Go.Proofs.YtbkbganflnemeaaGreat.Pr
open Go.RowKit Go.Deep Go.Proofs.YtbkbganflnemeaaGreatW.PrintWords Go.Proofs.YtbkbganflnemeaaGreatW.PrintLast Go.Proofs.YtbkbganflnemeaaGreatW.PrintMore
set_option maxHeartbeats 2000000
def lenL (x y : Nat) : List Nat := [x, 0, y, 0].flatMap le4
theorem lenL_lt (x y : Nat) : ∀ z ∈ lenL x y, z < 256 := by
 intro z hz
 unfold lenL at hz
 rw [List.mem_flatMap] at hz
 obtain ⟨k, _, h⟩ := hz
 simp only [le4, List.mem_cons, List.not_mem_nil, or_false] at h
 rcases h with h | h | h | h <;> rw [h] <;> exact Nat.mod_lt _ (by decide)
theorem lenL_length (x y : Nat) : (lenL x y).length = 16 := rfl
theorem ps4 (g : Nat) (W : World) (x y : Nat) (hg : W.heap[g]? = some (.cells #[.int .i64 (x : Int), .int .i64 0, .int .i64 (y : Int), .int .i64 0] 3 (0, 0))) :
  Calls Tryz.prog 106 #[.slice (some ⟨g, 0, none⟩) 4 4] W fun e w' => e = .returned (.string (txt (lenL x y))) ∧ Below W.heap.size W w' := by
 have hC : (Kd.int .i64).C W (some ⟨g, 0, none⟩) [(x : Int), 0, (y : Int), 0].length [(x : Int), 0, (y : Int), 0] := by
  refine Kd.C_of_reads (enc := Value.int .i64) (d := (0 : Int)) (h1 := fun _ => rfl) ⟨rfl, by simp, fun _ => ⟨_, rfl, fun j hj => ?_⟩⟩
  rw [add_plain, blk_cell hg]
  have : j = 0 ∨ j = 1 ∨ j = 2 ∨ j = 3 := by simp at hj; omega
  rcases this with rfl | rfl | rfl | rfl <;> rfl
 have := word_PutSmall.calls (some ⟨g, 0, none⟩) 4 [(x : Int), 0, (y : Int), 0] (txt (lenL x y)) W hC (by simp) (by
  unfold word_PutSmall.f word_put.f
  rw [if_pos (by simp)]
  simp only [Option.bind_some, Option.some.injEq]
  rw [← str_nats]
  congr 1)
 exact this
theorem filled3 (g : Nat) (a b c : ByteArray) (W : World) (hg : W.heap[g]? = some (.cells #[.string a, .string b, .string c] 9 (0, 0))) (ha : a.size ≤ 1000000) (hb : b.size ≤ 1000000) (hc : c.size ≤ 1000000) :
  Calls Tryz.prog 105 #[.slice (some ⟨g, 0, none⟩) 3 3] W fun e w' => e = .returned (.string (txt (fill16 (bys a) ++ fill16 (bys b) ++ fill16 (bys c)))) ∧ Below W.heap.size W w' := by
 have := filled_calls g 3 [a, b, c] W hg (by
  intro t ht
  simp only [List.mem_cons, List.not_mem_nil, or_false] at ht
  rcases ht with rfl | rfl | rfl <;> assumption) (by simp) (by simp)
 have e : fillT [a, b, c] [a, b, c].length = fill16 (bys a) ++ fill16 (bys b) ++ fill16 (bys c) := by
  simp [fillT]
 rw [e] at this
 exact this
def tagL (key nonce bound c : List Nat) : List Nat := pmacL ((chaL key nonce 0).take 32) (fill16 bound ++ fill16 c ++ fill16 (lenL bound.length c.length))
def aead_tag.f (a0 a1 a2 a3 : ByteArray) : Option ByteArray :=
 if a0.size = 32 ∧ a1.size = 12 ∧ a2.size + a3.size ≤ 32768 then some (txt (tagL (bys a0) (bys a1) (bys a2) (bys a3))) else none
set_option maxRecDepth 100000 in
theorem aead_tag.yes (a0 a1 a2 a3 : ByteArray) (w : World) (h0 : a0.size = 32) (h1 : a1.size = 12) (h23 : a2.size + a3.size ≤ 32768) :
  Calls Tryz.prog 67 #[.string a0, .string a1, .string a2, .string a3] w fun e w' => e = .returned (.string (txt (tagL (bys a0) (bys a1) (bys a2) (bys a3)))) ∧ Below w.heap.size w w' := by
 have HBK := Aside0.mk (fun W => chacha_Block.calls a0 a1 0 (txt (chaL (bys a0) (bys a1) 0)) 0 W (by unfold chacha_Block.f; rw [if_pos ⟨h0, h1, by decide, by decide⟩]; rfl))
 have hks : (txt (chaL (bys a0) (bys a1) 0)).size = 64 := by rw [txt_size, chaL_length]
 have hkx : (txt (chaL (bys a0) (bys a1) 0)).extract 0 32 = txt ((chaL (bys a0) (bys a1) 0).take 32) := by rw [txt_extract]; rfl
 have hkb : bys (txt ((chaL (bys a0) (bys a1) 0).take 32)) = (chaL (bys a0) (bys a1) 0).take 32 := bys_txt (fun n hn => chaL_lt _ _ _ n (List.mem_of_mem_take hn))
 have hkl : (txt ((chaL (bys a0) (bys a1) 0).take 32)).size = 32 := by rw [txt_size, List.length_take, chaL_length]; rfl
 have hpl : bys (txt (lenL a2.size a3.size)) = lenL a2.size a3.size := bys_txt (lenL_lt _ _)
 have HPL : Aside0 ((txt (lenL a2.size a3.size)).size ≤ 1000000) := ⟨by rw [txt_size, lenL_length]; decide⟩
 have htag : tagL (bys a0) (bys a1) (bys a2) (bys a3) = pmacL ((chaL (bys a0) (bys a1) 0).take 32) (fill16 (bys a2) ++ fill16 (bys a3) ++ fill16 (lenL a2.size a3.size)) := by
  unfold tagL; rw [bys_length, bys_length]
 generalize chaL (bys a0) (bys a1) 0 = C at HBK hks hkx hkb hkl htag
 generalize hT : txt C = T at HBK hks hkx
 have HTX := Aside0.mk hkx
 have hlt : ∀ x ∈ fill16 (bys a2) ++ fill16 (bys a3) ++ fill16 (bys (txt (lenL a2.size a3.size))), x < 256 := by
  intro x hx
  have hz : ∀ l : List Nat, (∀ y ∈ l, y < 256) → ∀ y ∈ fill16 l, y < 256 := by
   intro l hl y hy
   unfold fill16 at hy
   rw [List.mem_append, List.mem_replicate] at hy
   rcases hy with h | h
   ·exact hl y h
   ·omega
  rw [List.mem_append, List.mem_append] at hx
  rcases hx with (h | h) | h
  ·exact hz _ (bys_lt' _) x h
  ·exact hz _ (bys_lt' _) x h
  ·exact hz _ (bys_lt' _) x h
 have hmb : bys (txt (fill16 (bys a2) ++ fill16 (bys a3) ++ fill16 (bys (txt (lenL a2.size a3.size))))) = fill16 (bys a2) ++ fill16 (bys a3) ++ fill16 (lenL a2.size a3.size) := by
  rw [bys_txt hlt, hpl]
 have hml : (txt (fill16 (bys a2) ++ fill16 (bys a3) ++ fill16 (bys (txt (lenL a2.size a3.size))))).size ≤ 65536 := by
  rw [txt_size, List.length_append, List.length_append]
  have e1 := fill16_length (bys a2)
  have e2 := fill16_length (bys a3)
  have e3 := fill16_length (bys (txt (lenL a2.size a3.size)))
  rw [bys_length] at e1 e2
  rw [hpl, lenL_length] at e3
  rw [hpl]
  omega
 have hMC := fun W => poly_Mac.yes (txt (C.take 32)) _ W hkl hml
 rw [hkb, hmb, ← htag, ← hkx] at hMC
 have HMC := Aside0.mk hMC
 have h2 : a2.size ≤ 1000000 := by omega
 have h3 : a3.size ≤ 1000000 := by omega
 clear hkb hkl hpl htag hT hlt hmb hml hMC hkx
 generalize txt (tagL (bys a0) (bys a1) (bys a2) (bys a3)) = R at HMC ⊢
 have k32 : (32 : Int) ≤ (T.size : Int) := by omega
 clear hks
 go_enter Tryz.func67, Tryz.ntmps67
 go_upto_region 2 with (go_at_call 103; refine (HBK.out _).mono ?_; rintro e w1 ⟨rfl, hb1⟩)
 refine start_ (n := 18) (S := fun w' => True) (ds := []) #[false, false, false, false, false, false, false, false, false, false, false, false, false, false, false, false, false, false] (by kernel_rfl) rfl rfl trivial (fun hHeld => ?_)
 refine pz_ 0 20 rfl rfl (by kernel_rfl) ?_
 refine pz_ 1 21 rfl rfl (by kernel_rfl) ?_
 refine pz_ 2 22 rfl rfl (by kernel_rfl) ?_
 refine pz_ 3 23 rfl rfl (by kernel_rfl) ?_
 refine pz_ 4 24 rfl rfl (by kernel_rfl) ?_
 refine pz_ 5 25 rfl rfl (by kernel_rfl) ?_
 refine pz_ 6 26 rfl rfl (by kernel_rfl) ?_
 refine pz_ 7 27 rfl rfl (by kernel_rfl) ?_
 refine one_ (i := 8) (N := some 28) #[true, true, true, true, true, true, true, true, true, false, false, false, false, false, false, false, false, false] rfl rfl (by kernel_rfl) (by decide) (fun K hK => ?_)
 refine value_ (w1 := ?_) (v := ?_) (by rfl) rfl ?_ ?_
 rotate_left 2
 ·go_simp
  constructor
  ·rfl
  ·rfl
 refine hK.out _ _ trivial (fun hHeld => ?_)
 clear hK K
 refine norm_ sa_ ?_
 refine one_ (i := 9) (N := some 29) #[true, true, true, true, true, true, true, true, true, true, false, false, false, false, false, false, false, false] rfl rfl (by kernel_rfl) (by decide) (fun K hK => ?_)
 refine goes_ Tryz.func106 (by kernel_rfl) rfl #[.slice (some ⟨w1.heap.size, 0, none⟩) 4 4] (by rfl) rfl rfl (by simp only [List.map_toArray, List.map_cons, List.map_nil]; rfl) ?_
 with_reducible refine (ps4 w1.heap.size _ a2.size a3.size (blk_drew (blk_new w1 _))).mono ?_
 rintro e w3 ⟨rfl, hb3⟩
 refine ⟨_, rfl, ?_⟩
 refine hK.out _ _ trivial (fun hHeld => ?_)
 clear hK K
 refine norm_ sa_ ?_
 refine one_ (i := 10) (N := some 30) #[true, true, true, true, true, true, true, true, true, true, true, false, false, false, false, false, false, false] rfl rfl (by kernel_rfl) (by decide) (fun K hK => ?_)
 refine value_ (w1 := ?_) (v := ?_) (by rfl) rfl ?_ ?_
 rotate_left 2
 ·go_simp
  constructor
  ·rfl
  ·rfl
 refine hK.out _ _ trivial (fun hHeld => ?_)
 clear hK K
 refine norm_ sa_ ?_
 refine one_ (i := 11) (N := some 31) #[true, true, true, true, true, true, true, true, true, true, true, true, false, false, false, false, false, false] rfl rfl (by kernel_rfl) (by decide) (fun K hK => ?_)
 refine goes_ Tryz.func105 (by kernel_rfl) rfl #[.slice (some ⟨w3.heap.size, 0, none⟩) 3 3] (by rfl) rfl rfl (by simp only [List.map_toArray, List.map_cons, List.map_nil]; rfl) ?_
 with_reducible refine (filled3 w3.heap.size a2 a3 _ _ (blk_new w3 _) h2 h3 HPL.out).mono ?_
 rintro e w4 ⟨rfl, hb4⟩
 refine ⟨_, rfl, ?_⟩
 refine hK.out _ _ trivial (fun hHeld => ?_)
 clear hK K
 refine norm_ sa_ ?_
 refine one_ (i := 12) (N := some 32) #[true, true, true, true, true, true, true, true, true, true, true, true, true, false, false, false, false, false] rfl rfl (by kernel_rfl) (by decide) (fun K hK => ?_)
 refine goes_ Tryz.func104 (by kernel_rfl) rfl #[.string (T.extract 0 32), .string (txt (fill16 (bys a2) ++ fill16 (bys a3) ++ fill16 (bys (txt (lenL a2.size a3.size)))))] (by rfl) rfl rfl (by simp only [List.map_toArray, List.map_cons, List.map_nil]; rfl) ?_
 with_reducible refine (HMC.out _).mono ?_
 rintro e w5 ⟨rfl, hb5⟩
 refine ⟨_, rfl, ?_⟩
 refine hK.out _ _ trivial (fun hHeld => ?_)
 clear hK K
 refine norm_ sa_ ?_
 refine pz_ 13 19 rfl rfl (by kernel_rfl) ?_
 refine pz_ 14 33 rfl rfl (by kernel_rfl) ?_
 refine pz_ 15 34 rfl rfl (by kernel_rfl) ?_
 refine pz_ 16 11 rfl rfl (by kernel_rfl) ?_
 refine pz_ 17 12 rfl rfl (by kernel_rfl) ?_
 refine done_ (by kernel_rfl) ?_
 have hbel : Below w.heap.size w w5 := by
  have q1 := below_drew (below_alloc hb1 (.cells #[.int .i64 (a2.size : Int), .int .i64 0, .int .i64 (a3.size : Int), .int .i64 0] 3))
  have q2 := below_then q1 q1.size hb3
  have q3 := below_alloc q2 (.cells #[.string a2, .string a3, .string (txt (lenL a2.size a3.size))] 9)
  have q4 := below_then q3 q3.size hb4
  exact below_then q4 q4.size hb5
 have HBL := Aside0.mk hbel
 clear hbel hb5 hb4 hb3 hb1 hHeld
 go_wp2
 go_ret
 exact ⟨rfl, HBL.out⟩
theorem aead_tag.calls (a0 a1 a2 a3 : ByteArray) (r : ByteArray) (w : World) (h : aead_tag.f a0 a1 a2 a3 = some r) :
  Calls Tryz.prog 67 #[.string a0, .string a1, .string a2, .string a3] w fun e w' => e = .returned (.string r) ∧ Below w.heap.size w w' := by
 unfold aead_tag.f at h
 by_cases hc : a0.size = 32 ∧ a1.size = 12 ∧ a2.size + a3.size ≤ 32768
 ·rw [if_pos hc] at h
  obtain rfl := Option.some.inj h
  exact aead_tag.yes a0 a1 a2 a3 w hc.1 hc.2.1 hc.2.2
 ·rw [if_neg hc] at h
  cases h
end Go.Proofs.YtbkbganflnemeaaGreat.Pr
end

section
namespace Go.Proofs.YtbkbganflnemeaaGreat.Pr
open Go.RowKit Go.Proofs.YtbkbganflnemeaaGreatW.PrintWords Go.Proofs.YtbkbganflnemeaaGreatW.PrintLast Go.Proofs.YtbkbganflnemeaaGreatW.PrintMore
attribute [local go_sem] max2_int min2_int max_two min_two max_three min_three max_four min_four
def aead_may.f (a0 : ByteArray) (a1 : ByteArray) (a2 : Int) (a3 : Int) : Option (Bool) := if (a0.size : Int) = 32 then (if (a1.size : Int) = 12 then (if a2 ≤ 32768 then (some (decide (a3 ≤ (wrap64 (32768 - a2))))) else (some false)) else (some false)) else (some false)
set_option maxHeartbeats 8000000 in
set_option maxRecDepth 100000 in
theorem aead_may.calls (a0 : ByteArray) (a1 : ByteArray) (a2 : Int) (a3 : Int) (r : Bool) (w : World) (h : aead_may.f a0 a1 a2 a3 = some r) :
  Calls Tryz.prog 65 #[.string a0, .string a1, .int .i64 a2, .int .i64 a3] w fun e w' => e = .returned (.bool r) ∧ Drawn0 w w' := by
 have H : (if (a0.size : Int) = 32 then (if (a1.size : Int) = 12 then (if a2 ≤ 32768 then (some (decide (a3 ≤ (wrap64 (32768 - a2))))) else (some false)) else (some false)) else (some false)) = some r := h; clear h; by_cases c5 : (a0.size : Int) = 32
 ·rw [if_pos c5] at H; have c5b0 : ((a0.size : Int) == 32) = true := beq_iff_eq.mpr c5; have c5b1 : ((a0.size : Int) != 32) = false := bne_eq_false_iff_eq.mpr c5; clear c5; by_cases c6 : (a1.size : Int) = 12
  ·rw [if_pos c6] at H; have c6b0 : ((a1.size : Int) == 12) = true := beq_iff_eq.mpr c6; have c6b1 : ((a1.size : Int) != 12) = false := bne_eq_false_iff_eq.mpr c6; clear c6; by_cases c7 : a2 ≤ 32768
   ·rw [if_pos c7] at H; have c7b0 : decide (a2 ≤ 32768) = true := decide_eq_true c7; clear c7; obtain rfl := Option.some.inj H; go_enter Tryz.func65, Tryz.ntmps65
    go_wp2; go_ret
    exact ⟨rz_, dz_⟩
   ·rw [if_neg c7] at H; have c7b0 : decide (a2 ≤ 32768) = false := decide_eq_false c7; clear c7; obtain rfl := Option.some.inj H; go_enter Tryz.func65, Tryz.ntmps65
    go_wp2; go_ret
    exact ⟨rz_, dz_⟩
  ·rw [if_neg c6] at H; have c6b0 : ((a1.size : Int) == 12) = false := beq_eq_false_iff_ne.mpr c6; have c6b1 : ((a1.size : Int) != 12) = true := bne_iff_ne.mpr c6; obtain rfl := Option.some.inj H; go_enter Tryz.func65, Tryz.ntmps65
   go_wp2; go_ret
   exact ⟨rz_, dz_⟩
 ·rw [if_neg c5] at H; have c5b0 : ((a0.size : Int) == 32) = false := beq_eq_false_iff_ne.mpr c5; have c5b1 : ((a0.size : Int) != 32) = true := bne_iff_ne.mpr c5; obtain rfl := Option.some.inj H; go_enter Tryz.func65, Tryz.ntmps65
  go_wp2; go_ret
  exact ⟨rz_, dz_⟩
end Go.Proofs.YtbkbganflnemeaaGreat.Pr
end

section
namespace Go.Proofs.YtbkbganflnemeaaGreat.Pr
open Go.RowKit Go.Proofs.YtbkbganflnemeaaGreatW.PrintWords Go.Proofs.YtbkbganflnemeaaGreatW.PrintLast
set_option maxHeartbeats 1000000
theorem strB_lt (a b : List Nat) (n i : Nat) : strB a b n i < 256 := by
 unfold strB
 have hl : i % 64 < (chaL a b (n + i / 64)).length := by rw [chaL_length]; exact Nat.mod_lt _ (by decide)
 rw [List.getD_eq_getElem?_getD, List.getElem?_eq_getElem hl]
 exact chaL_lt _ _ _ _ (List.getElem_mem hl)
theorem streamL_length (a b : List Nat) (n : Nat) (s : List Nat) : (streamL a b n s).length = s.length := xorAt_length _ _ _
theorem streamL_get (a b : List Nat) (n : Nat) (s : List Nat) (i : Nat) (hi : i < s.length) : (streamL a b n s)[i]? = some (s.getD i 0 ^^^ strB a b n i) := by
 unfold streamL xorAt
 simp [hi]
theorem streamL_lt (a b : List Nat) (n : Nat) (s : List Nat) (hs : ∀ x ∈ s, x < 256) : ∀ x ∈ streamL a b n s, x < 256 := by
 intro x hx
 obtain ⟨i, hi, rfl⟩ := List.getElem_of_mem hx
 have hi' : i < s.length := by rw [← streamL_length a b n s]; exact hi
 have h := streamL_get a b n s i hi'
 rw [List.getElem?_eq_getElem hi] at h
 rw [Option.some.inj h]
 have h1 : s.getD i 0 < 256 := by
  rw [List.getD_eq_getElem?_getD, List.getElem?_eq_getElem hi']
  exact hs _ (List.getElem_mem hi')
 exact Nat.xor_lt_two_pow (n := 8) h1 (strB_lt a b n i)
theorem streamL_twice (a b : List Nat) (n : Nat) (s : List Nat) : streamL a b n (streamL a b n s) = s := by
 apply List.ext_getElem?
 intro i
 by_cases hi : i < s.length
 ·rw [streamL_get _ _ _ _ _ (by rw [streamL_length]; exact hi), List.getD_eq_getElem?_getD, streamL_get _ _ _ _ _ hi]
  simp only [Option.getD_some]
  rw [Nat.xor_assoc, Nat.xor_self, Nat.xor_zero, List.getD_eq_getElem?_getD, List.getElem?_eq_getElem hi]
  rfl
 ·rw [List.getElem?_eq_none (by rw [streamL_length, streamL_length]; omega), List.getElem?_eq_none (by omega)]
theorem tagL_length (a b c d : List Nat) : (tagL a b c d).length = 16 := outT_length _ _ _
theorem tagL_lt (a b c d : List Nat) : ∀ x ∈ tagL a b c d, x < 256 := outT_lt _ _ _
def aeadOK (a0 a1 : ByteArray) (x y : Nat) : Prop := a0.size = 32 ∧ a1.size = 12 ∧ x ≤ 32768 ∧ y ≤ 32768 - x
instance (a0 a1 : ByteArray) (x y : Nat) : Decidable (aeadOK a0 a1 x y) := by unfold aeadOK; infer_instance
theorem aead_may_f (a0 a1 : ByteArray) (x y : Nat) (hx : x ≤ 1000000000000000) (hy : y ≤ 1000000000000000) : aead_may.f a0 a1 (x : Int) (y : Int) = some (decide (aeadOK a0 a1 x y)) := by
 unfold aead_may.f aeadOK
 by_cases h0 : a0.size = 32
 ·rw [if_pos (by omega)]
  by_cases h1 : a1.size = 12
  ·rw [if_pos (by omega)]
   by_cases h2 : x ≤ 32768
   ·rw [if_pos (by omega)]
    congr 1
    have hw : wrap64 (32768 - (x : Int)) = 32768 - (x : Int) := by unfold wrap64; omega
    rw [hw]
    apply decide_eq_decide.2
    omega
   ·rw [if_neg (by omega)]; congr 1; exact (decide_eq_false (by omega)).symm
  ·rw [if_neg (by omega)]; congr 1; exact (decide_eq_false (by omega)).symm
 ·rw [if_neg (by omega)]; congr 1; exact (decide_eq_false (by omega)).symm
def sealF (a0 a1 a2 a3 : ByteArray) : ByteArray × Int :=
 if aeadOK a0 a1 a2.size a3.size then (txt (streamL (bys a0) (bys a1) 1 (bys a3) ++ tagL (bys a0) (bys a1) (bys a2) (streamL (bys a0) (bys a1) 1 (bys a3))), 0) else (⟨#[]⟩, 1)
theorem stream_f (a0 a1 a3 : ByteArray) (h0 : a0.size = 32) (h1 : a1.size = 12) (h3 : a3.size ≤ 32768) : chacha_Stream.f a0 a1 1 a3 = some (txt (streamL (bys a0) (bys a1) 1 (bys a3)), 0) := by
 unfold chacha_Stream.f
 rw [if_pos (by omega), if_pos ⟨⟨h0, h1, by decide, by decide⟩, by omega, by omega⟩]
 rfl
def openF (a0 a1 a2 a3 : ByteArray) : ByteArray × Int :=
 if aeadOK a0 a1 a2.size (a3.size - 16) then
  (if a3.size < 16 then (⟨#[]⟩, 70) else if tagL (bys a0) (bys a1) (bys a2) ((bys a3).take (a3.size - 16)) = (bys a3).drop (a3.size - 16) then (txt (streamL (bys a0) (bys a1) 1 ((bys a3).take (a3.size - 16))), 0) else (⟨#[]⟩, 70))
 else (⟨#[]⟩, 1)
theorem open_seal (a0 a1 a2 a3 : ByteArray) (h : aeadOK a0 a1 a2.size a3.size) : openF a0 a1 a2 (sealF a0 a1 a2 a3).1 = (a3, 0) ∧ (sealF a0 a1 a2 a3).2 = 0 ∧ (sealF a0 a1 a2 a3).1.size = a3.size + 16 ∧ bys (sealF a0 a1 a2 a3).1 = streamL (bys a0) (bys a1) 1 (bys a3) ++ tagL (bys a0) (bys a1) (bys a2) (streamL (bys a0) (bys a1) 1 (bys a3)) := by
 have hsz : (sealF a0 a1 a2 a3).1.size = a3.size + 16 := by
  unfold sealF
  rw [if_pos h, txt_size, List.length_append, streamL_length, tagL_length, bys_length]
 have hb : bys (sealF a0 a1 a2 a3).1 = streamL (bys a0) (bys a1) 1 (bys a3) ++ tagL (bys a0) (bys a1) (bys a2) (streamL (bys a0) (bys a1) 1 (bys a3)) := by
  unfold sealF
  rw [if_pos h]
  refine bys_txt ?_
  intro x hx
  rw [List.mem_append] at hx
  rcases hx with hx | hx
  ·exact streamL_lt _ _ _ _ (bys_lt' _) x hx
  ·exact tagL_lt _ _ _ _ x hx
 refine ⟨?_, by unfold sealF; rw [if_pos h], hsz, hb⟩
 obtain ⟨k0, k1, k2, k3⟩ := h
 have hl : (streamL (bys a0) (bys a1) 1 (bys a3)).length = a3.size := by rw [streamL_length, bys_length]
 unfold openF
 rw [hsz, Nat.add_sub_cancel, if_pos ⟨k0, k1, k2, k3⟩, if_neg (by omega), hb, List.take_left' hl, List.drop_left' hl, if_pos rfl, streamL_twice, txt_bys]
end Go.Proofs.YtbkbganflnemeaaGreat.Pr
end

section
namespace Go.Proofs.YtbkbganflnemeaaGreat.Pr
open Go.RowKit Go.Deep Go.Proofs.YtbkbganflnemeaaGreatW.PrintWords Go.Proofs.YtbkbganflnemeaaGreatW.PrintLast Go.Proofs.YtbkbganflnemeaaGreatW.PrintMore
set_option maxHeartbeats 2000000
def aead_Open.f (a0 a1 a2 a3 : ByteArray) : Option (ByteArray × Int) :=
 if a2.size ≤ 1000000000000000 ∧ a3.size ≤ 1000000000000000 then some (openF a0 a1 a2 a3) else none
theorem aead_Open_f (a0 a1 a2 a3 : ByteArray) (h2 : a2.size ≤ 1000000000000000) (h3 : a3.size ≤ 1000000000000000) : aead_Open.f a0 a1 a2 a3 = some (openF a0 a1 a2 a3) := if_pos ⟨h2, h3⟩
set_option maxRecDepth 100000 in
theorem aead_Open.short (a0 a1 a2 a3 : ByteArray) (w : World) (h2 : a2.size ≤ 1000000000000000) (h3 : a3.size < 16) :
  Calls Tryz.prog 38 #[.string a0, .string a1, .string a2, .string a3] w fun e w' => e = .returned (.tuple #[.string (openF a0 a1 a2 a3).1, .int .i64 (openF a0 a1 a2 a3).2]) ∧ Below w.heap.size w w' := by
 have hm0 : a3.size - 16 = 0 := by omega
 have HMay := Aside0.mk (fun W => aead_may.calls a0 a1 (a2.size : Int) 0 _ W (aead_may_f a0 a1 a2.size 0 h2 (by omega)))
 have HO : Aside0 (openF a0 a1 a2 a3 = if aeadOK a0 a1 a2.size 0 then (⟨#[]⟩, 70) else (⟨#[]⟩, 1)) := ⟨by
  unfold openF
  rw [hm0, if_pos h3]⟩
 have hmx : max ((a3.size : Int) - 16) 0 = 0 := by omega
 have t1 : decide ((a3.size : Int) - 16 < 0) = true := decide_eq_true (by omega)
 rw [HO.out]
 clear h2 hm0
 by_cases hc : aeadOK a0 a1 a2.size 0
 ·have hd : decide (aeadOK a0 a1 a2.size 0) = true := decide_eq_true hc
  rw [if_pos hc]
  have HD := Aside0.mk hd
  clear hc hd
  go_enter Tryz.func38, Tryz.ntmps38
  go_wp2_with (fail)
  refine (HMay.out _).mono ?_
  rw [HD.out]
  rintro e w1 ⟨rfl, ⟨n1, rfl⟩⟩
  go_upto_region 4 with (fail)
  refine start_ (n := 17) (S := fun w' => True) (ds := []) #[false, false, false, false, false, false, false, false, false, false, false, false, false, false, false, false, false] (by kernel_rfl) rfl rfl trivial (fun hHeld => ?_)
  refine pz_ 0 26 rfl rfl (by kernel_rfl) ?_
  refine pz_ 1 27 rfl rfl (by kernel_rfl) ?_
  refine pz_ 2 28 rfl rfl (by kernel_rfl) ?_
  refine pure_ (i := 3) (N := some 29) (v := undef) (a' := ?_) #[true, true, true, true, false, false, false, false, false, false, false, false, false, false, false, false, false] rfl rfl (by kernel_rfl) (fun _ _ _ h => h) (Or.inr ⟨by rfl, rfl⟩) ?_ ?_
  rotate_left
  ·simp only [Act.put, List.setIfInBounds_toArray, List.set_cons_zero, List.set_cons_succ, i64_w, i32_w]
   rfl
  refine pure_ (i := 4) (N := some 30) (v := undef) (a' := ?_) #[true, true, true, true, true, false, false, false, false, false, false, false, false, false, false, false, false] rfl rfl (by kernel_rfl) (fun _ _ _ h => h) (Or.inr ⟨by rfl, rfl⟩) ?_ ?_
  rotate_left
  ·simp only [Act.put, List.setIfInBounds_toArray, List.set_cons_zero, List.set_cons_succ, i64_w, i32_w]
   rfl
  refine pure_ (i := 5) (N := some 31) (v := undef) (a' := ?_) #[true, true, true, true, true, true, false, false, false, false, false, false, false, false, false, false, false] rfl rfl (by kernel_rfl) (fun _ _ _ h => h) (Or.inr ⟨by rfl, rfl⟩) ?_ ?_
  rotate_left
  ·simp only [Act.put, List.setIfInBounds_toArray, List.set_cons_zero, List.set_cons_succ, i64_w, i32_w]
   rfl
  refine pure_ (i := 6) (N := some 32) (v := undef) (a' := ?_) #[true, true, true, true, true, true, true, false, false, false, false, false, false, false, false, false, false] rfl rfl (by kernel_rfl) (fun _ _ _ h => h) (Or.inr ⟨by rfl, rfl⟩) ?_ ?_
  rotate_left
  ·simp only [Act.put, List.setIfInBounds_toArray, List.set_cons_zero, List.set_cons_succ, i64_w, i32_w]
   rfl
  refine pure_ (i := 7) (N := some 33) (v := undef) (a' := ?_) #[true, true, true, true, true, true, true, true, false, false, false, false, false, false, false, false, false] rfl rfl (by kernel_rfl) (fun _ _ _ h => h) (Or.inr ⟨by rfl, rfl⟩) ?_ ?_
  rotate_left
  ·simp only [Act.put, List.setIfInBounds_toArray, List.set_cons_zero, List.set_cons_succ, i64_w, i32_w]
   rfl
  refine pure_ (i := 8) (N := some 34) (v := undef) (a' := ?_) #[true, true, true, true, true, true, true, true, true, false, false, false, false, false, false, false, false] rfl rfl (by kernel_rfl) (fun _ _ _ h => h) (Or.inr ⟨by rfl, rfl⟩) ?_ ?_
  rotate_left
  ·simp only [Act.put, List.setIfInBounds_toArray, List.set_cons_zero, List.set_cons_succ, i64_w, i32_w]
   rfl
  refine pure_ (i := 9) (N := some 35) (v := undef) (a' := ?_) #[true, true, true, true, true, true, true, true, true, true, false, false, false, false, false, false, false] rfl rfl (by kernel_rfl) (fun _ _ _ h => h) (Or.inr ⟨by rfl, rfl⟩) ?_ ?_
  rotate_left
  ·simp only [Act.put, List.setIfInBounds_toArray, List.set_cons_zero, List.set_cons_succ, i64_w, i32_w]
   rfl
  refine pure_ (i := 10) (N := some 36) (v := undef) (a' := ?_) #[true, true, true, true, true, true, true, true, true, true, true, false, false, false, false, false, false] rfl rfl (by kernel_rfl) (fun _ _ _ h => h) (Or.inr ⟨by rfl, rfl⟩) ?_ ?_
  rotate_left
  ·simp only [Act.put, List.setIfInBounds_toArray, List.set_cons_zero, List.set_cons_succ, i64_w, i32_w]
   rfl
  refine pure_ (i := 11) (N := some 37) (v := undef) (a' := ?_) #[true, true, true, true, true, true, true, true, true, true, true, true, false, false, false, false, false] rfl rfl (by kernel_rfl) (fun _ _ _ h => h) (Or.inr ⟨by rfl, rfl⟩) ?_ ?_
  rotate_left
  ·simp only [Act.put, List.setIfInBounds_toArray, List.set_cons_zero, List.set_cons_succ, i64_w, i32_w]
   rfl
  refine pure_ (i := 12) (N := some 38) (v := undef) (a' := ?_) #[true, true, true, true, true, true, true, true, true, true, true, true, true, false, false, false, false] rfl rfl (by kernel_rfl) (fun _ _ _ h => h) (Or.inr ⟨by rfl, rfl⟩) ?_ ?_
  rotate_left
  ·simp only [Act.put, List.setIfInBounds_toArray, List.set_cons_zero, List.set_cons_succ, i64_w, i32_w]
   rfl
  refine pure_ (i := 13) (N := some 39) (v := undef) (a' := ?_) #[true, true, true, true, true, true, true, true, true, true, true, true, true, true, false, false, false] rfl rfl (by kernel_rfl) (fun _ _ _ h => h) (Or.inr ⟨by rfl, rfl⟩) ?_ ?_
  rotate_left
  ·simp only [Act.put, List.setIfInBounds_toArray, List.set_cons_zero, List.set_cons_succ, i64_w, i32_w]
   rfl
  refine pure_ (i := 14) (N := some 40) (v := undef) (a' := ?_) #[true, true, true, true, true, true, true, true, true, true, true, true, true, true, true, false, false] rfl rfl (by kernel_rfl) (fun _ _ _ h => h) (Or.inr ⟨by rfl, rfl⟩) ?_ ?_
  rotate_left
  ·simp only [Act.put, List.setIfInBounds_toArray, List.set_cons_zero, List.set_cons_succ, i64_w, i32_w]
   rfl
  refine pz_ 15 41 rfl rfl (by kernel_rfl) ?_
  refine pz_ 16 25 rfl rfl (by kernel_rfl) ?_
  refine done_ (by kernel_rfl) ?_
  go_wp2
  go_ret2
  exact ⟨rfl, below_drew (pw_below_drewN (Below.refl _ w) _)⟩
 ·have hd : decide (aeadOK a0 a1 a2.size 0) = false := decide_eq_false hc
  rw [if_neg hc]
  have HD := Aside0.mk hd
  clear hc hd
  go_enter Tryz.func38, Tryz.ntmps38
  go_wp2_with (fail)
  refine (HMay.out _).mono ?_
  rw [HD.out]
  rintro e w1 ⟨rfl, ⟨n1, rfl⟩⟩
  go_wp2
  go_ret2
  exact ⟨rfl, pw_below_drewN (Below.refl _ w) _⟩
set_option maxRecDepth 100000 in
theorem aead_Open.long (a0 a1 a2 a3 : ByteArray) (q : Nat) (w : World) (h2 : a2.size ≤ 1000000000000000) (h3 : a3.size ≤ 1000000000000000) (hq : a3.size = q + 16) :
  Calls Tryz.prog 38 #[.string a0, .string a1, .string a2, .string a3] w fun e w' => e = .returned (.tuple #[.string (openF a0 a1 a2 a3).1, .int .i64 (openF a0 a1 a2 a3).2]) ∧ Below w.heap.size w w' := by
 have hm0 : a3.size - 16 = q := by omega
 have HMay := Aside0.mk (fun W => aead_may.calls a0 a1 (a2.size : Int) (q : Int) _ W (aead_may_f a0 a1 a2.size q h2 (by omega)))
 have hxs : (a3.extract 0 q).size = q := by rw [ByteArray.size_extract]; omega
 have hxb : bys (a3.extract 0 q) = (bys a3).take q := by rw [bys_extract]; rfl
 have hyb : bys (a3.extract q a3.size) = (bys a3).drop q := by
  rw [bys_extract, List.take_of_length_le (by rw [List.length_drop, bys_length]; omega)]
 have HO : Aside0 (openF a0 a1 a2 a3 = if aeadOK a0 a1 a2.size q then (if tagL (bys a0) (bys a1) (bys a2) ((bys a3).take q) = (bys a3).drop q then (txt (streamL (bys a0) (bys a1) 1 ((bys a3).take q)), 0) else (⟨#[]⟩, 70)) else (⟨#[]⟩, 1)) := ⟨by
  unfold openF
  rw [hm0, if_neg (show ¬ a3.size < 16 by omega)]⟩
 have hmx : max ((a3.size : Int) - 16) 0 = (q : Int) := by omega
 have hn : (a3.size : Int) - 16 = (q : Int) := by omega
 have HMX := Aside0.mk hmx
 have HN := Aside0.mk hn
 have t1 : decide ((q : Int) < 0) = false := decide_eq_false (by omega)
 rw [HO.out]
 have hmq : max (q : Int) 0 = (q : Int) := by omega
 have HQ := Aside0.mk hq
 have hq1 : (q : Int) ≤ (a3.size : Int) := by omega
 clear h2 hm0 hmx hn
 by_cases hc : aeadOK a0 a1 a2.size q
 ·have hd : decide (aeadOK a0 a1 a2.size q) = true := decide_eq_true hc
  rw [if_pos hc]
  have HD := Aside0.mk hd
  obtain ⟨k0, k1, k2, k3⟩ := hc
  have htg := fun W => aead_tag.yes a0 a1 a2 (a3.extract 0 q) W k0 k1 (by rw [hxs]; omega)
  rw [hxb] at htg
  have hTs : (txt (tagL (bys a0) (bys a1) (bys a2) ((bys a3).take q))).size = 16 := by rw [txt_size, tagL_length]
  have hTb : bys (txt (tagL (bys a0) (bys a1) (bys a2) ((bys a3).take q))) = tagL (bys a0) (bys a1) (bys a2) ((bys a3).take q) := bys_txt (tagL_lt _ _ _ _)
  have hsm := fun W => word_Same.calls 17 (txt (tagL (bys a0) (bys a1) (bys a2) ((bys a3).take q))) (a3.extract q a3.size) _ W (word_Same_f _ _ (by rw [hTs]; decide) 17 (by rw [hTs]; decide))
  rw [hTb, hyb] at hsm
  have hst := fun W => chacha_Stream.yes a0 a1 (a3.extract 0 q) 1 W k0 k1 (by decide) (by rw [hxs]; omega) (by rw [hxs]; omega)
  rw [hxb] at hst
  have HST := Aside0.mk hst
  have HTG := Aside0.mk htg
  generalize txt (tagL (bys a0) (bys a1) (bys a2) ((bys a3).take q)) = T at HTG hsm hTs hTb
  clear hq
  by_cases ht : tagL (bys a0) (bys a1) (bys a2) ((bys a3).take q) = (bys a3).drop q
  ·have hd2 : decide (tagL (bys a0) (bys a1) (bys a2) ((bys a3).take q) = (bys a3).drop q) = true := decide_eq_true ht
   rw [if_pos ht]
   simp only [hd2] at hsm
   have HSM := Aside0.mk hsm
   clear hd2 ht hsm htg hst hTs hTb hd hxs hxb hyb
   go_enter Tryz.func38, Tryz.ntmps38
   go_upto_region 2 with (fail)
   rw [HN.out]
   go_wp2_with (fail)
   refine (HMay.out _).mono ?_
   rw [HD.out]
   rintro e w1 ⟨rfl, ⟨n1, rfl⟩⟩
   go_upto_region 4 with (fail)
   refine start_ (n := 17) (S := fun w' => True) (ds := []) #[false, false, false, false, false, false, false, false, false, false, false, false, false, false, false, false, false] (by kernel_rfl) rfl rfl trivial (fun hHeld => ?_)
   refine pz_ 0 26 rfl rfl (by kernel_rfl) ?_
   refine pz_ 1 27 rfl rfl (by kernel_rfl) ?_
   refine pz_ 2 28 rfl rfl (by kernel_rfl) ?_
   refine pz_ 3 29 rfl rfl (by kernel_rfl) ?_
   refine pz_ 4 30 rfl rfl (by kernel_rfl) ?_
   refine pz_ 5 31 rfl rfl (by kernel_rfl) ?_
   refine pz_ 6 32 rfl rfl (by kernel_rfl) ?_
   refine pz_ 7 33 rfl rfl (by kernel_rfl) ?_
   refine pz_ 8 34 rfl rfl (by kernel_rfl) ?_
   refine pz_ 10 36 rfl rfl (by kernel_rfl) ?_
   refine pz_ 11 37 rfl rfl (by kernel_rfl) ?_
   refine pz_ 12 38 rfl rfl (by kernel_rfl) ?_
   refine one_ (i := 9) (N := some 35) #[true, true, true, true, true, true, true, true, true, true, true, true, true, false, false, false, false] rfl rfl (by kernel_rfl) (by decide) (fun K hK => ?_)
   refine goes_ Tryz.func67 (by kernel_rfl) rfl #[.string a0, .string a1, .string a2, .string (a3.extract 0 q)] (by rfl) rfl rfl (by simp only [List.map_toArray, List.map_cons, List.map_nil]; rfl) ?_
   with_reducible refine (HTG.out _).mono ?_
   rintro e w3 ⟨rfl, hb3⟩
   refine ⟨_, rfl, ?_⟩
   refine hK.out _ _ trivial (fun hHeld => ?_)
   clear hK K
   refine norm_ sa_ ?_
   refine one_ (i := 13) (N := some 39) #[true, true, true, true, true, true, true, true, true, true, true, true, true, true, false, false, false] rfl rfl (by kernel_rfl) (by decide) (fun K hK => ?_)
   refine goes_ Tryz.func73 (by kernel_rfl) rfl #[.string T, .string (a3.extract q a3.size)] (by rfl) rfl rfl (by simp only [List.map_toArray, List.map_cons, List.map_nil]; rfl) ?_
   with_reducible refine (HSM.out _).mono ?_
   rintro e w4 ⟨rfl, ⟨n4, rfl⟩⟩
   refine ⟨_, rfl, ?_⟩
   refine hK.out _ _ trivial (fun hHeld => ?_)
   clear hK K
   refine norm_ sa_ ?_
   refine pz_ 14 40 rfl rfl (by kernel_rfl) ?_
   refine pz_ 15 41 rfl rfl (by kernel_rfl) ?_
   refine pz_ 16 25 rfl rfl (by kernel_rfl) ?_
   refine done_ (by kernel_rfl) ?_
   go_wp2_with (fail)
   refine (HST.out _).mono ?_
   rintro e w5 ⟨rfl, hb5⟩
   have HBL : Aside0 (Below w.heap.size w w5) := ⟨below_then (pw_below_drewN (below_then (below_drew (pw_below_drewN (Below.refl _ w) n1)) (Nat.le_refl _) hb3) n4) hb3.size hb5⟩
   clear hb3 hb5 hHeld
   go_wp2
   go_ret2
   exact ⟨rfl, HBL.out⟩
  ·have hd2 : decide (tagL (bys a0) (bys a1) (bys a2) ((bys a3).take q) = (bys a3).drop q) = false := decide_eq_false ht
   rw [if_neg ht]
   simp only [hd2] at hsm
   have HSM := Aside0.mk hsm
   clear hd2 ht hsm htg hst hTs hTb hd hxs hxb hyb
   go_enter Tryz.func38, Tryz.ntmps38
   go_upto_region 2 with (fail)
   rw [HN.out]
   go_wp2_with (fail)
   refine (HMay.out _).mono ?_
   rw [HD.out]
   rintro e w1 ⟨rfl, ⟨n1, rfl⟩⟩
   go_upto_region 4 with (fail)
   refine start_ (n := 17) (S := fun w' => True) (ds := []) #[false, false, false, false, false, false, false, false, false, false, false, false, false, false, false, false, false] (by kernel_rfl) rfl rfl trivial (fun hHeld => ?_)
   refine pz_ 0 26 rfl rfl (by kernel_rfl) ?_
   refine pz_ 1 27 rfl rfl (by kernel_rfl) ?_
   refine pz_ 2 28 rfl rfl (by kernel_rfl) ?_
   refine pz_ 3 29 rfl rfl (by kernel_rfl) ?_
   refine pz_ 4 30 rfl rfl (by kernel_rfl) ?_
   refine pz_ 5 31 rfl rfl (by kernel_rfl) ?_
   refine pz_ 6 32 rfl rfl (by kernel_rfl) ?_
   refine pz_ 7 33 rfl rfl (by kernel_rfl) ?_
   refine pz_ 8 34 rfl rfl (by kernel_rfl) ?_
   refine pz_ 10 36 rfl rfl (by kernel_rfl) ?_
   refine pz_ 11 37 rfl rfl (by kernel_rfl) ?_
   refine pz_ 12 38 rfl rfl (by kernel_rfl) ?_
   refine one_ (i := 9) (N := some 35) #[true, true, true, true, true, true, true, true, true, true, true, true, true, false, false, false, false] rfl rfl (by kernel_rfl) (by decide) (fun K hK => ?_)
   refine goes_ Tryz.func67 (by kernel_rfl) rfl #[.string a0, .string a1, .string a2, .string (a3.extract 0 q)] (by rfl) rfl rfl (by simp only [List.map_toArray, List.map_cons, List.map_nil]; rfl) ?_
   with_reducible refine (HTG.out _).mono ?_
   rintro e w3 ⟨rfl, hb3⟩
   refine ⟨_, rfl, ?_⟩
   refine hK.out _ _ trivial (fun hHeld => ?_)
   clear hK K
   refine norm_ sa_ ?_
   refine one_ (i := 13) (N := some 39) #[true, true, true, true, true, true, true, true, true, true, true, true, true, true, false, false, false] rfl rfl (by kernel_rfl) (by decide) (fun K hK => ?_)
   refine goes_ Tryz.func73 (by kernel_rfl) rfl #[.string T, .string (a3.extract q a3.size)] (by rfl) rfl rfl (by simp only [List.map_toArray, List.map_cons, List.map_nil]; rfl) ?_
   with_reducible refine (HSM.out _).mono ?_
   rintro e w4 ⟨rfl, ⟨n4, rfl⟩⟩
   refine ⟨_, rfl, ?_⟩
   refine hK.out _ _ trivial (fun hHeld => ?_)
   clear hK K
   refine norm_ sa_ ?_
   refine pz_ 14 40 rfl rfl (by kernel_rfl) ?_
   refine pz_ 15 41 rfl rfl (by kernel_rfl) ?_
   refine pz_ 16 25 rfl rfl (by kernel_rfl) ?_
   refine done_ (by kernel_rfl) ?_
   have HBL : Aside0 (Below w.heap.size w (w3.drewN n4)) := ⟨pw_below_drewN (below_then (below_drew (pw_below_drewN (Below.refl _ w) n1)) (Nat.le_refl _) hb3) n4⟩
   clear hb3 hHeld
   go_wp2
   go_ret2
   exact ⟨rfl, HBL.out⟩
 ·have hd : decide (aeadOK a0 a1 a2.size q) = false := decide_eq_false hc
  rw [if_neg hc]
  have HD := Aside0.mk hd
  clear hc hd hxs hxb hyb hq
  go_enter Tryz.func38, Tryz.ntmps38
  go_upto_region 2 with (fail)
  rw [HN.out]
  go_wp2_with (fail)
  refine (HMay.out _).mono ?_
  rw [HD.out]
  rintro e w1 ⟨rfl, ⟨n1, rfl⟩⟩
  go_wp2
  go_ret2
  exact ⟨rfl, pw_below_drewN (Below.refl _ w) _⟩
theorem aead_Open.calls (a0 a1 a2 a3 : ByteArray) (r1 : ByteArray) (r2 : Int) (w : World) (h : aead_Open.f a0 a1 a2 a3 = some (r1, r2)) :
  Calls Tryz.prog 38 #[.string a0, .string a1, .string a2, .string a3] w fun e w' => e = .returned (.tuple #[.string r1, .int .i64 r2]) ∧ Below w.heap.size w w' := by
 unfold aead_Open.f at h
 by_cases hc : a2.size ≤ 1000000000000000 ∧ a3.size ≤ 1000000000000000
 ·rw [if_pos hc] at h
  have h := Option.some.inj h
  have e1 : r1 = (openF a0 a1 a2 a3).1 := by rw [h]
  have e2 : r2 = (openF a0 a1 a2 a3).2 := by rw [h]
  rw [e1, e2]
  by_cases h16 : a3.size < 16
  ·exact aead_Open.short a0 a1 a2 a3 w hc.1 h16
  ·exact aead_Open.long a0 a1 a2 a3 (a3.size - 16) w hc.1 hc.2 (by omega)
 ·rw [if_neg hc] at h
  cases h
end Go.Proofs.YtbkbganflnemeaaGreat.Pr
end

section
namespace Go.Proofs.YtbkbganflnemeaaGreat.Pr
open Go.RowKit Go.Proofs.YtbkbganflnemeaaGreatW.PrintWords Go.Proofs.YtbkbganflnemeaaGreatW.PrintLast Go.Proofs.YtbkbganflnemeaaGreatW.PrintMore
attribute [local go_sem] max2_int min2_int max_two min_two max_three min_three max_four min_four
def aead_Seal.f (a0 : ByteArray) (a1 : ByteArray) (a2 : ByteArray) (a3 : ByteArray) : Option (ByteArray × Int) := (aead_may.f a0 a1 (a2.size : Int) (a3.size : Int)).bind fun t206 => (if t206 = true then ((chacha_Stream.f a0 a1 1 a3).bind fun bt207 => ((aead_tag.f a0 a1 a2 bt207.1).bind fun t209 => (if bt207.1.size + t209.size ≤ 9223372036854775807 then (some (bt207.1 ++ t209, 0)) else (none)))) else (some ((⟨#[]⟩ : ByteArray), 1)))
set_option maxHeartbeats 8000000 in
set_option maxRecDepth 100000 in
theorem aead_Seal.calls (a0 : ByteArray) (a1 : ByteArray) (a2 : ByteArray) (a3 : ByteArray) (r1 : ByteArray) (r2 : Int) (w : World) (h : aead_Seal.f a0 a1 a2 a3 = some (r1, r2)) :
  Calls Tryz.prog 33 #[.string a0, .string a1, .string a2, .string a3] w fun e w' => e = .returned (.tuple #[.string r1, .int .i64 r2]) ∧ Below w.heap.size w w' := by
 have HB := Aside0.mk (Below.refl w.heap.size w); have H : ((aead_may.f a0 a1 (a2.size : Int) (a3.size : Int)).bind fun t206 => (if t206 = true then ((chacha_Stream.f a0 a1 1 a3).bind fun bt207 => ((aead_tag.f a0 a1 a2 bt207.1).bind fun t209 => (if bt207.1.size + t209.size ≤ 9223372036854775807 then (some (bt207.1 ++ t209, 0)) else (none)))) else (some ((⟨#[]⟩ : ByteArray), 1)))) = some (r1, r2) := h; clear h; replace H := Option.bind_eq_some_iff.mp H; obtain ⟨t206, A50, H⟩ := H; have A5 := Aside0.mk A50; clear A50; by_cases c6 : t206 = true
 ·subst c6; have H1 : ((chacha_Stream.f a0 a1 1 a3).bind fun bt207 => ((aead_tag.f a0 a1 a2 bt207.1).bind fun t209 => (if bt207.1.size + t209.size ≤ 9223372036854775807 then (some (bt207.1 ++ t209, 0)) else (none)))) = some (r1, r2) := by rw [if_pos rfl] at H; exact H
  clear H; have H := H1; clear H1; replace H := Option.bind_eq_some_iff.mp H; obtain ⟨⟨t207, t208⟩, A70, H⟩ := H; try dsimp only at H
  have A7 := Aside0.mk A70; clear A70; replace H := Option.bind_eq_some_iff.mp H; obtain ⟨t209, A80, H⟩ := H; have A8 := Aside0.mk A80; clear A80; by_cases c9 : t207.size + t209.size ≤ 9223372036854775807
  ·rw [if_pos c9] at H; have c9b0 := eq_true c9; have c9b1 : decide (t207.size + t209.size ≤ 9223372036854775807) = true := decide_eq_true c9; try have c9b2 : (9223372036854775807 < t207.size + t209.size) = False := eq_false (Nat.not_lt.2 c9)
   simp only [Option.some.injEq, Prod.mk.injEq] at H; obtain ⟨rfl, rfl⟩ := H; go_enter Tryz.func33, Tryz.ntmps33
   go_wp2_with (first | ((with_reducible refine gate_callee (f := 65) rfl ?_); refine gl_ 18 Tryz.func65 #[.string a0, .string a1, .int .i64 (a2.size : Int), .int .i64 (a3.size : Int)] ?_; (with_reducible refine (aead_may.calls a0 a1 (a2.size : Int) (a3.size : Int) true _ A5.out).mono ?_); rintro e w' ⟨rfl, ⟨nd, rfl⟩⟩; refine ⟨_, rfl, ?_⟩) | ((with_reducible refine gate_callee (f := 66) rfl ?_); refine gl_ 24 Tryz.func66 #[.string a0, .string a1, .int .i64 1, .string a3] ?_; (with_reducible refine (chacha_Stream.calls a0 a1 1 a3 t207 t208 _ A7.out).mono ?_); rintro e w10 ⟨rfl, hb⟩; refine ⟨_, rfl, ?_⟩; replace HB := Aside0.mk (below_step hb_ hb)) | ((with_reducible refine gate_callee (f := 67) rfl ?_); refine gl_ 32 Tryz.func67 #[.string a0, .string a1, .string a2, .string t207] ?_; (with_reducible refine (aead_tag.calls a0 a1 a2 t207 t209 _ A8.out).mono ?_); rintro e w11 ⟨rfl, hb⟩; refine ⟨_, rfl, ?_⟩; replace HB := Aside0.mk (below_step hb_ hb)))
   go_ret2
   exact ⟨ew_, hb_⟩
  ·rw [if_neg c9] at H; exact absurd H (by simp)
 ·replace c6 := Bool.eq_false_iff.mpr c6; subst c6; have H1 : (some ((⟨#[]⟩ : ByteArray), 1)) = some (r1, r2) := by rw [if_neg (show ¬ (false = true) by decide)] at H; exact H
  clear H; have H := H1; clear H1; simp only [Option.some.injEq, Prod.mk.injEq] at H; obtain ⟨rfl, rfl⟩ := H; go_enter Tryz.func33, Tryz.ntmps33
  go_wp2_with (first | ((with_reducible refine gate_callee (f := 65) rfl ?_); refine gl_ 18 Tryz.func65 #[.string a0, .string a1, .int .i64 (a2.size : Int), .int .i64 (a3.size : Int)] ?_; (with_reducible refine (aead_may.calls a0 a1 (a2.size : Int) (a3.size : Int) false _ A5.out).mono ?_); rintro e w' ⟨rfl, ⟨nd, rfl⟩⟩; refine ⟨_, rfl, ?_⟩))
  go_ret2
  exact ⟨ew_, hb_⟩
end Go.Proofs.YtbkbganflnemeaaGreat.Pr
end

section
namespace Go.Proofs.YtbkbganflnemeaaGreat.Pr
open Go.RowKit Go.Proofs.YtbkbganflnemeaaGreatW.PrintWords Go.Proofs.YtbkbganflnemeaaGreatW.PrintLast
set_option maxHeartbeats 1000000
theorem aead_Seal_f (a0 a1 a2 a3 : ByteArray) (h2 : a2.size ≤ 1000000000000000) (h3 : a3.size ≤ 1000000000000000) : aead_Seal.f a0 a1 a2 a3 = some (sealF a0 a1 a2 a3) := by
 unfold aead_Seal.f sealF
 rw [aead_may_f a0 a1 _ _ h2 h3, Option.bind_some]
 by_cases hc : aeadOK a0 a1 a2.size a3.size
 ·rw [if_pos hc, if_pos (decide_eq_true hc)]
  obtain ⟨k0, k1, k2, k3⟩ := hc
  have hb : bys (txt (streamL (bys a0) (bys a1) 1 (bys a3))) = streamL (bys a0) (bys a1) 1 (bys a3) := bys_txt (streamL_lt _ _ _ _ (bys_lt' _))
  have hz : (txt (streamL (bys a0) (bys a1) 1 (bys a3))).size = a3.size := by rw [txt_size, streamL_length, bys_length]
  rw [stream_f a0 a1 a3 k0 k1 (by omega), Option.bind_some]
  unfold aead_tag.f
  rw [if_pos ⟨k0, k1, by rw [hz]; omega⟩, Option.bind_some, hb, if_pos (by rw [hz, txt_size, tagL_length]; omega), txt_append]
 ·rw [if_neg hc, if_neg (by rw [decide_eq_false hc]; decide)]
end Go.Proofs.YtbkbganflnemeaaGreat.Pr
end

section
namespace Go.Proofs.YtbkbganflnemeaaGreat.Pr
open Go.RowKit Go.Proofs.YtbkbganflnemeaaGreatW.PrintWords Go.Proofs.YtbkbganflnemeaaGreatW.PrintLast Go.Proofs.YtbkbganflnemeaaGreatW.PrintMore
attribute [local go_sem] max2_int min2_int max_two min_two max_three min_three max_four min_four
def keys_member.f (a0 : Int) : Option (Bool) := if a0 ≥ 1 then (some (decide (a0 ≤ 6))) else (some false)
set_option maxHeartbeats 8000000 in
set_option maxRecDepth 100000 in
theorem keys_member.calls (a0 : Int) (r : Bool) (w : World) (h : keys_member.f a0 = some r) :
  Calls Tryz.prog 31 #[.int .i64 a0] w fun e w' => e = .returned (.bool r) ∧ Drawn0 w w' := by
 have H : (if a0 ≥ 1 then (some (decide (a0 ≤ 6))) else (some false)) = some r := h; clear h; by_cases c2 : a0 ≥ 1
 ·rw [if_pos c2] at H; have c2b0 : decide (1 ≤ a0) = true := decide_eq_true c2; clear c2; obtain rfl := Option.some.inj H; go_enter Tryz.func31, Tryz.ntmps31
  go_wp2; go_ret
  exact ⟨rz_, dz_⟩
 ·rw [if_neg c2] at H; have c2b0 : decide (1 ≤ a0) = false := decide_eq_false c2; clear c2; obtain rfl := Option.some.inj H; go_enter Tryz.func31, Tryz.ntmps31
  go_wp2; go_ret
  exact ⟨rz_, dz_⟩
def keys_purpose.f (l0 : List ByteArray) : Option (ByteArray) := (strings_Join.f l0 (⟨#[]⟩ : ByteArray)).bind fun t101 => (some t101)
set_option maxHeartbeats 8000000 in
set_option maxRecDepth 100000 in
theorem keys_purpose.calls (A0 : Option Addr) (c0 : Nat) (l0 : List ByteArray) (r : ByteArray) (w : World) (hr0 : Kd.C Kd.string w A0 l0.length l0) (hc0 : l0.length ≤ c0) (h : keys_purpose.f l0 = some r) :
  Calls Tryz.prog 60 #[.slice A0 l0.length c0] w fun e w' => e = .returned (.string r) ∧ Below w.heap.size w w' := by
 have HR0 := Aside0.mk hr0; have HC0 := Aside0.mk hc0; clear hr0 hc0; have HB := Aside0.mk (Below.refl w.heap.size w); have H : ((strings_Join.f l0 (⟨#[]⟩ : ByteArray)).bind fun t101 => (some t101)) = some r := h; clear h; replace H := Option.bind_eq_some_iff.mp H; obtain ⟨t101, A20, H⟩ := H; have A2 := Aside0.mk A20; clear A20; obtain rfl := Option.some.inj H; go_enter Tryz.func60, Tryz.ntmps60
 go_wp2_with (first | ((with_reducible refine gate_callee (f := 93) rfl ?_); refine gl_ 4 Tryz.func93 #[.slice A0 l0.length c0, .string (⟨#[]⟩ : ByteArray)] ?_; (with_reducible refine (strings_Join.calls _ _ l0 (⟨#[]⟩ : ByteArray) t101 _ ?side1 ?side2 A2.out).mono ?_); (case side1 => exact ca_ HR0.out); (case side2 => exact HC0.out); rintro e w3 ⟨rfl, hb⟩; refine ⟨_, rfl, ?_⟩; replace HB := Aside0.mk (below_step hb_ hb)))
 go_ret
 exact ⟨ew_, hb_⟩
def keys_one.f (a0 : Int) : Option (ByteArray) := some (strOfNums (([(a0) % 256] : List Int)))
set_option maxHeartbeats 8000000 in
set_option maxRecDepth 100000 in
theorem keys_one.calls (a0 : Int) (r : ByteArray) (w : World) (h : keys_one.f a0 = some r) :
  Calls Tryz.prog 61 #[.int .i64 a0] w fun e w' => e = .returned (.string r) ∧ Below w.heap.size w w' := by
 have HB := Aside0.mk (Below.refl w.heap.size w); have H : (some (strOfNums (([(a0) % 256] : List Int)))) = some r := h; clear h; obtain ⟨y102, hy102⟩ : ∃ y_ : List Int, y_ = (([(a0) % 256] : List Int)) := ⟨_, rfl⟩; replace H : (some (strOfNums y102)) = some r := by first | (rw [hy102]; with_reducible exact H) | (have H2_ := (Option.bind_some _ _).symm.trans H; rw [hy102]; with_reducible exact H2_) | (have H2_ := (Option.bind_some _ _).symm.trans H; with_reducible exact H2_) | with_reducible exact H | (rw [hy102]; exact H) | exact H
 have Ny102 := Aside0.mk hy102; clear hy102; obtain rfl := Option.some.inj H; go_enter Tryz.func61, Tryz.ntmps61
 go_wp2_with (first | ((with_reducible refine gate_dst (N := 5) rfl ?_); refine Kd.R_lit (Kd.int .u8) _ 5 ?hg (N := 5) ?hd (xs := ([(a0) % 256] : List Int)) (inner := [.int .u8 ((a0) % 256)]) (ok := fun _ => True) (okp := fun _ => True) ?hr ?hp (fun _ hk => hk) trivial (Below.refl _ _) (Nat.le_refl _) (by simp) ?_; (case hd => rfl); (case hg => rfl); (case hr => first | (go_simp; done) | (go_simp; rfl)); (case hp => exact (Reps.one (show Kd.M (Kd.int .u8) _ _ _ ((a0) % 256) [.int .u8 ((a0) % 256)] from rfl) (Reps.none _ _))); intro v103 w2 ho3 hb hg_ hnew_; clear hg_ hnew_; (first | rw [← Ny102.out] at ho3 | (simp only [Int.reduceToNat] at ho3; rw [← Ny102.out] at ho3)); have HO104 := Aside0.mk (Kd.R_lower ho3 (below_size hb_)); replace HB := Aside0.mk (below_step hb_ hb); clear hb ho3; have hcv4 := own_string (P := Tryz.prog) Tryz.underlying68 Tryz.underlying5 Tryz.underlying9 (Kd.own_of_R HO104.out)))
 go_ret
 exact ⟨ew_, hb_⟩
def keys_Nonce.j0 : Nat → Int → Int → Bool → Option (ByteArray × Int)
 | 0, _, _, _ => none
 | k + 1, x0, x1, x6 => if x6 = true then (some ((⟨#[]⟩ : ByteArray), 1)) else (if x1 > 1099511627775 then (some ((⟨#[]⟩ : ByteArray), 150)) else ((keys_one.f x0).bind fun t106 => ((strings_Repeat.f (⟨#[0]⟩ : ByteArray) 5).bind fun t107 => ((keys_number.f x1).bind fun t108 => ((keys_purpose.f (([t106, t107, t108] : List ByteArray))).bind fun t112 => (some (t112, 0)))))))
def keys_Nonce.f (k : Nat) (a0 : Int) (a1 : Int) : Option (ByteArray × Int) := if a0 = 0 then (keys_Nonce.j0 k a0 a1 (decide (a1 < 0))) else ((keys_member.f a0).bind fun t105 => (if t105 = true then (keys_Nonce.j0 k a0 a1 (decide (a1 < 0))) else (keys_Nonce.j0 k a0 a1 true)))
set_option maxHeartbeats 8000000 in
set_option maxRecDepth 100000 in
theorem keys_Nonce.calls (k : Nat) (a0 : Int) (a1 : Int) (r1 : ByteArray) (r2 : Int) (w : World) (h : keys_Nonce.f k a0 a1 = some (r1, r2)) :
    Calls Tryz.prog 29 #[.int .i64 a0, .int .i64 a1] w fun e w' => e = .returned (.tuple #[.string r1, .int .i64 r2]) ∧ Below w.heap.size w w' := by
  have HB := Aside0.mk (Below.refl w.heap.size w); have H : (if a0 = 0 then (keys_Nonce.j0 k a0 a1 (decide (a1 < 0))) else ((keys_member.f a0).bind fun t105 => (if t105 = true then (keys_Nonce.j0 k a0 a1 (decide (a1 < 0))) else (keys_Nonce.j0 k a0 a1 true)))) = some (r1, r2) := h; clear h; have HC3 := Aside0.mk H; clear H; go_enter Tryz.func29, Tryz.ntmps29
  go_upto_region 1 with (fail)
  go_cut [6] (fun v6 wc => ∃ (kq : Nat) (x6_2 : Bool), v6 = .bool x6_2 ∧ Aside0 (keys_Nonce.j0 kq a0 a1 x6_2 = some (r1, r2)) ∧ Aside0 (kq ≤ k) ∧ Aside0 (Below w.heap.size w wc))
  case first =>
    have H := HC3.out; clear HC3; by_cases c4 : a0 = 0
    · rw [if_pos c4] at H; have c4b0 : (a0 == 0) = true := beq_iff_eq.mpr c4; have c4b1 : (a0 != 0) = false := bne_eq_false_iff_eq.mpr c4; clear c4
      (first | rw [c4b0] | (simp only [i64_w, i32_w]; rw [c4b0]) | skip)
      have H' := Aside0.mk H; clear H; go_wp2; go_meet
      case rel => exact ⟨_, (decide (a1 < 0)), rz_, H', ⟨by first | omega | exact Nat.le_refl _⟩, ⟨hb_⟩⟩
    · rw [if_neg c4] at H; have c4b0 : (a0 == 0) = false := beq_eq_false_iff_ne.mpr c4; have c4b1 : (a0 != 0) = true := bne_iff_ne.mpr c4
      (first | rw [c4b0] | (simp only [i64_w, i32_w]; rw [c4b0]) | skip)
      replace H := Option.bind_eq_some_iff.mp H; obtain ⟨t105, A50, H⟩ := H; have A5 := Aside0.mk A50; clear A50; by_cases c6 : t105 = true
      · subst c6; have H1 : (keys_Nonce.j0 k a0 a1 (decide (a1 < 0))) = some (r1, r2) := by rw [if_pos rfl] at H; exact H
        clear H; have H := H1; clear H1; have H' := Aside0.mk H; clear H; go_wp2_with (first | (go_at_call 31; (with_reducible refine (keys_member.calls a0 true _ A5.out).mono ?_); rintro e w' ⟨rfl, ⟨nd, rfl⟩⟩))
        go_meet
        case rel => exact ⟨_, (decide (a1 < 0)), rz_, H', ⟨by first | omega | exact Nat.le_refl _⟩, ⟨hb_⟩⟩
      · replace c6 := Bool.eq_false_iff.mpr c6; subst c6; have H1 : (keys_Nonce.j0 k a0 a1 true) = some (r1, r2) := by rw [if_neg (show ¬ (false = true) by decide)] at H; exact H
        clear H; have H := H1; clear H1; have H' := Aside0.mk H; clear H; go_wp2_with (first | (go_at_call 31; (with_reducible refine (keys_member.calls a0 false _ A5.out).mono ?_); rintro e w' ⟨rfl, ⟨nd, rfl⟩⟩))
        go_meet
        case rel => exact ⟨_, (true), rz_, H', ⟨by first | omega | exact Nat.le_refl _⟩, ⟨hb_⟩⟩
  case rest =>
    clear HC3; obtain ⟨kq, x6_2, rfl, HA, HJ2, HB⟩ := hcut; cases kq with
    | zero => exact absurd HA.out (by simp [keys_Nonce.j0])
    | succ kj2 =>
      have H := HA.out; clear HA; simp only [keys_Nonce.j0] at H; by_cases c7 : x6_2 = true
      · subst c7; have H1 : (some ((⟨#[]⟩ : ByteArray), 1)) = some (r1, r2) := by rw [if_pos rfl] at H; exact H
        clear H; have H := H1; clear H1; simp only [Option.some.injEq, Prod.mk.injEq] at H; obtain ⟨rfl, rfl⟩ := H; go_wp2; go_ret2
        exact ⟨ew_, hb_⟩
      · replace c7 := Bool.eq_false_iff.mpr c7; subst c7; have H1 : (if a1 > 1099511627775 then (some ((⟨#[]⟩ : ByteArray), 150)) else ((keys_one.f a0).bind fun t106 => ((strings_Repeat.f (⟨#[0]⟩ : ByteArray) 5).bind fun t107 => ((keys_number.f a1).bind fun t108 => ((keys_purpose.f (([t106, t107, t108] : List ByteArray))).bind fun t112 => (some (t112, 0))))))) = some (r1, r2) := by rw [if_neg (show ¬ (false = true) by decide)] at H; exact H
        clear H; have H := H1; clear H1; by_cases c8 : a1 > 1099511627775
        · rw [if_pos c8] at H; have c8b0 : decide (1099511627775 < a1) = true := decide_eq_true c8; clear c8; simp only [Option.some.injEq, Prod.mk.injEq] at H; obtain ⟨rfl, rfl⟩ := H; go_wp2; go_ret2
          exact ⟨ew_, hb_⟩
        · rw [if_neg c8] at H; have c8b0 : decide (1099511627775 < a1) = false := decide_eq_false c8; clear c8; replace H := Option.bind_eq_some_iff.mp H; obtain ⟨t106, A90, H⟩ := H; have A9 := Aside0.mk A90; clear A90; replace H := Option.bind_eq_some_iff.mp H; obtain ⟨t107, A100, H⟩ := H; have A10 := Aside0.mk A100; clear A100; replace H := Option.bind_eq_some_iff.mp H; obtain ⟨t108, A110, H⟩ := H; have A11 := Aside0.mk A110; clear A110; obtain ⟨y109, hy109⟩ : ∃ y_ : List ByteArray, y_ = (([t106, t107, t108] : List ByteArray)) := ⟨_, rfl⟩; replace H : ((keys_purpose.f y109).bind fun t112 => (some (t112, 0))) = some (r1, r2) := by first | (rw [hy109]; with_reducible exact H) | (have H2_ := (Option.bind_some _ _).symm.trans H; rw [hy109]; with_reducible exact H2_) | (have H2_ := (Option.bind_some _ _).symm.trans H; with_reducible exact H2_) | with_reducible exact H | (rw [hy109]; exact H) | exact H
          have Ny109 := Aside0.mk hy109; clear hy109; replace H := Option.bind_eq_some_iff.mp H; obtain ⟨t112, A120, H⟩ := H; have A12 := Aside0.mk A120; clear A120; simp only [Option.some.injEq, Prod.mk.injEq] at H; obtain ⟨rfl, rfl⟩ := H; go_wp2_with (first | ((with_reducible refine gate_callee (f := 61) rfl ?_); refine gl_ 22 Tryz.func61 #[.int .i64 a0] ?_; (with_reducible refine (keys_one.calls a0 t106 _ A9.out).mono ?_); rintro e w13 ⟨rfl, hb⟩; refine ⟨_, rfl, ?_⟩; replace HB := Aside0.mk (below_step hb_ hb)) | ((with_reducible refine gate_callee (f := 62) rfl ?_); refine gl_ 23 Tryz.func62 #[.string (⟨#[0]⟩ : ByteArray), .int .i64 5] ?_; (with_reducible refine (strings_Repeat.calls (⟨#[0]⟩ : ByteArray) 5 t107 _ A10.out).mono ?_); rintro e w14 ⟨rfl, hb⟩; refine ⟨_, rfl, ?_⟩; replace HB := Aside0.mk (below_step hb_ hb)) | ((with_reducible refine gate_callee (f := 63) rfl ?_); refine gl_ 25 Tryz.func63 #[.int .i64 a1] ?_; (with_reducible refine (keys_number.calls a1 t108 _ A11.out).mono ?_); rintro e w15 ⟨rfl, hb⟩; refine ⟨_, rfl, ?_⟩; replace HB := Aside0.mk (below_step hb_ hb)) | ((with_reducible refine gate_dst (N := 26) rfl ?_); refine Kd.R_lit Kd.string _ 9 ?hg (N := 26) ?hd (xs := ([t106, t107, t108] : List ByteArray)) (inner := [.string t106, .string t107, .string t108]) (ok := fun _ => True) (okp := fun _ => True) ?hr ?hp (fun _ hk => hk) trivial (Below.refl _ _) (Nat.le_refl _) (by simp) ?_; (case hd => rfl); (case hg => rfl); (case hr => first | (go_simp; done) | (go_simp; rfl)); (case hp => exact (Reps.one (show Kd.M Kd.string _ _ _ t106 [.string t106] from rfl) (Reps.one (show Kd.M Kd.string _ _ _ t107 [.string t107] from rfl) (Reps.one (show Kd.M Kd.string _ _ _ t108 [.string t108] from rfl) (Reps.none _ _))))); intro v110 w16 ho17 hb hg_ hnew_; clear hg_ hnew_; (first | rw [← Ny109.out] at ho17 | (simp only [Int.reduceToNat] at ho17; rw [← Ny109.out] at ho17)); have HO111 := Aside0.mk (Kd.R_lower ho17 (below_size hb_)); replace HB := Aside0.mk (below_step hb_ hb); clear hb ho17; obtain ⟨Ao18, co18, eo18⟩ := Kd.R_slice HO111.out; subst eo18) | ((with_reducible refine gate_callee (f := 60) rfl ?_); refine gl_ 27 Tryz.func60 #[.slice Ao18 y109.length co18] ?_; (with_reducible refine (keys_purpose.calls _ _ y109 t112 _ ?side1 ?side2 A12.out).mono ?_); (case side1 => exact ca_ (Kd.R_reads' HO111.out).2.2); (case side2 => exact (Kd.R_reads' HO111.out).2.1); rintro e w19 ⟨rfl, hb⟩; refine ⟨_, rfl, ?_⟩; replace HO111 := Aside0.mk (Kd.R_below (ra_ HO111.out) hb); replace HB := Aside0.mk (below_step hb_ hb)))
          go_ret2
          exact ⟨ew_, hb_⟩
def keys_of.j0 : Nat → ByteArray → List ByteArray → Bool → Option (ByteArray × Int)
 | 0, _, _, _ => none
 | k + 1, x0, x2, x14 => if x14 = true then (some ((⟨#[]⟩ : ByteArray), 1)) else ((keys_purpose.f x2).bind fun t202 => ((hkdf_Expand.f x0 t202 32).bind fun bt203 => (some (bt203.1, bt203.2))))
def keys_of.f (k : Nat) (a0 : ByteArray) (a1 : Bool) (l2 : List ByteArray) : Option (ByteArray × Int) := if a1 = true then (keys_of.j0 k a0 l2 ((a0.size : Int) != 32)) else (keys_of.j0 k a0 l2 true)
set_option maxHeartbeats 8000000 in
set_option maxRecDepth 100000 in
theorem keys_of.calls (k : Nat) (a0 : ByteArray) (a1 : Bool) (A2 : Option Addr) (c2 : Nat) (l2 : List ByteArray) (r1 : ByteArray) (r2 : Int) (w : World) (hr2 : Kd.C Kd.string w A2 l2.length l2) (hc2 : l2.length ≤ c2) (h : keys_of.f k a0 a1 l2 = some (r1, r2)) :
    Calls Tryz.prog 30 #[.string a0, .bool a1, .slice A2 l2.length c2] w fun e w' => e = .returned (.tuple #[.string r1, .int .i64 r2]) ∧ Below w.heap.size w w' := by
  have HR2 := Aside0.mk hr2; have HC2 := Aside0.mk hc2; clear hr2 hc2; have HB := Aside0.mk (Below.refl w.heap.size w); have H : (if a1 = true then (keys_of.j0 k a0 l2 ((a0.size : Int) != 32)) else (keys_of.j0 k a0 l2 true)) = some (r1, r2) := h; clear h; have HC4 := Aside0.mk H; clear H; go_enter Tryz.func30, Tryz.ntmps30
  go_upto_region 1 with (fail)
  go_cut [14] (fun v14 wc => ∃ (kq : Nat) (x14_3 : Bool), v14 = .bool x14_3 ∧ Aside0 (keys_of.j0 kq a0 l2 x14_3 = some (r1, r2)) ∧ Aside0 (kq ≤ k) ∧ Aside0 (Below w.heap.size w wc))
  case first =>
    have H := HC4.out; clear HC4; by_cases c5 : a1 = true
    · subst c5; have H1 : (keys_of.j0 k a0 l2 ((a0.size : Int) != 32)) = some (r1, r2) := by rw [if_pos rfl] at H; exact H
      clear H; have H := H1; clear H1; have H' := Aside0.mk H; clear H; go_wp2; go_meet
      case rel => exact ⟨_, (((a0.size : Int) != 32)), rz_, H', ⟨by first | omega | exact Nat.le_refl _⟩, ⟨hb_⟩⟩
    · replace c5 := Bool.eq_false_iff.mpr c5; subst c5; have H1 : (keys_of.j0 k a0 l2 true) = some (r1, r2) := by rw [if_neg (show ¬ (false = true) by decide)] at H; exact H
      clear H; have H := H1; clear H1; have H' := Aside0.mk H; clear H; go_wp2; go_meet
      case rel => exact ⟨_, (true), rz_, H', ⟨by first | omega | exact Nat.le_refl _⟩, ⟨hb_⟩⟩
  case rest =>
    clear HC4; obtain ⟨kq, x14_3, rfl, HA, HJ3, HB⟩ := hcut; cases kq with
    | zero => exact absurd HA.out (by simp [keys_of.j0])
    | succ kj3 =>
      have H := HA.out; clear HA; simp only [keys_of.j0] at H; by_cases c6 : x14_3 = true
      · subst c6; have H1 : (some ((⟨#[]⟩ : ByteArray), 1)) = some (r1, r2) := by rw [if_pos rfl] at H; exact H
        clear H; have H := H1; clear H1; simp only [Option.some.injEq, Prod.mk.injEq] at H; obtain ⟨rfl, rfl⟩ := H; go_wp2; go_ret2
        exact ⟨ew_, hb_⟩
      · replace c6 := Bool.eq_false_iff.mpr c6; subst c6; have H1 : ((keys_purpose.f l2).bind fun t202 => ((hkdf_Expand.f a0 t202 32).bind fun bt203 => (some (bt203.1, bt203.2)))) = some (r1, r2) := by rw [if_neg (show ¬ (false = true) by decide)] at H; exact H
        clear H; have H := H1; clear H1; replace H := Option.bind_eq_some_iff.mp H; obtain ⟨t202, A70, H⟩ := H; have A7 := Aside0.mk A70; clear A70; replace H := Option.bind_eq_some_iff.mp H; obtain ⟨⟨t203, t204⟩, A80, H⟩ := H; try dsimp only at H
        have A8 := Aside0.mk A80; clear A80; simp only [Option.some.injEq, Prod.mk.injEq] at H; obtain ⟨rfl, rfl⟩ := H; go_wp2_with (first | ((with_reducible refine gate_callee (f := 60) rfl ?_); refine gl_ 17 Tryz.func60 #[.slice A2 l2.length c2] ?_; (with_reducible refine (keys_purpose.calls _ _ l2 t202 _ ?side1 ?side2 A7.out).mono ?_); (case side1 => exact ca_ (Kd.C_below HR2.out HB.out)); (case side2 => exact HC2.out); rintro e w9 ⟨rfl, hb⟩; refine ⟨_, rfl, ?_⟩; replace HB := Aside0.mk (below_step hb_ hb)) | ((with_reducible refine gate_callee (f := 64) rfl ?_); refine gl_ 18 Tryz.func64 #[.string a0, .string t202, .int .i64 32] ?_; (with_reducible refine (hkdf_Expand.calls a0 t202 32 t203 t204 _ A8.out).mono ?_); rintro e w10 ⟨rfl, hb⟩; refine ⟨_, rfl, ?_⟩; replace HB := Aside0.mk (below_step hb_ hb)))
        go_ret2
        exact ⟨ew_, hb_⟩
def keys_epoch.f (a0 : Int) : Option (Bool) := if a0 ≥ 1 then (some (decide (a0 ≤ 1099511627775))) else (some false)
set_option maxHeartbeats 8000000 in
set_option maxRecDepth 100000 in
theorem keys_epoch.calls (a0 : Int) (r : Bool) (w : World) (h : keys_epoch.f a0 = some r) :
  Calls Tryz.prog 32 #[.int .i64 a0] w fun e w' => e = .returned (.bool r) ∧ Drawn0 w w' := by
 have H : (if a0 ≥ 1 then (some (decide (a0 ≤ 1099511627775))) else (some false)) = some r := h; clear h; by_cases c2 : a0 ≥ 1
 ·rw [if_pos c2] at H; have c2b0 : decide (1 ≤ a0) = true := decide_eq_true c2; clear c2; obtain rfl := Option.some.inj H; go_enter Tryz.func32, Tryz.ntmps32
  go_wp2; go_ret
  exact ⟨rz_, dz_⟩
 ·rw [if_neg c2] at H; have c2b0 : decide (1 ≤ a0) = false := decide_eq_false c2; clear c2; obtain rfl := Option.some.inj H; go_enter Tryz.func32, Tryz.ntmps32
  go_wp2; go_ret
  exact ⟨rz_, dz_⟩
def keys_Wrap.j0 : Nat → Int → Int → ByteArray → ByteArray → Int → Option (ByteArray × Int)
 | 0, _, _, _, _, _ => none
 | k + 1, x1, x2, x3, x10, x11 => if x11 = 0 then ((keys_Nonce.f k x1 x2).bind fun bt227 => ((aead_Seal.f x10 bt227.1 (⟨#[119, 114, 97, 112]⟩ : ByteArray) x3).bind fun bt229 => (some (bt229.1, bt229.2)))) else (some ((⟨#[]⟩ : ByteArray), x11))
def keys_Wrap.f (k : Nat) (a0 : ByteArray) (a1 : Int) (a2 : Int) (a3 : ByteArray) : Option (ByteArray × Int) := (keys_member.f a1).bind fun t210 => (if t210 = true then ((keys_epoch.f a2).bind fun t211 => (if t211 = true then ((keys_of.f k a0 ((a3.size : Int) == 32) (([(⟨#[119, 114, 97, 112]⟩ : ByteArray)] : List ByteArray))).bind fun bt215 => (keys_Wrap.j0 k a1 a2 a3 bt215.1 bt215.2)) else ((keys_of.f k a0 false (([(⟨#[119, 114, 97, 112]⟩ : ByteArray)] : List ByteArray))).bind fun bt220 => (keys_Wrap.j0 k a1 a2 a3 bt220.1 bt220.2)))) else ((keys_of.f k a0 false (([(⟨#[119, 114, 97, 112]⟩ : ByteArray)] : List ByteArray))).bind fun bt225 => (keys_Wrap.j0 k a1 a2 a3 bt225.1 bt225.2)))
set_option maxHeartbeats 8000000 in
set_option maxRecDepth 100000 in
theorem keys_Wrap.calls (k : Nat) (a0 : ByteArray) (a1 : Int) (a2 : Int) (a3 : ByteArray) (r1 : ByteArray) (r2 : Int) (w : World) (h : keys_Wrap.f k a0 a1 a2 a3 = some (r1, r2)) :
    Calls Tryz.prog 9 #[.string a0, .int .i64 a1, .int .i64 a2, .string a3] w fun e w' => e = .returned (.tuple #[.string r1, .int .i64 r2]) ∧ Below w.heap.size w w' := by
  have HB := Aside0.mk (Below.refl w.heap.size w); have H : ((keys_member.f a1).bind fun t210 => (if t210 = true then ((keys_epoch.f a2).bind fun t211 => (if t211 = true then ((keys_of.f k a0 ((a3.size : Int) == 32) (([(⟨#[119, 114, 97, 112]⟩ : ByteArray)] : List ByteArray))).bind fun bt215 => (keys_Wrap.j0 k a1 a2 a3 bt215.1 bt215.2)) else ((keys_of.f k a0 false (([(⟨#[119, 114, 97, 112]⟩ : ByteArray)] : List ByteArray))).bind fun bt220 => (keys_Wrap.j0 k a1 a2 a3 bt220.1 bt220.2)))) else ((keys_of.f k a0 false (([(⟨#[119, 114, 97, 112]⟩ : ByteArray)] : List ByteArray))).bind fun bt225 => (keys_Wrap.j0 k a1 a2 a3 bt225.1 bt225.2)))) = some (r1, r2) := h; clear h; have HC5 := Aside0.mk H; clear H; go_enter Tryz.func9, Tryz.ntmps9
  go_upto_region 1 with (fail)
  go_cut [10, 11] (fun v10 v11 wc => ∃ (kq : Nat) (x10_4 : ByteArray) (x11_4 : Int), v10 = .string x10_4 ∧ v11 = .int .i64 x11_4 ∧ Aside0 (keys_Wrap.j0 kq a1 a2 a3 x10_4 x11_4 = some (r1, r2)) ∧ Aside0 (kq ≤ k) ∧ Aside0 (Below w.heap.size w wc))
  case first =>
    have H := HC5.out; clear HC5; replace H := Option.bind_eq_some_iff.mp H; obtain ⟨t210, A60, H⟩ := H; have A6 := Aside0.mk A60; clear A60; by_cases c7 : t210 = true
    · subst c7; have H1 : ((keys_epoch.f a2).bind fun t211 => (if t211 = true then ((keys_of.f k a0 ((a3.size : Int) == 32) (([(⟨#[119, 114, 97, 112]⟩ : ByteArray)] : List ByteArray))).bind fun bt215 => (keys_Wrap.j0 k a1 a2 a3 bt215.1 bt215.2)) else ((keys_of.f k a0 false (([(⟨#[119, 114, 97, 112]⟩ : ByteArray)] : List ByteArray))).bind fun bt220 => (keys_Wrap.j0 k a1 a2 a3 bt220.1 bt220.2)))) = some (r1, r2) := by rw [if_pos rfl] at H; exact H
      clear H; have H := H1; clear H1; replace H := Option.bind_eq_some_iff.mp H; obtain ⟨t211, A80, H⟩ := H; have A8 := Aside0.mk A80; clear A80; by_cases c9 : t211 = true
      · subst c9; have H1 : ((keys_of.f k a0 ((a3.size : Int) == 32) (([(⟨#[119, 114, 97, 112]⟩ : ByteArray)] : List ByteArray))).bind fun bt215 => (keys_Wrap.j0 k a1 a2 a3 bt215.1 bt215.2)) = some (r1, r2) := by rw [if_pos rfl] at H; exact H
        clear H; have H := H1; clear H1; obtain ⟨y212, hy212⟩ : ∃ y_ : List ByteArray, y_ = (([(⟨#[119, 114, 97, 112]⟩ : ByteArray)] : List ByteArray)) := ⟨_, rfl⟩; replace H : ((keys_of.f k a0 ((a3.size : Int) == 32) y212).bind fun bt215 => (keys_Wrap.j0 k a1 a2 a3 bt215.1 bt215.2)) = some (r1, r2) := by first | (rw [hy212]; with_reducible exact H) | (have H2_ := (Option.bind_some _ _).symm.trans H; rw [hy212]; with_reducible exact H2_) | (have H2_ := (Option.bind_some _ _).symm.trans H; with_reducible exact H2_) | with_reducible exact H | (rw [hy212]; exact H) | exact H
        have Ny212 := Aside0.mk hy212; clear hy212; replace H := Option.bind_eq_some_iff.mp H; obtain ⟨⟨t215, t216⟩, A100, H⟩ := H; try dsimp only at H
        have A10 := Aside0.mk A100; clear A100; have H' := Aside0.mk H; clear H; go_wp2_with (first | ((with_reducible refine gate_callee (f := 31) rfl ?_); refine gl_ 17 Tryz.func31 #[.int .i64 a1] ?_; (with_reducible refine (keys_member.calls a1 true _ A6.out).mono ?_); rintro e w' ⟨rfl, ⟨nd, rfl⟩⟩; refine ⟨_, rfl, ?_⟩) | (go_at_call 32; (with_reducible refine (keys_epoch.calls a2 true _ A8.out).mono ?_); rintro e w' ⟨rfl, ⟨nd, rfl⟩⟩) | ((with_reducible refine gate_dst (N := 27) rfl ?_); (try (refine gate_guard (by rfl) ?_; dsimp only)); refine Kd.R_lit Kd.string _ 9 ?hg (N := 27) ?hd (xs := ([(⟨#[119, 114, 97, 112]⟩ : ByteArray)] : List ByteArray)) (inner := [.string (⟨#[119, 114, 97, 112]⟩ : ByteArray)]) (ok := fun _ => True) (okp := fun _ => True) ?hr ?hp (fun _ hk => hk) trivial (Below.refl _ _) (Nat.le_refl _) (by simp) ?_; (case hd => rfl); (case hg => rfl); (case hr => first | (go_simp; done) | (go_simp; rfl)); (case hp => exact (Reps.one (show Kd.M Kd.string _ _ _ (⟨#[119, 114, 97, 112]⟩ : ByteArray) [.string (⟨#[119, 114, 97, 112]⟩ : ByteArray)] from rfl) (Reps.none _ _))); intro v213 w11 ho12 hb hg_ hnew_; clear hg_ hnew_; (first | rw [← Ny212.out] at ho12 | (simp only [Int.reduceToNat] at ho12; rw [← Ny212.out] at ho12)); have HO214 := Aside0.mk (Kd.R_lower ho12 (below_size hb_)); replace HB := Aside0.mk (below_step hb_ hb); clear hb ho12; obtain ⟨Ao13, co13, eo13⟩ := Kd.R_slice HO214.out; subst eo13) | ((with_reducible refine gate_callee (f := 30) rfl ?_); refine gl_ 28 Tryz.func30 #[.string a0, .bool ((a3.size : Int) == 32), .slice Ao13 y212.length co13] ?_; (with_reducible refine (keys_of.calls k a0 ((a3.size : Int) == 32) _ _ y212 t215 t216 _ ?side1 ?side2 A10.out).mono ?_); (case side1 => exact ca_ (Kd.R_reads' HO214.out).2.2); (case side2 => exact (Kd.R_reads' HO214.out).2.1); rintro e w14 ⟨rfl, hb⟩; refine ⟨_, rfl, ?_⟩; replace HO214 := Aside0.mk (Kd.R_below (ra_ HO214.out) hb); replace HB := Aside0.mk (below_step hb_ hb)))
        go_meet
        case rel => exact ⟨_, (t215), (t216), rz_, rz_, H', ⟨by first | omega | exact Nat.le_refl _⟩, ⟨hb_⟩⟩
      · replace c9 := Bool.eq_false_iff.mpr c9; subst c9; have H1 : ((keys_of.f k a0 false (([(⟨#[119, 114, 97, 112]⟩ : ByteArray)] : List ByteArray))).bind fun bt220 => (keys_Wrap.j0 k a1 a2 a3 bt220.1 bt220.2)) = some (r1, r2) := by rw [if_neg (show ¬ (false = true) by decide)] at H; exact H
        clear H; have H := H1; clear H1; obtain ⟨y217, hy217⟩ : ∃ y_ : List ByteArray, y_ = (([(⟨#[119, 114, 97, 112]⟩ : ByteArray)] : List ByteArray)) := ⟨_, rfl⟩; replace H : ((keys_of.f k a0 false y217).bind fun bt220 => (keys_Wrap.j0 k a1 a2 a3 bt220.1 bt220.2)) = some (r1, r2) := by first | (rw [hy217]; with_reducible exact H) | (have H2_ := (Option.bind_some _ _).symm.trans H; rw [hy217]; with_reducible exact H2_) | (have H2_ := (Option.bind_some _ _).symm.trans H; with_reducible exact H2_) | with_reducible exact H | (rw [hy217]; exact H) | exact H
        have Ny217 := Aside0.mk hy217; clear hy217; replace H := Option.bind_eq_some_iff.mp H; obtain ⟨⟨t220, t221⟩, A150, H⟩ := H; try dsimp only at H
        have A15 := Aside0.mk A150; clear A150; have H' := Aside0.mk H; clear H; go_wp2_with (first | ((with_reducible refine gate_callee (f := 31) rfl ?_); refine gl_ 17 Tryz.func31 #[.int .i64 a1] ?_; (with_reducible refine (keys_member.calls a1 true _ A6.out).mono ?_); rintro e w' ⟨rfl, ⟨nd, rfl⟩⟩; refine ⟨_, rfl, ?_⟩) | (go_at_call 32; (with_reducible refine (keys_epoch.calls a2 false _ A8.out).mono ?_); rintro e w' ⟨rfl, ⟨nd, rfl⟩⟩) | ((with_reducible refine gate_dst (N := 27) rfl ?_); (try (refine gate_guard (by rfl) ?_; dsimp only)); refine Kd.R_lit Kd.string _ 9 ?hg (N := 27) ?hd (xs := ([(⟨#[119, 114, 97, 112]⟩ : ByteArray)] : List ByteArray)) (inner := [.string (⟨#[119, 114, 97, 112]⟩ : ByteArray)]) (ok := fun _ => True) (okp := fun _ => True) ?hr ?hp (fun _ hk => hk) trivial (Below.refl _ _) (Nat.le_refl _) (by simp) ?_; (case hd => rfl); (case hg => rfl); (case hr => first | (go_simp; done) | (go_simp; rfl)); (case hp => exact (Reps.one (show Kd.M Kd.string _ _ _ (⟨#[119, 114, 97, 112]⟩ : ByteArray) [.string (⟨#[119, 114, 97, 112]⟩ : ByteArray)] from rfl) (Reps.none _ _))); intro v218 w16 ho17 hb hg_ hnew_; clear hg_ hnew_; (first | rw [← Ny217.out] at ho17 | (simp only [Int.reduceToNat] at ho17; rw [← Ny217.out] at ho17)); have HO219 := Aside0.mk (Kd.R_lower ho17 (below_size hb_)); replace HB := Aside0.mk (below_step hb_ hb); clear hb ho17; obtain ⟨Ao18, co18, eo18⟩ := Kd.R_slice HO219.out; subst eo18) | ((with_reducible refine gate_callee (f := 30) rfl ?_); refine gl_ 28 Tryz.func30 #[.string a0, .bool false, .slice Ao18 y217.length co18] ?_; (with_reducible refine (keys_of.calls k a0 false _ _ y217 t220 t221 _ ?side1 ?side2 A15.out).mono ?_); (case side1 => exact ca_ (Kd.R_reads' HO219.out).2.2); (case side2 => exact (Kd.R_reads' HO219.out).2.1); rintro e w19 ⟨rfl, hb⟩; refine ⟨_, rfl, ?_⟩; replace HO219 := Aside0.mk (Kd.R_below (ra_ HO219.out) hb); replace HB := Aside0.mk (below_step hb_ hb)))
        go_meet
        case rel => exact ⟨_, (t220), (t221), rz_, rz_, H', ⟨by first | omega | exact Nat.le_refl _⟩, ⟨hb_⟩⟩
    · replace c7 := Bool.eq_false_iff.mpr c7; subst c7; have H1 : ((keys_of.f k a0 false (([(⟨#[119, 114, 97, 112]⟩ : ByteArray)] : List ByteArray))).bind fun bt225 => (keys_Wrap.j0 k a1 a2 a3 bt225.1 bt225.2)) = some (r1, r2) := by rw [if_neg (show ¬ (false = true) by decide)] at H; exact H
      clear H; have H := H1; clear H1; obtain ⟨y222, hy222⟩ : ∃ y_ : List ByteArray, y_ = (([(⟨#[119, 114, 97, 112]⟩ : ByteArray)] : List ByteArray)) := ⟨_, rfl⟩; replace H : ((keys_of.f k a0 false y222).bind fun bt225 => (keys_Wrap.j0 k a1 a2 a3 bt225.1 bt225.2)) = some (r1, r2) := by first | (rw [hy222]; with_reducible exact H) | (have H2_ := (Option.bind_some _ _).symm.trans H; rw [hy222]; with_reducible exact H2_) | (have H2_ := (Option.bind_some _ _).symm.trans H; with_reducible exact H2_) | with_reducible exact H | (rw [hy222]; exact H) | exact H
      have Ny222 := Aside0.mk hy222; clear hy222; replace H := Option.bind_eq_some_iff.mp H; obtain ⟨⟨t225, t226⟩, A200, H⟩ := H; try dsimp only at H
      have A20 := Aside0.mk A200; clear A200; have H' := Aside0.mk H; clear H; go_wp2_with (first | ((with_reducible refine gate_callee (f := 31) rfl ?_); refine gl_ 17 Tryz.func31 #[.int .i64 a1] ?_; (with_reducible refine (keys_member.calls a1 false _ A6.out).mono ?_); rintro e w' ⟨rfl, ⟨nd, rfl⟩⟩; refine ⟨_, rfl, ?_⟩) | ((with_reducible refine gate_dst (N := 27) rfl ?_); (try (refine gate_guard (by rfl) ?_; dsimp only)); refine Kd.R_lit Kd.string _ 9 ?hg (N := 27) ?hd (xs := ([(⟨#[119, 114, 97, 112]⟩ : ByteArray)] : List ByteArray)) (inner := [.string (⟨#[119, 114, 97, 112]⟩ : ByteArray)]) (ok := fun _ => True) (okp := fun _ => True) ?hr ?hp (fun _ hk => hk) trivial (Below.refl _ _) (Nat.le_refl _) (by simp) ?_; (case hd => rfl); (case hg => rfl); (case hr => first | (go_simp; done) | (go_simp; rfl)); (case hp => exact (Reps.one (show Kd.M Kd.string _ _ _ (⟨#[119, 114, 97, 112]⟩ : ByteArray) [.string (⟨#[119, 114, 97, 112]⟩ : ByteArray)] from rfl) (Reps.none _ _))); intro v223 w21 ho22 hb hg_ hnew_; clear hg_ hnew_; (first | rw [← Ny222.out] at ho22 | (simp only [Int.reduceToNat] at ho22; rw [← Ny222.out] at ho22)); have HO224 := Aside0.mk (Kd.R_lower ho22 (below_size hb_)); replace HB := Aside0.mk (below_step hb_ hb); clear hb ho22; obtain ⟨Ao23, co23, eo23⟩ := Kd.R_slice HO224.out; subst eo23) | ((with_reducible refine gate_callee (f := 30) rfl ?_); refine gl_ 28 Tryz.func30 #[.string a0, .bool false, .slice Ao23 y222.length co23] ?_; (with_reducible refine (keys_of.calls k a0 false _ _ y222 t225 t226 _ ?side1 ?side2 A20.out).mono ?_); (case side1 => exact ca_ (Kd.R_reads' HO224.out).2.2); (case side2 => exact (Kd.R_reads' HO224.out).2.1); rintro e w24 ⟨rfl, hb⟩; refine ⟨_, rfl, ?_⟩; replace HO224 := Aside0.mk (Kd.R_below (ra_ HO224.out) hb); replace HB := Aside0.mk (below_step hb_ hb)))
      go_meet
      case rel => exact ⟨_, (t225), (t226), rz_, rz_, H', ⟨by first | omega | exact Nat.le_refl _⟩, ⟨hb_⟩⟩
  case rest =>
    clear HC5; obtain ⟨kq, x10_4, x11_4, rfl, rfl, HA, HJ4, HB⟩ := hcut; cases kq with
    | zero => exact absurd HA.out (by simp [keys_Wrap.j0])
    | succ kj4 =>
      have H := HA.out; clear HA; simp only [keys_Wrap.j0] at H; by_cases c25 : x11_4 = 0
      · rw [if_pos c25] at H; have c25b0 : (x11_4 == 0) = true := beq_iff_eq.mpr c25; have c25b1 : (x11_4 != 0) = false := bne_eq_false_iff_eq.mpr c25; clear c25; replace H := Option.bind_eq_some_iff.mp H; obtain ⟨⟨t227, t228⟩, A260, H⟩ := H; try dsimp only at H
        have A26 := Aside0.mk A260; clear A260; replace H := Option.bind_eq_some_iff.mp H; obtain ⟨⟨t229, t230⟩, A270, H⟩ := H; try dsimp only at H
        have A27 := Aside0.mk A270; clear A270; simp only [Option.some.injEq, Prod.mk.injEq] at H; obtain ⟨rfl, rfl⟩ := H; go_wp2_with (first | ((with_reducible refine gate_callee (f := 29) rfl ?_); refine gl_ 37 Tryz.func29 #[.int .i64 a1, .int .i64 a2] ?_; (with_reducible refine (keys_Nonce.calls kj4 a1 a2 t227 t228 _ A26.out).mono ?_); rintro e w28 ⟨rfl, hb⟩; refine ⟨_, rfl, ?_⟩; replace HB := Aside0.mk (below_step hb_ hb)) | ((with_reducible refine gate_callee (f := 33) rfl ?_); refine gl_ 43 Tryz.func33 #[.string x10_4, .string t227, .string (⟨#[119, 114, 97, 112]⟩ : ByteArray), .string a3] ?_; (with_reducible refine (aead_Seal.calls x10_4 t227 (⟨#[119, 114, 97, 112]⟩ : ByteArray) a3 t229 t230 _ A27.out).mono ?_); rintro e w29 ⟨rfl, hb⟩; refine ⟨_, rfl, ?_⟩; replace HB := Aside0.mk (below_step hb_ hb)))
        go_ret2
        exact ⟨ew_, hb_⟩
      · rw [if_neg c25] at H; have c25b0 : (x11_4 == 0) = false := beq_eq_false_iff_ne.mpr c25; have c25b1 : (x11_4 != 0) = true := bne_iff_ne.mpr c25; simp only [Option.some.injEq, Prod.mk.injEq] at H; obtain ⟨rfl, rfl⟩ := H; go_wp2; go_ret2
        exact ⟨ew_, hb_⟩
def keys_Unwrap.j0 : Nat → Int → Int → ByteArray → ByteArray → Int → Option (ByteArray × Int)
 | 0, _, _, _, _, _ => none
 | k + 1, x1, x2, x3, x10, x11 => if x11 = 0 then ((keys_Nonce.f k x1 x2).bind fun bt243 => ((aead_Open.f x10 bt243.1 (⟨#[119, 114, 97, 112]⟩ : ByteArray) x3).bind fun bt245 => (if bt245.2 = 0 then (if (bt245.1.size : Int) = 32 then (some (bt245.1, bt245.2)) else (some ((⟨#[]⟩ : ByteArray), 70))) else (some (bt245.1, bt245.2))))) else (some ((⟨#[]⟩ : ByteArray), x11))
def keys_Unwrap.f (k : Nat) (a0 : ByteArray) (a1 : Int) (a2 : Int) (a3 : ByteArray) : Option (ByteArray × Int) := (keys_member.f a1).bind fun t231 => (if t231 = true then ((keys_epoch.f a2).bind fun t232 => ((keys_of.f k a0 t232 (([(⟨#[119, 114, 97, 112]⟩ : ByteArray)] : List ByteArray))).bind fun bt236 => (keys_Unwrap.j0 k a1 a2 a3 bt236.1 bt236.2))) else ((keys_of.f k a0 false (([(⟨#[119, 114, 97, 112]⟩ : ByteArray)] : List ByteArray))).bind fun bt241 => (keys_Unwrap.j0 k a1 a2 a3 bt241.1 bt241.2)))
set_option maxHeartbeats 8000000 in
set_option maxRecDepth 100000 in
theorem keys_Unwrap.calls (k : Nat) (a0 : ByteArray) (a1 : Int) (a2 : Int) (a3 : ByteArray) (r1 : ByteArray) (r2 : Int) (w : World) (h : keys_Unwrap.f k a0 a1 a2 a3 = some (r1, r2)) :
    Calls Tryz.prog 11 #[.string a0, .int .i64 a1, .int .i64 a2, .string a3] w fun e w' => e = .returned (.tuple #[.string r1, .int .i64 r2]) ∧ Below w.heap.size w w' := by
  have HB := Aside0.mk (Below.refl w.heap.size w); have H : ((keys_member.f a1).bind fun t231 => (if t231 = true then ((keys_epoch.f a2).bind fun t232 => ((keys_of.f k a0 t232 (([(⟨#[119, 114, 97, 112]⟩ : ByteArray)] : List ByteArray))).bind fun bt236 => (keys_Unwrap.j0 k a1 a2 a3 bt236.1 bt236.2))) else ((keys_of.f k a0 false (([(⟨#[119, 114, 97, 112]⟩ : ByteArray)] : List ByteArray))).bind fun bt241 => (keys_Unwrap.j0 k a1 a2 a3 bt241.1 bt241.2)))) = some (r1, r2) := h; clear h; have HC5 := Aside0.mk H; clear H; go_enter Tryz.func11, Tryz.ntmps11
  go_upto_region 1 with (fail)
  go_cut [10, 11] (fun v10 v11 wc => ∃ (kq : Nat) (x10_4 : ByteArray) (x11_4 : Int), v10 = .string x10_4 ∧ v11 = .int .i64 x11_4 ∧ Aside0 (keys_Unwrap.j0 kq a1 a2 a3 x10_4 x11_4 = some (r1, r2)) ∧ Aside0 (kq ≤ k) ∧ Aside0 (Below w.heap.size w wc))
  case first =>
    have H := HC5.out; clear HC5; replace H := Option.bind_eq_some_iff.mp H; obtain ⟨t231, A60, H⟩ := H; have A6 := Aside0.mk A60; clear A60; by_cases c7 : t231 = true
    · subst c7; have H1 : ((keys_epoch.f a2).bind fun t232 => ((keys_of.f k a0 t232 (([(⟨#[119, 114, 97, 112]⟩ : ByteArray)] : List ByteArray))).bind fun bt236 => (keys_Unwrap.j0 k a1 a2 a3 bt236.1 bt236.2))) = some (r1, r2) := by rw [if_pos rfl] at H; exact H
      clear H; have H := H1; clear H1; replace H := Option.bind_eq_some_iff.mp H; obtain ⟨t232, A80, H⟩ := H; have A8 := Aside0.mk A80; clear A80; obtain ⟨y233, hy233⟩ : ∃ y_ : List ByteArray, y_ = (([(⟨#[119, 114, 97, 112]⟩ : ByteArray)] : List ByteArray)) := ⟨_, rfl⟩; replace H : ((keys_of.f k a0 t232 y233).bind fun bt236 => (keys_Unwrap.j0 k a1 a2 a3 bt236.1 bt236.2)) = some (r1, r2) := by first | (rw [hy233]; with_reducible exact H) | (have H2_ := (Option.bind_some _ _).symm.trans H; rw [hy233]; with_reducible exact H2_) | (have H2_ := (Option.bind_some _ _).symm.trans H; with_reducible exact H2_) | with_reducible exact H | (rw [hy233]; exact H) | exact H
      have Ny233 := Aside0.mk hy233; clear hy233; replace H := Option.bind_eq_some_iff.mp H; obtain ⟨⟨t236, t237⟩, A90, H⟩ := H; try dsimp only at H
      have A9 := Aside0.mk A90; clear A90; have H' := Aside0.mk H; clear H; go_wp2_with (first | ((with_reducible refine gate_callee (f := 31) rfl ?_); refine gl_ 18 Tryz.func31 #[.int .i64 a1] ?_; (with_reducible refine (keys_member.calls a1 true _ A6.out).mono ?_); rintro e w' ⟨rfl, ⟨nd, rfl⟩⟩; refine ⟨_, rfl, ?_⟩) | (go_at_call 32; (with_reducible refine (keys_epoch.calls a2 t232 _ A8.out).mono ?_); rintro e w' ⟨rfl, ⟨nd, rfl⟩⟩) | ((with_reducible refine gate_dst (N := 23) rfl ?_); (try (refine gate_guard (by rfl) ?_; dsimp only)); refine Kd.R_lit Kd.string _ 9 ?hg (N := 23) ?hd (xs := ([(⟨#[119, 114, 97, 112]⟩ : ByteArray)] : List ByteArray)) (inner := [.string (⟨#[119, 114, 97, 112]⟩ : ByteArray)]) (ok := fun _ => True) (okp := fun _ => True) ?hr ?hp (fun _ hk => hk) trivial (Below.refl _ _) (Nat.le_refl _) (by simp) ?_; (case hd => rfl); (case hg => rfl); (case hr => first | (go_simp; done) | (go_simp; rfl)); (case hp => exact (Reps.one (show Kd.M Kd.string _ _ _ (⟨#[119, 114, 97, 112]⟩ : ByteArray) [.string (⟨#[119, 114, 97, 112]⟩ : ByteArray)] from rfl) (Reps.none _ _))); intro v234 w10 ho11 hb hg_ hnew_; clear hg_ hnew_; (first | rw [← Ny233.out] at ho11 | (simp only [Int.reduceToNat] at ho11; rw [← Ny233.out] at ho11)); have HO235 := Aside0.mk (Kd.R_lower ho11 (below_size hb_)); replace HB := Aside0.mk (below_step hb_ hb); clear hb ho11; obtain ⟨Ao12, co12, eo12⟩ := Kd.R_slice HO235.out; subst eo12) | ((with_reducible refine gate_callee (f := 30) rfl ?_); refine gl_ 24 Tryz.func30 #[.string a0, .bool t232, .slice Ao12 y233.length co12] ?_; (with_reducible refine (keys_of.calls k a0 t232 _ _ y233 t236 t237 _ ?side1 ?side2 A9.out).mono ?_); (case side1 => exact ca_ (Kd.R_reads' HO235.out).2.2); (case side2 => exact (Kd.R_reads' HO235.out).2.1); rintro e w13 ⟨rfl, hb⟩; refine ⟨_, rfl, ?_⟩; replace HO235 := Aside0.mk (Kd.R_below (ra_ HO235.out) hb); replace HB := Aside0.mk (below_step hb_ hb)))
      go_meet
      case rel => exact ⟨_, (t236), (t237), rz_, rz_, H', ⟨by first | omega | exact Nat.le_refl _⟩, ⟨hb_⟩⟩
    · replace c7 := Bool.eq_false_iff.mpr c7; subst c7; have H1 : ((keys_of.f k a0 false (([(⟨#[119, 114, 97, 112]⟩ : ByteArray)] : List ByteArray))).bind fun bt241 => (keys_Unwrap.j0 k a1 a2 a3 bt241.1 bt241.2)) = some (r1, r2) := by rw [if_neg (show ¬ (false = true) by decide)] at H; exact H
      clear H; have H := H1; clear H1; obtain ⟨y238, hy238⟩ : ∃ y_ : List ByteArray, y_ = (([(⟨#[119, 114, 97, 112]⟩ : ByteArray)] : List ByteArray)) := ⟨_, rfl⟩; replace H : ((keys_of.f k a0 false y238).bind fun bt241 => (keys_Unwrap.j0 k a1 a2 a3 bt241.1 bt241.2)) = some (r1, r2) := by first | (rw [hy238]; with_reducible exact H) | (have H2_ := (Option.bind_some _ _).symm.trans H; rw [hy238]; with_reducible exact H2_) | (have H2_ := (Option.bind_some _ _).symm.trans H; with_reducible exact H2_) | with_reducible exact H | (rw [hy238]; exact H) | exact H
      have Ny238 := Aside0.mk hy238; clear hy238; replace H := Option.bind_eq_some_iff.mp H; obtain ⟨⟨t241, t242⟩, A140, H⟩ := H; try dsimp only at H
      have A14 := Aside0.mk A140; clear A140; have H' := Aside0.mk H; clear H; go_wp2_with (first | ((with_reducible refine gate_callee (f := 31) rfl ?_); refine gl_ 18 Tryz.func31 #[.int .i64 a1] ?_; (with_reducible refine (keys_member.calls a1 false _ A6.out).mono ?_); rintro e w' ⟨rfl, ⟨nd, rfl⟩⟩; refine ⟨_, rfl, ?_⟩) | ((with_reducible refine gate_dst (N := 23) rfl ?_); (try (refine gate_guard (by rfl) ?_; dsimp only)); refine Kd.R_lit Kd.string _ 9 ?hg (N := 23) ?hd (xs := ([(⟨#[119, 114, 97, 112]⟩ : ByteArray)] : List ByteArray)) (inner := [.string (⟨#[119, 114, 97, 112]⟩ : ByteArray)]) (ok := fun _ => True) (okp := fun _ => True) ?hr ?hp (fun _ hk => hk) trivial (Below.refl _ _) (Nat.le_refl _) (by simp) ?_; (case hd => rfl); (case hg => rfl); (case hr => first | (go_simp; done) | (go_simp; rfl)); (case hp => exact (Reps.one (show Kd.M Kd.string _ _ _ (⟨#[119, 114, 97, 112]⟩ : ByteArray) [.string (⟨#[119, 114, 97, 112]⟩ : ByteArray)] from rfl) (Reps.none _ _))); intro v239 w15 ho16 hb hg_ hnew_; clear hg_ hnew_; (first | rw [← Ny238.out] at ho16 | (simp only [Int.reduceToNat] at ho16; rw [← Ny238.out] at ho16)); have HO240 := Aside0.mk (Kd.R_lower ho16 (below_size hb_)); replace HB := Aside0.mk (below_step hb_ hb); clear hb ho16; obtain ⟨Ao17, co17, eo17⟩ := Kd.R_slice HO240.out; subst eo17) | ((with_reducible refine gate_callee (f := 30) rfl ?_); refine gl_ 24 Tryz.func30 #[.string a0, .bool false, .slice Ao17 y238.length co17] ?_; (with_reducible refine (keys_of.calls k a0 false _ _ y238 t241 t242 _ ?side1 ?side2 A14.out).mono ?_); (case side1 => exact ca_ (Kd.R_reads' HO240.out).2.2); (case side2 => exact (Kd.R_reads' HO240.out).2.1); rintro e w18 ⟨rfl, hb⟩; refine ⟨_, rfl, ?_⟩; replace HO240 := Aside0.mk (Kd.R_below (ra_ HO240.out) hb); replace HB := Aside0.mk (below_step hb_ hb)))
      go_meet
      case rel => exact ⟨_, (t241), (t242), rz_, rz_, H', ⟨by first | omega | exact Nat.le_refl _⟩, ⟨hb_⟩⟩
  case rest =>
    clear HC5; obtain ⟨kq, x10_4, x11_4, rfl, rfl, HA, HJ4, HB⟩ := hcut; cases kq with
    | zero => exact absurd HA.out (by simp [keys_Unwrap.j0])
    | succ kj4 =>
      have H := HA.out; clear HA; simp only [keys_Unwrap.j0] at H; by_cases c19 : x11_4 = 0
      · rw [if_pos c19] at H; have c19b0 : (x11_4 == 0) = true := beq_iff_eq.mpr c19; have c19b1 : (x11_4 != 0) = false := bne_eq_false_iff_eq.mpr c19; clear c19; replace H := Option.bind_eq_some_iff.mp H; obtain ⟨⟨t243, t244⟩, A200, H⟩ := H; try dsimp only at H
        have A20 := Aside0.mk A200; clear A200; replace H := Option.bind_eq_some_iff.mp H; obtain ⟨⟨t245, t246⟩, A210, H⟩ := H; try dsimp only at H
        have A21 := Aside0.mk A210; clear A210; by_cases c22 : t246 = 0
        · rw [if_pos c22] at H; have c22b0 : (t246 == 0) = true := beq_iff_eq.mpr c22; have c22b1 : (t246 != 0) = false := bne_eq_false_iff_eq.mpr c22; clear c22; by_cases c23 : (t245.size : Int) = 32
          · rw [if_pos c23] at H; have c23b0 : ((t245.size : Int) == 32) = true := beq_iff_eq.mpr c23; have c23b1 : ((t245.size : Int) != 32) = false := bne_eq_false_iff_eq.mpr c23; clear c23; simp only [Option.some.injEq, Prod.mk.injEq] at H; obtain ⟨rfl, rfl⟩ := H; go_wp2_with (first | ((with_reducible refine gate_callee (f := 29) rfl ?_); refine gl_ 33 Tryz.func29 #[.int .i64 a1, .int .i64 a2] ?_; (with_reducible refine (keys_Nonce.calls kj4 a1 a2 t243 t244 _ A20.out).mono ?_); rintro e w24 ⟨rfl, hb⟩; refine ⟨_, rfl, ?_⟩; replace HB := Aside0.mk (below_step hb_ hb)) | ((with_reducible refine gate_callee (f := 38) rfl ?_); refine gl_ 40 Tryz.func38 #[.string x10_4, .string t243, .string (⟨#[119, 114, 97, 112]⟩ : ByteArray), .string a3] ?_; (with_reducible refine (aead_Open.calls x10_4 t243 (⟨#[119, 114, 97, 112]⟩ : ByteArray) a3 t245 t246 _ A21.out).mono ?_); rintro e w25 ⟨rfl, hb⟩; refine ⟨_, rfl, ?_⟩; replace HB := Aside0.mk (below_step hb_ hb)))
            go_ret2
            exact ⟨ew_, hb_⟩
          · rw [if_neg c23] at H; have c23b0 : ((t245.size : Int) == 32) = false := beq_eq_false_iff_ne.mpr c23; have c23b1 : ((t245.size : Int) != 32) = true := bne_iff_ne.mpr c23; simp only [Option.some.injEq, Prod.mk.injEq] at H; obtain ⟨rfl, rfl⟩ := H; go_wp2_with (first | ((with_reducible refine gate_callee (f := 29) rfl ?_); refine gl_ 33 Tryz.func29 #[.int .i64 a1, .int .i64 a2] ?_; (with_reducible refine (keys_Nonce.calls kj4 a1 a2 t243 t244 _ A20.out).mono ?_); rintro e w26 ⟨rfl, hb⟩; refine ⟨_, rfl, ?_⟩; replace HB := Aside0.mk (below_step hb_ hb)) | ((with_reducible refine gate_callee (f := 38) rfl ?_); refine gl_ 40 Tryz.func38 #[.string x10_4, .string t243, .string (⟨#[119, 114, 97, 112]⟩ : ByteArray), .string a3] ?_; (with_reducible refine (aead_Open.calls x10_4 t243 (⟨#[119, 114, 97, 112]⟩ : ByteArray) a3 t245 t246 _ A21.out).mono ?_); rintro e w27 ⟨rfl, hb⟩; refine ⟨_, rfl, ?_⟩; replace HB := Aside0.mk (below_step hb_ hb)))
            go_ret2
            exact ⟨ew_, hb_⟩
        · rw [if_neg c22] at H; have c22b0 : (t246 == 0) = false := beq_eq_false_iff_ne.mpr c22; have c22b1 : (t246 != 0) = true := bne_iff_ne.mpr c22; simp only [Option.some.injEq, Prod.mk.injEq] at H; obtain ⟨rfl, rfl⟩ := H; go_wp2_with (first | ((with_reducible refine gate_callee (f := 29) rfl ?_); refine gl_ 33 Tryz.func29 #[.int .i64 a1, .int .i64 a2] ?_; (with_reducible refine (keys_Nonce.calls kj4 a1 a2 t243 t244 _ A20.out).mono ?_); rintro e w28 ⟨rfl, hb⟩; refine ⟨_, rfl, ?_⟩; replace HB := Aside0.mk (below_step hb_ hb)) | ((with_reducible refine gate_callee (f := 38) rfl ?_); refine gl_ 40 Tryz.func38 #[.string x10_4, .string t243, .string (⟨#[119, 114, 97, 112]⟩ : ByteArray), .string a3] ?_; (with_reducible refine (aead_Open.calls x10_4 t243 (⟨#[119, 114, 97, 112]⟩ : ByteArray) a3 t245 t246 _ A21.out).mono ?_); rintro e w29 ⟨rfl, hb⟩; refine ⟨_, rfl, ?_⟩; replace HB := Aside0.mk (below_step hb_ hb)))
          go_ret2
          exact ⟨ew_, hb_⟩
      · rw [if_neg c19] at H; have c19b0 : (x11_4 == 0) = false := beq_eq_false_iff_ne.mpr c19; have c19b1 : (x11_4 != 0) = true := bne_iff_ne.mpr c19; simp only [Option.some.injEq, Prod.mk.injEq] at H; obtain ⟨rfl, rfl⟩ := H; go_wp2; go_ret2
        exact ⟨ew_, hb_⟩
def samphirelaw15_light.f (a0 : ByteArray) (a1 : ByteArray) : Option (Bool) := if (a0.size : Int) ≤ 256 then (some (decide ((a1.size : Int) ≤ 256))) else (some false)
set_option maxHeartbeats 8000000 in
set_option maxRecDepth 100000 in
theorem samphirelaw15_light.calls (a0 : ByteArray) (a1 : ByteArray) (r : Bool) (w : World) (h : samphirelaw15_light.f a0 a1 = some r) :
  Calls Tryz.prog 7 #[.string a0, .string a1] w fun e w' => e = .returned (.bool r) ∧ Drawn0 w w' := by
 have H : (if (a0.size : Int) ≤ 256 then (some (decide ((a1.size : Int) ≤ 256))) else (some false)) = some r := h; clear h; by_cases c3 : (a0.size : Int) ≤ 256
 ·rw [if_pos c3] at H; have c3b0 : decide ((a0.size : Int) ≤ 256) = true := decide_eq_true c3; have c3b1 : decide (a0.size ≤ 256) = true := decide_eq_true (by omega); clear c3; obtain rfl := Option.some.inj H; go_enter Tryz.func7, Tryz.ntmps7
  go_wp2; go_ret
  exact ⟨rz_, dz_⟩
 ·rw [if_neg c3] at H; have c3b0 : decide ((a0.size : Int) ≤ 256) = false := decide_eq_false c3; have c3b1 : decide (a0.size ≤ 256) = false := decide_eq_false (by omega); clear c3; obtain rfl := Option.some.inj H; go_enter Tryz.func7, Tryz.ntmps7
  go_wp2; go_ret
  exact ⟨rz_, dz_⟩
end Go.Proofs.YtbkbganflnemeaaGreat.Pr
end

section
namespace Go.Proofs.YtbkbganflnemeaaGreat.Pr
open Go.RowKit Go.Proofs.YtbkbganflnemeaaGreatW.PrintWords Go.Proofs.YtbkbganflnemeaaGreatW.PrintLast
set_option maxHeartbeats 1000000
theorem joinB_1 (a s : ByteArray) : joinB [a] s = a := by
 unfold joinB
 rw [List.map_cons, List.map_nil, Lib.join_one]
theorem joinB_3 (a b c : ByteArray) : joinB [a, b, c] ⟨#[]⟩ = a ++ b ++ c := by
 apply ByteArray.ext
 apply Array.ext'
 simp [joinB, Lib.join, List.intercalate, ByteArray.data_append]
def memB (n : Int) : Bool := decide (1 ≤ n ∧ n ≤ 6)
def epB (n : Int) : Bool := decide (1 ≤ n ∧ n ≤ 1099511627775)
theorem member_f (n : Int) : keys_member.f n = some (memB n) := by
 unfold keys_member.f memB
 split
 ·congr 1; rw [decide_eq_decide]; omega
 ·rw [decide_eq_false (by omega)]
theorem epoch_f (n : Int) : keys_epoch.f n = some (epB n) := by
 unfold keys_epoch.f epB
 split
 ·congr 1; rw [decide_eq_decide]; omega
 ·rw [decide_eq_false (by omega)]
def oneN (n : Int) : Nat := (n % 256).toNat
theorem one_str (n : Int) : strOfNums [n % 256] = txt [oneN n] := by
 rw [← str_nats]
 congr 1
 simp only [List.map_cons, List.map_nil, List.cons.injEq, and_true]
 unfold oneN
 omega
theorem keys_one_f (n : Int) : keys_one.f n = some (txt [oneN n]) := by unfold keys_one.f; rw [one_str]
theorem purpose_f (l : List ByteArray) (h0 : l.length ≤ 1000000) (h1 : (joinB l ⟨#[]⟩).size ≤ 1000000000000) : keys_purpose.f l = some (joinB l ⟨#[]⟩) := by
 unfold keys_purpose.f strings_Join.f
 rw [if_pos ⟨h0, h1⟩, Option.bind_some]
def hkT (key p : ByteArray) : ByteArray := txt ((expL (bys key) (bys p) 1).take 32)
theorem hkT_size (key p : ByteArray) : (hkT key p).size = 32 := by
 unfold hkT
 rw [txt_size, List.length_take, expL_length]
 rfl
theorem expand_32 (key p : ByteArray) (h0 : key.size ≤ 1000000000) (h1 : p.size ≤ 1000000000) : hkdf_Expand.f key p 32 = some (hkT key p, 0) := hkdf_Expand_f key p h0 h1 32 (by decide)
def ofF (key : ByteArray) (ok : Bool) (p : ByteArray) : ByteArray × Int := if ok = true ∧ key.size = 32 then (hkT key p, 0) else (⟨#[]⟩, 1)
theorem of_f (k : Nat) (key : ByteArray) (ok : Bool) (l : List ByteArray) (p : ByteArray) (hp : joinB l ⟨#[]⟩ = p) (h0 : l.length ≤ 1000000) (h1 : p.size ≤ 1000000000) : keys_of.f (k + 1) key ok l = some (ofF key ok p) := by
 subst hp
 unfold keys_of.f ofF
 by_cases ho : ok = true
 ·rw [if_pos ho]
  by_cases hk : key.size = 32
  ·rw [if_pos ⟨ho, hk⟩, keys_of.j0, if_neg (by simp; omega), purpose_f l h0 (by omega), Option.bind_some, expand_32 _ _ (by omega) h1, Option.bind_some]
  ·rw [if_neg (fun h => hk h.2), keys_of.j0, if_pos (by simp; omega)]
 ·rw [if_neg ho, if_neg (fun h => ho h.1), keys_of.j0, if_pos rfl]
def nonceL (who n : Int) : List Nat := oneN who :: 0 :: 0 :: 0 :: 0 :: 0 :: byN n 6
theorem nonceL_length (who n : Int) : (nonceL who n).length = 12 := by
 simp only [nonceL, List.length_cons, byN_length n 6 (by decide)]
def nonceF (who n : Int) : ByteArray × Int := if who < 0 ∨ 6 < who ∨ n < 0 then (⟨#[]⟩, 1) else if 1099511627775 < n then (⟨#[]⟩, 150) else (txt (nonceL who n), 0)
theorem nonce_f (k : Nat) (who n : Int) : keys_Nonce.f (k + 1) who n = some (nonceF who n) := by
 have key : ∀ (d : Bool), d = decide (who < 0 ∨ 6 < who ∨ n < 0) → keys_Nonce.j0 (k + 1) who n d = some (nonceF who n) := by
  intro d hd
  subst hd
  unfold nonceF
  rw [keys_Nonce.j0]
  by_cases hc : who < 0 ∨ 6 < who ∨ n < 0
  ·rw [if_pos hc, if_pos (decide_eq_true hc)]
  ·rw [if_neg hc, if_neg (by rw [decide_eq_false hc]; decide)]
   by_cases hs : n > 1099511627775
   ·rw [if_pos hs, if_pos (by omega)]
   ·have e0 : strings_Repeat.f (⟨#[0]⟩ : ByteArray) 5 = some (txt (List.replicate 5 0)) := by
     unfold strings_Repeat.f
     rw [if_pos (by decide), show (5 : Int).toNat = 5 from rfl, txt_repeat]
    have e1 : numT n = txt (byN n 6) := if_pos (by unfold timeB; exact decide_eq_true (by omega))
    have e2 : joinB [txt [oneN who], txt (List.replicate 5 0), txt (byN n 6)] ⟨#[]⟩ = txt (nonceL who n) := by
     rw [joinB_3, ← txt_append, ← txt_append]
     rfl
    rw [if_neg hs, if_neg (by omega), keys_one_f, Option.bind_some, e0, Option.bind_some, keys_number.f, Option.bind_some, e1, purpose_f _ (by simp) (by rw [e2, txt_size, nonceL_length]; decide), e2, Option.bind_some]
 unfold keys_Nonce.f
 by_cases h0 : who = 0
 ·rw [if_pos h0]
  exact key _ (by rw [decide_eq_decide]; omega)
 ·rw [if_neg h0, member_f, Option.bind_some]
  by_cases hm : memB who = true
  ·rw [if_pos hm]
   have := of_decide_eq_true hm
   exact key _ (by rw [decide_eq_decide]; omega)
  ·rw [if_neg hm]
   have hm2 : ¬ (1 ≤ who ∧ who ≤ 6) := fun h => hm (decide_eq_true h)
   exact key _ (by rw [decide_eq_true (by omega)])
def wrapB : ByteArray := ⟨#[119, 114, 97, 112]⟩
def wrapF (own : ByteArray) (who n : Int) (key : ByteArray) : ByteArray × Int :=
 if memB who = true ∧ epB n = true ∧ key.size = 32 ∧ own.size = 32 then sealF (hkT own wrapB) (txt (nonceL who n)) wrapB key else (⟨#[]⟩, 1)
theorem nonce_ok (who n : Int) (h0 : memB who = true) (h1 : epB n = true) : nonceF who n = (txt (nonceL who n), 0) := by
 have := of_decide_eq_true h0
 have := of_decide_eq_true h1
 unfold nonceF
 rw [if_neg (by omega), if_neg (by omega)]
theorem wrap_f (k : Nat) (own : ByteArray) (who n : Int) (key : ByteArray) (hk : key.size ≤ 1000000000000000) : keys_Wrap.f (k + 2) own who n key = some (wrapF own who n key) := by
 have hj : joinB [(⟨#[119, 114, 97, 112]⟩ : ByteArray)] ⟨#[]⟩ = wrapB := joinB_1 _ _
 have hof : ∀ ok, keys_of.f (k + 2) own ok [(⟨#[119, 114, 97, 112]⟩ : ByteArray)] = some (ofF own ok wrapB) := fun ok => of_f (k + 1) own ok _ wrapB hj (by decide) (by decide)
 have hno : keys_Wrap.j0 (k + 2) who n key (ofF own false wrapB).1 (ofF own false wrapB).2 = some (⟨#[]⟩, 1) := by
  rw [show ofF own false wrapB = (⟨#[]⟩, 1) from if_neg (fun h => by cases h.1), keys_Wrap.j0, if_neg (by decide)]
 unfold keys_Wrap.f wrapF
 rw [member_f, Option.bind_some]
 by_cases hm : memB who = true
 ·rw [if_pos hm, epoch_f, Option.bind_some]
  by_cases he : epB n = true
  ·rw [if_pos he, hof, Option.bind_some]
   by_cases hs : key.size = 32 ∧ own.size = 32
   ·rw [if_pos ⟨hm, he, hs.1, hs.2⟩, show ((key.size : Int) == 32) = true by simp; omega, show ofF own true wrapB = (hkT own wrapB, 0) from if_pos ⟨rfl, hs.2⟩, keys_Wrap.j0, if_pos rfl, nonce_f, Option.bind_some,
     nonce_ok who n hm he, aead_Seal_f _ _ _ _ (by decide) hk, Option.bind_some]
    rfl
   ·rw [if_neg (fun h => hs h.2.2)]
    have e : ofF own ((key.size : Int) == 32) wrapB = (⟨#[]⟩, 1) := by
     unfold ofF
     rw [if_neg (by intro h; apply hs; refine ⟨?_, h.2⟩; have := h.1; simp at this; omega)]
    rw [e, keys_Wrap.j0, if_neg (by decide)]
  ·rw [if_neg he, hof, Option.bind_some, hno, if_neg (fun h => he h.2.1)]
 ·rw [if_neg hm, hof, Option.bind_some, hno, if_neg (fun h => hm h.1)]
def unwrapF (own : ByteArray) (who n : Int) (s : ByteArray) : ByteArray × Int :=
 if memB who = true ∧ epB n = true ∧ own.size = 32 then
  (if (openF (hkT own wrapB) (txt (nonceL who n)) wrapB s).2 = 0 ∧ (openF (hkT own wrapB) (txt (nonceL who n)) wrapB s).1.size ≠ 32 then (⟨#[]⟩, 70) else openF (hkT own wrapB) (txt (nonceL who n)) wrapB s)
 else (⟨#[]⟩, 1)
theorem unwrap_f (k : Nat) (own : ByteArray) (who n : Int) (s : ByteArray) (hk : s.size ≤ 1000000000000000) : keys_Unwrap.f (k + 2) own who n s = some (unwrapF own who n s) := by
 have hj : joinB [(⟨#[119, 114, 97, 112]⟩ : ByteArray)] ⟨#[]⟩ = wrapB := joinB_1 _ _
 have hof : ∀ ok, keys_of.f (k + 2) own ok [(⟨#[119, 114, 97, 112]⟩ : ByteArray)] = some (ofF own ok wrapB) := fun ok => of_f (k + 1) own ok _ wrapB hj (by decide) (by decide)
 have hno : keys_Unwrap.j0 (k + 2) who n s (ofF own false wrapB).1 (ofF own false wrapB).2 = some (⟨#[]⟩, 1) := by
  rw [show ofF own false wrapB = (⟨#[]⟩, 1) from if_neg (fun h => by cases h.1), keys_Unwrap.j0, if_neg (by decide)]
 unfold keys_Unwrap.f unwrapF
 rw [member_f, Option.bind_some]
 by_cases hm : memB who = true
 ·rw [if_pos hm, epoch_f, Option.bind_some]
  by_cases he : epB n = true
  ·rw [he, hof, Option.bind_some]
   by_cases hs : own.size = 32
   ·rw [if_pos ⟨hm, rfl, hs⟩, show ofF own true wrapB = (hkT own wrapB, 0) from if_pos ⟨rfl, hs⟩, keys_Unwrap.j0, if_pos rfl, nonce_f, Option.bind_some, nonce_ok who n hm he, aead_Open_f _ _ _ _ (by decide) hk, Option.bind_some]
    show (if (openF (hkT own wrapB) (txt (nonceL who n)) wrapB s).2 = 0 then (if ((openF (hkT own wrapB) (txt (nonceL who n)) wrapB s).1.size : Int) = 32 then _ else _) else _) = _
    by_cases hz : (openF (hkT own wrapB) (txt (nonceL who n)) wrapB s).2 = 0
    ·rw [if_pos hz]
     by_cases h32 : (openF (hkT own wrapB) (txt (nonceL who n)) wrapB s).1.size = 32
     ·rw [if_pos (by omega), if_neg (fun h => h.2 h32)]
      rfl
     ·rw [if_neg (by omega), if_pos ⟨hz, h32⟩]
    ·rw [if_neg hz, if_neg (fun h => hz h.1)]
     rfl
   ·rw [if_neg (fun h => hs h.2.2), show ofF own true wrapB = (⟨#[]⟩, 1) from if_neg (fun h => hs h.2), keys_Unwrap.j0, if_neg (by decide)]
  ·rw [show epB n = false from Bool.eq_false_iff.mpr he, hof, Option.bind_some, hno, if_neg (fun h => by cases h.2.1)]
 ·rw [if_neg hm, hof, Option.bind_some, hno, if_neg (fun h => hm h.1)]
theorem unwrap_wrap (own : ByteArray) (who n : Int) (key : ByteArray) (hm : memB who = true) (he : epB n = true) (hk : key.size = 32) (ho : own.size = 32) :
  unwrapF own who n (wrapF own who n key).1 = (key, 0) ∧ (wrapF own who n key).2 = 0 ∧ (wrapF own who n key).1.size = 48 := by
 have hok : aeadOK (hkT own wrapB) (txt (nonceL who n)) wrapB.size key.size := ⟨hkT_size _ _, by rw [txt_size, nonceL_length], by decide, by rw [hk]; decide⟩
 obtain ⟨h1, h2, h3, _⟩ := open_seal _ _ _ _ hok
 have e : wrapF own who n key = sealF (hkT own wrapB) (txt (nonceL who n)) wrapB key := if_pos ⟨hm, he, hk, ho⟩
 rw [e]
 refine ⟨?_, h2, by rw [h3, hk]⟩
 unfold unwrapF
 rw [if_pos ⟨hm, he, ho⟩, h1, if_neg (fun h => h.2 hk)]
theorem keys_light_f (a b : ByteArray) : samphirelaw15_light.f a b = some (decide (a.size ≤ 256 ∧ b.size ≤ 256)) := by
 unfold samphirelaw15_light.f
 by_cases h1 : a.size ≤ 256
 ·rw [if_pos (by omega)]
  congr 1
  rw [decide_eq_decide]
  omega
 ·rw [if_neg (by omega), decide_eq_false (by omega)]
end Go.Proofs.YtbkbganflnemeaaGreat.Pr
end

section
namespace Go.Proofs.YtbkbganflnemeaaGreat.Pr
open Go.RowKit Go.Proofs.YtbkbganflnemeaaGreatW.PrintWords Go.Proofs.YtbkbganflnemeaaGreatW.PrintLast Go.Proofs.YtbkbganflnemeaaGreatW.PrintMore
attribute [local go_sem] max2_int min2_int max_two min_two max_three min_three max_four min_four
def samphirelaw15_awake.f (k : Nat)  : Option (Bool) := if 32 ≤ 281474976710656 then ((some (List.replicate 32 0 : List Int)).bind fun y247 => ((keys_Wrap.f k (strOfNums y247) 2 7 (⟨#[48, 49, 50, 51, 52, 53, 54, 55, 56, 57, 97, 98, 99, 100, 101, 102, 48, 49, 50, 51, 52, 53, 54, 55, 56, 57, 97, 98, 99, 100, 101, 102]⟩ : ByteArray)).bind fun bt250 => ((keys_Unwrap.f k (strOfNums y247) 2 7 bt250.1).bind fun bt252 => ((keys_Unwrap.f k (strOfNums y247) 2 8 bt250.1).bind fun bt254 => ((keys_Nonce.f k 2 258).bind fun bt256 => (if bt250.2 = 0 then (if (bt250.1.size : Int) = 48 then (if bt252.1.toList = ([48, 49, 50, 51, 52, 53, 54, 55, 56, 57, 97, 98, 99, 100, 101, 102, 48, 49, 50, 51, 52, 53, 54, 55, 56, 57, 97, 98, 99, 100, 101, 102] : List UInt8) then (if bt252.2 = 0 then (if bt254.2 = 70 then (if bt256.1.toList = ([2, 0, 0, 0, 0, 0, 0, 0, 0, 0, 1, 2] : List UInt8) then (some (bt256.2 == 0)) else (some false)) else (some false)) else (some false)) else (some false)) else (some false)) else (some false))))))) else (none)
set_option maxHeartbeats 8000000 in
set_option maxRecDepth 100000 in
theorem samphirelaw15_awake.calls (k : Nat)  (r : Bool) (w : World) (h : samphirelaw15_awake.f k  = some r) :
  Calls Tryz.prog 8 #[] w fun e w' => e = .returned (.bool r) ∧ Below w.heap.size w w' := by
 have HB := Aside0.mk (Below.refl w.heap.size w); have H : (if 32 ≤ 281474976710656 then ((some (List.replicate 32 0 : List Int)).bind fun y247 => ((keys_Wrap.f k (strOfNums y247) 2 7 (⟨#[48, 49, 50, 51, 52, 53, 54, 55, 56, 57, 97, 98, 99, 100, 101, 102, 48, 49, 50, 51, 52, 53, 54, 55, 56, 57, 97, 98, 99, 100, 101, 102]⟩ : ByteArray)).bind fun bt250 => ((keys_Unwrap.f k (strOfNums y247) 2 7 bt250.1).bind fun bt252 => ((keys_Unwrap.f k (strOfNums y247) 2 8 bt250.1).bind fun bt254 => ((keys_Nonce.f k 2 258).bind fun bt256 => (if bt250.2 = 0 then (if (bt250.1.size : Int) = 48 then (if bt252.1.toList = ([48, 49, 50, 51, 52, 53, 54, 55, 56, 57, 97, 98, 99, 100, 101, 102, 48, 49, 50, 51, 52, 53, 54, 55, 56, 57, 97, 98, 99, 100, 101, 102] : List UInt8) then (if bt252.2 = 0 then (if bt254.2 = 70 then (if bt256.1.toList = ([2, 0, 0, 0, 0, 0, 0, 0, 0, 0, 1, 2] : List UInt8) then (some (bt256.2 == 0)) else (some false)) else (some false)) else (some false)) else (some false)) else (some false)) else (some false))))))) else (none)) = some r := h; clear h; by_cases c1 : 32 ≤ 281474976710656
 ·rw [if_pos c1] at H; have c1b0 := eq_true c1; have c1b1 : decide (32 ≤ 281474976710656) = true := decide_eq_true c1; clear c1; obtain ⟨y247, hy247⟩ : ∃ y_ : List Int, y_ = (List.replicate 32 0) := ⟨_, rfl⟩; replace H : ((keys_Wrap.f k (strOfNums y247) 2 7 (⟨#[48, 49, 50, 51, 52, 53, 54, 55, 56, 57, 97, 98, 99, 100, 101, 102, 48, 49, 50, 51, 52, 53, 54, 55, 56, 57, 97, 98, 99, 100, 101, 102]⟩ : ByteArray)).bind fun bt250 => ((keys_Unwrap.f k (strOfNums y247) 2 7 bt250.1).bind fun bt252 => ((keys_Unwrap.f k (strOfNums y247) 2 8 bt250.1).bind fun bt254 => ((keys_Nonce.f k 2 258).bind fun bt256 => (if bt250.2 = 0 then (if (bt250.1.size : Int) = 48 then (if bt252.1.toList = ([48, 49, 50, 51, 52, 53, 54, 55, 56, 57, 97, 98, 99, 100, 101, 102, 48, 49, 50, 51, 52, 53, 54, 55, 56, 57, 97, 98, 99, 100, 101, 102] : List UInt8) then (if bt252.2 = 0 then (if bt254.2 = 70 then (if bt256.1.toList = ([2, 0, 0, 0, 0, 0, 0, 0, 0, 0, 1, 2] : List UInt8) then (some (bt256.2 == 0)) else (some false)) else (some false)) else (some false)) else (some false)) else (some false)) else (some false)))))) = some r := by first | (rw [hy247]; with_reducible exact H) | (have H2_ := (Option.bind_some _ _).symm.trans H; rw [hy247]; with_reducible exact H2_) | (have H2_ := (Option.bind_some _ _).symm.trans H; with_reducible exact H2_) | with_reducible exact H | (rw [hy247]; exact H) | exact H
  have Ny247 := Aside0.mk hy247; clear hy247; replace H := Option.bind_eq_some_iff.mp H; obtain ⟨⟨t250, t251⟩, A20, H⟩ := H; try dsimp only at H
  have A2 := Aside0.mk A20; clear A20; replace H := Option.bind_eq_some_iff.mp H; obtain ⟨⟨t252, t253⟩, A30, H⟩ := H; try dsimp only at H
  have A3 := Aside0.mk A30; clear A30; replace H := Option.bind_eq_some_iff.mp H; obtain ⟨⟨t254, t255⟩, A40, H⟩ := H; try dsimp only at H
  have A4 := Aside0.mk A40; clear A40; replace H := Option.bind_eq_some_iff.mp H; obtain ⟨⟨t256, t257⟩, A50, H⟩ := H; try dsimp only at H
  have A5 := Aside0.mk A50; clear A50; by_cases c6 : t251 = 0
  ·rw [if_pos c6] at H; have c6b0 : (t251 == 0) = true := beq_iff_eq.mpr c6; have c6b1 : (t251 != 0) = false := bne_eq_false_iff_eq.mpr c6; clear c6; by_cases c7 : (t250.size : Int) = 48
   ·rw [if_pos c7] at H; have c7b0 : ((t250.size : Int) == 48) = true := beq_iff_eq.mpr c7; have c7b1 : ((t250.size : Int) != 48) = false := bne_eq_false_iff_eq.mpr c7; clear c7; by_cases c8 : t252.toList = ([48, 49, 50, 51, 52, 53, 54, 55, 56, 57, 97, 98, 99, 100, 101, 102, 48, 49, 50, 51, 52, 53, 54, 55, 56, 57, 97, 98, 99, 100, 101, 102] : List UInt8)
    ·rw [if_pos c8] at H; have c8b0 : (t252.toList == ([48, 49, 50, 51, 52, 53, 54, 55, 56, 57, 97, 98, 99, 100, 101, 102, 48, 49, 50, 51, 52, 53, 54, 55, 56, 57, 97, 98, 99, 100, 101, 102] : List UInt8)) = true := beq_iff_eq.mpr c8; have c8b1 : (t252.toList != ([48, 49, 50, 51, 52, 53, 54, 55, 56, 57, 97, 98, 99, 100, 101, 102, 48, 49, 50, 51, 52, 53, 54, 55, 56, 57, 97, 98, 99, 100, 101, 102] : List UInt8)) = false := bne_eq_false_iff_eq.mpr c8; clear c8; by_cases c9 : t253 = 0
     ·rw [if_pos c9] at H; have c9b0 : (t253 == 0) = true := beq_iff_eq.mpr c9; have c9b1 : (t253 != 0) = false := bne_eq_false_iff_eq.mpr c9; clear c9; by_cases c10 : t255 = 70
      ·rw [if_pos c10] at H; have c10b0 : (t255 == 70) = true := beq_iff_eq.mpr c10; have c10b1 : (t255 != 70) = false := bne_eq_false_iff_eq.mpr c10; clear c10; by_cases c11 : t256.toList = ([2, 0, 0, 0, 0, 0, 0, 0, 0, 0, 1, 2] : List UInt8)
       ·rw [if_pos c11] at H; have c11b0 : (t256.toList == ([2, 0, 0, 0, 0, 0, 0, 0, 0, 0, 1, 2] : List UInt8)) = true := beq_iff_eq.mpr c11; have c11b1 : (t256.toList != ([2, 0, 0, 0, 0, 0, 0, 0, 0, 0, 1, 2] : List UInt8)) = false := bne_eq_false_iff_eq.mpr c11; clear c11; obtain rfl := Option.some.inj H; go_enter Tryz.func8, Tryz.ntmps8
        go_wp2_with (first | ((with_reducible refine gate_dst (N := 11) rfl ?_); (try (refine gate_guard (by rfl) ?_; dsimp only)); refine Kd.R_make (Kd.int .u8) _ 5 rfl (N := 11) rfl 68 _ _ rfl 32 rfl rfl Tryz.underlying68 (.int .u8 0) 1 info5 rfl (by decide) (by omega) 0 (ok := fun _ => True) (okp := fun _ => True) rfl (fun _ hk => hk) trivial (by omega) (by omega) (Below.refl _ _) (Nat.le_refl _) ?_; intro v248 w12 ho13 hb hg_ hnew_; clear hg_ hnew_; (first | rw [← Ny247.out] at ho13 | (simp only [Int.reduceToNat] at ho13; rw [← Ny247.out] at ho13)); have HO249 := Aside0.mk (Kd.R_lower ho13 (below_size hb_)); replace HB := Aside0.mk (below_step hb_ hb); clear hb ho13; have hcv14 := own_string (P := Tryz.prog) Tryz.underlying68 Tryz.underlying5 Tryz.underlying9 (Kd.own_of_R HO249.out)) | ((with_reducible refine gate_callee (f := 9) rfl ?_); refine gl_ 16 Tryz.func9 #[.string (strOfNums y247), .int .i64 2, .int .i64 7, .string (⟨#[48, 49, 50, 51, 52, 53, 54, 55, 56, 57, 97, 98, 99, 100, 101, 102, 48, 49, 50, 51, 52, 53, 54, 55, 56, 57, 97, 98, 99, 100, 101, 102]⟩ : ByteArray)] ?_; (with_reducible refine (keys_Wrap.calls k (strOfNums y247) 2 7 (⟨#[48, 49, 50, 51, 52, 53, 54, 55, 56, 57, 97, 98, 99, 100, 101, 102, 48, 49, 50, 51, 52, 53, 54, 55, 56, 57, 97, 98, 99, 100, 101, 102]⟩ : ByteArray) t250 t251 _ A2.out).mono ?_); rintro e w15 ⟨rfl, hb⟩; refine ⟨_, rfl, ?_⟩; replace HO249 := Aside0.mk (Kd.R_below (ra_ HO249.out) hb); replace HB := Aside0.mk (below_step hb_ hb)) | ((with_reducible refine gate_callee (f := 11) rfl ?_); refine gl_ 22 Tryz.func11 #[.string (strOfNums y247), .int .i64 2, .int .i64 7, .string t250] ?_; (with_reducible refine (keys_Unwrap.calls k (strOfNums y247) 2 7 t250 t252 t253 _ A3.out).mono ?_); rintro e w16 ⟨rfl, hb⟩; refine ⟨_, rfl, ?_⟩; replace HO249 := Aside0.mk (Kd.R_below (ra_ HO249.out) hb); replace HB := Aside0.mk (below_step hb_ hb)) | ((with_reducible refine gate_callee (f := 11) rfl ?_); refine gl_ 28 Tryz.func11 #[.string (strOfNums y247), .int .i64 2, .int .i64 8, .string t250] ?_; (with_reducible refine (keys_Unwrap.calls k (strOfNums y247) 2 8 t250 t254 t255 _ A4.out).mono ?_); rintro e w17 ⟨rfl, hb⟩; refine ⟨_, rfl, ?_⟩; replace HO249 := Aside0.mk (Kd.R_below (ra_ HO249.out) hb); replace HB := Aside0.mk (below_step hb_ hb)) | ((with_reducible refine gate_callee (f := 29) rfl ?_); refine gl_ 32 Tryz.func29 #[.int .i64 2, .int .i64 258] ?_; (with_reducible refine (keys_Nonce.calls k 2 258 t256 t257 _ A5.out).mono ?_); rintro e w18 ⟨rfl, hb⟩; refine ⟨_, rfl, ?_⟩; replace HO249 := Aside0.mk (Kd.R_below (ra_ HO249.out) hb); replace HB := Aside0.mk (below_step hb_ hb)))
        go_ret
        exact ⟨ew_, hb_⟩
       ·rw [if_neg c11] at H; have c11b0 : (t256.toList == ([2, 0, 0, 0, 0, 0, 0, 0, 0, 0, 1, 2] : List UInt8)) = false := beq_eq_false_iff_ne.mpr c11; have c11b1 : (t256.toList != ([2, 0, 0, 0, 0, 0, 0, 0, 0, 0, 1, 2] : List UInt8)) = true := bne_iff_ne.mpr c11; obtain rfl := Option.some.inj H; go_enter Tryz.func8, Tryz.ntmps8
        go_wp2_with (first | ((with_reducible refine gate_dst (N := 11) rfl ?_); (try (refine gate_guard (by rfl) ?_; dsimp only)); refine Kd.R_make (Kd.int .u8) _ 5 rfl (N := 11) rfl 68 _ _ rfl 32 rfl rfl Tryz.underlying68 (.int .u8 0) 1 info5 rfl (by decide) (by omega) 0 (ok := fun _ => True) (okp := fun _ => True) rfl (fun _ hk => hk) trivial (by omega) (by omega) (Below.refl _ _) (Nat.le_refl _) ?_; intro v248 w19 ho20 hb hg_ hnew_; clear hg_ hnew_; (first | rw [← Ny247.out] at ho20 | (simp only [Int.reduceToNat] at ho20; rw [← Ny247.out] at ho20)); have HO249 := Aside0.mk (Kd.R_lower ho20 (below_size hb_)); replace HB := Aside0.mk (below_step hb_ hb); clear hb ho20; have hcv21 := own_string (P := Tryz.prog) Tryz.underlying68 Tryz.underlying5 Tryz.underlying9 (Kd.own_of_R HO249.out)) | ((with_reducible refine gate_callee (f := 9) rfl ?_); refine gl_ 16 Tryz.func9 #[.string (strOfNums y247), .int .i64 2, .int .i64 7, .string (⟨#[48, 49, 50, 51, 52, 53, 54, 55, 56, 57, 97, 98, 99, 100, 101, 102, 48, 49, 50, 51, 52, 53, 54, 55, 56, 57, 97, 98, 99, 100, 101, 102]⟩ : ByteArray)] ?_; (with_reducible refine (keys_Wrap.calls k (strOfNums y247) 2 7 (⟨#[48, 49, 50, 51, 52, 53, 54, 55, 56, 57, 97, 98, 99, 100, 101, 102, 48, 49, 50, 51, 52, 53, 54, 55, 56, 57, 97, 98, 99, 100, 101, 102]⟩ : ByteArray) t250 t251 _ A2.out).mono ?_); rintro e w22 ⟨rfl, hb⟩; refine ⟨_, rfl, ?_⟩; replace HO249 := Aside0.mk (Kd.R_below (ra_ HO249.out) hb); replace HB := Aside0.mk (below_step hb_ hb)) | ((with_reducible refine gate_callee (f := 11) rfl ?_); refine gl_ 22 Tryz.func11 #[.string (strOfNums y247), .int .i64 2, .int .i64 7, .string t250] ?_; (with_reducible refine (keys_Unwrap.calls k (strOfNums y247) 2 7 t250 t252 t253 _ A3.out).mono ?_); rintro e w23 ⟨rfl, hb⟩; refine ⟨_, rfl, ?_⟩; replace HO249 := Aside0.mk (Kd.R_below (ra_ HO249.out) hb); replace HB := Aside0.mk (below_step hb_ hb)) | ((with_reducible refine gate_callee (f := 11) rfl ?_); refine gl_ 28 Tryz.func11 #[.string (strOfNums y247), .int .i64 2, .int .i64 8, .string t250] ?_; (with_reducible refine (keys_Unwrap.calls k (strOfNums y247) 2 8 t250 t254 t255 _ A4.out).mono ?_); rintro e w24 ⟨rfl, hb⟩; refine ⟨_, rfl, ?_⟩; replace HO249 := Aside0.mk (Kd.R_below (ra_ HO249.out) hb); replace HB := Aside0.mk (below_step hb_ hb)) | ((with_reducible refine gate_callee (f := 29) rfl ?_); refine gl_ 32 Tryz.func29 #[.int .i64 2, .int .i64 258] ?_; (with_reducible refine (keys_Nonce.calls k 2 258 t256 t257 _ A5.out).mono ?_); rintro e w25 ⟨rfl, hb⟩; refine ⟨_, rfl, ?_⟩; replace HO249 := Aside0.mk (Kd.R_below (ra_ HO249.out) hb); replace HB := Aside0.mk (below_step hb_ hb)))
        go_ret
        exact ⟨ew_, hb_⟩
      ·rw [if_neg c10] at H; have c10b0 : (t255 == 70) = false := beq_eq_false_iff_ne.mpr c10; have c10b1 : (t255 != 70) = true := bne_iff_ne.mpr c10; obtain rfl := Option.some.inj H; go_enter Tryz.func8, Tryz.ntmps8
       go_wp2_with (first | ((with_reducible refine gate_dst (N := 11) rfl ?_); (try (refine gate_guard (by rfl) ?_; dsimp only)); refine Kd.R_make (Kd.int .u8) _ 5 rfl (N := 11) rfl 68 _ _ rfl 32 rfl rfl Tryz.underlying68 (.int .u8 0) 1 info5 rfl (by decide) (by omega) 0 (ok := fun _ => True) (okp := fun _ => True) rfl (fun _ hk => hk) trivial (by omega) (by omega) (Below.refl _ _) (Nat.le_refl _) ?_; intro v248 w26 ho27 hb hg_ hnew_; clear hg_ hnew_; (first | rw [← Ny247.out] at ho27 | (simp only [Int.reduceToNat] at ho27; rw [← Ny247.out] at ho27)); have HO249 := Aside0.mk (Kd.R_lower ho27 (below_size hb_)); replace HB := Aside0.mk (below_step hb_ hb); clear hb ho27; have hcv28 := own_string (P := Tryz.prog) Tryz.underlying68 Tryz.underlying5 Tryz.underlying9 (Kd.own_of_R HO249.out)) | ((with_reducible refine gate_callee (f := 9) rfl ?_); refine gl_ 16 Tryz.func9 #[.string (strOfNums y247), .int .i64 2, .int .i64 7, .string (⟨#[48, 49, 50, 51, 52, 53, 54, 55, 56, 57, 97, 98, 99, 100, 101, 102, 48, 49, 50, 51, 52, 53, 54, 55, 56, 57, 97, 98, 99, 100, 101, 102]⟩ : ByteArray)] ?_; (with_reducible refine (keys_Wrap.calls k (strOfNums y247) 2 7 (⟨#[48, 49, 50, 51, 52, 53, 54, 55, 56, 57, 97, 98, 99, 100, 101, 102, 48, 49, 50, 51, 52, 53, 54, 55, 56, 57, 97, 98, 99, 100, 101, 102]⟩ : ByteArray) t250 t251 _ A2.out).mono ?_); rintro e w29 ⟨rfl, hb⟩; refine ⟨_, rfl, ?_⟩; replace HO249 := Aside0.mk (Kd.R_below (ra_ HO249.out) hb); replace HB := Aside0.mk (below_step hb_ hb)) | ((with_reducible refine gate_callee (f := 11) rfl ?_); refine gl_ 22 Tryz.func11 #[.string (strOfNums y247), .int .i64 2, .int .i64 7, .string t250] ?_; (with_reducible refine (keys_Unwrap.calls k (strOfNums y247) 2 7 t250 t252 t253 _ A3.out).mono ?_); rintro e w30 ⟨rfl, hb⟩; refine ⟨_, rfl, ?_⟩; replace HO249 := Aside0.mk (Kd.R_below (ra_ HO249.out) hb); replace HB := Aside0.mk (below_step hb_ hb)) | ((with_reducible refine gate_callee (f := 11) rfl ?_); refine gl_ 28 Tryz.func11 #[.string (strOfNums y247), .int .i64 2, .int .i64 8, .string t250] ?_; (with_reducible refine (keys_Unwrap.calls k (strOfNums y247) 2 8 t250 t254 t255 _ A4.out).mono ?_); rintro e w31 ⟨rfl, hb⟩; refine ⟨_, rfl, ?_⟩; replace HO249 := Aside0.mk (Kd.R_below (ra_ HO249.out) hb); replace HB := Aside0.mk (below_step hb_ hb)) | ((with_reducible refine gate_callee (f := 29) rfl ?_); refine gl_ 32 Tryz.func29 #[.int .i64 2, .int .i64 258] ?_; (with_reducible refine (keys_Nonce.calls k 2 258 t256 t257 _ A5.out).mono ?_); rintro e w32 ⟨rfl, hb⟩; refine ⟨_, rfl, ?_⟩; replace HO249 := Aside0.mk (Kd.R_below (ra_ HO249.out) hb); replace HB := Aside0.mk (below_step hb_ hb)))
       go_ret
       exact ⟨ew_, hb_⟩
     ·rw [if_neg c9] at H; have c9b0 : (t253 == 0) = false := beq_eq_false_iff_ne.mpr c9; have c9b1 : (t253 != 0) = true := bne_iff_ne.mpr c9; obtain rfl := Option.some.inj H; go_enter Tryz.func8, Tryz.ntmps8
      go_wp2_with (first | ((with_reducible refine gate_dst (N := 11) rfl ?_); (try (refine gate_guard (by rfl) ?_; dsimp only)); refine Kd.R_make (Kd.int .u8) _ 5 rfl (N := 11) rfl 68 _ _ rfl 32 rfl rfl Tryz.underlying68 (.int .u8 0) 1 info5 rfl (by decide) (by omega) 0 (ok := fun _ => True) (okp := fun _ => True) rfl (fun _ hk => hk) trivial (by omega) (by omega) (Below.refl _ _) (Nat.le_refl _) ?_; intro v248 w33 ho34 hb hg_ hnew_; clear hg_ hnew_; (first | rw [← Ny247.out] at ho34 | (simp only [Int.reduceToNat] at ho34; rw [← Ny247.out] at ho34)); have HO249 := Aside0.mk (Kd.R_lower ho34 (below_size hb_)); replace HB := Aside0.mk (below_step hb_ hb); clear hb ho34; have hcv35 := own_string (P := Tryz.prog) Tryz.underlying68 Tryz.underlying5 Tryz.underlying9 (Kd.own_of_R HO249.out)) | ((with_reducible refine gate_callee (f := 9) rfl ?_); refine gl_ 16 Tryz.func9 #[.string (strOfNums y247), .int .i64 2, .int .i64 7, .string (⟨#[48, 49, 50, 51, 52, 53, 54, 55, 56, 57, 97, 98, 99, 100, 101, 102, 48, 49, 50, 51, 52, 53, 54, 55, 56, 57, 97, 98, 99, 100, 101, 102]⟩ : ByteArray)] ?_; (with_reducible refine (keys_Wrap.calls k (strOfNums y247) 2 7 (⟨#[48, 49, 50, 51, 52, 53, 54, 55, 56, 57, 97, 98, 99, 100, 101, 102, 48, 49, 50, 51, 52, 53, 54, 55, 56, 57, 97, 98, 99, 100, 101, 102]⟩ : ByteArray) t250 t251 _ A2.out).mono ?_); rintro e w36 ⟨rfl, hb⟩; refine ⟨_, rfl, ?_⟩; replace HO249 := Aside0.mk (Kd.R_below (ra_ HO249.out) hb); replace HB := Aside0.mk (below_step hb_ hb)) | ((with_reducible refine gate_callee (f := 11) rfl ?_); refine gl_ 22 Tryz.func11 #[.string (strOfNums y247), .int .i64 2, .int .i64 7, .string t250] ?_; (with_reducible refine (keys_Unwrap.calls k (strOfNums y247) 2 7 t250 t252 t253 _ A3.out).mono ?_); rintro e w37 ⟨rfl, hb⟩; refine ⟨_, rfl, ?_⟩; replace HO249 := Aside0.mk (Kd.R_below (ra_ HO249.out) hb); replace HB := Aside0.mk (below_step hb_ hb)) | ((with_reducible refine gate_callee (f := 11) rfl ?_); refine gl_ 28 Tryz.func11 #[.string (strOfNums y247), .int .i64 2, .int .i64 8, .string t250] ?_; (with_reducible refine (keys_Unwrap.calls k (strOfNums y247) 2 8 t250 t254 t255 _ A4.out).mono ?_); rintro e w38 ⟨rfl, hb⟩; refine ⟨_, rfl, ?_⟩; replace HO249 := Aside0.mk (Kd.R_below (ra_ HO249.out) hb); replace HB := Aside0.mk (below_step hb_ hb)) | ((with_reducible refine gate_callee (f := 29) rfl ?_); refine gl_ 32 Tryz.func29 #[.int .i64 2, .int .i64 258] ?_; (with_reducible refine (keys_Nonce.calls k 2 258 t256 t257 _ A5.out).mono ?_); rintro e w39 ⟨rfl, hb⟩; refine ⟨_, rfl, ?_⟩; replace HO249 := Aside0.mk (Kd.R_below (ra_ HO249.out) hb); replace HB := Aside0.mk (below_step hb_ hb)))
      go_ret
      exact ⟨ew_, hb_⟩
    ·rw [if_neg c8] at H; have c8b0 : (t252.toList == ([48, 49, 50, 51, 52, 53, 54, 55, 56, 57, 97, 98, 99, 100, 101, 102, 48, 49, 50, 51, 52, 53, 54, 55, 56, 57, 97, 98, 99, 100, 101, 102] : List UInt8)) = false := beq_eq_false_iff_ne.mpr c8; have c8b1 : (t252.toList != ([48, 49, 50, 51, 52, 53, 54, 55, 56, 57, 97, 98, 99, 100, 101, 102, 48, 49, 50, 51, 52, 53, 54, 55, 56, 57, 97, 98, 99, 100, 101, 102] : List UInt8)) = true := bne_iff_ne.mpr c8; obtain rfl := Option.some.inj H; go_enter Tryz.func8, Tryz.ntmps8
     go_wp2_with (first | ((with_reducible refine gate_dst (N := 11) rfl ?_); (try (refine gate_guard (by rfl) ?_; dsimp only)); refine Kd.R_make (Kd.int .u8) _ 5 rfl (N := 11) rfl 68 _ _ rfl 32 rfl rfl Tryz.underlying68 (.int .u8 0) 1 info5 rfl (by decide) (by omega) 0 (ok := fun _ => True) (okp := fun _ => True) rfl (fun _ hk => hk) trivial (by omega) (by omega) (Below.refl _ _) (Nat.le_refl _) ?_; intro v248 w40 ho41 hb hg_ hnew_; clear hg_ hnew_; (first | rw [← Ny247.out] at ho41 | (simp only [Int.reduceToNat] at ho41; rw [← Ny247.out] at ho41)); have HO249 := Aside0.mk (Kd.R_lower ho41 (below_size hb_)); replace HB := Aside0.mk (below_step hb_ hb); clear hb ho41; have hcv42 := own_string (P := Tryz.prog) Tryz.underlying68 Tryz.underlying5 Tryz.underlying9 (Kd.own_of_R HO249.out)) | ((with_reducible refine gate_callee (f := 9) rfl ?_); refine gl_ 16 Tryz.func9 #[.string (strOfNums y247), .int .i64 2, .int .i64 7, .string (⟨#[48, 49, 50, 51, 52, 53, 54, 55, 56, 57, 97, 98, 99, 100, 101, 102, 48, 49, 50, 51, 52, 53, 54, 55, 56, 57, 97, 98, 99, 100, 101, 102]⟩ : ByteArray)] ?_; (with_reducible refine (keys_Wrap.calls k (strOfNums y247) 2 7 (⟨#[48, 49, 50, 51, 52, 53, 54, 55, 56, 57, 97, 98, 99, 100, 101, 102, 48, 49, 50, 51, 52, 53, 54, 55, 56, 57, 97, 98, 99, 100, 101, 102]⟩ : ByteArray) t250 t251 _ A2.out).mono ?_); rintro e w43 ⟨rfl, hb⟩; refine ⟨_, rfl, ?_⟩; replace HO249 := Aside0.mk (Kd.R_below (ra_ HO249.out) hb); replace HB := Aside0.mk (below_step hb_ hb)) | ((with_reducible refine gate_callee (f := 11) rfl ?_); refine gl_ 22 Tryz.func11 #[.string (strOfNums y247), .int .i64 2, .int .i64 7, .string t250] ?_; (with_reducible refine (keys_Unwrap.calls k (strOfNums y247) 2 7 t250 t252 t253 _ A3.out).mono ?_); rintro e w44 ⟨rfl, hb⟩; refine ⟨_, rfl, ?_⟩; replace HO249 := Aside0.mk (Kd.R_below (ra_ HO249.out) hb); replace HB := Aside0.mk (below_step hb_ hb)) | ((with_reducible refine gate_callee (f := 11) rfl ?_); refine gl_ 28 Tryz.func11 #[.string (strOfNums y247), .int .i64 2, .int .i64 8, .string t250] ?_; (with_reducible refine (keys_Unwrap.calls k (strOfNums y247) 2 8 t250 t254 t255 _ A4.out).mono ?_); rintro e w45 ⟨rfl, hb⟩; refine ⟨_, rfl, ?_⟩; replace HO249 := Aside0.mk (Kd.R_below (ra_ HO249.out) hb); replace HB := Aside0.mk (below_step hb_ hb)) | ((with_reducible refine gate_callee (f := 29) rfl ?_); refine gl_ 32 Tryz.func29 #[.int .i64 2, .int .i64 258] ?_; (with_reducible refine (keys_Nonce.calls k 2 258 t256 t257 _ A5.out).mono ?_); rintro e w46 ⟨rfl, hb⟩; refine ⟨_, rfl, ?_⟩; replace HO249 := Aside0.mk (Kd.R_below (ra_ HO249.out) hb); replace HB := Aside0.mk (below_step hb_ hb)))
     go_ret
     exact ⟨ew_, hb_⟩
   ·rw [if_neg c7] at H; have c7b0 : ((t250.size : Int) == 48) = false := beq_eq_false_iff_ne.mpr c7; have c7b1 : ((t250.size : Int) != 48) = true := bne_iff_ne.mpr c7; obtain rfl := Option.some.inj H; go_enter Tryz.func8, Tryz.ntmps8
    go_wp2_with (first | ((with_reducible refine gate_dst (N := 11) rfl ?_); (try (refine gate_guard (by rfl) ?_; dsimp only)); refine Kd.R_make (Kd.int .u8) _ 5 rfl (N := 11) rfl 68 _ _ rfl 32 rfl rfl Tryz.underlying68 (.int .u8 0) 1 info5 rfl (by decide) (by omega) 0 (ok := fun _ => True) (okp := fun _ => True) rfl (fun _ hk => hk) trivial (by omega) (by omega) (Below.refl _ _) (Nat.le_refl _) ?_; intro v248 w47 ho48 hb hg_ hnew_; clear hg_ hnew_; (first | rw [← Ny247.out] at ho48 | (simp only [Int.reduceToNat] at ho48; rw [← Ny247.out] at ho48)); have HO249 := Aside0.mk (Kd.R_lower ho48 (below_size hb_)); replace HB := Aside0.mk (below_step hb_ hb); clear hb ho48; have hcv49 := own_string (P := Tryz.prog) Tryz.underlying68 Tryz.underlying5 Tryz.underlying9 (Kd.own_of_R HO249.out)) | ((with_reducible refine gate_callee (f := 9) rfl ?_); refine gl_ 16 Tryz.func9 #[.string (strOfNums y247), .int .i64 2, .int .i64 7, .string (⟨#[48, 49, 50, 51, 52, 53, 54, 55, 56, 57, 97, 98, 99, 100, 101, 102, 48, 49, 50, 51, 52, 53, 54, 55, 56, 57, 97, 98, 99, 100, 101, 102]⟩ : ByteArray)] ?_; (with_reducible refine (keys_Wrap.calls k (strOfNums y247) 2 7 (⟨#[48, 49, 50, 51, 52, 53, 54, 55, 56, 57, 97, 98, 99, 100, 101, 102, 48, 49, 50, 51, 52, 53, 54, 55, 56, 57, 97, 98, 99, 100, 101, 102]⟩ : ByteArray) t250 t251 _ A2.out).mono ?_); rintro e w50 ⟨rfl, hb⟩; refine ⟨_, rfl, ?_⟩; replace HO249 := Aside0.mk (Kd.R_below (ra_ HO249.out) hb); replace HB := Aside0.mk (below_step hb_ hb)) | ((with_reducible refine gate_callee (f := 11) rfl ?_); refine gl_ 22 Tryz.func11 #[.string (strOfNums y247), .int .i64 2, .int .i64 7, .string t250] ?_; (with_reducible refine (keys_Unwrap.calls k (strOfNums y247) 2 7 t250 t252 t253 _ A3.out).mono ?_); rintro e w51 ⟨rfl, hb⟩; refine ⟨_, rfl, ?_⟩; replace HO249 := Aside0.mk (Kd.R_below (ra_ HO249.out) hb); replace HB := Aside0.mk (below_step hb_ hb)) | ((with_reducible refine gate_callee (f := 11) rfl ?_); refine gl_ 28 Tryz.func11 #[.string (strOfNums y247), .int .i64 2, .int .i64 8, .string t250] ?_; (with_reducible refine (keys_Unwrap.calls k (strOfNums y247) 2 8 t250 t254 t255 _ A4.out).mono ?_); rintro e w52 ⟨rfl, hb⟩; refine ⟨_, rfl, ?_⟩; replace HO249 := Aside0.mk (Kd.R_below (ra_ HO249.out) hb); replace HB := Aside0.mk (below_step hb_ hb)) | ((with_reducible refine gate_callee (f := 29) rfl ?_); refine gl_ 32 Tryz.func29 #[.int .i64 2, .int .i64 258] ?_; (with_reducible refine (keys_Nonce.calls k 2 258 t256 t257 _ A5.out).mono ?_); rintro e w53 ⟨rfl, hb⟩; refine ⟨_, rfl, ?_⟩; replace HO249 := Aside0.mk (Kd.R_below (ra_ HO249.out) hb); replace HB := Aside0.mk (below_step hb_ hb)))
    go_ret
    exact ⟨ew_, hb_⟩
  ·rw [if_neg c6] at H; have c6b0 : (t251 == 0) = false := beq_eq_false_iff_ne.mpr c6; have c6b1 : (t251 != 0) = true := bne_iff_ne.mpr c6; obtain rfl := Option.some.inj H; go_enter Tryz.func8, Tryz.ntmps8
   go_wp2_with (first | ((with_reducible refine gate_dst (N := 11) rfl ?_); (try (refine gate_guard (by rfl) ?_; dsimp only)); refine Kd.R_make (Kd.int .u8) _ 5 rfl (N := 11) rfl 68 _ _ rfl 32 rfl rfl Tryz.underlying68 (.int .u8 0) 1 info5 rfl (by decide) (by omega) 0 (ok := fun _ => True) (okp := fun _ => True) rfl (fun _ hk => hk) trivial (by omega) (by omega) (Below.refl _ _) (Nat.le_refl _) ?_; intro v248 w54 ho55 hb hg_ hnew_; clear hg_ hnew_; (first | rw [← Ny247.out] at ho55 | (simp only [Int.reduceToNat] at ho55; rw [← Ny247.out] at ho55)); have HO249 := Aside0.mk (Kd.R_lower ho55 (below_size hb_)); replace HB := Aside0.mk (below_step hb_ hb); clear hb ho55; have hcv56 := own_string (P := Tryz.prog) Tryz.underlying68 Tryz.underlying5 Tryz.underlying9 (Kd.own_of_R HO249.out)) | ((with_reducible refine gate_callee (f := 9) rfl ?_); refine gl_ 16 Tryz.func9 #[.string (strOfNums y247), .int .i64 2, .int .i64 7, .string (⟨#[48, 49, 50, 51, 52, 53, 54, 55, 56, 57, 97, 98, 99, 100, 101, 102, 48, 49, 50, 51, 52, 53, 54, 55, 56, 57, 97, 98, 99, 100, 101, 102]⟩ : ByteArray)] ?_; (with_reducible refine (keys_Wrap.calls k (strOfNums y247) 2 7 (⟨#[48, 49, 50, 51, 52, 53, 54, 55, 56, 57, 97, 98, 99, 100, 101, 102, 48, 49, 50, 51, 52, 53, 54, 55, 56, 57, 97, 98, 99, 100, 101, 102]⟩ : ByteArray) t250 t251 _ A2.out).mono ?_); rintro e w57 ⟨rfl, hb⟩; refine ⟨_, rfl, ?_⟩; replace HO249 := Aside0.mk (Kd.R_below (ra_ HO249.out) hb); replace HB := Aside0.mk (below_step hb_ hb)) | ((with_reducible refine gate_callee (f := 11) rfl ?_); refine gl_ 22 Tryz.func11 #[.string (strOfNums y247), .int .i64 2, .int .i64 7, .string t250] ?_; (with_reducible refine (keys_Unwrap.calls k (strOfNums y247) 2 7 t250 t252 t253 _ A3.out).mono ?_); rintro e w58 ⟨rfl, hb⟩; refine ⟨_, rfl, ?_⟩; replace HO249 := Aside0.mk (Kd.R_below (ra_ HO249.out) hb); replace HB := Aside0.mk (below_step hb_ hb)) | ((with_reducible refine gate_callee (f := 11) rfl ?_); refine gl_ 28 Tryz.func11 #[.string (strOfNums y247), .int .i64 2, .int .i64 8, .string t250] ?_; (with_reducible refine (keys_Unwrap.calls k (strOfNums y247) 2 8 t250 t254 t255 _ A4.out).mono ?_); rintro e w59 ⟨rfl, hb⟩; refine ⟨_, rfl, ?_⟩; replace HO249 := Aside0.mk (Kd.R_below (ra_ HO249.out) hb); replace HB := Aside0.mk (below_step hb_ hb)) | ((with_reducible refine gate_callee (f := 29) rfl ?_); refine gl_ 32 Tryz.func29 #[.int .i64 2, .int .i64 258] ?_; (with_reducible refine (keys_Nonce.calls k 2 258 t256 t257 _ A5.out).mono ?_); rintro e w60 ⟨rfl, hb⟩; refine ⟨_, rfl, ?_⟩; replace HO249 := Aside0.mk (Kd.R_below (ra_ HO249.out) hb); replace HB := Aside0.mk (below_step hb_ hb)))
   go_ret
   exact ⟨ew_, hb_⟩
 ·rw [if_neg c1] at H; exact absurd H (by simp)
end Go.Proofs.YtbkbganflnemeaaGreat.Pr
end

section
namespace Go.Proofs.YtbkbganflnemeaaGreat.Pr
open Go.RowKit Go.Proofs.YtbkbganflnemeaaGreatW.PrintWords Go.Proofs.YtbkbganflnemeaaGreatW.PrintLast
set_option maxHeartbeats 1000000
def wkK : List Nat := [75, 91, 163, 229, 67, 78, 242, 5, 168, 137, 68, 87, 254, 212, 140, 39, 65, 160, 215, 138, 231, 225, 156, 208, 130, 159, 46, 252, 29, 110, 109, 80]
theorem wk_key : (expL (List.replicate 32 0) [119, 114, 97, 112] 1).take 32 = wkK := by decide +kernel
def wkT : List Nat := [48, 49, 50, 51, 52, 53, 54, 55, 56, 57, 97, 98, 99, 100, 101, 102, 48, 49, 50, 51, 52, 53, 54, 55, 56, 57, 97, 98, 99, 100, 101, 102]
def wkC : List Nat := streamL wkK [2, 0, 0, 0, 0, 0, 0, 0, 0, 0, 0, 7] 1 wkT
theorem wk_tell : tagL wkK [2, 0, 0, 0, 0, 0, 0, 0, 0, 0, 0, 8] [119, 114, 97, 112] wkC ≠ tagL wkK [2, 0, 0, 0, 0, 0, 0, 0, 0, 0, 0, 7] [119, 114, 97, 112] wkC := by decide +kernel
theorem keys_awake_f (k : Nat) : samphirelaw15_awake.f (k + 2) = some true := by
 have hz : strOfNums (List.replicate 32 0) = txt (List.replicate 32 0) := noughts_str 32
 have hzs : (txt (List.replicate 32 0)).size = 32 := by rw [txt_size, List.length_replicate]
 have hb : bys (txt (List.replicate 32 0)) = List.replicate 32 0 := bys_noughts 32
 unfold samphirelaw15_awake.f
 rw [if_pos (by decide), Option.bind_some, hz]
 generalize hT : (⟨#[48, 49, 50, 51, 52, 53, 54, 55, 56, 57, 97, 98, 99, 100, 101, 102, 48, 49, 50, 51, 52, 53, 54, 55, 56, 57, 97, 98, 99, 100, 101, 102]⟩ : ByteArray) = T at *
 have hTs : T.size = 32 := by rw [← hT]; rfl
 have hTb : bys T = wkT := by rw [← hT]; rfl
 have hTl : T.toList = ([48, 49, 50, 51, 52, 53, 54, 55, 56, 57, 97, 98, 99, 100, 101, 102, 48, 49, 50, 51, 52, 53, 54, 55, 56, 57, 97, 98, 99, 100, 101, 102] : List UInt8) := by rw [← hT, ByteArray.toList_eq]
 have hK : hkT (txt (List.replicate 32 0)) wrapB = txt wkK := by
  unfold hkT
  rw [hb, show bys wrapB = [119, 114, 97, 112] from rfl, wk_key]
 have hKb : bys (txt wkK) = wkK := bys_txt (by decide)
 have n7 : nonceL 2 7 = [2, 0, 0, 0, 0, 0, 0, 0, 0, 0, 0, 7] := by decide +kernel
 have n8 : nonceL 2 8 = [2, 0, 0, 0, 0, 0, 0, 0, 0, 0, 0, 8] := by decide +kernel
 have b7 : bys (txt [2, 0, 0, 0, 0, 0, 0, 0, 0, 0, 0, 7]) = [2, 0, 0, 0, 0, 0, 0, 0, 0, 0, 0, 7] := bys_txt (by decide)
 have b8 : bys (txt [2, 0, 0, 0, 0, 0, 0, 0, 0, 0, 0, 8]) = [2, 0, 0, 0, 0, 0, 0, 0, 0, 0, 0, 8] := bys_txt (by decide)
 generalize hZ : txt (List.replicate 32 0) = Z at *
 have hm : memB 2 = true := rfl
 have h7 : epB 7 = true := rfl
 have h8 : epB 8 = true := rfl
 obtain ⟨u1, u2, u3⟩ := unwrap_wrap Z 2 7 T hm h7 hTs hzs
 have hok : aeadOK (txt wkK) (txt [2, 0, 0, 0, 0, 0, 0, 0, 0, 0, 0, 7]) wrapB.size T.size := ⟨rfl, rfl, by decide, by rw [hTs]; decide⟩
 have hw : wrapF Z 2 7 T = sealF (txt wkK) (txt [2, 0, 0, 0, 0, 0, 0, 0, 0, 0, 0, 7]) wrapB T := by
  unfold wrapF
  rw [if_pos ⟨hm, h7, hTs, hzs⟩, hK, n7]
 obtain ⟨_, _, _, o4⟩ := open_seal _ _ _ _ hok
 rw [← hw, hKb, b7, hTb] at o4
 have h70 : unwrapF Z 2 8 (wrapF Z 2 7 T).1 = (⟨#[]⟩, 70) := by
  have ho : openF (txt wkK) (txt [2, 0, 0, 0, 0, 0, 0, 0, 0, 0, 0, 8]) wrapB (wrapF Z 2 7 T).1 = (⟨#[]⟩, 70) := by
   unfold openF
   rw [u3, if_pos ⟨rfl, rfl, by decide, by decide⟩, if_neg (by decide), if_neg]
   have o5 : bys (wrapF Z 2 7 T).1 = wkC ++ tagL wkK [2, 0, 0, 0, 0, 0, 0, 0, 0, 0, 0, 7] [119, 114, 97, 112] wkC := o4
   have hl : wkC.length = 48 - 16 := by unfold wkC; rw [streamL_length]; rfl
   rw [o5, hKb, b8, show bys wrapB = [119, 114, 97, 112] from rfl, List.take_left' hl, List.drop_left' hl]
   exact wk_tell
  unfold unwrapF
  rw [if_pos ⟨hm, h8, hzs⟩, hK, n8, ho, if_neg (fun h => absurd h.1 (by decide))]
 have hn : nonceF 2 258 = (txt (nonceL 2 258), 0) := nonce_ok 2 258 rfl rfl
 have hn2 : (txt (nonceL 2 258)).toList = ([2, 0, 0, 0, 0, 0, 0, 0, 0, 0, 1, 2] : List UInt8) := by
  rw [show nonceL 2 258 = [2, 0, 0, 0, 0, 0, 0, 0, 0, 0, 1, 2] by decide +kernel, txt_toList]
  rfl
 rw [wrap_f _ _ _ _ _ (by omega), Option.bind_some, unwrap_f _ _ _ _ _ (by omega), Option.bind_some, unwrap_f _ _ _ _ _ (by omega), Option.bind_some, nonce_f, Option.bind_some, u1, u2, u3, h70, hn, if_pos rfl, if_pos rfl, if_pos hTl, if_pos rfl, if_pos (show ((48 : Nat) : Int) = 48 from rfl), if_pos hn2]
 rfl
end Go.Proofs.YtbkbganflnemeaaGreat.Pr
end

section
namespace Go.Proofs.YtbkbganflnemeaaGreat.Pr
open Go.RowKit Go.Proofs.YtbkbganflnemeaaGreatW.PrintWords Go.Proofs.YtbkbganflnemeaaGreatW.PrintLast Go.Proofs.YtbkbganflnemeaaGreatW.PrintMore
set_option maxHeartbeats 1000000
def samphireref09_with.f (a0_0 : ByteArray) (a0_1 : Bool) (a1 : ByteArray) (a2 : Bool) : Option (ByteArray × Bool) :=
 if a0_0.size ≤ 1000000000000000 ∧ a1.size ≤ 1000000000000000 then some (if a2 = false ∨ a0_1 = true ∨ 65536 < a0_0.size + a1.size then (a0_0, true) else (a0_0 ++ a1, false)) else none
theorem with_no (S x : ByteArray) (b : Bool) (w : World) : Calls Tryz.prog 158 #[.agg #[.string S, .bool b], .string x, .bool false] w fun e w' => e = .returned (.agg #[.string S, .bool true]) ∧ Below w.heap.size w w' := by
 go_enter Tryz.func158, Tryz.ntmps158
 go_wp2_with (fail)
 refine bodyPost_ret (v := .agg #[.string S, .bool true]) (by simp [results, Tryz.results158, go_sem]) rfl ⟨rfl, ?_⟩
 exact below_alloc (below_alloc (Below.refl _ _) _) _
theorem with_bad (S x : ByteArray) (w : World) : Calls Tryz.prog 158 #[.agg #[.string S, .bool true], .string x, .bool true] w fun e w' => e = .returned (.agg #[.string S, .bool true]) ∧ Below w.heap.size w w' := by
 go_enter Tryz.func158, Tryz.ntmps158
 go_wp2_with (fail)
 refine bodyPost_ret (v := .agg #[.string S, .bool true]) (by simp [results, Tryz.results158, go_sem]) rfl ⟨rfl, ?_⟩
 exact below_alloc (below_alloc (Below.refl _ _) _) _
theorem with_big (S x : ByteArray) (w : World) (hS : S.size ≤ 1000000000000000) (hx : x.size ≤ 1000000000000000) (h : 65536 < S.size + x.size) : Calls Tryz.prog 158 #[.agg #[.string S, .bool false], .string x, .bool true] w fun e w' => e = .returned (.agg #[.string S, .bool true]) ∧ Below w.heap.size w w' := by
 have d : decide (65536 < (S.size : Int) + (x.size : Int)) = true := decide_eq_true (by omega)
 go_enter Tryz.func158, Tryz.ntmps158
 go_wp2_with (fail)
 refine bodyPost_ret (v := .agg #[.string S, .bool true]) (by simp [results, Tryz.results158, go_sem]) rfl ⟨rfl, ?_⟩
 exact below_alloc (below_alloc (Below.refl _ _) _) _
theorem with_yes (S x : ByteArray) (w : World) (h : S.size + x.size ≤ 65536) : Calls Tryz.prog 158 #[.agg #[.string S, .bool false], .string x, .bool true] w fun e w' => e = .returned (.agg #[.string (S ++ x), .bool false]) ∧ Below w.heap.size w w' := by
 have d : decide (65536 < (S.size : Int) + (x.size : Int)) = false := decide_eq_false (by omega)
 have k1 : S.size + x.size ≤ 9223372036854775807 := by omega
 go_enter Tryz.func158, Tryz.ntmps158
 go_wp2_with (fail)
 refine bodyPost_ret (v := .agg #[.string (S ++ x), .bool false]) (by simp [results, Tryz.results158, go_sem]) rfl ⟨rfl, ?_⟩
 exact below_alloc (below_alloc (Below.refl _ _) _) _
theorem samphireref09_with.calls (a0_0 : ByteArray) (a0_1 : Bool) (a1 : ByteArray) (a2 : Bool) (r1 : ByteArray) (r2 : Bool) (w : World) (h : samphireref09_with.f a0_0 a0_1 a1 a2 = some (r1, r2)) :
    Calls Tryz.prog 158 #[.agg #[.string a0_0, .bool a0_1], .string a1, .bool a2] w fun e w' => e = .returned (.agg #[.string r1, .bool r2]) ∧ Below w.heap.size w w' := by
  unfold samphireref09_with.f at h
  by_cases hs : a0_0.size ≤ 1000000000000000 ∧ a1.size ≤ 1000000000000000
  · rw [if_pos hs] at h
    have h := Option.some.inj h
    cases a2 with
    | false =>
      rw [if_pos (.inl rfl)] at h
      simp only [Prod.mk.injEq] at h
      obtain ⟨rfl, rfl⟩ := h
      exact with_no _ _ _ w
    | true =>
      cases a0_1 with
      | true =>
        rw [if_pos (.inr (.inl rfl))] at h
        simp only [Prod.mk.injEq] at h
        obtain ⟨rfl, rfl⟩ := h
        exact with_bad _ _ w
      | false =>
        by_cases hb : 65536 < a0_0.size + a1.size
        · rw [if_pos (.inr (.inr hb))] at h
          simp only [Prod.mk.injEq] at h
          obtain ⟨rfl, rfl⟩ := h
          exact with_big _ _ w hs.1 hs.2 hb
        · rw [if_neg (by rintro (h | h | h); cases h; cases h; exact hb h)] at h
          simp only [Prod.mk.injEq] at h
          obtain ⟨rfl, rfl⟩ := h
          exact with_yes _ _ w (by omega)
  · rw [if_neg hs] at h
    cases h
end Go.Proofs.YtbkbganflnemeaaGreat.Pr
end

section
namespace Go.Proofs.YtbkbganflnemeaaGreat.Pr
open Go.RowKit Go.Proofs.YtbkbganflnemeaaGreatW.PrintWords Go.Proofs.YtbkbganflnemeaaGreatW.PrintLast Go.Proofs.YtbkbganflnemeaaGreatW.PrintMore
attribute [local go_sem] max2_int min2_int max_two min_two max_three min_three max_four min_four
def samphireref09_big.l0 : Nat → Int → List Int → Int → Option (ByteArray)
 | 0, _, _, _ => none
 | k + 1, x0, x5, x6 => if x6 ≥ 0 then (if 0 ≤ (wrap64 (8 * x6)) then (if x5.length < 140737488355328 then (samphireref09_big.l0 k x0 (x5 ++ [(Go.bits .and .i64 (shr .i64 x0 (wrap64 (8 * x6))) 255) % 256]) (wrap64 (x6 - 1))) else (none)) else (none)) else (some (strOfNums x5))
def samphireref09_big.f (k : Nat) (a0 : Int) (a1 : Int) : Option (ByteArray) := samphireref09_big.l0 k a0 ([] : List Int) (wrap64 (a1 - 1))
theorem samphireref09_big.mono_l : ∀ k, (∀ y0 y1 y2, LeO (samphireref09_big.l0 k y0 y1 y2) (samphireref09_big.l0 (k + 1) y0 y1 y2))
  | 0 => fun _ _ _ r h => by simp [samphireref09_big.l0] at h
  | k + 1 => by
    have ih0 := samphireref09_big.mono_l k
    · intro y0 y1 y2; unfold samphireref09_big.l0
      repeat' first
      | (with_reducible exact ih0 _ _ _)
      | (with_reducible exact LeO.refl _)
      | (with_reducible exact LeO.none _)
      | (with_reducible refine LeO.ite ?_ ?_)
      | (with_reducible refine LeO.bind ?_ (fun _ => ?_))
      | exact ih0 _ _ _
      | exact LeO.none _
      | refine LeO.ite ?_ ?_
      | refine LeO.bind ?_ (fun _ => ?_)
theorem samphireref09_big.mono : ∀ a0 a1 k, LeO (samphireref09_big.f k a0 a1) (samphireref09_big.f (k + 1) a0 a1) := by
 intro a0 a1 k; have ih0 := samphireref09_big.mono_l k; unfold samphireref09_big.f
 repeat' first
   | (with_reducible exact ih0 _ _ _)
   | (with_reducible exact LeO.refl _)
   | (with_reducible exact LeO.none _)
   | (with_reducible refine LeO.ite ?_ ?_)
   | (with_reducible refine LeO.bind ?_ (fun _ => ?_))
   | exact ih0 _ _ _
   | exact LeO.none _
   | refine LeO.ite ?_ ?_
   | refine LeO.bind ?_ (fun _ => ?_)
set_option maxHeartbeats 8000000 in
set_option maxRecDepth 100000 in
theorem samphireref09_big.calls (k : Nat) (a0 : Int) (a1 : Int) (r : ByteArray) (w : World) (h : samphireref09_big.f k a0 a1 = some r) :
    Calls Tryz.prog 159 #[.int .i64 a0, .int .i64 a1] w fun e w' => e = .returned (.string r) ∧ Below w.heap.size w w' := by
  have HB := Aside0.mk (Below.refl w.heap.size w); have H : (samphireref09_big.l0 k a0 ([] : List Int) (wrap64 (a1 - 1))) = some r := h; clear h; have H' := Aside0.mk H; clear H; go_enter Tryz.func159, Tryz.ntmps159
  go_wp2; go_loopg [5, 6] k (fun kq v5 v6 w' => ∃ (x5_1 : List Int) (x6_1 : Int), v6 = .int .i64 x6_1 ∧ Aside0 (samphireref09_big.l0 kq a0 x5_1 x6_1 = some r) ∧ Aside0 (kq ≤ k) ∧ Aside0 (Kd.R (Kd.int .u8) 5 w' w.heap.size (fun _ => True) v5 x5_1) ∧ Aside0 (Below w.heap.size w w'))
  case atStart => exact ⟨(([] : List Int)), (wrap64 (a1 - 1)), rz_, H', ⟨Nat.le_refl _⟩, ⟨by first | exact Kd.R_nil _ _ _ _ _ | exact Kd.N_nil _ _ _ _ _ | exact Kd.V_nil _ _ _ _ _ | exact Kd.Q_nil _ _ _ _ _ | exact Kd.S_nil _ _ _ _ _⟩, ⟨hb_⟩⟩
  case round =>
    clear H'; obtain ⟨x5_1, x6_1, rfl, HA, HK1, HO_5, HB⟩ := hrel; cases gk with
    | zero => exact absurd HA.out (by simp [samphireref09_big.l0])
    | succ k1 =>
      have H := HA.out; clear HA; simp only [samphireref09_big.l0] at H; by_cases c3 : x6_1 ≥ 0
      · rw [if_pos c3] at H; have c3b0 : decide (0 ≤ x6_1) = true := decide_eq_true c3; clear c3; obtain ⟨ji4, hji4⟩ : ∃ j_ : Int, (wrap64 (8 * x6_1)) = j_ := ⟨_, rfl⟩; replace H : (if 0 ≤ (ji4) then (if x5_1.length < 140737488355328 then (samphireref09_big.l0 k1 a0 (x5_1 ++ [(Go.bits .and .i64 (shr .i64 a0 (ji4)) 255) % 256]) (wrap64 (x6_1 - 1))) else (none)) else (none)) = some r := by first | (rw [hji4] at H; exact H) | (simp only [hji4] at H ⊢; exact H)
        have hji4w : (IntKind.i64.wrap (8 * x6_1)) = ji4 := (i64_w _).trans hji4; by_cases c5 : 0 ≤ (ji4)
        · rw [if_pos c5] at H; have c5b0 := eq_true c5; have c5b1 : decide (0 ≤ (ji4)) = true := decide_eq_true c5; clear c5; obtain ⟨ji6, hji6⟩ : ∃ j_ : Int, (shr .i64 a0 (ji4)) = j_ := ⟨_, rfl⟩; replace H : (if x5_1.length < 140737488355328 then (samphireref09_big.l0 k1 a0 (x5_1 ++ [(Go.bits .and .i64 (ji6) 255) % 256]) (wrap64 (x6_1 - 1))) else (none)) = some r := by first | (rw [hji6] at H; exact H) | (simp only [hji6] at H ⊢; exact H)
          have hji6_ : (a0 / 2 ^ min (ji4).toNat 64) = ji6 := hji6; have hji6z : (ji4) ≤ 64 → (a0 / 2 ^ (ji4).toNat) = ji6 := shr_small hji6; by_cases c7 : x5_1.length < 140737488355328
          · rw [if_pos c7] at H; have LMc7 := Aside0.mk c7; clear c7; obtain ⟨y274, hy274⟩ : ∃ y_ : List Int, y_ = (x5_1 ++ [(Go.bits .and .i64 (ji6) 255) % 256]) := ⟨_, rfl⟩; replace H : (samphireref09_big.l0 k1 a0 y274 (wrap64 (x6_1 - 1))) = some r := by first | (rw [hy274]; with_reducible exact H) | (have H2_ := (Option.bind_some _ _).symm.trans H; rw [hy274]; with_reducible exact H2_) | (have H2_ := (Option.bind_some _ _).symm.trans H; with_reducible exact H2_) | with_reducible exact H | (rw [hy274]; exact H) | exact H
            have Ny274 := Aside0.mk hy274; clear hy274; have H' := Aside0.mk H; clear H; go_wp2_with (first | ((with_reducible refine gate_builtin (b := .append) (xs := #[.tmp 13, .tmp 20]) rfl ?_); at_builtin; refine Kd.R_append (Kd.int .u8) (w0 := w) w.heap.size rfl (.tmp 13) (.tmp 20) 68 5 (.int .u8 0) 1 rfl Tryz.underlying68 info5 rfl (by decide) (by omega) u5 x5_1 ((Go.bits .and .i64 (ji6) 255) % 256) [.int .u8 ((Go.bits .and .i64 (ji6) 255) % 256)] (fun _ => True) (fun _ => False) rfl rfl ?aP (fun _ hk => hk.elim) ?aF ?aO ?aB ?aS ?aL ?_; (case aP => exact rfl); (case aB => exact hb_); (case aF => exact (fun _ _ => trivial)); (case aO => exact (ra_ HO_5.out)); (case aS => exact (below_size hb_)); (case aL => have := LMc7.out; omega); intro v275 w8 ho hb hg hat; rw [← Ny274.out] at ho; replace HB := Aside0.mk (hb); have HO276 := Aside0.mk (ho); clear HO_5; clear ho hb hg hat))
            go_roundg k1
            case measure => have := HK1.out; omega
            case rel => exact ⟨(y274), (wrap64 (x6_1 - 1)), rz_, H', ⟨by have := HK1.out; omega⟩, ⟨ra_ HO276.out⟩, ⟨hb_⟩⟩
          · rw [if_neg c7] at H; exact absurd H (by simp)
        · rw [if_neg c5] at H; exact absurd H (by simp)
      · rw [if_neg c3] at H; have c3b0 : decide (0 ≤ x6_1) = false := decide_eq_false c3; clear c3; obtain rfl := Option.some.inj H; have hcv9 := own_string (P := Tryz.prog) Tryz.underlying68 Tryz.underlying5 Tryz.underlying9 (Kd.own_of_R HO_5.out); go_wp2; go_ret
        exact ⟨ew_, hb_⟩
def samphireref09_Num.f (k : Nat) (a0_0 : ByteArray) (a0_1 : Bool) (a1 : Int) : Option (ByteArray × Bool) := (samphireref09_big.f k a1 6).bind fun t279 => (if a1 ≥ 0 then ((samphireref09_with.f a0_0 a0_1 t279 (decide (a1 ≤ 1099511627775))).bind fun bt280 => (some (bt280.1, bt280.2))) else ((samphireref09_with.f a0_0 a0_1 t279 false).bind fun bt282 => (some (bt282.1, bt282.2))))
theorem samphireref09_Num.mono : ∀ a0 a1 a2 k, LeO (samphireref09_Num.f k a0 a1 a2) (samphireref09_Num.f (k + 1) a0 a1 a2) := by
 intro a0 a1 a2 k; unfold samphireref09_Num.f
 repeat' first
   | (with_reducible exact samphireref09_big.mono _ _ _)
   | (with_reducible exact LeO.refl _)
   | (with_reducible exact LeO.none _)
   | (with_reducible refine LeO.ite ?_ ?_)
   | (with_reducible refine LeO.bind ?_ (fun _ => ?_))
   | exact samphireref09_big.mono _ _ _
   | exact LeO.none _
   | refine LeO.ite ?_ ?_
   | refine LeO.bind ?_ (fun _ => ?_)
def samphireref09_Num.T1 : Bool × List (List Nat × List Nat) := (true, [([], []), ([], []), ([1], [1]), ([], []), ([3], [3]), ([4, 2], [4]), ([5], [5]), ([6, 5], [5, 6]), ([5, 7], [5, 7]), ([0, 2, 8, 5], [0, 2, 8]), ([9, 9, 0, 1, 2, 3, 4, 5, 6, 7, 8, 9], [9])])
def samphireref09_Num.B1 : List Nat := [0, 0, 2, 0, 8, 30, 62, 126, 254, 511, 1023]
theorem samphireref09_Num.tab1 : rtab .any (opsOf Tryz.f110 1) = samphireref09_Num.T1 := by kernel_rfl
theorem samphireref09_Num.bits1 : waitsOk samphireref09_Num.T1.2 samphireref09_Num.B1 = true := by kernel_rfl
set_option maxHeartbeats 8000000 in
set_option maxRecDepth 100000 in
theorem samphireref09_Num.calls (k : Nat) (a0_0 : ByteArray) (a0_1 : Bool) (a1 : Int) (r1 : ByteArray) (r2 : Bool) (w : World) (h : samphireref09_Num.f k a0_0 a0_1 a1 = some (r1, r2)) :
  Calls Tryz.prog 110 #[.agg #[.string a0_0, .bool a0_1], .int .i64 a1] w fun e w' => e = .returned (.agg #[.string r1, .bool r2]) ∧ Below w.heap.size w w' := by
 have hu146 := Tryz.underlying146; have HB := Aside0.mk (Below.refl w.heap.size w); have H : ((samphireref09_big.f k a1 6).bind fun t279 => (if a1 ≥ 0 then ((samphireref09_with.f a0_0 a0_1 t279 (decide (a1 ≤ 1099511627775))).bind fun bt280 => (some (bt280.1, bt280.2))) else ((samphireref09_with.f a0_0 a0_1 t279 false).bind fun bt282 => (some (bt282.1, bt282.2))))) = some (r1, r2) := h; clear h; replace H := Option.bind_eq_some_iff.mp H; obtain ⟨t279, A30, H⟩ := H; have A3 := Aside0.mk A30; clear A30; by_cases c4 : a1 ≥ 0
 ·rw [if_pos c4] at H; have c4b0 : decide (0 ≤ a1) = true := decide_eq_true c4; clear c4; replace H := Option.bind_eq_some_iff.mp H; obtain ⟨⟨t280, t281⟩, A50, H⟩ := H; try dsimp only at H
  have A5 := Aside0.mk A50; clear A50; simp only [Option.some.injEq, Prod.mk.injEq] at H; obtain ⟨rfl, rfl⟩ := H; go_enter Tryz.func110, Tryz.ntmps110
  try go_wp2_with (first | ((with_reducible refine gate_dst (N := 2) rfl ?_); refine box_event ?hg (N := 2) ?hd (cs := #[.string a0_0, .bool a0_1]) (t := 146) ?hr ?_; (case hd => rfl); (case hg => rfl); (case hr => first | (go_simp; done) | (go_simp; rfl)); intro gb277 hg w6 hbox hb; have n0_ := Aside0.mk (below_step hb_ hb); have n1_ := Aside0.mk (hbox); have n2_ := Aside0.mk ((by rw [hg]; exact (below_size hb_) : w.heap.size ≤ gb277)); have n3_ := Aside0.mk ((by rw [hg]; exact (below_size hb_) : w.heap.size ≤ gb277)); clear HB; have HB := n0_; have BK277 := n1_; have GW277 := n2_; have GE277 := n3_; clear n0_ n1_ n2_ n3_; clear hb hbox hg) | ((with_reducible refine gate_dst (N := 4) rfl ?_); refine box_event ?hg (N := 4) ?hd (cs := #[.string (⟨#[]⟩ : ByteArray), .bool false]) (t := 146) ?hr ?_; (case hd => rfl); (case hg => rfl); (case hr => first | (go_simp; done) | (go_simp; rfl)); intro gb278 hg w7 hbox hb; have n0_ := Aside0.mk (blk_below (g := gb277) (o := .cells #[.string a0_0, .bool a0_1] 146 (0, 0)) (by (with_reducible repeat (first | refine blk_drewN ?_ _ | refine blk_drew ?_ | refine blk_alloc ?_ _)); exact BK277.out) hb); have n1_ := Aside0.mk (below_step (by repeat (first | (with_reducible first | exact HB.out | apply below_alloc | apply pw_below_drewN | apply below_drew1 | refine below_set ?_ GE277.out) | exact HB.out)) hb); have n2_ := Aside0.mk (hbox); have n3_ := Aside0.mk ((by rw [hg]; exact (below_size (by repeat (first | (with_reducible first | exact HB.out | apply below_alloc | apply pw_below_drewN | apply below_drew1 | refine below_set ?_ GE277.out) | exact HB.out))) : w.heap.size ≤ gb278)); have n4_ := Aside0.mk ((by rw [hg]; exact (below_size (by repeat (first | (with_reducible first | exact HB.out | apply below_alloc | apply pw_below_drewN | apply below_drew1 | refine below_set ?_ GE277.out) | exact HB.out))) : w.heap.size ≤ gb278)); have n5_ := Aside0.mk ((by rw [hg]; exact Nat.ne_of_lt (blk_lt (g := gb277) (o := .cells #[.string a0_0, .bool a0_1] 146 (0, 0)) (by (with_reducible repeat (first | refine blk_drewN ?_ _ | refine blk_drew ?_ | refine blk_alloc ?_ _)); exact BK277.out)) : gb277 ≠ gb278)); have n6_ := Aside0.mk ((by rw [hg]; exact Nat.ne_of_gt (blk_lt (g := gb277) (o := .cells #[.string a0_0, .bool a0_1] 146 (0, 0)) (by (with_reducible repeat (first | refine blk_drewN ?_ _ | refine blk_drew ?_ | refine blk_alloc ?_ _)); exact BK277.out)) : gb278 ≠ gb277)); clear BK277; clear HB; have BK277 := n0_; have HB := n1_; have BK278 := n2_; have GW278 := n3_; have GE278 := n4_; have NB277_278 := n5_; have NB278_277 := n6_; clear n0_ n1_ n2_ n3_ n4_ n5_ n6_; clear hb hbox hg))
  replace BK277 := Aside0.mk (blk_drew BK277.out); replace BK278 := Aside0.mk (blk_drew BK278.out); replace HB := Aside0.mk (below_drew1 HB.out); refine start_ (n := 11) (S := fun w' => w'.cell? ⟨gb277, 0, none⟩ = some (.string a0_0) ∧ w'.cell? ⟨gb277, 1, none⟩ = some (.bool a0_1)) (ds := []) #[false, false, false, false, false, false, false, false, false, false, false] (by kernel_rfl) rfl rfl ⟨(blk_cell BK277.out 0).trans rfl, (blk_cell BK277.out 1).trans rfl⟩ (fun hHeld => ?_); refine with_tabW samphireref09_Num.tab1 samphireref09_Num.bits1 (fun HT_ HW_ => ?_); generalize w7.drew = w8 at BK277 BK278 HB hHeld ⊢; refine pz_ 1 6 rfl rfl (any_of HT_.out (by kernel_rfl)) ?_; refine pz_ 3 8 rfl rfl (any_of HT_.out (by kernel_rfl)) ?_; refine pz_ 4 9 rfl rfl (any_of HT_.out (by kernel_rfl)) ?_; refine take_ (i := 0) (N := some 5) (v := ?_) (a' := ?_) #[true, true, false, true, true, false, false, false, false, false, false] rfl rfl (take_ofW HT_.out HW_.out (by kernel_rfl)) (fun _ _ _ h => h) (Or.inl ⟨by rfl, ?_⟩) hHeld ?_ ?_; rotate_left
  ·rintro w' ⟨s0, s1⟩; go_simp
   with_reducible rfl
  rotate_left
  ·simp only [Act.put, List.setIfInBounds_toArray, List.set_cons_zero, List.set_cons_succ, i64_w, i32_w]; rfl
  refine one_ (i := 2) (N := some 7) #[true, true, true, true, true, false, false, false, false, false, false] rfl rfl (one_of HT_.out (by kernel_rfl)) (by decide) (fun K hK => ?_); refine goes_ Tryz.func159 (by kernel_rfl) rfl #[.int .i64 a1, .int .i64 6] (by rfl) rfl rfl la_ ?_; with_reducible refine (samphireref09_big.calls k a1 6 t279 _ A3.out).mono ?_
  rintro e w9 ⟨rfl, hb⟩; refine ⟨_, rfl, ?_⟩; have n0_ := Aside0.mk (blk_below (g := gb277) (o := .cells #[.string a0_0, .bool a0_1] 146 (0, 0)) (by (with_reducible repeat (first | refine blk_drewN ?_ _ | refine blk_drew ?_ | refine blk_alloc ?_ _)); exact BK277.out) hb); have n1_ := Aside0.mk (blk_below (g := gb278) (o := .cells #[.string (⟨#[]⟩ : ByteArray), .bool false] 146 (0, 0)) (by (with_reducible repeat (first | refine blk_drewN ?_ _ | refine blk_drew ?_ | refine blk_alloc ?_ _)); exact BK278.out) hb); have n2_ := Aside0.mk (below_step (by repeat (first | (with_reducible first | exact HB.out | apply below_alloc | apply pw_below_drewN | apply below_drew1 | refine below_set ?_ GE277.out | refine below_set ?_ GE278.out) | exact HB.out)) hb); clear BK277 BK278 HB; have BK277 := n0_; have BK278 := n1_; have HB := n2_; clear n0_ n1_ n2_; refine hK.out _ _ ⟨(blk_cell BK277.out 0).trans rfl, (blk_cell BK277.out 1).trans rfl⟩ (fun hHeld => ?_); clear hK K; refine norm_ sa_ ?_; refine pz_ 5 10 rfl rfl (any_of HT_.out (by kernel_rfl)) ?_; refine pz_ 6 11 rfl rfl (any_of HT_.out (by kernel_rfl)) ?_; refine pz_ 7 12 rfl rfl (any_of HT_.out (by kernel_rfl)) ?_; refine pz_ 8 13 rfl rfl (any_of HT_.out (by kernel_rfl)) ?_; refine one_ (i := 9) (N := some 14) #[true, true, true, true, true, true, true, true, true, true, false] rfl rfl (one_of HT_.out (by kernel_rfl)) (by decide) (fun K hK => ?_); refine goes_ Tryz.func158 (by kernel_rfl) rfl #[.agg #[.string a0_0, .bool a0_1], .string t279, .bool (decide (a1 ≤ 1099511627775))] (by rfl) rfl rfl la_ ?_; with_reducible refine (samphireref09_with.calls a0_0 a0_1 t279 (decide (a1 ≤ 1099511627775)) t280 t281 _ A5.out).mono ?_
  rintro e w10 ⟨rfl, hb⟩; refine ⟨_, rfl, ?_⟩; have n0_ := Aside0.mk (blk_below (g := gb277) (o := .cells #[.string a0_0, .bool a0_1] 146 (0, 0)) (by (with_reducible repeat (first | refine blk_drewN ?_ _ | refine blk_drew ?_ | refine blk_alloc ?_ _)); exact BK277.out) hb); have n1_ := Aside0.mk (blk_below (g := gb278) (o := .cells #[.string (⟨#[]⟩ : ByteArray), .bool false] 146 (0, 0)) (by (with_reducible repeat (first | refine blk_drewN ?_ _ | refine blk_drew ?_ | refine blk_alloc ?_ _)); exact BK278.out) hb); have n2_ := Aside0.mk (below_step (by repeat (first | (with_reducible first | exact HB.out | apply below_alloc | apply pw_below_drewN | apply below_drew1 | refine below_set ?_ GE277.out | refine below_set ?_ GE278.out) | exact HB.out)) hb); clear BK277 BK278 HB; have BK277 := n0_; have BK278 := n1_; have HB := n2_; clear n0_ n1_ n2_; refine hK.out _ _ ⟨(blk_cell BK277.out 0).trans rfl, (blk_cell BK277.out 1).trans rfl⟩ (fun hHeld => ?_); clear hK K; refine norm_ sa_ ?_; refine one_ (i := 10) (N := none) #[true, true, true, true, true, true, true, true, true, true, true] rfl rfl (one_of HT_.out (by kernel_rfl)) (by decide) (fun K hK => ?_); have hs11 : w10.cell? ⟨gb278, 0, none⟩ = some (.string (⟨#[]⟩ : ByteArray)) := (blk_cell BK278.out 0).trans rfl; have hfs11 := blk_frozen BK278.out 0; have hns11_0 := NB277_278.out; have hms11_0 := NB278_277.out; have hs12 : w10.cell? ⟨gb278, 1, none⟩ = some (.bool false) := (blk_cell BK278.out 1).trans rfl; have hfs12 := blk_frozen BK278.out 1; have hns12_0 := NB277_278.out; have hms12_0 := NB278_277.out; refine skip_ (w1 := ?_) (by rfl) rfl ?_ ?_; rotate_left
  ·go_simp
   rfl
  refine hK.out _ _ ⟨((cell_far (p := ⟨gb278, _, none⟩) NB277_278.out _).trans (((cell_far (p := ⟨gb278, _, none⟩) NB277_278.out _).trans (hHeld.1)))), ((cell_far (p := ⟨gb278, _, none⟩) NB277_278.out _).trans (((cell_far (p := ⟨gb278, _, none⟩) NB277_278.out _).trans (hHeld.2))))⟩ (fun hHeld => ?_); clear hK K; refine done_ (done_of HT_.out (by kernel_rfl)) ?_; try go_wp2
  refine bodyPost_ret (results_cell_row rfl _ _ gb278 146 #[.string t280, .bool t281] (0, 0) _ rfl (by (with_reducible repeat (first | refine blk_drewN ?_ _ | refine blk_drew ?_ | refine blk_alloc ?_ _)); refine blk_put (cs := #[.string t280, .bool false]) ?_ 1 _ rfl; (with_reducible repeat (first | refine blk_drewN ?_ _ | refine blk_drew ?_ | refine blk_alloc ?_ _)); refine blk_put (cs := #[.string (⟨#[]⟩ : ByteArray), .bool false]) ?_ 0 _ rfl; (with_reducible repeat (first | refine blk_drewN ?_ _ | refine blk_drew ?_ | refine blk_alloc ?_ _)); exact BK278.out) Tryz.underlying146 rfl (by kernel_rfl)) rfl ?_; exact ⟨ew_, by repeat (first | (with_reducible first | exact HB.out | apply below_alloc | apply pw_below_drewN | apply below_drew1 | refine below_set ?_ GE277.out | refine below_set ?_ GE278.out) | exact HB.out)⟩
 ·rw [if_neg c4] at H; have c4b0 : decide (0 ≤ a1) = false := decide_eq_false c4; clear c4; replace H := Option.bind_eq_some_iff.mp H; obtain ⟨⟨t282, t283⟩, A130, H⟩ := H; try dsimp only at H
  have A13 := Aside0.mk A130; clear A130; simp only [Option.some.injEq, Prod.mk.injEq] at H; obtain ⟨rfl, rfl⟩ := H; go_enter Tryz.func110, Tryz.ntmps110
  try go_wp2_with (first | ((with_reducible refine gate_dst (N := 2) rfl ?_); refine box_event ?hg (N := 2) ?hd (cs := #[.string a0_0, .bool a0_1]) (t := 146) ?hr ?_; (case hd => rfl); (case hg => rfl); (case hr => first | (go_simp; done) | (go_simp; rfl)); intro gb277 hg w14 hbox hb; have n0_ := Aside0.mk (below_step hb_ hb); have n1_ := Aside0.mk (hbox); have n2_ := Aside0.mk ((by rw [hg]; exact (below_size hb_) : w.heap.size ≤ gb277)); have n3_ := Aside0.mk ((by rw [hg]; exact (below_size hb_) : w.heap.size ≤ gb277)); clear HB; have HB := n0_; have BK277 := n1_; have GW277 := n2_; have GE277 := n3_; clear n0_ n1_ n2_ n3_; clear hb hbox hg) | ((with_reducible refine gate_dst (N := 4) rfl ?_); refine box_event ?hg (N := 4) ?hd (cs := #[.string (⟨#[]⟩ : ByteArray), .bool false]) (t := 146) ?hr ?_; (case hd => rfl); (case hg => rfl); (case hr => first | (go_simp; done) | (go_simp; rfl)); intro gb278 hg w15 hbox hb; have n0_ := Aside0.mk (blk_below (g := gb277) (o := .cells #[.string a0_0, .bool a0_1] 146 (0, 0)) (by (with_reducible repeat (first | refine blk_drewN ?_ _ | refine blk_drew ?_ | refine blk_alloc ?_ _)); exact BK277.out) hb); have n1_ := Aside0.mk (below_step (by repeat (first | (with_reducible first | exact HB.out | apply below_alloc | apply pw_below_drewN | apply below_drew1 | refine below_set ?_ GE277.out) | exact HB.out)) hb); have n2_ := Aside0.mk (hbox); have n3_ := Aside0.mk ((by rw [hg]; exact (below_size (by repeat (first | (with_reducible first | exact HB.out | apply below_alloc | apply pw_below_drewN | apply below_drew1 | refine below_set ?_ GE277.out) | exact HB.out))) : w.heap.size ≤ gb278)); have n4_ := Aside0.mk ((by rw [hg]; exact (below_size (by repeat (first | (with_reducible first | exact HB.out | apply below_alloc | apply pw_below_drewN | apply below_drew1 | refine below_set ?_ GE277.out) | exact HB.out))) : w.heap.size ≤ gb278)); have n5_ := Aside0.mk ((by rw [hg]; exact Nat.ne_of_lt (blk_lt (g := gb277) (o := .cells #[.string a0_0, .bool a0_1] 146 (0, 0)) (by (with_reducible repeat (first | refine blk_drewN ?_ _ | refine blk_drew ?_ | refine blk_alloc ?_ _)); exact BK277.out)) : gb277 ≠ gb278)); have n6_ := Aside0.mk ((by rw [hg]; exact Nat.ne_of_gt (blk_lt (g := gb277) (o := .cells #[.string a0_0, .bool a0_1] 146 (0, 0)) (by (with_reducible repeat (first | refine blk_drewN ?_ _ | refine blk_drew ?_ | refine blk_alloc ?_ _)); exact BK277.out)) : gb278 ≠ gb277)); clear BK277; clear HB; have BK277 := n0_; have HB := n1_; have BK278 := n2_; have GW278 := n3_; have GE278 := n4_; have NB277_278 := n5_; have NB278_277 := n6_; clear n0_ n1_ n2_ n3_ n4_ n5_ n6_; clear hb hbox hg))
  replace BK277 := Aside0.mk (blk_drew BK277.out); replace BK278 := Aside0.mk (blk_drew BK278.out); replace HB := Aside0.mk (below_drew1 HB.out); refine start_ (n := 11) (S := fun w' => w'.cell? ⟨gb277, 0, none⟩ = some (.string a0_0) ∧ w'.cell? ⟨gb277, 1, none⟩ = some (.bool a0_1)) (ds := []) #[false, false, false, false, false, false, false, false, false, false, false] (by kernel_rfl) rfl rfl ⟨(blk_cell BK277.out 0).trans rfl, (blk_cell BK277.out 1).trans rfl⟩ (fun hHeld => ?_); refine with_tabW samphireref09_Num.tab1 samphireref09_Num.bits1 (fun HT_ HW_ => ?_); generalize w15.drew = w16 at BK277 BK278 HB hHeld ⊢; refine pz_ 1 6 rfl rfl (any_of HT_.out (by kernel_rfl)) ?_; refine pz_ 3 8 rfl rfl (any_of HT_.out (by kernel_rfl)) ?_; refine pz_ 4 9 rfl rfl (any_of HT_.out (by kernel_rfl)) ?_; refine take_ (i := 0) (N := some 5) (v := ?_) (a' := ?_) #[true, true, false, true, true, false, false, false, false, false, false] rfl rfl (take_ofW HT_.out HW_.out (by kernel_rfl)) (fun _ _ _ h => h) (Or.inl ⟨by rfl, ?_⟩) hHeld ?_ ?_; rotate_left
  ·rintro w' ⟨s0, s1⟩; go_simp
   with_reducible rfl
  rotate_left
  ·simp only [Act.put, List.setIfInBounds_toArray, List.set_cons_zero, List.set_cons_succ, i64_w, i32_w]; rfl
  refine one_ (i := 2) (N := some 7) #[true, true, true, true, true, false, false, false, false, false, false] rfl rfl (one_of HT_.out (by kernel_rfl)) (by decide) (fun K hK => ?_); refine goes_ Tryz.func159 (by kernel_rfl) rfl #[.int .i64 a1, .int .i64 6] (by rfl) rfl rfl la_ ?_; with_reducible refine (samphireref09_big.calls k a1 6 t279 _ A3.out).mono ?_
  rintro e w17 ⟨rfl, hb⟩; refine ⟨_, rfl, ?_⟩; have n0_ := Aside0.mk (blk_below (g := gb277) (o := .cells #[.string a0_0, .bool a0_1] 146 (0, 0)) (by (with_reducible repeat (first | refine blk_drewN ?_ _ | refine blk_drew ?_ | refine blk_alloc ?_ _)); exact BK277.out) hb); have n1_ := Aside0.mk (blk_below (g := gb278) (o := .cells #[.string (⟨#[]⟩ : ByteArray), .bool false] 146 (0, 0)) (by (with_reducible repeat (first | refine blk_drewN ?_ _ | refine blk_drew ?_ | refine blk_alloc ?_ _)); exact BK278.out) hb); have n2_ := Aside0.mk (below_step (by repeat (first | (with_reducible first | exact HB.out | apply below_alloc | apply pw_below_drewN | apply below_drew1 | refine below_set ?_ GE277.out | refine below_set ?_ GE278.out) | exact HB.out)) hb); clear BK277 BK278 HB; have BK277 := n0_; have BK278 := n1_; have HB := n2_; clear n0_ n1_ n2_; refine hK.out _ _ ⟨(blk_cell BK277.out 0).trans rfl, (blk_cell BK277.out 1).trans rfl⟩ (fun hHeld => ?_); clear hK K; refine norm_ sa_ ?_; refine pz_ 5 10 rfl rfl (any_of HT_.out (by kernel_rfl)) ?_; refine pure_ (i := 6) (N := some 11) (v := undef) (a' := ?_) #[true, true, true, true, true, true, true, false, false, false, false] rfl rfl (any_of HT_.out (by kernel_rfl)) (fun _ _ _ h => h) (Or.inr ⟨by rfl, rfl⟩) ?_ ?_; rotate_left
  ·simp only [Act.put, List.setIfInBounds_toArray, List.set_cons_zero, List.set_cons_succ, i64_w, i32_w]; rfl
  refine pure_ (i := 7) (N := some 12) (v := undef) (a' := ?_) #[true, true, true, true, true, true, true, true, false, false, false] rfl rfl (any_of HT_.out (by kernel_rfl)) (fun _ _ _ h => h) (Or.inr ⟨by rfl, rfl⟩) ?_ ?_; rotate_left
  ·simp only [Act.put, List.setIfInBounds_toArray, List.set_cons_zero, List.set_cons_succ, i64_w, i32_w]; rfl
  refine pz_ 8 13 rfl rfl (any_of HT_.out (by kernel_rfl)) ?_; refine one_ (i := 9) (N := some 14) #[true, true, true, true, true, true, true, true, true, true, false] rfl rfl (one_of HT_.out (by kernel_rfl)) (by decide) (fun K hK => ?_); refine goes_ Tryz.func158 (by kernel_rfl) rfl #[.agg #[.string a0_0, .bool a0_1], .string t279, .bool false] (by rfl) rfl rfl la_ ?_; with_reducible refine (samphireref09_with.calls a0_0 a0_1 t279 false t282 t283 _ A13.out).mono ?_
  rintro e w18 ⟨rfl, hb⟩; refine ⟨_, rfl, ?_⟩; have n0_ := Aside0.mk (blk_below (g := gb277) (o := .cells #[.string a0_0, .bool a0_1] 146 (0, 0)) (by (with_reducible repeat (first | refine blk_drewN ?_ _ | refine blk_drew ?_ | refine blk_alloc ?_ _)); exact BK277.out) hb); have n1_ := Aside0.mk (blk_below (g := gb278) (o := .cells #[.string (⟨#[]⟩ : ByteArray), .bool false] 146 (0, 0)) (by (with_reducible repeat (first | refine blk_drewN ?_ _ | refine blk_drew ?_ | refine blk_alloc ?_ _)); exact BK278.out) hb); have n2_ := Aside0.mk (below_step (by repeat (first | (with_reducible first | exact HB.out | apply below_alloc | apply pw_below_drewN | apply below_drew1 | refine below_set ?_ GE277.out | refine below_set ?_ GE278.out) | exact HB.out)) hb); clear BK277 BK278 HB; have BK277 := n0_; have BK278 := n1_; have HB := n2_; clear n0_ n1_ n2_; refine hK.out _ _ ⟨(blk_cell BK277.out 0).trans rfl, (blk_cell BK277.out 1).trans rfl⟩ (fun hHeld => ?_); clear hK K; refine norm_ sa_ ?_; refine one_ (i := 10) (N := none) #[true, true, true, true, true, true, true, true, true, true, true] rfl rfl (one_of HT_.out (by kernel_rfl)) (by decide) (fun K hK => ?_); have hs19 : w18.cell? ⟨gb278, 0, none⟩ = some (.string (⟨#[]⟩ : ByteArray)) := (blk_cell BK278.out 0).trans rfl; have hfs19 := blk_frozen BK278.out 0; have hns19_0 := NB277_278.out; have hms19_0 := NB278_277.out; have hs20 : w18.cell? ⟨gb278, 1, none⟩ = some (.bool false) := (blk_cell BK278.out 1).trans rfl; have hfs20 := blk_frozen BK278.out 1; have hns20_0 := NB277_278.out; have hms20_0 := NB278_277.out; refine skip_ (w1 := ?_) (by rfl) rfl ?_ ?_; rotate_left
  ·go_simp
   rfl
  refine hK.out _ _ ⟨((cell_far (p := ⟨gb278, _, none⟩) NB277_278.out _).trans (((cell_far (p := ⟨gb278, _, none⟩) NB277_278.out _).trans (hHeld.1)))), ((cell_far (p := ⟨gb278, _, none⟩) NB277_278.out _).trans (((cell_far (p := ⟨gb278, _, none⟩) NB277_278.out _).trans (hHeld.2))))⟩ (fun hHeld => ?_); clear hK K; refine done_ (done_of HT_.out (by kernel_rfl)) ?_; try go_wp2
  refine bodyPost_ret (results_cell_row rfl _ _ gb278 146 #[.string t282, .bool t283] (0, 0) _ rfl (by (with_reducible repeat (first | refine blk_drewN ?_ _ | refine blk_drew ?_ | refine blk_alloc ?_ _)); refine blk_put (cs := #[.string t282, .bool false]) ?_ 1 _ rfl; (with_reducible repeat (first | refine blk_drewN ?_ _ | refine blk_drew ?_ | refine blk_alloc ?_ _)); refine blk_put (cs := #[.string (⟨#[]⟩ : ByteArray), .bool false]) ?_ 0 _ rfl; (with_reducible repeat (first | refine blk_drewN ?_ _ | refine blk_drew ?_ | refine blk_alloc ?_ _)); exact BK278.out) Tryz.underlying146 rfl (by kernel_rfl)) rfl ?_; exact ⟨ew_, by repeat (first | (with_reducible first | exact HB.out | apply below_alloc | apply pw_below_drewN | apply below_drew1 | refine below_set ?_ GE277.out | refine below_set ?_ GE278.out) | exact HB.out)⟩
end Go.Proofs.YtbkbganflnemeaaGreat.Pr
end

section
namespace Go.Proofs.YtbkbganflnemeaaGreat.Pr
open Go.RowKit Go.Deep Go.Proofs.YtbkbganflnemeaaGreatW.PrintWords Go.Proofs.YtbkbganflnemeaaGreatW.PrintLast Go.Proofs.YtbkbganflnemeaaGreatW.PrintMore
set_option maxHeartbeats 1000000
theorem and_255c (n : Int) : bits .and .i64 n 255 = n % 256 := by
 have h127 : (BitVec.ofInt 64 255).toNat = 2 ^ 8 - 1 := by decide
 have key : (BitVec.ofInt 64 n &&& BitVec.ofInt 64 255).toNat = (n % ((2 ^ 64 : Nat) : Int)).toNat % 2 ^ 8 := by
  rw [BitVec.toNat_and, BitVec.toNat_ofInt, h127, Nat.and_two_pow_sub_one_eq_mod]
 show IntKind.i64.wrap ((BitVec.ofInt 64 n &&& BitVec.ofInt 64 255).toNat : Nat) = n % 256
 rw [key, IntKind.wrap_i64]
 omega
theorem wrapNc {x : Int} (n : Nat) (h : x = n) (hn : n ≤ 1000000000000) : wrap64 x = n := by
 subst h
 unfold wrap64
 omega
theorem big_part (x : Int) (j : Nat) (hj : j ≤ 7) : (bits .and .i64 (shr .i64 x (wrap64 (8 * (j : Int)))) 255) % 256 = ((x / 2 ^ (8 * j) % 256).toNat : Int) := by
 rw [wrapNc (x := 8 * (j : Int)) (8 * j) (by omega) (by omega), and_255c, shr, Int.toNat_natCast]
 have : min (8 * j) IntKind.i64.bits = 8 * j := Nat.min_eq_left (by show 8 * j ≤ 64; omega)
 rw [this]
 omega
def downN (x : Int) : Nat → List Nat
 | 0 => []
 | j + 1 => (x / 2 ^ (8 * j) % 256).toNat :: downN x j
theorem big_loop (x : Int) : ∀ (j k : Nat) (acc : List Nat), j ≤ 8 → j < k → acc.length + j ≤ 100 →
    samphireref09_big.l0 k x (acc.map fun (n : Nat) => (n : Int)) ((j : Int) - 1) = some (txt (acc ++ downN x j))
  | 0, k, acc, _, hk, _ => by
    obtain ⟨k, rfl⟩ : ∃ m, k = m + 1 := ⟨k - 1, by omega⟩
    simp only [samphireref09_big.l0]
    rw [if_neg (by omega), str_nats]
    simp [downN]
  | j + 1, k, acc, hj, hk, hl => by
    obtain ⟨k, rfl⟩ : ∃ m, k = m + 1 := ⟨k - 1, by omega⟩
    have e : ((j + 1 : Nat) : Int) - 1 = (j : Int) := by omega
    rw [e]
    simp only [samphireref09_big.l0]
    rw [if_pos (by omega), if_pos (by rw [wrapNc (x := 8 * (j : Int)) (8 * j) (by omega) (by omega)]; omega), if_pos (by rw [List.length_map]; omega), big_part x j (by omega)]
    have e2 : wrap64 ((j : Int) - 1) = (j : Int) - 1 := by unfold wrap64; omega
    have e3 : (acc.map fun (n : Nat) => (n : Int)) ++ [((x / 2 ^ (8 * j) % 256).toNat : Int)] = ((acc ++ [(x / 2 ^ (8 * j) % 256).toNat]).map fun (n : Nat) => (n : Int)) := by simp
    rw [e2, e3, big_loop x j k _ (by omega) (by omega) (by rw [List.length_append, List.length_singleton]; omega), List.append_assoc]
    rfl
theorem downN_byN (x : Int) : downN x 1 = byN x 1 ∧ downN x 2 = byN x 2 ∧ downN x 6 = byN x 6 := by
 refine ⟨?_, ?_, ?_⟩ <;> simp [downN, byN, roomL, List.range, List.range.loop]
theorem big_f (x : Int) (m k : Nat) (hm : m ≤ 8) (hk : m < k) : samphireref09_big.f k x (m : Int) = some (txt (downN x m)) := by
 unfold samphireref09_big.f
 rw [show wrap64 ((m : Int) - 1) = (m : Int) - 1 from by unfold wrap64; omega]
 have := big_loop x m k [] hm hk (by simp; omega)
 simpa using this
def refStep (S : ByteArray) (b : Bool) (ok : Bool) (M : List Nat) : ByteArray × Bool := if ok = false ∨ b = true ∨ 65536 < S.size + M.length then (S, true) else (S ++ txt M, false)
theorem with_step (S : ByteArray) (b ok : Bool) (M : List Nat) (hS : S.size ≤ 1000000000000000) (hM : M.length ≤ 1000000) : samphireref09_with.f S b (txt M) ok = some (refStep S b ok M) := by
 unfold samphireref09_with.f refStep
 rw [if_pos ⟨hS, by rw [txt_size]; omega⟩, txt_size]
theorem ref_Num (S : ByteArray) (b : Bool) (n : Int) (hS : S.size ≤ 1000000000000000) : samphireref09_Num.f 10 S b n = some (refStep S b (timeB n) (byN n 6)) := by
 unfold samphireref09_Num.f
 rw [show (6 : Int) = ((6 : Nat) : Int) from rfl, big_f n 6 10 (by decide) (by decide), (downN_byN n).2.2, Option.bind_some]
 unfold timeB
 split
 ·rw [with_step S b _ _ hS (by rw [byN_length _ _ (by decide)]; decide), Option.bind_some, show decide (n ≤ 1099511627775) = decide (0 ≤ n ∧ n ≤ 1099511627775) from by simp only [decide_eq_decide]; omega]
 ·rw [decide_eq_false (by omega), with_step S b _ _ hS (by rw [byN_length _ _ (by decide)]; decide), Option.bind_some]
end Go.Proofs.YtbkbganflnemeaaGreat.Pr
end

section
namespace Go.Proofs.YtbkbganflnemeaaGreat.Pr
open Go.RowKit Go.Proofs.YtbkbganflnemeaaGreatW.PrintWords Go.Proofs.YtbkbganflnemeaaGreatW.PrintLast Go.Proofs.YtbkbganflnemeaaGreatW.PrintMore
attribute [local go_sem] max2_int min2_int max_two min_two max_three min_three max_four min_four
def samphireref09_Done.f (a0_0 : ByteArray) (a0_1 : Bool) : Option (ByteArray × Int) := if a0_1 = true then (some ((⟨#[]⟩ : ByteArray), 1)) else (some (a0_0, 0))
set_option maxHeartbeats 8000000 in
set_option maxRecDepth 100000 in
theorem samphireref09_Done.calls (a0_0 : ByteArray) (a0_1 : Bool) (r1 : ByteArray) (r2 : Int) (w : World) (h : samphireref09_Done.f a0_0 a0_1 = some (r1, r2)) :
  Calls Tryz.prog 109 #[.agg #[.string a0_0, .bool a0_1]] w fun e w' => e = .returned (.tuple #[.string r1, .int .i64 r2]) ∧ Below w.heap.size w w' := by
 have hu146 := Tryz.underlying146; have HB := Aside0.mk (Below.refl w.heap.size w); have H : (if a0_1 = true then (some ((⟨#[]⟩ : ByteArray), 1)) else (some (a0_0, 0))) = some (r1, r2) := h; clear h; by_cases c2 : a0_1 = true
 ·subst c2; have H1 : (some ((⟨#[]⟩ : ByteArray), 1)) = some (r1, r2) := by rw [if_pos rfl] at H; exact H
  clear H; have H := H1; clear H1; simp only [Option.some.injEq, Prod.mk.injEq] at H; obtain ⟨rfl, rfl⟩ := H; go_enter Tryz.func109, Tryz.ntmps109
  go_wp2_with (first | ((with_reducible refine gate_dst (N := 1) rfl ?_); refine box_event ?hg (N := 1) ?hd (cs := #[.string a0_0, .bool true]) (t := 146) ?hr ?_; (case hd => rfl); (case hg => rfl); (case hr => first | (go_simp; done) | (go_simp; rfl)); intro gb273 hg w3 hbox hb; have n0_ := Aside0.mk (below_step hb_ hb); have n1_ := Aside0.mk (hbox); have n2_ := Aside0.mk ((by rw [hg]; exact (below_size hb_) : w.heap.size ≤ gb273)); have n3_ := Aside0.mk ((by rw [hg]; exact (below_size hb_) : w.heap.size ≤ gb273)); clear HB; have HB := n0_; have BK273 := n1_; have GW273 := n2_; have GE273 := n3_; clear n0_ n1_ n2_ n3_; clear hb hbox hg; have hcz4_0 : w3.cell? ⟨gb273, 0, none⟩ = some (.string a0_0) := (blk_cell BK273.out 0).trans rfl; have hcz4_1 : w3.cell? ⟨gb273, 1, none⟩ = some (.bool true) := (blk_cell BK273.out 1).trans rfl; have hfz4_0 := blk_frozen BK273.out 0; have hfz4_1 := blk_frozen BK273.out 1))
  go_ret2
  exact ⟨ew_, by repeat (first | (with_reducible first | exact HB.out | apply below_alloc | apply pw_below_drewN | apply below_drew1 | refine below_set ?_ GE273.out) | exact HB.out)⟩
 ·replace c2 := Bool.eq_false_iff.mpr c2; subst c2; have H1 : (some (a0_0, 0)) = some (r1, r2) := by rw [if_neg (show ¬ (false = true) by decide)] at H; exact H
  clear H; have H := H1; clear H1; simp only [Option.some.injEq, Prod.mk.injEq] at H; obtain ⟨rfl, rfl⟩ := H; go_enter Tryz.func109, Tryz.ntmps109
  go_wp2_with (first | ((with_reducible refine gate_dst (N := 1) rfl ?_); refine box_event ?hg (N := 1) ?hd (cs := #[.string a0_0, .bool false]) (t := 146) ?hr ?_; (case hd => rfl); (case hg => rfl); (case hr => first | (go_simp; done) | (go_simp; rfl)); intro gb273 hg w5 hbox hb; have n0_ := Aside0.mk (below_step hb_ hb); have n1_ := Aside0.mk (hbox); have n2_ := Aside0.mk ((by rw [hg]; exact (below_size hb_) : w.heap.size ≤ gb273)); have n3_ := Aside0.mk ((by rw [hg]; exact (below_size hb_) : w.heap.size ≤ gb273)); clear HB; have HB := n0_; have BK273 := n1_; have GW273 := n2_; have GE273 := n3_; clear n0_ n1_ n2_ n3_; clear hb hbox hg; have hcz6_0 : w5.cell? ⟨gb273, 0, none⟩ = some (.string a0_0) := (blk_cell BK273.out 0).trans rfl; have hcz6_1 : w5.cell? ⟨gb273, 1, none⟩ = some (.bool false) := (blk_cell BK273.out 1).trans rfl; have hfz6_0 := blk_frozen BK273.out 0; have hfz6_1 := blk_frozen BK273.out 1))
  go_ret2
  exact ⟨ew_, by repeat (first | (with_reducible first | exact HB.out | apply below_alloc | apply pw_below_drewN | apply below_drew1 | refine below_set ?_ GE273.out) | exact HB.out)⟩
def samphireref15_number.f (k : Nat) (a0 : Int) : Option (ByteArray) := (samphireref09_Num.f k (⟨#[]⟩ : ByteArray) false a0).bind fun bt284 => ((samphireref09_Done.f bt284.1 bt284.2).bind fun bt286 => (some bt286.1))
set_option maxHeartbeats 8000000 in
set_option maxRecDepth 100000 in
theorem samphireref15_number.calls (k : Nat) (a0 : Int) (r : ByteArray) (w : World) (h : samphireref15_number.f k a0 = some r) :
  Calls Tryz.prog 69 #[.int .i64 a0] w fun e w' => e = .returned (.string r) ∧ Below w.heap.size w w' := by
 have hu146 := Tryz.underlying146; have HB := Aside0.mk (Below.refl w.heap.size w); have H : ((samphireref09_Num.f k (⟨#[]⟩ : ByteArray) false a0).bind fun bt284 => ((samphireref09_Done.f bt284.1 bt284.2).bind fun bt286 => (some bt286.1))) = some r := h; clear h; replace H := Option.bind_eq_some_iff.mp H; obtain ⟨⟨t284, t285⟩, A20, H⟩ := H; try dsimp only at H
 have A2 := Aside0.mk A20; clear A20; replace H := Option.bind_eq_some_iff.mp H; obtain ⟨⟨t286, t287⟩, A30, H⟩ := H; try dsimp only at H
 have A3 := Aside0.mk A30; clear A30; obtain rfl := Option.some.inj H; go_enter Tryz.func69, Tryz.ntmps69
 go_wp2_with (first | ((with_reducible refine gate_callee (f := 110) rfl ?_); refine gl_ 8 Tryz.func110 #[.agg #[.string (⟨#[]⟩ : ByteArray), .bool false], .int .i64 a0] ?_; (with_reducible refine (samphireref09_Num.calls k (⟨#[]⟩ : ByteArray) false a0 t284 t285 _ A2.out).mono ?_); rintro e w4 ⟨rfl, hb⟩; refine ⟨_, rfl, ?_⟩; replace HB := Aside0.mk (below_step hb_ hb)) | ((with_reducible refine gate_callee (f := 109) rfl ?_); refine gl_ 9 Tryz.func109 #[.agg #[.string t284, .bool t285]] ?_; (with_reducible refine (samphireref09_Done.calls t284 t285 t286 t287 _ A3.out).mono ?_); rintro e w5 ⟨rfl, hb⟩; refine ⟨_, rfl, ?_⟩; replace HB := Aside0.mk (below_step hb_ hb)))
 go_ret
 exact ⟨ew_, hb_⟩
end Go.Proofs.YtbkbganflnemeaaGreat.Pr
end

section
namespace Go.Proofs.YtbkbganflnemeaaGreat.Pr
open Go.RowKit Go.Proofs.YtbkbganflnemeaaGreatW.PrintWords Go.Proofs.YtbkbganflnemeaaGreatW.PrintLast
set_option maxHeartbeats 1000000
theorem rnum_f (k : Nat) (n : Int) : samphireref15_number.f (k + 10) n = some (numT n) := by
  have h : samphireref09_Num.f (k + 10) (⟨#[]⟩ : ByteArray) false n = some (refStep ⟨#[]⟩ false (timeB n) (byN n 6)) := by
    induction k with
    | zero => exact ref_Num _ _ _ (by decide)
    | succ k ih => exact samphireref09_Num.mono _ _ _ _ _ ih
  unfold samphireref15_number.f
  rw [h, Option.bind_some]
  unfold refStep numT
  cases ht : timeB n with
  | true =>
    rw [if_neg (by rintro (h | h | h); cases h; cases h; rw [byN_length _ _ (by decide)] at h; revert h; decide), if_pos rfl]
    have e : (⟨#[]⟩ : ByteArray) ++ txt (byN n 6) = txt (byN n 6) := by
      rw [show (⟨#[]⟩ : ByteArray) = txt [] from rfl, ← txt_append]
      rfl
    rw [e]
    rfl
  | false =>
    rw [if_pos (.inl rfl), if_neg (by decide)]
    rfl
theorem ref_32 (k : Nat) (key p : ByteArray) (h0 : key.size ≤ 1000000000) (h1 : p.size ≤ 1000000000) : samphireref04_Expand.f (k + 69) key p 32 = some (hkT key p, 0) := by
 induction k with
 | zero => exact ref_Expand_f key p h0 h1 32 (by decide)
 | succ k ih => exact samphireref04_Expand.mono _ _ _ _ _ ih
end Go.Proofs.YtbkbganflnemeaaGreat.Pr
end

/- Joined texts (pack.py): what the statement's proof needs, part a6. No condition. -/
import Derived.Below
import Derived.Deep.Draws
import Derived.Deep.AppendLies
import Derived.Maps.AppendAt
import Derived.OwnWalk
import Derived.Laws.BytesArg
import Derived.Laws.MakeOwn
import Derived.Laws.OwnMore
import Derived.Deep.OwnRows
import Derived.Tactics
import Derived.Lib.ConvBytes
import Derived.Laws.Slices
import Derived.WalkKit
import Derived.KernelRfl
import Derived.RowKit3
import Derived.Deep.LoopGhost
import Derived.Deep.QuietTactic
import Derived.BigQuiet
import Derived.WideLaws
import Derived.Deep.DeepCutAuto
import Derived.Deep.CutBlock
import Derived.Deep.RegionHeld3
import Derived.Laws.Rows
import Derived.Lib.AppendStr
import Derived.ArgAppend
import Derived.Laws.IdiomCopy
import Derived.RowKit
import Derived.OrdersHeld
import Derived.Laws.BitsLemmas
import Derived.Laws.StructEq
import Derived.Test.YtbkbganflnemeaaGreatRows
import Derived.ProofKit
import Derived.OpenShut
import Derived.ShutString
import Derived.ChangeOld
import Derived.Shelf.Strings.Builder1
import Derived.Shelf.Strings.Builder2
import Derived.Shelf.Strings.OnBuilder
import Derived.Shelf.Strings.BuilderF
import Derived.Shelf.Strings.Prefix
import Derived.Shelf.Bits.Mul64
import Derived.Shelf.Strings.Repeat
import Derived.Test.YtbkbganflnemeaaGreatProg
import Derived.Deep.RegionLaw
import Derived.StillTailTactics
import Derived.Deep.Light
import Derived.Deep.RegionHeldLaw
import Derived.Deep.DrawnRows
import Derived.IntWalk
import Derived.Deep.WholeRow
import Derived.Laws.CopyOwn
import Derived.SizedLaws
import Derived.Test.YtbkbganflnemeaaGreatZXa1
import Derived.Test.YtbkbganflnemeaaGreatZXa2
import Derived.Test.YtbkbganflnemeaaGreatZXa3
import Derived.Test.YtbkbganflnemeaaGreatZXa4
import Derived.Test.YtbkbganflnemeaaGreatZXa5
set_option linter.unusedVariables false
set_option linter.unusedSimpArgs false
section
namespace Go.Proofs.YtbkbganflnemeaaGreat.Pr
open Go.RowKit Go.Proofs.YtbkbganflnemeaaGreatW.PrintWords Go.Proofs.YtbkbganflnemeaaGreatW.PrintLast Go.Proofs.YtbkbganflnemeaaGreatW.PrintMore
set_option maxHeartbeats 1000000
theorem map_get (p : Nat → Nat) (n k : Nat) (h : k < n) : ((List.range n).map p).getD k 0 = p k := by
 simp [List.getD_eq_getElem?_getD, h]
theorem outT_dig (V : Nat) (S : List Nat) : outT V S 16 = dig (V + dv S) 16 := by
  have hc : ∀ k, k ≤ 16 → cyT V S k = cyD ((List.range 16).map fun i => V / 256 ^ i % 256 + S.getD i 0) k := by
    intro k
    induction k with
    | zero => intro _; simp [cyT, cyD, dv]
    | succ k ih =>
      intro hk
      rw [cyT, cyD_succ, ih (by omega), map_get _ _ _ (by omega)]
  have h1 : outT V S 16 = dig (dv ((List.range 16).map fun i => V / 256 ^ i % 256 + S.getD i 0)) 16 := by
    unfold outT dig
    apply List.map_congr_left
    intro i hi
    rw [List.mem_range] at hi
    rw [if_pos hi, take_digit, map_get _ _ _ hi, hc i (by omega)]
    rfl
  rw [h1]
  apply dig_congr
  rw [dv_map_add, dv_map_get]
  have h2 : dv ((List.range 16).map fun i => V / 256 ^ i % 256) = V % 256 ^ 16 := dv_dig V 16
  rw [h2, Nat.add_mod, dv_take_mod, Nat.mod_mod, ← Nat.add_mod]
theorem blk_ltp (s : List Nat) (hs : ∀ i, s.getD i 0 < 256) (j : Nat) : blkN s j < 680564733841876926926749214863536422912 := by
 unfold blkN
 generalize hB : (s.drop (16 * j)).take 16 = B
 have hb : ∀ i, B.getD i 0 < 256 := by
  intro i
  rw [← hB, List.getD_eq_getElem?_getD, List.getElem?_take]
  split
  ·rw [List.getElem?_drop]
   have := hs (16 * j + i)
   rw [List.getD_eq_getElem?_getD] at this
   exact this
  ·decide
 have h1 := dv_lt B hb
 have h2 : 256 ^ B.length ≤ 256 ^ 16 := Nat.pow_le_pow_right (by decide) (by rw [← hB, List.length_take]; omega)
 rw [dv_append]
 have h3 : dv [1] = 1 := rfl
 rw [h3]
 omega
theorem acc_succ (r : Nat) (s : List Nat) (hs : ∀ i, s.getD i 0 < 256) (hr : r < 1361129467683753853853498429727072845824) (j : Nat) :
  lv (accL (limbs r) s (j + 1)) % 1361129467683753853853498429727072845819 = ((lv (accL (limbs r) s j) % 1361129467683753853853498429727072845819 + blkN s j) * r) % 1361129467683753853853498429727072845819 := by
 have hA := accL_lim (limbs_lim r) s j
 have hb := blk_ltp s hs j
 rw [accL]
 generalize accL (limbs r) s j = A at *
 have hx : (addL A (limbs (blkN s j))).length = 5 := by simp [addL, addT]
 have hm : (mulL (addL A (limbs (blkN s j))) (limbs r)).length = 5 := by simp [mulL]
 obtain ⟨q, hq⟩ := car_lv hm
 obtain ⟨q', hq'⟩ := mul_lv _ _ hx (limbs_lim r).len
 have e1 : lv (car (mulL (addL A (limbs (blkN s j))) (limbs r))) % 1361129467683753853853498429727072845819 = (lv (addL A (limbs (blkN s j))) * lv (limbs r)) % 1361129467683753853853498429727072845819 := by
  rw [hq', hq, Nat.add_mul_mod_self_left, Nat.add_mul_mod_self_left]
 rw [e1, addL_lv _ _ hA.len (limbs_lim _).len, limbs_lv _ (by omega), limbs_lv _ hr]
 conv => rhs; rw [Nat.mul_mod, Nat.add_mod, Nat.mod_mod, ← Nat.add_mod, ← Nat.mul_mod]
theorem dig_snoc (V i : Nat) : dig V i ++ [V / 256 ^ i % 256] = dig V (i + 1) := by
 unfold dig
 rw [List.range_succ, List.map_append]; rfl
theorem rMac_l1 (V n : Nat) (hn : 16 ≤ n) (hn' : n ≤ 100) : ∀ d k i, i + d = 16 → d < k →
    samphireref06_Mac.l1 k (ints (dig V n)) (ints (dig V i)) (i : Int) = some (txt (dig V 16), 0) := by
  intro d
  induction d with
  | zero =>
    intro k i hi hk
    obtain ⟨k, rfl⟩ : ∃ m, k = m + 1 := ⟨k - 1, by omega⟩
    obtain rfl : i = 16 := by omega
    simp only [samphireref06_Mac.l1]
    rw [if_neg (by omega), str_ints]
  | succ d ih =>
    intro k i hi hk
    obtain ⟨k, rfl⟩ : ∃ m, k = m + 1 := ⟨k - 1, by omega⟩
    have h := ih k (i + 1) (by omega) (by omega)
    rw [← dig_snoc, ints_append] at h
    simp only [samphireref06_Mac.l1, ints_length, dig_length]
    rw [if_pos (by omega), if_pos (by omega), if_pos (by omega), if_pos (by omega), rd_ints, dig_get V n i (by omega), wr _ (by omega) (by omega)]
    rw [show (((V / 256 ^ i % 256 : Nat) : Int) % 256) = ((V / 256 ^ i % 256 : Nat) : Int) from by omega]
    exact h
theorem dv_dig_lt (V n : Nat) (h : V < 256 ^ n) : dv (dig V n) = V := by rw [dv_dig, Nat.mod_eq_of_lt h]
theorem rMac_l0 (a0 a1 : ByteArray) (c : List Nat) (h0 : a0.size = 32) (h1 : a1.size ≤ 65536) (hc : c.length = 16) (hcl : ∀ i, c.getD i 0 < 256) : ∀ d k j, j + d = (a1.size + 15) / 16 → d + 1400 ≤ k →
    samphireref06_Mac.l0 k a0 a1 (ints c) (ints (dig (lv (accL (limbs (dv c)) (bys a1) j) % 1361129467683753853853498429727072845819) 17)) ((16 * j : Nat) : Int) =
      some (txt (outT (lv (accL (limbs (dv c)) (bys a1) ((a1.size + 15) / 16)) % 1361129467683753853853498429727072845819) ((bys a0).drop 16) 16), 0) := by
  have hr := dv_lt c hcl
  rw [hc] at hr
  intro d
  induction d with
  | zero =>
    intro k j hj hk
    obtain ⟨k, rfl⟩ : ∃ m, k = m + 1 := ⟨k - 1, by omega⟩
    obtain rfl : j = (a1.size + 15) / 16 := by omega
    have hA : lv (accL (limbs (dv c)) (bys a1) ((a1.size + 15) / 16)) % 1361129467683753853853498429727072845819 < 1361129467683753853853498429727072845819 := Nat.mod_lt _ (by decide)
    generalize lv (accL (limbs (dv c)) (bys a1) ((a1.size + 15) / 16)) % 1361129467683753853853498429727072845819 = A at *
    have hS : bys (a0.extract 16 a0.size) = (bys a0).drop 16 := by
      rw [bys_extract, List.take_of_length_le (by rw [List.length_drop, bys_length]; omega)]
    simp only [samphireref06_Mac.l0]
    rw [if_neg (by omega), if_pos (by omega), digits_f _ (by rw [ByteArray.size_extract]; omega) k (by rw [ByteArray.size_extract]; omega), Option.bind_some, hS]
    rw [show (18 : Int) = ((18 : Nat) : Int) from rfl, add_f _ _ 18 (fun i => by have := dig_lt A 17 i; omega) (fun i => by have := bys_lt (a0.extract 16 a0.size) i; rw [hS] at this; omega) (by omega) (by rw [dig_length]; omega) (by rw [List.length_drop, bys_length]; omega) k (by omega), Option.bind_some, dv_dig_lt A 17 (by omega)]
    rw [outT_dig]
    exact rMac_l1 _ 18 (by omega) (by omega) 16 k 0 (by omega) (by omega)
  | succ d ih =>
    intro k j hj hk
    obtain ⟨k, rfl⟩ : ∃ m, k = m + 1 := ⟨k - 1, by omega⟩
    have h := ih k (j + 1) (by omega) (by omega)
    rw [acc_succ _ _ (bys_lt a1) (by omega)] at h
    have hb := blk_ltp (bys a1) (bys_lt a1) j
    have hA : lv (accL (limbs (dv c)) (bys a1) j) % 1361129467683753853853498429727072845819 < 1361129467683753853853498429727072845819 := Nat.mod_lt _ (by decide)
    generalize lv (accL (limbs (dv c)) (bys a1) j) % 1361129467683753853853498429727072845819 = A at *
    simp only [samphireref06_Mac.l0]
    rw [if_pos (by omega), if_pos (by omega), wr (((16 * j : Nat) : Int) + 16) (by omega) (by omega)]
    have hm : mn (a1.size : Int) (((16 * j : Nat) : Int) + 16) = ((min a1.size (16 * j + 16) : Nat) : Int) := by unfold mn; split <;> omega
    have hB : bys (a1.extract (16 * j) (min a1.size (16 * j + 16))) = ((bys a1).drop (16 * j)).take 16 := by
      rw [bys_extract]
      by_cases hq : 16 * j + 16 ≤ a1.size
      · rw [show min a1.size (16 * j + 16) - 16 * j = 16 from by omega]
      · rw [List.take_of_length_le (by rw [List.length_drop, bys_length]; omega), List.take_of_length_le (by rw [List.length_drop, bys_length]; omega)]
    have hBl : (((bys a1).drop (16 * j)).take 16).length ≤ 16 := by rw [List.length_take]; omega
    have hBb : ∀ i, (((bys a1).drop (16 * j)).take 16 ++ [1]).getD i 0 ≤ 1000000 := by
      intro i
      rw [List.getD_eq_getElem?_getD]
      by_cases hi : i < (((bys a1).drop (16 * j)).take 16).length
      · rw [List.getElem?_append_left hi]
        have := bys_lt (a1.extract (16 * j) (min a1.size (16 * j + 16))) i
        rw [hB, List.getD_eq_getElem?_getD] at this
        omega
      · rw [List.getElem?_append_right (by omega)]
        cases i - (((bys a1).drop (16 * j)).take 16).length <;> simp
    rw [hm, Int.toNat_natCast, Int.toNat_natCast, if_pos (by omega), if_pos (by omega)]
    rw [digits_f _ (by rw [ByteArray.size_extract]; omega) k (by rw [ByteArray.size_extract]; omega), Option.bind_some, hB, if_pos (by rw [ints_length]; omega)]
    have e1 : ints (((bys a1).drop (16 * j)).take 16) ++ [1] = ints (((bys a1).drop (16 * j)).take 16 ++ [1]) := by rw [ints_append]; rfl
    rw [e1, show (18 : Int) = ((18 : Nat) : Int) from rfl, add_f _ _ 18 (fun i => by have := dig_lt A 17 i; omega) hBb (by omega) (by rw [dig_length]; omega) (by rw [List.length_append]; simp only [List.length_cons, List.length_nil]; omega) k (by omega), Option.bind_some, dv_dig_lt A 17 (by omega)]
    have e2 : dv (((bys a1).drop (16 * j)).take 16 ++ [1]) = blkN (bys a1) j := rfl
    rw [e2, times_f _ c (dig_lt _ _) hcl (by rw [dig_length]; omega) (by omega) k (by rw [dig_length]; omega), Option.bind_some, dig_length, hc, dv_dig_lt (A + blkN (bys a1) j) 18 (by omega)]
    have hp : (A + blkN (bys a1) j) * dv c < 256 ^ 18 * 256 ^ 16 := Nat.mul_lt_mul_of_lt_of_lt (by omega) hr
    rw [reduced_f _ (dig_lt _ _) (by rw [dig_length]; omega) (by rw [dig_length]; omega) (by rw [dv_dig]; exact Nat.mod_lt _ (by decide)) k (by omega), Option.bind_some, dv_dig_lt _ _ (by generalize (A + blkN (bys a1) j) * dv c = Z at *; omega)]
    rw [show (((16 * j : Nat) : Int) + 16) = ((16 * (j + 1) : Nat) : Int) from by omega]
    exact h
theorem rMac_f (a0 a1 : ByteArray) (h0 : a0.size = 32) (h1 : a1.size ≤ 65536) (k : Nat) (hk : (a1.size + 15) / 16 + 1401 ≤ k) : samphireref06_Mac.f k a0 a1 = some (txt (pmacL (bys a0) (bys a1)), 0) := by
 unfold samphireref06_Mac.f
 obtain ⟨k, rfl⟩ : ∃ m, k = m + 1 := ⟨k - 1, by omega⟩
 have hb : bys (txt (clampL (bys (a0.extract 0 16)))) = clampL (bys (a0.extract 0 16)) := bys_txt (clampL_lt _ (bys_lt _))
 have hc : (clampL (bys (a0.extract 0 16))).length = 16 := by rw [clampL_length, bys_length, ByteArray.size_extract]; omega
 have he : bys (a0.extract 0 16) = (bys a0).take 16 := by rw [bys_extract]; rfl
 have hcl : ∀ i, (clampL (bys (a0.extract 0 16))).getD i 0 < 256 := by
  intro i
  have := bys_lt (txt (clampL (bys (a0.extract 0 16)))) i
  rw [hb] at this
  exact this
 rw [if_pos (by omega), decide_eq_false (by omega)]
 simp only [samphireref06_Mac.j0]
 rw [if_neg (by decide), if_pos (by decide), if_pos (by omega)]
 unfold samphireref06_Clamp.f clampF
 rw [if_pos (by rw [ByteArray.size_extract]; omega), Option.bind_some, digits_f _ (by rw [txt_size]; omega) k (by rw [txt_size]; omega), Option.bind_some, hb, if_pos (by decide)]
 have hr := dv_lt _ hcl
 rw [hc] at hr
 have hz : (List.replicate 17 0 : List Int) = ints (dig (lv (accL (limbs (dv (clampL (bys (a0.extract 0 16))))) (bys a1) 0) % 1361129467683753853853498429727072845819) 17) := by
  have hz0 : ∀ r s, lv (accL r s 0) = 0 := fun r s => rfl
  rw [hz0]
  rfl
 rw [hz]
 refine (rMac_l0 a0 a1 _ h0 h1 hc hcl ((a1.size + 15) / 16) k 0 (by omega) (by omega)).trans ?_
 rw [he] at *
 unfold pmacL
 rw [whole_lv ((accL_lim (limbs_lim _) _ _).mono (by decide)), bys_length]
end Go.Proofs.YtbkbganflnemeaaGreat.Pr
end

section
namespace Go.Proofs.YtbkbganflnemeaaGreat.Pr
open Go.RowKit Go.Proofs.YtbkbganflnemeaaGreatW.PrintWords Go.Proofs.YtbkbganflnemeaaGreatW.PrintLast Go.Proofs.YtbkbganflnemeaaGreatW.PrintMore
attribute [local go_sem] max2_int min2_int max_two min_two max_three min_three max_four min_four
def samphireref01_turned.l0 : Nat → ByteArray → List Int → Int → Option (ByteArray)
 | 0, _, _, _ => none
 | k + 1, x0, x3, x4 => if (wrap64 (x4 + 3)) < (x0.size : Int) then (if 0 ≤ (wrap64 (x4 + 3)) then (if x3.length < 140737488355328 then ((some (x3 ++ [bt x0 (wrap64 (x4 + 3))] : List Int)).bind fun y295 => (if 0 ≤ (wrap64 (x4 + 2)) then (if (wrap64 (x4 + 2)) < (x0.size : Int) then (if y295.length < 140737488355328 then ((some (y295 ++ [bt x0 (wrap64 (x4 + 2))] : List Int)).bind fun y298 => (if 0 ≤ (wrap64 (x4 + 1)) then (if (wrap64 (x4 + 1)) < (x0.size : Int) then (if y298.length < 140737488355328 then ((some (y298 ++ [bt x0 (wrap64 (x4 + 1))] : List Int)).bind fun y301 => (if 0 ≤ x4 then (if x4 < (x0.size : Int) then (if y301.length < 140737488355328 then (samphireref01_turned.l0 k x0 (y301 ++ [bt x0 x4]) (wrap64 (x4 + 4))) else (none)) else (none)) else (none))) else (none)) else (none)) else (none))) else (none)) else (none)) else (none))) else (none)) else (none)) else (some (strOfNums x3))
def samphireref01_turned.f (k : Nat) (a0 : ByteArray) : Option (ByteArray) := samphireref01_turned.l0 k a0 ([] : List Int) 0
set_option maxHeartbeats 8000000 in
set_option maxRecDepth 100000 in
theorem samphireref01_turned.calls (k : Nat) (a0 : ByteArray) (r : ByteArray) (w : World) (h : samphireref01_turned.f k a0 = some r) :
    Calls Tryz.prog 167 #[.string a0] w fun e w' => e = .returned (.string r) ∧ Below w.heap.size w w' := by
  have HB := Aside0.mk (Below.refl w.heap.size w); have H : (samphireref01_turned.l0 k a0 ([] : List Int) 0) = some r := h; clear h; have H' := Aside0.mk H; clear H; go_enter Tryz.func167, Tryz.ntmps167
  go_wp2; go_loopg [3, 4] k (fun kq v3 v4 w' => ∃ (x3_1 : List Int) (x4_1 : Int), v4 = .int .i64 x4_1 ∧ Aside0 (samphireref01_turned.l0 kq a0 x3_1 x4_1 = some r) ∧ Aside0 (kq ≤ k) ∧ Aside0 (Kd.R (Kd.int .u8) 5 w' w.heap.size (fun _ => True) v3 x3_1) ∧ Aside0 (Below w.heap.size w w'))
  case atStart => exact ⟨(([] : List Int)), (0), rz_, H', ⟨Nat.le_refl _⟩, ⟨by first | exact Kd.R_nil _ _ _ _ _ | exact Kd.N_nil _ _ _ _ _ | exact Kd.V_nil _ _ _ _ _ | exact Kd.Q_nil _ _ _ _ _ | exact Kd.S_nil _ _ _ _ _⟩, ⟨hb_⟩⟩
  case round =>
    clear H'; obtain ⟨x3_1, x4_1, rfl, HA, HK1, HO_3, HB⟩ := hrel; cases gk with
    | zero => exact absurd HA.out (by simp [samphireref01_turned.l0])
    | succ k1 =>
      have H := HA.out; clear HA; simp only [samphireref01_turned.l0] at H; by_cases c2 : (wrap64 (x4_1 + 3)) < (a0.size : Int)
      · rw [if_pos c2] at H; have c2b0 : decide ((wrap64 (x4_1 + 3)) < (a0.size : Int)) = true := decide_eq_true c2; clear c2; obtain ⟨ji3, hji3⟩ : ∃ j_ : Int, (wrap64 (x4_1 + 3)) = j_ := ⟨_, rfl⟩; replace H : (if 0 ≤ (ji3) then (if x3_1.length < 140737488355328 then ((some (x3_1 ++ [bt a0 (ji3)] : List Int)).bind fun y295 => (if 0 ≤ (wrap64 (x4_1 + 2)) then (if (wrap64 (x4_1 + 2)) < (a0.size : Int) then (if y295.length < 140737488355328 then ((some (y295 ++ [bt a0 (wrap64 (x4_1 + 2))] : List Int)).bind fun y298 => (if 0 ≤ (wrap64 (x4_1 + 1)) then (if (wrap64 (x4_1 + 1)) < (a0.size : Int) then (if y298.length < 140737488355328 then ((some (y298 ++ [bt a0 (wrap64 (x4_1 + 1))] : List Int)).bind fun y301 => (if 0 ≤ x4_1 then (if x4_1 < (a0.size : Int) then (if y301.length < 140737488355328 then (samphireref01_turned.l0 k1 a0 (y301 ++ [bt a0 x4_1]) (wrap64 (x4_1 + 4))) else (none)) else (none)) else (none))) else (none)) else (none)) else (none))) else (none)) else (none)) else (none))) else (none)) else (none)) = some r := by first | (rw [hji3] at H; exact H) | (simp only [hji3] at H ⊢; exact H)
        (try rw [hji3] at c2b0)
        have hji3w : (IntKind.i64.wrap (x4_1 + 3)) = ji3 := (i64_w _).trans hji3; by_cases c4 : 0 ≤ (ji3)
        · rw [if_pos c4] at H; have c4b0 : decide (0 ≤ (ji3)) = true := decide_eq_true c4; clear c4; by_cases c6 : x3_1.length < 140737488355328
          · rw [if_pos c6] at H; have LMc6 := Aside0.mk c6; clear c6; obtain ⟨y295, hy295⟩ : ∃ y_ : List Int, y_ = (x3_1 ++ [bt a0 (ji3)]) := ⟨_, rfl⟩; replace H : (if 0 ≤ (wrap64 (x4_1 + 2)) then (if (wrap64 (x4_1 + 2)) < (a0.size : Int) then (if y295.length < 140737488355328 then ((some (y295 ++ [bt a0 (wrap64 (x4_1 + 2))] : List Int)).bind fun y298 => (if 0 ≤ (wrap64 (x4_1 + 1)) then (if (wrap64 (x4_1 + 1)) < (a0.size : Int) then (if y298.length < 140737488355328 then ((some (y298 ++ [bt a0 (wrap64 (x4_1 + 1))] : List Int)).bind fun y301 => (if 0 ≤ x4_1 then (if x4_1 < (a0.size : Int) then (if y301.length < 140737488355328 then (samphireref01_turned.l0 k1 a0 (y301 ++ [bt a0 x4_1]) (wrap64 (x4_1 + 4))) else (none)) else (none)) else (none))) else (none)) else (none)) else (none))) else (none)) else (none)) else (none)) = some r := by first | (rw [hy295]; with_reducible exact H) | (have H2_ := (Option.bind_some _ _).symm.trans H; rw [hy295]; with_reducible exact H2_) | (have H2_ := (Option.bind_some _ _).symm.trans H; with_reducible exact H2_) | with_reducible exact H | (rw [hy295]; exact H) | exact H
            have Ny295 := Aside0.mk hy295; clear hy295; obtain ⟨ji7, hji7⟩ : ∃ j_ : Int, (wrap64 (x4_1 + 2)) = j_ := ⟨_, rfl⟩; replace H : (if 0 ≤ (ji7) then (if (ji7) < (a0.size : Int) then (if y295.length < 140737488355328 then ((some (y295 ++ [bt a0 (ji7)] : List Int)).bind fun y298 => (if 0 ≤ (wrap64 (x4_1 + 1)) then (if (wrap64 (x4_1 + 1)) < (a0.size : Int) then (if y298.length < 140737488355328 then ((some (y298 ++ [bt a0 (wrap64 (x4_1 + 1))] : List Int)).bind fun y301 => (if 0 ≤ x4_1 then (if x4_1 < (a0.size : Int) then (if y301.length < 140737488355328 then (samphireref01_turned.l0 k1 a0 (y301 ++ [bt a0 x4_1]) (wrap64 (x4_1 + 4))) else (none)) else (none)) else (none))) else (none)) else (none)) else (none))) else (none)) else (none)) else (none)) = some r := by first | (rw [hji7] at H; exact H) | (simp only [hji7] at H ⊢; exact H)
            have hji7w : (IntKind.i64.wrap (x4_1 + 2)) = ji7 := (i64_w _).trans hji7; by_cases c8 : 0 ≤ (ji7)
            · rw [if_pos c8] at H; have c8b0 : decide (0 ≤ (ji7)) = true := decide_eq_true c8; clear c8; by_cases c9 : (ji7) < (a0.size : Int)
              · rw [if_pos c9] at H; have c9b0 : decide ((ji7) < (a0.size : Int)) = true := decide_eq_true c9; clear c9; by_cases c11 : y295.length < 140737488355328
                · rw [if_pos c11] at H; have LMc11 := Aside0.mk c11; clear c11; obtain ⟨y298, hy298⟩ : ∃ y_ : List Int, y_ = (y295 ++ [bt a0 (ji7)]) := ⟨_, rfl⟩; replace H : (if 0 ≤ (wrap64 (x4_1 + 1)) then (if (wrap64 (x4_1 + 1)) < (a0.size : Int) then (if y298.length < 140737488355328 then ((some (y298 ++ [bt a0 (wrap64 (x4_1 + 1))] : List Int)).bind fun y301 => (if 0 ≤ x4_1 then (if x4_1 < (a0.size : Int) then (if y301.length < 140737488355328 then (samphireref01_turned.l0 k1 a0 (y301 ++ [bt a0 x4_1]) (wrap64 (x4_1 + 4))) else (none)) else (none)) else (none))) else (none)) else (none)) else (none)) = some r := by first | (rw [hy298]; with_reducible exact H) | (have H2_ := (Option.bind_some _ _).symm.trans H; rw [hy298]; with_reducible exact H2_) | (have H2_ := (Option.bind_some _ _).symm.trans H; with_reducible exact H2_) | with_reducible exact H | (rw [hy298]; exact H) | exact H
                  have Ny298 := Aside0.mk hy298; clear hy298; obtain ⟨ji12, hji12⟩ : ∃ j_ : Int, (wrap64 (x4_1 + 1)) = j_ := ⟨_, rfl⟩; replace H : (if 0 ≤ (ji12) then (if (ji12) < (a0.size : Int) then (if y298.length < 140737488355328 then ((some (y298 ++ [bt a0 (ji12)] : List Int)).bind fun y301 => (if 0 ≤ x4_1 then (if x4_1 < (a0.size : Int) then (if y301.length < 140737488355328 then (samphireref01_turned.l0 k1 a0 (y301 ++ [bt a0 x4_1]) (wrap64 (x4_1 + 4))) else (none)) else (none)) else (none))) else (none)) else (none)) else (none)) = some r := by first | (rw [hji12] at H; exact H) | (simp only [hji12] at H ⊢; exact H)
                  have hji12w : (IntKind.i64.wrap (x4_1 + 1)) = ji12 := (i64_w _).trans hji12; by_cases c13 : 0 ≤ (ji12)
                  · rw [if_pos c13] at H; have c13b0 : decide (0 ≤ (ji12)) = true := decide_eq_true c13; clear c13; by_cases c14 : (ji12) < (a0.size : Int)
                    · rw [if_pos c14] at H; have c14b0 : decide ((ji12) < (a0.size : Int)) = true := decide_eq_true c14; clear c14; by_cases c16 : y298.length < 140737488355328
                      · rw [if_pos c16] at H; have LMc16 := Aside0.mk c16; clear c16; obtain ⟨y301, hy301⟩ : ∃ y_ : List Int, y_ = (y298 ++ [bt a0 (ji12)]) := ⟨_, rfl⟩; replace H : (if 0 ≤ x4_1 then (if x4_1 < (a0.size : Int) then (if y301.length < 140737488355328 then (samphireref01_turned.l0 k1 a0 (y301 ++ [bt a0 x4_1]) (wrap64 (x4_1 + 4))) else (none)) else (none)) else (none)) = some r := by first | (rw [hy301]; with_reducible exact H) | (have H2_ := (Option.bind_some _ _).symm.trans H; rw [hy301]; with_reducible exact H2_) | (have H2_ := (Option.bind_some _ _).symm.trans H; with_reducible exact H2_) | with_reducible exact H | (rw [hy301]; exact H) | exact H
                        have Ny301 := Aside0.mk hy301; clear hy301; by_cases c17 : 0 ≤ x4_1
                        · rw [if_pos c17] at H; have c17b0 : decide (0 ≤ x4_1) = true := decide_eq_true c17; clear c17; by_cases c18 : x4_1 < (a0.size : Int)
                          · rw [if_pos c18] at H; have c18b0 : decide (x4_1 < (a0.size : Int)) = true := decide_eq_true c18; clear c18; by_cases c20 : y301.length < 140737488355328
                            · rw [if_pos c20] at H; have LMc20 := Aside0.mk c20; clear c20; obtain ⟨y304, hy304⟩ : ∃ y_ : List Int, y_ = (y301 ++ [bt a0 x4_1]) := ⟨_, rfl⟩; replace H : (samphireref01_turned.l0 k1 a0 y304 (wrap64 (x4_1 + 4))) = some r := by first | (rw [hy304]; with_reducible exact H) | (have H2_ := (Option.bind_some _ _).symm.trans H; rw [hy304]; with_reducible exact H2_) | (have H2_ := (Option.bind_some _ _).symm.trans H; with_reducible exact H2_) | with_reducible exact H | (rw [hy304]; exact H) | exact H
                              have Ny304 := Aside0.mk hy304; clear hy304; have H' := Aside0.mk H; clear H; have p5 : 0 ≤ ((ji3) : Int) := of_decide_eq_true as_'; have q5 : (ji3) < (a0.size : Int) := of_decide_eq_true as_'; have hx5 := bt_at a0 (ji3); replace p5 := eq_true p5; replace q5 := eq_true q5; go_wp2_with (first | ((with_reducible refine gate_builtin (b := .append) (xs := #[.tmp 12, .tmp 17]) rfl ?_); at_builtin; refine Kd.R_append (Kd.int .u8) (w0 := w) w.heap.size rfl (.tmp 12) (.tmp 17) 68 5 (.int .u8 0) 1 rfl Tryz.underlying68 info5 rfl (by decide) (by omega) u3 x3_1 (bt a0 (ji3)) [.int .u8 (bt a0 (ji3))] (fun _ => True) (fun _ => False) rfl rfl ?aP (fun _ hk => hk.elim) ?aF ?aO ?aB ?aS ?aL ?_; (case aP => exact rfl); (case aB => exact hb_); (case aF => exact (fun _ _ => trivial)); (case aO => exact (ra_ HO_3.out)); (case aS => exact (below_size hb_)); (case aL => have := LMc6.out; omega); intro v296 w21 ho hb hg hat; rw [← Ny295.out] at ho; replace HB := Aside0.mk (hb); have HO297 := Aside0.mk (ho); clear HO_3; clear ho hb hg hat; have p10 : 0 ≤ ((ji7) : Int) := of_decide_eq_true as_'; have q10 : (ji7) < (a0.size : Int) := of_decide_eq_true as_'; have hx10 := bt_at a0 (ji7); replace p10 := eq_true p10; replace q10 := eq_true q10) | ((with_reducible refine gate_builtin (b := .append) (xs := #[.tmp 19, .tmp 24]) rfl ?_); at_builtin; refine Kd.R_append (Kd.int .u8) (w0 := w) w.heap.size rfl (.tmp 19) (.tmp 24) 68 5 (.int .u8 0) 1 rfl Tryz.underlying68 info5 rfl (by decide) (by omega) v296 y295 (bt a0 (ji7)) [.int .u8 (bt a0 (ji7))] (fun _ => True) (fun _ => False) rfl rfl ?aP (fun _ hk => hk.elim) ?aF ?aO ?aB ?aS ?aL ?_; (case aP => exact rfl); (case aB => exact hb_); (case aF => exact (fun _ _ => trivial)); (case aO => exact (ra_ HO297.out)); (case aS => exact (below_size hb_)); (case aL => have := LMc11.out; omega); intro v299 w22 ho hb hg hat; rw [← Ny298.out] at ho; replace HB := Aside0.mk (hb); have HO300 := Aside0.mk (ho); clear HO297; clear ho hb hg hat; have p15 : 0 ≤ ((ji12) : Int) := of_decide_eq_true as_'; have q15 : (ji12) < (a0.size : Int) := of_decide_eq_true as_'; have hx15 := bt_at a0 (ji12); replace p15 := eq_true p15; replace q15 := eq_true q15) | ((with_reducible refine gate_builtin (b := .append) (xs := #[.tmp 26, .tmp 31]) rfl ?_); at_builtin; refine Kd.R_append (Kd.int .u8) (w0 := w) w.heap.size rfl (.tmp 26) (.tmp 31) 68 5 (.int .u8 0) 1 rfl Tryz.underlying68 info5 rfl (by decide) (by omega) v299 y298 (bt a0 (ji12)) [.int .u8 (bt a0 (ji12))] (fun _ => True) (fun _ => False) rfl rfl ?aP (fun _ hk => hk.elim) ?aF ?aO ?aB ?aS ?aL ?_; (case aP => exact rfl); (case aB => exact hb_); (case aF => exact (fun _ _ => trivial)); (case aO => exact (ra_ HO300.out)); (case aS => exact (below_size hb_)); (case aL => have := LMc16.out; omega); intro v302 w23 ho hb hg hat; rw [← Ny301.out] at ho; replace HB := Aside0.mk (hb); have HO303 := Aside0.mk (ho); clear HO300; clear ho hb hg hat; have p19 : 0 ≤ (x4_1 : Int) := of_decide_eq_true as_'; have q19 : x4_1 < (a0.size : Int) := of_decide_eq_true as_'; have hx19 := bt_at a0 x4_1; replace p19 := eq_true p19; replace q19 := eq_true q19) | ((with_reducible refine gate_builtin (b := .append) (xs := #[.tmp 33, .tmp 37]) rfl ?_); at_builtin; refine Kd.R_append (Kd.int .u8) (w0 := w) w.heap.size rfl (.tmp 33) (.tmp 37) 68 5 (.int .u8 0) 1 rfl Tryz.underlying68 info5 rfl (by decide) (by omega) v302 y301 (bt a0 x4_1) [.int .u8 (bt a0 x4_1)] (fun _ => True) (fun _ => False) rfl rfl ?aP (fun _ hk => hk.elim) ?aF ?aO ?aB ?aS ?aL ?_; (case aP => exact rfl); (case aB => exact hb_); (case aF => exact (fun _ _ => trivial)); (case aO => exact (ra_ HO303.out)); (case aS => exact (below_size hb_)); (case aL => have := LMc20.out; omega); intro v305 w24 ho hb hg hat; rw [← Ny304.out] at ho; replace HB := Aside0.mk (hb); have HO306 := Aside0.mk (ho); clear HO303; clear ho hb hg hat))
                              go_roundg k1
                              case measure => have := HK1.out; omega
                              case rel => exact ⟨(y304), (wrap64 (x4_1 + 4)), rz_, H', ⟨by have := HK1.out; omega⟩, ⟨ra_ HO306.out⟩, ⟨hb_⟩⟩
                            · rw [if_neg c20] at H; exact absurd H (by simp)
                          · rw [if_neg c18] at H; exact absurd H (by simp)
                        · rw [if_neg c17] at H; exact absurd H (by simp)
                      · rw [if_neg c16] at H; exact absurd H (by simp)
                    · rw [if_neg c14] at H; exact absurd H (by simp)
                  · rw [if_neg c13] at H; exact absurd H (by simp)
                · rw [if_neg c11] at H; exact absurd H (by simp)
              · rw [if_neg c9] at H; exact absurd H (by simp)
            · rw [if_neg c8] at H; exact absurd H (by simp)
          · rw [if_neg c6] at H; exact absurd H (by simp)
        · rw [if_neg c4] at H; exact absurd H (by simp)
      · rw [if_neg c2] at H; have c2b0 : decide ((wrap64 (x4_1 + 3)) < (a0.size : Int)) = false := decide_eq_false c2; clear c2; obtain rfl := Option.some.inj H; have hcv25 := own_string (P := Tryz.prog) Tryz.underlying68 Tryz.underlying5 Tryz.underlying9 (Kd.own_of_R HO_3.out); go_wp2; go_ret
        exact ⟨ew_, hb_⟩
def samphireref01_PutSmall.f (k : Nat) (l0 : List Int) : Option (ByteArray) := (samphireref01_PutBig.f k l0).bind fun t307 => ((samphireref01_turned.f k t307).bind fun t308 => (some t308))
set_option maxHeartbeats 8000000 in
set_option maxRecDepth 100000 in
theorem samphireref01_PutSmall.calls (k : Nat) (A0 : Option Addr) (c0 : Nat) (l0 : List Int) (r : ByteArray) (w : World) (hr0 : Kd.C (Kd.int .i64) w A0 l0.length l0) (hc0 : l0.length ≤ c0) (h : samphireref01_PutSmall.f k l0 = some r) :
  Calls Tryz.prog 115 #[.slice A0 l0.length c0] w fun e w' => e = .returned (.string r) ∧ Below w.heap.size w w' := by
 have HR0 := Aside0.mk hr0; have HC0 := Aside0.mk hc0; clear hr0 hc0; have HB := Aside0.mk (Below.refl w.heap.size w); have H : ((samphireref01_PutBig.f k l0).bind fun t307 => ((samphireref01_turned.f k t307).bind fun t308 => (some t308))) = some r := h; clear h; replace H := Option.bind_eq_some_iff.mp H; obtain ⟨t307, A20, H⟩ := H; have A2 := Aside0.mk A20; clear A20; replace H := Option.bind_eq_some_iff.mp H; obtain ⟨t308, A30, H⟩ := H; have A3 := Aside0.mk A30; clear A30; obtain rfl := Option.some.inj H; go_enter Tryz.func115, Tryz.ntmps115
 go_wp2_with (first | ((with_reducible refine gate_callee (f := 80) rfl ?_); refine gl_ 4 Tryz.func80 #[.slice A0 l0.length c0] ?_; (with_reducible refine (samphireref01_PutBig.calls k _ _ l0 t307 _ ?side1 ?side2 A2.out).mono ?_); (case side1 => exact ca_ HR0.out); (case side2 => exact HC0.out); rintro e w4 ⟨rfl, hb⟩; refine ⟨_, rfl, ?_⟩; replace HB := Aside0.mk (below_step hb_ hb)) | ((with_reducible refine gate_callee (f := 167) rfl ?_); refine gl_ 5 Tryz.func167 #[.string t307] ?_; (with_reducible refine (samphireref01_turned.calls k t307 t308 _ A3.out).mono ?_); rintro e w5 ⟨rfl, hb⟩; refine ⟨_, rfl, ?_⟩; replace HB := Aside0.mk (below_step hb_ hb)))
 go_ret
 exact ⟨ew_, hb_⟩
def samphireref01_Small.f (k : Nat) (a0 : ByteArray) : Option (List Int × Int) := if ((a0.size : Int) % 4) = 0 then ((samphireref01_turned.f k a0).bind fun t309 => ((samphireref01_Big.f k t309).bind fun bt310 => (some (bt310.1, bt310.2)))) else (some (([] : List Int), 1))
set_option maxHeartbeats 8000000 in
set_option maxRecDepth 100000 in
theorem samphireref01_Small.calls (k : Nat) (a0 : ByteArray) (r1 : List Int) (r2 : Int) (w : World) (h : samphireref01_Small.f k a0 = some (r1, r2)) :
  Calls Tryz.prog 160 #[.string a0] w fun e w' => ∃ v0_ : Value, e = .returned (.tuple #[v0_, .int .i64 r2]) ∧ Kd.R (Kd.int .i64) 3 w' w.heap.size (fun _ => True) v0_ r1 ∧ Below w.heap.size w w' := by
 have HB := Aside0.mk (Below.refl w.heap.size w); have H : (if ((a0.size : Int) % 4) = 0 then ((samphireref01_turned.f k a0).bind fun t309 => ((samphireref01_Big.f k t309).bind fun bt310 => (some (bt310.1, bt310.2)))) else (some (([] : List Int), 1))) = some (r1, r2) := h; clear h; by_cases c2 : ((a0.size : Int) % 4) = 0
 ·rw [if_pos c2] at H; have c2b0 : (((a0.size : Int) % 4) == 0) = true := beq_iff_eq.mpr c2; have c2b1 : (((a0.size : Int) % 4) != 0) = false := bne_eq_false_iff_eq.mpr c2; clear c2; replace H := Option.bind_eq_some_iff.mp H; obtain ⟨t309, A30, H⟩ := H; have A3 := Aside0.mk A30; clear A30; replace H := Option.bind_eq_some_iff.mp H; obtain ⟨⟨t310, t311⟩, A40, H⟩ := H; try dsimp only at H
  have A4 := Aside0.mk A40; clear A40; simp only [Option.some.injEq, Prod.mk.injEq] at H; obtain ⟨rfl, rfl⟩ := H; go_enter Tryz.func160, Tryz.ntmps160
  go_wp2_with (first | ((with_reducible refine gate_callee (f := 167) rfl ?_); refine gl_ 9 Tryz.func167 #[.string a0] ?_; (with_reducible refine (samphireref01_turned.calls k a0 t309 _ A3.out).mono ?_); rintro e w5 ⟨rfl, hb⟩; refine ⟨_, rfl, ?_⟩; replace HB := Aside0.mk (below_step hb_ hb)) | ((with_reducible refine gate_callee (f := 187) rfl ?_); refine gl_ 10 Tryz.func187 #[.string t309] ?_; (with_reducible refine (samphireref01_Big.calls k t309 t310 t311 _ A4.out).mono ?_); rintro e w6 ⟨v312, rfl, ho0, hb⟩; refine ⟨_, rfl, ?_⟩; have HO313 := Aside0.mk (Kd.R_lower ho0 (below_size hb_)); replace HB := Aside0.mk (below_step hb_ hb); (try clear ho0)))
  go_ret2
  exact ⟨_, ew_, ra_ HO313.out, hb_⟩
 ·rw [if_neg c2] at H; have c2b0 : (((a0.size : Int) % 4) == 0) = false := beq_eq_false_iff_ne.mpr c2; have c2b1 : (((a0.size : Int) % 4) != 0) = true := bne_iff_ne.mpr c2; simp only [Option.some.injEq, Prod.mk.injEq] at H; obtain ⟨rfl, rfl⟩ := H; go_enter Tryz.func160, Tryz.ntmps160
  go_wp2; go_ret2
  exact ⟨_, ew_, by first | exact Kd.R_nil _ _ _ _ _ | exact Kd.N_nil _ _ _ _ _ | exact Kd.V_nil _ _ _ _ _ | exact Kd.Q_nil _ _ _ _ _ | exact Kd.S_nil _ _ _ _ _, hb_⟩
end Go.Proofs.YtbkbganflnemeaaGreat.Pr
end

section
namespace Go.Proofs.YtbkbganflnemeaaGreat.Pr
open Go.RowKit Go.Proofs.YtbkbganflnemeaaGreatW.PrintWords Go.Proofs.YtbkbganflnemeaaGreatW.PrintLast
set_option maxHeartbeats 1000000
theorem by4_modE (x : Nat) : by4 (x % 4294967296) = by4 x := by
 simp only [by4, List.cons.injEq, and_true]
 refine ⟨?_, ?_, ?_, ?_⟩ <;> omega
theorem by4_lt (x : Nat) : ∀ z ∈ by4 x, z < 256 := by
 intro z hz
 simp only [by4, List.mem_cons, List.not_mem_nil, or_false] at hz
 rcases hz with h | h | h | h <;> rw [h] <;> exact Nat.mod_lt _ (by decide)
theorem putBigW_l0 (l : List Nat) (hl : ∀ i, l.getD i 0 < 4611686018427387904) (hs : l.length ≤ 1000000) : ∀ (d k i : Nat) (acc : List Nat), i + d = l.length → d < k → acc.length + 4 * d ≤ 100000000 →
    samphireref01_PutBig.l0 k (ints l) (ints acc) (i : Int) = some (txt (acc ++ (l.drop i).flatMap by4)) := by
  intro d
  induction d with
  | zero =>
    intro k i acc hi hk ha
    obtain ⟨k, rfl⟩ : ∃ m, k = m + 1 := ⟨k - 1, by omega⟩
    simp only [samphireref01_PutBig.l0, ints_length]
    rw [if_neg (by omega), str_ints, List.drop_eq_nil_of_le (by omega)]
    simp
  | succ d ih =>
    intro k i acc hi hk ha
    obtain ⟨k, rfl⟩ : ∃ m, k = m + 1 := ⟨k - 1, by omega⟩
    simp only [samphireref01_PutBig.l0, ints_length]
    rw [if_pos (by omega), if_pos (by omega), rd_ints]
    have hx0 := hl i
    generalize hxe0 : l.getD i 0 = x0 at hx0
    rw [word_f x0 (by omega)]
    have hx : x0 % 4294967296 < 4294967296 := Nat.mod_lt _ (by decide)
    have hb4 := by4_modE x0
    generalize hxe : x0 % 4294967296 = x at hx hb4
    simp only [Option.bind_some, List.length_append, ints_length, List.length_cons, List.length_nil]
    rw [if_pos (by omega), if_pos (by omega), if_pos (by omega), if_pos (by omega)]
    have e1 : ((x : Int) / 65536) = ((x / 65536 : Nat) : Int) := by simp
    have e2 : ((x : Int) / 256) = ((x / 256 : Nat) : Int) := by simp
    rw [e1, e2, and255 _ (by omega), and255 _ (by omega), and255 _ (by omega), wr _ (by omega) (by omega)]
    have e3 : ((((ints acc ++ [(x : Int) / 16777216 % 256]) ++ [((x / 65536 % 256 : Nat) : Int) % 256]) ++ [((x / 256 % 256 : Nat) : Int) % 256]) ++ [((x % 256 : Nat) : Int) % 256]) = ints (acc ++ by4 x) := by
      rw [ints_append]
      simp only [List.append_assoc, List.cons_append, List.nil_append, ints, by4, List.map_cons, List.map_nil]
      rw [show ((x : Int) / 16777216 % 256) = ((x / 16777216 % 256 : Nat) : Int) by omega, show (((x / 65536 % 256 : Nat) : Int) % 256) = ((x / 65536 % 256 : Nat) : Int) by omega, show (((x / 256 % 256 : Nat) : Int) % 256) = ((x / 256 % 256 : Nat) : Int) by omega, show (((x % 256 : Nat) : Int) % 256) = ((x % 256 : Nat) : Int) by omega]
    rw [e3]
    have := ih k (i + 1) (acc ++ by4 x) (by omega) (by omega) (by rw [List.length_append, by4_length]; omega)
    rw [show ((i : Int) + 1) = ((i + 1 : Nat) : Int) by omega, this]
    have hd : l.drop i = x0 :: l.drop (i + 1) := by
      rw [List.drop_eq_getElem_cons (by omega), ← hxe0]
      simp [show i < l.length by omega]
    rw [hd, List.flatMap_cons, List.append_assoc, hb4]
def turnL (l : List Nat) (m : Nat) : List Nat := (List.range m).flatMap fun j => [l.getD (4 * j + 3) 0, l.getD (4 * j + 2) 0, l.getD (4 * j + 1) 0, l.getD (4 * j) 0]
theorem turnL_succ (l : List Nat) (m : Nat) : turnL l (m + 1) = turnL l m ++ [l.getD (4 * m + 3) 0, l.getD (4 * m + 2) 0, l.getD (4 * m + 1) 0, l.getD (4 * m) 0] := by
 unfold turnL
 rw [List.range_succ, List.flatMap_append]
 simp
theorem turnL_length (l : List Nat) : ∀ m, (turnL l m).length = 4 * m
 | 0 => rfl
 | m + 1 => by rw [turnL_succ, List.length_append, turnL_length l m]; simp; omega
theorem turned_l0 (s : ByteArray) (m : Nat) (hm : s.size = 4 * m) (hs : m ≤ 1000000) : ∀ (d k j : Nat), j + d = m → d < k →
    samphireref01_turned.l0 k s (ints (turnL (bys s) j)) ((4 * j : Nat) : Int) = some (txt (turnL (bys s) m)) := by
  intro d
  induction d with
  | zero =>
    intro k j hj hk
    obtain ⟨k, rfl⟩ : ∃ m, k = m + 1 := ⟨k - 1, by omega⟩
    simp only [samphireref01_turned.l0]
    rw [wr (((4 * j : Nat) : Int) + 3) (by omega) (by omega), if_neg (by omega), str_ints]
    obtain rfl : j = m := by omega
    rfl
  | succ d ih =>
    intro k j hj hk
    obtain ⟨k, rfl⟩ : ∃ m, k = m + 1 := ⟨k - 1, by omega⟩
    simp only [samphireref01_turned.l0]
    rw [wr (((4 * j : Nat) : Int) + 3) (by omega) (by omega), wr (((4 * j : Nat) : Int) + 2) (by omega) (by omega), wr (((4 * j : Nat) : Int) + 1) (by omega) (by omega)]
    have hl := turnL_length (bys s) j
    rw [show ((4 * j : Nat) : Int) + 3 = ((4 * j + 3 : Nat) : Int) by omega, show ((4 * j : Nat) : Int) + 2 = ((4 * j + 2 : Nat) : Int) by omega, show ((4 * j : Nat) : Int) + 1 = ((4 * j + 1 : Nat) : Int) by omega]
    rw [bt_nat s (4 * j + 3) (by omega), bt_nat s (4 * j + 2) (by omega), bt_nat s (4 * j + 1) (by omega), bt_nat s (4 * j) (by omega)]
    simp only [Option.bind_some, List.length_append, ints_length, List.length_cons, List.length_nil]
    repeat rw [if_pos (by omega)]
    have e3 : (((ints (turnL (bys s) j) ++ [(((bys s).getD (4 * j + 3) 0 : Nat) : Int)]) ++ [(((bys s).getD (4 * j + 2) 0 : Nat) : Int)]) ++ [(((bys s).getD (4 * j + 1) 0 : Nat) : Int)]) ++ [(((bys s).getD (4 * j) 0 : Nat) : Int)] = ints (turnL (bys s) (j + 1)) := by
      rw [turnL_succ, ints_append]
      simp [ints]
    rw [e3, wr _ (by omega) (by omega), show ((4 * j : Nat) : Int) + 4 = ((4 * (j + 1) : Nat) : Int) by omega]
    exact ih k (j + 1) (by omega) (by omega)
theorem turned_f (s : ByteArray) (m : Nat) (hm : s.size = 4 * m) (hs : m ≤ 1000000) (k : Nat) (hk : m < k) : samphireref01_turned.f k s = some (txt (turnL (bys s) m)) :=
 turned_l0 s m hm hs m k 0 (by omega) hk
theorem turnL_append (l m : List Nat) (n : Nat) (hl : l.length = 4 * n) : turnL (l ++ m) n = turnL l n := by
  have h : ∀ j, j < n → ∀ i, i < 4 → (l ++ m).getD (4 * j + i) 0 = l.getD (4 * j + i) 0 := by
    intro j hj i hi
    rw [List.getD_eq_getElem?_getD, List.getElem?_append_left (by omega), ← List.getD_eq_getElem?_getD]
  have h2 : ∀ k, k ≤ n → turnL (l ++ m) k = turnL l k := by
    intro k
    induction k with
    | zero => intro _; rfl
    | succ k ih =>
      intro hk
      have h0 := h k (by omega) 0 (by omega)
      rw [Nat.add_zero] at h0
      rw [turnL_succ, turnL_succ, ih (by omega), h k (by omega) 3 (by omega), h k (by omega) 2 (by omega), h k (by omega) 1 (by omega), h0]
  exact h2 n (Nat.le_refl _)
theorem turn_by4_rev (r : List Nat) : turnL (r.reverse.flatMap by4) r.reverse.length = r.reverse.flatMap le4 := by
  induction r with
  | nil => rfl
  | cons x r ih =>
    rw [List.reverse_cons]
    generalize r.reverse = l at ih
    have hF : (l.flatMap by4).length = 4 * l.length := flat4_length l
    rw [List.length_append, List.length_singleton, turnL_succ, List.flatMap_append, List.flatMap_append, turnL_append _ _ _ hF, ih]
    congr 1
    have h : ∀ i, (l.flatMap by4 ++ [x].flatMap by4).getD (4 * l.length + i) 0 = (by4 x).getD i 0 := by
      intro i
      rw [List.getD_eq_getElem?_getD, List.getElem?_append_right (by omega), hF, Nat.add_sub_cancel_left]
      simp [List.getD_eq_getElem?_getD]
    have h0 := h 0
    rw [Nat.add_zero] at h0
    rw [h 3, h 2, h 1, h0]
    simp [by4, le4]
theorem turn_by4 (l : List Nat) : turnL (l.flatMap by4) l.length = l.flatMap le4 := by
 have := turn_by4_rev l.reverse
 rwa [List.reverse_reverse] at this
theorem rPutSmall_f (l : List Nat) (hl : ∀ i, l.getD i 0 < 4611686018427387904) (hs : l.length ≤ 1000000) (k : Nat) (hk : l.length < k) : samphireref01_PutSmall.f k (ints l) = some (txt (l.flatMap le4)) := by
 unfold samphireref01_PutSmall.f
 have h := putBigW_l0 l hl hs l.length k 0 [] (by omega) hk (by simp; omega)
 have h2 : samphireref01_PutBig.f k (ints l) = some (txt (l.flatMap by4)) := by simpa [samphireref01_PutBig.f, ints] using h
 have hb : bys (txt (l.flatMap by4)) = l.flatMap by4 := bys_txt (fun n hn => by
  rw [List.mem_flatMap] at hn
  obtain ⟨x, _, hx⟩ := hn
  exact by4_lt x n hx)
 rw [h2, Option.bind_some, turned_f _ l.length (by rw [txt_size, flat4_length]) hs k hk, Option.bind_some, hb, turn_by4]
theorem be4_turn (l : List Nat) (m j : Nat) (hj : j < m) : be4 (turnL l m) (4 * j) = lw4 l (4 * j) := by
  have h : ∀ m, j < m → ∀ i, i < 4 → (turnL l m).getD (4 * j + i) 0 = l.getD (4 * j + (3 - i)) 0 := by
    intro m
    induction m with
    | zero => intro h; omega
    | succ m ih =>
      intro hm i hi
      rw [turnL_succ]
      by_cases hjm : j < m
      · rw [List.getD_eq_getElem?_getD, List.getElem?_append_left (by rw [turnL_length]; omega), ← List.getD_eq_getElem?_getD]
        exact ih hjm i hi
      · obtain rfl : j = m := by omega
        rw [List.getD_eq_getElem?_getD, List.getElem?_append_right (by rw [turnL_length]; omega), turnL_length, Nat.add_sub_cancel_left]
        have : i = 0 ∨ i = 1 ∨ i = 2 ∨ i = 3 := by omega
        rcases this with rfl | rfl | rfl | rfl <;> rfl
  have h0 := h m hj 0 (by omega)
  have h1 := h m hj 1 (by omega)
  have h2 := h m hj 2 (by omega)
  have h3 := h m hj 3 (by omega)
  unfold be4 lw4
  rw [Nat.add_zero] at h0
  rw [h0, h1, h2, h3]
  show _ = _
  simp only [Nat.sub_zero, Nat.sub_self, Nat.add_zero, show 3 - 1 = 2 from rfl, show 3 - 2 = 1 from rfl]
  omega
theorem rSmall_f (s : ByteArray) (m : Nat) (hm : s.size = 4 * m) (hs : m ≤ 1000000) (k : Nat) (hk : m < k) : samphireref01_Small.f k s = some (ints ((List.range m).map fun j => lw4 (bys s) (4 * j)), 0) := by
 unfold samphireref01_Small.f
 rw [if_pos (by omega), turned_f s m hm hs k hk, Option.bind_some]
 have hb : bys (txt (turnL (bys s) m)) = turnL (bys s) m := bys_txt (fun n hn => by
  unfold turnL at hn
  rw [List.mem_flatMap] at hn
  obtain ⟨j, _, h⟩ := hn
  simp only [List.mem_cons, List.not_mem_nil, or_false] at h
  rcases h with h | h | h | h <;> rw [h] <;> exact bys_lt s _)
 have hsz : (txt (turnL (bys s) m)).size = 4 * m := by rw [txt_size, turnL_length]
 have h := big_l0 (txt (turnL (bys s) m)) m hsz hs m k 0 (by omega) hk
 have h2 : samphireref01_Big.f k (txt (turnL (bys s) m)) = some (ints (wordsL (bys (txt (turnL (bys s) m))) m), 0) := by
  unfold samphireref01_Big.f
  rw [if_pos (by rw [hsz]; omega)]
  exact h
 rw [h2, Option.bind_some, hb]
 have e : wordsL (turnL (bys s) m) m = (List.range m).map fun j => lw4 (bys s) (4 * j) := by
  unfold wordsL
  apply List.map_congr_left
  intro j hj
  exact be4_turn _ _ _ (List.mem_range.1 hj)
 rw [e]
end Go.Proofs.YtbkbganflnemeaaGreat.Pr
end

section
namespace Go.Proofs.YtbkbganflnemeaaGreat.Pr
open Go.RowKit Go.Deep Go.Proofs.YtbkbganflnemeaaGreatW.PrintWords Go.Proofs.YtbkbganflnemeaaGreatW.PrintLast Go.Proofs.YtbkbganflnemeaaGreatW.PrintMore
set_option maxHeartbeats 2000000
structure XC (ad : Addr) (c : Nat) (l : List Nat) (W : World) : Prop where
 C : (Kd.int .i64).C W (some ad) 16 (ints l)
 cap : 16 ≤ c
 small : Small l
 len : l.length = 16
theorem XC.below {ad : Addr} {c : Nat} {l : List Nat} {w w' : World} (h : XC ad c l w) (hb : Below w.heap.size w w') : XC ad c l w' := ⟨Kd.C_below h.C hb, h.cap, h.small, h.len⟩
theorem XC.cell {ad : Addr} {c : Nat} {l : List Nat} {w : World} (h : XC ad c l w) (i : Nat) (hi : i < 16) : w.cell? (ad.add i) = some (.int .i64 (l.getD i 0 : Nat)) := by
 obtain ⟨ad', e, h'⟩ := Kd.at_int h.C (i : Int) (by omega) (by omega)
 cases e
 rw [rd_ints] at h'
 exact h'
theorem XC.of_R {w w' : World} {v : Value} {l : List Nat} {e : Nat} {ok : Nat → Prop} {B : Nat} (h : (Kd.int .i64).R e w' B ok v (ints l)) (hl : l.length = 16) (hs : Small l) : ∃ ad c, v = .slice (some ad) 16 c ∧ XC ad c l w' := by
 obtain ⟨A, c, rfl⟩ := Kd.R_slice h
 obtain ⟨h1, h2, h3⟩ := Kd.R_reads' h
 rw [ints_length, hl] at h1 h2 h3
 obtain ⟨ad, rfl, _⟩ := Kd.at_int h3 0 (by omega) (by omega)
 rw [ints_length, hl]
 exact ⟨ad, c, rfl, h3, h2, hs, hl⟩
theorem round_step (ad : Addr) (c0 : Nat) (l : List Nat) (i j k m : Nat) (W : World) (h : XC ad c0 l W) (hi : i < 16) (hj : j < 16) (hk : k < 16) (hm : m < 16) :
  Calls Tryz.prog 161 #[.slice (some ad) 16 c0, .int .i64 i, .int .i64 j, .int .i64 k, .int .i64 m] W fun e w' => ∃ ad' c', e = .returned (.slice (some ad') 16 c') ∧ XC ad' c' (qr l i j k m) w' ∧ Below W.heap.size W w' := by
 refine (round_yes ad c0 l i j k m W h.len h.small hi hj hk hm h.C h.cap).mono ?_
 rintro e w' ⟨v, rfl, hR, hb⟩
 obtain ⟨ad', c', rfl, hx⟩ := XC.of_R (w := W) hR (by rw [qr_length]; exact h.len) (qr_small h.small _ _ _ _)
 exact ⟨ad', c', rfl, hx, hb⟩
theorem rs_0 (ad : Addr) (c0 : Nat) (l : List Nat) (W : World) (h : XC ad c0 l W) :
  Calls Tryz.prog 161 #[.slice (some ad) 16 c0, .int .i64 0, .int .i64 4, .int .i64 8, .int .i64 12] W fun e w' => ∃ ad' c', e = .returned (.slice (some ad') 16 c') ∧ XC ad' c' (qr l 0 4 8 12) w' ∧ Below W.heap.size W w' :=
 round_step ad c0 l 0 4 8 12 W h (by decide) (by decide) (by decide) (by decide)
theorem rs_1 (ad : Addr) (c0 : Nat) (l : List Nat) (W : World) (h : XC ad c0 l W) :
  Calls Tryz.prog 161 #[.slice (some ad) 16 c0, .int .i64 1, .int .i64 5, .int .i64 9, .int .i64 13] W fun e w' => ∃ ad' c', e = .returned (.slice (some ad') 16 c') ∧ XC ad' c' (qr l 1 5 9 13) w' ∧ Below W.heap.size W w' :=
 round_step ad c0 l 1 5 9 13 W h (by decide) (by decide) (by decide) (by decide)
theorem rs_2 (ad : Addr) (c0 : Nat) (l : List Nat) (W : World) (h : XC ad c0 l W) :
  Calls Tryz.prog 161 #[.slice (some ad) 16 c0, .int .i64 2, .int .i64 6, .int .i64 10, .int .i64 14] W fun e w' => ∃ ad' c', e = .returned (.slice (some ad') 16 c') ∧ XC ad' c' (qr l 2 6 10 14) w' ∧ Below W.heap.size W w' :=
 round_step ad c0 l 2 6 10 14 W h (by decide) (by decide) (by decide) (by decide)
theorem rs_3 (ad : Addr) (c0 : Nat) (l : List Nat) (W : World) (h : XC ad c0 l W) :
  Calls Tryz.prog 161 #[.slice (some ad) 16 c0, .int .i64 3, .int .i64 7, .int .i64 11, .int .i64 15] W fun e w' => ∃ ad' c', e = .returned (.slice (some ad') 16 c') ∧ XC ad' c' (qr l 3 7 11 15) w' ∧ Below W.heap.size W w' :=
 round_step ad c0 l 3 7 11 15 W h (by decide) (by decide) (by decide) (by decide)
theorem rs_4 (ad : Addr) (c0 : Nat) (l : List Nat) (W : World) (h : XC ad c0 l W) :
  Calls Tryz.prog 161 #[.slice (some ad) 16 c0, .int .i64 0, .int .i64 5, .int .i64 10, .int .i64 15] W fun e w' => ∃ ad' c', e = .returned (.slice (some ad') 16 c') ∧ XC ad' c' (qr l 0 5 10 15) w' ∧ Below W.heap.size W w' :=
 round_step ad c0 l 0 5 10 15 W h (by decide) (by decide) (by decide) (by decide)
theorem rs_5 (ad : Addr) (c0 : Nat) (l : List Nat) (W : World) (h : XC ad c0 l W) :
  Calls Tryz.prog 161 #[.slice (some ad) 16 c0, .int .i64 1, .int .i64 6, .int .i64 11, .int .i64 12] W fun e w' => ∃ ad' c', e = .returned (.slice (some ad') 16 c') ∧ XC ad' c' (qr l 1 6 11 12) w' ∧ Below W.heap.size W w' :=
 round_step ad c0 l 1 6 11 12 W h (by decide) (by decide) (by decide) (by decide)
theorem rs_6 (ad : Addr) (c0 : Nat) (l : List Nat) (W : World) (h : XC ad c0 l W) :
  Calls Tryz.prog 161 #[.slice (some ad) 16 c0, .int .i64 2, .int .i64 7, .int .i64 8, .int .i64 13] W fun e w' => ∃ ad' c', e = .returned (.slice (some ad') 16 c') ∧ XC ad' c' (qr l 2 7 8 13) w' ∧ Below W.heap.size W w' :=
 round_step ad c0 l 2 7 8 13 W h (by decide) (by decide) (by decide) (by decide)
theorem rs_7 (ad : Addr) (c0 : Nat) (l : List Nat) (W : World) (h : XC ad c0 l W) :
  Calls Tryz.prog 161 #[.slice (some ad) 16 c0, .int .i64 3, .int .i64 4, .int .i64 9, .int .i64 14] W fun e w' => ∃ ad' c', e = .returned (.slice (some ad') 16 c') ∧ XC ad' c' (qr l 3 4 9 14) w' ∧ Below W.heap.size W w' :=
 round_step ad c0 l 3 4 9 14 W h (by decide) (by decide) (by decide) (by decide)
def sumR (L D : List Nat) (i : Nat) : List Nat := (List.range i).map fun k => L.getD k 0 + D.getD k 0
theorem sumR_succ (L D : List Nat) (i : Nat) : sumR L D (i + 1) = sumR L D i ++ [L.getD i 0 + D.getD i 0] := by
 unfold sumR
 rw [List.range_succ, List.map_append]
 rfl
theorem sumR_small {L D : List Nat} (hL : Small L) (hD : Small D) (i k : Nat) : (sumR L D k).getD i 0 < 4611686018427387904 := by
 unfold sumR
 by_cases h : i < k
 ·have h1 := hL i
  have h2 := hD i
  simp only [List.getD_eq_getElem?_getD, List.getElem?_map, List.getElem?_range h, Option.map_some, Option.getD_some] at *
  omega
 ·simp [List.getD_eq_getElem?_getD, h]
theorem sumR_length (L D : List Nat) (i : Nat) : (sumR L D i).length = i := by simp [sumR]
def samphireref05_Block.f (a0 a1 : ByteArray) (a2 : Int) : Option (ByteArray × Int) := chacha_Block.f a0 a1 a2
theorem chaW_words (key nonce : List Nat) (n : Nat) (hk : key.length = 32) (hn : nonce.length = 12) : (List.range 16).map (fun j => lw4 (headL ++ key ++ le4 n ++ nonce) (4 * j)) = chaW key nonce n := by
 have g : ∀ j, (headL ++ key ++ le4 n ++ nonce).getD j 0 = if j < 16 then headL.getD j 0 else if j < 48 then key.getD (j - 16) 0 else if j < 52 then (le4 n).getD (j - 48) 0 else nonce.getD (j - 52) 0 := by
  intro j
  simp only [List.getD_eq_getElem?_getD, List.getElem?_append, List.length_append]
  have h1 : headL.length = 16 := rfl
  have h2 : (le4 n).length = 4 := rfl
  rw [h1, h2, hk]
  by_cases c1 : j < 16
  ·rw [if_pos (by omega), if_pos (by omega), if_pos c1, if_pos c1]
  ·by_cases c2 : j < 48
   ·rw [if_pos (by omega), if_pos (by omega), if_neg c1, if_neg c1, if_pos c2]
   ·by_cases c3 : j < 52
    ·rw [if_pos (by omega), if_neg (by omega), if_neg c1, if_neg c2, if_pos c3]
    ·rw [if_neg (by omega), if_neg c1, if_neg c2, if_neg c3]
 have g0 : ∀ j, j < 16 → (headL ++ key ++ le4 n ++ nonce).getD j 0 = headL.getD j 0 := fun j h => by rw [g, if_pos h]
 have g1 : ∀ j, j < 32 → (headL ++ key ++ le4 n ++ nonce).getD (16 + j) 0 = key.getD j 0 := fun j h => by rw [g, if_neg (by omega), if_pos (by omega), Nat.add_sub_cancel_left]
 have g2 : ∀ j, j < 4 → (headL ++ key ++ le4 n ++ nonce).getD (48 + j) 0 = (le4 n).getD j 0 := fun j h => by rw [g, if_neg (by omega), if_neg (by omega), if_pos (by omega), Nat.add_sub_cancel_left]
 have g3 : ∀ j, (headL ++ key ++ le4 n ++ nonce).getD (52 + j) 0 = nonce.getD j 0 := fun j => by rw [g, if_neg (by omega), if_neg (by omega), if_neg (by omega), Nat.add_sub_cancel_left]
 clear g
 generalize headL ++ key ++ le4 n ++ nonce = T at g0 g1 g2 g3
 apply List.ext_getElem
 ·simp [chaW]
 ·intro j h1 h2
  have hj : j < 16 := by simpa using h1
  rw [List.getElem_map, List.getElem_range]
  have hc : (chaW key nonce n)[j]'h2 = (chaW key nonce n).getD j 0 := by rw [List.getD_eq_getElem?_getD, List.getElem?_eq_getElem h2]; rfl
  rw [hc]
  clear hc h1 h2
  unfold lw4
  have hcase : j < 4 ∨ (∃ i, i < 8 ∧ j = 4 + i) ∨ j = 12 ∨ (∃ i, i < 3 ∧ j = 13 + i) := by
   by_cases c1 : j < 4
   ·exact Or.inl c1
   ·by_cases c2 : j < 12
    ·exact Or.inr (Or.inl ⟨j - 4, by omega, by omega⟩)
    ·by_cases c3 : j = 12
     ·exact Or.inr (Or.inr (Or.inl c3))
     ·exact Or.inr (Or.inr (Or.inr ⟨j - 13, by omega, by omega⟩))
  rcases hcase with h | ⟨i, hi, rfl⟩ | rfl | ⟨i, hi, rfl⟩
  ·rw [chaW_head key nonce n j h, g0 _ (by omega), g0 _ (by omega), g0 _ (by omega), g0 _ (by omega)]; rfl
  ·rw [chaW_key key nonce n i hi, show 4 * (4 + i) + 1 = 16 + (4 * i + 1) by omega, show 4 * (4 + i) + 2 = 16 + (4 * i + 2) by omega, show 4 * (4 + i) + 3 = 16 + (4 * i + 3) by omega, show 4 * (4 + i) = 16 + 4 * i by omega, g1 _ (by omega), g1 _ (by omega), g1 _ (by omega), g1 _ (by omega)]; rfl
  ·rw [chaW_count, show T.getD (4 * 12) 0 = _ from g2 0 (by omega), show T.getD (4 * 12 + 1) 0 = _ from g2 1 (by omega), show T.getD (4 * 12 + 2) 0 = _ from g2 2 (by omega), show T.getD (4 * 12 + 3) 0 = _ from g2 3 (by omega)]
   simp only [le4, List.getD_cons_zero, List.getD_cons_succ]
   omega
  ·rw [chaW_nonce key nonce n i hi, show 4 * (13 + i) + 1 = 52 + (4 * i + 1) by omega, show 4 * (13 + i) + 2 = 52 + (4 * i + 2) by omega, show 4 * (13 + i) + 3 = 52 + (4 * i + 3) by omega, show 4 * (13 + i) = 52 + 4 * i by omega, g3, g3, g3, g3]; rfl
theorem le4_mod (x : Nat) : le4 (x % 4294967296) = le4 x := by
 simp only [le4, List.cons.injEq, and_true]
 refine ⟨?_, ?_, ?_, ?_⟩ <;> omega
theorem sumR_chaO (L : List Nat) : (sumR L (dbl L 10) 16).flatMap le4 = chaO L := by
 unfold sumR chaO
 generalize dbl L 10 = D
 rw [List.flatMap_map]
 have h : (fun k => le4 (L.getD k 0 + D.getD k 0)) = fun k => le4 ((L.getD k 0 + D.getD k 0) % 4294967296) := by
  funext k
  exact (le4_mod _).symm
 rw [h]
set_option maxRecDepth 100000 in
theorem refBlock_yes (a0 a1 : ByteArray) (m : Nat) (w : World) (h0 : a0.size = 32) (h1 : a1.size = 12) (hm : m < 4294967296) :
  Calls Tryz.prog 111 #[.string a0, .string a1, .int .i64 m] w fun e w' => e = .returned (.tuple #[.string (txt (chaL (bys a0) (bys a1) m)), .int .i64 0]) ∧ Below w.heap.size w w' := by
 have t0 : ((a0.size : Int) != 32) = false := by rw [bne_eq_false_iff_eq]; omega
 have t1 : ((a1.size : Int) != 12) = false := by rw [bne_eq_false_iff_eq]; omega
 have t2 : decide ((m : Int) < 0) = false := decide_eq_false (by omega)
 have t3 : decide (4294967295 < (m : Int)) = false := decide_eq_false (by omega)
 have hps : ∀ (g : Nat) (W : World), W.heap[g]? = some (.cells #[.int .i64 (m : Int)] 3 (0, 0)) → Calls Tryz.prog 115 #[.slice (some ⟨g, 0, none⟩) 1 1] W fun e w' => e = .returned (.string (txt (le4 m))) ∧ Below W.heap.size W w' := by
  intro g W hg
  have hC : (Kd.int .i64).C W (some ⟨g, 0, none⟩) (ints [m]).length (ints [m]) := by
   refine Kd.C_of_reads (enc := Value.int .i64) (d := (0 : Int)) (h1 := fun _ => rfl) ⟨rfl, by simp [ints], fun _ => ⟨_, rfl, fun j hj => ?_⟩⟩
   rw [add_plain, blk_cell hg]
   have : j = 0 := by simp [ints] at hj; omega
   subst this; rfl
  have := samphireref01_PutSmall.calls 2 (some ⟨g, 0, none⟩) 1 (ints [m]) (txt (le4 m)) W hC (by simp [ints]) (by
   have := rPutSmall_f [m] (by intro i; rcases i with _ | i <;> simp <;> omega) (by simp) 2 (by simp)
   simpa using this)
  exact this
 have HPS := Aside0.mk hps
 have hT : bys ((⟨#[101, 120, 112, 97, 110, 100, 32, 51, 50, 45, 98, 121, 116, 101, 32, 107]⟩ : ByteArray) ++ a0 ++ txt (le4 m) ++ a1) = headL ++ bys a0 ++ le4 m ++ bys a1 := by
  rw [bys_append, bys_append, bys_append, bys_txt (fun z hz => by
   simp only [le4, List.mem_cons, List.not_mem_nil, or_false] at hz
   rcases hz with h | h | h | h <;> rw [h] <;> exact Nat.mod_lt _ (by decide))]
  rfl
 have hTs : ((⟨#[101, 120, 112, 97, 110, 100, 32, 51, 50, 45, 98, 121, 116, 101, 32, 107]⟩ : ByteArray) ++ a0 ++ txt (le4 m) ++ a1).size = 4 * 16 := by
  rw [ByteArray.size_append, ByteArray.size_append, ByteArray.size_append, txt_size, h0, h1]; rfl
 have hsm := fun W => samphireref01_Small.calls 17 _ _ 0 W (rSmall_f _ 16 hTs (by decide) 17 (by decide))
 rw [hT, chaW_words _ _ _ (by rw [bys_length]; exact h0) (by rw [bys_length]; exact h1)] at hsm
 have HSM := Aside0.mk hsm
 have hW := chaW_small a0 a1 m
 have hWl := chaW_length (bys a0) (bys a1) m
 have hO : chaL (bys a0) (bys a1) m = chaO (chaW (bys a0) (bys a1) m) := rfl
 rw [hO]
 generalize chaW (bys a0) (bys a1) m = L at HSM hW hWl ⊢
 have HW := Aside0.mk hW
 have HWl := Aside0.mk hWl
 have HTs := Aside0.mk hTs
 have hv4 : (txt (le4 m)).size = 4 := txt_size _
 generalize txt (le4 m) = V at HPS HSM HTs hv4
 have p1 : 16 + a0.size ≤ 9223372036854775807 := by omega
 have p2 : 16 + a0.size + V.size ≤ 9223372036854775807 := by omega
 have p3 : 16 + a0.size + V.size + a1.size ≤ 9223372036854775807 := by omega
 have H0 := Aside0.mk h0
 have H1 := Aside0.mk h1
 have HV4 := Aside0.mk hv4
 clear hps hT hTs hsm hW hWl hO hv4 h0 h1
 go_enter Tryz.func111, Tryz.ntmps111
 go_wp2_with (fail)
 refine (HPS.out w.heap.size _ (blk_new w _)).mono ?_
 rintro e w1 ⟨rfl, hb1⟩
 have hb1' := below_then (below_alloc (Below.refl w.heap.size w) _) (below_alloc (Below.refl w.heap.size w) _).size hb1
 have HB1 := Aside0.mk hb1'
 clear hb1 hb1'
 go_wp2_with (fail)
 refine (HSM.out _).mono ?_
 rintro e w2 ⟨v, rfl, hR, hb2⟩
 obtain ⟨adw, cw_, rfl, hx⟩ := XC.of_R (w := w) hR HWl.out HW.out
 have HX := Aside0.mk hx
 have HB2 := Aside0.mk (below_then HB1.out HB1.out.size hb2)
 clear hR hx hb2
 go_wp2_with (fail)
 go_loopw [10, 11] (fun x i wr => ∃ (n : Nat) (adx : Addr) (cx : Nat), n ≤ 10 ∧ i = .int .i64 n ∧ x = .slice (some adx) 16 cx ∧ Aside0 (XC adx cx (dbl L n) wr) ∧ Aside0 (XC adw cw_ L wr) ∧ Aside0 (Below w.heap.size w wr)) (fun _ i _ => 10 - (intOf i).toNat)
 case atStart => exact ⟨0, adw, cw_, by omega, rfl, rfl, HX, HX, HB2⟩
 case round =>
  clear HX HB2 HB1
  obtain ⟨n, adx, cx, hn, rfl, rfl, HX, HY, HB⟩ := hrel
  by_cases hlt : n < 10
  ·have hdbl : dbl L (n + 1) = qr (qr (qr (qr (qr (qr (qr (qr (dbl L n) 0 4 8 12) 1 5 9 13) 2 6 10 14) 3 7 11 15) 0 5 10 15) 1 6 11 12) 2 7 8 13) 3 4 9 14 := dbl_step L n
   have HD := Aside0.mk hdbl
   clear hdbl
   generalize dbl L n = D0 at HX HD
   go_wp2_with (fail)
   refine (rs_0 adx cx _ _ HX.out).mono ?_
   rintro e w20 ⟨ad0, c0, rfl, hx, hb⟩
   clear HX
   have HX := Aside0.mk hx
   have HY := Aside0.mk (HY.out.below hb)
   have HB := Aside0.mk (below_then HB.out HB.out.size hb)
   clear hx hb
   go_wp2_with (fail)
   refine (rs_1 ad0 c0 _ _ HX.out).mono ?_
   rintro e w21 ⟨ad1, c1, rfl, hx, hb⟩
   clear HX
   have HX := Aside0.mk hx
   have HY := Aside0.mk (HY.out.below hb)
   have HB := Aside0.mk (below_then HB.out HB.out.size hb)
   clear hx hb
   go_wp2_with (fail)
   refine (rs_2 ad1 c1 _ _ HX.out).mono ?_
   rintro e w22 ⟨ad2, c2, rfl, hx, hb⟩
   clear HX
   have HX := Aside0.mk hx
   have HY := Aside0.mk (HY.out.below hb)
   have HB := Aside0.mk (below_then HB.out HB.out.size hb)
   clear hx hb
   go_wp2_with (fail)
   refine (rs_3 ad2 c2 _ _ HX.out).mono ?_
   rintro e w23 ⟨ad3, c3, rfl, hx, hb⟩
   clear HX
   have HX := Aside0.mk hx
   have HY := Aside0.mk (HY.out.below hb)
   have HB := Aside0.mk (below_then HB.out HB.out.size hb)
   clear hx hb
   go_wp2_with (fail)
   refine (rs_4 ad3 c3 _ _ HX.out).mono ?_
   rintro e w24 ⟨ad4, c4, rfl, hx, hb⟩
   clear HX
   have HX := Aside0.mk hx
   have HY := Aside0.mk (HY.out.below hb)
   have HB := Aside0.mk (below_then HB.out HB.out.size hb)
   clear hx hb
   go_wp2_with (fail)
   refine (rs_5 ad4 c4 _ _ HX.out).mono ?_
   rintro e w25 ⟨ad5, c5, rfl, hx, hb⟩
   clear HX
   have HX := Aside0.mk hx
   have HY := Aside0.mk (HY.out.below hb)
   have HB := Aside0.mk (below_then HB.out HB.out.size hb)
   clear hx hb
   go_wp2_with (fail)
   refine (rs_6 ad5 c5 _ _ HX.out).mono ?_
   rintro e w26 ⟨ad6, c6, rfl, hx, hb⟩
   clear HX
   have HX := Aside0.mk hx
   have HY := Aside0.mk (HY.out.below hb)
   have HB := Aside0.mk (below_then HB.out HB.out.size hb)
   clear hx hb
   go_wp2_with (fail)
   refine (rs_7 ad6 c6 _ _ HX.out).mono ?_
   rintro e w27 ⟨ad7, c7, rfl, hx, hb⟩
   clear HX
   have HX := Aside0.mk hx
   have HY := Aside0.mk (HY.out.below hb)
   have HB := Aside0.mk (below_then HB.out HB.out.size hb)
   clear hx hb
   go_wp2
   refine ⟨⟨n + 1, ad7, c7, by omega, by go_num, rfl, ?_, HY, HB⟩, by simp [intOf]; omega⟩
   rw [HD.out]
   exact HX
  ·obtain rfl : n = 10 := by omega
   clear hlt hn
   rw [show ((10 : Nat) : Int) = 10 from rfl]
   have HSC := Aside0.mk (sumR_chaO L)
   have HDl := HX.out.len
   have HDs := HX.out.small
   generalize dbl L 10 = D at *
   have HDL := Aside0.mk HDl
   have HDS := Aside0.mk HDs
   clear HDl HDs
   generalize hW1 : wr = W1 at *
   clear hW1
   go_wp2_with (fail)
   go_loopw [12, 13] (fun v i wr => ∃ k : Nat, k ≤ 16 ∧ i = .int .i64 k ∧ Aside0 ((Kd.int .i64).R 3 wr W1.heap.size (fun _ => True) v (ints (sumR L D k))) ∧ Aside0 (Below W1.heap.size W1 wr)) (fun _ i _ => 16 - (intOf i).toNat)
   case atStart => exact ⟨0, by omega, rfl, ⟨Kd.R_nil _ _ _ _ _⟩, ⟨Below.refl _ _⟩⟩
   case round =>
    obtain ⟨i, hi, rfl, HO, HBL⟩ := hrel
    by_cases hlt : i < 16
    ·have kw := HY.out.cell i hlt
     have kx := HX.out.cell i hlt
     have hy := HW.out i
     have hxs := HDS.out i
     have hnext := sumR_succ L D i
     generalize L.getD i 0 = y at kw hy hnext
     generalize D.getD i 0 = x at kx hxs hnext
     have HN := Aside0.mk hnext
     have cw : wr.cell? (adw.add i) = some (.int .i64 (y : Int)) := pw_cell_below HBL.out kw
     have cx : wr.cell? (adx.add i) = some (.int .i64 (x : Int)) := pw_cell_below HBL.out kx
     have q16 : (i : Int) < 16 := by omega
     have j1 : wrap64 ((y : Int) + (x : Int)) = (y : Int) + (x : Int) := by unfold wrap64; omega
     clear hnext
     go_wp2_with (fail)
     refine start_ (n := 13) (S := fun w' => w'.cell? (adw.add i) = some (.int .i64 (y : Int)) ∧ w'.cell? (adx.add i) = some (.int .i64 (x : Int))) (ds := []) #[false, false, false, false, false, false, false, false, false, false, false, false, false] (by kernel_rfl) rfl rfl ⟨(show _ from cw), (show _ from cx)⟩ (fun hHeld => ?_)
     have HOd := Aside0.mk (Kd.R_drew HO.out)
     have HBd := Aside0.mk (below_drew HBL.out)
     have cwd : wr.drew.cell? (adw.add i) = some (.int .i64 (y : Int)) := cw
     have cxd : wr.drew.cell? (adx.add i) = some (.int .i64 (x : Int)) := cx
     generalize wr.drew = wd at HOd HBd cwd cxd hHeld ⊢
     refine pz_ 0 67 rfl rfl (by kernel_rfl) ?_
     refine pz_ 1 68 rfl rfl (by kernel_rfl) ?_
     refine pz_ 2 69 rfl rfl (by kernel_rfl) ?_
     refine pz_ 3 70 rfl rfl (by kernel_rfl) ?_
     refine pz_ 5 72 rfl rfl (by kernel_rfl) ?_
     refine pz_ 6 73 rfl rfl (by kernel_rfl) ?_
     refine pz_ 7 74 rfl rfl (by kernel_rfl) ?_
     refine take_ (i := 4) (N := some 71) (v := ?_) (a' := ?_) #[true, true, true, true, true, true, true, true, false, false, false, false, false] rfl rfl (by kernel_rfl) (fun _ _ _ h => h) (Or.inl ⟨by rfl, ?_⟩) hHeld ?_ ?_
     rotate_left
     ·rintro w' ⟨s0, s1⟩
      go_simp
      with_reducible rfl
     rotate_left
     ·simp only [Act.put, List.setIfInBounds_toArray, List.set_cons_zero, List.set_cons_succ, i64_w, i32_w]
      rfl
     refine take_ (i := 8) (N := some 75) (v := ?_) (a' := ?_) #[true, true, true, true, true, true, true, true, true, false, false, false, false] rfl rfl (by kernel_rfl) (fun _ _ _ h => h) (Or.inl ⟨by rfl, ?_⟩) hHeld ?_ ?_
     rotate_left
     ·rintro w' ⟨s0, s1⟩
      go_simp
      with_reducible rfl
     rotate_left
     ·simp only [Act.put, List.setIfInBounds_toArray, List.set_cons_zero, List.set_cons_succ, i64_w, i32_w]
      rfl
     refine pz_ 9 76 rfl rfl (by kernel_rfl) ?_
     refine one_ (i := 10) (N := some 77) #[true, true, true, true, true, true, true, true, true, true, true, false, false] rfl rfl (by kernel_rfl) (by decide) (fun K hK => ?_)
     refine value_ (w1 := ?_) (v := ?_) (by rfl) rfl ?_ ?_
     rotate_left 2
     ·go_simp
      constructor
      ·rfl
      ·rfl
     refine hK.out _ _ ⟨(pw_cell_below (below_alloc (Below.refl _ _) _) cwd), (pw_cell_below (below_alloc (Below.refl _ _) _) cxd)⟩ (fun hHeld => ?_)
     clear hK K
     refine norm_ sa_ ?_
     refine one_ (i := 11) (N := some 78) #[true, true, true, true, true, true, true, true, true, true, true, true, false] rfl rfl (by kernel_rfl) (by decide) (fun K hK => ?_)
     refine Kd.R_append_step (Kd.int .i64) (w0 := W1) W1.heap.size (by rfl) (.tmp 67) (.tmp 77) 116 3 (.int .i64 0) 8 rfl Tryz.underlying116 info3 rfl (by decide) (by omega) u12 (ints (sumR L D i)) ((y : Int) + (x : Int)) [.int .i64 ((y : Int) + (x : Int))] (fun _ => True) (fun _ => False) rfl rfl ?aP (fun _ hk => hk.elim) ?aF ?aO ?aB ?aS ?aL ?_
     (case aP => exact rfl)
     (case aF => exact (fun _ _ => trivial))
     (case aO => exact HOd.out)
     (case aB => exact HBd.out)
     (case aS => exact HBd.out.size)
     (case aL => (rw [ints_length, sumR_length]; omega))
     intro v1 w2 ho hb2 hg hat
     have hb2' : Below W1.heap.size W1 w2 := hb2
     refine hK.out _ _ ⟨(pw_cell_below hb2' (show W1.cell? _ = _ from kw)), (pw_cell_below hb2' (show W1.cell? _ = _ from kx))⟩ (fun hHeld => ?_)
     clear hK K
     refine norm_ sa_ ?_
     refine pz_ 12 12 rfl rfl (by kernel_rfl) ?_
     refine done_ (by kernel_rfl) ?_
     clear kw kx cw cx j1 hHeld cwd cxd
     have HO2 := Aside0.mk ho
     have HB3 := Aside0.mk hb2'
     clear ho hb2 hb2' hg hat
     go_wp2
     refine ⟨⟨i + 1, by omega, by go_num, ⟨?_⟩, HB3⟩, by simp [intOf]; omega⟩
     rw [HN.out, ints_append]
     exact HO2.out
    ·obtain rfl : i = 16 := by omega
     clear hlt hi
     rw [show ((16 : Nat) : Int) = 16 from rfl]
     obtain ⟨A, c, rfl⟩ := Kd.R_slice HO.out
     obtain ⟨e1, e2, e3⟩ := Kd.R_reads' HO.out
     have HE1 := Aside0.mk e1
     have hpl := fun k => sumR_small HW.out HDS.out k 16
     have hput := samphireref01_PutSmall.calls 17 A c (ints (sumR L D 16)) (txt (chaO L)) wr e3 (by rw [← e1]; exact e2) (by rw [← HSC.out]; exact rPutSmall_f (sumR L D 16) hpl (by rw [sumR_length]; decide) 17 (by rw [sumR_length]; decide))
     have HPUT := Aside0.mk hput
     clear e1 e2 e3 hput hpl
     go_wp2_with (fail)
     refine (HPUT.out).mono ?_
     rintro e w9 ⟨rfl, hb9⟩
     have HBE := Aside0.mk (below_then (below_then HB.out HB.out.size HBL.out) (Nat.le_trans HB.out.size HBL.out.size) hb9)
     clear hb9
     go_wp2
     go_ret2
     exact ⟨rfl, HBE.out⟩
set_option maxRecDepth 100000 in
theorem refBlock_no (a0 a1 : ByteArray) (a2 : Int) (w : World) (h : ¬ chaOK a0 a1 a2) :
  Calls Tryz.prog 111 #[.string a0, .string a1, .int .i64 a2] w fun e w' => e = .returned (.tuple #[.string ⟨#[]⟩, .int .i64 1]) ∧ Below w.heap.size w w' := by
 unfold chaOK at h
 by_cases h0 : a0.size = 32
 ·have t0 : ((a0.size : Int) != 32) = false := by rw [bne_eq_false_iff_eq]; omega
  by_cases h1 : a1.size = 12
  ·have t1 : ((a1.size : Int) != 12) = false := by rw [bne_eq_false_iff_eq]; omega
   by_cases h2 : a2 < 0
   ·have t2 : decide (a2 < 0) = true := decide_eq_true h2
    clear h h0 h1 h2
    go_enter Tryz.func111, Tryz.ntmps111
    go_wp2
    go_ret2
    exact ⟨rfl, Below.refl _ _⟩
   ·have t2 : decide (a2 < 0) = false := decide_eq_false h2
    have t3 : decide (4294967295 < a2) = true := decide_eq_true (by
     apply Classical.byContradiction
     intro hn
     exact h ⟨h0, h1, by omega, by omega⟩)
    clear h h0 h1 h2
    go_enter Tryz.func111, Tryz.ntmps111
    go_wp2
    go_ret2
    exact ⟨rfl, Below.refl _ _⟩
  ·have t1 : ((a1.size : Int) != 12) = true := by rw [bne_iff_ne]; omega
   clear h h0 h1
   go_enter Tryz.func111, Tryz.ntmps111
   go_wp2
   go_ret2
   exact ⟨rfl, Below.refl _ _⟩
 ·have t0 : ((a0.size : Int) != 32) = true := by rw [bne_iff_ne]; omega
  clear h h0
  go_enter Tryz.func111, Tryz.ntmps111
  go_wp2
  go_ret2
  exact ⟨rfl, Below.refl _ _⟩
theorem samphireref05_Block.calls (a0 : ByteArray) (a1 : ByteArray) (a2 : Int) (r1 : ByteArray) (r2 : Int) (w : World) (h : samphireref05_Block.f a0 a1 a2 = some (r1, r2)) :
  Calls Tryz.prog 111 #[.string a0, .string a1, .int .i64 a2] w fun e w' => e = .returned (.tuple #[.string r1, .int .i64 r2]) ∧ Below w.heap.size w w' := by
 unfold samphireref05_Block.f chacha_Block.f at h
 by_cases hc : chaOK a0 a1 a2
 ·rw [if_pos hc] at h
  simp only [Option.some.injEq, Prod.mk.injEq] at h
  obtain ⟨rfl, rfl⟩ := h
  obtain ⟨h0, h1, h2, h3⟩ := hc
  obtain ⟨m, rfl⟩ := Int.eq_ofNat_of_zero_le h2
  rw [Int.toNat_natCast]
  exact refBlock_yes a0 a1 m w h0 h1 (by omega)
 ·rw [if_neg hc] at h
  simp only [Option.some.injEq, Prod.mk.injEq] at h
  obtain ⟨rfl, rfl⟩ := h
  exact refBlock_no a0 a1 a2 w hc
end Go.Proofs.YtbkbganflnemeaaGreat.Pr
end

section
namespace Go.Proofs.YtbkbganflnemeaaGreat.Pr
open Go.RowKit Go.Proofs.YtbkbganflnemeaaGreatW.PrintWords Go.Proofs.YtbkbganflnemeaaGreatW.PrintLast Go.Proofs.YtbkbganflnemeaaGreatW.PrintMore
attribute [local go_sem] max2_int min2_int max_two min_two max_three min_three max_four min_four
def samphireref01_Xor.l0 : Nat → ByteArray → ByteArray → List Int → Int → Option (ByteArray × Int)
 | 0, _, _, _, _ => none
 | k + 1, x0, x1, x6, x7 => if x7 < (x0.size : Int) then (if 0 ≤ x7 then (if x7 < (x1.size : Int) then (if x6.length < 140737488355328 then (samphireref01_Xor.l0 k x0 x1 (x6 ++ [Go.bits .xor .u8 (bt x0 x7) (bt x1 x7)]) (wrap64 (x7 + 1))) else (none)) else (none)) else (none)) else (some (strOfNums x6, 0))
def samphireref01_Xor.f (k : Nat) (a0 : ByteArray) (a1 : ByteArray) : Option (ByteArray × Int) := if (a0.size : Int) = (a1.size : Int) then (samphireref01_Xor.l0 k a0 a1 ([] : List Int) 0) else (some ((⟨#[]⟩ : ByteArray), 1))
def samphireref01_Xor.T7 : Bool × List (List Nat × List Nat) := (true, [([], []), ([], []), ([], []), ([1, 2], [1, 2]), ([], []), ([], []), ([4, 5], [4, 5]), ([3, 6], [3, 6]), ([7], [7]), ([0, 8], [0, 8]), ([9, 9, 0, 1, 2, 3, 4, 5, 6, 7, 8, 9], [0, 9])])
def samphireref01_Xor.B7 : List Nat := [0, 0, 0, 6, 0, 0, 48, 126, 254, 511, 1023]
theorem samphireref01_Xor.tab7 : rtab .any (opsOf Tryz.f112 7) = samphireref01_Xor.T7 := by kernel_rfl
theorem samphireref01_Xor.bits7 : waitsOk samphireref01_Xor.T7.2 samphireref01_Xor.B7 = true := by kernel_rfl
set_option maxHeartbeats 8000000 in
set_option maxRecDepth 100000 in
theorem samphireref01_Xor.calls (k : Nat) (a0 : ByteArray) (a1 : ByteArray) (r1 : ByteArray) (r2 : Int) (w : World) (h : samphireref01_Xor.f k a0 a1 = some (r1, r2)) :
    Calls Tryz.prog 112 #[.string a0, .string a1] w fun e w' => e = .returned (.tuple #[.string r1, .int .i64 r2]) ∧ Below w.heap.size w w' := by
  have HB := Aside0.mk (Below.refl w.heap.size w); have H : (if (a0.size : Int) = (a1.size : Int) then (samphireref01_Xor.l0 k a0 a1 ([] : List Int) 0) else (some ((⟨#[]⟩ : ByteArray), 1))) = some (r1, r2) := h; clear h; by_cases c3 : (a0.size : Int) = (a1.size : Int)
  · rw [if_pos c3] at H; have c3b0 : ((a0.size : Int) == (a1.size : Int)) = true := beq_iff_eq.mpr c3; have c3b1 : ((a0.size : Int) != (a1.size : Int)) = false := bne_eq_false_iff_eq.mpr c3; have c3b2 : (a0.size == a1.size) = true := by first | simpa using c3 | (simp at c3 ⊢; omega)
    clear c3; have H' := Aside0.mk H; clear H; go_enter Tryz.func112, Tryz.ntmps112
    go_wp2; go_loopg [6, 7] k (fun kq v6 v7 w' => ∃ (x6_1 : List Int) (x7_1 : Int), v7 = .int .i64 x7_1 ∧ Aside0 (samphireref01_Xor.l0 kq a0 a1 x6_1 x7_1 = some (r1, r2)) ∧ Aside0 (kq ≤ k) ∧ Aside0 (Kd.R (Kd.int .u8) 5 w' w.heap.size (fun _ => True) v6 x6_1) ∧ Aside0 (Below w.heap.size w w'))
    case atStart => exact ⟨(([] : List Int)), (0), rz_, H', ⟨Nat.le_refl _⟩, ⟨by first | exact Kd.R_nil _ _ _ _ _ | exact Kd.N_nil _ _ _ _ _ | exact Kd.V_nil _ _ _ _ _ | exact Kd.Q_nil _ _ _ _ _ | exact Kd.S_nil _ _ _ _ _⟩, ⟨hb_⟩⟩
    case round =>
      clear H'; obtain ⟨x6_1, x7_1, rfl, HA, HK1, HO_6, HB⟩ := hrel; cases gk with
      | zero => exact absurd HA.out (by simp [samphireref01_Xor.l0])
      | succ k1 =>
        have H := HA.out; clear HA; simp only [samphireref01_Xor.l0] at H; by_cases c4 : x7_1 < (a0.size : Int)
        · rw [if_pos c4] at H; have c4b0 : decide (x7_1 < (a0.size : Int)) = true := decide_eq_true c4; clear c4; by_cases c5 : 0 ≤ x7_1
          · rw [if_pos c5] at H; have c5b0 : decide (0 ≤ x7_1) = true := decide_eq_true c5; clear c5; by_cases c7 : x7_1 < (a1.size : Int)
            · rw [if_pos c7] at H; have c7b0 : decide (x7_1 < (a1.size : Int)) = true := decide_eq_true c7; clear c7; by_cases c9 : x6_1.length < 140737488355328
              · rw [if_pos c9] at H; have LMc9 := Aside0.mk c9; clear c9; obtain ⟨y314, hy314⟩ : ∃ y_ : List Int, y_ = (x6_1 ++ [Go.bits .xor .u8 (bt a0 x7_1) (bt a1 x7_1)]) := ⟨_, rfl⟩; replace H : (samphireref01_Xor.l0 k1 a0 a1 y314 (wrap64 (x7_1 + 1))) = some (r1, r2) := by first | (rw [hy314]; with_reducible exact H) | (have H2_ := (Option.bind_some _ _).symm.trans H; rw [hy314]; with_reducible exact H2_) | (have H2_ := (Option.bind_some _ _).symm.trans H; with_reducible exact H2_) | with_reducible exact H | (rw [hy314]; exact H) | exact H
                have Ny314 := Aside0.mk hy314; clear hy314; have H' := Aside0.mk H; clear H; try go_wp2
                replace HO_6 := Aside0.mk (Kd.R_drew HO_6.out); replace HB := Aside0.mk (below_drew1 HB.out); have p6 : 0 ≤ (x7_1 : Int) := of_decide_eq_true as_'; have q6 : x7_1 < (a0.size : Int) := of_decide_eq_true as_'; have hx6 := bt_at a0 x7_1; replace p6 := eq_true p6; replace q6 := eq_true q6; have p8 : 0 ≤ (x7_1 : Int) := of_decide_eq_true as_'; have q8 : x7_1 < (a1.size : Int) := of_decide_eq_true as_'; have hx8 := bt_at a1 x7_1; replace p8 := eq_true p8; replace q8 := eq_true q8; refine start_ (n := 11) (S := fun w' => True) (ds := []) #[false, false, false, false, false, false, false, false, false, false, false] (by kernel_rfl) rfl rfl trivial (fun hHeld => ?_); refine with_tabW samphireref01_Xor.tab7 samphireref01_Xor.bits7 (fun HT_ HW_ => ?_); generalize wr.drew = w10 at HO_6 HB hHeld ⊢; refine pz_ 0 19 rfl rfl (any_of HT_.out (by kernel_rfl)) ?_; refine pz_ 1 20 rfl rfl (any_of HT_.out (by kernel_rfl)) ?_; refine pz_ 2 21 rfl rfl (any_of HT_.out (by kernel_rfl)) ?_; refine pz_ 4 23 rfl rfl (any_of HT_.out (by kernel_rfl)) ?_; refine pz_ 5 24 rfl rfl (any_of HT_.out (by kernel_rfl)) ?_; refine take_ (i := 3) (N := some 22) (v := ?_) (a' := ?_) #[true, true, true, true, true, true, false, false, false, false, false] rfl rfl (take_ofW HT_.out HW_.out (by kernel_rfl)) (fun _ _ _ h => h) (Or.inl ⟨by rfl, ?_⟩) hHeld ?_ ?_; rotate_left
                · intro w' _; go_simp
                  with_reducible rfl
                rotate_left
                · simp only [Act.put, List.setIfInBounds_toArray, List.set_cons_zero, List.set_cons_succ, i64_w, i32_w]; rfl
                refine take_ (i := 6) (N := some 25) (v := ?_) (a' := ?_) #[true, true, true, true, true, true, true, false, false, false, false] rfl rfl (take_ofW HT_.out HW_.out (by kernel_rfl)) (fun _ _ _ h => h) (Or.inl ⟨by rfl, ?_⟩) hHeld ?_ ?_; rotate_left
                · intro w' _; go_simp
                  with_reducible rfl
                rotate_left
                · simp only [Act.put, List.setIfInBounds_toArray, List.set_cons_zero, List.set_cons_succ, i64_w, i32_w]; rfl
                refine pz_ 7 26 rfl rfl (any_of HT_.out (by kernel_rfl)) ?_; refine one_ (i := 8) (N := some 27) #[true, true, true, true, true, true, true, true, true, false, false] rfl rfl (one_of HT_.out (by kernel_rfl)) (by decide) (fun K hK => ?_); refine value_ (w1 := ?_) (v := ?_) (by rfl) rfl ?_ ?_; rotate_left 2
                · go_simp
                  constructor
                  · rfl
                  · rfl
                refine hK.out _ _ trivial (fun hHeld => ?_); clear hK K; refine norm_ sa_ ?_; refine one_ (i := 9) (N := some 28) #[true, true, true, true, true, true, true, true, true, true, false] rfl rfl (one_of HT_.out (by kernel_rfl)) (by decide) (fun K hK => ?_); refine Kd.R_append_step (Kd.int .u8) (w0 := w) w.heap.size (by rfl) (.tmp 19) (.tmp 27) 68 5 (.int .u8 0) 1 rfl Tryz.underlying68 info5 rfl (by decide) (by omega) u6 x6_1 (Go.bits .xor .u8 (bt a0 x7_1) (bt a1 x7_1)) [.int .u8 (Go.bits .xor .u8 (bt a0 x7_1) (bt a1 x7_1))] (fun _ => True) (fun _ => False) rfl rfl ?aP (fun _ hk => hk.elim) ?aF ?aO ?aB ?aS ?aL ?_
                (case aP => exact rfl)
                (case aB => exact hb_)
                (case aF => exact (fun _ _ => trivial))
                (case aO => exact (ra_ HO_6.out))
                (case aS => exact (below_size hb_))
                (case aL => have := LMc9.out; omega)
                intro v315 w11 ho hb hg hat; rw [← Ny314.out] at ho; replace HB := Aside0.mk (hb); have HO316 := Aside0.mk (ho); clear HO_6 ho hb hg hat; refine hK.out _ _ trivial (fun hHeld => ?_); clear hK K; refine norm_ sa_ ?_; refine pz_ 10 6 rfl rfl (any_of HT_.out (by kernel_rfl)) ?_; refine done_ (done_of HT_.out (by kernel_rfl)) ?_; try go_wp2
                go_roundg k1
                case measure => have := HK1.out; omega
                case rel => exact ⟨(y314), (wrap64 (x7_1 + 1)), rz_, H', ⟨by have := HK1.out; omega⟩, ⟨ra_ HO316.out⟩, ⟨hb_⟩⟩
              · rw [if_neg c9] at H; exact absurd H (by simp)
            · rw [if_neg c7] at H; exact absurd H (by simp)
          · rw [if_neg c5] at H; exact absurd H (by simp)
        · rw [if_neg c4] at H; have c4b0 : decide (x7_1 < (a0.size : Int)) = false := decide_eq_false c4; clear c4; simp only [Option.some.injEq, Prod.mk.injEq] at H; obtain ⟨rfl, rfl⟩ := H; have hcv12 := own_string (P := Tryz.prog) Tryz.underlying68 Tryz.underlying5 Tryz.underlying9 (Kd.own_of_R HO_6.out); go_wp2; go_ret2
          exact ⟨ew_, hb_⟩
  · rw [if_neg c3] at H; have c3b0 : ((a0.size : Int) == (a1.size : Int)) = false := beq_eq_false_iff_ne.mpr c3; have c3b1 : ((a0.size : Int) != (a1.size : Int)) = true := bne_iff_ne.mpr c3; have c3b2 : (a0.size == a1.size) = false := by first | simpa using c3 | (simp at c3 ⊢; omega)
    simp only [Option.some.injEq, Prod.mk.injEq] at H; obtain ⟨rfl, rfl⟩ := H; go_enter Tryz.func112, Tryz.ntmps112
    go_wp2; go_ret2
    exact ⟨ew_, hb_⟩
end Go.Proofs.YtbkbganflnemeaaGreat.Pr
end

section
namespace Go.Proofs.YtbkbganflnemeaaGreat.Pr
open Go.RowKit Go.Proofs.YtbkbganflnemeaaGreatW.PrintWords Go.Proofs.YtbkbganflnemeaaGreatW.PrintLast Go.Proofs.YtbkbganflnemeaaGreatW.PrintMore
attribute [local go_sem] max2_int min2_int max_two min_two max_three min_three max_four min_four
mutual
def samphireref05_Stream.j0 : Nat → ByteArray → ByteArray → Int → ByteArray → Bool → Option (ByteArray × Int)
 | 0, _, _, _, _, _ => none
 | k + 1, x0, x1, x2, x3, x46 => if x46 = true then (some ((⟨#[]⟩ : ByteArray), 1)) else (samphireref05_Stream.l0 k x0 x1 x2 x3 ([] : List Int) 0)
def samphireref05_Stream.l0 : Nat → ByteArray → ByteArray → Int → ByteArray → List Int → Int → Option (ByteArray × Int)
 | 0, _, _, _, _, _, _ => none
 | k + 1, x0, x1, x2, x3, x10, x11 => if x11 < (x3.size : Int) then ((samphireref05_Block.f x0 x1 (wrap64 (x2 + (wrap64 (Int.tdiv x11 64))))).bind fun bt317 => (if 0 ≤ x11 then (if x11 ≤ (wrap64 (x11 + (mn 64 (wrap64 ((x3.size : Int) - x11))))) then (if (wrap64 (x11 + (mn 64 (wrap64 ((x3.size : Int) - x11))))) ≤ (x3.size : Int) then (if 0 ≤ (mn 64 (wrap64 ((x3.size : Int) - x11))) then (if (mn 64 (wrap64 ((x3.size : Int) - x11))) ≤ (bt317.1.size : Int) then ((samphireref01_Xor.f k (x3.extract (x11 : Int).toNat ((wrap64 (x11 + (mn 64 (wrap64 ((x3.size : Int) - x11))))) : Int).toNat) (bt317.1.extract 0 ((mn 64 (wrap64 ((x3.size : Int) - x11))) : Int).toNat)).bind fun bt319 => (if x10.length + bt319.1.size < 140737488355328 then (samphireref05_Stream.l0 k x0 x1 x2 x3 (x10 ++ bytesOf bt319.1) (wrap64 (x11 + 64))) else (none))) else (none)) else (none)) else (none)) else (none)) else (none))) else (some (strOfNums x10, 0))
end
def samphireref05_Stream.f (k : Nat) (a0 : ByteArray) (a1 : ByteArray) (a2 : Int) (a3 : ByteArray) : Option (ByteArray × Int) := if (a0.size : Int) = 32 then (if (a1.size : Int) = 12 then (if a2 < 0 then (samphireref05_Stream.j0 k a0 a1 a2 a3 true) else (if a2 > 4294967295 then (samphireref05_Stream.j0 k a0 a1 a2 a3 true) else (if (a3.size : Int) > 65536 then (samphireref05_Stream.j0 k a0 a1 a2 a3 true) else (samphireref05_Stream.j0 k a0 a1 a2 a3 (decide ((wrap64 (Int.tdiv (wrap64 ((a3.size : Int) + 63)) 64)) > (wrap64 (4294967296 - a2)))))))) else (samphireref05_Stream.j0 k a0 a1 a2 a3 true)) else (samphireref05_Stream.j0 k a0 a1 a2 a3 true)
def samphireref05_Stream.T9 : Bool × List (List Nat × List Nat) := (true, [([], []), ([], []), ([], []), ([], []), ([2, 3], [2, 3]), ([0, 1, 4], [0, 1, 4]), ([], []), ([], []), ([6, 7], [6, 7]), ([5, 8], [5, 8]), ([9], [9]), ([10], [10]), ([10], [10]), ([11, 9, 0, 1, 2, 3, 4, 5, 6, 7, 8, 9, 10, 11], [11]), ([12, 13, 0, 1, 2, 3, 4, 5, 6, 7, 8, 9, 10, 11, 12, 13], [12])])
def samphireref05_Stream.B9 : List Nat := [0, 0, 0, 0, 12, 31, 0, 0, 192, 511, 1023, 2047, 2047, 4095, 16383]
theorem samphireref05_Stream.tab9 : rtab .any (opsOf Tryz.f71 9) = samphireref05_Stream.T9 := by kernel_rfl
theorem samphireref05_Stream.bits9 : waitsOk samphireref05_Stream.T9.2 samphireref05_Stream.B9 = true := by kernel_rfl
set_option maxHeartbeats 8000000 in
set_option maxRecDepth 100000 in
theorem samphireref05_Stream.calls (k : Nat) (a0 : ByteArray) (a1 : ByteArray) (a2 : Int) (a3 : ByteArray) (r1 : ByteArray) (r2 : Int) (w : World) (h : samphireref05_Stream.f k a0 a1 a2 a3 = some (r1, r2)) :
    Calls Tryz.prog 71 #[.string a0, .string a1, .int .i64 a2, .string a3] w fun e w' => e = .returned (.tuple #[.string r1, .int .i64 r2]) ∧ Below w.heap.size w w' := by
  have HB := Aside0.mk (Below.refl w.heap.size w); have H : (if (a0.size : Int) = 32 then (if (a1.size : Int) = 12 then (if a2 < 0 then (samphireref05_Stream.j0 k a0 a1 a2 a3 true) else (if a2 > 4294967295 then (samphireref05_Stream.j0 k a0 a1 a2 a3 true) else (if (a3.size : Int) > 65536 then (samphireref05_Stream.j0 k a0 a1 a2 a3 true) else (samphireref05_Stream.j0 k a0 a1 a2 a3 (decide ((wrap64 (Int.tdiv (wrap64 ((a3.size : Int) + 63)) 64)) > (wrap64 (4294967296 - a2)))))))) else (samphireref05_Stream.j0 k a0 a1 a2 a3 true)) else (samphireref05_Stream.j0 k a0 a1 a2 a3 true)) = some (r1, r2) := h; clear h; have HC5 := Aside0.mk H; clear H; go_enter Tryz.func71, Tryz.ntmps71
  go_upto_region 1 with (fail)
  go_cut [46] (fun v46 wc => ∃ (kq : Nat) (x46_4 : Bool), v46 = .bool x46_4 ∧ Aside0 (samphireref05_Stream.j0 kq a0 a1 a2 a3 x46_4 = some (r1, r2)) ∧ Aside0 (kq ≤ k) ∧ Aside0 (Below w.heap.size w wc))
  case first =>
    have H := HC5.out; clear HC5; by_cases c6 : (a0.size : Int) = 32
    · rw [if_pos c6] at H; have c6b0 : ((a0.size : Int) == 32) = true := beq_iff_eq.mpr c6; have c6b1 : ((a0.size : Int) != 32) = false := bne_eq_false_iff_eq.mpr c6; clear c6
      (first | rw [c6b0] | (simp only [i64_w, i32_w]; rw [c6b0]) | skip)
      by_cases c7 : (a1.size : Int) = 12
      · rw [if_pos c7] at H; have c7b0 : ((a1.size : Int) == 12) = true := beq_iff_eq.mpr c7; have c7b1 : ((a1.size : Int) != 12) = false := bne_eq_false_iff_eq.mpr c7; clear c7; by_cases c8 : a2 < 0
        · rw [if_pos c8] at H; have c8b0 : decide (a2 < 0) = true := decide_eq_true c8; clear c8; have H' := Aside0.mk H; clear H; go_wp2; go_meet
          case rel => exact ⟨_, (true), rz_, H', ⟨by first | omega | exact Nat.le_refl _⟩, ⟨hb_⟩⟩
        · rw [if_neg c8] at H; have c8b0 : decide (a2 < 0) = false := decide_eq_false c8; clear c8; by_cases c9 : a2 > 4294967295
          · rw [if_pos c9] at H; have c9b0 : decide (4294967295 < a2) = true := decide_eq_true c9; clear c9; have H' := Aside0.mk H; clear H; go_wp2; go_meet
            case rel => exact ⟨_, (true), rz_, H', ⟨by first | omega | exact Nat.le_refl _⟩, ⟨hb_⟩⟩
          · rw [if_neg c9] at H; have c9b0 : decide (4294967295 < a2) = false := decide_eq_false c9; clear c9; by_cases c10 : (a3.size : Int) > 65536
            · rw [if_pos c10] at H; have c10b0 : decide (65536 < (a3.size : Int)) = true := decide_eq_true c10; have c10b1 : decide (65536 < a3.size) = true := decide_eq_true (by omega); clear c10; have H' := Aside0.mk H; clear H; go_wp2; go_meet
              case rel => exact ⟨_, (true), rz_, H', ⟨by first | omega | exact Nat.le_refl _⟩, ⟨hb_⟩⟩
            · rw [if_neg c10] at H; have c10b0 : decide (65536 < (a3.size : Int)) = false := decide_eq_false c10; have c10b1 : decide (65536 < a3.size) = false := decide_eq_false (by omega); clear c10; have H' := Aside0.mk H; clear H; go_wp2; go_meet
              case rel => exact ⟨_, (decide ((wrap64 (Int.tdiv (wrap64 ((a3.size : Int) + 63)) 64)) > (wrap64 (4294967296 - a2)))), rz_, H', ⟨by first | omega | exact Nat.le_refl _⟩, ⟨hb_⟩⟩
      · rw [if_neg c7] at H; have c7b0 : ((a1.size : Int) == 12) = false := beq_eq_false_iff_ne.mpr c7; have c7b1 : ((a1.size : Int) != 12) = true := bne_iff_ne.mpr c7; have H' := Aside0.mk H; clear H; go_wp2; go_meet
        case rel => exact ⟨_, (true), rz_, H', ⟨by first | omega | exact Nat.le_refl _⟩, ⟨hb_⟩⟩
    · rw [if_neg c6] at H; have c6b0 : ((a0.size : Int) == 32) = false := beq_eq_false_iff_ne.mpr c6; have c6b1 : ((a0.size : Int) != 32) = true := bne_iff_ne.mpr c6
      (first | rw [c6b0] | (simp only [i64_w, i32_w]; rw [c6b0]) | skip)
      have H' := Aside0.mk H; clear H; go_wp2; go_meet
      case rel => exact ⟨_, (true), rz_, H', ⟨by first | omega | exact Nat.le_refl _⟩, ⟨hb_⟩⟩
  case rest =>
    clear HC5; obtain ⟨kq, x46_4, rfl, HA, HJ4, HB⟩ := hcut; cases kq with
    | zero => exact absurd HA.out (by simp [samphireref05_Stream.j0])
    | succ kj4 =>
      have H := HA.out; clear HA; simp only [samphireref05_Stream.j0] at H; by_cases c11 : x46_4 = true
      · subst c11; have H1 : (some ((⟨#[]⟩ : ByteArray), 1)) = some (r1, r2) := by rw [if_pos rfl] at H; exact H
        clear H; have H := H1; clear H1; simp only [Option.some.injEq, Prod.mk.injEq] at H; obtain ⟨rfl, rfl⟩ := H; go_wp2; go_ret2
        exact ⟨ew_, hb_⟩
      · replace c11 := Bool.eq_false_iff.mpr c11; subst c11; have H1 : (samphireref05_Stream.l0 kj4 a0 a1 a2 a3 ([] : List Int) 0) = some (r1, r2) := by rw [if_neg (show ¬ (false = true) by decide)] at H; exact H
        clear H; have H := H1; clear H1; have H' := Aside0.mk H; clear H; go_wp2; go_loopg [10, 11] kj4 (fun kq v10 v11 w' => ∃ (x10_2 : List Int) (x11_2 : Int), v11 = .int .i64 x11_2 ∧ Aside0 (samphireref05_Stream.l0 kq a0 a1 a2 a3 x10_2 x11_2 = some (r1, r2)) ∧ Aside0 (kq ≤ kj4) ∧ Aside0 (Kd.R (Kd.int .u8) 5 w' w.heap.size (fun _ => True) v10 x10_2) ∧ Aside0 (Below w.heap.size w w'))
        case atStart => exact ⟨(([] : List Int)), (0), rz_, H', ⟨Nat.le_refl _⟩, ⟨by first | exact Kd.R_nil _ _ _ _ _ | exact Kd.N_nil _ _ _ _ _ | exact Kd.V_nil _ _ _ _ _ | exact Kd.Q_nil _ _ _ _ _ | exact Kd.S_nil _ _ _ _ _⟩, ⟨hb_⟩⟩
        case round =>
          clear H'; obtain ⟨x10_2, x11_2, rfl, HA, HK2, HO_10, HB⟩ := hrel; cases gk with
          | zero => exact absurd HA.out (by simp [samphireref05_Stream.l0])
          | succ k2 =>
            have H := HA.out; clear HA; simp only [samphireref05_Stream.l0] at H; by_cases c12 : x11_2 < (a3.size : Int)
            · rw [if_pos c12] at H; have c12b0 : decide (x11_2 < (a3.size : Int)) = true := decide_eq_true c12; clear c12; replace H := Option.bind_eq_some_iff.mp H; obtain ⟨⟨t317, t318⟩, A130, H⟩ := H; try dsimp only at H
              have A13 := Aside0.mk A130; clear A130; obtain ⟨ji14, hji14⟩ : ∃ j_ : Int, (mn 64 (wrap64 ((a3.size : Int) - x11_2))) = j_ := ⟨_, rfl⟩; replace H : (if 0 ≤ x11_2 then (if x11_2 ≤ (wrap64 (x11_2 + (ji14))) then (if (wrap64 (x11_2 + (ji14))) ≤ (a3.size : Int) then (if 0 ≤ (ji14) then (if (ji14) ≤ (t317.size : Int) then ((samphireref01_Xor.f k2 (a3.extract (x11_2 : Int).toNat ((wrap64 (x11_2 + (ji14))) : Int).toNat) (t317.extract 0 ((ji14) : Int).toNat)).bind fun bt319 => (if x10_2.length + bt319.1.size < 140737488355328 then (samphireref05_Stream.l0 k2 a0 a1 a2 a3 (x10_2 ++ bytesOf bt319.1) (wrap64 (x11_2 + 64))) else (none))) else (none)) else (none)) else (none)) else (none)) else (none)) = some (r1, r2) := by first | (rw [hji14] at H; exact H) | (simp only [hji14] at H ⊢; exact H)
              (try rw [hji14] at A13)
              have hji14_ : (if (wrap64 ((a3.size : Int) - x11_2)) < 64 then (wrap64 ((a3.size : Int) - x11_2)) else 64) = ji14 := hji14; by_cases c15 : 0 ≤ x11_2
              · rw [if_pos c15] at H; have c15b0 := eq_true c15; have c15b1 : decide (0 ≤ x11_2) = true := decide_eq_true c15; clear c15; by_cases c16 : x11_2 ≤ (wrap64 (x11_2 + (ji14)))
                · rw [if_pos c16] at H; have c16b0 := eq_true c16; have c16b1 : decide (x11_2 ≤ (wrap64 (x11_2 + (ji14)))) = true := decide_eq_true c16; by_cases c17 : (wrap64 (x11_2 + (ji14))) ≤ (a3.size : Int)
                  · rw [if_pos c17] at H; have c17b0 := eq_true c17; have c17b1 : decide ((wrap64 (x11_2 + (ji14))) ≤ (a3.size : Int)) = true := decide_eq_true c17; by_cases c18 : 0 ≤ (ji14)
                    · rw [if_pos c18] at H; have c18b0 := eq_true c18; have c18b1 : decide (0 ≤ (ji14)) = true := decide_eq_true c18; clear c18; by_cases c19 : (ji14) ≤ (t317.size : Int)
                      · rw [if_pos c19] at H; have c19b0 := eq_true c19; have c19b1 : decide ((ji14) ≤ (t317.size : Int)) = true := decide_eq_true c19; clear c19; replace H := Option.bind_eq_some_iff.mp H; obtain ⟨⟨t319, t320⟩, A200, H⟩ := H; try dsimp only at H
                        have A20 := Aside0.mk A200; clear A200; by_cases c21 : x10_2.length + t319.size < 140737488355328
                        · rw [if_pos c21] at H; have LMc21 := Aside0.mk c21; clear c21; obtain ⟨y321, hy321⟩ : ∃ y_ : List Int, y_ = (x10_2 ++ bytesOf t319) := ⟨_, rfl⟩; replace H : (samphireref05_Stream.l0 k2 a0 a1 a2 a3 y321 (wrap64 (x11_2 + 64))) = some (r1, r2) := by first | (rw [hy321]; with_reducible exact H) | (have H2_ := (Option.bind_some _ _).symm.trans H; rw [hy321]; with_reducible exact H2_) | (have H2_ := (Option.bind_some _ _).symm.trans H; with_reducible exact H2_) | with_reducible exact H | (rw [hy321]; exact H) | exact H
                          have Ny321 := Aside0.mk hy321; clear hy321; have H' := Aside0.mk H; clear H; try go_wp2_with (first | ((with_reducible refine gate_callee (f := 111) rfl ?_); refine gl_ 60 Tryz.func111 #[.string a0, .string a1, .int .i64 (wrap64 (a2 + (wrap64 (Int.tdiv x11_2 64))))] ?_; (with_reducible refine (samphireref05_Block.calls a0 a1 (wrap64 (a2 + (wrap64 (Int.tdiv x11_2 64)))) t317 t318 _ A13.out).mono ?_); rintro e w22 ⟨rfl, hb⟩; refine ⟨_, rfl, ?_⟩; replace HO_10 := Aside0.mk (Kd.R_below (ra_ HO_10.out) hb); replace HB := Aside0.mk (below_step hb_ hb)))
                          replace HO_10 := Aside0.mk (Kd.R_drew HO_10.out); replace HB := Aside0.mk (below_drew1 HB.out); refine start_ (n := 15) (S := fun w' => True) (ds := []) #[false, false, false, false, false, false, false, false, false, false, false, false, false, false, false] (by kernel_rfl) rfl rfl trivial (fun hHeld => ?_); refine with_tabW samphireref05_Stream.tab9 samphireref05_Stream.bits9 (fun HT_ HW_ => ?_); generalize w22.drew = w23 at HO_10 HB hHeld ⊢; refine pz_ 0 69 rfl rfl (any_of HT_.out (by kernel_rfl)) ?_; refine pz_ 1 70 rfl rfl (any_of HT_.out (by kernel_rfl)) ?_; refine pz_ 2 71 rfl rfl (any_of HT_.out (by kernel_rfl)) ?_; refine pz_ 3 72 rfl rfl (any_of HT_.out (by kernel_rfl)) ?_; refine pz_ 4 73 rfl rfl (any_of HT_.out (by kernel_rfl)) ?_; refine pz_ 5 74 rfl rfl (any_of HT_.out (by kernel_rfl)) ?_; refine pz_ 6 75 rfl rfl (any_of HT_.out (by kernel_rfl)) ?_; refine pz_ 7 76 rfl rfl (any_of HT_.out (by kernel_rfl)) ?_; refine pz_ 8 77 rfl rfl (any_of HT_.out (by kernel_rfl)) ?_; refine one_ (i := 9) (N := some 78) #[true, true, true, true, true, true, true, true, true, true, false, false, false, false, false] rfl rfl (one_of HT_.out (by kernel_rfl)) (by decide) (fun K hK => ?_); refine goes_ Tryz.func112 (by kernel_rfl) rfl #[.string (a3.extract (x11_2 : Int).toNat ((wrap64 (x11_2 + (ji14))) : Int).toNat), .string (t317.extract 0 ((ji14) : Int).toNat)] (by rfl) rfl rfl (by (try simp only [List.map_toArray, List.map_cons, List.map_nil]); first | done | (simp only [hji14]; rfl) | rfl | (simp only [List.length_drop, List.length_take]; rfl)) ?_; with_reducible refine (samphireref01_Xor.calls k2 (a3.extract (x11_2 : Int).toNat ((wrap64 (x11_2 + (ji14))) : Int).toNat) (t317.extract 0 ((ji14) : Int).toNat) t319 t320 _ A20.out).mono ?_
                          rintro e w24 ⟨rfl, hb⟩; refine ⟨_, rfl, ?_⟩; replace HO_10 := Aside0.mk (Kd.R_below (ra_ HO_10.out) hb); replace HB := Aside0.mk (below_step hb_ hb); refine hK.out _ _ trivial (fun hHeld => ?_); clear hK K; refine norm_ sa_ ?_; refine pz_ 10 68 rfl rfl (any_of HT_.out (by kernel_rfl)) ?_; refine pz_ 11 79 rfl rfl (any_of HT_.out (by kernel_rfl)) ?_; refine pz_ 12 80 rfl rfl (any_of HT_.out (by kernel_rfl)) ?_; refine pz_ 13 15 rfl rfl (any_of HT_.out (by kernel_rfl)) ?_; refine pz_ 14 16 rfl rfl (any_of HT_.out (by kernel_rfl)) ?_; refine done_ (done_of HT_.out (by kernel_rfl)) ?_; try go_wp2_with (first | (at_builtin; refine print_append_str (w0 := w) w.heap.size rfl (.tmp 81) _ 68 9 5 rfl Tryz.underlying68 Tryz.underlying9 info5 u10 x10_2 t319 rfl rfl ?aO ?aB ?aS ?aL ?_; (case aB => exact hb_); (case aO => exact (Kd.own_of_R (ra_ HO_10.out))); (case aS => exact (below_size hb_)); (case aL => have := LMc21.out; omega); intro v322 w25 ho0 hb hg; have ho := Kd.R_of_own (h1 := fun _ => rfl) (ok := fun _ => True) ho0 (fun _ _ => trivial); clear ho0; have hat := True.intro; rw [← Ny321.out] at ho; change Kd.R (Kd.int .u8) 5 w25 w.heap.size (fun _ => True) v322 y321 at ho; replace HB := Aside0.mk (hb); have HO323 := Aside0.mk (ho); clear HO_10; clear ho hb hg hat))
                          go_roundg k2
                          case measure => have := HJ4.out; have := HK2.out; omega
                          case rel => exact ⟨(y321), (wrap64 (x11_2 + 64)), rz_, H', ⟨by have := HJ4.out; have := HK2.out; omega⟩, ⟨ra_ HO323.out⟩, ⟨hb_⟩⟩
                        · rw [if_neg c21] at H; exact absurd H (by simp)
                      · rw [if_neg c19] at H; exact absurd H (by simp)
                    · rw [if_neg c18] at H; exact absurd H (by simp)
                  · rw [if_neg c17] at H; exact absurd H (by simp)
                · rw [if_neg c16] at H; exact absurd H (by simp)
              · rw [if_neg c15] at H; exact absurd H (by simp)
            · rw [if_neg c12] at H; have c12b0 : decide (x11_2 < (a3.size : Int)) = false := decide_eq_false c12; clear c12; simp only [Option.some.injEq, Prod.mk.injEq] at H; obtain ⟨rfl, rfl⟩ := H; have hcv26 := own_string (P := Tryz.prog) Tryz.underlying68 Tryz.underlying5 Tryz.underlying9 (Kd.own_of_R HO_10.out); go_wp2; go_ret2
              exact ⟨ew_, hb_⟩
end Go.Proofs.YtbkbganflnemeaaGreat.Pr
end

section
namespace Go.Proofs.YtbkbganflnemeaaGreat.Pr
open Go.RowKit Go.Proofs.YtbkbganflnemeaaGreatW.PrintWords Go.Proofs.YtbkbganflnemeaaGreatW.PrintLast Go.Proofs.YtbkbganflnemeaaGreatW.PrintMore
attribute [local go_sem] max2_int min2_int max_two min_two max_three min_three max_four min_four
def samphireref07_may.f (a0 : ByteArray) (a1 : ByteArray) (a2 : Int) (a3 : Int) : Option (Bool) := if (a0.size : Int) = 32 then (if (a1.size : Int) = 12 then (if a2 ≤ 32768 then (some (decide (a3 ≤ (wrap64 (32768 - a2))))) else (some false)) else (some false)) else (some false)
set_option maxHeartbeats 8000000 in
set_option maxRecDepth 100000 in
theorem samphireref07_may.calls (a0 : ByteArray) (a1 : ByteArray) (a2 : Int) (a3 : Int) (r : Bool) (w : World) (h : samphireref07_may.f a0 a1 a2 a3 = some r) :
  Calls Tryz.prog 70 #[.string a0, .string a1, .int .i64 a2, .int .i64 a3] w fun e w' => e = .returned (.bool r) ∧ Drawn0 w w' := by
 have H : (if (a0.size : Int) = 32 then (if (a1.size : Int) = 12 then (if a2 ≤ 32768 then (some (decide (a3 ≤ (wrap64 (32768 - a2))))) else (some false)) else (some false)) else (some false)) = some r := h; clear h; by_cases c5 : (a0.size : Int) = 32
 ·rw [if_pos c5] at H; have c5b0 : ((a0.size : Int) == 32) = true := beq_iff_eq.mpr c5; have c5b1 : ((a0.size : Int) != 32) = false := bne_eq_false_iff_eq.mpr c5; clear c5; by_cases c6 : (a1.size : Int) = 12
  ·rw [if_pos c6] at H; have c6b0 : ((a1.size : Int) == 12) = true := beq_iff_eq.mpr c6; have c6b1 : ((a1.size : Int) != 12) = false := bne_eq_false_iff_eq.mpr c6; clear c6; by_cases c7 : a2 ≤ 32768
   ·rw [if_pos c7] at H; have c7b0 : decide (a2 ≤ 32768) = true := decide_eq_true c7; clear c7; obtain rfl := Option.some.inj H; go_enter Tryz.func70, Tryz.ntmps70
    go_wp2; go_ret
    exact ⟨rz_, dz_⟩
   ·rw [if_neg c7] at H; have c7b0 : decide (a2 ≤ 32768) = false := decide_eq_false c7; clear c7; obtain rfl := Option.some.inj H; go_enter Tryz.func70, Tryz.ntmps70
    go_wp2; go_ret
    exact ⟨rz_, dz_⟩
  ·rw [if_neg c6] at H; have c6b0 : ((a1.size : Int) == 12) = false := beq_eq_false_iff_ne.mpr c6; have c6b1 : ((a1.size : Int) != 12) = true := bne_iff_ne.mpr c6; obtain rfl := Option.some.inj H; go_enter Tryz.func70, Tryz.ntmps70
   go_wp2; go_ret
   exact ⟨rz_, dz_⟩
 ·rw [if_neg c5] at H; have c5b0 : ((a0.size : Int) == 32) = false := beq_eq_false_iff_ne.mpr c5; have c5b1 : ((a0.size : Int) != 32) = true := bne_iff_ne.mpr c5; obtain rfl := Option.some.inj H; go_enter Tryz.func70, Tryz.ntmps70
  go_wp2; go_ret
  exact ⟨rz_, dz_⟩
def samphireref07_filled.l0 : Nat → ByteArray → Option (ByteArray)
 | 0, _ => none
 | k + 1, x0 => if ((x0.size : Int) % 16) = 0 then (some x0) else (if x0.size + 1 ≤ 9223372036854775807 then (samphireref07_filled.l0 k (x0 ++ (⟨#[0]⟩ : ByteArray))) else (none))
def samphireref07_filled.f (k : Nat) (a0 : ByteArray) : Option (ByteArray) := samphireref07_filled.l0 k a0
set_option maxHeartbeats 8000000 in
set_option maxRecDepth 100000 in
theorem samphireref07_filled.calls (k : Nat) (a0 : ByteArray) (r : ByteArray) (w : World) (h : samphireref07_filled.f k a0 = some r) :
    Calls Tryz.prog 114 #[.string a0] w fun e w' => e = .returned (.string r) ∧ Drawn0 w w' := by
  have H : (samphireref07_filled.l0 k a0) = some r := h; clear h; have H' := Aside0.mk H; clear H; go_enter Tryz.func114, Tryz.ntmps114
  go_wp2; go_loopg [0] k (fun kq v0 w' => ∃ (x0_1 : ByteArray), v0 = .string x0_1 ∧ Aside0 (samphireref07_filled.l0 kq x0_1 = some r) ∧ Aside0 (kq ≤ k) ∧ Drawn0 w w')
  case atStart => exact ⟨(a0), rz_, H', ⟨Nat.le_refl _⟩, dz_⟩
  case round =>
    clear H'; obtain ⟨x0_1, rfl, HA, HK1, ⟨m1, rfl⟩⟩ := hrel; cases gk with
    | zero => exact absurd HA.out (by simp [samphireref07_filled.l0])
    | succ k1 =>
      have H := HA.out; clear HA; simp only [samphireref07_filled.l0] at H; by_cases c2 : ((x0_1.size : Int) % 16) = 0
      · rw [if_pos c2] at H; have c2b0 : (((x0_1.size : Int) % 16) == 0) = true := beq_iff_eq.mpr c2; have c2b1 : (((x0_1.size : Int) % 16) != 0) = false := bne_eq_false_iff_eq.mpr c2; clear c2; obtain rfl := Option.some.inj H; go_wp2; go_ret
        exact ⟨rz_, dz_⟩
      · rw [if_neg c2] at H; have c2b0 : (((x0_1.size : Int) % 16) == 0) = false := beq_eq_false_iff_ne.mpr c2; have c2b1 : (((x0_1.size : Int) % 16) != 0) = true := bne_iff_ne.mpr c2; by_cases c3 : x0_1.size + 1 ≤ 9223372036854775807
        · rw [if_pos c3] at H; have c3b0 := eq_true c3; have c3b1 : decide (x0_1.size + 1 ≤ 9223372036854775807) = true := decide_eq_true c3; try have c3b2 : (9223372036854775807 < x0_1.size + 1) = False := eq_false (Nat.not_lt.2 c3)
          have H' := Aside0.mk H; clear H; go_wp2; go_roundg k1
          case measure => have := HK1.out; omega
          case rel => exact ⟨(x0_1 ++ (⟨#[0]⟩ : ByteArray)), rz_, H', ⟨by have := HK1.out; omega⟩, dz_⟩
        · rw [if_neg c3] at H; exact absurd H (by simp)
def samphireref07_Tag.f (k : Nat) (a0 : ByteArray) (a1 : ByteArray) (a2 : ByteArray) (a3 : ByteArray) : Option (ByteArray) := (samphireref05_Block.f a0 a1 0).bind fun bt444 => (if (bt444.1.size : Int) = 64 then (if 0 ≤ 32 then (if 32 ≤ (bt444.1.size : Int) then ((samphireref07_filled.f k a2).bind fun t446 => ((samphireref07_filled.f k a3).bind fun t447 => (if t446.size + t447.size ≤ 9223372036854775807 then ((samphireref01_PutSmall.f k (([(a2.size : Int), 0, (a3.size : Int), 0] : List Int))).bind fun t451 => (if (t446 ++ t447).size + t451.size ≤ 9223372036854775807 then ((samphireref06_Mac.f k (bt444.1.extract 0 32) ((t446 ++ t447) ++ t451)).bind fun bt452 => (some bt452.1)) else (none))) else (none)))) else (none)) else (none)) else (some (⟨#[]⟩ : ByteArray)))
def samphireref07_Tag.T4 : Bool × List (List Nat × List Nat) := (true, [([], []), ([0], [0]), ([], []), ([2], [2]), ([], []), ([4, 3], [4]), ([3, 5], [3, 5]), ([], []), ([7], [7]), ([], []), ([9], [9]), ([8, 10], [8, 10]), ([11, 5], [11]), ([6, 12], [6, 12]), ([1, 13, 12], [1, 13]), ([14], [14]), ([15], [15]), ([15], [15]), ([16, 14, 0, 1, 2, 3, 4, 5, 6, 7, 8, 9, 10, 11, 12, 13, 14, 15, 16], [16]), ([17, 18, 0, 1, 2, 3, 4, 5, 6, 7, 8, 9, 10, 11, 12, 13, 14, 15, 16, 17, 18], [17])])
def samphireref07_Tag.B4 : List Nat := [0, 1, 0, 4, 0, 28, 60, 0, 128, 0, 512, 1920, 4028, 8188, 16383, 32767, 65535, 65535, 131071, 524287]
theorem samphireref07_Tag.tab4 : rtab .any (opsOf Tryz.f72 4) = samphireref07_Tag.T4 := by kernel_rfl
theorem samphireref07_Tag.bits4 : waitsOk samphireref07_Tag.T4.2 samphireref07_Tag.B4 = true := by kernel_rfl
set_option maxHeartbeats 8000000 in
set_option maxRecDepth 100000 in
theorem samphireref07_Tag.calls (k : Nat) (a0 : ByteArray) (a1 : ByteArray) (a2 : ByteArray) (a3 : ByteArray) (r : ByteArray) (w : World) (h : samphireref07_Tag.f k a0 a1 a2 a3 = some r) :
  Calls Tryz.prog 72 #[.string a0, .string a1, .string a2, .string a3] w fun e w' => e = .returned (.string r) ∧ Below w.heap.size w w' := by
 have HB := Aside0.mk (Below.refl w.heap.size w); have H : ((samphireref05_Block.f a0 a1 0).bind fun bt444 => (if (bt444.1.size : Int) = 64 then (if 0 ≤ 32 then (if 32 ≤ (bt444.1.size : Int) then ((samphireref07_filled.f k a2).bind fun t446 => ((samphireref07_filled.f k a3).bind fun t447 => (if t446.size + t447.size ≤ 9223372036854775807 then ((samphireref01_PutSmall.f k (([(a2.size : Int), 0, (a3.size : Int), 0] : List Int))).bind fun t451 => (if (t446 ++ t447).size + t451.size ≤ 9223372036854775807 then ((samphireref06_Mac.f k (bt444.1.extract 0 32) ((t446 ++ t447) ++ t451)).bind fun bt452 => (some bt452.1)) else (none))) else (none)))) else (none)) else (none)) else (some (⟨#[]⟩ : ByteArray)))) = some r := h; clear h; replace H := Option.bind_eq_some_iff.mp H; obtain ⟨⟨t444, t445⟩, A50, H⟩ := H; try dsimp only at H
 have A5 := Aside0.mk A50; clear A50; by_cases c6 : (t444.size : Int) = 64
 ·rw [if_pos c6] at H; have c6b0 : ((t444.size : Int) == 64) = true := beq_iff_eq.mpr c6; have c6b1 : ((t444.size : Int) != 64) = false := bne_eq_false_iff_eq.mpr c6; clear c6; by_cases c7 : 0 ≤ 32
  ·rw [if_pos c7] at H; have c7b0 := eq_true c7; have c7b1 : decide (0 ≤ 32) = true := decide_eq_true c7; clear c7; by_cases c8 : 32 ≤ (t444.size : Int)
   ·rw [if_pos c8] at H; have c8b0 := eq_true c8; have c8b1 : decide (32 ≤ (t444.size : Int)) = true := decide_eq_true c8; clear c8; replace H := Option.bind_eq_some_iff.mp H; obtain ⟨t446, A90, H⟩ := H; have A9 := Aside0.mk A90; clear A90; replace H := Option.bind_eq_some_iff.mp H; obtain ⟨t447, A100, H⟩ := H; have A10 := Aside0.mk A100; clear A100; by_cases c11 : t446.size + t447.size ≤ 9223372036854775807
    ·rw [if_pos c11] at H; have c11b0 := eq_true c11; have c11b1 : decide (t446.size + t447.size ≤ 9223372036854775807) = true := decide_eq_true c11; try have c11b2 : (9223372036854775807 < t446.size + t447.size) = False := eq_false (Nat.not_lt.2 c11)
     obtain ⟨y448, hy448⟩ : ∃ y_ : List Int, y_ = (([(a2.size : Int), 0, (a3.size : Int), 0] : List Int)) := ⟨_, rfl⟩; replace H : ((samphireref01_PutSmall.f k y448).bind fun t451 => (if (t446 ++ t447).size + t451.size ≤ 9223372036854775807 then ((samphireref06_Mac.f k (t444.extract 0 32) ((t446 ++ t447) ++ t451)).bind fun bt452 => (some bt452.1)) else (none))) = some r := by first | (rw [hy448]; with_reducible exact H) | (have H2_ := (Option.bind_some _ _).symm.trans H; rw [hy448]; with_reducible exact H2_) | (have H2_ := (Option.bind_some _ _).symm.trans H; with_reducible exact H2_) | with_reducible exact H | (rw [hy448]; exact H) | exact H
     have Ny448 := Aside0.mk hy448; clear hy448; replace H := Option.bind_eq_some_iff.mp H; obtain ⟨t451, A120, H⟩ := H; have A12 := Aside0.mk A120; clear A120; by_cases c13 : (t446 ++ t447).size + t451.size ≤ 9223372036854775807
     ·rw [if_pos c13] at H; have c13b0 := eq_true c13; have c13b1 : decide ((t446 ++ t447).size + t451.size ≤ 9223372036854775807) = true := decide_eq_true c13; try have c13b2 : (9223372036854775807 < (t446 ++ t447).size + t451.size) = False := eq_false (Nat.not_lt.2 c13)
      try (have c13b3 := c13b2; simp only [ByteArray.size_append] at c13b3)
      replace H := Option.bind_eq_some_iff.mp H; obtain ⟨⟨t452, t453⟩, A140, H⟩ := H; try dsimp only at H
      have A14 := Aside0.mk A140; clear A140; obtain rfl := Option.some.inj H; go_enter Tryz.func72, Tryz.ntmps72
      try go_wp2_with (first | ((with_reducible refine gate_callee (f := 111) rfl ?_); refine gl_ 16 Tryz.func111 #[.string a0, .string a1, .int .i64 0] ?_; (with_reducible refine (samphireref05_Block.calls a0 a1 0 t444 t445 _ A5.out).mono ?_); rintro e w15 ⟨rfl, hb⟩; refine ⟨_, rfl, ?_⟩; replace HB := Aside0.mk (below_step hb_ hb)))
      replace HB := Aside0.mk (below_drew1 HB.out); refine start_ (n := 20) (S := fun w' => True) (ds := []) #[false, false, false, false, false, false, false, false, false, false, false, false, false, false, false, false, false, false, false, false] (by kernel_rfl) rfl rfl trivial (fun hHeld => ?_); refine with_tabW samphireref07_Tag.tab4 samphireref07_Tag.bits4 (fun HT_ HW_ => ?_); generalize w15.drew = w16 at HB hHeld ⊢; refine pz_ 0 23 rfl rfl (any_of HT_.out (by kernel_rfl)) ?_; refine pz_ 1 24 rfl rfl (any_of HT_.out (by kernel_rfl)) ?_; refine pz_ 2 25 rfl rfl (any_of HT_.out (by kernel_rfl)) ?_; refine pz_ 4 27 rfl rfl (any_of HT_.out (by kernel_rfl)) ?_; refine pz_ 7 30 rfl rfl (any_of HT_.out (by kernel_rfl)) ?_; refine pz_ 8 31 rfl rfl (any_of HT_.out (by kernel_rfl)) ?_; refine pz_ 9 32 rfl rfl (any_of HT_.out (by kernel_rfl)) ?_; refine pz_ 10 33 rfl rfl (any_of HT_.out (by kernel_rfl)) ?_; refine join_ (σ := Value) 8 #[true, true, true, true, true, true, true, true, true, true, true, true, false, false, false, false, false, false, false, false] (fun s_ => [(26, .string t446), (28, .string t447), (34, s_), (29, .string (t446 ++ t447))]) (fun s_ w' => (Kd.R (Kd.int .i64) 3 w' w.heap.size (fun _ => True) s_ y448) ∧ (Below w.heap.size w w')) ?_ ?_; rotate_left
      ·intro hCont; refine two_ (i := 3) (j := 11) (Ni := some 26) (Nj := some 34) #[true, true, true, true, true, false, false, true, true, true, true, false, false, false, false, false, false, false, false, false] #[true, true, true, false, true, false, false, true, true, true, true, true, false, false, false, false, false, false, false, false] rfl rfl rfl rfl (two_of HT_.out (by kernel_rfl)) (by decide) (by decide) (fun K hK => ?_) (fun K hK => ?_)
       ·skip; refine goes_ Tryz.func114 (by kernel_rfl) rfl #[.string a2] (by rfl) rfl rfl la_ ?_; with_reducible refine (samphireref07_filled.calls k a2 t446 _ A9.out).mono ?_
        rintro e w' ⟨rfl, ⟨nd, rfl⟩⟩; refine ⟨_, rfl, ?_⟩; refine hK.out _ _ trivial (fun hHeld => ?_); clear hK K; refine norm_ sa_ ?_; refine two_ (i := 5) (j := 11) (Ni := some 28) (Nj := some 34) #[true, true, true, true, true, true, false, true, true, true, true, false, false, false, false, false, false, false, false, false] #[true, true, true, true, true, false, false, true, true, true, true, true, false, false, false, false, false, false, false, false] rfl rfl rfl rfl (two_of HT_.out (by kernel_rfl)) (by decide) (by decide) (fun K hK => ?_) (fun K hK => ?_)
        ·skip; refine goes_ Tryz.func114 (by kernel_rfl) rfl #[.string a3] (by rfl) rfl rfl la_ ?_; with_reducible refine (samphireref07_filled.calls k a3 t447 _ A10.out).mono ?_
         rintro e w' ⟨rfl, ⟨nd, rfl⟩⟩; refine ⟨_, rfl, ?_⟩; refine hK.out _ _ trivial (fun hHeld => ?_); clear hK K; refine norm_ sa_ ?_; refine pz_ 6 29 rfl rfl (any_of HT_.out (by kernel_rfl)) ?_; refine one_ (i := 11) (N := some 34) #[true, true, true, true, true, true, true, true, true, true, true, true, false, false, false, false, false, false, false, false] rfl rfl (one_of HT_.out (by kernel_rfl)) (by decide) (fun K hK => ?_); refine Kd.R_lit_step (Kd.int .i64) _ 3 ?hg (N := 34) ?hd (xs := ([(a2.size : Int), 0, (a3.size : Int), 0] : List Int)) (inner := [.int .i64 (a2.size : Int), .int .i64 0, .int .i64 (a3.size : Int), .int .i64 0]) (ok := fun _ => True) (okp := fun _ => True) ?hr ?hp (fun _ hk => hk) trivial (Below.refl _ _) (Nat.le_refl _) (by simp) ?_; (case hd => rfl); (case hg => rfl); (case hr => first | (go_simp; done) | (go_simp; rfl)); (case hp => exact (Reps.one (show Kd.M (Kd.int .i64) _ _ _ (a2.size : Int) [.int .i64 (a2.size : Int)] from rfl) (ro_ (Reps.one (show Kd.M (Kd.int .i64) _ _ _ (a3.size : Int) [.int .i64 (a3.size : Int)] from rfl) (ro_ (Reps.none _ _)))))); intro v449 w17 ho18 hb hg_ hnew_; clear hg_ hnew_
         (first | rw [← Ny448.out] at ho18 | (simp only [Int.reduceToNat] at ho18; rw [← Ny448.out] at ho18))
         have HO450 := Aside0.mk (Kd.R_lower ho18 (below_size hb_)); replace HB := Aside0.mk (below_step hb_ hb); clear hb ho18; refine hK.out _ _ trivial (fun hHeld => ?_); clear hK K; refine norm_ sa_ ?_; exact norm_ pu_ (hCont (v449) _ ⟨(ra_ HO450.out), hb_⟩)
        ·skip; refine Kd.R_lit_step (Kd.int .i64) _ 3 ?hg (N := 34) ?hd (xs := ([(a2.size : Int), 0, (a3.size : Int), 0] : List Int)) (inner := [.int .i64 (a2.size : Int), .int .i64 0, .int .i64 (a3.size : Int), .int .i64 0]) (ok := fun _ => True) (okp := fun _ => True) ?hr ?hp (fun _ hk => hk) trivial (Below.refl _ _) (Nat.le_refl _) (by simp) ?_; (case hd => rfl); (case hg => rfl); (case hr => first | (go_simp; done) | (go_simp; rfl)); (case hp => exact (Reps.one (show Kd.M (Kd.int .i64) _ _ _ (a2.size : Int) [.int .i64 (a2.size : Int)] from rfl) (ro_ (Reps.one (show Kd.M (Kd.int .i64) _ _ _ (a3.size : Int) [.int .i64 (a3.size : Int)] from rfl) (ro_ (Reps.none _ _)))))); intro v449 w17 ho18 hb hg_ hnew_; clear hg_ hnew_
         (first | rw [← Ny448.out] at ho18 | (simp only [Int.reduceToNat] at ho18; rw [← Ny448.out] at ho18))
         have HO450 := Aside0.mk (Kd.R_lower ho18 (below_size hb_)); replace HB := Aside0.mk (below_step hb_ hb); clear hb ho18; refine hK.out _ _ trivial (fun hHeld => ?_); clear hK K; refine norm_ sa_ ?_; refine one_ (i := 5) (N := some 28) #[true, true, true, true, true, true, false, true, true, true, true, true, false, false, false, false, false, false, false, false] rfl rfl (one_of HT_.out (by kernel_rfl)) (by decide) (fun K hK => ?_); refine goes_ Tryz.func114 (by kernel_rfl) rfl #[.string a3] (by rfl) rfl rfl la_ ?_; with_reducible refine (samphireref07_filled.calls k a3 t447 _ A10.out).mono ?_
         rintro e w' ⟨rfl, ⟨nd, rfl⟩⟩; refine ⟨_, rfl, ?_⟩; refine hK.out _ _ trivial (fun hHeld => ?_); clear hK K; refine norm_ sa_ ?_; refine pz_ 6 29 rfl rfl (any_of HT_.out (by kernel_rfl)) ?_; exact norm_ pu_ (hCont (v449) _ ⟨(ra_ HO450.out), hb_⟩)
       ·skip; refine Kd.R_lit_step (Kd.int .i64) _ 3 ?hg (N := 34) ?hd (xs := ([(a2.size : Int), 0, (a3.size : Int), 0] : List Int)) (inner := [.int .i64 (a2.size : Int), .int .i64 0, .int .i64 (a3.size : Int), .int .i64 0]) (ok := fun _ => True) (okp := fun _ => True) ?hr ?hp (fun _ hk => hk) trivial (Below.refl _ _) (Nat.le_refl _) (by simp) ?_; (case hd => rfl); (case hg => rfl); (case hr => first | (go_simp; done) | (go_simp; rfl)); (case hp => exact (Reps.one (show Kd.M (Kd.int .i64) _ _ _ (a2.size : Int) [.int .i64 (a2.size : Int)] from rfl) (ro_ (Reps.one (show Kd.M (Kd.int .i64) _ _ _ (a3.size : Int) [.int .i64 (a3.size : Int)] from rfl) (ro_ (Reps.none _ _)))))); intro v449 w17 ho18 hb hg_ hnew_; clear hg_ hnew_
        (first | rw [← Ny448.out] at ho18 | (simp only [Int.reduceToNat] at ho18; rw [← Ny448.out] at ho18))
        have HO450 := Aside0.mk (Kd.R_lower ho18 (below_size hb_)); replace HB := Aside0.mk (below_step hb_ hb); clear hb ho18; refine hK.out _ _ trivial (fun hHeld => ?_); clear hK K; refine norm_ sa_ ?_; refine one_ (i := 3) (N := some 26) #[true, true, true, true, true, false, false, true, true, true, true, true, false, false, false, false, false, false, false, false] rfl rfl (one_of HT_.out (by kernel_rfl)) (by decide) (fun K hK => ?_); refine goes_ Tryz.func114 (by kernel_rfl) rfl #[.string a2] (by rfl) rfl rfl la_ ?_; with_reducible refine (samphireref07_filled.calls k a2 t446 _ A9.out).mono ?_
        rintro e w' ⟨rfl, ⟨nd, rfl⟩⟩; refine ⟨_, rfl, ?_⟩; refine hK.out _ _ trivial (fun hHeld => ?_); clear hK K; refine norm_ sa_ ?_; refine one_ (i := 5) (N := some 28) #[true, true, true, true, true, true, false, true, true, true, true, true, false, false, false, false, false, false, false, false] rfl rfl (one_of HT_.out (by kernel_rfl)) (by decide) (fun K hK => ?_); refine goes_ Tryz.func114 (by kernel_rfl) rfl #[.string a3] (by rfl) rfl rfl la_ ?_; with_reducible refine (samphireref07_filled.calls k a3 t447 _ A10.out).mono ?_
        rintro e w' ⟨rfl, ⟨nd, rfl⟩⟩; refine ⟨_, rfl, ?_⟩; refine hK.out _ _ trivial (fun hHeld => ?_); clear hK K; refine norm_ sa_ ?_; refine pz_ 6 29 rfl rfl (any_of HT_.out (by kernel_rfl)) ?_; exact norm_ pu_ (hCont (v449) _ ⟨(ra_ HO450.out), hb_⟩)
      rintro v449 w19 ⟨h0_, h1_⟩; have n0_ : Aside0 (Kd.R (Kd.int .i64) 3 w19 w.heap.size (fun _ => True) v449 y448) := ⟨h0_⟩; have n1_ : Aside0 (Below w.heap.size w w19) := ⟨h1_⟩; clear HB h0_ h1_; have HO450 := n0_; have HB := n1_; clear n0_ n1_; have hHeld := trivial; obtain ⟨Ao20, co20, eo20⟩ := Kd.R_slice HO450.out
      (first | subst eo20 | (injection eo20 with f1_ f2_ f3_; have f4_ := f1_.symm; have f5_ := f3_.symm; clear f1_ f2_ f3_; subst f4_; subst f5_))
      refine norm_ sb_ ?_; refine one_ (i := 12) (N := some 35) #[true, true, true, true, true, true, true, true, true, true, true, true, true, false, false, false, false, false, false, false] rfl rfl (one_of HT_.out (by kernel_rfl)) (by decide) (fun K hK => ?_); refine goes_ Tryz.func115 (by kernel_rfl) rfl #[.slice Ao20 y448.length co20] (by rfl) rfl rfl la_ ?_; with_reducible refine (samphireref01_PutSmall.calls k _ _ y448 t451 _ ?side1 ?side2 A12.out).mono ?_
      (case side1 => exact ca_ (Kd.R_reads' HO450.out).2.2)
      (case side2 => exact (Kd.R_reads' HO450.out).2.1)
      rintro e w21 ⟨rfl, hb⟩; refine ⟨_, rfl, ?_⟩; replace HO450 := Aside0.mk (Kd.R_below (ra_ HO450.out) hb); replace HB := Aside0.mk (below_step hb_ hb); refine hK.out _ _ trivial (fun hHeld => ?_); clear hK K; refine norm_ sa_ ?_; refine pz_ 13 36 rfl rfl (any_of HT_.out (by kernel_rfl)) ?_; refine one_ (i := 14) (N := some 37) #[true, true, true, true, true, true, true, true, true, true, true, true, true, true, true, false, false, false, false, false] rfl rfl (one_of HT_.out (by kernel_rfl)) (by decide) (fun K hK => ?_); refine goes_ Tryz.func113 (by kernel_rfl) rfl #[.string (t444.extract 0 32), .string ((t446 ++ t447) ++ t451)] (by rfl) rfl rfl la_ ?_; with_reducible refine (samphireref06_Mac.calls k (t444.extract 0 32) ((t446 ++ t447) ++ t451) t452 t453 _ A14.out).mono ?_
      rintro e w22 ⟨rfl, hb⟩; refine ⟨_, rfl, ?_⟩; replace HO450 := Aside0.mk (Kd.R_below (ra_ HO450.out) hb); replace HB := Aside0.mk (below_step hb_ hb); refine hK.out _ _ trivial (fun hHeld => ?_); clear hK K; refine norm_ sa_ ?_; refine pz_ 15 22 rfl rfl (any_of HT_.out (by kernel_rfl)) ?_; refine pz_ 16 38 rfl rfl (any_of HT_.out (by kernel_rfl)) ?_; refine pz_ 17 39 rfl rfl (any_of HT_.out (by kernel_rfl)) ?_; refine pz_ 18 11 rfl rfl (any_of HT_.out (by kernel_rfl)) ?_; refine pz_ 19 12 rfl rfl (any_of HT_.out (by kernel_rfl)) ?_; refine done_ (done_of HT_.out (by kernel_rfl)) ?_; try go_wp2
      go_ret
      exact ⟨ew_, hb_⟩
     ·rw [if_neg c13] at H; exact absurd H (by simp)
    ·rw [if_neg c11] at H; exact absurd H (by simp)
   ·rw [if_neg c8] at H; exact absurd H (by simp)
  ·rw [if_neg c7] at H; exact absurd H (by simp)
 ·rw [if_neg c6] at H; have c6b0 : ((t444.size : Int) == 64) = false := beq_eq_false_iff_ne.mpr c6; have c6b1 : ((t444.size : Int) != 64) = true := bne_iff_ne.mpr c6; obtain rfl := Option.some.inj H; go_enter Tryz.func72, Tryz.ntmps72
  go_wp2_with (first | ((with_reducible refine gate_callee (f := 111) rfl ?_); refine gl_ 16 Tryz.func111 #[.string a0, .string a1, .int .i64 0] ?_; (with_reducible refine (samphireref05_Block.calls a0 a1 0 t444 t445 _ A5.out).mono ?_); rintro e w23 ⟨rfl, hb⟩; refine ⟨_, rfl, ?_⟩; replace HB := Aside0.mk (below_step hb_ hb)))
  go_ret
  exact ⟨ew_, hb_⟩
end Go.Proofs.YtbkbganflnemeaaGreat.Pr
end

section
namespace Go.Proofs.YtbkbganflnemeaaGreat.Pr
open Go.RowKit Go.Proofs.YtbkbganflnemeaaGreatW.PrintWords Go.Proofs.YtbkbganflnemeaaGreatW.PrintLast Go.Proofs.YtbkbganflnemeaaGreatW.PrintMore
set_option maxHeartbeats 1000000
theorem bytesOf_ints (s : ByteArray) : bytesOf s = ints (bys s) := by
 unfold bytesOf ints bys
 rw [List.map_map]; rfl
theorem xor_l0 (x y : ByteArray) (n : Nat) (hx : x.size = n) (hy : y.size = n) (hn : n ≤ 1000000) : ∀ d k i, i + d = n → d < k →
    samphireref01_Xor.l0 k x y (ints ((List.range i).map fun i => (bys x).getD i 0 ^^^ (bys y).getD i 0)) (i : Int) = some (txt ((List.range n).map fun i => (bys x).getD i 0 ^^^ (bys y).getD i 0), 0) := by
  intro d
  induction d with
  | zero =>
    intro k i hi hk
    obtain ⟨k, rfl⟩ : ∃ m, k = m + 1 := ⟨k - 1, by omega⟩
    obtain rfl : i = n := by omega
    simp only [samphireref01_Xor.l0]
    rw [if_neg (by omega), str_ints]
  | succ d ih =>
    intro k i hi hk
    obtain ⟨k, rfl⟩ : ∃ m, k = m + 1 := ⟨k - 1, by omega⟩
    have h := ih k (i + 1) (by omega) (by omega)
    rw [List.range_succ, List.map_append, ints_append] at h
    simp only [samphireref01_Xor.l0]
    rw [if_pos (by omega), if_pos (by omega), if_pos (by omega), if_pos (by rw [ints_length, List.length_map, List.length_range]; omega), bt_nat _ _ (by omega), bt_nat _ _ (by omega), u8_xor_nat _ _ (bys_lt _ _) (bys_lt _ _), wr _ (by omega) (by omega)]
    exact h
theorem xor_f (x y : ByteArray) (n : Nat) (hx : x.size = n) (hy : y.size = n) (hn : n ≤ 1000000) (k : Nat) (hk : n < k) :
  samphireref01_Xor.f k x y = some (txt ((List.range n).map fun i => (bys x).getD i 0 ^^^ (bys y).getD i 0), 0) := by
 unfold samphireref01_Xor.f
 rw [if_pos (by omega)]
 exact xor_l0 x y n hx hy hn n k 0 (by omega) hk
theorem strB_at (a b : List Nat) (n j i : Nat) (hi : i < 64) : strB a b n (64 * j + i) = (chaL a b (n + j)).getD i 0 := by
 unfold strB
 rw [show (64 * j + i) / 64 = j from by omega, show (64 * j + i) % 64 = i from by omega]
theorem stream_next (a b s : List Nat) (n j m : Nat) (hm : m = min 64 (s.length - 64 * j)) (hj : 64 * j ≤ s.length) :
  (streamL a b n s).take (64 * j) ++ (List.range m).map (fun i => s.getD (64 * j + i) 0 ^^^ (chaL a b (n + j)).getD i 0) = (streamL a b n s).take (64 * (j + 1)) := by
 rw [show 64 * (j + 1) = 64 * j + 64 from by omega, List.take_add]
 congr 1
 apply List.ext_getElem
 ·rw [List.length_map, List.length_range, List.length_take, List.length_drop, streamL_length]; exact hm
 ·intro i h1 h2
  rw [List.length_map, List.length_range] at h1
  have hg := streamL_get a b n s (64 * j + i) (by omega)
  rw [strB_at a b n j i (by omega)] at hg
  rw [List.getElem_map, List.getElem_range, List.getElem_take, List.getElem_drop]
  obtain ⟨h3, h4⟩ := List.getElem?_eq_some_iff.1 hg
  exact h4.symm
theorem rStream_l0 (a0 a1 a3 : ByteArray) (h0 : a0.size = 32) (h1 : a1.size = 12) (h3 : a3.size ≤ 32768) : ∀ d k j, j + d = (a3.size + 63) / 64 → d + 100 ≤ k →
    samphireref05_Stream.l0 k a0 a1 1 a3 (ints ((streamL (bys a0) (bys a1) 1 (bys a3)).take (64 * j))) ((64 * j : Nat) : Int) = some (txt (streamL (bys a0) (bys a1) 1 (bys a3)), 0) := by
  intro d
  induction d with
  | zero =>
    intro k j hj hk
    obtain ⟨k, rfl⟩ : ∃ m, k = m + 1 := ⟨k - 1, by omega⟩
    simp only [samphireref05_Stream.l0]
    rw [if_neg (by omega), List.take_of_length_le (by rw [streamL_length, bys_length]; omega), str_ints]
  | succ d ih =>
    intro k j hj hk
    obtain ⟨k, rfl⟩ : ∃ m, k = m + 1 := ⟨k - 1, by omega⟩
    have h := ih k (j + 1) (by omega) (by omega)
    rw [← stream_next (bys a0) (bys a1) (bys a3) 1 j (min 64 (a3.size - 64 * j)) (by rw [bys_length]) (by rw [bys_length]; omega), ints_append] at h
    have ht : Int.tdiv ((64 * j : Nat) : Int) 64 = (j : Int) := by rw [Int.tdiv_eq_ediv_of_nonneg (by omega)]; omega
    have hm : mn 64 ((a3.size : Int) - ((64 * j : Nat) : Int)) = ((min 64 (a3.size - 64 * j) : Nat) : Int) := by unfold mn; split <;> omega
    have hm1 : min 64 (a3.size - 64 * j) ≤ 64 := by omega
    have hm2 : 64 * j + min 64 (a3.size - 64 * j) ≤ a3.size := by omega
    have hcl : (chaL (bys a0) (bys a1) (1 + j)).length = 64 := chaL_length _ _ _
    have hcb : bys (txt (chaL (bys a0) (bys a1) (1 + j))) = chaL (bys a0) (bys a1) (1 + j) := bys_txt (chaL_lt _ _ _)
    simp only [samphireref05_Stream.l0]
    rw [if_pos (by omega), ht, wr (j : Int) (by omega) (by omega), wr (1 + (j : Int)) (by omega) (by omega)]
    unfold samphireref05_Block.f chacha_Block.f
    rw [if_pos ⟨h0, h1, by omega, by omega⟩, Option.bind_some, show (1 + (j : Int)).toNat = 1 + j from by omega]
    rw [wr ((a3.size : Int) - ((64 * j : Nat) : Int)) (by omega) (by omega), hm]
    generalize min 64 (a3.size - 64 * j) = m at *
    rw [wr (((64 * j : Nat) : Int) + (m : Int)) (by omega) (by omega), show (((64 * j : Nat) : Int) + (m : Int)) = ((64 * j + m : Nat) : Int) from by omega, wr (((64 * j : Nat) : Int) + 64) (by omega) (by omega), show (((64 * j : Nat) : Int) + 64) = ((64 * (j + 1) : Nat) : Int) from by omega]
    rw [if_pos (by omega), if_pos (by omega), if_pos (by omega), if_pos (by omega), if_pos (by rw [txt_size, hcl]; omega), Int.toNat_natCast, Int.toNat_natCast, Int.toNat_natCast]
    rw [xor_f _ _ m (by rw [ByteArray.size_extract]; omega) (by rw [ByteArray.size_extract, txt_size, hcl]; omega) (by omega) k (by omega), Option.bind_some, bytesOf_ints]
    have e : (List.range m).map (fun i => (bys (a3.extract (64 * j) (64 * j + m))).getD i 0 ^^^ (bys ((txt (chaL (bys a0) (bys a1) (1 + j))).extract 0 m)).getD i 0) = (List.range m).map (fun i => (bys a3).getD (64 * j + i) 0 ^^^ (chaL (bys a0) (bys a1) (1 + j)).getD i 0) := by
      apply List.map_congr_left
      intro i hi
      rw [List.mem_range] at hi
      rw [bys_extract, bys_extract, hcb]
      congr 1
      · rw [List.getD_eq_getElem?_getD, List.getD_eq_getElem?_getD, List.getElem?_take_of_lt (by omega), List.getElem?_drop]
      · rw [List.getD_eq_getElem?_getD, List.getD_eq_getElem?_getD, List.getElem?_take_of_lt (by omega), List.drop_zero]
    rw [e]
    have eb : bys (txt ((List.range m).map (fun i => (bys a3).getD (64 * j + i) 0 ^^^ (chaL (bys a0) (bys a1) (1 + j)).getD i 0))) = (List.range m).map (fun i => (bys a3).getD (64 * j + i) 0 ^^^ (chaL (bys a0) (bys a1) (1 + j)).getD i 0) := by
      apply bys_txt
      intro z hz
      rw [List.mem_map] at hz
      obtain ⟨i, _, rfl⟩ := hz
      have h8 := bys_lt (txt (chaL (bys a0) (bys a1) (1 + j))) i
      rw [hcb] at h8
      exact Nat.xor_lt_two_pow (n := 8) (bys_lt _ _) h8
    rw [eb, if_pos (by rw [ints_length, List.length_take, streamL_length, bys_length, txt_size, List.length_map, List.length_range]; omega)]
    exact h
theorem rStream_f (a0 a1 a3 : ByteArray) (h0 : a0.size = 32) (h1 : a1.size = 12) (h3 : a3.size ≤ 32768) (k : Nat) (hk : 1000 ≤ k) :
  samphireref05_Stream.f k a0 a1 1 a3 = some (txt (streamL (bys a0) (bys a1) 1 (bys a3)), 0) := by
 unfold samphireref05_Stream.f
 obtain ⟨k, rfl⟩ : ∃ m, k = m + 1 := ⟨k - 1, by omega⟩
 have hw : decide (wrap64 (Int.tdiv (wrap64 ((a3.size : Int) + 63)) 64) > wrap64 (4294967296 - 1)) = false := by
  apply decide_eq_false
  rw [wr ((a3.size : Int) + 63) (by omega) (by omega), Int.tdiv_eq_ediv_of_nonneg (by omega), wr _ (by omega) (by omega), wr _ (by omega) (by omega)]
  omega
 rw [if_pos (by omega), if_pos (by omega), if_neg (by decide), if_neg (by decide), if_neg (by omega), hw]
 simp only [samphireref05_Stream.j0]
 rw [if_neg (by decide)]
 have := rStream_l0 a0 a1 a3 h0 h1 h3 ((a3.size + 63) / 64) k 0 (by omega) (by omega)
 exact this
theorem fill16_next (l : List Nat) (h : ¬ l.length % 16 = 0) : fill16 (l ++ [0]) = fill16 l := by
 unfold fill16 fillZ
 rw [List.length_append, List.append_assoc]
 congr 1
 rw [show (16 - l.length % 16) % 16 = (16 - (l.length + [0].length) % 16) % 16 + 1 from by simp only [List.length_cons, List.length_nil]; omega, List.replicate_succ]
 rfl
theorem filled_l0 : ∀ d (s : ByteArray) k, (16 - s.size % 16) % 16 = d → s.size ≤ 1000000 → d < k → samphireref07_filled.l0 k s = some (txt (fill16 (bys s))) := by
  intro d
  induction d with
  | zero =>
    intro s k hd hs hk
    obtain ⟨k, rfl⟩ : ∃ m, k = m + 1 := ⟨k - 1, by omega⟩
    simp only [samphireref07_filled.l0]
    rw [if_pos (by omega)]
    unfold fill16 fillZ
    rw [bys_length, hd, List.replicate_zero, List.append_nil, txt_bys]
  | succ d ih =>
    intro s k hd hs hk
    obtain ⟨k, rfl⟩ : ∃ m, k = m + 1 := ⟨k - 1, by omega⟩
    have hz : (s ++ (⟨#[0]⟩ : ByteArray)).size = s.size + 1 := by rw [ByteArray.size_append]; rfl
    simp only [samphireref07_filled.l0]
    have hb : bys (⟨#[0]⟩ : ByteArray) = [0] := rfl
    rw [if_neg (by omega), if_pos (by omega), ih (s ++ ⟨#[0]⟩) k (by rw [hz]; omega) (by omega) (by omega), bys_append, hb, fill16_next _ (by rw [bys_length]; omega)]
theorem rfilled_f (s : ByteArray) (hs : s.size ≤ 1000000) (k : Nat) (hk : 17 ≤ k) : samphireref07_filled.f k s = some (txt (fill16 (bys s))) :=
 filled_l0 _ s k rfl hs (by omega)
theorem fill16_le (l : List Nat) : (fill16 l).length ≤ l.length + 16 := by
 unfold fill16 fillZ
 rw [List.length_append, List.length_replicate]; omega
theorem fill16_lt (l : List Nat) (hl : ∀ x ∈ l, x < 256) : ∀ x ∈ fill16 l, x < 256 := by
 intro x hx
 unfold fill16 at hx
 rcases List.mem_append.1 hx with h | h
 ·exact hl x h
 ·rw [List.mem_replicate] at h; omega
theorem rTag_f (a0 a1 a2 a3 : ByteArray) (h0 : a0.size = 32) (h1 : a1.size = 12) (h2 : a2.size + a3.size ≤ 32768) (k : Nat) (hk : 5000 ≤ k) :
  samphireref07_Tag.f k a0 a1 a2 a3 = some (txt (tagL (bys a0) (bys a1) (bys a2) (bys a3))) := by
 have hcl : (chaL (bys a0) (bys a1) 0).length = 64 := chaL_length _ _ _
 have hcb : bys (txt (chaL (bys a0) (bys a1) 0)) = chaL (bys a0) (bys a1) 0 := bys_txt (chaL_lt _ _ _)
 have hl2 := fill16_le (bys a2)
 have hl3 := fill16_le (bys a3)
 rw [bys_length] at hl2 hl3
 have hln : (lenL (bys a2).length (bys a3).length).length = 16 := rfl
 have hlf : fill16 (lenL (bys a2).length (bys a3).length) = lenL (bys a2).length (bys a3).length := by
  unfold fill16
  rw [hln]
  exact List.append_nil _
 have ht : tagL (bys a0) (bys a1) (bys a2) (bys a3) = pmacL ((chaL (bys a0) (bys a1) 0).take 32) (fill16 (bys a2) ++ fill16 (bys a3) ++ lenL (bys a2).length (bys a3).length) := by
  unfold tagL
  rw [hlf]
 rw [ht]
 clear ht hlf
 unfold samphireref07_Tag.f samphireref05_Block.f chacha_Block.f
 rw [if_pos ⟨h0, h1, by decide, by decide⟩, Option.bind_some]
 dsimp only
 rw [show (0 : Int).toNat = 0 from rfl]
 generalize chaL (bys a0) (bys a1) 0 = C at *
 rw [ if_pos (by rw [txt_size]; exact congrArg Nat.cast hcl), if_pos (by decide), if_pos (by rw [txt_size]; omega)]
 rw [rfilled_f a2 (by omega) k (by omega), Option.bind_some, rfilled_f a3 (by omega) k (by omega), Option.bind_some, if_pos (by rw [txt_size, txt_size]; omega)]
 have e : ([(a2.size : Int), 0, (a3.size : Int), 0] : List Int) = ints [a2.size, 0, a3.size, 0] := rfl
 rw [e, rPutSmall_f _ (by
  intro i
  match i with
  | 0 => show a2.size < _; omega
  | 1 => show 0 < _; omega
  | 2 => show a3.size < _; omega
  | 3 => show 0 < _; omega
  | n + 4 => simp) (by show 4 ≤ 1000000; omega) k (by show 4 < k; omega), Option.bind_some]
 have e2 : [a2.size, 0, a3.size, 0].flatMap le4 = lenL (bys a2).length (bys a3).length := by rw [bys_length, bys_length]; rfl
 rw [e2, ← txt_append, ← txt_append, if_pos (by rw [txt_size, txt_size, List.length_append]; omega)]
 rw [rMac_f _ _ (by rw [ByteArray.size_extract, txt_size]; omega) (by rw [txt_size, List.length_append, List.length_append]; omega) k (by rw [txt_size, List.length_append, List.length_append]; omega), Option.bind_some]
 have hx : bys ((txt C).extract 0 32) = C.take 32 := by rw [bys_extract, hcb, List.drop_zero]
 have hy : bys (txt (fill16 (bys a2) ++ fill16 (bys a3) ++ lenL (bys a2).length (bys a3).length)) = fill16 (bys a2) ++ fill16 (bys a3) ++ lenL (bys a2).length (bys a3).length := by
  apply bys_txt
  intro x hx
  rcases List.mem_append.1 hx with h | h
  ·rcases List.mem_append.1 h with h | h
   ·exact fill16_lt _ (bys_lt' _) x h
   ·exact fill16_lt _ (bys_lt' _) x h
  ·exact lenL_lt _ _ x h
 rw [hx, hy]
theorem rmay_f (a0 a1 : ByteArray) (x y : Nat) (hx : x ≤ 1000000000000000) (hy : y ≤ 1000000000000000) : samphireref07_may.f a0 a1 (x : Int) (y : Int) = some (decide (aeadOK a0 a1 x y)) := aead_may_f a0 a1 x y hx hy
end Go.Proofs.YtbkbganflnemeaaGreat.Pr
end

section
namespace Go.Proofs.YtbkbganflnemeaaGreat.Pr
open Go.RowKit Go.Proofs.YtbkbganflnemeaaGreatW.PrintWords Go.Proofs.YtbkbganflnemeaaGreatW.PrintLast Go.Proofs.YtbkbganflnemeaaGreatW.PrintMore
attribute [local go_sem] max2_int min2_int max_two min_two max_three min_three max_four min_four
def samphireref07_Seal.f (k : Nat) (a0 : ByteArray) (a1 : ByteArray) (a2 : ByteArray) (a3 : ByteArray) : Option (ByteArray × Int) := (samphireref07_may.f a0 a1 (a2.size : Int) (a3.size : Int)).bind fun t454 => (if t454 = true then ((samphireref05_Stream.f k a0 a1 1 a3).bind fun bt455 => ((samphireref07_Tag.f k a0 a1 a2 bt455.1).bind fun t457 => (if bt455.1.size + t457.size ≤ 9223372036854775807 then (some (bt455.1 ++ t457, 0)) else (none)))) else (some ((⟨#[]⟩ : ByteArray), 1)))
set_option maxHeartbeats 8000000 in
set_option maxRecDepth 100000 in
theorem samphireref07_Seal.calls (k : Nat) (a0 : ByteArray) (a1 : ByteArray) (a2 : ByteArray) (a3 : ByteArray) (r1 : ByteArray) (r2 : Int) (w : World) (h : samphireref07_Seal.f k a0 a1 a2 a3 = some (r1, r2)) :
  Calls Tryz.prog 37 #[.string a0, .string a1, .string a2, .string a3] w fun e w' => e = .returned (.tuple #[.string r1, .int .i64 r2]) ∧ Below w.heap.size w w' := by
 have HB := Aside0.mk (Below.refl w.heap.size w); have H : ((samphireref07_may.f a0 a1 (a2.size : Int) (a3.size : Int)).bind fun t454 => (if t454 = true then ((samphireref05_Stream.f k a0 a1 1 a3).bind fun bt455 => ((samphireref07_Tag.f k a0 a1 a2 bt455.1).bind fun t457 => (if bt455.1.size + t457.size ≤ 9223372036854775807 then (some (bt455.1 ++ t457, 0)) else (none)))) else (some ((⟨#[]⟩ : ByteArray), 1)))) = some (r1, r2) := h; clear h; replace H := Option.bind_eq_some_iff.mp H; obtain ⟨t454, A50, H⟩ := H; have A5 := Aside0.mk A50; clear A50; by_cases c6 : t454 = true
 ·subst c6; have H1 : ((samphireref05_Stream.f k a0 a1 1 a3).bind fun bt455 => ((samphireref07_Tag.f k a0 a1 a2 bt455.1).bind fun t457 => (if bt455.1.size + t457.size ≤ 9223372036854775807 then (some (bt455.1 ++ t457, 0)) else (none)))) = some (r1, r2) := by rw [if_pos rfl] at H; exact H
  clear H; have H := H1; clear H1; replace H := Option.bind_eq_some_iff.mp H; obtain ⟨⟨t455, t456⟩, A70, H⟩ := H; try dsimp only at H
  have A7 := Aside0.mk A70; clear A70; replace H := Option.bind_eq_some_iff.mp H; obtain ⟨t457, A80, H⟩ := H; have A8 := Aside0.mk A80; clear A80; by_cases c9 : t455.size + t457.size ≤ 9223372036854775807
  ·rw [if_pos c9] at H; have c9b0 := eq_true c9; have c9b1 : decide (t455.size + t457.size ≤ 9223372036854775807) = true := decide_eq_true c9; try have c9b2 : (9223372036854775807 < t455.size + t457.size) = False := eq_false (Nat.not_lt.2 c9)
   simp only [Option.some.injEq, Prod.mk.injEq] at H; obtain ⟨rfl, rfl⟩ := H; go_enter Tryz.func37, Tryz.ntmps37
   go_wp2_with (first | ((with_reducible refine gate_callee (f := 70) rfl ?_); refine gl_ 18 Tryz.func70 #[.string a0, .string a1, .int .i64 (a2.size : Int), .int .i64 (a3.size : Int)] ?_; (with_reducible refine (samphireref07_may.calls a0 a1 (a2.size : Int) (a3.size : Int) true _ A5.out).mono ?_); rintro e w' ⟨rfl, ⟨nd, rfl⟩⟩; refine ⟨_, rfl, ?_⟩) | ((with_reducible refine gate_callee (f := 71) rfl ?_); refine gl_ 24 Tryz.func71 #[.string a0, .string a1, .int .i64 1, .string a3] ?_; (with_reducible refine (samphireref05_Stream.calls k a0 a1 1 a3 t455 t456 _ A7.out).mono ?_); rintro e w10 ⟨rfl, hb⟩; refine ⟨_, rfl, ?_⟩; replace HB := Aside0.mk (below_step hb_ hb)) | ((with_reducible refine gate_callee (f := 72) rfl ?_); refine gl_ 32 Tryz.func72 #[.string a0, .string a1, .string a2, .string t455] ?_; (with_reducible refine (samphireref07_Tag.calls k a0 a1 a2 t455 t457 _ A8.out).mono ?_); rintro e w11 ⟨rfl, hb⟩; refine ⟨_, rfl, ?_⟩; replace HB := Aside0.mk (below_step hb_ hb)))
   go_ret2
   exact ⟨ew_, hb_⟩
  ·rw [if_neg c9] at H; exact absurd H (by simp)
 ·replace c6 := Bool.eq_false_iff.mpr c6; subst c6; have H1 : (some ((⟨#[]⟩ : ByteArray), 1)) = some (r1, r2) := by rw [if_neg (show ¬ (false = true) by decide)] at H; exact H
  clear H; have H := H1; clear H1; simp only [Option.some.injEq, Prod.mk.injEq] at H; obtain ⟨rfl, rfl⟩ := H; go_enter Tryz.func37, Tryz.ntmps37
  go_wp2_with (first | ((with_reducible refine gate_callee (f := 70) rfl ?_); refine gl_ 18 Tryz.func70 #[.string a0, .string a1, .int .i64 (a2.size : Int), .int .i64 (a3.size : Int)] ?_; (with_reducible refine (samphireref07_may.calls a0 a1 (a2.size : Int) (a3.size : Int) false _ A5.out).mono ?_); rintro e w' ⟨rfl, ⟨nd, rfl⟩⟩; refine ⟨_, rfl, ?_⟩))
  go_ret2
  exact ⟨ew_, hb_⟩
def samphireref07_Open.f (k : Nat) (a0 : ByteArray) (a1 : ByteArray) (a2 : ByteArray) (a3 : ByteArray) : Option (ByteArray × Int) := (samphireref07_may.f a0 a1 (a2.size : Int) (mx 0 (wrap64 ((a3.size : Int) - 16)))).bind fun t465 => (if t465 = true then (if (a3.size : Int) < 16 then (some ((⟨#[]⟩ : ByteArray), 70)) else (if 0 ≤ (mx 0 (wrap64 ((a3.size : Int) - 16))) then (if (mx 0 (wrap64 ((a3.size : Int) - 16))) ≤ (a3.size : Int) then ((samphireref07_Tag.f k a0 a1 a2 (a3.extract 0 ((mx 0 (wrap64 ((a3.size : Int) - 16))) : Int).toNat)).bind fun t466 => (if t466.toList = (a3.extract ((mx 0 (wrap64 ((a3.size : Int) - 16))) : Int).toNat a3.size).toList then ((samphireref05_Stream.f k a0 a1 1 (a3.extract 0 ((mx 0 (wrap64 ((a3.size : Int) - 16))) : Int).toNat)).bind fun bt467 => (some (bt467.1, 0))) else (some ((⟨#[]⟩ : ByteArray), 70)))) else (none)) else (none))) else (some ((⟨#[]⟩ : ByteArray), 1)))
def samphireref07_Open.T4 : Bool × List (List Nat × List Nat) := (true, [([], []), ([0], [0]), ([1], [1]), ([2], [2]), ([3], [3]), ([3], [3]), ([3], [3]), ([3], [3]), ([3], [3]), ([7, 8, 3], [3, 7, 8]), ([4, 5, 6, 9, 3, 3], [3, 4, 5, 6, 9]), ([3], [3]), ([3], [3]), ([11, 12, 3], [3, 11, 12]), ([10, 13, 3], [3, 10, 13]), ([3, 14], [3, 14])])
def samphireref07_Open.B4 : List Nat := [0, 1, 3, 7, 15, 15, 15, 15, 15, 399, 1023, 15, 15, 6159, 16383, 32767]
theorem samphireref07_Open.tab4 : rtab .any (opsOf Tryz.f39 4) = samphireref07_Open.T4 := by kernel_rfl
theorem samphireref07_Open.bits4 : waitsOk samphireref07_Open.T4.2 samphireref07_Open.B4 = true := by kernel_rfl
set_option maxHeartbeats 8000000 in
set_option maxRecDepth 100000 in
theorem samphireref07_Open.calls (k : Nat) (a0 : ByteArray) (a1 : ByteArray) (a2 : ByteArray) (a3 : ByteArray) (r1 : ByteArray) (r2 : Int) (w : World) (h : samphireref07_Open.f k a0 a1 a2 a3 = some (r1, r2)) :
  Calls Tryz.prog 39 #[.string a0, .string a1, .string a2, .string a3] w fun e w' => e = .returned (.tuple #[.string r1, .int .i64 r2]) ∧ Below w.heap.size w w' := by
 have HB := Aside0.mk (Below.refl w.heap.size w); have H : ((samphireref07_may.f a0 a1 (a2.size : Int) (mx 0 (wrap64 ((a3.size : Int) - 16)))).bind fun t465 => (if t465 = true then (if (a3.size : Int) < 16 then (some ((⟨#[]⟩ : ByteArray), 70)) else (if 0 ≤ (mx 0 (wrap64 ((a3.size : Int) - 16))) then (if (mx 0 (wrap64 ((a3.size : Int) - 16))) ≤ (a3.size : Int) then ((samphireref07_Tag.f k a0 a1 a2 (a3.extract 0 ((mx 0 (wrap64 ((a3.size : Int) - 16))) : Int).toNat)).bind fun t466 => (if t466.toList = (a3.extract ((mx 0 (wrap64 ((a3.size : Int) - 16))) : Int).toNat a3.size).toList then ((samphireref05_Stream.f k a0 a1 1 (a3.extract 0 ((mx 0 (wrap64 ((a3.size : Int) - 16))) : Int).toNat)).bind fun bt467 => (some (bt467.1, 0))) else (some ((⟨#[]⟩ : ByteArray), 70)))) else (none)) else (none))) else (some ((⟨#[]⟩ : ByteArray), 1)))) = some (r1, r2) := h; clear h; obtain ⟨ji5, hji5⟩ : ∃ j_ : Int, (mx 0 (wrap64 ((a3.size : Int) - 16))) = j_ := ⟨_, rfl⟩; replace H : ((samphireref07_may.f a0 a1 (a2.size : Int) (ji5)).bind fun t465 => (if t465 = true then (if (a3.size : Int) < 16 then (some ((⟨#[]⟩ : ByteArray), 70)) else (if 0 ≤ (ji5) then (if (ji5) ≤ (a3.size : Int) then ((samphireref07_Tag.f k a0 a1 a2 (a3.extract 0 ((ji5) : Int).toNat)).bind fun t466 => (if t466.toList = (a3.extract ((ji5) : Int).toNat a3.size).toList then ((samphireref05_Stream.f k a0 a1 1 (a3.extract 0 ((ji5) : Int).toNat)).bind fun bt467 => (some (bt467.1, 0))) else (some ((⟨#[]⟩ : ByteArray), 70)))) else (none)) else (none))) else (some ((⟨#[]⟩ : ByteArray), 1)))) = some (r1, r2) := by first | (rw [hji5] at H; exact H) | (simp only [hji5] at H ⊢; exact H)
 (try (have hji5l : 0 ≤ ji5 := by (rw [← hji5]; unfold mx; (repeat' split) <;> omega)))
 (try (have hji5m : 0 ≤ ji5 := by omega))
 have hji5_ : (if 0 < (wrap64 ((a3.size : Int) - 16)) then (wrap64 ((a3.size : Int) - 16)) else 0) = ji5 := hji5; replace H := Option.bind_eq_some_iff.mp H; obtain ⟨t465, A60, H⟩ := H; have A6 := Aside0.mk A60; clear A60; by_cases c7 : t465 = true
 ·subst c7; have H1 : (if (a3.size : Int) < 16 then (some ((⟨#[]⟩ : ByteArray), 70)) else (if 0 ≤ (ji5) then (if (ji5) ≤ (a3.size : Int) then ((samphireref07_Tag.f k a0 a1 a2 (a3.extract 0 ((ji5) : Int).toNat)).bind fun t466 => (if t466.toList = (a3.extract ((ji5) : Int).toNat a3.size).toList then ((samphireref05_Stream.f k a0 a1 1 (a3.extract 0 ((ji5) : Int).toNat)).bind fun bt467 => (some (bt467.1, 0))) else (some ((⟨#[]⟩ : ByteArray), 70)))) else (none)) else (none))) = some (r1, r2) := by rw [if_pos rfl] at H; exact H
  clear H; have H := H1; clear H1; by_cases c8 : (a3.size : Int) < 16
  ·rw [if_pos c8] at H; have c8b0 : decide ((a3.size : Int) < 16) = true := decide_eq_true c8; have c8b1 : decide (a3.size < 16) = true := decide_eq_true (by omega); clear c8; simp only [Option.some.injEq, Prod.mk.injEq] at H; obtain ⟨rfl, rfl⟩ := H; go_enter Tryz.func39, Tryz.ntmps39
   try go_wp2_with (first | ((with_reducible refine gate_callee (f := 70) rfl ?_); refine goesL_ (some 22) rfl rfl Tryz.func70 (by kernel_rfl) rfl #[.string a0, .string a1, .int .i64 (a2.size : Int), .int .i64 ji5] rfl (by (try simp only [List.map_toArray, List.map_cons, List.map_nil]); first | done | (simp only [hji5]; rfl) | rfl | (simp only [List.length_drop, List.length_take]; rfl)) ?_; (with_reducible refine (samphireref07_may.calls a0 a1 (a2.size : Int) ji5 true _ A6.out).mono ?_); rintro e w' ⟨rfl, ⟨nd, rfl⟩⟩; refine ⟨_, rfl, ?_⟩))
   replace HB := Aside0.mk (below_drew1 (pw_below_drewN HB.out nd)); refine start_ (n := 16) (S := fun w' => True) (ds := []) #[false, false, false, false, false, false, false, false, false, false, false, false, false, false, false, false] (by kernel_rfl) rfl rfl trivial (fun hHeld => ?_); refine with_tabW samphireref07_Open.tab4 samphireref07_Open.bits4 (fun HT_ HW_ => ?_); generalize (w.drewN nd).drew = w9 at HB hHeld ⊢; refine pz_ 0 24 rfl rfl (any_of HT_.out (by kernel_rfl)) ?_; refine pz_ 1 25 rfl rfl (any_of HT_.out (by kernel_rfl)) ?_; refine pz_ 2 26 rfl rfl (any_of HT_.out (by kernel_rfl)) ?_; refine pz_ 3 27 rfl rfl (any_of HT_.out (by kernel_rfl)) ?_; refine pure_ (i := 4) (N := some 28) (v := undef) (a' := ?_) #[true, true, true, true, true, false, false, false, false, false, false, false, false, false, false, false] rfl rfl (any_of HT_.out (by kernel_rfl)) (fun _ _ _ h => h) (Or.inr ⟨by rfl, rfl⟩) ?_ ?_; rotate_left
   ·simp only [Act.put, List.setIfInBounds_toArray, List.set_cons_zero, List.set_cons_succ, i64_w, i32_w]; rfl
   refine pure_ (i := 5) (N := some 29) (v := undef) (a' := ?_) #[true, true, true, true, true, true, false, false, false, false, false, false, false, false, false, false] rfl rfl (any_of HT_.out (by kernel_rfl)) (fun _ _ _ h => h) (Or.inr ⟨by rfl, rfl⟩) ?_ ?_; rotate_left
   ·simp only [Act.put, List.setIfInBounds_toArray, List.set_cons_zero, List.set_cons_succ, i64_w, i32_w]; rfl
   refine pure_ (i := 6) (N := some 30) (v := undef) (a' := ?_) #[true, true, true, true, true, true, true, false, false, false, false, false, false, false, false, false] rfl rfl (any_of HT_.out (by kernel_rfl)) (fun _ _ _ h => h) (Or.inr ⟨by rfl, rfl⟩) ?_ ?_; rotate_left
   ·simp only [Act.put, List.setIfInBounds_toArray, List.set_cons_zero, List.set_cons_succ, i64_w, i32_w]; rfl
   refine pure_ (i := 7) (N := some 31) (v := undef) (a' := ?_) #[true, true, true, true, true, true, true, true, false, false, false, false, false, false, false, false] rfl rfl (any_of HT_.out (by kernel_rfl)) (fun _ _ _ h => h) (Or.inr ⟨by rfl, rfl⟩) ?_ ?_; rotate_left
   ·simp only [Act.put, List.setIfInBounds_toArray, List.set_cons_zero, List.set_cons_succ, i64_w, i32_w]; rfl
   refine pure_ (i := 8) (N := some 32) (v := undef) (a' := ?_) #[true, true, true, true, true, true, true, true, true, false, false, false, false, false, false, false] rfl rfl (any_of HT_.out (by kernel_rfl)) (fun _ _ _ h => h) (Or.inr ⟨by rfl, rfl⟩) ?_ ?_; rotate_left
   ·simp only [Act.put, List.setIfInBounds_toArray, List.set_cons_zero, List.set_cons_succ, i64_w, i32_w]; rfl
   refine pure_ (i := 9) (N := some 33) (v := undef) (a' := ?_) #[true, true, true, true, true, true, true, true, true, true, false, false, false, false, false, false] rfl rfl (any_of HT_.out (by kernel_rfl)) (fun _ _ _ h => h) (Or.inr ⟨by rfl, rfl⟩) ?_ ?_; rotate_left
   ·simp only [Act.put, List.setIfInBounds_toArray, List.set_cons_zero, List.set_cons_succ, i64_w, i32_w]; rfl
   refine pure_ (i := 10) (N := some 34) (v := undef) (a' := ?_) #[true, true, true, true, true, true, true, true, true, true, true, false, false, false, false, false] rfl rfl (any_of HT_.out (by kernel_rfl)) (fun _ _ _ h => h) (Or.inr ⟨by rfl, rfl⟩) ?_ ?_; rotate_left
   ·simp only [Act.put, List.setIfInBounds_toArray, List.set_cons_zero, List.set_cons_succ, i64_w, i32_w]; rfl
   refine pure_ (i := 11) (N := some 35) (v := undef) (a' := ?_) #[true, true, true, true, true, true, true, true, true, true, true, true, false, false, false, false] rfl rfl (any_of HT_.out (by kernel_rfl)) (fun _ _ _ h => h) (Or.inr ⟨by rfl, rfl⟩) ?_ ?_; rotate_left
   ·simp only [Act.put, List.setIfInBounds_toArray, List.set_cons_zero, List.set_cons_succ, i64_w, i32_w]; rfl
   refine pure_ (i := 12) (N := some 36) (v := undef) (a' := ?_) #[true, true, true, true, true, true, true, true, true, true, true, true, true, false, false, false] rfl rfl (any_of HT_.out (by kernel_rfl)) (fun _ _ _ h => h) (Or.inr ⟨by rfl, rfl⟩) ?_ ?_; rotate_left
   ·simp only [Act.put, List.setIfInBounds_toArray, List.set_cons_zero, List.set_cons_succ, i64_w, i32_w]; rfl
   refine pure_ (i := 13) (N := some 37) (v := undef) (a' := ?_) #[true, true, true, true, true, true, true, true, true, true, true, true, true, true, false, false] rfl rfl (any_of HT_.out (by kernel_rfl)) (fun _ _ _ h => h) (Or.inr ⟨by rfl, rfl⟩) ?_ ?_; rotate_left
   ·simp only [Act.put, List.setIfInBounds_toArray, List.set_cons_zero, List.set_cons_succ, i64_w, i32_w]; rfl
   refine pure_ (i := 14) (N := some 38) (v := undef) (a' := ?_) #[true, true, true, true, true, true, true, true, true, true, true, true, true, true, true, false] rfl rfl (any_of HT_.out (by kernel_rfl)) (fun _ _ _ h => h) (Or.inr ⟨by rfl, rfl⟩) ?_ ?_; rotate_left
   ·simp only [Act.put, List.setIfInBounds_toArray, List.set_cons_zero, List.set_cons_succ, i64_w, i32_w]; rfl
   refine pz_ 15 39 rfl rfl (any_of HT_.out (by kernel_rfl)) ?_; refine done_ (done_of HT_.out (by kernel_rfl)) ?_; try go_wp2
   go_ret2
   exact ⟨by first | rfl | (simp [errW_none, errW_some] <;> rfl) | (simp only [← hji5]; first | rfl | (simp [errW_none, errW_some] <;> rfl)) | (simp [*, errW_none, errW_some] <;> rfl), hb_⟩
  ·rw [if_neg c8] at H; have c8b0 : decide ((a3.size : Int) < 16) = false := decide_eq_false c8; have c8b1 : decide (a3.size < 16) = false := decide_eq_false (by omega); clear c8; by_cases c10 : 0 ≤ (ji5)
   ·rw [if_pos c10] at H; have c10b0 := eq_true c10; have c10b1 : decide (0 ≤ (ji5)) = true := decide_eq_true c10; clear c10; by_cases c11 : (ji5) ≤ (a3.size : Int)
    ·rw [if_pos c11] at H; have c11b0 := eq_true c11; have c11b1 : decide ((ji5) ≤ (a3.size : Int)) = true := decide_eq_true c11; clear c11; replace H := Option.bind_eq_some_iff.mp H; obtain ⟨t466, A120, H⟩ := H; have A12 := Aside0.mk A120; clear A120; have c13b0 := eq_true (of_decide_eq_true as_' : 0 ≤ (ji5)); have c14b0 := eq_true (of_decide_eq_true as_' : (ji5) ≤ (a3.size : Int)); by_cases c15 : t466.toList = (a3.extract ((ji5) : Int).toNat a3.size).toList
     ·rw [if_pos c15] at H; have c15b0 : (t466.toList == (a3.extract ((ji5) : Int).toNat a3.size).toList) = true := beq_iff_eq.mpr c15; have c15b1 : (t466.toList != (a3.extract ((ji5) : Int).toNat a3.size).toList) = false := bne_eq_false_iff_eq.mpr c15; clear c15; have c16b0 := eq_true (of_decide_eq_true as_' : 0 ≤ (ji5)); have c17b0 := eq_true (of_decide_eq_true as_' : (ji5) ≤ (a3.size : Int)); replace H := Option.bind_eq_some_iff.mp H; obtain ⟨⟨t467, t468⟩, A180, H⟩ := H; try dsimp only at H
      have A18 := Aside0.mk A180; clear A180; simp only [Option.some.injEq, Prod.mk.injEq] at H; obtain ⟨rfl, rfl⟩ := H; go_enter Tryz.func39, Tryz.ntmps39
      try go_wp2_with (first | ((with_reducible refine gate_callee (f := 70) rfl ?_); refine goesL_ (some 22) rfl rfl Tryz.func70 (by kernel_rfl) rfl #[.string a0, .string a1, .int .i64 (a2.size : Int), .int .i64 ji5] rfl (by (try simp only [List.map_toArray, List.map_cons, List.map_nil]); first | done | (simp only [hji5]; rfl) | rfl | (simp only [List.length_drop, List.length_take]; rfl)) ?_; (with_reducible refine (samphireref07_may.calls a0 a1 (a2.size : Int) ji5 true _ A6.out).mono ?_); rintro e w' ⟨rfl, ⟨nd, rfl⟩⟩; refine ⟨_, rfl, ?_⟩))
      replace HB := Aside0.mk (below_drew1 (pw_below_drewN HB.out nd)); refine start_ (n := 16) (S := fun w' => True) (ds := []) #[false, false, false, false, false, false, false, false, false, false, false, false, false, false, false, false] (by kernel_rfl) rfl rfl trivial (fun hHeld => ?_); refine with_tabW samphireref07_Open.tab4 samphireref07_Open.bits4 (fun HT_ HW_ => ?_); generalize (w.drewN nd).drew = w19 at HB hHeld ⊢; refine pz_ 0 24 rfl rfl (any_of HT_.out (by kernel_rfl)) ?_; refine pz_ 1 25 rfl rfl (any_of HT_.out (by kernel_rfl)) ?_; refine pz_ 2 26 rfl rfl (any_of HT_.out (by kernel_rfl)) ?_; refine pz_ 3 27 rfl rfl (any_of HT_.out (by kernel_rfl)) ?_; refine pz_ 4 28 rfl rfl (any_of HT_.out (by kernel_rfl)) ?_; refine pz_ 5 29 rfl rfl (any_of HT_.out (by kernel_rfl)) ?_; refine pz_ 6 30 rfl rfl (any_of HT_.out (by kernel_rfl)) ?_; refine pz_ 7 31 rfl rfl (any_of HT_.out (by kernel_rfl)) ?_; refine pz_ 8 32 rfl rfl (any_of HT_.out (by kernel_rfl)) ?_; refine pz_ 9 33 rfl rfl (any_of HT_.out (by kernel_rfl)) ?_; refine pz_ 11 35 rfl rfl (any_of HT_.out (by kernel_rfl)) ?_; refine pz_ 12 36 rfl rfl (any_of HT_.out (by kernel_rfl)) ?_; refine pz_ 13 37 rfl rfl (any_of HT_.out (by kernel_rfl)) ?_; refine one_ (i := 10) (N := some 34) #[true, true, true, true, true, true, true, true, true, true, true, true, true, true, false, false] rfl rfl (one_of HT_.out (by kernel_rfl)) (by decide) (fun K hK => ?_); refine goes_ Tryz.func72 (by kernel_rfl) rfl #[.string a0, .string a1, .string a2, .string (a3.extract 0 ((ji5) : Int).toNat)] (by rfl) rfl rfl (by (try simp only [List.map_toArray, List.map_cons, List.map_nil]); first | done | (simp only [hji5]; rfl) | rfl | (simp only [List.length_drop, List.length_take]; rfl)) ?_; with_reducible refine (samphireref07_Tag.calls k a0 a1 a2 (a3.extract 0 ((ji5) : Int).toNat) t466 _ A12.out).mono ?_
      rintro e w20 ⟨rfl, hb⟩; refine ⟨_, rfl, ?_⟩; replace HB := Aside0.mk (below_step hb_ hb); refine hK.out _ _ trivial (fun hHeld => ?_); clear hK K; refine norm_ sa_ ?_; refine pz_ 14 38 rfl rfl (any_of HT_.out (by kernel_rfl)) ?_; refine pz_ 15 39 rfl rfl (any_of HT_.out (by kernel_rfl)) ?_; refine done_ (done_of HT_.out (by kernel_rfl)) ?_; try go_wp2_with (first | ((with_reducible refine gate_callee (f := 71) rfl ?_); refine goesL_ (some 46) rfl rfl Tryz.func71 (by kernel_rfl) rfl #[.string a0, .string a1, .int .i64 1, .string (a3.extract 0 ((ji5) : Int).toNat)] rfl (by (try simp only [List.map_toArray, List.map_cons, List.map_nil]); first | done | (simp only [hji5]; rfl) | rfl | (simp only [List.length_drop, List.length_take]; rfl)) ?_; (with_reducible refine (samphireref05_Stream.calls k a0 a1 1 (a3.extract 0 ((ji5) : Int).toNat) t467 t468 _ A18.out).mono ?_); rintro e w21 ⟨rfl, hb⟩; refine ⟨_, rfl, ?_⟩; replace HB := Aside0.mk (below_step hb_ hb)))
      go_ret2
      exact ⟨by first | rfl | (simp [errW_none, errW_some] <;> rfl) | (simp only [← hji5]; first | rfl | (simp [errW_none, errW_some] <;> rfl)) | (simp [*, errW_none, errW_some] <;> rfl), hb_⟩
     ·rw [if_neg c15] at H; have c15b0 : (t466.toList == (a3.extract ((ji5) : Int).toNat a3.size).toList) = false := beq_eq_false_iff_ne.mpr c15; have c15b1 : (t466.toList != (a3.extract ((ji5) : Int).toNat a3.size).toList) = true := bne_iff_ne.mpr c15; simp only [Option.some.injEq, Prod.mk.injEq] at H; obtain ⟨rfl, rfl⟩ := H; go_enter Tryz.func39, Tryz.ntmps39
      try go_wp2_with (first | ((with_reducible refine gate_callee (f := 70) rfl ?_); refine goesL_ (some 22) rfl rfl Tryz.func70 (by kernel_rfl) rfl #[.string a0, .string a1, .int .i64 (a2.size : Int), .int .i64 ji5] rfl (by (try simp only [List.map_toArray, List.map_cons, List.map_nil]); first | done | (simp only [hji5]; rfl) | rfl | (simp only [List.length_drop, List.length_take]; rfl)) ?_; (with_reducible refine (samphireref07_may.calls a0 a1 (a2.size : Int) ji5 true _ A6.out).mono ?_); rintro e w' ⟨rfl, ⟨nd, rfl⟩⟩; refine ⟨_, rfl, ?_⟩))
      replace HB := Aside0.mk (below_drew1 (pw_below_drewN HB.out nd)); refine start_ (n := 16) (S := fun w' => True) (ds := []) #[false, false, false, false, false, false, false, false, false, false, false, false, false, false, false, false] (by kernel_rfl) rfl rfl trivial (fun hHeld => ?_); refine with_tabW samphireref07_Open.tab4 samphireref07_Open.bits4 (fun HT_ HW_ => ?_); generalize (w.drewN nd).drew = w22 at HB hHeld ⊢; refine pz_ 0 24 rfl rfl (any_of HT_.out (by kernel_rfl)) ?_; refine pz_ 1 25 rfl rfl (any_of HT_.out (by kernel_rfl)) ?_; refine pz_ 2 26 rfl rfl (any_of HT_.out (by kernel_rfl)) ?_; refine pz_ 3 27 rfl rfl (any_of HT_.out (by kernel_rfl)) ?_; refine pz_ 4 28 rfl rfl (any_of HT_.out (by kernel_rfl)) ?_; refine pz_ 5 29 rfl rfl (any_of HT_.out (by kernel_rfl)) ?_; refine pz_ 6 30 rfl rfl (any_of HT_.out (by kernel_rfl)) ?_; refine pz_ 7 31 rfl rfl (any_of HT_.out (by kernel_rfl)) ?_; refine pz_ 8 32 rfl rfl (any_of HT_.out (by kernel_rfl)) ?_; refine pz_ 9 33 rfl rfl (any_of HT_.out (by kernel_rfl)) ?_; refine pz_ 11 35 rfl rfl (any_of HT_.out (by kernel_rfl)) ?_; refine pz_ 12 36 rfl rfl (any_of HT_.out (by kernel_rfl)) ?_; refine pz_ 13 37 rfl rfl (any_of HT_.out (by kernel_rfl)) ?_; refine one_ (i := 10) (N := some 34) #[true, true, true, true, true, true, true, true, true, true, true, true, true, true, false, false] rfl rfl (one_of HT_.out (by kernel_rfl)) (by decide) (fun K hK => ?_); refine goes_ Tryz.func72 (by kernel_rfl) rfl #[.string a0, .string a1, .string a2, .string (a3.extract 0 ((ji5) : Int).toNat)] (by rfl) rfl rfl (by (try simp only [List.map_toArray, List.map_cons, List.map_nil]); first | done | (simp only [hji5]; rfl) | rfl | (simp only [List.length_drop, List.length_take]; rfl)) ?_; with_reducible refine (samphireref07_Tag.calls k a0 a1 a2 (a3.extract 0 ((ji5) : Int).toNat) t466 _ A12.out).mono ?_
      rintro e w23 ⟨rfl, hb⟩; refine ⟨_, rfl, ?_⟩; replace HB := Aside0.mk (below_step hb_ hb); refine hK.out _ _ trivial (fun hHeld => ?_); clear hK K; refine norm_ sa_ ?_; refine pz_ 14 38 rfl rfl (any_of HT_.out (by kernel_rfl)) ?_; refine pz_ 15 39 rfl rfl (any_of HT_.out (by kernel_rfl)) ?_; refine done_ (done_of HT_.out (by kernel_rfl)) ?_; try go_wp2
      go_ret2
      exact ⟨by first | rfl | (simp [errW_none, errW_some] <;> rfl) | (simp only [← hji5]; first | rfl | (simp [errW_none, errW_some] <;> rfl)) | (simp [*, errW_none, errW_some] <;> rfl), hb_⟩
    ·rw [if_neg c11] at H; exact absurd H (by simp)
   ·rw [if_neg c10] at H; exact absurd H (by simp)
 ·replace c7 := Bool.eq_false_iff.mpr c7; subst c7; have H1 : (some ((⟨#[]⟩ : ByteArray), 1)) = some (r1, r2) := by rw [if_neg (show ¬ (false = true) by decide)] at H; exact H
  clear H; have H := H1; clear H1; simp only [Option.some.injEq, Prod.mk.injEq] at H; obtain ⟨rfl, rfl⟩ := H; go_enter Tryz.func39, Tryz.ntmps39
  go_wp2_with (first | ((with_reducible refine gate_callee (f := 70) rfl ?_); refine goesL_ (some 22) rfl rfl Tryz.func70 (by kernel_rfl) rfl #[.string a0, .string a1, .int .i64 (a2.size : Int), .int .i64 ji5] rfl (by (try simp only [List.map_toArray, List.map_cons, List.map_nil]); first | done | (simp only [hji5]; rfl) | rfl | (simp only [List.length_drop, List.length_take]; rfl)) ?_; (with_reducible refine (samphireref07_may.calls a0 a1 (a2.size : Int) ji5 false _ A6.out).mono ?_); rintro e w' ⟨rfl, ⟨nd, rfl⟩⟩; refine ⟨_, rfl, ?_⟩))
  go_ret2
  exact ⟨by first | rfl | (simp [errW_none, errW_some] <;> rfl) | (simp only [← hji5]; first | rfl | (simp [errW_none, errW_some] <;> rfl)) | (simp [*, errW_none, errW_some] <;> rfl), hb_⟩
end Go.Proofs.YtbkbganflnemeaaGreat.Pr
end

section
namespace Go.Proofs.YtbkbganflnemeaaGreat.Pr
open Go.RowKit Go.Proofs.YtbkbganflnemeaaGreatW.PrintWords Go.Proofs.YtbkbganflnemeaaGreatW.PrintLast Go.Proofs.YtbkbganflnemeaaGreatW.PrintMore
set_option maxHeartbeats 1000000
theorem rSeal_f (a0 a1 a2 a3 : ByteArray) (h2 : a2.size ≤ 1000000000000000) (h3 : a3.size ≤ 1000000000000000) (k : Nat) (hk : 6000 ≤ k) : samphireref07_Seal.f k a0 a1 a2 a3 = some (sealF a0 a1 a2 a3) := by
 unfold samphireref07_Seal.f sealF
 rw [rmay_f a0 a1 _ _ h2 h3, Option.bind_some]
 by_cases hc : aeadOK a0 a1 a2.size a3.size
 ·rw [if_pos hc, if_pos (decide_eq_true hc)]
  obtain ⟨k0, k1, k2, k3⟩ := hc
  have hb : bys (txt (streamL (bys a0) (bys a1) 1 (bys a3))) = streamL (bys a0) (bys a1) 1 (bys a3) := bys_txt (streamL_lt _ _ _ _ (bys_lt' _))
  have hz : (txt (streamL (bys a0) (bys a1) 1 (bys a3))).size = a3.size := by rw [txt_size, streamL_length, bys_length]
  rw [rStream_f a0 a1 a3 k0 k1 (by omega) k (by omega), Option.bind_some]
  dsimp only
  rw [rTag_f _ _ _ _ k0 k1 (by rw [hz]; omega) k (by omega), Option.bind_some, hb, if_pos (by rw [hz, txt_size, tagL_length]; omega), txt_append]
 ·rw [if_neg hc, if_neg (by rw [decide_eq_false hc]; decide)]
theorem rOpen_f (a0 a1 a2 a3 : ByteArray) (h2 : a2.size ≤ 1000000000000000) (h3 : a3.size ≤ 1000000000000000) (k : Nat) (hk : 6000 ≤ k) : samphireref07_Open.f k a0 a1 a2 a3 = some (openF a0 a1 a2 a3) := by
 unfold samphireref07_Open.f openF
 have hm : mx 0 (wrap64 ((a3.size : Int) - 16)) = ((a3.size - 16 : Nat) : Int) := by
  have e : wrap64 ((a3.size : Int) - 16) = (a3.size : Int) - 16 := by unfold wrap64; omega
  rw [e]; unfold mx; split <;> omega
 rw [hm, rmay_f a0 a1 _ _ h2 (by omega), Option.bind_some]
 by_cases hc : aeadOK a0 a1 a2.size (a3.size - 16)
 ·rw [if_pos hc, if_pos (decide_eq_true hc)]
  obtain ⟨k0, k1, k2, k3⟩ := hc
  by_cases hs : a3.size < 16
  ·rw [if_pos hs, if_pos (by omega)]
  ·have hz : (a3.extract 0 (a3.size - 16)).size = a3.size - 16 := by rw [ByteArray.size_extract]; omega
   have hb : bys (a3.extract 0 (a3.size - 16)) = (bys a3).take (a3.size - 16) := by rw [bys_extract]; rfl
   have hd : bys (a3.extract (a3.size - 16) a3.size) = (bys a3).drop (a3.size - 16) := by rw [bys_extract, List.take_of_length_le (by rw [List.length_drop, bys_length]; omega)]
   have ht : ((txt (tagL (bys a0) (bys a1) (bys a2) ((bys a3).take (a3.size - 16)))).toList = (a3.extract (a3.size - 16) a3.size).toList) = (tagL (bys a0) (bys a1) (bys a2) ((bys a3).take (a3.size - 16)) = (bys a3).drop (a3.size - 16)) := by
    apply propext
    rw [← hd, ByteArray.toList_eq, ByteArray.toList_eq]
    constructor
    ·intro h
     have := congrArg (List.map UInt8.toNat) h
     have e : bys (txt (tagL (bys a0) (bys a1) (bys a2) ((bys a3).take (a3.size - 16)))) = tagL (bys a0) (bys a1) (bys a2) ((bys a3).take (a3.size - 16)) := bys_txt (tagL_lt _ _ _ _)
     rw [← e]
     exact this
    ·intro h
     rw [h, txt_bys]
   rw [if_neg hs, if_neg (by omega), if_pos (by omega), if_pos (by omega), Int.toNat_natCast, rTag_f _ _ _ _ k0 k1 (by rw [hz]; omega) k (by omega), Option.bind_some, hb]
   simp only [ht]
   split
   ·rw [rStream_f a0 a1 _ k0 k1 (by rw [hz]; omega) k (by omega), Option.bind_some, hb]
   ·rfl
 ·rw [if_neg hc, if_neg (by rw [decide_eq_false hc]; decide)]
end Go.Proofs.YtbkbganflnemeaaGreat.Pr
end

section
namespace Go.Proofs.YtbkbganflnemeaaGreat.Pr
open Go.RowKit Go.Proofs.YtbkbganflnemeaaGreatW.PrintWords Go.Proofs.YtbkbganflnemeaaGreatW.PrintLast Go.Proofs.YtbkbganflnemeaaGreatW.PrintMore
attribute [local go_sem] max2_int min2_int max_two min_two max_three min_three max_four min_four
def samphireref15_may.f (a0 : ByteArray) (a1 : Int) (a2 : Int) : Option (Bool) := if (a0.size : Int) = 32 then (if a1 ≥ 1 then (if a1 ≤ 6 then (if a2 ≥ 1 then (some (decide (a2 ≤ 1099511627775))) else (some false)) else (some false)) else (some false)) else (some false)
set_option maxHeartbeats 8000000 in
set_option maxRecDepth 100000 in
theorem samphireref15_may.calls (a0 : ByteArray) (a1 : Int) (a2 : Int) (r : Bool) (w : World) (h : samphireref15_may.f a0 a1 a2 = some r) :
  Calls Tryz.prog 34 #[.string a0, .int .i64 a1, .int .i64 a2] w fun e w' => e = .returned (.bool r) ∧ Drawn0 w w' := by
 have H : (if (a0.size : Int) = 32 then (if a1 ≥ 1 then (if a1 ≤ 6 then (if a2 ≥ 1 then (some (decide (a2 ≤ 1099511627775))) else (some false)) else (some false)) else (some false)) else (some false)) = some r := h; clear h; by_cases c4 : (a0.size : Int) = 32
 ·rw [if_pos c4] at H; have c4b0 : ((a0.size : Int) == 32) = true := beq_iff_eq.mpr c4; have c4b1 : ((a0.size : Int) != 32) = false := bne_eq_false_iff_eq.mpr c4; clear c4; by_cases c5 : a1 ≥ 1
  ·rw [if_pos c5] at H; have c5b0 : decide (1 ≤ a1) = true := decide_eq_true c5; clear c5; by_cases c6 : a1 ≤ 6
   ·rw [if_pos c6] at H; have c6b0 : decide (a1 ≤ 6) = true := decide_eq_true c6; clear c6; by_cases c7 : a2 ≥ 1
    ·rw [if_pos c7] at H; have c7b0 : decide (1 ≤ a2) = true := decide_eq_true c7; clear c7; obtain rfl := Option.some.inj H; go_enter Tryz.func34, Tryz.ntmps34
     go_wp2; go_ret
     exact ⟨rz_, dz_⟩
    ·rw [if_neg c7] at H; have c7b0 : decide (1 ≤ a2) = false := decide_eq_false c7; clear c7; obtain rfl := Option.some.inj H; go_enter Tryz.func34, Tryz.ntmps34
     go_wp2; go_ret
     exact ⟨rz_, dz_⟩
   ·rw [if_neg c6] at H; have c6b0 : decide (a1 ≤ 6) = false := decide_eq_false c6; clear c6; obtain rfl := Option.some.inj H; go_enter Tryz.func34, Tryz.ntmps34
    go_wp2; go_ret
    exact ⟨rz_, dz_⟩
  ·rw [if_neg c5] at H; have c5b0 : decide (1 ≤ a1) = false := decide_eq_false c5; clear c5; obtain rfl := Option.some.inj H; go_enter Tryz.func34, Tryz.ntmps34
   go_wp2; go_ret
   exact ⟨rz_, dz_⟩
 ·rw [if_neg c4] at H; have c4b0 : ((a0.size : Int) == 32) = false := beq_eq_false_iff_ne.mpr c4; have c4b1 : ((a0.size : Int) != 32) = true := bne_iff_ne.mpr c4; obtain rfl := Option.some.inj H; go_enter Tryz.func34, Tryz.ntmps34
  go_wp2; go_ret
  exact ⟨rz_, dz_⟩
def samphireref15_Wrap.j0 : Nat → ByteArray → Int → Int → ByteArray → Bool → Option (ByteArray × Int)
 | 0, _, _, _, _, _ => none
 | k + 1, x0, x1, x2, x3, x23 => if x23 = true then (some ((⟨#[]⟩ : ByteArray), 1)) else ((samphireref04_Expand.f k x0 (⟨#[119, 114, 97, 112]⟩ : ByteArray) 32).bind fun bt459 => ((samphireref15_Nonce.f k x1 x2).bind fun bt461 => ((samphireref07_Seal.f k bt459.1 bt461.1 (⟨#[119, 114, 97, 112]⟩ : ByteArray) x3).bind fun bt463 => (some (bt463.1, bt463.2)))))
def samphireref15_Wrap.f (k : Nat) (a0 : ByteArray) (a1 : Int) (a2 : Int) (a3 : ByteArray) : Option (ByteArray × Int) := (samphireref15_may.f a0 a1 a2).bind fun t458 => (if t458 = true then (samphireref15_Wrap.j0 k a0 a1 a2 a3 ((a3.size : Int) != 32)) else (samphireref15_Wrap.j0 k a0 a1 a2 a3 true))
set_option maxHeartbeats 8000000 in
set_option maxRecDepth 100000 in
theorem samphireref15_Wrap.calls (k : Nat) (a0 : ByteArray) (a1 : Int) (a2 : Int) (a3 : ByteArray) (r1 : ByteArray) (r2 : Int) (w : World) (h : samphireref15_Wrap.f k a0 a1 a2 a3 = some (r1, r2)) :
    Calls Tryz.prog 10 #[.string a0, .int .i64 a1, .int .i64 a2, .string a3] w fun e w' => e = .returned (.tuple #[.string r1, .int .i64 r2]) ∧ Below w.heap.size w w' := by
  have HB := Aside0.mk (Below.refl w.heap.size w); have H : ((samphireref15_may.f a0 a1 a2).bind fun t458 => (if t458 = true then (samphireref15_Wrap.j0 k a0 a1 a2 a3 ((a3.size : Int) != 32)) else (samphireref15_Wrap.j0 k a0 a1 a2 a3 true))) = some (r1, r2) := h; clear h; have HC5 := Aside0.mk H; clear H; go_enter Tryz.func10, Tryz.ntmps10
  go_upto_region 1 with (fail)
  go_cut [23] (fun v23 wc => ∃ (kq : Nat) (x23_4 : Bool), v23 = .bool x23_4 ∧ Aside0 (samphireref15_Wrap.j0 kq a0 a1 a2 a3 x23_4 = some (r1, r2)) ∧ Aside0 (kq ≤ k) ∧ Aside0 (Below w.heap.size w wc))
  case first =>
    have H := HC5.out; clear HC5; replace H := Option.bind_eq_some_iff.mp H; obtain ⟨t458, A60, H⟩ := H; have A6 := Aside0.mk A60; clear A60; by_cases c7 : t458 = true
    · subst c7; have H1 : (samphireref15_Wrap.j0 k a0 a1 a2 a3 ((a3.size : Int) != 32)) = some (r1, r2) := by rw [if_pos rfl] at H; exact H
      clear H; have H := H1; clear H1; have H' := Aside0.mk H; clear H; go_wp2_with (first | ((with_reducible refine gate_callee (f := 34) rfl ?_); refine gl_ 17 Tryz.func34 #[.string a0, .int .i64 a1, .int .i64 a2] ?_; (with_reducible refine (samphireref15_may.calls a0 a1 a2 true _ A6.out).mono ?_); rintro e w' ⟨rfl, ⟨nd, rfl⟩⟩; refine ⟨_, rfl, ?_⟩))
      go_meet
      case rel => exact ⟨_, (((a3.size : Int) != 32)), rz_, H', ⟨by first | omega | exact Nat.le_refl _⟩, ⟨hb_⟩⟩
    · replace c7 := Bool.eq_false_iff.mpr c7; subst c7; have H1 : (samphireref15_Wrap.j0 k a0 a1 a2 a3 true) = some (r1, r2) := by rw [if_neg (show ¬ (false = true) by decide)] at H; exact H
      clear H; have H := H1; clear H1; have H' := Aside0.mk H; clear H; go_wp2_with (first | ((with_reducible refine gate_callee (f := 34) rfl ?_); refine gl_ 17 Tryz.func34 #[.string a0, .int .i64 a1, .int .i64 a2] ?_; (with_reducible refine (samphireref15_may.calls a0 a1 a2 false _ A6.out).mono ?_); rintro e w' ⟨rfl, ⟨nd, rfl⟩⟩; refine ⟨_, rfl, ?_⟩))
      go_meet
      case rel => exact ⟨_, (true), rz_, H', ⟨by first | omega | exact Nat.le_refl _⟩, ⟨hb_⟩⟩
  case rest =>
    clear HC5; obtain ⟨kq, x23_4, rfl, HA, HJ4, HB⟩ := hcut; cases kq with
    | zero => exact absurd HA.out (by simp [samphireref15_Wrap.j0])
    | succ kj4 =>
      have H := HA.out; clear HA; simp only [samphireref15_Wrap.j0] at H; by_cases c8 : x23_4 = true
      · subst c8; have H1 : (some ((⟨#[]⟩ : ByteArray), 1)) = some (r1, r2) := by rw [if_pos rfl] at H; exact H
        clear H; have H := H1; clear H1; simp only [Option.some.injEq, Prod.mk.injEq] at H; obtain ⟨rfl, rfl⟩ := H; go_wp2; go_ret2
        exact ⟨ew_, hb_⟩
      · replace c8 := Bool.eq_false_iff.mpr c8; subst c8; have H1 : ((samphireref04_Expand.f kj4 a0 (⟨#[119, 114, 97, 112]⟩ : ByteArray) 32).bind fun bt459 => ((samphireref15_Nonce.f kj4 a1 a2).bind fun bt461 => ((samphireref07_Seal.f kj4 bt459.1 bt461.1 (⟨#[119, 114, 97, 112]⟩ : ByteArray) a3).bind fun bt463 => (some (bt463.1, bt463.2))))) = some (r1, r2) := by rw [if_neg (show ¬ (false = true) by decide)] at H; exact H
        clear H; have H := H1; clear H1; replace H := Option.bind_eq_some_iff.mp H; obtain ⟨⟨t459, t460⟩, A90, H⟩ := H; try dsimp only at H
        have A9 := Aside0.mk A90; clear A90; replace H := Option.bind_eq_some_iff.mp H; obtain ⟨⟨t461, t462⟩, A100, H⟩ := H; try dsimp only at H
        have A10 := Aside0.mk A100; clear A100; replace H := Option.bind_eq_some_iff.mp H; obtain ⟨⟨t463, t464⟩, A110, H⟩ := H; try dsimp only at H
        have A11 := Aside0.mk A110; clear A110; simp only [Option.some.injEq, Prod.mk.injEq] at H; obtain ⟨rfl, rfl⟩ := H; go_wp2_with (first | ((with_reducible refine gate_callee (f := 35) rfl ?_); refine gl_ 26 Tryz.func35 #[.string a0, .string (⟨#[119, 114, 97, 112]⟩ : ByteArray), .int .i64 32] ?_; (with_reducible refine (samphireref04_Expand.calls kj4 a0 (⟨#[119, 114, 97, 112]⟩ : ByteArray) 32 t459 t460 _ A9.out).mono ?_); rintro e w12 ⟨rfl, hb⟩; refine ⟨_, rfl, ?_⟩; replace HB := Aside0.mk (below_step hb_ hb)) | ((with_reducible refine gate_callee (f := 36) rfl ?_); refine gl_ 32 Tryz.func36 #[.int .i64 a1, .int .i64 a2] ?_; (with_reducible refine (samphireref15_Nonce.calls kj4 a1 a2 t461 t462 _ A10.out).mono ?_); rintro e w13 ⟨rfl, hb⟩; refine ⟨_, rfl, ?_⟩; replace HB := Aside0.mk (below_step hb_ hb)) | ((with_reducible refine gate_callee (f := 37) rfl ?_); refine gl_ 38 Tryz.func37 #[.string t459, .string t461, .string (⟨#[119, 114, 97, 112]⟩ : ByteArray), .string a3] ?_; (with_reducible refine (samphireref07_Seal.calls kj4 t459 t461 (⟨#[119, 114, 97, 112]⟩ : ByteArray) a3 t463 t464 _ A11.out).mono ?_); rintro e w14 ⟨rfl, hb⟩; refine ⟨_, rfl, ?_⟩; replace HB := Aside0.mk (below_step hb_ hb)))
        go_ret2
        exact ⟨ew_, hb_⟩
def samphireref15_Unwrap.f (k : Nat) (a0 : ByteArray) (a1 : Int) (a2 : Int) (a3 : ByteArray) : Option (ByteArray × Int) := (samphireref15_may.f a0 a1 a2).bind fun t469 => (if t469 = true then ((samphireref04_Expand.f k a0 (⟨#[119, 114, 97, 112]⟩ : ByteArray) 32).bind fun bt470 => ((samphireref15_Nonce.f k a1 a2).bind fun bt472 => ((samphireref07_Open.f k bt470.1 bt472.1 (⟨#[119, 114, 97, 112]⟩ : ByteArray) a3).bind fun bt474 => (if bt474.2 = 0 then (if (bt474.1.size : Int) = 32 then (some (bt474.1, 0)) else (some ((⟨#[]⟩ : ByteArray), 70))) else (some ((⟨#[]⟩ : ByteArray), bt474.2)))))) else (some ((⟨#[]⟩ : ByteArray), 1)))
set_option maxHeartbeats 8000000 in
set_option maxRecDepth 100000 in
theorem samphireref15_Unwrap.calls (k : Nat) (a0 : ByteArray) (a1 : Int) (a2 : Int) (a3 : ByteArray) (r1 : ByteArray) (r2 : Int) (w : World) (h : samphireref15_Unwrap.f k a0 a1 a2 a3 = some (r1, r2)) :
  Calls Tryz.prog 12 #[.string a0, .int .i64 a1, .int .i64 a2, .string a3] w fun e w' => e = .returned (.tuple #[.string r1, .int .i64 r2]) ∧ Below w.heap.size w w' := by
 have HB := Aside0.mk (Below.refl w.heap.size w); have H : ((samphireref15_may.f a0 a1 a2).bind fun t469 => (if t469 = true then ((samphireref04_Expand.f k a0 (⟨#[119, 114, 97, 112]⟩ : ByteArray) 32).bind fun bt470 => ((samphireref15_Nonce.f k a1 a2).bind fun bt472 => ((samphireref07_Open.f k bt470.1 bt472.1 (⟨#[119, 114, 97, 112]⟩ : ByteArray) a3).bind fun bt474 => (if bt474.2 = 0 then (if (bt474.1.size : Int) = 32 then (some (bt474.1, 0)) else (some ((⟨#[]⟩ : ByteArray), 70))) else (some ((⟨#[]⟩ : ByteArray), bt474.2)))))) else (some ((⟨#[]⟩ : ByteArray), 1)))) = some (r1, r2) := h; clear h; replace H := Option.bind_eq_some_iff.mp H; obtain ⟨t469, A50, H⟩ := H; have A5 := Aside0.mk A50; clear A50; by_cases c6 : t469 = true
 ·subst c6; have H1 : ((samphireref04_Expand.f k a0 (⟨#[119, 114, 97, 112]⟩ : ByteArray) 32).bind fun bt470 => ((samphireref15_Nonce.f k a1 a2).bind fun bt472 => ((samphireref07_Open.f k bt470.1 bt472.1 (⟨#[119, 114, 97, 112]⟩ : ByteArray) a3).bind fun bt474 => (if bt474.2 = 0 then (if (bt474.1.size : Int) = 32 then (some (bt474.1, 0)) else (some ((⟨#[]⟩ : ByteArray), 70))) else (some ((⟨#[]⟩ : ByteArray), bt474.2)))))) = some (r1, r2) := by rw [if_pos rfl] at H; exact H
  clear H; have H := H1; clear H1; replace H := Option.bind_eq_some_iff.mp H; obtain ⟨⟨t470, t471⟩, A70, H⟩ := H; try dsimp only at H
  have A7 := Aside0.mk A70; clear A70; replace H := Option.bind_eq_some_iff.mp H; obtain ⟨⟨t472, t473⟩, A80, H⟩ := H; try dsimp only at H
  have A8 := Aside0.mk A80; clear A80; replace H := Option.bind_eq_some_iff.mp H; obtain ⟨⟨t474, t475⟩, A90, H⟩ := H; try dsimp only at H
  have A9 := Aside0.mk A90; clear A90; by_cases c10 : t475 = 0
  ·rw [if_pos c10] at H; have c10b0 : (t475 == 0) = true := beq_iff_eq.mpr c10; have c10b1 : (t475 != 0) = false := bne_eq_false_iff_eq.mpr c10; clear c10; by_cases c11 : (t474.size : Int) = 32
   ·rw [if_pos c11] at H; have c11b0 : ((t474.size : Int) == 32) = true := beq_iff_eq.mpr c11; have c11b1 : ((t474.size : Int) != 32) = false := bne_eq_false_iff_eq.mpr c11; clear c11; simp only [Option.some.injEq, Prod.mk.injEq] at H; obtain ⟨rfl, rfl⟩ := H; go_enter Tryz.func12, Tryz.ntmps12
    go_wp2_with (first | ((with_reducible refine gate_callee (f := 34) rfl ?_); refine gl_ 19 Tryz.func34 #[.string a0, .int .i64 a1, .int .i64 a2] ?_; (with_reducible refine (samphireref15_may.calls a0 a1 a2 true _ A5.out).mono ?_); rintro e w' ⟨rfl, ⟨nd, rfl⟩⟩; refine ⟨_, rfl, ?_⟩) | ((with_reducible refine gate_callee (f := 35) rfl ?_); refine gl_ 23 Tryz.func35 #[.string a0, .string (⟨#[119, 114, 97, 112]⟩ : ByteArray), .int .i64 32] ?_; (with_reducible refine (samphireref04_Expand.calls k a0 (⟨#[119, 114, 97, 112]⟩ : ByteArray) 32 t470 t471 _ A7.out).mono ?_); rintro e w12 ⟨rfl, hb⟩; refine ⟨_, rfl, ?_⟩; replace HB := Aside0.mk (below_step hb_ hb)) | ((with_reducible refine gate_callee (f := 36) rfl ?_); refine gl_ 29 Tryz.func36 #[.int .i64 a1, .int .i64 a2] ?_; (with_reducible refine (samphireref15_Nonce.calls k a1 a2 t472 t473 _ A8.out).mono ?_); rintro e w13 ⟨rfl, hb⟩; refine ⟨_, rfl, ?_⟩; replace HB := Aside0.mk (below_step hb_ hb)) | ((with_reducible refine gate_callee (f := 39) rfl ?_); refine gl_ 36 Tryz.func39 #[.string t470, .string t472, .string (⟨#[119, 114, 97, 112]⟩ : ByteArray), .string a3] ?_; (with_reducible refine (samphireref07_Open.calls k t470 t472 (⟨#[119, 114, 97, 112]⟩ : ByteArray) a3 t474 t475 _ A9.out).mono ?_); rintro e w14 ⟨rfl, hb⟩; refine ⟨_, rfl, ?_⟩; replace HB := Aside0.mk (below_step hb_ hb)))
    go_ret2
    exact ⟨ew_, hb_⟩
   ·rw [if_neg c11] at H; have c11b0 : ((t474.size : Int) == 32) = false := beq_eq_false_iff_ne.mpr c11; have c11b1 : ((t474.size : Int) != 32) = true := bne_iff_ne.mpr c11; simp only [Option.some.injEq, Prod.mk.injEq] at H; obtain ⟨rfl, rfl⟩ := H; go_enter Tryz.func12, Tryz.ntmps12
    go_wp2_with (first | ((with_reducible refine gate_callee (f := 34) rfl ?_); refine gl_ 19 Tryz.func34 #[.string a0, .int .i64 a1, .int .i64 a2] ?_; (with_reducible refine (samphireref15_may.calls a0 a1 a2 true _ A5.out).mono ?_); rintro e w' ⟨rfl, ⟨nd, rfl⟩⟩; refine ⟨_, rfl, ?_⟩) | ((with_reducible refine gate_callee (f := 35) rfl ?_); refine gl_ 23 Tryz.func35 #[.string a0, .string (⟨#[119, 114, 97, 112]⟩ : ByteArray), .int .i64 32] ?_; (with_reducible refine (samphireref04_Expand.calls k a0 (⟨#[119, 114, 97, 112]⟩ : ByteArray) 32 t470 t471 _ A7.out).mono ?_); rintro e w15 ⟨rfl, hb⟩; refine ⟨_, rfl, ?_⟩; replace HB := Aside0.mk (below_step hb_ hb)) | ((with_reducible refine gate_callee (f := 36) rfl ?_); refine gl_ 29 Tryz.func36 #[.int .i64 a1, .int .i64 a2] ?_; (with_reducible refine (samphireref15_Nonce.calls k a1 a2 t472 t473 _ A8.out).mono ?_); rintro e w16 ⟨rfl, hb⟩; refine ⟨_, rfl, ?_⟩; replace HB := Aside0.mk (below_step hb_ hb)) | ((with_reducible refine gate_callee (f := 39) rfl ?_); refine gl_ 36 Tryz.func39 #[.string t470, .string t472, .string (⟨#[119, 114, 97, 112]⟩ : ByteArray), .string a3] ?_; (with_reducible refine (samphireref07_Open.calls k t470 t472 (⟨#[119, 114, 97, 112]⟩ : ByteArray) a3 t474 t475 _ A9.out).mono ?_); rintro e w17 ⟨rfl, hb⟩; refine ⟨_, rfl, ?_⟩; replace HB := Aside0.mk (below_step hb_ hb)))
    go_ret2
    exact ⟨ew_, hb_⟩
  ·rw [if_neg c10] at H; have c10b0 : (t475 == 0) = false := beq_eq_false_iff_ne.mpr c10; have c10b1 : (t475 != 0) = true := bne_iff_ne.mpr c10; simp only [Option.some.injEq, Prod.mk.injEq] at H; obtain ⟨rfl, rfl⟩ := H; go_enter Tryz.func12, Tryz.ntmps12
   go_wp2_with (first | ((with_reducible refine gate_callee (f := 34) rfl ?_); refine gl_ 19 Tryz.func34 #[.string a0, .int .i64 a1, .int .i64 a2] ?_; (with_reducible refine (samphireref15_may.calls a0 a1 a2 true _ A5.out).mono ?_); rintro e w' ⟨rfl, ⟨nd, rfl⟩⟩; refine ⟨_, rfl, ?_⟩) | ((with_reducible refine gate_callee (f := 35) rfl ?_); refine gl_ 23 Tryz.func35 #[.string a0, .string (⟨#[119, 114, 97, 112]⟩ : ByteArray), .int .i64 32] ?_; (with_reducible refine (samphireref04_Expand.calls k a0 (⟨#[119, 114, 97, 112]⟩ : ByteArray) 32 t470 t471 _ A7.out).mono ?_); rintro e w18 ⟨rfl, hb⟩; refine ⟨_, rfl, ?_⟩; replace HB := Aside0.mk (below_step hb_ hb)) | ((with_reducible refine gate_callee (f := 36) rfl ?_); refine gl_ 29 Tryz.func36 #[.int .i64 a1, .int .i64 a2] ?_; (with_reducible refine (samphireref15_Nonce.calls k a1 a2 t472 t473 _ A8.out).mono ?_); rintro e w19 ⟨rfl, hb⟩; refine ⟨_, rfl, ?_⟩; replace HB := Aside0.mk (below_step hb_ hb)) | ((with_reducible refine gate_callee (f := 39) rfl ?_); refine gl_ 36 Tryz.func39 #[.string t470, .string t472, .string (⟨#[119, 114, 97, 112]⟩ : ByteArray), .string a3] ?_; (with_reducible refine (samphireref07_Open.calls k t470 t472 (⟨#[119, 114, 97, 112]⟩ : ByteArray) a3 t474 t475 _ A9.out).mono ?_); rintro e w20 ⟨rfl, hb⟩; refine ⟨_, rfl, ?_⟩; replace HB := Aside0.mk (below_step hb_ hb)))
   go_ret2
   exact ⟨ew_, hb_⟩
 ·replace c6 := Bool.eq_false_iff.mpr c6; subst c6; have H1 : (some ((⟨#[]⟩ : ByteArray), 1)) = some (r1, r2) := by rw [if_neg (show ¬ (false = true) by decide)] at H; exact H
  clear H; have H := H1; clear H1; simp only [Option.some.injEq, Prod.mk.injEq] at H; obtain ⟨rfl, rfl⟩ := H; go_enter Tryz.func12, Tryz.ntmps12
  go_wp2_with (first | ((with_reducible refine gate_callee (f := 34) rfl ?_); refine gl_ 19 Tryz.func34 #[.string a0, .int .i64 a1, .int .i64 a2] ?_; (with_reducible refine (samphireref15_may.calls a0 a1 a2 false _ A5.out).mono ?_); rintro e w' ⟨rfl, ⟨nd, rfl⟩⟩; refine ⟨_, rfl, ?_⟩))
  go_ret2
  exact ⟨ew_, hb_⟩
end Go.Proofs.YtbkbganflnemeaaGreat.Pr
end

section
namespace Go.Proofs.YtbkbganflnemeaaGreat.Pr
open Go.RowKit Go.Proofs.YtbkbganflnemeaaGreatW.PrintWords Go.Proofs.YtbkbganflnemeaaGreatW.PrintLast
set_option maxHeartbeats 1000000
theorem rkmay_f (own : ByteArray) (who n : Int) : samphireref15_may.f own who n = some (decide (own.size = 32 ∧ memB who = true ∧ epB n = true)) := by
 have e : (own.size = 32 ∧ memB who = true ∧ epB n = true) ↔ (own.size = 32 ∧ (1 ≤ who ∧ who ≤ 6) ∧ (1 ≤ n ∧ n ≤ 1099511627775)) := by
  unfold memB epB
  rw [decide_eq_true_iff, decide_eq_true_iff]
 unfold samphireref15_may.f
 by_cases h0 : (own.size : Int) = 32
 ·rw [if_pos h0]
  by_cases h1 : who ≥ 1
  ·rw [if_pos h1]
   by_cases h2 : who ≤ 6
   ·rw [if_pos h2]
    by_cases h3 : n ≥ 1
    ·rw [if_pos h3]
     congr 1
     rw [decide_eq_decide, e]
     omega
    ·rw [if_neg h3, decide_eq_false (by rw [e]; omega)]
   ·rw [if_neg h2, decide_eq_false (by rw [e]; omega)]
  ·rw [if_neg h1, decide_eq_false (by rw [e]; omega)]
 ·rw [if_neg h0, decide_eq_false (by rw [e]; omega)]
theorem rwrap_f (own : ByteArray) (who n : Int) (key : ByteArray) (hk : key.size ≤ 1000000000000000) : samphireref15_Wrap.f 6001 own who n key = some (wrapF own who n key) := by
 unfold samphireref15_Wrap.f wrapF
 rw [rkmay_f, Option.bind_some]
 by_cases h : own.size = 32 ∧ memB who = true ∧ epB n = true
 ·rw [if_pos (decide_eq_true h), samphireref15_Wrap.j0]
  by_cases h2 : key.size = 32
  ·rw [if_neg (by simp; omega), if_pos ⟨h.2.1, h.2.2, h2, h.1⟩, show (⟨#[119, 114, 97, 112]⟩ : ByteArray) = wrapB from rfl, ref_32 5931 own wrapB (by omega) (by decide), Option.bind_some, rnonce_f 5989, Option.bind_some,
    nonce_ok who n h.2.1 h.2.2, rSeal_f _ _ _ _ (by decide) hk 6000 (Nat.le_refl _), Option.bind_some]
  ·rw [if_pos (by simp; omega), if_neg (fun q => h2 q.2.2.1)]
 ·rw [if_neg (by rw [decide_eq_false h]; decide), samphireref15_Wrap.j0, if_pos rfl, if_neg (fun q => h ⟨q.2.2.2, q.1, q.2.1⟩)]
theorem openF_err (a b c d : ByteArray) (h : (openF a b c d).2 ≠ 0) : (openF a b c d).1 = ⟨#[]⟩ := by
 unfold openF at h ⊢
 split
 ·rename_i h1
  rw [if_pos h1] at h
  split
  ·rfl
  ·rename_i h2
   rw [if_neg h2] at h
   split
   ·rename_i h3
    rw [if_pos h3] at h
    exact absurd rfl h
   ·rfl
 ·rfl
theorem runwrap_f (own : ByteArray) (who n : Int) (s : ByteArray) (hk : s.size ≤ 1000000000000000) : samphireref15_Unwrap.f 6000 own who n s = some (unwrapF own who n s) := by
 unfold samphireref15_Unwrap.f unwrapF
 rw [rkmay_f, Option.bind_some]
 by_cases h : own.size = 32 ∧ memB who = true ∧ epB n = true
 ·rw [if_pos (decide_eq_true h), if_pos ⟨h.2.1, h.2.2, h.1⟩, show (⟨#[119, 114, 97, 112]⟩ : ByteArray) = wrapB from rfl, ref_32 5931 own wrapB (by omega) (by decide), Option.bind_some, rnonce_f 5989, Option.bind_some,
   nonce_ok who n h.2.1 h.2.2, rOpen_f _ _ _ _ (by decide) hk 6000 (Nat.le_refl _), Option.bind_some]
  show (if (openF (hkT own wrapB) (txt (nonceL who n)) wrapB s).2 = 0 then (if ((openF (hkT own wrapB) (txt (nonceL who n)) wrapB s).1.size : Int) = 32 then _ else _) else _) = _
  by_cases hz : (openF (hkT own wrapB) (txt (nonceL who n)) wrapB s).2 = 0
  ·rw [if_pos hz]
   by_cases h32 : (openF (hkT own wrapB) (txt (nonceL who n)) wrapB s).1.size = 32
   ·rw [if_pos (by omega), if_neg (fun q => q.2 h32), ← hz]
   ·rw [if_neg (by omega), if_pos ⟨hz, h32⟩]
  ·rw [if_neg hz, if_neg (fun q => hz q.1), ← openF_err _ _ _ _ hz]
 ·rw [if_neg (by rw [decide_eq_false h]; decide), if_neg (fun q => h ⟨q.2.2, q.1, q.2.1⟩)]
end Go.Proofs.YtbkbganflnemeaaGreat.Pr
end

section
namespace Go.Proofs.YtbkbganflnemeaaGreat.Pr
open Go.RowKit Go.Deep Go.Proofs.YtbkbganflnemeaaGreatW.PrintWords Go.Proofs.YtbkbganflnemeaaGreatW.PrintLast Go.Proofs.YtbkbganflnemeaaGreatW.PrintMore
set_option maxHeartbeats 2000000
def OneAt (g : Nat) (x y : Int) (W : World) : Prop := W.heap[g]? = some (.cells #[.int .i64 x, .int .i64 y] 22 (0, 0))
theorem OneAt.below {g : Nat} {x y : Int} {W W' : World} (h : OneAt g x y W) (hb : Below W.heap.size W W') : OneAt g x y W' := (hb.block g (blk_lt h)).trans h
theorem OneAt.drewN {g : Nat} {x y : Int} {W : World} (h : OneAt g x y W) (n : Nat) : OneAt g x y (W.drewN n) := h
theorem OneAt.cells {g : Nat} {x y : Int} {W : World} (h : OneAt g x y W) : W.cell? ⟨g, 0, none⟩ = some (.int .i64 x) ∧ W.cell? ⟨g, 1, none⟩ = some (.int .i64 y) := by
 refine ⟨?_, ?_⟩
 ·rw [cell_of_row _ _ _ _ _ _ h]; rfl
 ·rw [cell_of_row _ _ _ _ _ _ h]; rfl
theorem wrap_zero (own : ByteArray) (who n : Int) (key : ByteArray) (h : (wrapF own who n key).2 = 0) : unwrapF own who n (wrapF own who n key).1 = (key, 0) ∧ (wrapF own who n key).1.size = 48 := by
 by_cases hc : memB who = true ∧ epB n = true ∧ key.size = 32 ∧ own.size = 32
 ·obtain ⟨u1, _, u3⟩ := unwrap_wrap own who n key hc.1 hc.2.1 hc.2.2.1 hc.2.2.2
  exact ⟨u1, u3⟩
 ·unfold wrapF at h
  rw [if_neg hc] at h
  cases h
set_option maxRecDepth 100000 in
theorem wraps_calls (own key : ByteArray) (x y : Int) (w : World) :
  Calls Tryz.prog 3 #[.string own, .string key, .agg #[.int .i64 x, .int .i64 y]] w fun e w' => e = .returned (.bool true) ∧ Below w.heap.size w w' := by
 have H0 := Aside0.mk (fun W => samphirelaw15_light.calls own key _ W (keys_light_f own key))
 have H4 := Aside0.mk (fun W => samphirelaw15_awake.calls 2 true W (keys_awake_f 0))
 have HB0 : Aside0 (Below w.heap.size w (w.alloc (Obj.cells #[Value.int IntKind.i64 x, Value.int IntKind.i64 y] 22))) := ⟨below_alloc (Below.refl _ _) _⟩
 have B0 : Aside0 (OneAt w.heap.size x y (w.alloc (Obj.cells #[Value.int IntKind.i64 x, Value.int IntKind.i64 y] 22))) := ⟨blk_new _ _⟩
 by_cases hl : own.size ≤ 256 ∧ key.size ≤ 256
 ·rw [decide_eq_true hl] at H0
  have H1 := Aside0.mk (fun W => keys_Wrap.calls 2 own x y key (wrapF own x y key).1 (wrapF own x y key).2 W (wrap_f 0 own x y key (by omega)))
  have H2 := Aside0.mk (fun W => samphireref15_Wrap.calls 6001 own x y key (wrapF own x y key).1 (wrapF own x y key).2 W (rwrap_f own x y key (by omega)))
  have HZ := Aside0.mk (wrap_zero own x y key)
  have H3 : Aside0 ((wrapF own x y key).2 = 0 → ∀ W, Calls Tryz.prog 11 #[.string own, .int .i64 x, .int .i64 y, .string (wrapF own x y key).1] W fun e w' => e = .returned (.tuple #[.string key, .int .i64 0]) ∧ Below W.heap.size W w') := ⟨fun h W => by
   obtain ⟨z1, z2⟩ := HZ.out h
   exact keys_Unwrap.calls 2 own x y _ key 0 W (by rw [unwrap_f 0 own x y _ (by omega), z1])⟩
  clear HZ
  generalize (wrapF own x y key).1 = S at *
  generalize (wrapF own x y key).2 = e1 at *
  clear hl
  go_enter Tryz.func3, Tryz.ntmps3
  go_wp2_with (fail)
  generalize w.alloc (Obj.cells #[Value.int IntKind.i64 x, Value.int IntKind.i64 y] 22) = W0 at *
  refine (H0.out _).mono ?_
  rintro e w1 ⟨rfl, ⟨nd, rfl⟩⟩
  have B1 := Aside0.mk (B0.out.drewN nd)
  have HB1 := Aside0.mk (pw_below_drewN HB0.out nd)
  clear B0 HB0
  generalize W0.drewN nd = w1 at *
  obtain ⟨c1, c2⟩ := B1.out.cells
  go_wp2_with (fail)
  refine (H1.out _).mono ?_
  rintro e w2 ⟨rfl, hb⟩
  have B2 := Aside0.mk (B1.out.below hb)
  have HB2 := Aside0.mk (below_then HB1.out HB1.out.size hb)
  clear hb B1 HB1 c1 c2
  obtain ⟨c1, c2⟩ := B2.out.cells
  go_wp2_with (fail)
  refine (H2.out _).mono ?_
  rintro e w3 ⟨rfl, hb⟩
  have B3 := Aside0.mk (B2.out.below hb)
  have HB3 := Aside0.mk (below_then HB2.out HB2.out.size hb)
  clear hb B2 HB2 c1 c2
  obtain ⟨c1, c2⟩ := B3.out.cells
  by_cases h1 : e1 = 0
  ·subst h1
   have H5 := H3.out rfl
   have H6 := Aside0.mk H5
   clear H3 H5
   go_wp2_with (fail)
   refine (H6.out _).mono ?_
   rintro e w4 ⟨rfl, hb⟩
   have HB4 := Aside0.mk (below_then HB3.out HB3.out.size hb)
   clear hb
   go_wp2_with (fail)
   refine (H4.out _).mono ?_
   rintro e w5 ⟨rfl, hb⟩
   have HB5 := Aside0.mk (below_then HB4.out HB4.out.size hb)
   go_wp2_with (fail)
   go_ret
   exact ⟨rfl, HB5.out⟩
  ·have d1 : (e1 != 0) = true := by rw [bne_iff_ne]; exact h1
   clear h1 H3
   go_wp2_with (fail)
   refine (H4.out _).mono ?_
   rintro e w4 ⟨rfl, hb⟩
   have HB4 := Aside0.mk (below_then HB3.out HB3.out.size hb)
   go_wp2_with (fail)
   go_ret
   exact ⟨rfl, HB4.out⟩
 ·rw [decide_eq_false hl] at H0
  clear hl
  go_enter Tryz.func3, Tryz.ntmps3
  go_wp2_with (fail)
  generalize w.alloc (Obj.cells #[Value.int IntKind.i64 x, Value.int IntKind.i64 y] 22) = W0 at *
  refine (H0.out _).mono ?_
  rintro e w1 ⟨rfl, ⟨nd, rfl⟩⟩
  have HB1 := Aside0.mk (pw_below_drewN HB0.out nd)
  go_wp2_with (fail)
  refine (H4.out _).mono ?_
  rintro e w4 ⟨rfl, hb⟩
  have HB4 := Aside0.mk (below_then HB1.out HB1.out.size hb)
  go_wp2_with (fail)
  go_ret
  exact ⟨rfl, HB4.out⟩
set_option maxRecDepth 100000 in
theorem unwraps_calls (own s : ByteArray) (x y : Int) (w : World) :
  Calls Tryz.prog 4 #[.string own, .string s, .agg #[.int .i64 x, .int .i64 y]] w fun e w' => e = .returned (.bool true) ∧ Below w.heap.size w w' := by
 have H0 := Aside0.mk (fun W => samphirelaw15_light.calls own s _ W (keys_light_f own s))
 have H4 := Aside0.mk (fun W => samphirelaw15_awake.calls 2 true W (keys_awake_f 0))
 have HB0 : Aside0 (Below w.heap.size w (w.alloc (Obj.cells #[Value.int IntKind.i64 x, Value.int IntKind.i64 y] 22))) := ⟨below_alloc (Below.refl _ _) _⟩
 have B0 : Aside0 (OneAt w.heap.size x y (w.alloc (Obj.cells #[Value.int IntKind.i64 x, Value.int IntKind.i64 y] 22))) := ⟨blk_new _ _⟩
 by_cases hl : own.size ≤ 256 ∧ s.size ≤ 256
 ·rw [decide_eq_true hl] at H0
  have H1 := Aside0.mk (fun W => keys_Unwrap.calls 2 own x y s (unwrapF own x y s).1 (unwrapF own x y s).2 W (unwrap_f 0 own x y s (by omega)))
  have H2 := Aside0.mk (fun W => samphireref15_Unwrap.calls 6000 own x y s (unwrapF own x y s).1 (unwrapF own x y s).2 W (runwrap_f own x y s (by omega)))
  generalize (unwrapF own x y s).1 = S at *
  generalize (unwrapF own x y s).2 = e1 at *
  clear hl
  go_enter Tryz.func4, Tryz.ntmps4
  go_wp2_with (fail)
  generalize w.alloc (Obj.cells #[Value.int IntKind.i64 x, Value.int IntKind.i64 y] 22) = W0 at *
  refine (H0.out _).mono ?_
  rintro e w1 ⟨rfl, ⟨nd, rfl⟩⟩
  have B1 := Aside0.mk (B0.out.drewN nd)
  have HB1 := Aside0.mk (pw_below_drewN HB0.out nd)
  clear B0 HB0
  generalize W0.drewN nd = w1 at *
  obtain ⟨c1, c2⟩ := B1.out.cells
  go_wp2_with (fail)
  refine (H1.out _).mono ?_
  rintro e w2 ⟨rfl, hb⟩
  have B2 := Aside0.mk (B1.out.below hb)
  have HB2 := Aside0.mk (below_then HB1.out HB1.out.size hb)
  clear hb B1 HB1 c1 c2
  obtain ⟨c1, c2⟩ := B2.out.cells
  go_wp2_with (fail)
  refine (H2.out _).mono ?_
  rintro e w3 ⟨rfl, hb⟩
  have HB3 := Aside0.mk (below_then HB2.out HB2.out.size hb)
  clear hb B2 HB2 c1 c2
  go_wp2_with (fail)
  refine (H4.out _).mono ?_
  rintro e w4 ⟨rfl, hb⟩
  have HB4 := Aside0.mk (below_then HB3.out HB3.out.size hb)
  go_wp2_with (fail)
  go_ret
  exact ⟨rfl, HB4.out⟩
 ·rw [decide_eq_false hl] at H0
  clear hl
  go_enter Tryz.func4, Tryz.ntmps4
  go_wp2_with (fail)
  generalize w.alloc (Obj.cells #[Value.int IntKind.i64 x, Value.int IntKind.i64 y] 22) = W0 at *
  refine (H0.out _).mono ?_
  rintro e w1 ⟨rfl, ⟨nd, rfl⟩⟩
  have HB1 := Aside0.mk (pw_below_drewN HB0.out nd)
  go_wp2_with (fail)
  refine (H4.out _).mono ?_
  rintro e w4 ⟨rfl, hb⟩
  have HB4 := Aside0.mk (below_then HB1.out HB1.out.size hb)
  go_wp2_with (fail)
  go_ret
  exact ⟨rfl, HB4.out⟩
end Go.Proofs.YtbkbganflnemeaaGreat.Pr
end

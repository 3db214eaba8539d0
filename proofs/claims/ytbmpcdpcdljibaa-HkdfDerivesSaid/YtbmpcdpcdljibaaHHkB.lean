/- HKDF in plain words: what Extract, Expand, Derive, light and the reference's answer. -/
import Derived.Test.YtbmpcdpcdljibaaHHkA
import Derived.Test.YtbmpcdpcdljibaaPrxf36
import Derived.Test.YtbmpcdpcdljibaaPrxf37
import Derived.Test.YtbmpcdpcdljibaaPrxf35
import Derived.Test.YtbmpcdpcdljibaaPrxf33
import Derived.Test.YtbmpcdpcdljibaaPrxf32
namespace Go.Proofs.Ytbmpcdpcdljibaa.Pr
open Go.RowKit Go.Proofs.YtbmpcdpcdljibaaW.PrintWords Go.Proofs.YtbmpcdpcdljibaaW.PrintLast
set_option linter.unusedVariables false
set_option linter.unusedSimpArgs false
theorem empty_size (a : ByteArray) : (a.toList = ([] : List UInt8)) ↔ a.size = 0 := by
  rw [ByteArray.toList_eq]
  obtain ⟨⟨l⟩⟩ := a
  cases l with
  | nil => simp [ByteArray.size]
  | cons x l => simp [ByteArray.size]
theorem noughts_str (n : Nat) : strOfNums (List.replicate n 0) = txt (List.replicate n 0) := by
  rw [← str_nats, List.map_replicate]
  rfl
theorem bys_noughts (n : Nat) : bys (txt (List.replicate n 0)) = List.replicate n 0 := bys_txt (by intro x hx; rw [List.mem_replicate] at hx; omega)
theorem macT_empty (a s : ByteArray) (h : a.size = 0) : macT (txt (List.replicate 32 0)) s = macT a s := by
  have e : bys a = [] := by
    rw [← List.length_eq_zero_iff, bys_length]
    exact h
  unfold macT macL
  rw [bys_noughts, e]
  rfl
theorem hkdf_Extract_f (a s : ByteArray) (h0 : a.size ≤ 1000000000) (h1 : s.size ≤ 1000000000) : hkdf_Extract.f a s = some (macT a s) := by
  unfold hkdf_Extract.f
  by_cases hc : a.size = 0
  · rw [if_pos ((empty_size a).2 hc), strings_Repeat.f, if_pos (by decide), Option.bind_some, show (32 : Int).toNat = 32 from rfl, txt_repeat, hmac_Mac_f _ _ (by rw [txt_size, List.length_replicate]; omega) (by omega), Option.bind_some, macT_empty a s hc]
  · rw [if_neg (fun h => hc ((empty_size a).1 h)), hmac_Mac_f _ _ (by omega) (by omega), Option.bind_some]
theorem ref_Extract_f (a s : ByteArray) (h0 : a.size ≤ 1000000000) (h1 : s.size ≤ 1000000000) (k : Nat) (hk : 66 ≤ k) : samphireref04_Extract.f k a s = some (macT a s) := by
  unfold samphireref04_Extract.f
  by_cases hc : a.size = 0
  · rw [if_pos ((empty_size a).2 hc), if_pos (by decide), noughts_str, ref_Mac_f _ _ (by rw [txt_size, List.length_replicate]; omega) (by omega) k hk, Option.bind_some, macT_empty a s hc]
  · rw [if_neg (fun h => hc ((empty_size a).1 h)), ref_Mac_f _ _ (by omega) (by omega) k hk, Option.bind_some]
theorem txt_app (a b : List Nat) : txt a ++ txt b = txt (a ++ b) := by
  apply ByteArray.ext
  rw [ByteArray.data_append]
  unfold txt
  simp
theorem partL_le (k p : List Nat) : ∀ j, (partL k p j).length ≤ 32
  | 0 => by simp [partL]
  | j + 1 => by rw [partL_length]; exact Nat.le_refl _
theorem part_mac (x0 x1 : ByteArray) (j : Nat) : macT x0 (txt (partL (bys x0) (bys x1) j) ++ x1 ++ txt [(j + 1) % 256]) = txt (partL (bys x0) (bys x1) (j + 1)) := by
  unfold macT
  rw [bys_append, bys_append, bys_txt (partL_lt _ _ _), bys_txt (by intro x hx; rw [List.mem_singleton] at hx; omega)]
  rfl
theorem one_num (j : Nat) : strOfNums [((j : Int) + 1) % 256] = txt [(j + 1) % 256] := by
  rw [← str_nats]
  congr 1
theorem ref_expand_loop (x0 x1 : ByteArray) (h0 : x0.size ≤ 1000000000) (h1 : x1.size ≤ 1000000000) (n N : Nat) (hN : N = (n + 31) / 32) (hN2 : N ≤ 255) : ∀ (d j : Nat), j + d = N →
    samphireref04_Expand.l0 (d + 67) x0 x1 (n : Int) (txt (expL (bys x0) (bys x1) j)) (txt (partL (bys x0) (bys x1) j)) ((j : Int) + 1) = some (txt ((expL (bys x0) (bys x1) N).take n), 0)
  | 0, j, h => by
    have e : j = N := by omega
    subst e
    rw [show 0 + 67 = 66 + 1 from rfl, samphireref04_Expand.l0, txt_size, expL_length, if_neg (by omega), if_pos (by omega), if_pos (by omega), txt_extract, Int.toNat_natCast]
    rfl
  | d + 1, j, h => by
    have hpl := partL_le (bys x0) (bys x1) j
    have hw : wrap64 ((j : Int) + 1 + 1) = ((j + 1 : Nat) : Int) + 1 := by rw [wrapN _ (by omega) (by omega)]; omega
    rw [show d + 1 + 67 = (d + 67) + 1 by omega, samphireref04_Expand.l0, txt_size, expL_length, if_pos (by omega), txt_size, if_pos (by omega), Option.bind_some, one_num, if_pos (by rw [ByteArray.size_append, txt_size, txt_size, List.length_singleton]; omega)]
    rw [ref_Mac_f _ _ (by omega) (by rw [ByteArray.size_append, ByteArray.size_append, txt_size, txt_size, List.length_singleton]; omega) (d + 67) (by omega), Option.bind_some, part_mac, if_pos (by rw [txt_size, partL_length]; omega), txt_app, hw]
    exact ref_expand_loop x0 x1 h0 h1 n N hN hN2 d (j + 1) (by omega)
theorem ref_Expand_f (x0 x1 : ByteArray) (h0 : x0.size ≤ 1000000000) (h1 : x1.size ≤ 1000000000) (n : Nat) (hn : n ≤ 8160) : samphireref04_Expand.f ((n + 31) / 32 + 68) x0 x1 (n : Int) = some (txt ((expL (bys x0) (bys x1) ((n + 31) / 32)).take n), 0) := by
  unfold samphireref04_Expand.f
  rw [if_neg (by omega), decide_eq_false (by omega), show (n + 31) / 32 + 68 = ((n + 31) / 32 + 67) + 1 by omega, samphireref04_Expand.j0, if_neg (by decide)]
  exact ref_expand_loop x0 x1 h0 h1 n _ rfl (by omega) _ 0 (by omega)
theorem hkdf_Expand_f (x0 x1 : ByteArray) (h0 : x0.size ≤ 1000000000) (h1 : x1.size ≤ 1000000000) (n : Nat) (hn : n ≤ 8160) : hkdf_Expand.f x0 x1 (n : Int) = some (txt ((expL (bys x0) (bys x1) ((n + 31) / 32)).take n), 0) := by
  unfold hkdf_Expand.f
  rw [if_neg (by omega), if_pos ⟨h0, h1⟩, Int.toNat_natCast]
theorem one_reckoned : (expL (macL [0, 1, 2, 3, 4, 5, 6, 7, 8, 9, 10, 11, 12] [11, 11, 11, 11, 11, 11, 11, 11, 11, 11, 11, 11, 11, 11, 11, 11, 11, 11, 11, 11, 11, 11]) [240, 241, 242, 243, 244, 245, 246, 247, 248, 249] 2).take 4 = [60, 178, 95, 37] ∧ ((expL (macL [0, 1, 2, 3, 4, 5, 6, 7, 8, 9, 10, 11, 12] [11, 11, 11, 11, 11, 11, 11, 11, 11, 11, 11, 11, 11, 11, 11, 11, 11, 11, 11, 11, 11, 11]) [240, 241, 242, 243, 244, 245, 246, 247, 248, 249] 2).take 42).drop 38 = [135, 24, 88, 101] := by decide +kernel
theorem one_f : samphirelaw04_one.f = some true := by
  unfold samphirelaw04_one.f hkdf_Derive.f
  rw [hkdf_Extract_f _ _ (by decide) (by decide), Option.bind_some, show (42 : Int) = ((42 : Nat) : Int) from rfl, hkdf_Expand_f _ _ (by rw [macT_size]; omega) (by decide) 42 (by decide), Option.bind_some, Option.bind_some]
  have e1 : bys (⟨#[0, 1, 2, 3, 4, 5, 6, 7, 8, 9, 10, 11, 12]⟩ : ByteArray) = [0, 1, 2, 3, 4, 5, 6, 7, 8, 9, 10, 11, 12] := rfl
  have e2 : bys (⟨#[11, 11, 11, 11, 11, 11, 11, 11, 11, 11, 11, 11, 11, 11, 11, 11, 11, 11, 11, 11, 11, 11]⟩ : ByteArray) = [11, 11, 11, 11, 11, 11, 11, 11, 11, 11, 11, 11, 11, 11, 11, 11, 11, 11, 11, 11, 11, 11] := rfl
  have e3 : bys (⟨#[240, 241, 242, 243, 244, 245, 246, 247, 248, 249]⟩ : ByteArray) = [240, 241, 242, 243, 244, 245, 246, 247, 248, 249] := rfl
  rw [bys_macT, e1, e2, e3, show (42 + 31) / 32 = 2 from rfl]
  obtain ⟨q1, q2⟩ := one_reckoned
  have hl := expL_length (macL [0, 1, 2, 3, 4, 5, 6, 7, 8, 9, 10, 11, 12] [11, 11, 11, 11, 11, 11, 11, 11, 11, 11, 11, 11, 11, 11, 11, 11, 11, 11, 11, 11, 11, 11]) [240, 241, 242, 243, 244, 245, 246, 247, 248, 249] 2
  generalize expL (macL [0, 1, 2, 3, 4, 5, 6, 7, 8, 9, 10, 11, 12] [11, 11, 11, 11, 11, 11, 11, 11, 11, 11, 11, 11, 11, 11, 11, 11, 11, 11, 11, 11, 11, 11]) [240, 241, 242, 243, 244, 245, 246, 247, 248, 249] 2 = X at q1 q2 hl ⊢
  have hs : (txt (X.take 42)).size = 42 := by rw [txt_size, List.length_take]; omega
  rw [if_pos rfl, hs, if_pos rfl, if_pos (by decide), if_pos (by decide), if_pos, if_pos (by decide), txt_extract, txt_toList, q2]
  · rfl
  · rw [txt_extract, txt_toList, List.drop_zero, List.take_take, show min (4 - 0) 42 = 4 from rfl, q1]
    rfl
theorem light_two (a b : ByteArray) (k : Nat) : samphirelaw04_light.f (k + 3) [a, b] = some (decide (a.size ≤ 512 ∧ b.size ≤ 512)) := by
  have e0 : rdOf ByteArray.empty [a, b] 0 = a := rfl
  have e1 : rdOf ByteArray.empty [a, b] 1 = b := rfl
  unfold samphirelaw04_light.f
  rw [samphirelaw04_light.l0, if_pos (by simp), if_pos (by decide), e0]
  by_cases ha : a.size ≤ 512
  · rw [if_neg (by omega), show wrap64 (0 + 1) = 1 by rw [wrapN _ (by decide) (by decide)]; rfl, samphirelaw04_light.l0, if_pos (by simp), if_pos (by decide), e1]
    by_cases hb : b.size ≤ 512
    · rw [if_neg (by omega), show wrap64 (1 + 1) = 2 by rw [wrapN _ (by decide) (by decide)]; rfl, samphirelaw04_light.l0, if_neg (by simp), decide_eq_true ⟨ha, hb⟩]
    · rw [if_pos (by omega), decide_eq_false (fun h => hb h.2)]
  · rw [if_pos (by omega), decide_eq_false (fun h => ha h.1)]
theorem light_one (a : ByteArray) (k : Nat) : samphirelaw04_light.f (k + 2) [a] = some (decide (a.size ≤ 512)) := by
  have e0 : rdOf ByteArray.empty [a] 0 = a := rfl
  unfold samphirelaw04_light.f
  rw [samphirelaw04_light.l0, if_pos (by simp), if_pos (by decide), e0]
  by_cases ha : a.size ≤ 512
  · rw [if_neg (by omega), show wrap64 (0 + 1) = 1 by rw [wrapN _ (by decide) (by decide)]; rfl, samphirelaw04_light.l0, if_neg (by simp), decide_eq_true ha]
  · rw [if_pos (by omega), decide_eq_false ha]
end Go.Proofs.Ytbmpcdpcdljibaa.Pr

/- What the reference's printed functions of layers 1 and 2 answer, in plain words. -/
import Derived.Test.YtbmpcdpcdljibaaHShaB
import Derived.Test.YtbmpcdpcdljibaaHShaA
import Derived.Test.YtbmpcdpcdljibaaPrxf20
import Derived.Test.YtbmpcdpcdljibaaPrxf18
namespace Go.Proofs.Ytbmpcdpcdljibaa.Pr
open Go.RowKit Go.Proofs.YtbmpcdpcdljibaaW.PrintWords
set_option maxHeartbeats 1000000
set_option linter.unusedVariables false
set_option linter.unusedSimpArgs false
theorem wr (x : Int) (h0 : 0 ≤ x) (h1 : x < 4611686018427387904) : wrap64 x = x := by unfold wrap64; omega
theorem word_f (a : Nat) (h : a < 4611686018427387904) : samphireref01_Word.f (a : Int) = some ((a % 4294967296 : Nat) : Int) := by
  unfold samphireref01_Word.f
  rw [mask62 a h]
def ints (l : List Nat) : List Int := l.map fun (n : Nat) => (n : Int)
theorem ints_length (l : List Nat) : (ints l).length = l.length := by simp [ints]
theorem ints_append (a b : List Nat) : ints (a ++ b) = ints a ++ ints b := by simp [ints]
theorem rd_ints (l : List Nat) (i : Nat) : rd (ints l) (i : Int) = (l.getD i 0 : Nat) := by
  unfold rd ints
  rw [Int.toNat_natCast, List.getD_eq_getElem?_getD, List.getD_eq_getElem?_getD, List.getElem?_map]
  cases l[i]? <;> simp
theorem str_ints (l : List Nat) : strOfNums (ints l) = txt l := str_nats l
theorem and255 (n : Nat) (h : n < 4611686018427387904) : bits .and .i64 (n : Int) 255 = ((n % 256 : Nat) : Int) := by
  have := and62 n 255 h (by decide)
  rw [show ((255 : Nat) : Int) = 255 from rfl] at this
  rw [this, show (255 : Nat) = 2 ^ 8 - 1 from rfl, Nat.and_two_pow_sub_one_eq_mod]
theorem putBig_l0 (l : List Nat) (hl : ∀ i, l.getD i 0 < 4294967296) (hs : l.length ≤ 1000000) : ∀ (d k i : Nat) (acc : List Nat), i + d = l.length → d < k → acc.length + 4 * d ≤ 100000000 →
    samphireref01_PutBig.l0 k (ints l) (ints acc) (i : Int) = some (txt (acc ++ (l.drop i).flatMap by4)) := by
  intro d
  induction d with
  | zero =>
    intro k i acc hi hk ha
    obtain ⟨k, rfl⟩ : ∃ m, k = m + 1 := ⟨k - 1, by omega⟩
    simp only [samphireref01_PutBig.l0, ints_length]
    rw [if_neg (by omega), str_ints, List.drop_eq_nil_of_le (by omega)]
    simp
  | succ d ih =>
    intro k i acc hi hk ha
    obtain ⟨k, rfl⟩ : ∃ m, k = m + 1 := ⟨k - 1, by omega⟩
    simp only [samphireref01_PutBig.l0, ints_length]
    rw [if_pos (by omega), if_pos (by omega), rd_ints]
    have hx := hl i
    generalize hxe : l.getD i 0 = x at hx
    rw [word_f x (by omega)]
    have hm : x % 4294967296 = x := Nat.mod_eq_of_lt hx
    rw [hm]
    simp only [Option.bind_some, List.length_append, ints_length, List.length_cons, List.length_nil]
    rw [if_pos (by omega), if_pos (by omega), if_pos (by omega), if_pos (by omega)]
    have e1 : ((x : Int) / 65536) = ((x / 65536 : Nat) : Int) := by simp
    have e2 : ((x : Int) / 256) = ((x / 256 : Nat) : Int) := by simp
    rw [e1, e2, and255 _ (by omega), and255 _ (by omega), and255 _ (by omega), wr _ (by omega) (by omega)]
    have e3 : ((((ints acc ++ [(x : Int) / 16777216 % 256]) ++ [((x / 65536 % 256 : Nat) : Int) % 256]) ++ [((x / 256 % 256 : Nat) : Int) % 256]) ++ [((x % 256 : Nat) : Int) % 256]) = ints (acc ++ by4 x) := by
      rw [ints_append]
      simp only [List.append_assoc, List.cons_append, List.nil_append, ints, by4, List.map_cons, List.map_nil]
      rw [show ((x : Int) / 16777216 % 256) = ((x / 16777216 % 256 : Nat) : Int) by omega, show (((x / 65536 % 256 : Nat) : Int) % 256) = ((x / 65536 % 256 : Nat) : Int) by omega, show (((x / 256 % 256 : Nat) : Int) % 256) = ((x / 256 % 256 : Nat) : Int) by omega, show (((x % 256 : Nat) : Int) % 256) = ((x % 256 : Nat) : Int) by omega]
    rw [e3]
    have := ih k (i + 1) (acc ++ by4 x) (by omega) (by omega) (by rw [List.length_append, by4_length]; omega)
    rw [show ((i : Int) + 1) = ((i + 1 : Nat) : Int) by omega, this]
    have hd : l.drop i = x :: l.drop (i + 1) := by
      rw [List.drop_eq_getElem_cons (by omega), ← hxe]
      simp [show i < l.length by omega]
    rw [hd, List.flatMap_cons, List.append_assoc]
theorem putBig_ev (l : List Nat) (hl : ∀ i, l.getD i 0 < 4294967296) (hs : l.length ≤ 1000000) : Ev (fun k => samphireref01_PutBig.f k (ints l)) (txt (l.flatMap by4)) :=
  ⟨l.length + 1, fun k hk => by
    have := putBig_l0 l hl hs l.length k 0 [] (by omega) (by omega) (by simp; omega)
    simpa [samphireref01_PutBig.f, ints] using this⟩
theorem begin_ev : Ev (fun k => samphireref02_Begin.f k) (txt St0.bytes) := by
  have h := putBig_ev shaH (by intro i; rcases i with _ | _ | _ | _ | _ | _ | _ | _ | i <;> simp [shaH]) (by decide)
  obtain ⟨K, hK⟩ := h
  refine ⟨K, fun k hk => ?_⟩
  have : samphireref01_PutBig.f k (ints shaH) = some (txt (shaH.flatMap by4)) := hK k hk
  show samphireref02_Begin.f k = _
  unfold samphireref02_Begin.f
  rw [show ([1779033703, 3144134277, 1013904242, 2773480762, 1359893119, 2600822924, 528734635, 1541459225] : List Int) = ints shaH from rfl, this]
  rfl
theorem or_be62 (x y z v : Nat) (hx : x < 256) (hy : y < 256) (hz : z < 256) (hv : v < 256) : bits .or .i64 (bits .or .i64 (bits .or .i64 (wrap64 (wrap64 (x : Int) * 16777216)) (wrap64 (wrap64 (y : Int) * 65536))) (wrap64 (wrap64 (z : Int) * 256))) (wrap64 (v : Int)) = ((x * 16777216 + y * 65536 + z * 256 + v : Nat) : Int) := by
  rw [wr (x : Int) (by omega) (by omega), wr (y : Int) (by omega) (by omega), wr (z : Int) (by omega) (by omega), wr (v : Int) (by omega) (by omega), wr _ (by omega) (by omega), wr _ (by omega) (by omega), wr _ (by omega) (by omega)]
  rw [show ((x : Int) * 16777216) = ((x * 16777216 : Nat) : Int) by omega, show ((y : Int) * 65536) = ((y * 65536 : Nat) : Int) by omega, show ((z : Int) * 256) = ((z * 256 : Nat) : Int) by omega]
  have h1 : x * 16777216 ||| y * 65536 = x * 16777216 + y * 65536 := by
    have := Nat.two_pow_add_eq_or_of_lt (i := 24) (b := y * 65536) (by omega) x
    rw [Nat.mul_comm x]; exact this.symm
  have h2 : (x * 16777216 + y * 65536) ||| z * 256 = x * 16777216 + y * 65536 + z * 256 := by
    have := Nat.two_pow_add_eq_or_of_lt (i := 16) (b := z * 256) (by omega) (x * 256 + y)
    rw [show x * 16777216 + y * 65536 = 2 ^ 16 * (x * 256 + y) by omega]; exact this.symm
  have h3 : (x * 16777216 + y * 65536 + z * 256) ||| v = x * 16777216 + y * 65536 + z * 256 + v := by
    have := Nat.two_pow_add_eq_or_of_lt (i := 8) (b := v) (by omega) (x * 65536 + y * 256 + z)
    rw [show x * 16777216 + y * 65536 + z * 256 = 2 ^ 8 * (x * 65536 + y * 256 + z) by omega]; exact this.symm
  rw [or62 _ _ (by omega) (by omega), h1, or62 _ _ (by omega) (by omega), h2, or62 _ _ (by omega) (by omega), h3]
/-- The words of bytes. -/
def wordsL (l : List Nat) (n : Nat) : List Nat := (List.range n).map fun j => be4 l (4 * j)
theorem wordsL_succ (l : List Nat) (n : Nat) : wordsL l (n + 1) = wordsL l n ++ [be4 l (4 * n)] := by simp [wordsL, List.range_succ]
theorem wordsL_length (l : List Nat) (n : Nat) : (wordsL l n).length = n := by simp [wordsL]
theorem big_l0 (s : ByteArray) (m : Nat) (hm : s.size = 4 * m) (hs : m ≤ 1000000) : ∀ (d k j : Nat), j + d = m → d < k →
    samphireref01_Big.l0 k s (ints (wordsL (bys s) j)) ((4 * j : Nat) : Int) = some (ints (wordsL (bys s) m), 0) := by
  intro d
  induction d with
  | zero =>
    intro k j hj hk
    obtain ⟨k, rfl⟩ : ∃ m, k = m + 1 := ⟨k - 1, by omega⟩
    simp only [samphireref01_Big.l0]
    rw [if_neg (by omega)]
    obtain rfl : j = m := by omega
    rfl
  | succ d ih =>
    intro k j hj hk
    obtain ⟨k, rfl⟩ : ∃ m, k = m + 1 := ⟨k - 1, by omega⟩
    simp only [samphireref01_Big.l0]
    rw [wr (((4 * j : Nat) : Int) + 1) (by omega) (by omega), wr (((4 * j : Nat) : Int) + 2) (by omega) (by omega), wr (((4 * j : Nat) : Int) + 3) (by omega) (by omega), wr (((4 * j : Nat) : Int) + 4) (by omega) (by omega)]
    rw [if_pos (by omega), if_pos (by omega), if_pos (by omega), if_pos (by omega), if_pos (by omega), if_pos (by omega), if_pos (by omega), if_pos (by omega), if_pos (by rw [ints_length, wordsL_length]; omega)]
    rw [show (((4 * j : Nat) : Int) + 1) = ((4 * j + 1 : Nat) : Int) by omega, show (((4 * j : Nat) : Int) + 2) = ((4 * j + 2 : Nat) : Int) by omega, show (((4 * j : Nat) : Int) + 3) = ((4 * j + 3 : Nat) : Int) by omega, show (((4 * j : Nat) : Int) + 4) = ((4 * (j + 1) : Nat) : Int) by omega]
    rw [bt_nat s _ (by omega), bt_nat s _ (by omega), bt_nat s _ (by omega), bt_nat s _ (by omega), or_be62 _ _ _ _ (bys_lt s _) (bys_lt s _) (bys_lt s _) (bys_lt s _)]
    have := ih k (j + 1) (by omega) (by omega)
    rw [wordsL_succ, ints_append] at this
    exact this
theorem big_ev (s : ByteArray) (m : Nat) (hm : s.size = 4 * m) (hs : m ≤ 1000000) : Ev (fun k => samphireref01_Big.f k s) (ints (wordsL (bys s) m), 0) :=
  ⟨m + 1, fun k hk => by
    show samphireref01_Big.f k s = _
    unfold samphireref01_Big.f
    rw [if_pos (by omega)]
    exact big_l0 s m hm hs m k 0 (by omega) (by omega)⟩
theorem sched_words (b : List Nat) : ∀ n, n ≤ 16 → sched b n = wordsL b n
  | 0, _ => rfl
  | n + 1, h => by
    rw [sched, sched_words b n (by omega), wordsL_succ, wordAt, if_pos (by omega)]
theorem sg0_62 (x : Nat) (hx : x < 4294967296) : bits .xor .i64 (bits .xor .i64 ((rotr x 7 : Nat) : Int) ((rotr x 18 : Nat) : Int)) ((x : Int) / 8) = ((sg0 x : Nat) : Int) := by
  have h1 := rotr_lt x 7 hx
  have h2 := rotr_lt x 18 hx
  have h3 := xor_lt32 h1 h2
  rw [show ((x : Int) / 8) = ((x / 8 : Nat) : Int) by simp, xor62 _ _ (by omega) (by omega), xor62 _ _ (by omega) (by omega)]
  unfold sg0
  rw [Nat.shiftRight_eq_div_pow]
theorem sg1_62 (x : Nat) (hx : x < 4294967296) : bits .xor .i64 (bits .xor .i64 ((rotr x 17 : Nat) : Int) ((rotr x 19 : Nat) : Int)) ((x : Int) / 1024) = ((sg1 x : Nat) : Int) := by
  have h1 := rotr_lt x 17 hx
  have h2 := rotr_lt x 19 hx
  have h3 := xor_lt32 h1 h2
  rw [show ((x : Int) / 1024) = ((x / 1024 : Nat) : Int) by simp, xor62 _ _ (by omega) (by omega), xor62 _ _ (by omega) (by omega)]
  unfold sg1
  rw [Nat.shiftRight_eq_div_pow]
theorem sg0_lt (x : Nat) (hx : x < 4294967296) : sg0 x < 4294967296 := xor_lt32 (xor_lt32 (rotr_lt x 7 hx) (rotr_lt x 18 hx)) (by rw [Nat.shiftRight_eq_div_pow]; omega)
theorem sg1_lt (x : Nat) (hx : x < 4294967296) : sg1 x < 4294967296 := xor_lt32 (xor_lt32 (rotr_lt x 17 hx) (rotr_lt x 19 hx)) (by rw [Nat.shiftRight_eq_div_pow]; omega)
theorem bs0_lt (x : Nat) (hx : x < 4294967296) : bs0 x < 4294967296 := xor_lt32 (xor_lt32 (rotr_lt x 2 hx) (rotr_lt x 13 hx)) (rotr_lt x 22 hx)
theorem bs1_lt (x : Nat) (hx : x < 4294967296) : bs1 x < 4294967296 := xor_lt32 (xor_lt32 (rotr_lt x 6 hx) (rotr_lt x 11 hx)) (rotr_lt x 25 hx)
theorem sched_l0 (s : ByteArray) : ∀ (d k j : Nat), 16 ≤ j → j + d = 64 → d < k →
    samphireref02_schedule.l0 k (ints (sched (bys s) j)) (j : Int) = some (ints (sched (bys s) 64)) := by
  intro d
  induction d with
  | zero =>
    intro k j h16 hj hk
    obtain ⟨k, rfl⟩ : ∃ m, k = m + 1 := ⟨k - 1, by omega⟩
    simp only [samphireref02_schedule.l0]
    rw [if_neg (by omega)]
    obtain rfl : j = 64 := by omega
    rfl
  | succ d ih =>
    intro k j h16 hj hk
    obtain ⟨k, rfl⟩ : ∃ m, k = m + 1 := ⟨k - 1, by omega⟩
    simp only [samphireref02_schedule.l0, ints_length, sched_length]
    rw [wr ((j : Int) - 15) (by omega) (by omega), wr ((j : Int) - 2) (by omega) (by omega), wr ((j : Int) - 16) (by omega) (by omega), wr ((j : Int) - 7) (by omega) (by omega), wr ((j : Int) + 1) (by omega) (by omega)]
    rw [if_pos (by omega), if_pos (by omega), if_pos (by omega), if_pos (by omega), if_pos (by omega)]
    rw [show ((j : Int) - 15) = ((j - 15 : Nat) : Int) by omega, show ((j : Int) - 2) = ((j - 2 : Nat) : Int) by omega, show ((j : Int) - 16) = ((j - 16 : Nat) : Int) by omega, show ((j : Int) - 7) = ((j - 7 : Nat) : Int) by omega, show ((j : Int) + 1) = ((j + 1 : Nat) : Int) by omega]
    rw [rd_ints, rd_ints, rd_ints, rd_ints]
    have hb := sched_lt (bys s) (bys_lt s) j
    have b15 := hb (j - 15)
    have b2 := hb (j - 2)
    have b16 := hb (j - 16)
    have b7 := hb (j - 7)
    have hn : sched (bys s) (j + 1) = sched (bys s) j ++ [wordAt (bys s) (sched (bys s) j) j] := rfl
    have hv : wordAt (bys s) (sched (bys s) j) j = ((sched (bys s) j).getD (j - 16) 0 + sg0 ((sched (bys s) j).getD (j - 15) 0) + (sched (bys s) j).getD (j - 7) 0 + sg1 ((sched (bys s) j).getD (j - 2) 0)) % 4294967296 := by
      rw [wordAt, if_neg (by omega)]
    generalize (sched (bys s) j).getD (j - 15) 0 = x15 at *
    generalize (sched (bys s) j).getD (j - 2) 0 = x2 at *
    generalize (sched (bys s) j).getD (j - 16) 0 = x16 at *
    generalize (sched (bys s) j).getD (j - 7) 0 = x7 at *
    have r7 := samphireref02_right.at_ x15 7 b15 rfl
    have r18 := samphireref02_right.at_ x15 18 b15 rfl
    have r17 := samphireref02_right.at_ x2 17 b2 rfl
    have r19 := samphireref02_right.at_ x2 19 b2 rfl
    rw [show (((7 : Nat)) : Int) = 7 from rfl] at r7
    rw [show (((18 : Nat)) : Int) = 18 from rfl] at r18
    rw [show (((17 : Nat)) : Int) = 17 from rfl] at r17
    rw [show (((19 : Nat)) : Int) = 19 from rfl] at r19
    rw [r7, r18, r17, r19]
    simp only [Option.bind_some]
    rw [if_pos (by omega), if_pos (by omega), if_pos (by omega), if_pos (by omega), sg0_62 _ b15, sg1_62 _ b2]
    have q0 := sg0_lt x15 b15
    have q1 := sg1_lt x2 b2
    rw [wr ((x16 : Int) + (sg0 x15 : Int)) (by omega) (by omega), wr ((x16 : Int) + (sg0 x15 : Int) + (x7 : Int)) (by omega) (by omega), wr ((x16 : Int) + (sg0 x15 : Int) + (x7 : Int) + (sg1 x2 : Int)) (by omega) (by omega)]
    rw [show ((x16 : Int) + (sg0 x15 : Int) + (x7 : Int) + (sg1 x2 : Int)) = ((x16 + sg0 x15 + x7 + sg1 x2 : Nat) : Int) by omega, word_f _ (by omega)]
    simp only [Option.bind_some]
    rw [if_pos (by omega), ← hv]
    have := ih k (j + 1) (by omega) (by omega) (by omega)
    rw [hn, ints_append] at this
    exact this
theorem sched_ev (s : ByteArray) (hs : s.size = 64) : Ev (fun k => samphireref02_schedule.f k s) (ints (sched (bys s) 64)) := by
  obtain ⟨K, hK⟩ := big_ev s 16 (by omega) (by omega)
  refine ⟨max K 100, fun k hk => ?_⟩
  show samphireref02_schedule.f k s = _
  unfold samphireref02_schedule.f
  rw [show samphireref01_Big.f k s = some (ints (wordsL (bys s) 16), 0) from hK k (by omega)]
  simp only [Option.bind_some]
  rw [← sched_words _ 16 (by omega)]
  exact sched_l0 s 48 k 16 (by omega) (by omega) (by omega)
theorem chs62 (e f g : Nat) (he : e < 4294967296) (hf : f < 4294967296) (hg : g < 4294967296) :
    bits .xor .i64 (bits .and .i64 (e : Int) (f : Int)) (bits .and .i64 ((4294967295 - e : Nat) : Int) (g : Int)) = ((chs e f g : Nat) : Int) := by
  have h1 : e &&& f < 4294967296 := and_lt32 hf
  have h2 : (4294967295 - e) &&& g < 4294967296 := and_lt32 hg
  rw [and62 _ _ (by omega) (by omega), and62 _ _ (by omega) (by omega), xor62 _ _ (by omega) (by omega)]
  rfl
theorem maj62 (a b c : Nat) (ha : a < 4294967296) (hb : b < 4294967296) (hc : c < 4294967296) :
    bits .xor .i64 (bits .xor .i64 (bits .and .i64 (a : Int) (b : Int)) (bits .and .i64 (a : Int) (c : Int))) (bits .and .i64 (b : Int) (c : Int)) = ((maj a b c : Nat) : Int) := by
  have h1 : a &&& b < 4294967296 := and_lt32 hb
  have h2 : a &&& c < 4294967296 := and_lt32 hc
  have h3 : b &&& c < 4294967296 := and_lt32 hc
  have h4 := xor_lt32 h1 h2
  rw [and62 _ _ (by omega) (by omega), and62 _ _ (by omega) (by omega), and62 _ _ (by omega) (by omega), xor62 _ _ (by omega) (by omega), xor62 _ _ (by omega) (by omega)]
  rfl
theorem bs1_62 (e : Nat) (he : e < 4294967296) : bits .xor .i64 (bits .xor .i64 ((rotr e 6 : Nat) : Int) ((rotr e 11 : Nat) : Int)) ((rotr e 25 : Nat) : Int) = ((bs1 e : Nat) : Int) := by
  have h1 := rotr_lt e 6 he
  have h2 := rotr_lt e 11 he
  have h3 := rotr_lt e 25 he
  have h4 := xor_lt32 h1 h2
  rw [xor62 _ _ (by omega) (by omega), xor62 _ _ (by omega) (by omega)]
  rfl
theorem bs0_62 (e : Nat) (he : e < 4294967296) : bits .xor .i64 (bits .xor .i64 ((rotr e 2 : Nat) : Int) ((rotr e 13 : Nat) : Int)) ((rotr e 22 : Nat) : Int) = ((bs0 e : Nat) : Int) := by
  have h1 := rotr_lt e 2 he
  have h2 := rotr_lt e 13 he
  have h3 := rotr_lt e 22 he
  have h4 := xor_lt32 h1 h2
  rw [xor62 _ _ (by omega) (by omega), xor62 _ _ (by omega) (by omega)]
  rfl
theorem not_word (e : Nat) (he : e < 4294967296) : samphireref01_Word.f (bits .xor .i64 (-1) (e : Int)) = some ((4294967295 - e : Nat) : Int) := by
  unfold samphireref01_Word.f
  have h1 : bits .and .i64 (bits .xor .i64 (-1) (e : Int)) 4294967295 = ((4294967295 - e : Nat) : Int) := by
    have hx : bits .xor .i64 (-1) (e : Int) = -1 - (e : Int) := by
      have h64 : (4294967296 : Nat) < 2 ^ 64 := by decide
      have he64 : e % 2 ^ 64 = e := Nat.mod_eq_of_lt (by omega)
      have e1 : bits .xor .i64 (-1) (e : Int) = IntKind.i64.wrap (((2 ^ 64 - 1) ^^^ e : Nat) : Int) := by
        simp only [bits, BitVec.toNat_xor, BitVec.ofInt_natCast, BitVec.toNat_ofNat]
        rw [show (IntKind.i64.bits) = 64 from rfl, he64]
        rfl
      have e2 : (2 ^ 64 - 1) ^^^ e = 2 ^ 64 - 1 - e := by
        apply Nat.eq_of_testBit_eq
        intro i
        have h := Nat.testBit_two_pow_sub_succ (x := e) (n := 64) (by omega) i
        rw [show (2 ^ 64 - 1 - e : Nat) = 2 ^ 64 - (e + 1) by omega, h, Nat.testBit_xor, Nat.testBit_two_pow_sub_one]
        by_cases hi : i < 64
        · simp [hi]
        · have : e.testBit i = false := Nat.testBit_lt_two_pow (Nat.lt_of_lt_of_le (show e < 2 ^ 64 by omega) (Nat.pow_le_pow_right (by decide) (by omega)))
          simp [hi, this]
      rw [e1, e2, IntKind.wrap_i64]
      omega
    rw [hx]
    have e3 : bits .and .i64 (-1 - (e : Int)) 4294967295 = IntKind.i64.wrap (((2 ^ 64 - 1 - e) &&& 4294967295 : Nat) : Int) := by
      simp only [bits, BitVec.toNat_and]
      rw [show (IntKind.i64.bits) = 64 from rfl]
      have e4 : (BitVec.ofInt 64 (-1 - (e : Int))).toNat = 2 ^ 64 - 1 - e := by
        rw [BitVec.toNat_ofInt]
        omega
      rw [e4]
      rfl
    rw [e3, show (4294967295 : Nat) = 2 ^ 32 - 1 from rfl, Nat.and_two_pow_sub_one_eq_mod, IntKind.wrap_i64]
    omega
  rw [h1]
theorem block_round (k : Nat) (w kk v : List Int) (s : St) (hs : s.ok) (i xw xk : Nat) (hi : i < 64) (hw : w.length = 64) (hkk : kk.length = 64) (hxw : rd w (i : Int) = (xw : Int)) (hxk : rd kk (i : Int) = (xk : Int)) (bw : xw < 4294967296) (bk : xk < 4294967296) :
    samphireref02_Block.l0 (k + 1) w kk v (ints s.list) (i : Int) = samphireref02_Block.l0 k w kk v (ints (rnd s xk xw).list) ((i + 1 : Nat) : Int) := by
  obtain ⟨a, b, c, d, e, f, g, h⟩ := s
  obtain ⟨h1, h2, h3, h4, h5, h6, h7, h8⟩ := hs
  simp only at h1 h2 h3 h4 h5 h6 h7 h8
  have hl : (ints (St.mk a b c d e f g h).list).length = 8 := rfl
  simp only [samphireref02_Block.l0, hl, hw, hkk]
  rw [show rd (ints (St.mk a b c d e f g h).list) 0 = (a : Int) from rfl, show rd (ints (St.mk a b c d e f g h).list) 1 = (b : Int) from rfl, show rd (ints (St.mk a b c d e f g h).list) 2 = (c : Int) from rfl, show rd (ints (St.mk a b c d e f g h).list) 3 = (d : Int) from rfl, show rd (ints (St.mk a b c d e f g h).list) 4 = (e : Int) from rfl, show rd (ints (St.mk a b c d e f g h).list) 5 = (f : Int) from rfl, show rd (ints (St.mk a b c d e f g h).list) 6 = (g : Int) from rfl, show rd (ints (St.mk a b c d e f g h).list) 7 = (h : Int) from rfl, hxw, hxk]
  rw [if_pos (by omega), if_pos (by decide), if_pos (by decide), if_pos (by decide), if_pos (by decide), if_pos (by decide), if_pos (by decide), if_pos (by decide)]
  have r6 := samphireref02_right.at_ e 6 h5 rfl
  have r11 := samphireref02_right.at_ e 11 h5 rfl
  have r25 := samphireref02_right.at_ e 25 h5 rfl
  have r2 := samphireref02_right.at_ a 2 h1 rfl
  have r13 := samphireref02_right.at_ a 13 h1 rfl
  have r22 := samphireref02_right.at_ a 22 h1 rfl
  rw [show (((6 : Nat)) : Int) = 6 from rfl] at r6
  rw [show (((11 : Nat)) : Int) = 11 from rfl] at r11
  rw [show (((25 : Nat)) : Int) = 25 from rfl] at r25
  rw [show (((2 : Nat)) : Int) = 2 from rfl] at r2
  rw [show (((13 : Nat)) : Int) = 13 from rfl] at r13
  rw [show (((22 : Nat)) : Int) = 22 from rfl] at r22
  have q1 := bs1_lt e h5
  have q2 := bs0_lt a h1
  have q3 : chs e f g < 4294967296 := xor_lt32 (and_lt32 h6) (and_lt32 h7)
  have q4 : maj a b c < 4294967296 := xor_lt32 (xor_lt32 (and_lt32 h2) (and_lt32 h3)) (and_lt32 h3)
  have p1 : (h + bs1 e + chs e f g + xk + xw) % 4294967296 = t1 ⟨a, b, c, d, e, f, g, h⟩ xk xw := by simp only [t1]
  have p2 : (bs0 a + maj a b c) % 4294967296 = t2 ⟨a, b, c, d, e, f, g, h⟩ := by simp only [t2]
  have p3 : t1 ⟨a, b, c, d, e, f, g, h⟩ xk xw < 4294967296 := Nat.mod_lt _ (by decide)
  have p4 : t2 ⟨a, b, c, d, e, f, g, h⟩ < 4294967296 := Nat.mod_lt _ (by decide)
  have p5 : rnd ⟨a, b, c, d, e, f, g, h⟩ xk xw = ⟨(t1 ⟨a, b, c, d, e, f, g, h⟩ xk xw + t2 ⟨a, b, c, d, e, f, g, h⟩) % 4294967296, a, b, c, (d + t1 ⟨a, b, c, d, e, f, g, h⟩ xk xw) % 4294967296, e, f, g⟩ := by simp only [rnd]
  have W1 : samphireref01_Word.f (wrap64 (wrap64 (wrap64 (wrap64 ((h : Int) + (bs1 e : Int)) + (chs e f g : Int)) + (xk : Int)) + (xw : Int))) = some ((t1 ⟨a, b, c, d, e, f, g, h⟩ xk xw : Nat) : Int) := by
    rw [wr ((h : Int) + (bs1 e : Int)) (by omega) (by omega), wr ((h : Int) + (bs1 e : Int) + (chs e f g : Int)) (by omega) (by omega), wr ((h : Int) + (bs1 e : Int) + (chs e f g : Int) + (xk : Int)) (by omega) (by omega), wr ((h : Int) + (bs1 e : Int) + (chs e f g : Int) + (xk : Int) + (xw : Int)) (by omega) (by omega),
      show ((h : Int) + (bs1 e : Int) + (chs e f g : Int) + (xk : Int) + (xw : Int)) = ((h + bs1 e + chs e f g + xk + xw : Nat) : Int) by omega, word_f _ (by omega), p1]
  have W2 : samphireref01_Word.f (wrap64 ((bs0 a : Int) + (maj a b c : Int))) = some ((t2 ⟨a, b, c, d, e, f, g, h⟩ : Nat) : Int) := by
    rw [wr ((bs0 a : Int) + (maj a b c : Int)) (by omega) (by omega), show ((bs0 a : Int) + (maj a b c : Int)) = ((bs0 a + maj a b c : Nat) : Int) by omega, word_f _ (by omega), p2]
  rw [p5]
  clear p1 p2 p5
  generalize t1 ⟨a, b, c, d, e, f, g, h⟩ xk xw = T1 at *
  generalize t2 ⟨a, b, c, d, e, f, g, h⟩ = T2 at *
  have W3 : samphireref01_Word.f (wrap64 ((T1 : Int) + (T2 : Int))) = some (((T1 + T2) % 4294967296 : Nat) : Int) := by
    rw [wr ((T1 : Int) + (T2 : Int)) (by omega) (by omega), show ((T1 : Int) + (T2 : Int)) = ((T1 + T2 : Nat) : Int) by omega, word_f _ (by omega)]
  have W4 : samphireref01_Word.f (wrap64 ((d : Int) + (T1 : Int))) = some (((d + T1) % 4294967296 : Nat) : Int) := by
    rw [wr ((d : Int) + (T1 : Int)) (by omega) (by omega), show ((d : Int) + (T1 : Int)) = ((d + T1 : Nat) : Int) by omega, word_f _ (by omega)]
  rw [r6, Option.bind_some, r11, Option.bind_some, r25, Option.bind_some, not_word e h5, Option.bind_some, if_pos (by omega), if_pos (by omega), if_pos (by omega), bs1_62 e h5, chs62 e f g h5 h6 h7, W1, Option.bind_some]
  rw [r2, Option.bind_some, r13, Option.bind_some, r22, Option.bind_some, bs0_62 a h1, maj62 a b c h1 h2 h3, W2, Option.bind_some, W3, Option.bind_some, if_pos (by decide), W4, Option.bind_some, wr ((i : Int) + 1) (by omega) (by omega), show ((i : Int) + 1) = ((i + 1 : Nat) : Int) by omega]
  simp only [ints, St.list, List.map_cons, List.map_nil]
theorem shaK_lt (i : Nat) : shaK.getD i 0 < 4294967296 := by
  rcases Nat.lt_or_ge i 64 with h | h
  · have : ∀ i, i < 64 → shaK.getD i 0 < 4294967296 := by decide +kernel
    exact this i h
  · rw [List.getD_eq_getElem?_getD, List.getElem?_eq_none (by rw [shaK_length]; exact h)]
    decide
theorem St.list_get (s : St) (hs : s.ok) (i : Nat) : s.list.getD i 0 < 4294967296 := by
  obtain ⟨h1, h2, h3, h4, h5, h6, h7, h8⟩ := hs
  rcases i with _ | _ | _ | _ | _ | _ | _ | _ | i <;> simp [St.list] <;> assumption
theorem block_l1 (v x : St) (hv : v.ok) (hx : x.ok) : ∀ (d k j : Nat), j + d = 8 → d < k →
    ∀ K, (∀ n, K ≤ n → samphireref01_PutBig.f n (ints (v.add x).list) = some (txt (v.add x).bytes)) → K + d < k →
    samphireref02_Block.l1 k (ints v.list) (ints x.list) (ints ((v.add x).list.take j)) (j : Int) = some (txt (v.add x).bytes, 0) := by
  intro d
  induction d with
  | zero =>
    intro k j hj hk K hK hKk
    obtain ⟨k, rfl⟩ : ∃ m, k = m + 1 := ⟨k - 1, by omega⟩
    simp only [samphireref02_Block.l1]
    rw [if_neg (by omega)]
    obtain rfl : j = 8 := by omega
    rw [show (v.add x).list.take 8 = (v.add x).list from rfl, hK k (by omega)]
    rfl
  | succ d ih =>
    intro k j hj hk K hK hKk
    obtain ⟨k, rfl⟩ : ∃ m, k = m + 1 := ⟨k - 1, by omega⟩
    have l1 : (ints v.list).length = 8 := rfl
    have l2 : (ints x.list).length = 8 := rfl
    have l3 : (ints ((v.add x).list.take j)).length = j := by
      rw [ints_length, List.length_take, show (v.add x).list.length = 8 from rfl]
      omega
    simp only [samphireref02_Block.l1, l1, l2, l3]
    rw [if_pos (by omega), if_pos (by omega), if_pos (by omega), if_pos (by omega), rd_ints, rd_ints]
    have b1 := v.list_get hv j
    have b2 := x.list_get hx j
    have hn : (v.add x).list.take (j + 1) = (v.add x).list.take j ++ [(v.list.getD j 0 + x.list.getD j 0) % 4294967296] := by
      obtain ⟨va, vb, vc, vd, ve, vf, vg, vh⟩ := v
      obtain ⟨xa, xb, xc, xd, xe, xf, xg, xh⟩ := x
      rcases j with _ | _ | _ | _ | _ | _ | _ | _ | j <;> first | rfl | omega
    rw [wr ((v.list.getD j 0 : Nat) + (x.list.getD j 0 : Nat) : Int) (by omega) (by omega), show ((v.list.getD j 0 : Nat) + (x.list.getD j 0 : Nat) : Int) = ((v.list.getD j 0 + x.list.getD j 0 : Nat) : Int) by omega, word_f _ (by omega), Option.bind_some, if_pos (by omega), wr ((j : Int) + 1) (by omega) (by omega), show ((j : Int) + 1) = ((j + 1 : Nat) : Int) by omega]
    have := ih k (j + 1) (by omega) (by omega) K hK (by omega)
    rw [hn, ints_append] at this
    exact this
theorem block_l0 (s : St) (hs : s.ok) (b : ByteArray) (K : Nat) (hK : ∀ n, K ≤ n → samphireref01_PutBig.f n (ints (stp s (bys b)).list) = some (txt (stp s (bys b)).bytes)) : ∀ (d k j : Nat), j + d = 64 → K + d + 20 < k →
    samphireref02_Block.l0 k (ints (sched (bys b) 64)) (ints shaK) (ints s.list) (ints (rds (sched (bys b) 64) s j).list) (j : Int) = some (txt (stp s (bys b)).bytes, 0) := by
  intro d
  induction d with
  | zero =>
    intro k j hj hk
    obtain ⟨k, rfl⟩ : ∃ m, k = m + 1 := ⟨k - 1, by omega⟩
    simp only [samphireref02_Block.l0]
    rw [if_neg (by omega)]
    obtain rfl : j = 64 := by omega
    have := block_l1 s (rds (sched (bys b) 64) s 64) hs (rds_ok hs _) 8 k 0 (by omega) (by omega) K hK (by omega)
    exact this
  | succ d ih =>
    intro k j hj hk
    obtain ⟨k, rfl⟩ : ∃ m, k = m + 1 := ⟨k - 1, by omega⟩
    rw [block_round k _ _ _ _ (rds_ok hs _) j _ _ (by omega) (by rw [ints_length, sched_length]) (by rw [ints_length, shaK_length]) (rd_ints _ j) (rd_ints _ j) (sched_lt (bys b) (bys_lt b) 64 j) (shaK_lt j)]
    exact ih k (j + 1) (by omega) (by omega)
theorem block_ev (a0 a1 : ByteArray) : Ev (fun k => samphireref02_Block.f k a0 a1) (if a0.size = 32 ∧ a1.size = 64 then (txt (stp (stOf (bys a0)) (bys a1)).bytes, 0) else (⟨#[]⟩, 1)) := by
  by_cases hc : a0.size = 32 ∧ a1.size = 64
  · rw [if_pos hc]
    obtain ⟨h0, h1⟩ := hc
    obtain ⟨K1, hK1⟩ := putBig_ev (stp (stOf (bys a0)) (bys a1)).list (St.list_get _ (St.add_ok _ _)) (by simp [St.list])
    obtain ⟨K2, hK2⟩ := sched_ev a1 h1
    obtain ⟨K3, hK3⟩ := big_ev a0 8 (by omega) (by omega)
    refine ⟨K1 + K2 + K3 + 1000, fun k hk => ?_⟩
    show samphireref02_Block.f k a0 a1 = _
    obtain ⟨k, rfl⟩ : ∃ m, k = m + 1 := ⟨k - 1, by omega⟩
    unfold samphireref02_Block.f
    have e1 : ((a1.size : Int) != 64) = false := by rw [bne_eq_false_iff_eq]; omega
    rw [if_pos (by omega), e1]
    simp only [samphireref02_Block.j0]
    rw [if_neg (by decide)]
    rw [show samphireref02_schedule.f k a1 = _ from hK2 k (by omega), show samphireref01_Big.f k a0 = _ from hK3 k (by omega)]
    simp only [Option.bind_some, samphireref02_constants.f]
    have := block_l0 (stOf (bys a0)) (stOf_ok a0) a1 K1 (fun n hn => hK1 n hn) 64 k 0 (by omega) (by omega)
    exact this
  · rw [if_neg hc]
    refine ⟨1, fun k hk => ?_⟩
    show samphireref02_Block.f k a0 a1 = _
    obtain ⟨k, rfl⟩ : ∃ m, k = m + 1 := ⟨k - 1, by omega⟩
    unfold samphireref02_Block.f
    by_cases h0 : a0.size = 32
    · have e1 : ((a1.size : Int) != 64) = true := by
        rw [bne_iff_ne]
        omega
      rw [if_pos (by omega), e1]
      simp only [samphireref02_Block.j0]
      rw [if_pos trivial]
    · rw [if_neg (by omega)]
      simp only [samphireref02_Block.j0]
      rw [if_pos trivial]
end Go.Proofs.Ytbmpcdpcdljibaa.Pr

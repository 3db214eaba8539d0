/- hmac.turned: a key's block. -/
-- HAND samphire/hmac.turned hmac_turned 0 1
-- NEEDS samphire/sha.Sum
-- NEEDS strings.Repeat
import Derived.Test.YtbmpcdpcdljibaaHShaD
import Derived.Test.YtbmpcdpcdljibaaHWordA
namespace Go.Proofs.Ytbmpcdpcdljibaa.Pr
open Go.RowKit Go.Deep Go.Proofs.YtbmpcdpcdljibaaW.PrintWords Go.Proofs.YtbmpcdpcdljibaaW.PrintLast Go.Proofs.YtbmpcdpcdljibaaW.PrintMore
set_option maxHeartbeats 2000000
set_option linter.unusedVariables false
set_option linter.unusedSimpArgs false
/-- A key's block. -/
def key64 (l : List Nat) : List Nat := (if l.length > 64 then sumL l else l) ++ List.replicate (64 - (if l.length > 64 then sumL l else l).length) 0
theorem key64_length (l : List Nat) : (key64 l).length = 64 := by
  unfold key64
  rw [List.length_append, List.length_replicate]
  split
  · rw [sumL_length]
  · omega
def hmac_turned.f (a0 : ByteArray) (a1 : Int) : Option ByteArray :=
  if a0.size ≤ 1000000000000 ∧ 0 ≤ a1 ∧ a1 < 256 then some (txt ((key64 (bys a0)).map (· ^^^ a1.toNat))) else none
/-- The row of a conversion, with numbers in its first cells. -/
def BAt (g : Nat) (l : List Nat) (rest : Array Value) (w : World) : Prop := w.heap[g]? = some (.cells (u8s l ++ rest) 5 ((u8s l ++ rest).size, (u8s l ++ rest).size + 1))
theorem u8s_bys (s : ByteArray) : (s.data.map fun b => Value.int .u8 b.toNat) = u8s (bys s) := by
  unfold u8s bys
  apply Array.ext'
  simp
theorem bytes_row (w : World) (s : ByteArray) : ∃ rest, BAt w.heap.size (bys s) rest (Lib.bytesWorld w 5 s) := by
  refine ⟨Array.replicate (grownCap w s.size 0 5 - s.size) (.int .u8 0), ?_⟩
  unfold BAt
  rw [← u8s_bys]
  exact Lib.bytesWorld_at_new w 5 s
theorem BAt.lt {g : Nat} {l : List Nat} {rest : Array Value} {w : World} {k x : Nat} (hx : l[k]? = some x) : k < (u8s l ++ rest).size := by
  have hk : k < l.length := (List.getElem?_eq_some_iff.1 hx).1
  rw [Array.size_append, u8s_size]
  omega
theorem BAt.cell {g : Nat} {l : List Nat} {rest : Array Value} {w : World} (h : BAt g l rest w) {k x : Nat} (hx : l[k]? = some x) : w.cell? ⟨g, k, none⟩ = some (.int .u8 (x : Int)) := by
  have hk : k < l.length := (List.getElem?_eq_some_iff.1 hx).1
  rw [cell_of_row w g k _ _ _ h, Array.getElem?_append_left (by rw [u8s_size]; exact hk)]
  simp [u8s, hx]
theorem BAt.frozen {g : Nat} {l : List Nat} {rest : Array Value} {w : World} (h : BAt g l rest w) {k x : Nat} (hx : l[k]? = some x) : w.frozen? ⟨g, k, none⟩ = false := by
  have hk : k < (u8s l ++ rest).size := BAt.lt (g := g) (w := w) hx
  have h' : w.heap[g]? = _ := h
  generalize (u8s l ++ rest) = cs at h' hk
  simp [World.frozen?, h']
  omega
theorem BAt.store {g : Nat} {l : List Nat} {rest : Array Value} {w : World} (h : BAt g l rest w) (k x : Nat) (hk : k < l.length) : BAt g (l.set k x) rest (w.setCell ⟨g, k, none⟩ (.int .u8 (x : Int))) := by
  unfold BAt at h ⊢
  rw [setCell_eq_setRow w g k _ _ _ _ h, setRow_heap w g _ _ _ _ h]
  have hk2 : k < l.length + rest.size := by omega
  have e : u8s (l.set k x) ++ rest = (u8s l ++ rest).setIfInBounds k (.int .u8 (x : Int)) := by
    rw [← u8s_set]
    apply Array.ext'
    simp [Array.setIfInBounds, u8s, hk, List.set_append_left, hk2]
  have e2 : (u8s (l.set k x)).size = (u8s l).size := by simp [u8s]
  rw [← e, Array.size_append, Array.size_append, e2]
theorem conv_bat (W : World) (g : Nat) (l : List Nat) (rest : Array Value) (h : BAt g l rest W) (n : Nat) (hn : l.length = n) (c : Nat) :
    (convert 32 9 (.slice (some ⟨g, 0, none⟩) n c)).run Try.prog W = .ok (.string (txt l)) W := by
  rw [← str_nats]
  refine run_convert_bytes_arg W 32 5 Try.underlying32 Try.underlying5 g 0 n c _ (by simpa using hn) (fun i hi => ?_) 9 Try.underlying9
  rw [Nat.zero_add, BAt.cell h (List.getElem?_eq_getElem (by omega))]
  simp [show i < l.length by omega]
def mixAt (b : Nat) (L : List Nat) (k : Nat) : List Nat := (L.take k).map (· ^^^ b) ++ L.drop k
theorem mixAt_length (b : Nat) (L : List Nat) (k : Nat) : (mixAt b L k).length = L.length := by
  unfold mixAt
  rw [List.length_append, List.length_map, List.length_take, List.length_drop]
  omega
theorem mixAt_get (b : Nat) (L : List Nat) (k : Nat) (hk : k < L.length) : (mixAt b L k)[k]? = some (L.getD k 0) := by
  unfold mixAt
  rw [List.getElem?_append_right (by rw [List.length_map, List.length_take]; omega), List.length_map, List.length_take, List.getElem?_drop]
  simp [Nat.min_eq_left (Nat.le_of_lt hk), hk]
theorem mixAt_set (b : Nat) (L : List Nat) (k x : Nat) (hk : k < L.length) (hx : L.getD k 0 = x) : (mixAt b L k).set k (x ^^^ b) = mixAt b L (k + 1) := by
  unfold mixAt
  have hx' : L[k] = x := by rw [← hx]; simp [hk]
  rw [List.set_append_right _ _ (by rw [List.length_map, List.length_take]; omega), List.take_succ_eq_append_getElem hk, List.map_append, List.append_assoc, hx', List.length_map, List.length_take, Nat.min_eq_left (Nat.le_of_lt hk), Nat.sub_self, List.drop_eq_getElem_cons hk]
  rfl
theorem mixAt_all (b : Nat) (L : List Nat) (k : Nat) (hk : L.length = k) : mixAt b L k = L.map (· ^^^ b) := by
  unfold mixAt
  rw [← hk, List.take_length, List.drop_length, List.append_nil]
set_option maxRecDepth 100000 in
theorem turnedS (a0 : ByteArray) (by_ : Nat) (hb : by_ < 256) (hn : a0.size ≤ 64) (w : World) :
    Calls Try.prog 52 #[.string a0, .int .u8 by_] w fun e w' => e = .returned (.string (txt ((bys a0 ++ List.replicate (64 - a0.size) 0).map (· ^^^ by_)))) ∧ Below w.heap.size w w' := by
  have c1 : decide (64 < (a0.size : Int)) = false := decide_eq_false (by omega)
  have kb := fun (s : ByteArray) W => print_bytes (P := Try.prog) 9 32 5 Try.underlying9 Try.underlying32 Try.underlying5 s W
  go_enter Try.func52, Try.ntmps52
  go_wp2_with (fail)
  rw [show ((64 : Int) - (a0.size : Int)) = ((64 - a0.size : Nat) : Int) by omega]
  refine (Try.strings_Repeat (⟨#[0]⟩ : ByteArray) (64 - a0.size) _ (by omega) (by show 1 * _ ≤ _; omega)).mono ?_
  rw [txt_repeat]
  rintro e w1 ⟨rfl, hb1⟩
  generalize hT : txt (List.replicate (64 - a0.size) 0) = T
  have hTs : T.size = 64 - a0.size := by rw [← hT, txt_size, List.length_replicate]
  have k1 : a0.size + T.size ≤ 9223372036854775807 := by omega
  have k3 : (9223372036854775807 < a0.size + T.size) = False := eq_false (Nat.not_lt.2 k1)
  have hS : bys (a0 ++ T) = bys a0 ++ List.replicate (64 - a0.size) 0 := by rw [bys_append, ← hT, bys_txt (by intro n hn; rw [List.mem_replicate] at hn; omega)]
  have hSs : (a0 ++ T).size = 64 := by rw [ByteArray.size_append]; omega
  have HS := Aside0.mk hS
  have HSs := Aside0.mk hSs
  clear hS hSs hT
  have kb1 := kb (a0 ++ T)
  clear kb
  go_wp2_with (fail)
  have HROW := bytes_row w1 (a0 ++ T)
  have HBW : Aside0 (Below w.heap.size w (Lib.bytesWorld w1 5 (a0 ++ T))) := ⟨bytes_below hb1 hb1.size _ _⟩
  have HG : Aside0 (w.heap.size ≤ w1.heap.size) := ⟨hb1.size⟩
  clear kb1 hb1 k1 k3
  rw [HS.out] at HROW
  generalize hL : bys a0 ++ List.replicate (64 - a0.size) 0 = L at HROW HS ⊢
  have hLl : L.length = 64 := by rw [← hL, List.length_append, bys_length, List.length_replicate]; omega
  have hLb : ∀ x ∈ L, x < 256 := by
    rw [← HS.out]
    intro x hx
    obtain ⟨i, hi, rfl⟩ := List.getElem_of_mem hx
    have := bys_lt (a0 ++ T) i
    simpa [List.getD_eq_getElem?_getD, List.getElem?_eq_getElem hi] using this
  obtain ⟨rest, HROW⟩ := HROW
  have HLl := Aside0.mk hLl
  have HL := Aside0.mk hL
  have HLb := Aside0.mk hLb
  have HR := Aside0.mk HROW
  clear hL hLl hLb HROW HS HSs
  generalize Lib.bytesWorld w1 5 (a0 ++ T) = w2 at HR HBW ⊢
  generalize grownCap w1 64 0 5 = cp
  generalize w1.heap.size = g at HR HG ⊢
  have hcv := Aside0.mk (fun (W : World) (l : List Nat) (h : BAt g l rest W) (hl : l.length = 64) => conv_bat W g l rest h 64 hl cp)
  go_loopw [19] (fun i wr => ∃ k : Nat, k ≤ 64 ∧ i = .int .i64 k ∧ Aside0 (BAt g (mixAt by_ L k) rest wr) ∧ Aside0 (Below w.heap.size w wr)) (fun i _ => 64 - (intOf i).toNat)
  case atStart => exact ⟨0, by omega, rfl, HR, HBW⟩
  case round =>
    clear HR HBW
    obtain ⟨k, hk, rfl, HR, HB⟩ := hrel
    by_cases hlt : k < 64
    · have hx0 : (mixAt by_ L k)[k]? = some (L.getD k 0) := mixAt_get by_ L k (by rw [HLl.out]; exact hlt)
      have hxb : L.getD k 0 < 256 := by
        have hk' : k < L.length := by rw [HLl.out]; exact hlt
        rw [List.getD_eq_getElem?_getD, List.getElem?_eq_getElem hk']
        exact HLb.out _ (List.getElem_mem hk')
      have hcell := BAt.cell HR.out hx0
      have hfr := BAt.frozen HR.out hx0
      generalize hx : L.getD k 0 = x at hcell hxb
      have hxor := u8_xor_nat x by_ hxb hb
      have HX := Aside0.mk hx
      clear hx hx0 hcv
      go_wp2
      refine ⟨⟨k + 1, by omega, by go_num, ⟨?_⟩, ⟨?_⟩⟩, by simp [intOf]; omega⟩
      · have := BAt.store HR.out k (x ^^^ by_) (by rw [mixAt_length, HLl.out]; exact hlt)
        rw [mixAt_set by_ L k x (by rw [HLl.out]; exact hlt) HX.out] at this
        exact this
      · exact HB.out.setCell (p := ⟨g, k, none⟩) HG.out _
    · have hk64 : k = 64 := by omega
      subst hk64
      clear hlt hk
      have hm : mixAt by_ L 64 = L.map (· ^^^ by_) := mixAt_all by_ L 64 HLl.out
      have hcv2 := hcv.out wr _ HR.out (by rw [hm, List.length_map, HLl.out])
      rw [hm] at hcv2
      clear hm hcv
      go_wp2
      go_ret
      rw [HL.out]
      exact ⟨rfl, HB.out⟩
set_option maxRecDepth 100000 in
theorem turnedL (a0 : ByteArray) (by_ : Nat) (hb : by_ < 256) (hn0 : 64 < a0.size) (hn1 : a0.size ≤ 1000000000000) (w : World) :
    Calls Try.prog 52 #[.string a0, .int .u8 by_] w fun e w' => e = .returned (.string (txt ((bys (sumT a0) ++ List.replicate (64 - (sumT a0).size) 0).map (· ^^^ by_)))) ∧ Below w.heap.size w w' := by
  have c1 : decide (64 < (a0.size : Int)) = true := decide_eq_true (by omega)
  have kb := fun (s : ByteArray) W => print_bytes (P := Try.prog) 9 32 5 Try.underlying9 Try.underlying32 Try.underlying5 s W
  have hK := sumT_size a0
  generalize hk0 : sumT a0 = K at hK
  have HK := Aside0.mk hk0
  have hn : K.size ≤ 64 := by omega
  clear hk0 hn0 hK
  go_enter Try.func52, Try.ntmps52
  go_wp2_with (go_at_call 24; refine (sha_Sum.calls a0 _ _ (sha_Sum_f a0 hn1)).mono ?_; rw [HK.out]; rintro e w0 ⟨rfl, hb0⟩)
  rw [show ((64 : Int) - (K.size : Int)) = ((64 - K.size : Nat) : Int) by omega]
  refine (Try.strings_Repeat (⟨#[0]⟩ : ByteArray) (64 - K.size) _ (by omega) (by show 1 * _ ≤ _; omega)).mono ?_
  rw [txt_repeat]
  rintro e w1 ⟨rfl, hb1a⟩
  have hb1 : Below w.heap.size w w1 := below_then hb0 hb0.size hb1a
  clear hb0 hb1a
  generalize hT : txt (List.replicate (64 - K.size) 0) = T
  have hTs : T.size = 64 - K.size := by rw [← hT, txt_size, List.length_replicate]
  have k1 : K.size + T.size ≤ 9223372036854775807 := by omega
  have k3 : (9223372036854775807 < K.size + T.size) = False := eq_false (Nat.not_lt.2 k1)
  have hS : bys (K ++ T) = bys K ++ List.replicate (64 - K.size) 0 := by rw [bys_append, ← hT, bys_txt (by intro n hn; rw [List.mem_replicate] at hn; omega)]
  have hSs : (K ++ T).size = 64 := by rw [ByteArray.size_append]; omega
  have HS := Aside0.mk hS
  have HSs := Aside0.mk hSs
  clear hS hSs hT
  have kb1 := kb (K ++ T)
  clear kb
  go_wp2_with (fail)
  have HROW := bytes_row w1 (K ++ T)
  have HBW : Aside0 (Below w.heap.size w (Lib.bytesWorld w1 5 (K ++ T))) := ⟨bytes_below hb1 hb1.size _ _⟩
  have HG : Aside0 (w.heap.size ≤ w1.heap.size) := ⟨hb1.size⟩
  clear kb1 hb1 k1 k3
  rw [HS.out] at HROW
  generalize hL : bys K ++ List.replicate (64 - K.size) 0 = L at HROW HS ⊢
  have hLl : L.length = 64 := by rw [← hL, List.length_append, bys_length, List.length_replicate]; omega
  have hLb : ∀ x ∈ L, x < 256 := by
    rw [← HS.out]
    intro x hx
    obtain ⟨i, hi, rfl⟩ := List.getElem_of_mem hx
    have := bys_lt (K ++ T) i
    simpa [List.getD_eq_getElem?_getD, List.getElem?_eq_getElem hi] using this
  obtain ⟨rest, HROW⟩ := HROW
  have HLl := Aside0.mk hLl
  have HL := Aside0.mk hL
  have HLb := Aside0.mk hLb
  have HR := Aside0.mk HROW
  clear hL hLl hLb HROW HS HSs
  generalize Lib.bytesWorld w1 5 (K ++ T) = w2 at HR HBW ⊢
  generalize grownCap w1 64 0 5 = cp
  generalize w1.heap.size = g at HR HG ⊢
  have hcv := Aside0.mk (fun (W : World) (l : List Nat) (h : BAt g l rest W) (hl : l.length = 64) => conv_bat W g l rest h 64 hl cp)
  go_loopw [19] (fun i wr => ∃ k : Nat, k ≤ 64 ∧ i = .int .i64 k ∧ Aside0 (BAt g (mixAt by_ L k) rest wr) ∧ Aside0 (Below w.heap.size w wr)) (fun i _ => 64 - (intOf i).toNat)
  case atStart => exact ⟨0, by omega, rfl, HR, HBW⟩
  case round =>
    clear HR HBW
    obtain ⟨k, hk, rfl, HR, HB⟩ := hrel
    by_cases hlt : k < 64
    · have hx0 : (mixAt by_ L k)[k]? = some (L.getD k 0) := mixAt_get by_ L k (by rw [HLl.out]; exact hlt)
      have hxb : L.getD k 0 < 256 := by
        have hk' : k < L.length := by rw [HLl.out]; exact hlt
        rw [List.getD_eq_getElem?_getD, List.getElem?_eq_getElem hk']
        exact HLb.out _ (List.getElem_mem hk')
      have hcell := BAt.cell HR.out hx0
      have hfr := BAt.frozen HR.out hx0
      generalize hx : L.getD k 0 = x at hcell hxb
      have hxor := u8_xor_nat x by_ hxb hb
      have HX := Aside0.mk hx
      clear hx hx0 hcv
      go_wp2
      refine ⟨⟨k + 1, by omega, by go_num, ⟨?_⟩, ⟨?_⟩⟩, by simp [intOf]; omega⟩
      · have := BAt.store HR.out k (x ^^^ by_) (by rw [mixAt_length, HLl.out]; exact hlt)
        rw [mixAt_set by_ L k x (by rw [HLl.out]; exact hlt) HX.out] at this
        exact this
      · exact HB.out.setCell (p := ⟨g, k, none⟩) HG.out _
    · have hk64 : k = 64 := by omega
      subst hk64
      clear hlt hk
      have hm : mixAt by_ L 64 = L.map (· ^^^ by_) := mixAt_all by_ L 64 HLl.out
      have hcv2 := hcv.out wr _ HR.out (by rw [hm, List.length_map, HLl.out])
      rw [hm] at hcv2
      clear hm hcv
      go_wp2
      go_ret
      rw [HL.out]
      exact ⟨rfl, HB.out⟩
theorem hmac_turned.calls (a0 : ByteArray) (a1 : Int) (r : ByteArray) (w : World) (h : hmac_turned.f a0 a1 = some r) :
    Calls Try.prog 52 #[.string a0, .int .u8 a1] w fun e w' => e = .returned (.string r) ∧ Below w.heap.size w w' := by
  unfold hmac_turned.f at h
  by_cases hc : a0.size ≤ 1000000000000 ∧ 0 ≤ a1 ∧ a1 < 256
  · rw [if_pos hc] at h
    obtain rfl := Option.some.inj h
    obtain ⟨h0, h1, h2⟩ := hc
    obtain ⟨n, rfl⟩ := Int.eq_ofNat_of_zero_le h1
    rw [Int.toNat_natCast]
    by_cases h64 : 64 < a0.size
    · have e : key64 (bys a0) = bys (sumT a0) ++ List.replicate (64 - (sumT a0).size) 0 := by
        unfold key64
        rw [if_pos (by rw [bys_length]; omega), bys_sumT, sumT_size, sumL_length]
      rw [e]
      exact turnedL a0 n (by omega) h64 h0 w
    · have e : key64 (bys a0) = bys a0 ++ List.replicate (64 - a0.size) 0 := by
        unfold key64
        rw [if_neg (by rw [bys_length]; omega), bys_length]
      rw [e]
      exact turnedS a0 n (by omega) (by omega) w
  · rw [if_neg hc] at h
    cases h
end Go.Proofs.Ytbmpcdpcdljibaa.Pr

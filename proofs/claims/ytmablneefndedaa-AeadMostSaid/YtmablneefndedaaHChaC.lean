/- chacha.Block and chacha.Stream: the walks. -/
-- HAND samphire/chacha.Block chacha_Block 0 1
-- HAND samphire/chacha.Stream chacha_Stream 0 1
-- NEEDS samphire/chacha.may
-- NEEDS samphire/chacha.small
import Derived.Test.YtmablneefndedaaHChaB
import Derived.Test.YtmablneefndedaaHGenA
import Derived.Test.YtmablneefndedaaPrxf47
namespace Go.Proofs.Ytmablneefndedaa.Pr
open Go.RowKit Go.Deep Go.Proofs.YtmablneefndedaaW.PrintWords Go.Proofs.YtmablneefndedaaW.PrintLast Go.Proofs.YtmablneefndedaaW.PrintMore
set_option maxHeartbeats 2000000
set_option linter.unusedVariables false
set_option linter.unusedSimpArgs false
theorem chaL_length (a b : List Nat) (n : Nat) : (chaL a b n).length = 64 := flatC_length _ 16
theorem chaL_lt (a b : List Nat) (n : Nat) : ∀ x ∈ chaL a b n, x < 256 := by
  intro x hx
  unfold chaL at hx
  rw [List.mem_flatMap] at hx
  obtain ⟨k, _, h⟩ := hx
  simp only [le4, List.mem_cons, List.not_mem_nil, or_false] at h
  rcases h with h | h | h | h <;> rw [h] <;> exact Nat.mod_lt _ (by decide)
def chaOK (a0 a1 : ByteArray) (a2 : Int) : Prop := a0.size = 32 ∧ a1.size = 12 ∧ 0 ≤ a2 ∧ a2 < 4294967296
instance (a0 a1 : ByteArray) (a2 : Int) : Decidable (chaOK a0 a1 a2) := by unfold chaOK; infer_instance
theorem may_calls (a0 a1 : ByteArray) (a2 : Int) (w : World) : Calls Try.prog 47 #[.string a0, .string a1, .int .i64 a2] w fun e w' => e = .returned (.bool (decide (chaOK a0 a1 a2))) ∧ ∃ n, w' = w.drewN n := by
  refine (chacha_may.calls a0 a1 a2 (decide (chaOK a0 a1 a2)) w ?_).mono fun _ _ h => ⟨h.1, h.2.out⟩
  unfold chacha_may.f chaOK
  by_cases h0 : a0.size = 32 <;> by_cases h1 : a1.size = 12 <;> by_cases h2 : 0 ≤ a2 <;> simp [h0, h1, h2, show ((a0.size : Int) = 32) = (a0.size = 32) by apply propext; omega, show ((a1.size : Int) = 12) = (a1.size = 12) by apply propext; omega]
def chacha_Block.f (a0 a1 : ByteArray) (a2 : Int) : Option (ByteArray × Int) :=
  if chaOK a0 a1 a2 then some (txt (chaL (bys a0) (bys a1) a2.toNat), 0) else some (⟨#[]⟩, 1)
set_option maxRecDepth 100000 in
theorem chacha_Block.calls (a0 : ByteArray) (a1 : ByteArray) (a2 : Int) (r1 : ByteArray) (r2 : Int) (w : World) (h : chacha_Block.f a0 a1 a2 = some (r1, r2)) :
    Calls Try.prog 49 #[.string a0, .string a1, .int .i64 a2] w fun e w' => e = .returned (.tuple #[.string r1, .int .i64 r2]) ∧ Below w.heap.size w w' := by
  unfold chacha_Block.f at h
  by_cases hc : chaOK a0 a1 a2
  · rw [if_pos hc] at h
    simp only [Option.some.injEq, Prod.mk.injEq] at h
    obtain ⟨rfl, rfl⟩ := h
    have hcd : decide (chaOK a0 a1 a2) = true := decide_eq_true hc
    obtain ⟨h0, h1, h2, h3⟩ := hc
    obtain ⟨m, rfl⟩ := Int.eq_ofNat_of_zero_le h2
    rw [Int.toNat_natCast]
    have hinf : (Try.prog.info? 49).map (·.size) = some 64 := by kernel_rfl
    have HL := Aside0.mk (chaL_length (bys a0) (bys a1) m)
    have hB := fun W => chacha_bytes_calls a0 a1 m W h0 h1 (by omega)
    generalize chaL (bys a0) (bys a1) m = O at hB HL ⊢
    have HB := Aside0.mk hB
    have HC := Aside0.mk hcd
    have hi64 : (Try.prog.info? 49).map (·.size) = some (u8s O).size := by rw [u8s_size, HL.out]; exact hinf
    have HI64 := Aside0.mk hi64
    clear hB hi64 hinf hcd h2
    go_enter Try.func49, Try.ntmps49
    go_wp2_with (fail)
    refine (may_calls _ _ _ _).mono ?_
    rw [HC.out]
    rintro e w1 ⟨rfl, n1, rfl⟩
    go_wp2_with (fail)
    refine (HB.out _).mono ?_
    rintro e w1 ⟨rfl, hb⟩
    have hcv := conv_u8s (w1.alloc (.cells (u8s O) 49)) 28 9 5 49 w1.heap.size O 64 Try.underlying28 Try.underlying5 Try.underlying9 (heap_alloc_last _ _) HL.out 64
    have HBE : Aside0 (Below w.heap.size w (w1.alloc (.cells (u8s O) 49))) := ⟨below_alloc (below_then (pw_below_drewN (Below.refl _ w) n1) (Nat.le_refl _) hb) _⟩
    clear hb
    go_wp2_with (refine wpList_store_row rfl 49 (.tmp 8) (.tmp 17) rfl _ (u8s O) rfl rfl 49 _ (heap_alloc_last _ _) HI64.out (by rw [u8s_size, HL.out]; rfl) (u8s_one _) ?_; rw [World.setRow_alloc_new])
    go_ret2
    exact ⟨rfl, HBE.out⟩
  · rw [if_neg hc] at h
    simp only [Option.some.injEq, Prod.mk.injEq] at h
    obtain ⟨rfl, rfl⟩ := h
    have hcd : decide (chaOK a0 a1 a2) = false := decide_eq_false hc
    have HC := Aside0.mk hcd
    clear hcd hc
    go_enter Try.func49, Try.ntmps49
    go_wp2_with (fail)
    refine (may_calls _ _ _ _).mono ?_
    rw [HC.out]
    rintro e w1 ⟨rfl, n1, rfl⟩
    go_wp2
    go_ret2
    exact ⟨rfl, pw_below_drewN (Below.refl _ w) n1⟩
/-- A text, turned byte by byte, as far as it is. -/
def xorAt (f : Nat → Nat) (L : List Nat) (i : Nat) : List Nat := (List.range L.length).map fun j => if j < i then L.getD j 0 ^^^ f j else L.getD j 0
theorem xorAt_length (f : Nat → Nat) (L : List Nat) (i : Nat) : (xorAt f L i).length = L.length := by simp [xorAt]
theorem xorAt_zero (f : Nat → Nat) (L : List Nat) : xorAt f L 0 = L := by
  apply List.ext_getElem
  · simp [xorAt]
  · intro j h1 h2
    simp [xorAt, List.getD_eq_getElem?_getD, h2]
theorem xorAt_get (f : Nat → Nat) (L : List Nat) (i : Nat) (hi : i < L.length) : (xorAt f L i)[i]? = some (L.getD i 0) := by
  simp [xorAt, hi]
theorem xorAt_set (f : Nat → Nat) (L : List Nat) (i x y : Nat) (hi : i < L.length) (hx : L.getD i 0 = x) (hy : f i = y) : (xorAt f L i).set i (x ^^^ y) = xorAt f L (i + 1) := by
  apply List.ext_getElem
  · simp [xorAt]
  · intro j h1 h2
    rw [List.getElem_set]
    simp only [xorAt, List.getElem_map, List.getElem_range]
    by_cases e : i = j
    · subst e; rw [if_pos rfl, if_pos (by omega), hx, hy]
    · rw [if_neg e]
      by_cases h : j < i
      · rw [if_pos h, if_pos (by omega)]
      · rw [if_neg h, if_neg (by omega)]
theorem xorAt_over (f : Nat → Nat) (L : List Nat) (i i' : Nat) (h : L.length ≤ i) (h' : L.length ≤ i') : xorAt f L i = xorAt f L i' := by
  unfold xorAt
  apply List.map_congr_left
  intro j hj
  rw [List.mem_range] at hj
  rw [if_pos (by omega), if_pos (by omega)]
/-- A stream's byte. -/
def strB (key nonce : List Nat) (n i : Nat) : Nat := (chaL key nonce (n + i / 64)).getD (i % 64) 0
def streamL (key nonce : List Nat) (n : Nat) (s : List Nat) : List Nat := xorAt (strB key nonce n) s s.length
def strOK (a0 a1 : ByteArray) (a2 : Int) (a3 : ByteArray) : Prop := chaOK a0 a1 a2 ∧ a3.size ≤ 65536 ∧ ((a3.size + 63) / 64 : Nat) ≤ 4294967296 - a2
instance (a0 a1 : ByteArray) (a2 : Int) (a3 : ByteArray) : Decidable (strOK a0 a1 a2 a3) := by unfold strOK; infer_instance
def chacha_Stream.f (a0 a1 : ByteArray) (a2 : Int) (a3 : ByteArray) : Option (ByteArray × Int) :=
  if a3.size ≤ 1000000000000 then (if strOK a0 a1 a2 a3 then some (txt (streamL (bys a0) (bys a1) a2.toNat (bys a3)), 0) else some (⟨#[]⟩, 1)) else none
set_option maxRecDepth 100000 in
theorem chacha_Stream.yes (a0 a1 a3 : ByteArray) (m : Nat) (w : World) (h0 : a0.size = 32) (h1 : a1.size = 12) (hm : m < 4294967296) (h3 : a3.size ≤ 65536) (h4 : m + (a3.size + 63) / 64 ≤ 4294967296) :
    Calls Try.prog 28 #[.string a0, .string a1, .int .i64 m, .string a3] w fun e w' => e = .returned (.tuple #[.string (txt (streamL (bys a0) (bys a1) m (bys a3))), .int .i64 0]) ∧ Below w.heap.size w w' := by
  have hcd : decide (chaOK a0 a1 m) = true := decide_eq_true ⟨h0, h1, by omega, by omega⟩
  have hB : ∀ (j : Nat) (W : World), m + j < 4294967296 → Calls Try.prog 48 #[.string a0, .string a1, .int .i64 ((m : Int) + (j : Int))] W fun e w' => e = .returned (.agg (u8s (chaL (bys a0) (bys a1) (m + j)))) ∧ Below W.heap.size W w' := by
    intro j W hj
    have := chacha_bytes_calls a0 a1 (m + j) W h0 h1 hj
    rwa [show ((m + j : Nat) : Int) = (m : Int) + (j : Int) by omega] at this
  have HB := Aside0.mk hB
  have HC := Aside0.mk hcd
  have kb := print_bytes (P := Try.prog) 9 28 5 Try.underlying9 Try.underlying28 Try.underlying5 a3
  have t1 : decide (65536 < (a3.size : Int)) = false := decide_eq_false (by omega)
  have t2 : decide (4294967296 - (m : Int) < ((a3.size : Int) + 64 - 1) / 64) = false := decide_eq_false (by omega)
  clear hB hcd
  go_enter Try.func28, Try.ntmps28
  go_wp2_with (fail)
  refine (may_calls _ _ _ _).mono ?_
  rw [HC.out]
  rintro e w1 ⟨rfl, n1, rfl⟩
  have kb := kb (w.drewN n1)
  go_wp2_with (fail)
  have HROW : ∃ rest, BAt w.heap.size (bys a3) rest (Lib.bytesWorld (w.drewN n1) 5 a3) := bytes_row (w.drewN n1) a3
  have HB0 : Aside0 (Below w.heap.size w (Lib.bytesWorld (w.drewN n1) 5 a3)) := ⟨bytes_below (pw_below_drewN (Below.refl _ w) n1) (Nat.le_refl _) _ _⟩
  clear kb
  obtain ⟨rest, HROW⟩ := HROW
  have hLl := bys_length a3
  have hLb := bys_lt' a3
  have hpost : streamL (bys a0) (bys a1) m (bys a3) = xorAt (strB (bys a0) (bys a1) m) (bys a3) (bys a3).length := rfl
  have HP := Aside0.mk hpost
  rw [← xorAt_zero (strB (bys a0) (bys a1) m) (bys a3)] at HROW
  generalize hL : bys a3 = L at hLl hLb HROW HP
  have HLe := Aside0.mk hL
  clear hL
  have HLl := Aside0.mk hLl
  have HLb := Aside0.mk hLb
  have HR := Aside0.mk HROW
  clear hpost hLl hLb HROW
  generalize Lib.bytesWorld (w.drewN n1) 5 a3 = w2 at HR HB0 ⊢
  generalize grownCap (w.drewN n1) a3.size 0 5 = cp
  have hcv := Aside0.mk (fun (W : World) (l : List Nat) (h : BAt w.heap.size l rest W) (hl : l.length = a3.size) => conv_bat W w.heap.size l rest h a3.size hl cp)
  go_loopw [11] (fun i wr => ∃ j : Nat, 64 * j < a3.size + 64 ∧ i = .int .i64 (64 * (j : Int)) ∧ Aside0 (BAt w.heap.size (xorAt (strB (bys a0) (bys a1) m) L (64 * j)) rest wr) ∧ Aside0 (Below w.heap.size w wr)) (fun i _ => a3.size + 64 - (intOf i).toNat)
  case atStart => exact ⟨0, by omega, rfl, HR, HB0⟩
  case round =>
    clear HR HB0
    obtain ⟨j, hj, rfl, HR, HBE⟩ := hrel
    by_cases hlt : 64 * j < a3.size
    · have d1 : decide (64 * (j : Int) < (a3.size : Int)) = true := decide_eq_true (by omega)
      have d2 : 64 * (j : Int) / 64 = (j : Int) := by omega
      have hjm : m + j < 4294967296 := by omega
      go_wp2_with (fail)
      refine (HB.out j _ hjm).mono ?_
      rintro e w3 ⟨rfl, hb⟩
      have HO := Aside0.mk (chaL_length (bys a0) (bys a1) (m + j))
      have HOl := Aside0.mk (chaL_lt (bys a0) (bys a1) (m + j))
      have HF := Aside0.mk (show ∀ i, i < 64 → strB (bys a0) (bys a1) m (64 * j + i) = (chaL (bys a0) (bys a1) (m + j)).getD i 0 by
        intro i hi
        unfold strB
        rw [show (64 * j + i) / 64 = j by omega, show (64 * j + i) % 64 = i by omega])
      generalize chaL (bys a0) (bys a1) (m + j) = O at HO HOl HF ⊢
      have hinf : (Try.prog.info? 49).map (·.size) = some 64 := by kernel_rfl
      have hi64 : (Try.prog.info? 49).map (·.size) = some (u8s O).size := by rw [u8s_size, HO.out]; exact hinf
      have HI64 := Aside0.mk hi64
      clear hi64 hinf
      have HR0 := HR
      have HR : Aside0 (BAt w.heap.size (xorAt (strB (bys a0) (bys a1) m) L (64 * j)) rest (w3.alloc (.cells (u8s O) 49))) := ⟨blk_alloc (blk_below HR.out hb) _⟩
      have HBE : Aside0 (Below w.heap.size w (w3.alloc (.cells (u8s O) 49))) := ⟨below_alloc (below_then HBE.out HBE.out.size hb) _⟩
      have HON : Aside0 ((w3.alloc (.cells (u8s O) 49)).heap[w3.heap.size]? = some (.cells (u8s O) 49 (0, 0))) := ⟨heap_alloc_last _ _⟩
      go_wp2_with (refine wpList_store_row rfl 49 (.tmp 12) (.tmp 48) rfl _ (u8s O) rfl rfl 49 _ (heap_alloc_last _ _) HI64.out (by rw [u8s_size, HO.out]; rfl) (u8s_one _) ?_; rw [World.setRow_alloc_new])
      have hq : min 64 ((a3.size : Int) - 64 * (j : Int)) = ((min 64 (a3.size - 64 * j) : Nat) : Int) := by omega
      rw [hq]
      have q1 : min 64 (a3.size - 64 * j) ≤ 64 := by omega
      have q2 : 64 * j + min 64 (a3.size - 64 * j) ≤ a3.size := by omega
      have q3 : min 64 (a3.size - 64 * j) = 64 ∨ 64 * j + min 64 (a3.size - 64 * j) = a3.size := by omega
      have HQ3 := Aside0.mk q3
      clear hq q3
      generalize min 64 (a3.size - 64 * j) = q at q1 q2 HQ3 ⊢
      have HG4 := Aside0.mk (Nat.lt_of_lt_of_le (blk_lt HR0.out) hb.size)
      generalize w3.alloc (.cells (u8s O) 49) = w4 at HR HBE HON ⊢
      generalize w3.heap.size = g4 at HON HG4 ⊢
      clear hb HR0
      go_loopw [54] (fun i wr => ∃ k : Nat, k ≤ q ∧ i = .int .i64 k ∧ Aside0 (BAt w.heap.size (xorAt (strB (bys a0) (bys a1) m) L (64 * j + k)) rest wr) ∧ Aside0 (Below w.heap.size w wr) ∧ Aside0 (wr.heap[g4]? = some (.cells (u8s O) 49 (0, 0)))) (fun i _ => q - (intOf i).toNat)
      case atStart => exact ⟨0, by omega, rfl, HR, HBE, HON⟩
      case round =>
        clear HR HBE HON
        obtain ⟨k, hk, rfl, HR, HBE, HON⟩ := hrel
        by_cases hlk : k < q
        · have hx0 := xorAt_get (strB (bys a0) (bys a1) m) L (64 * j + k) (by rw [HLl.out]; omega)
          have hxb : L.getD (64 * j + k) 0 < 256 := by
            have hk' : 64 * j + k < L.length := by rw [HLl.out]; omega
            rw [List.getD_eq_getElem?_getD, List.getElem?_eq_getElem hk']
            exact HLb.out _ (List.getElem_mem hk')
          have hyb : O.getD k 0 < 256 := by
            have hk' : k < O.length := by rw [HO.out]; omega
            rw [List.getD_eq_getElem?_getD, List.getElem?_eq_getElem hk']
            exact HOl.out _ (List.getElem_mem hk')
          have hcell := BAt.cell HR.out hx0
          have hfr := BAt.frozen HR.out hx0
          have hcO := (blk_cell HON.out k).trans (u8s_get O k (by rw [HO.out]; omega))
          generalize hx : L.getD (64 * j + k) 0 = x at hcell hxb
          generalize hy : O.getD k 0 = y at hcO hyb
          have HX := Aside0.mk hx
          have HY := Aside0.mk hy
          clear hx hy hx0
          have hxor := u8_xor_nat x y hxb hyb
          go_wp2_with (fail)
          refine wp_still_tail 11 (by kernel_rfl) (by kernel_rfl) ?_
          intro W hW
          have HW := Aside0.mk hW
          have g1 : W.cell? ⟨w.heap.size, 64 * j + k, none⟩ = some (.int .u8 (x : Int)) := by rw [hW]; exact hcell
          have g2 : W.cell? ⟨g4, k, none⟩ = some (.int .u8 (y : Int)) := by rw [hW]; exact hcO
          have gf : W.frozen? ⟨w.heap.size, 64 * j + k, none⟩ = false := by rw [hW]; exact hfr
          have i1 : IntKind.i64.wrap (64 * (j : Int) + (k : Int)) = 64 * (j : Int) + (k : Int) := IntWalk.i64_in _ (by omega)
          have i2 : (64 * (j : Int) + (k : Int)).toNat = 64 * j + k := by omega
          have i3 : 0 ≤ 64 * (j : Int) + (k : Int) := by omega
          have i4 : 64 * (j : Int) + (k : Int) < (a3.size : Int) := by omega
          have i5 : (k : Int) < 64 := by omega
          clear hW hcell hcO hfr
          simp only [List.take_succ_cons, List.take_zero, List.drop_succ_cons, List.drop_zero]
          repeat still_step
          refine wpStill_nil ?_
          go_wp2
          clear i1 i2 i3 i4 i5
          have HN : BAt w.heap.size (xorAt (strB (bys a0) (bys a1) m) L (64 * j + (k + 1))) rest (W.setCell ⟨w.heap.size, 64 * j + k, none⟩ (.int .u8 ((x ^^^ y : Nat) : Int))) := by
            rw [show 64 * j + (k + 1) = 64 * j + k + 1 by omega, ← xorAt_set (strB (bys a0) (bys a1) m) L (64 * j + k) x y (by rw [HLl.out]; omega) HX.out ((HF.out k (by omega)).trans HY.out)]
            rw [HW.out]
            exact BAt.store (w := wr.drew) HR.out (64 * j + k) (x ^^^ y) (by rw [xorAt_length, HLl.out]; omega)
          exact ⟨⟨k + 1, by omega, by go_num, ⟨HN⟩, ⟨by rw [HW.out]; exact below_set (below_drew HBE.out) (Nat.le_refl _)⟩, ⟨by rw [HW.out]; exact blk_far (w := wr.drew) (blk_drew HON.out) (by have := HG4.out; simp; omega) _⟩⟩, by simp [intOf]; omega⟩
        · obtain rfl : k = q := by omega
          clear hlk hk
          go_wp2_with (fail)
          have HN : BAt w.heap.size (xorAt (strB (bys a0) (bys a1) m) L (64 * (j + 1))) rest wr := by
            rcases HQ3.out with h | h
            · rw [show 64 * (j + 1) = 64 * j + k by omega]; exact HR.out
            · rw [xorAt_over _ L (64 * (j + 1)) (64 * j + k) (by rw [HLl.out]; omega) (by rw [HLl.out]; omega)]; exact HR.out
          exact ⟨⟨j + 1, by omega, by go_num, ⟨HN⟩, HBE⟩, by simp [intOf]; omega⟩
    · have d1 : decide (64 * (j : Int) < (a3.size : Int)) = false := decide_eq_false (by omega)
      have hcv2 := hcv.out wr _ HR.out (by rw [xorAt_length, HLl.out])
      have HE := Aside0.mk (xorAt_over (strB (bys a0) (bys a1) m) L (64 * j) L.length (by rw [HLl.out]; omega) (Nat.le_refl _))
      go_wp2
      go_ret2
      rw [HE.out, ← HP.out, ← HLe.out]
      exact ⟨rfl, HBE.out⟩
set_option maxRecDepth 100000 in
theorem chacha_Stream.no (a0 a1 a3 : ByteArray) (a2 : Int) (w : World) (h : ¬ strOK a0 a1 a2 a3) (k3 : a3.size ≤ 1000000000000) :
    Calls Try.prog 28 #[.string a0, .string a1, .int .i64 a2, .string a3] w fun e w' => e = .returned (.tuple #[.string ⟨#[]⟩, .int .i64 1]) ∧ Below w.heap.size w w' := by
  by_cases hc : chaOK a0 a1 a2
  · have hcd : decide (chaOK a0 a1 a2) = true := decide_eq_true hc
    obtain ⟨h0, h1, h2, h3⟩ := hc
    have HC := Aside0.mk hcd
    clear hcd
    by_cases h4 : 65536 < a3.size
    · have t1 : decide (65536 < (a3.size : Int)) = true := decide_eq_true (by omega)
      clear h h4
      go_enter Try.func28, Try.ntmps28
      go_wp2_with (fail)
      refine (may_calls _ _ _ _).mono ?_
      rw [HC.out]
      rintro e w1 ⟨rfl, n1, rfl⟩
      go_wp2
      go_ret2
      exact ⟨rfl, pw_below_drewN (Below.refl _ w) n1⟩
    · have t1 : decide (65536 < (a3.size : Int)) = false := decide_eq_false (by omega)
      have t2 : decide (4294967296 - a2 < ((a3.size : Int) + 64 - 1) / 64) = true := by
        refine decide_eq_true ?_
        apply Classical.byContradiction
        intro hn
        exact h ⟨⟨h0, h1, h2, h3⟩, by omega, by omega⟩
      clear h
      go_enter Try.func28, Try.ntmps28
      go_wp2_with (fail)
      refine (may_calls _ _ _ _).mono ?_
      rw [HC.out]
      rintro e w1 ⟨rfl, n1, rfl⟩
      go_wp2
      go_ret2
      exact ⟨rfl, pw_below_drewN (Below.refl _ w) n1⟩
  · have hcd : decide (chaOK a0 a1 a2) = false := decide_eq_false hc
    have HC := Aside0.mk hcd
    clear hcd hc h
    go_enter Try.func28, Try.ntmps28
    go_wp2_with (fail)
    refine (may_calls _ _ _ _).mono ?_
    rw [HC.out]
    rintro e w1 ⟨rfl, n1, rfl⟩
    go_wp2
    go_ret2
    exact ⟨rfl, pw_below_drewN (Below.refl _ w) n1⟩
theorem chacha_Stream.calls (a0 : ByteArray) (a1 : ByteArray) (a2 : Int) (a3 : ByteArray) (r1 : ByteArray) (r2 : Int) (w : World) (h : chacha_Stream.f a0 a1 a2 a3 = some (r1, r2)) :
    Calls Try.prog 28 #[.string a0, .string a1, .int .i64 a2, .string a3] w fun e w' => e = .returned (.tuple #[.string r1, .int .i64 r2]) ∧ Below w.heap.size w w' := by
  unfold chacha_Stream.f at h
  by_cases hs : a3.size ≤ 1000000000000
  · rw [if_pos hs] at h
    by_cases hc : strOK a0 a1 a2 a3
    · rw [if_pos hc] at h
      simp only [Option.some.injEq, Prod.mk.injEq] at h
      obtain ⟨rfl, rfl⟩ := h
      obtain ⟨⟨h0, h1, h2, h3⟩, h4, h5⟩ := hc
      obtain ⟨m, rfl⟩ := Int.eq_ofNat_of_zero_le h2
      rw [Int.toNat_natCast]
      exact chacha_Stream.yes a0 a1 a3 m w h0 h1 (by omega) h4 (by omega)
    · rw [if_neg hc] at h
      simp only [Option.some.injEq, Prod.mk.injEq] at h
      obtain ⟨rfl, rfl⟩ := h
      exact chacha_Stream.no a0 a1 a3 a2 w hc hs
  · rw [if_neg hs] at h
    cases h
end Go.Proofs.Ytmablneefndedaa.Pr

/- Clamp, the program's and the reference's: the walks. -/
-- HAND samphire/poly.Clamp poly_Clamp 0 1
-- HAND samphire/samphireref06.Clamp samphireref06_Clamp 0 1
import Derived.Test.YtmablneefndedaaHGenA
namespace Go.Proofs.Ytmablneefndedaa.Pr
open Go.RowKit Go.Deep Go.Proofs.YtmablneefndedaaW.PrintWords Go.Proofs.YtmablneefndedaaW.PrintLast Go.Proofs.YtmablneefndedaaW.PrintMore
set_option maxHeartbeats 2000000
set_option linter.unusedVariables false
set_option linter.unusedSimpArgs false
def mapAt (p : Nat → Nat → Nat) (l : List Nat) : List Nat := (List.range l.length).map fun i => p i (l.getD i 0)
theorem mapAt_length (p : Nat → Nat → Nat) (l : List Nat) : (mapAt p l).length = l.length := by simp [mapAt]
theorem mapAt_congr {p q : Nat → Nat → Nat} {l : List Nat} (h : ∀ i, i < l.length → p i (l.getD i 0) = q i (l.getD i 0)) : mapAt p l = mapAt q l :=
  List.map_congr_left fun i hi => h i (List.mem_range.1 hi)
theorem mapAt_id (l : List Nat) : mapAt (fun _ x => x) l = l := by
  apply List.ext_getElem
  · simp [mapAt]
  · intro j h1 h2
    simp [mapAt, List.getD_eq_getElem?_getD, h2]
theorem mapAt_get (p : Nat → Nat → Nat) (l : List Nat) (i : Nat) (hi : i < l.length) : (mapAt p l)[i]? = some (p i (l.getD i 0)) := by
  simp [mapAt, hi]
theorem mapAt_set {p q : Nat → Nat → Nat} {l : List Nat} (k v : Nat) (hk : q k (l.getD k 0) = v) (h : ∀ i, i ≠ k → p i (l.getD i 0) = q i (l.getD i 0)) : (mapAt p l).set k v = mapAt q l := by
  apply List.ext_getElem
  · simp [mapAt]
  · intro j h1 h2
    rw [List.getElem_set]
    simp only [mapAt, List.getElem_map, List.getElem_range]
    by_cases e : k = j
    · subst e; rw [if_pos rfl, hk]
    · rw [if_neg e, h j (fun e' => e e'.symm)]
def clB (k x : Nat) : Nat := if k % 4 = 3 then x % 16 else if k % 4 = 0 ∧ 0 < k then x / 4 * 4 else x
def clampL (l : List Nat) : List Nat := mapAt clB l
theorem clampL_length (l : List Nat) : (clampL l).length = l.length := mapAt_length _ _
theorem clB_lt (k x : Nat) (h : x < 256) : clB k x < 256 := by
  unfold clB
  split
  · omega
  · split <;> omega
theorem clampL_lt (l : List Nat) (h : ∀ i, l.getD i 0 < 256) : ∀ x ∈ clampL l, x < 256 := by
  intro x hx
  unfold clampL mapAt at hx
  rw [List.mem_map] at hx
  obtain ⟨i, _, rfl⟩ := hx
  exact clB_lt _ _ (h i)
def upto (f : Nat → Nat → Nat) (k : Nat) : Nat → Nat → Nat := fun i x => if i < k then f i x else x
theorem upto_set (f : Nat → Nat → Nat) (L : List Nat) (k v : Nat) (hv : f k (L.getD k 0) = v) : (mapAt (upto f k) L).set k v = mapAt (upto f (k + 1)) L := by
  refine mapAt_set k v ?_ ?_
  · unfold upto; rw [if_pos (by omega), hv]
  · intro i hi
    unfold upto
    by_cases h : i < k
    · rw [if_pos h, if_pos (by omega)]
    · rw [if_neg h, if_neg (by omega)]
theorem upto_skip (f : Nat → Nat → Nat) (L : List Nat) (k k' : Nat) (hk : k ≤ k') (hv : ∀ i, k ≤ i → i < k' → f i (L.getD i 0) = L.getD i 0) : mapAt (upto f k) L = mapAt (upto f k') L := by
  refine mapAt_congr fun i _ => ?_
  unfold upto
  by_cases h : i < k
  · rw [if_pos h, if_pos (by omega)]
  · rw [if_neg h]
    by_cases h' : i < k'
    · rw [if_pos h', hv i (by omega) h']
    · rw [if_neg h']
theorem upto_get (f : Nat → Nat → Nat) (L : List Nat) (k : Nat) (hk : k < L.length) : (mapAt (upto f k) L)[k]? = some (L.getD k 0) := by
  rw [mapAt_get _ _ _ hk]
  unfold upto
  rw [if_neg (by omega)]
theorem upto_zero (f : Nat → Nat → Nat) (L : List Nat) : mapAt (upto f 0) L = L := by
  conv => rhs; rw [← mapAt_id L]
  exact mapAt_congr fun i _ => by simp [upto]
theorem upto_all (f : Nat → Nat → Nat) (L : List Nat) (k : Nat) (hk : L.length ≤ k) : mapAt (upto f k) L = mapAt f L :=
  mapAt_congr fun i hi => by unfold upto; rw [if_pos (by omega)]
theorem u8_and15 : ∀ x : Nat, x < 256 → bits .and .u8 (x : Int) 15 = ((x % 16 : Nat) : Int) := by decide +kernel
theorem u8_and252 : ∀ x : Nat, x < 256 → bits .and .u8 (x : Int) 252 = ((x / 4 * 4 : Nat) : Int) := by decide +kernel
theorem u8_not3 : ∀ x : Nat, x < 256 → bits .andNot .u8 (x : Int) 3 = ((x / 4 * 4 : Nat) : Int) := by decide +kernel
set_option maxRecDepth 100000 in
theorem poly_Clamp.yes (a0 : ByteArray) (w : World) (h0 : a0.size = 16) :
    Calls Try.prog 76 #[.string a0] w fun e w' => e = .returned (.tuple #[.string (txt (clampL (bys a0))), .int .i64 0]) ∧ Below w.heap.size w w' := by
  have kb := print_bytes (P := Try.prog) 9 28 5 Try.underlying9 Try.underlying28 Try.underlying5 a0 w
  have g0 : ((a0.size : Int) != 16) = false := by rw [bne_eq_false_iff_eq]; omega
  go_enter Try.func76, Try.ntmps76
  go_wp2_with (fail)
  have HROW := bytes_row w a0
  have HB0 : Aside0 (Below w.heap.size w (Lib.bytesWorld w 5 a0)) := ⟨bytes_below (Below.refl _ w) (Nat.le_refl _) _ _⟩
  clear kb g0
  obtain ⟨rest, HROW⟩ := HROW
  have hLl : (bys a0).length = 16 := by rw [bys_length]; exact h0
  have hLb := bys_lt a0
  rw [← upto_zero clB (bys a0)] at HROW
  generalize hL : bys a0 = L at hLl hLb HROW
  have HLe := Aside0.mk hL
  have HLl := Aside0.mk hLl
  have HLb := Aside0.mk hLb
  have HR0 := Aside0.mk HROW
  clear hL hLl hLb HROW
  generalize Lib.bytesWorld w 5 a0 = w2 at HR0 HB0 ⊢
  generalize grownCap w a0.size 0 5 = cp
  generalize grownCap w 16 0 5 = cp
  have hcv := Aside0.mk (fun (W : World) (l : List Nat) (h : BAt w.heap.size l rest W) (hl : l.length = 16) => conv_bat W w.heap.size l rest h 16 hl cp)
  go_loopw [13] (fun i wr => ∃ k : Nat, k ≤ 16 ∧ i = .int .i64 k ∧ Aside0 (BAt w.heap.size (mapAt (upto clB k) L) rest wr) ∧ Aside0 (Below w.heap.size w wr)) (fun i _ => 16 - (intOf i).toNat)
  case atStart => exact ⟨0, by omega, rfl, HR0, HB0⟩
  case round =>
    clear HR0 HB0
    obtain ⟨k, hk, rfl, HR, HB⟩ := hrel
    by_cases hlt : k < 16
    · have hx0 := mapAt_get (fun i x => if i < k then clB i x else x) L k (by rw [HLl.out]; exact hlt)
      simp only [Nat.lt_irrefl, if_false] at hx0
      have hxb := HLb.out k
      have hcell := BAt.cell HR.out hx0
      have hfr := BAt.frozen HR.out hx0
      generalize hx : L.getD k 0 = x at hcell hxb
      have hb15 := u8_and15 x hxb
      have hb3 := u8_not3 x hxb
      have HX := Aside0.mk hx
      clear hx hx0 hcv
      have HN : ∀ W v, W = wr.setCell ⟨w.heap.size, k, none⟩ (.int .u8 ((v : Nat) : Int)) → clB k x = v → Aside0 (BAt w.heap.size (mapAt (upto clB (k + 1)) L) rest W) ∧ Aside0 (Below w.heap.size w W) := by
        rintro W v rfl hv
        refine ⟨⟨?_⟩, ⟨below_set HB.out (Nat.le_refl _)⟩⟩
        rw [← upto_set clB L k v (by rw [HX.out, hv])]
        exact BAt.store HR.out k v (by rw [mapAt_length, HLl.out]; exact hlt)
      have HN := Aside0.mk HN
      by_cases h3 : k % 4 = 3
      · have t3 : (((k : Int) % 4) == 3) = true := by rw [beq_iff_eq]; omega
        have hv : clB k x = x % 16 := by unfold clB; rw [if_pos h3]
        have HV := Aside0.mk hv
        clear hv h3
        go_wp2
        have := HN.out _ _ rfl HV.out
        exact ⟨⟨k + 1, by omega, by go_num, this.1, this.2⟩, by simp [intOf]; omega⟩
      · have t3 : (((k : Int) % 4) == 3) = false := by rw [beq_eq_false_iff_ne]; omega
        by_cases h4 : k % 4 = 0 ∧ 0 < k
        · have t4 : (((k : Int) % 4) == 0) = true := by rw [beq_iff_eq]; omega
          have t5 : decide (0 < (k : Int)) = true := decide_eq_true (by omega)
          have t6 : 0 < k := by omega
          have hv : clB k x = x / 4 * 4 := by unfold clB; rw [if_neg h3, if_pos h4]
          have HV := Aside0.mk hv
          clear hv h3 h4
          go_wp2
          have := HN.out _ _ rfl HV.out
          exact ⟨⟨k + 1, by omega, by go_num, this.1, this.2⟩, by simp [intOf]; omega⟩
        · have hv : clB k x = x := by unfold clB; rw [if_neg h3, if_neg h4]
          have HS : Aside0 (BAt w.heap.size (mapAt (upto clB (k + 1)) L) rest wr) := ⟨by
            rw [← upto_skip clB L k (k + 1) (by omega) (fun i h1 h2 => by rw [show i = k by omega, HX.out, hv])]
            exact HR.out⟩
          clear hv
          by_cases h0k : k = 0
          · have t4 : (((k : Int) % 4) == 0) = true := by rw [beq_iff_eq]; omega
            have t5 : decide (0 < (k : Int)) = false := decide_eq_false (by omega)
            have t6 : (0 < k) = False := eq_false (by omega)
            clear h3 h4 h0k
            go_wp2
            exact ⟨⟨k + 1, by omega, by go_num, HS, HB⟩, by simp [intOf]; omega⟩
          · have t4 : (((k : Int) % 4) == 0) = false := by rw [beq_eq_false_iff_ne]; omega
            clear h3 h4 h0k
            go_wp2
            exact ⟨⟨k + 1, by omega, by go_num, HS, HB⟩, by simp [intOf]; omega⟩
    · obtain rfl : k = 16 := by omega
      clear hlt hk
      have hcv2 := hcv.out wr _ HR.out (by rw [mapAt_length, HLl.out])
      have HE := Aside0.mk (show mapAt (upto clB 16) L = clampL L from upto_all clB L 16 (by rw [HLl.out]; omega))
      rw [HE.out] at hcv2
      go_wp2
      go_ret2
      rw [HLe.out]
      exact ⟨rfl, HB.out⟩
def cl3 (k x : Nat) : Nat := if k % 4 = 3 then x % 16 else x
def cl0 (k x : Nat) : Nat := if k % 4 = 0 ∧ 0 < k then x / 4 * 4 else x
theorem cl_both (L : List Nat) : mapAt cl0 (mapAt cl3 L) = clampL L := by
  unfold clampL mapAt
  rw [List.length_map, List.length_range]
  apply List.map_congr_left
  intro i hi
  rw [List.mem_range] at hi
  have : ((List.range L.length).map fun i => cl3 i (L.getD i 0)).getD i 0 = cl3 i (L.getD i 0) := by
    simp [List.getD_eq_getElem?_getD, hi]
  rw [this]
  unfold clB cl0 cl3
  by_cases h : i % 4 = 3
  · rw [if_pos h, if_neg (by omega), if_pos h]
  · rw [if_neg h, if_neg h]
set_option maxRecDepth 100000 in
theorem samphireref06_Clamp.yes (a0 : ByteArray) (w : World) (h0 : a0.size = 16) :
    Calls Try.prog 85 #[.string a0] w fun e w' => e = .returned (.tuple #[.string (txt (clampL (bys a0))), .int .i64 0]) ∧ Below w.heap.size w w' := by
  have kb := print_bytes (P := Try.prog) 9 28 5 Try.underlying9 Try.underlying28 Try.underlying5 a0 w
  have g0 : ((a0.size : Int) != 16) = false := by rw [bne_eq_false_iff_eq]; omega
  go_enter Try.func85, Try.ntmps85
  go_wp2_with (fail)
  have HROW := bytes_row w a0
  have HB0 : Aside0 (Below w.heap.size w (Lib.bytesWorld w 5 a0)) := ⟨bytes_below (Below.refl _ w) (Nat.le_refl _) _ _⟩
  clear kb g0
  obtain ⟨rest, HROW⟩ := HROW
  have hLl : (bys a0).length = 16 := by rw [bys_length]; exact h0
  have hLb := bys_lt a0
  rw [← upto_zero cl3 (bys a0), upto_skip cl3 (bys a0) 0 3 (by omega) (fun i _ h => by unfold cl3; rw [if_neg (by omega)])] at HROW
  generalize hL : bys a0 = L at hLl hLb HROW
  have HLe := Aside0.mk hL
  have HLl := Aside0.mk hLl
  have HLb := Aside0.mk hLb
  have HR0 := Aside0.mk HROW
  clear hL hLl hLb HROW
  generalize Lib.bytesWorld w 5 a0 = w2 at HR0 HB0 ⊢
  generalize grownCap w a0.size 0 5 = cp
  generalize grownCap w 16 0 5 = cp
  have hcv := Aside0.mk (fun (W : World) (l : List Nat) (h : BAt w.heap.size l rest W) (hl : l.length = 16) => conv_bat W w.heap.size l rest h 16 hl cp)
  go_loopw [5] (fun i wr => ∃ j : Nat, j ≤ 4 ∧ i = .int .i64 (4 * (j : Int) + 3) ∧ Aside0 (BAt w.heap.size (mapAt (upto cl3 (4 * j + 3)) L) rest wr) ∧ Aside0 (Below w.heap.size w wr)) (fun i _ => 20 - (intOf i).toNat)
  case atStart => exact ⟨0, by omega, rfl, HR0, HB0⟩
  case round =>
    clear HR0 HB0
    obtain ⟨j, hk, rfl, HR, HB⟩ := hrel
    by_cases hlt : j < 4
    · have hx0 := upto_get cl3 L (4 * j + 3) (by rw [HLl.out]; omega)
      have hxb := HLb.out (4 * j + 3)
      have hcell := BAt.cell HR.out hx0
      have hfr := BAt.frozen HR.out hx0
      generalize hx : L.getD (4 * j + 3) 0 = x at hcell hxb
      have hb15 := u8_and15 x hxb
      have HX := Aside0.mk hx
      have t1 : decide (4 * (j : Int) + 3 < 16) = true := decide_eq_true (by omega)
      have t2 : (4 * (j : Int) + 3).toNat = 4 * j + 3 := by omega
      clear hx hx0 hcv
      go_wp2
      have HN : BAt w.heap.size (mapAt (upto cl3 (4 * (j + 1) + 3)) L) rest (wr.setCell ⟨w.heap.size, 4 * j + 3, none⟩ (.int .u8 ((x % 16 : Nat) : Int))) := by
        rw [← upto_skip cl3 L (4 * j + 3 + 1) (4 * (j + 1) + 3) (by omega) (fun i h1 h2 => by unfold cl3; rw [if_neg (by omega)]),
          ← upto_set cl3 L (4 * j + 3) (x % 16) (by unfold cl3; rw [if_pos (by omega), HX.out])]
        exact BAt.store HR.out (4 * j + 3) (x % 16) (by rw [mapAt_length, HLl.out]; omega)
      exact ⟨⟨j + 1, by omega, by go_num, ⟨HN⟩, ⟨below_set HB.out (Nat.le_refl _)⟩⟩, by simp [intOf]; omega⟩
    · obtain rfl : j = 4 := by omega
      clear hlt hk
      have HR1 : Aside0 (BAt w.heap.size (mapAt (upto cl0 4) (mapAt cl3 L)) rest wr) := ⟨by
        rw [← upto_skip cl0 (mapAt cl3 L) 0 4 (by omega) (fun i _ h => by unfold cl0; rw [if_neg (by omega)]), upto_zero, ← upto_all cl3 L 19 (by rw [HLl.out]; omega)]
        exact HR.out⟩
      have HLm := Aside0.mk (show (mapAt cl3 L).length = 16 by rw [mapAt_length, HLl.out])
      have HLc := Aside0.mk (cl_both L)
      have HLb2 : Aside0 (∀ i, (mapAt cl3 L).getD i 0 < 256) := ⟨fun i => by
        by_cases hi : i < L.length
        · rw [List.getD_eq_getElem?_getD, mapAt_get _ _ _ hi]
          have := HLb.out i
          simp only [Option.getD_some]
          unfold cl3
          split
          · omega
          · exact this
        · rw [List.getD_eq_getElem?_getD, List.getElem?_eq_none (by rw [mapAt_length]; omega)]; simp⟩
      generalize mapAt cl3 L = M at HR1 HLm HLc HLb2
      clear HR
      rw [show 4 * ((4 : Nat) : Int) + 3 = 19 from rfl]
      go_wp2_with (fail)
      go_loopw [6] (fun i wr => ∃ j : Nat, j ≤ 3 ∧ i = .int .i64 (4 * (j : Int) + 4) ∧ Aside0 (BAt w.heap.size (mapAt (upto cl0 (4 * j + 4)) M) rest wr) ∧ Aside0 (Below w.heap.size w wr)) (fun i _ => 20 - (intOf i).toNat)
      case atStart => exact ⟨0, by omega, rfl, HR1, HB⟩
      case round =>
        clear HR1 HB
        obtain ⟨j, hk, rfl, HR, HB⟩ := hrel
        by_cases hlt : j < 3
        · have hx0 := upto_get cl0 M (4 * j + 4) (by rw [HLm.out]; omega)
          have hxb := HLb2.out (4 * j + 4)
          have hcell := BAt.cell HR.out hx0
          have hfr := BAt.frozen HR.out hx0
          generalize hx : M.getD (4 * j + 4) 0 = x at hcell hxb
          have hb252 := u8_and252 x hxb
          have HX := Aside0.mk hx
          have t1 : decide (4 * (j : Int) + 4 < 16) = true := decide_eq_true (by omega)
          have t2 : (4 * (j : Int) + 4).toNat = 4 * j + 4 := by omega
          clear hx hx0 hcv
          go_wp2
          have HN : BAt w.heap.size (mapAt (upto cl0 (4 * (j + 1) + 4)) M) rest (wr.setCell ⟨w.heap.size, 4 * j + 4, none⟩ (.int .u8 ((x / 4 * 4 : Nat) : Int))) := by
            rw [← upto_skip cl0 M (4 * j + 4 + 1) (4 * (j + 1) + 4) (by omega) (fun i h1 h2 => by unfold cl0; rw [if_neg (by omega)]),
              ← upto_set cl0 M (4 * j + 4) (x / 4 * 4) (by unfold cl0; rw [if_pos (by omega), HX.out])]
            exact BAt.store HR.out (4 * j + 4) (x / 4 * 4) (by rw [mapAt_length, HLm.out]; omega)
          exact ⟨⟨j + 1, by omega, by go_num, ⟨HN⟩, ⟨below_set HB.out (Nat.le_refl _)⟩⟩, by simp [intOf]; omega⟩
        · obtain rfl : j = 3 := by omega
          clear hlt hk
          have hcv2 := hcv.out wr _ HR.out (by rw [mapAt_length, HLm.out])
          have HE := Aside0.mk (show mapAt (upto cl0 (4 * 3 + 4)) M = clampL L from (upto_all cl0 M _ (by rw [HLm.out]; omega)).trans HLc.out)
          rw [HE.out] at hcv2
          rw [show 4 * ((3 : Nat) : Int) + 4 = 16 from rfl]
          go_wp2
          go_ret2
          rw [HLe.out]
          exact ⟨rfl, HB.out⟩
set_option maxRecDepth 100000 in
theorem poly_Clamp.no (a0 : ByteArray) (w : World) (h0 : ¬ a0.size = 16) : Calls Try.prog 76 #[.string a0] w fun e w' => e = .returned (.tuple #[.string ⟨#[]⟩, .int .i64 1]) ∧ Below w.heap.size w w' := by
  have g0 : ((a0.size : Int) != 16) = true := by rw [bne_iff_ne]; omega
  go_enter Try.func76, Try.ntmps76
  go_wp2
  go_ret2
  exact ⟨rfl, Below.refl _ _⟩
set_option maxRecDepth 100000 in
theorem samphireref06_Clamp.no (a0 : ByteArray) (w : World) (h0 : ¬ a0.size = 16) : Calls Try.prog 85 #[.string a0] w fun e w' => e = .returned (.tuple #[.string ⟨#[]⟩, .int .i64 1]) ∧ Below w.heap.size w w' := by
  have g0 : ((a0.size : Int) != 16) = true := by rw [bne_iff_ne]; omega
  go_enter Try.func85, Try.ntmps85
  go_wp2
  go_ret2
  exact ⟨rfl, Below.refl _ _⟩
def clampF (a0 : ByteArray) : Option (ByteArray × Int) := if a0.size = 16 then some (txt (clampL (bys a0)), 0) else some (⟨#[]⟩, 1)
def poly_Clamp.f (a0 : ByteArray) : Option (ByteArray × Int) := clampF a0
def samphireref06_Clamp.f (a0 : ByteArray) : Option (ByteArray × Int) := clampF a0
theorem poly_Clamp.calls (a0 : ByteArray) (r1 : ByteArray) (r2 : Int) (w : World) (h : poly_Clamp.f a0 = some (r1, r2)) :
    Calls Try.prog 76 #[.string a0] w fun e w' => e = .returned (.tuple #[.string r1, .int .i64 r2]) ∧ Below w.heap.size w w' := by
  unfold poly_Clamp.f clampF at h
  split at h <;> simp only [Option.some.injEq, Prod.mk.injEq] at h <;> obtain ⟨rfl, rfl⟩ := h
  · exact poly_Clamp.yes a0 w (by assumption)
  · exact poly_Clamp.no a0 w (by assumption)
theorem samphireref06_Clamp.calls (a0 : ByteArray) (r1 : ByteArray) (r2 : Int) (w : World) (h : samphireref06_Clamp.f a0 = some (r1, r2)) :
    Calls Try.prog 85 #[.string a0] w fun e w' => e = .returned (.tuple #[.string r1, .int .i64 r2]) ∧ Below w.heap.size w w' := by
  unfold samphireref06_Clamp.f clampF at h
  split at h <;> simp only [Option.some.injEq, Prod.mk.injEq] at h <;> obtain ⟨rfl, rfl⟩ := h
  · exact samphireref06_Clamp.yes a0 w (by assumption)
  · exact samphireref06_Clamp.no a0 w (by assumption)
end Go.Proofs.Ytmablneefndedaa.Pr

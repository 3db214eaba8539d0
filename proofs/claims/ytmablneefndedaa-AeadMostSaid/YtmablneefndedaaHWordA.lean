/- strings.Repeat by the shelf's contract; the Builder's Write of new bytes; word.put. -/
-- HAND strings.Repeat strings_Repeat 0 1
-- HAND samphire/word.put word_put 0 1
import Derived.Test.YtmablneefndedaaHShelf
import Derived.Test.YtmablneefndedaaWWords
import Derived.Test.YtmablneefndedaaWLast
import Derived.Test.YtmablneefndedaaWMore
import Derived.WalkKit
import Derived.KernelRfl
import Derived.Deep.LoopGhost
import Derived.Laws.BytesArg
import Derived.Test.YtmablneefndedaaHWordR
namespace Go.Proofs.Ytmablneefndedaa.Pr
open Go.RowKit Go.Proofs.YtmablneefndedaaW.PrintWords Go.Proofs.YtmablneefndedaaW.PrintLast Go.Proofs.YtmablneefndedaaW.PrintMore
set_option maxHeartbeats 1000000
set_option linter.unusedVariables false
set_option linter.unusedSimpArgs false
def strings_Repeat.f (a0 : ByteArray) (a1 : Int) : Option ByteArray :=
  if 0 ≤ a1 ∧ a1 ≤ 1000000000 ∧ a0.size ≤ 100000 then some ⟨(Lib.repeatL a0.data.toList a1.toNat).toArray⟩ else none
theorem strings_Repeat.calls (a0 : ByteArray) (a1 : Int) (r : ByteArray) (w : World) (h : strings_Repeat.f a0 a1 = some r) :
    Calls Try.prog 37 #[.string a0, .int .i64 a1] w fun e w' => e = .returned (.string r) ∧ Below w.heap.size w w' := by
  unfold strings_Repeat.f at h
  by_cases hc : 0 ≤ a1 ∧ a1 ≤ 1000000000 ∧ a0.size ≤ 100000
  · rw [if_pos hc] at h
    obtain rfl := Option.some.inj h
    obtain ⟨h0, h1, h2⟩ := hc
    obtain ⟨n, rfl⟩ := Int.eq_ofNat_of_zero_le h0
    have hn : n ≤ 1000000000 := by omega
    have hm : a0.size * n ≤ 100000 * 1000000000 := Nat.mul_le_mul h2 hn
    exact Try.strings_Repeat a0 n w (by omega) (by omega)
  · rw [if_neg hc] at h
    cases h
/-- copyCheck, with the world behind it. -/
theorem copyCheck_exact (B b : Nat) (bs : List Value) (w : World) (h : Lib.IsBuilder 61 5 B b bs w) :
    Calls Try.prog 95 #[.pointer (some ⟨b, 0, none⟩)] w fun e w' => e = .returned (.tuple #[]) ∧ (w' = w ∨ w' = w.setCell ⟨b, 0, none⟩ (.pointer (some ⟨b, 0, none⟩))) ∧ Lib.BuilderAt 61 5 B b (.pointer (some ⟨b, 0, none⟩)) bs w' := by
  rcases h with h | h
  · refine (Any.Builder_copyCheck_fresh Try.lays240 Try.Builder_X72_240 b w h.cell0 h.shape h.frozen0).mono ?_
    rintro e w' ⟨rfl, rfl⟩
    exact ⟨rfl, .inr rfl, h.used _⟩
  · refine (Any.Builder_copyCheck_used Try.lays240 Try.Builder_X72_240 b w h.cell0).mono ?_
    rintro e w' ⟨rfl, rfl⟩
    exact ⟨rfl, .inl rfl, h⟩
set_option maxRecDepth 100000 in
/-- Write, of bytes that lie in another block than the builder's own cells. -/
theorem builder_write (B b : Nat) (bs : List Value) (g m c : Nat) (news : List Value) (w : World) (h : Lib.IsBuilder 61 5 B b bs w)
    (hl : news.length = m) (hnews : ∀ j u, news[j]? = some u → w.cell? ⟨g, j, none⟩ = some u) (hgb : g ≠ b) (h1 : ∀ u ∈ news, u.oneCell' = true) (hlen : bs.length + m ≤ 140737488355328) (hBw : B ≤ w.heap.size) :
    Calls Try.prog 107 #[.pointer (some ⟨b, 0, none⟩), .slice (some ⟨g, 0, none⟩) m c] w fun e w' => e = .returned (.tuple #[.int .i64 m, .nilIface]) ∧ (Lib.BuilderAt 61 5 B b (.pointer (some ⟨b, 0, none⟩)) (bs ++ news) w' ∧ Below B w w') := by
  obtain ⟨i0, hi, hz0, hz1, hz2⟩ := info_parts Try.Builder_Extra_105.infoByte
  go_enter Try.func107, Try.ntmps107
  go_wp2_with (go_at_call 95; refine (copyCheck_exact B b bs _ h).mono ?_)
  rintro e w1 ⟨rfl, hw1, h1'⟩
  have hb1 : Below B w w1 := by
    rcases hw1 with rfl | rfl
    · exact Below.refl _ _
    · exact (Below.refl B w).setCell (p := ⟨b, 0, none⟩) h1'.1 _
  have hnews1 : ∀ j u, news[j]? = some u → w1.cell? ((⟨g, 0, none⟩ : Addr).add j) = some u := by
    intro j u hj
    rw [add_plain]
    rcases hw1 with rfl | rfl
    · exact hnews j u hj
    · rw [World.cell?_setCell_other _ _ _ _ (by intro e; injection e with e _ _; exact hgb e.symm)]
      exact hnews j u hj
  clear hw1 hnews
  obtain ⟨hB, v, hbk, hown, hne⟩ := h1'
  have c0 : w1.cell? ⟨b, 0, none⟩ = some (.pointer (some ⟨b, 0, none⟩)) := by rw [Lib.cell_of_heap hbk]; rfl
  have c1 : w1.cell? ⟨b, 1, none⟩ = some v := by rw [Lib.cell_of_heap hbk]; rfl
  go_wp2_with (at_builtin; refine wpList_append_own _ rfl _ _ 28 rfl B 5 i0 (.int .u8 0) 1 1 Try.underlying28 hi hz0 hz1 hz2 rfl (by decide) _ _ _ rfl hown ⟨g, 0, none⟩ m c news rfl (by omega) hnews1 h1 ?c3 ?c4 ?c5 ?_)
  case c3 => unfold maxLen; omega
  case c4 => omega
  case c5 => have := hb1.size; omega
  intro v' w2 hown' hgrow _
  have hlt : b < w1.heap.size := blk_lt hbk
  have hb2 : w2.heap[b]? = some (.cells #[.pointer (some ⟨b, 0, none⟩), v] 61 (0, 0)) := by
    rw [hgrow.block b hlt (fun e => hne e.symm)]
    exact hbk
  have d0 : w2.cell? ⟨b, 0, none⟩ = some (.pointer (some ⟨b, 0, none⟩)) := by rw [Lib.cell_of_heap hb2]; rfl
  have d1 : w2.cell? ⟨b, 1, none⟩ = some v := by rw [Lib.cell_of_heap hb2]; rfl
  have f1 : w2.frozen? ⟨b, 1, none⟩ = false := Lib.frozen_of_heap hb2 1
  obtain ⟨ao, n', cap, rfl⟩ : ∃ ao n' cap, v' = .slice ao n' cap := by
    rcases hown'.2 with ⟨hv, _⟩ | ⟨g, cap, cur, hv, _⟩
    · exact ⟨_, _, _, hv⟩
    · exact ⟨_, _, _, hv⟩
  go_wp2
  go_ret2
  refine ⟨rfl, ?_, ?_⟩
  · exact Lib.BuilderAt.put (T := 61) (e := 5) hB hb2 (bs' := bs ++ news) (by simpa [hl] using hown') (by decide)
  · exact (hb1.grown hgrow (by have := hb1.size; omega) (fun k hk => (hown.lt k hk).1)).setCell (p := ⟨b, 1, none⟩) hB _
/-- The four bytes of a number's low word, the highest first. -/
def by4i (x : Int) : List Int := [x / 16777216 % 256, x / 65536 % 256, x / 256 % 256, x % 256]
theorem by4i_length (x : Int) : (by4i x).length = 4 := rfl
theorem flat4i_length (l : List Int) : (l.flatMap by4i).length = 4 * l.length := by
  induction l with
  | nil => rfl
  | cons x l ih => rw [List.flatMap_cons, List.length_append, by4i_length, ih, List.length_cons]; omega
def le4i (x : Int) : List Int := [x % 256, x / 256 % 256, x / 65536 % 256, x / 16777216 % 256]
theorem le4i_length (x : Int) : (le4i x).length = 4 := rfl
theorem flat4r_length (l : List Int) : (l.flatMap le4i).length = 4 * l.length := by
  induction l with
  | nil => rfl
  | cons x l ih => rw [List.flatMap_cons, List.length_append, le4i_length, ih, List.length_cons]; omega
def word_put.f (l0 : List Int) (a1 : Bool) : Option ByteArray := if l0.length ≤ 1000000 then some (strOfNums (l0.flatMap (if a1 then le4i else by4i))) else none
theorem cells_of_nums (xs : List Int) (hx : ∀ x ∈ xs, 0 ≤ x ∧ x < 256) : Lib.byteCells (xs.map fun n => UInt8.ofNat n.toNat) = nums .u8 xs := by
  unfold Lib.byteCells nums
  rw [List.map_map]
  refine List.map_congr_left fun n hn => ?_
  obtain ⟨h0, h1⟩ := hx n hn
  simp
  omega
theorem by4i_range (l : List Int) : ∀ x ∈ l.flatMap by4i, 0 ≤ x ∧ x < 256 := by
  intro x hx
  rw [List.mem_flatMap] at hx
  obtain ⟨y, _, hy⟩ := hx
  simp only [by4i, List.mem_cons, List.not_mem_nil, or_false] at hy
  rcases hy with rfl | rfl | rfl | rfl <;> omega
theorem le4i_range (l : List Int) : ∀ x ∈ l.flatMap le4i, 0 ≤ x ∧ x < 256 := by
  intro x hx
  rw [List.mem_flatMap] at hx
  obtain ⟨y, _, hy⟩ := hx
  simp only [le4i, List.mem_cons, List.not_mem_nil, or_false] at hy
  rcases hy with rfl | rfl | rfl | rfl <;> omega
set_option maxRecDepth 100000 in
theorem word_put.plain (A0 : Option Addr) (c0 : Nat) (l0 : List Int) (w : World) (hr0 : Kd.C (Kd.int .i64) w A0 l0.length l0) (hc0 : l0.length ≤ c0) (hlen : l0.length ≤ 1000000) :
    Calls Try.prog 82 #[.slice A0 l0.length c0, .bool false] w fun e w' => e = .returned (.string (strOfNums (l0.flatMap by4i))) ∧ Below w.heap.size w w' := by
  have hr := Aside0.mk (Kd.reads_of_C (enc := Value.int .i64) (d := (0 : Int)) (h1 := fun _ => rfl) hr0)
  clear hr0
  go_enter Try.func82, Try.ntmps82
  go_wp2
  go_loopw [11] (fun i wr => ∃ k : Nat, k ≤ l0.length ∧ i = .int .i64 k ∧ Aside0 (Lib.IsBuilder 61 5 w.heap.size w.heap.size (nums .u8 ((l0.take k).flatMap by4i)) wr) ∧ Aside0 (Below w.heap.size w wr)) (fun i _ => l0.length - (intOf i).toNat)
  case atStart => exact ⟨0, by omega, rfl, ⟨Lib.fresh_isBuilder _ _ w⟩, ⟨below_alloc (Below.refl _ _) _⟩⟩
  case round =>
    obtain ⟨k, hk, rfl, HI, HB⟩ := hrel
    by_cases hlt : k < l0.length
    · obtain ⟨ad, hA, hcell⟩ := (hr.out.below HB.out).at_ (k : Int) (by omega) (by omega)
      subst hA
      rw [Int.toNat_natCast] at hcell
      generalize hx : rdOf (0 : Int) l0 (k : Int) = x at hcell
      have HX := Aside0.mk hx
      clear hx
      have hlt1 : w.heap.size < wr.heap.size := by
        rcases HI.out with h | h
        · exact h.lt
        · exact h.lt
      have hne : wr.heap.size ≠ w.heap.size := by omega
      have hbw : w.heap.size ≤ wr.heap.size := by omega
      have hlen4 : (nums .u8 ((l0.take k).flatMap by4i)).length ≤ 4000000 := by
        rw [nums_length, flat4i_length, List.length_take]
        omega
      have HI2 : Aside0 (Lib.IsBuilder 61 5 w.heap.size w.heap.size (nums .u8 ((l0.take k).flatMap by4i)) (wr.alloc (.cells #[.int .u8 (x / 16777216 % 256), .int .u8 (x / 65536 % 256), .int .u8 (x / 256 % 256), .int .u8 (x % 256)] 5))) := by
        refine ⟨?_⟩
        rcases HI.out with ⟨h1, v, h2, h3, h4⟩ | ⟨h1, v, h2, h3, h4⟩
        · exact .inl ⟨h1, v, blk_alloc h2 _, h3.alloc _, h4⟩
        · exact .inr ⟨h1, v, blk_alloc h2 _, h3.alloc _, h4⟩
      have HE := Aside0.mk hne
      have HL := Aside0.mk hlen4
      clear hne hlen4
      go_wp2_with (go_at_call 107; refine (builder_write w.heap.size w.heap.size (nums .u8 ((l0.take k).flatMap by4i)) wr.heap.size 4 4 (nums .u8 (by4i x)) _ HI2.out rfl (fun j u hj => ?_) HE.out (fun u hu => ?_) (by have := HL.out; omega) (by simp; omega)).mono ?_)
      · rw [cell_of_row _ _ _ _ _ _ (heap_alloc_new wr _)]
        simpa [nums, by4i] using hj
      · simp only [nums, by4i, List.map_cons, List.map_nil, List.mem_cons, List.not_mem_nil, or_false] at hu
        rcases hu with rfl | rfl | rfl | rfl <;> rfl
      · rintro e w2 ⟨rfl, hb2, hbel⟩
        have HB2 := Aside0.mk (show Lib.IsBuilder 61 5 w.heap.size w.heap.size (nums .u8 ((l0.take (k + 1)).flatMap by4i)) w2 from .inr (by
          have e1 : l0.take (k + 1) = l0.take k ++ [x] := by
            rw [List.take_succ_eq_append_getElem hlt, ← HX.out]
            simp [rdOf, hlt]
          rw [e1, List.flatMap_append, nums_append]
          simpa using hb2))
        have HL2 := Aside0.mk (show Below w.heap.size w w2 from (below_alloc HB.out _).trans hbel)
        clear hb2 hbel
        go_wp2
        refine ⟨⟨k + 1, by omega, by go_num, HB2, HL2⟩, by simp [intOf]; omega⟩
    · obtain rfl : k = l0.length := by omega
      have HI2 := HI.out
      rw [List.take_length, ← cells_of_nums _ (by4i_range l0)] at HI2
      have HI3 := Aside0.mk HI2
      clear HI2 hlt hk
      go_wp2_with (go_at_call 64; refine (Try.Builder_String_any w.heap.size w.heap.size _ _ HI3.out HB.out.size).mono ?_; rintro e w2 ⟨rfl, hb2⟩)
      go_ret
      exact ⟨rfl, HB.out.trans hb2⟩
set_option maxRecDepth 100000 in
theorem word_put.turned (A0 : Option Addr) (c0 : Nat) (l0 : List Int) (w : World) (hr0 : Kd.C (Kd.int .i64) w A0 l0.length l0) (hc0 : l0.length ≤ c0) (hlen : l0.length ≤ 1000000) :
    Calls Try.prog 82 #[.slice A0 l0.length c0, .bool true] w fun e w' => e = .returned (.string (strOfNums (l0.flatMap le4i))) ∧ Below w.heap.size w w' := by
  have hr := Aside0.mk (Kd.reads_of_C (enc := Value.int .i64) (d := (0 : Int)) (h1 := fun _ => rfl) hr0)
  clear hr0
  go_enter Try.func82, Try.ntmps82
  go_wp2
  go_loopw [11] (fun i wr => ∃ k : Nat, k ≤ l0.length ∧ i = .int .i64 k ∧ Aside0 (Lib.IsBuilder 61 5 w.heap.size w.heap.size (nums .u8 ((l0.take k).flatMap le4i)) wr) ∧ Aside0 (Below w.heap.size w wr)) (fun i _ => l0.length - (intOf i).toNat)
  case atStart => exact ⟨0, by omega, rfl, ⟨Lib.fresh_isBuilder _ _ w⟩, ⟨below_alloc (Below.refl _ _) _⟩⟩
  case round =>
    obtain ⟨k, hk, rfl, HI, HB⟩ := hrel
    by_cases hlt : k < l0.length
    · obtain ⟨ad, hA, hcell⟩ := (hr.out.below HB.out).at_ (k : Int) (by omega) (by omega)
      subst hA
      rw [Int.toNat_natCast] at hcell
      generalize hx : rdOf (0 : Int) l0 (k : Int) = x at hcell
      have HX := Aside0.mk hx
      clear hx
      have hlt1 : w.heap.size < wr.heap.size := by
        rcases HI.out with h | h
        · exact h.lt
        · exact h.lt
      have hne : wr.heap.size ≠ w.heap.size := by omega
      have hbw : w.heap.size ≤ wr.heap.size := by omega
      have hlen4 : (nums .u8 ((l0.take k).flatMap le4i)).length ≤ 4000000 := by
        rw [nums_length, flat4r_length, List.length_take]
        omega
      have HI2 : Aside0 (Lib.IsBuilder 61 5 w.heap.size w.heap.size (nums .u8 ((l0.take k).flatMap le4i)) (wr.alloc (.cells #[.int .u8 (x / 16777216 % 256), .int .u8 (x / 65536 % 256), .int .u8 (x / 256 % 256), .int .u8 (x % 256)] 5))) := by
        refine ⟨?_⟩
        rcases HI.out with ⟨h1, v, h2, h3, h4⟩ | ⟨h1, v, h2, h3, h4⟩
        · exact .inl ⟨h1, v, blk_alloc h2 _, h3.alloc _, h4⟩
        · exact .inr ⟨h1, v, blk_alloc h2 _, h3.alloc _, h4⟩
      have HE := Aside0.mk hne
      have HL := Aside0.mk hlen4
      clear hne hlen4
      go_wp2_with (go_at_call 106; refine (reverse4_calls wr.heap.size _ _ _ _ _ (heap_alloc_new wr _)).mono ?_)
      rintro e w9 ⟨rfl, hrv⟩
      have hb9 : w.heap.size ≤ w9.heap.size := Nat.le_trans (by simp; omega) hrv.grown.size
      have HI3 : Aside0 (Lib.IsBuilder 61 5 w.heap.size w.heap.size (nums .u8 ((l0.take k).flatMap le4i)) w9) := by
        refine ⟨?_⟩
        have hown : ∀ v : Value, ∀ n, wr.ownsRow w.heap.size 5 1 v n (nums .u8 ((l0.take k).flatMap le4i)) → v.ownBlock ≠ some wr.heap.size := fun v n ho he => absurd ((ho.lt _ he).2) (by omega)
        rcases HI.out with ⟨h1, v, h2, h3, h4⟩ | ⟨h1, v, h2, h3, h4⟩
        · exact .inl ⟨h1, v, blk_grown (blk_alloc h2 _) hrv.grown (by intro e; injection e with e; omega), (h3.alloc _).kept hrv.grown (.inr (hown v _ h3)), h4⟩
        · exact .inr ⟨h1, v, blk_grown (blk_alloc h2 _) hrv.grown (by intro e; injection e with e; omega), (h3.alloc _).kept hrv.grown (.inr (hown v _ h3)), h4⟩
      have HB9 : Aside0 (Below w.heap.size w w9) := ⟨pw_below_grown (below_alloc HB.out _) (some wr.heap.size) (by simp; omega) hrv.grown (fun k e => by injection e with e; omega)⟩
      have HRV := Aside0.mk hrv.row
      clear hrv
      go_wp2_with (go_at_call 107; refine (builder_write w.heap.size w.heap.size (nums .u8 ((l0.take k).flatMap le4i)) wr.heap.size 4 4 (nums .u8 (le4i x)) _ HI3.out rfl (fun j u hj => ?_) HE.out (fun u hu => ?_) (by have := HL.out; omega) hb9).mono ?_)
      · rw [cell_of_row _ _ _ _ _ _ HRV.out]
        simpa [nums, le4i] using hj
      · simp only [nums, le4i, List.map_cons, List.map_nil, List.mem_cons, List.not_mem_nil, or_false] at hu
        rcases hu with rfl | rfl | rfl | rfl <;> rfl
      · rintro e w2 ⟨rfl, hb2, hbel⟩
        have HB2 := Aside0.mk (show Lib.IsBuilder 61 5 w.heap.size w.heap.size (nums .u8 ((l0.take (k + 1)).flatMap le4i)) w2 from .inr (by
          have e1 : l0.take (k + 1) = l0.take k ++ [x] := by
            rw [List.take_succ_eq_append_getElem hlt, ← HX.out]
            simp [rdOf, hlt]
          rw [e1, List.flatMap_append, nums_append]
          simpa using hb2))
        have HL2 := Aside0.mk (show Below w.heap.size w w2 from HB9.out.trans hbel)
        clear hb2 hbel
        go_wp2
        refine ⟨⟨k + 1, by omega, by go_num, HB2, HL2⟩, by simp [intOf]; omega⟩
    · obtain rfl : k = l0.length := by omega
      have HI2 := HI.out
      rw [List.take_length, ← cells_of_nums _ (le4i_range l0)] at HI2
      have HI3 := Aside0.mk HI2
      clear HI2 hlt hk
      go_wp2_with (go_at_call 64; refine (Try.Builder_String_any w.heap.size w.heap.size _ _ HI3.out HB.out.size).mono ?_; rintro e w2 ⟨rfl, hb2⟩)
      go_ret
      exact ⟨rfl, HB.out.trans hb2⟩
theorem word_put.calls (A0 : Option Addr) (c0 : Nat) (l0 : List Int) (a1 : Bool) (r : ByteArray) (w : World) (hr0 : Kd.C (Kd.int .i64) w A0 l0.length l0) (hc0 : l0.length ≤ c0) (h : word_put.f l0 a1 = some r) :
    Calls Try.prog 82 #[.slice A0 l0.length c0, .bool a1] w fun e w' => e = .returned (.string r) ∧ Below w.heap.size w w' := by
  unfold word_put.f at h
  by_cases hc : l0.length ≤ 1000000
  · rw [if_pos hc] at h
    obtain rfl := Option.some.inj h
    cases a1
    · exact word_put.plain A0 c0 l0 w hr0 hc0 hc
    · exact word_put.turned A0 c0 l0 w hr0 hc0 hc
  · rw [if_neg hc] at h
    cases h
end Go.Proofs.Ytmablneefndedaa.Pr

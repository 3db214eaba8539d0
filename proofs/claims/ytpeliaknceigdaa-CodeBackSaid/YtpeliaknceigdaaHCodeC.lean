/- code.Out's puts where a part may not be, or where nobody made the Out; Byte, Num, Text, Done. -/
import Derived.Test.YtpeliaknceigdaaHCodeB
import Derived.Test.YtpeliaknceigdaaPrxf39
import Derived.Test.YtpeliaknceigdaaPrxf31
import Derived.StillTailTactics
import Derived.Deep.Light
import Derived.Lib.AppendStr
import Derived.Deep.RegionHeldLaw
import Derived.Deep.DrawnRows
import Derived.BigQuiet
import Derived.Deep.QuietTactic
import Derived.Deep.RegionHeld3
namespace Go.Proofs.Ytpeliaknceigdaa.Pr
open Go.RowKit Go.Deep Go.Proofs.YtpeliaknceigdaaW.PrintWords Go.Proofs.YtpeliaknceigdaaW.PrintLast Go.Proofs.YtpeliaknceigdaaW.PrintMore
set_option maxHeartbeats 1000000
set_option linter.unusedVariables false
set_option linter.unusedSimpArgs false
attribute [local go_sem ↓] Go.wp_at_zero Go.wp_at_succ
theorem sum_small : ∀ (ps : List (Int × Nat)), ps.length ≤ 2 → (∀ q ∈ ps, q.2 ≤ 8) → sumN ps ≤ 16
  | [], _, _ => by decide
  | [a], _, h => by rw [sumN_cons]; have := h a (by simp); simp [sumN]; omega
  | [a, b], _, h => by rw [sumN_cons, sumN_cons]; have := h a (by simp); have := h b (by simp); simp [sumN]; omega
  | a :: b :: c :: l, h, _ => by simp at h
theorem sum_take_le (ps : List (Int × Nat)) (k : Nat) : sumN (ps.take k) ≤ sumN ps := by
  have := sumN_append (ps.take k) (ps.drop k)
  rw [List.take_append_drop] at this
  omega
set_option maxRecDepth 100000 in
theorem puts_spoilt (B g gp : Nat) (mk ok : Bool) (L : List Nat) (s : ByteArray) (ps : List (Int × Nat)) (w : World) (hO : OutAt B g mk true L w) (hgp : w.heap[gp]? = some (.cells (pairsV ps).toArray 76 (0, 0)))
    (hps : ∀ p ∈ ps, 1 ≤ p.2 ∧ p.2 ≤ 8) (hpl : ps.length ≤ 2) (hs : s.size ≤ 140737488351232) (hl : L.length ≤ 65536) (hB : B ≤ w.heap.size) :
    Calls Try.prog 38 #[.pointer (some ⟨g, 0, none⟩), .bool ok, .string s, .slice (some ⟨gp, 0, none⟩) ps.length ps.length] w fun e w' => e = .returned (.tuple #[]) ∧ OutAt B g mk true L w' ∧ FrO w w' ∧ Below B w w' := by
  have hsm : sumN ps ≤ 16 := sum_small ps hpl (fun q hq => (hps q hq).2)
  go_enter Try.func38, Try.ntmps38
  go_wp2_with (fail)
  go_loopw [8, 21] (fun n i wr => ∃ k : Nat, k ≤ ps.length ∧ i = .int .i64 k ∧ n = .int .i64 ((s.size + sumN (ps.take k) : Nat) : Int) ∧ Aside0 (Below w.heap.size w wr)) (fun _ i _ => ps.length - (intOf i).toNat)
  case atStart => exact ⟨0, by omega, rfl, rfl, ⟨Below.refl _ _⟩⟩
  case round =>
    obtain ⟨k, hk, rfl, rfl, HB1⟩ := hrel
    have hsum : s.size + sumN (ps.take k) ≤ 140737488351248 := by have := sum_take_le ps k; omega
    by_cases hlt : k < ps.length
    · obtain ⟨⟨p, m⟩, hp⟩ : ∃ p, ps[k]? = some p := ⟨_, List.getElem?_eq_getElem hlt⟩
      have hm := hps _ (List.mem_of_getElem? hp)
      have hm1 : m ≤ 8 := hm.2
      have c0 : wr.cell? ⟨gp, k * 2, none⟩ = some (.int .i64 p) := pair_cell HB1.out hgp hp 0 (by omega)
      have c1 : wr.cell? ⟨gp, k * 2 + 1, none⟩ = some (.int .i64 (m : Int)) := pair_cell HB1.out hgp hp 1 (by omega)
      have HP := Aside0.mk hp
      clear hp hm
      go_wp2_with (fail)
      refine ⟨⟨k + 1, by omega, by go_num, ?_, ⟨below_alloc HB1.out _⟩⟩, by simp [intOf]; omega⟩
      rw [sum_next HP.out, ← Nat.add_assoc]
      go_num
    · obtain rfl : k = ps.length := by omega
      clear hlt hk
      rw [List.take_length] at hsum ⊢
      have HO1 := Aside0.mk (hO.below HB1.out)
      generalize hN : s.size + sumN ps = N at hsum ⊢
      have HN := Aside0.mk hN
      obtain ⟨hBg, v, hbk, hown⟩ := HO1.out
      obtain ⟨A, c, rfl⟩ := own_slice hown
      have g1 : wr.cell? ⟨g, 1, none⟩ = some (.bool true) := by rw [cell_of_row wr g _ _ _ _ hbk]; rfl
      have g2 : wr.cell? ⟨g, 2, none⟩ = some (.slice A L.length c) := by rw [cell_of_row wr g _ _ _ _ hbk]; rfl
      have f1 : wr.frozen? ⟨g, 1, none⟩ = false := blk_thaw hbk 1
      have HO2 := Aside0.mk (HO1.out.flag true)
      have HF2 := Aside0.mk (HO1.out.fro (FrO.of_below HB1.out) 1 (.bool true))
      have HB2 := Aside0.mk (((HB1.out.mono hB).setCell (p := ⟨g, 1, none⟩) hBg (.bool true)))
      clear hN hbk hown hgp hO
      go_wp2_with (fail)
      refine bodyPost_ret (v := .tuple #[]) (by simp [results, Try.results38, go_sem]) rfl ?_
      exact ⟨rfl, HO2.out, HF2.out, HB2.out⟩
set_option maxRecDepth 100000 in
theorem puts_no (B g gp : Nat) (mk : Bool) (L : List Nat) (s : ByteArray) (ps : List (Int × Nat)) (w : World) (hO : OutAt B g mk false L w) (hgp : w.heap[gp]? = some (.cells (pairsV ps).toArray 76 (0, 0)))
    (hps : ∀ p ∈ ps, 1 ≤ p.2 ∧ p.2 ≤ 8) (hpl : ps.length ≤ 2) (hs : s.size ≤ 140737488351232) (hl : L.length ≤ 65536) (hB : B ≤ w.heap.size) :
    Calls Try.prog 38 #[.pointer (some ⟨g, 0, none⟩), .bool false, .string s, .slice (some ⟨gp, 0, none⟩) ps.length ps.length] w fun e w' => e = .returned (.tuple #[]) ∧ OutAt B g mk true L w' ∧ FrO w w' ∧ Below B w w' := by
  have hsm : sumN ps ≤ 16 := sum_small ps hpl (fun q hq => (hps q hq).2)
  go_enter Try.func38, Try.ntmps38
  go_wp2_with (fail)
  go_loopw [8, 21] (fun n i wr => ∃ k : Nat, k ≤ ps.length ∧ i = .int .i64 k ∧ n = .int .i64 ((s.size + sumN (ps.take k) : Nat) : Int) ∧ Aside0 (Below w.heap.size w wr)) (fun _ i _ => ps.length - (intOf i).toNat)
  case atStart => exact ⟨0, by omega, rfl, rfl, ⟨Below.refl _ _⟩⟩
  case round =>
    obtain ⟨k, hk, rfl, rfl, HB1⟩ := hrel
    have hsum : s.size + sumN (ps.take k) ≤ 140737488351248 := by have := sum_take_le ps k; omega
    by_cases hlt : k < ps.length
    · obtain ⟨⟨p, m⟩, hp⟩ : ∃ p, ps[k]? = some p := ⟨_, List.getElem?_eq_getElem hlt⟩
      have hm := hps _ (List.mem_of_getElem? hp)
      have hm1 : m ≤ 8 := hm.2
      have c0 : wr.cell? ⟨gp, k * 2, none⟩ = some (.int .i64 p) := pair_cell HB1.out hgp hp 0 (by omega)
      have c1 : wr.cell? ⟨gp, k * 2 + 1, none⟩ = some (.int .i64 (m : Int)) := pair_cell HB1.out hgp hp 1 (by omega)
      have HP := Aside0.mk hp
      clear hp hm
      go_wp2_with (fail)
      refine ⟨⟨k + 1, by omega, by go_num, ?_, ⟨below_alloc HB1.out _⟩⟩, by simp [intOf]; omega⟩
      rw [sum_next HP.out, ← Nat.add_assoc]
      go_num
    · obtain rfl : k = ps.length := by omega
      clear hlt hk
      rw [List.take_length] at hsum ⊢
      have HO1 := Aside0.mk (hO.below HB1.out)
      generalize hN : s.size + sumN ps = N at hsum ⊢
      have HN := Aside0.mk hN
      obtain ⟨hBg, v, hbk, hown⟩ := HO1.out
      obtain ⟨A, c, rfl⟩ := own_slice hown
      have g1 : wr.cell? ⟨g, 1, none⟩ = some (.bool false) := by rw [cell_of_row wr g _ _ _ _ hbk]; rfl
      have g2 : wr.cell? ⟨g, 2, none⟩ = some (.slice A L.length c) := by rw [cell_of_row wr g _ _ _ _ hbk]; rfl
      have f1 : wr.frozen? ⟨g, 1, none⟩ = false := blk_thaw hbk 1
      have HO2 := Aside0.mk (HO1.out.flag true)
      have HF2 := Aside0.mk (HO1.out.fro (FrO.of_below HB1.out) 1 (.bool true))
      have HB2 := Aside0.mk (((HB1.out.mono hB).setCell (p := ⟨g, 1, none⟩) hBg (.bool true)))
      clear hN hbk hown hgp hO
      go_wp2_with (fail)
      refine bodyPost_ret (v := .tuple #[]) (by simp [results, Try.results38, go_sem]) rfl ?_
      exact ⟨rfl, HO2.out, HF2.out, HB2.out⟩
set_option maxRecDepth 100000 in
theorem puts_big (B g gp : Nat) (mk : Bool) (L : List Nat) (s : ByteArray) (ps : List (Int × Nat)) (w : World) (hO : OutAt B g mk false L w) (hgp : w.heap[gp]? = some (.cells (pairsV ps).toArray 76 (0, 0)))
    (hps : ∀ p ∈ ps, 1 ≤ p.2 ∧ p.2 ≤ 8) (hpl : ps.length ≤ 2) (hs : s.size ≤ 140737488351232) (hl : L.length ≤ 65536) (hbig : 65536 < L.length + s.size + sumN ps) (hB : B ≤ w.heap.size) :
    Calls Try.prog 38 #[.pointer (some ⟨g, 0, none⟩), .bool true, .string s, .slice (some ⟨gp, 0, none⟩) ps.length ps.length] w fun e w' => e = .returned (.tuple #[]) ∧ OutAt B g mk true L w' ∧ FrO w w' ∧ Below B w w' := by
  have hsm : sumN ps ≤ 16 := sum_small ps hpl (fun q hq => (hps q hq).2)
  go_enter Try.func38, Try.ntmps38
  go_wp2_with (fail)
  go_loopw [8, 21] (fun n i wr => ∃ k : Nat, k ≤ ps.length ∧ i = .int .i64 k ∧ n = .int .i64 ((s.size + sumN (ps.take k) : Nat) : Int) ∧ Aside0 (Below w.heap.size w wr)) (fun _ i _ => ps.length - (intOf i).toNat)
  case atStart => exact ⟨0, by omega, rfl, rfl, ⟨Below.refl _ _⟩⟩
  case round =>
    obtain ⟨k, hk, rfl, rfl, HB1⟩ := hrel
    have hsum : s.size + sumN (ps.take k) ≤ 140737488351248 := by have := sum_take_le ps k; omega
    by_cases hlt : k < ps.length
    · obtain ⟨⟨p, m⟩, hp⟩ : ∃ p, ps[k]? = some p := ⟨_, List.getElem?_eq_getElem hlt⟩
      have hm := hps _ (List.mem_of_getElem? hp)
      have hm1 : m ≤ 8 := hm.2
      have c0 : wr.cell? ⟨gp, k * 2, none⟩ = some (.int .i64 p) := pair_cell HB1.out hgp hp 0 (by omega)
      have c1 : wr.cell? ⟨gp, k * 2 + 1, none⟩ = some (.int .i64 (m : Int)) := pair_cell HB1.out hgp hp 1 (by omega)
      have HP := Aside0.mk hp
      clear hp hm
      go_wp2_with (fail)
      refine ⟨⟨k + 1, by omega, by go_num, ?_, ⟨below_alloc HB1.out _⟩⟩, by simp [intOf]; omega⟩
      rw [sum_next HP.out, ← Nat.add_assoc]
      go_num
    · obtain rfl : k = ps.length := by omega
      clear hlt hk
      rw [List.take_length] at hsum ⊢
      have HO1 := Aside0.mk (hO.below HB1.out)
      generalize hN : s.size + sumN ps = N at hsum ⊢
      have HN := Aside0.mk hN
      obtain ⟨hBg, v, hbk, hown⟩ := HO1.out
      obtain ⟨A, c, rfl⟩ := own_slice hown
      have g1 : wr.cell? ⟨g, 1, none⟩ = some (.bool false) := by rw [cell_of_row wr g _ _ _ _ hbk]; rfl
      have g2 : wr.cell? ⟨g, 2, none⟩ = some (.slice A L.length c) := by rw [cell_of_row wr g _ _ _ _ hbk]; rfl
      have f1 : wr.frozen? ⟨g, 1, none⟩ = false := blk_thaw hbk 1
      have d1 : decide (65536 < (L.length : Int) + (N : Int)) = true := decide_eq_true (by omega)
      have HO2 := Aside0.mk (HO1.out.flag true)
      have HF2 := Aside0.mk (HO1.out.fro (FrO.of_below HB1.out) 1 (.bool true))
      have HB2 := Aside0.mk (((HB1.out.mono hB).setCell (p := ⟨g, 1, none⟩) hBg (.bool true)))
      clear hN hbk hown hgp hO hbig
      go_wp2_with (fail)
      refine bodyPost_ret (v := .tuple #[]) (by simp [results, Try.results38, go_sem]) rfl ?_
      exact ⟨rfl, HO2.out, HF2.out, HB2.out⟩
theorem puts_nil (ok : Bool) (s : ByteArray) (v : Value) (w : World) :
    Calls Try.prog 38 #[.pointer none, .bool ok, .string s, v] w fun e w' => e = .returned (.tuple #[]) ∧ w = w' := by
  go_enter Try.func38, Try.ntmps38
  go_wp2_with (fail)
  refine bodyPost_ret (v := .tuple #[]) (by simp [results, Try.results38, go_sem]) rfl ?_
  exact ⟨rfl, rfl⟩
/-- A part more: as it goes with what is there. -/
def outStep (bad : Bool) (L : List Nat) (ok : Bool) (M : List Nat) : Bool × List Nat :=
  if bad = true ∨ ok = false ∨ 65536 < L.length + M.length then (true, L) else (false, L ++ M)
theorem outStep_len (bad : Bool) (L : List Nat) (ok : Bool) (M : List Nat) (h : L.length ≤ 65536) : (outStep bad L ok M).2.length ≤ 65536 := by
  unfold outStep
  split
  · exact h
  · rename_i hn
    have h3 : ¬ 65536 < L.length + M.length := fun h3 => hn (.inr (.inr h3))
    show (L ++ M).length ≤ 65536
    rw [List.length_append]; omega
theorem puts_all (B g gp : Nat) (mk bad ok : Bool) (L : List Nat) (s : ByteArray) (ps : List (Int × Nat)) (w : World) (hO : OutAt B g mk bad L w) (hgp : w.heap[gp]? = some (.cells (pairsV ps).toArray 76 (0, 0)))
    (hps : ∀ p ∈ ps, 1 ≤ p.2 ∧ p.2 ≤ 8) (hpl : ps.length ≤ 2) (hs : s.size ≤ 140737488351232) (hl : L.length ≤ 65536) (hB : B ≤ w.heap.size) :
    Calls Try.prog 38 #[.pointer (some ⟨g, 0, none⟩), .bool ok, .string s, .slice (some ⟨gp, 0, none⟩) ps.length ps.length] w fun e w' => e = .returned (.tuple #[]) ∧
      OutAt B g mk (outStep bad L ok (byAll ps ++ bys s)).1 (outStep bad L ok (byAll ps ++ bys s)).2 w' ∧ FrO w w' ∧ Below B w w' := by
  have hlen : (byAll ps ++ bys s).length = s.size + sumN ps := by rw [List.length_append, byAll_length _ (fun q hq => (hps q hq).2), bys_length, Nat.add_comm]
  cases bad with
  | true => rw [show outStep true L ok (byAll ps ++ bys s) = (true, L) from if_pos (.inl rfl)]; exact puts_spoilt B g gp mk ok L s ps w hO hgp hps hpl hs hl hB
  | false =>
    cases ok with
    | false => rw [show outStep false L false (byAll ps ++ bys s) = (true, L) from if_pos (.inr (.inl rfl))]; exact puts_no B g gp mk L s ps w hO hgp hps hpl hs hl hB
    | true =>
      by_cases hb : 65536 < L.length + s.size + sumN ps
      · rw [show outStep false L true (byAll ps ++ bys s) = (true, L) from if_pos (.inr (.inr (by omega)))]; exact puts_big B g gp mk L s ps w hO hgp hps hpl hs hl hb hB
      · rw [show outStep false L true (byAll ps ++ bys s) = (false, L ++ (byAll ps ++ bys s)) from if_neg (by rintro (h | h | h); cases h; cases h; omega), ← List.append_assoc]
        exact puts_ok B g gp mk L s ps w hO hgp hps hpl (by omega) hB
def oneB (n : Int) : Bool := decide (0 ≤ n ∧ n ≤ 255)
def timeB (n : Int) : Bool := decide (0 ≤ n ∧ n ≤ 1099511627775)
theorem one_f (n : Int) : code_one.f n = some (oneB n) := by
  unfold code_one.f oneB
  split
  · rename_i h
    congr 1
    simp only [decide_eq_decide]
    omega
  · rename_i h
    rw [decide_eq_false (by omega)]
theorem time_f (n : Int) : code_time.f n = some (timeB n) := by
  unfold code_time.f timeB
  split
  · rename_i h
    congr 1
    simp only [decide_eq_decide]
    omega
  · rename_i h
    rw [decide_eq_false (by omega)]
theorem pair_one (n : Int) (m : Nat) : (pairsV [(n, m)]).toArray = #[.int .i64 n, .int .i64 (m : Int)] := rfl
theorem Out_Byte (B g : Nat) (mk bad : Bool) (L : List Nat) (n : Int) (w : World) (hO : OutAt B g mk bad L w) (hl : L.length ≤ 65536) (hB : B ≤ w.heap.size) :
    Calls Try.prog 22 #[.pointer (some ⟨g, 0, none⟩), .int .i64 n] w fun e w' => e = .returned (.tuple #[]) ∧
      OutAt B g mk (outStep bad L (oneB n) (byN n 1)).1 (outStep bad L (oneB n) (byN n 1)).2 w' ∧ FrO w w' ∧ Below B w w' := by
  have HO := Aside0.mk hO
  have h1 := Aside0.mk (one_f n)
  clear hO
  go_enter Try.func22, Try.ntmps22
  go_wp2_with (fail)
  refine (code_one.calls n _ w h1.out).mono ?_
  rintro e w1 ⟨rfl, ⟨nd, rfl⟩⟩
  go_wp2_with (fail)
  have hO1 : OutAt B g mk bad L ((w.drewN nd).alloc (.cells #[.int .i64 n, .int .i64 1] 76)) := (HO.out.drewN nd).alloc _
  have hp : ((w.drewN nd).alloc (.cells #[.int .i64 n, .int .i64 1] 76)).heap[w.heap.size]? = some (.cells (pairsV [(n, 1)]).toArray 76 (0, 0)) := heap_alloc_new (w.drewN nd) _
  have hF : FrO w ((w.drewN nd).alloc (.cells #[.int .i64 n, .int .i64 1] 76)) := ((FrO.refl w).drewN nd).alloc _
  have hBl : Below B w ((w.drewN nd).alloc (.cells #[.int .i64 n, .int .i64 1] 76)) := (pw_below_drewN (Below.refl B w) nd).alloc hB _
  refine (puts_all B g w.heap.size mk bad (oneB n) L ⟨#[]⟩ [(n, 1)] _ hO1 hp (by simp) (by simp) (by decide) hl (Nat.le_trans hB hF.1)).mono ?_
  rintro e w1 ⟨rfl, h2, h3, h4⟩
  have H2 := Aside0.mk h2
  have H3 := Aside0.mk (hF.trans h3)
  have H4 := Aside0.mk (hBl.trans h4)
  clear h2 h3 h4 hO1 hp hF hBl
  go_wp2_with (fail)
  go_end0
  exact ⟨rfl, by simpa [byAll, bys] using H2.out, H3.out, H4.out⟩
theorem Out_Num (B g : Nat) (mk bad : Bool) (L : List Nat) (n : Int) (w : World) (hO : OutAt B g mk bad L w) (hl : L.length ≤ 65536) (hB : B ≤ w.heap.size) :
    Calls Try.prog 23 #[.pointer (some ⟨g, 0, none⟩), .int .i64 n] w fun e w' => e = .returned (.tuple #[]) ∧
      OutAt B g mk (outStep bad L (timeB n) (byN n 6)).1 (outStep bad L (timeB n) (byN n 6)).2 w' ∧ FrO w w' ∧ Below B w w' := by
  have HO := Aside0.mk hO
  have h1 := Aside0.mk (time_f n)
  clear hO
  go_enter Try.func23, Try.ntmps23
  go_wp2_with (fail)
  refine (code_time.calls n _ w h1.out).mono ?_
  rintro e w1 ⟨rfl, ⟨nd, rfl⟩⟩
  go_wp2_with (fail)
  have hO1 : OutAt B g mk bad L ((w.drewN nd).alloc (.cells #[.int .i64 n, .int .i64 6] 76)) := (HO.out.drewN nd).alloc _
  have hp : ((w.drewN nd).alloc (.cells #[.int .i64 n, .int .i64 6] 76)).heap[w.heap.size]? = some (.cells (pairsV [(n, 6)]).toArray 76 (0, 0)) := heap_alloc_new (w.drewN nd) _
  have hF : FrO w ((w.drewN nd).alloc (.cells #[.int .i64 n, .int .i64 6] 76)) := ((FrO.refl w).drewN nd).alloc _
  have hBl : Below B w ((w.drewN nd).alloc (.cells #[.int .i64 n, .int .i64 6] 76)) := (pw_below_drewN (Below.refl B w) nd).alloc hB _
  refine (puts_all B g w.heap.size mk bad (timeB n) L ⟨#[]⟩ [(n, 6)] _ hO1 hp (by simp) (by simp) (by decide) hl (Nat.le_trans hB hF.1)).mono ?_
  rintro e w1 ⟨rfl, h2, h3, h4⟩
  have H2 := Aside0.mk h2
  have H3 := Aside0.mk (hF.trans h3)
  have H4 := Aside0.mk (hBl.trans h4)
  clear h2 h3 h4 hO1 hp hF hBl
  go_wp2_with (fail)
  go_end0
  exact ⟨rfl, by simpa [byAll, bys] using H2.out, H3.out, H4.out⟩
theorem bys_nil : bys ⟨#[]⟩ = [] := rfl
theorem Out_Text (B g : Nat) (mk bad : Bool) (L : List Nat) (s : ByteArray) (w : World) (hO : OutAt B g mk bad L w) (hl : L.length ≤ 65536) (hs : s.size ≤ 140737488351232) (hB : B ≤ w.heap.size) :
    Calls Try.prog 25 #[.pointer (some ⟨g, 0, none⟩), .string s] w fun e w' => e = .returned (.tuple #[]) ∧
      OutAt B g mk (outStep bad L (decide (s.size ≤ 65535)) (byN (s.size : Int) 2 ++ bys s)).1 (outStep bad L (decide (s.size ≤ 65535)) (byN (s.size : Int) 2 ++ bys s)).2 w' ∧ FrO w w' ∧ Below B w w' := by
  have HO := Aside0.mk hO
  clear hO
  have hO1 : OutAt B g mk bad L (w.alloc (.cells #[.int .i64 (s.size : Int), .int .i64 2] 76)) := HO.out.alloc _
  have hp : (w.alloc (.cells #[.int .i64 (s.size : Int), .int .i64 2] 76)).heap[w.heap.size]? = some (.cells (pairsV [((s.size : Int), 2)]).toArray 76 (0, 0)) := heap_alloc_new w _
  have hF : FrO w (w.alloc (.cells #[.int .i64 (s.size : Int), .int .i64 2] 76)) := (FrO.refl w).alloc _
  have hBl : Below B w (w.alloc (.cells #[.int .i64 (s.size : Int), .int .i64 2] 76)) := (Below.refl B w).alloc hB _
  have hde : decide ((s.size : Int) ≤ 65535) = decide (s.size ≤ 65535) := by simp only [decide_eq_decide]; omega
  rw [← hde]
  have HDE := Aside0.mk hde
  have hc := puts_all B g w.heap.size mk bad (decide ((s.size : Int) ≤ 65535)) L s [((s.size : Int), 2)] _ hO1 hp (by simp) (by simp) hs hl (Nat.le_trans hB hF.1)
  rw [List.length_singleton] at hc
  have HC := Aside0.mk hc
  have HF := Aside0.mk hF
  have HL := Aside0.mk hBl
  clear hO1 hp hF hBl hde hc
  go_enter Try.func25, Try.ntmps25
  go_wp2_with (fail)
  with_reducible refine HC.out.mono ?_
  rintro e w1 ⟨rfl, h2, h3, h4⟩
  have H2 := Aside0.mk h2
  have H3 := Aside0.mk (HF.out.trans h3)
  have H4 := Aside0.mk (HL.out.trans h4)
  clear h2 h3 h4
  go_wp2_with (fail)
  go_end0
  exact ⟨rfl, by simpa [byAll] using H2.out, H3.out, H4.out⟩
theorem cellsN_nums (l : List Nat) : cellsN l = nums .u8 (l.map fun (n : Nat) => (n : Int)) := by simp [cellsN, nums]
/-- What was written. -/
theorem Out_Done (B g : Nat) (L : List Nat) (w : World) (hO : OutAt B g true false L w) :
    Calls Try.prog 12 #[.pointer (some ⟨g, 0, none⟩)] w fun e w' => e = .returned (.tuple #[.string (txt L), .int .i64 0]) ∧ w = w' := by
  obtain ⟨hBg, v, hbk, hown⟩ := hO
  obtain ⟨A, c, rfl⟩ := own_slice hown
  have g0 : w.cell? ⟨g, 0, none⟩ = some (.bool true) := by rw [cell_of_row w g _ _ _ _ hbk]; rfl
  have g1 : w.cell? ⟨g, 1, none⟩ = some (.bool false) := by rw [cell_of_row w g _ _ _ _ hbk]; rfl
  have g2 : w.cell? ⟨g, 2, none⟩ = some (.slice A L.length c) := by rw [cell_of_row w g _ _ _ _ hbk]; rfl
  rw [cellsN_nums, ← List.length_map (f := fun (n : Nat) => (n : Int))] at hown
  have hcv := own_string (P := Try.prog) Try.underlying49 Try.underlying5 Try.underlying9 hown
  rw [str_nats, List.length_map] at hcv
  clear hbk hown
  go_enter Try.func12, Try.ntmps12
  go_wp2_with (fail)
  go_ret2
  exact ⟨rfl, rfl⟩
/-- Nothing, where a part may not be. -/
theorem Out_Done_bad (B g : Nat) (mk bad : Bool) (L : List Nat) (w : World) (hO : OutAt B g mk bad L w) (hm : mk = false ∨ bad = true) :
    Calls Try.prog 12 #[.pointer (some ⟨g, 0, none⟩)] w fun e w' => e = .returned (.tuple #[.string ⟨#[]⟩, .int .i64 1]) ∧ w = w' := by
  obtain ⟨hBg, v, hbk, hown⟩ := hO
  have g0 : w.cell? ⟨g, 0, none⟩ = some (.bool mk) := by rw [cell_of_row w g _ _ _ _ hbk]; rfl
  have g1 : w.cell? ⟨g, 1, none⟩ = some (.bool bad) := by rw [cell_of_row w g _ _ _ _ hbk]; rfl
  clear hbk hown
  cases mk with
  | false =>
    go_enter Try.func12, Try.ntmps12
    go_wp2_with (fail)
    go_ret2
    exact ⟨rfl, rfl⟩
  | true =>
    obtain rfl : bad = true := by rcases hm with h | h; cases h; exact h
    go_enter Try.func12, Try.ntmps12
    go_wp2_with (fail)
    go_ret2
    exact ⟨rfl, rfl⟩
theorem Out_Done_nil (w : World) :
    Calls Try.prog 12 #[.pointer none] w fun e w' => e = .returned (.tuple #[.string ⟨#[]⟩, .int .i64 1]) ∧ w = w' := by
  go_enter Try.func12, Try.ntmps12
  go_wp2_with (fail)
  go_ret2
  exact ⟨rfl, rfl⟩
theorem NewOut_calls (B : Nat) (w : World) (hB : B ≤ w.heap.size) :
    Calls Try.prog 8 #[] w fun e w' => e = .returned (.pointer (some ⟨w.heap.size, 0, none⟩)) ∧ OutAt B w.heap.size true false [] w' ∧ Below w.heap.size w w' := by
  go_enter Try.func8, Try.ntmps8
  go_wp2_with (fail)
  go_ret
  exact ⟨rfl, ⟨hB, _, heap_alloc_new w _, own_nil _ _ _ _⟩, below_alloc (Below.refl _ _) _⟩
section
open Go.RowKit Go.Deep Go.Proofs.YtpeliaknceigdaaW.PrintWords Go.Proofs.YtpeliaknceigdaaW.PrintLast Go.Proofs.YtpeliaknceigdaaW.PrintMore
set_option maxHeartbeats 1000000
set_option linter.unusedVariables false
set_option linter.unusedSimpArgs false
attribute [local go_sem ↓] Go.wp_at_zero Go.wp_at_succ
theorem pair_two (n k : Int) : (pairsV [(n, 6), (k, 1)]).toArray = #[.int .i64 n, .int .i64 6, .int .i64 k, .int .i64 1] := rfl
theorem below_allocB {B : Nat} {w W : World} (hB : B ≤ w.heap.size) (h : Below B w W) (o : Obj) : Below B w (W.alloc o) := h.alloc (Nat.le_trans hB h.size) o
theorem new_at {W : World} {k : Nat} (h : W.heap.size = k) (o : Obj) : (W.alloc o).heap[k]? = some o := by subst h; exact heap_alloc_new W o
theorem OutAt.drew {B g : Nat} {mk bad : Bool} {L : List Nat} {w : World} (h : OutAt B g mk bad L w) : OutAt B g mk bad L w.drew := h.below (below_drew (Below.refl _ _))
theorem FrO.drew {w w1 : World} (h : FrO w w1) : FrO w w1.drew := h
theorem stamp_c0 {W : World} {b : Nat} {n k : Int} (h : W.heap[b]? = some (.cells #[.int .i64 n, .int .i64 k] 40 (0, 0))) : W.cell? ⟨b, 0, none⟩ = some (.int .i64 n) := by rw [cell_of_row _ _ _ _ _ _ h]; rfl
theorem stamp_c1 {W : World} {b : Nat} {n k : Int} (h : W.heap[b]? = some (.cells #[.int .i64 n, .int .i64 k] 40 (0, 0))) : W.cell? ⟨b, 1, none⟩ = some (.int .i64 k) := by rw [cell_of_row _ _ _ _ _ _ h]; rfl
/-- puts, at any world behind the stamp's box. -/
theorem stamp_puts (B g : Nat) (mk bad ok : Bool) (L : List Nat) (n k : Int) (w W : World) (hl : L.length ≤ 65536) (hB : B ≤ w.heap.size) (hO : OutAt B g mk bad L W) (hF : FrO w W) (hBl : Below B w W)
    (hp : W.heap[w.heap.size + 1]? = some (.cells #[.int .i64 n, .int .i64 6, .int .i64 k, .int .i64 1] 76 (0, 0))) (hs : W.heap[w.heap.size]? = some (.cells #[.int .i64 n, .int .i64 k] 40 (0, 0))) :
    Calls Try.prog 38 #[.pointer (some ⟨g, 0, none⟩), .bool ok, .string ⟨#[]⟩, .slice (some ⟨w.heap.size + 1, 0, none⟩) 2 2] W fun e w' => e = .returned (.tuple #[]) ∧
      Aside0 (OutAt B g mk (outStep bad L ok (byN n 6 ++ byN k 1)).1 (outStep bad L ok (byN n 6 ++ byN k 1)).2 w') ∧ Aside0 (FrO w w') ∧ Aside0 (Below B w w') ∧ w'.cell? ⟨w.heap.size, 0, none⟩ = some (.int .i64 n) ∧ w'.cell? ⟨w.heap.size, 1, none⟩ = some (.int .i64 k) := by
  have h := puts_all B g (w.heap.size + 1) mk bad ok L ⟨#[]⟩ [(n, 6), (k, 1)] W hO hp (by simp) (by simp) (by decide) hl (Nat.le_trans hB hF.1)
  refine h.mono ?_
  rintro e w' ⟨rfl, h1, h2, h3⟩
  have hs' := h2.blk hs (by decide) (by decide)
  refine ⟨rfl, ⟨?_⟩, ⟨hF.trans h2⟩, ⟨hBl.trans h3⟩, ?_, ?_⟩
  · simpa [byAll, bys] using h1
  · rw [cell_of_row _ _ _ _ _ _ hs']; rfl
  · rw [cell_of_row _ _ _ _ _ _ hs']; rfl
set_option maxRecDepth 100000 in
theorem Out_Stamp (B g : Nat) (mk bad : Bool) (L : List Nat) (n k : Int) (w : World) (hO : OutAt B g mk bad L w) (hl : L.length ≤ 65536) (hB : B ≤ w.heap.size) :
    Calls Try.prog 24 #[.pointer (some ⟨g, 0, none⟩), .agg #[.int .i64 n, .int .i64 k]] w fun e w' => e = .returned (.tuple #[]) ∧
      OutAt B g mk (outStep bad L (timeB n && oneB k) (byN n 6 ++ byN k 1)).1 (outStep bad L (timeB n && oneB k) (byN n 6 ++ byN k 1)).2 w' ∧ FrO w w' ∧ Below B w w' := by
  have HO := Aside0.mk hO
  have h1 := Aside0.mk (time_f n)
  have h2 := Aside0.mk (one_f k)
  clear hO
  cases hT : timeB n with
  | true =>
    rw [hT] at h1
    clear hT
    go_enter Try.func24, Try.ntmps24
    go_wp2_with (fail)
    have HO1 := Aside0.mk (HO.out.alloc (.cells #[.int .i64 n, .int .i64 k] 40))
    have HF1 := Aside0.mk ((FrO.refl w).alloc (.cells #[.int .i64 n, .int .i64 k] 40))
    have HB1 := Aside0.mk ((Below.refl B w).alloc hB (.cells #[.int .i64 n, .int .i64 k] 40))
    have hB1 : B ≤ (w.alloc (.cells #[.int .i64 n, .int .i64 k] 40)).heap.size := by simp; omega
    have s0 : (w.alloc (.cells #[.int .i64 n, .int .i64 k] 40)).cell? ⟨w.heap.size, 0, none⟩ = some (.int .i64 n) := by rw [cell_of_row _ _ _ _ _ _ (heap_alloc_new w _)]; rfl
    have s1 : (w.alloc (.cells #[.int .i64 n, .int .i64 k] 40)).cell? ⟨w.heap.size, 1, none⟩ = some (.int .i64 k) := by rw [cell_of_row _ _ _ _ _ _ (heap_alloc_new w _)]; rfl
    go_region_held3 (fun w' => w'.cell? ⟨w.heap.size, 0, none⟩ = some (.int .i64 n) ∧ w'.cell? ⟨w.heap.size, 1, none⟩ = some (.int .i64 k))
      (first | go_keep | exact ⟨c0, c1⟩)
      (first
        | (go_at_call 31; (with_reducible refine (code_time.calls n _ _ h1.out).mono ?_); rintro e w1 ⟨rfl, ⟨nd, rfl⟩⟩)
        | (go_at_call 39; (with_reducible refine (code_one.calls k _ _ h2.out).mono ?_); rintro e w1 ⟨rfl, ⟨nd, rfl⟩⟩)
        | (go_at_call 38; (with_reducible refine (stamp_puts B g mk bad _ L n k w _ hl hB (by repeat (first | exact HO1.out | apply OutAt.alloc | apply OutAt.drewN)) (by repeat (first | exact HF1.out | apply FrO.alloc | apply FrO.drewN)) (by repeat (first | exact HB1.out | apply below_allocB hB | apply pw_below_drewN)) (by repeat (first | exact new_at (by simp) _ | refine blk_drewN ?_ _ | refine blk_alloc ?_ _)) (by repeat (first | exact heap_alloc_new w _ | refine blk_drewN ?_ _ | refine blk_alloc ?_ _))).mono ?_); rintro e w1 ⟨rfl, H2, H3, H4, c0, c1⟩))
    all_goals
      go_wp2_with (fail)
      go_end0
      exact ⟨rfl, H2.out, H3.out, H4.out⟩
  | false =>
    rw [hT] at h1
    clear hT
    go_enter Try.func24, Try.ntmps24
    go_wp2_with (fail)
    have HO1 := Aside0.mk (HO.out.alloc (.cells #[.int .i64 n, .int .i64 k] 40))
    have HF1 := Aside0.mk ((FrO.refl w).alloc (.cells #[.int .i64 n, .int .i64 k] 40))
    have HB1 := Aside0.mk ((Below.refl B w).alloc hB (.cells #[.int .i64 n, .int .i64 k] 40))
    have hB1 : B ≤ (w.alloc (.cells #[.int .i64 n, .int .i64 k] 40)).heap.size := by simp; omega
    refine start_ (n := 17) (S := fun w' => w'.cell? ⟨w.heap.size, 0, none⟩ = some (.int .i64 n) ∧ w'.cell? ⟨w.heap.size, 1, none⟩ = some (.int .i64 k)) (ds := []) #[false, false, false, false, false, false, false, false, false, false, false, false, false, false, false, false, false] (by kernel_rfl) rfl rfl ⟨(stamp_c0 (by repeat (first | exact heap_alloc_new w _ | refine blk_drewN ?_ _ | refine blk_drew ?_ | refine blk_alloc ?_ _))), (stamp_c1 (by repeat (first | exact heap_alloc_new w _ | refine blk_drewN ?_ _ | refine blk_drew ?_ | refine blk_alloc ?_ _)))⟩ (fun hHeld => ?_)
    refine pure_ (i := 0) (N := some 4) (v := ?_) (a' := ?_) #[true, false, false, false, false, false, false, false, false, false, false, false, false, false, false, false, false] rfl rfl (by kernel_rfl) (fun _ _ _ h => h) (Or.inl ⟨by rfl, ?_⟩) ?_ ?_
    rotate_left
    · intro w'
      go_simp
      with_reducible rfl
    rotate_left
    · simp only [Act.put, List.setIfInBounds_toArray, List.set_cons_zero, List.set_cons_succ, i64_w, i32_w]
      rfl
    refine pure_ (i := 1) (N := some 5) (v := ?_) (a' := ?_) #[true, true, false, false, false, false, false, false, false, false, false, false, false, false, false, false, false] rfl rfl (by kernel_rfl) (fun _ _ _ h => h) (Or.inl ⟨by rfl, ?_⟩) ?_ ?_
    rotate_left
    · intro w'
      go_simp
      with_reducible rfl
    rotate_left
    · simp only [Act.put, List.setIfInBounds_toArray, List.set_cons_zero, List.set_cons_succ, i64_w, i32_w]
      rfl
    refine pure_ (i := 9) (N := some 13) (v := ?_) (a' := ?_) #[true, true, false, false, false, false, false, false, false, true, false, false, false, false, false, false, false] rfl rfl (by kernel_rfl) (fun _ _ _ h => h) (Or.inl ⟨by rfl, ?_⟩) ?_ ?_
    rotate_left
    · intro w'
      go_simp
      with_reducible rfl
    rotate_left
    · simp only [Act.put, List.setIfInBounds_toArray, List.set_cons_zero, List.set_cons_succ, i64_w, i32_w]
      rfl
    refine pure_ (i := 12) (N := some 16) (v := ?_) (a' := ?_) #[true, true, false, false, false, false, false, false, false, true, false, false, true, false, false, false, false] rfl rfl (by kernel_rfl) (fun _ _ _ h => h) (Or.inl ⟨by rfl, ?_⟩) ?_ ?_
    rotate_left
    · intro w'
      go_simp
      with_reducible rfl
    rotate_left
    · simp only [Act.put, List.setIfInBounds_toArray, List.set_cons_zero, List.set_cons_succ, i64_w, i32_w]
      rfl
    refine take_ (i := 2) (N := some 6) (v := ?_) (a' := ?_) #[true, true, true, false, false, false, false, false, false, true, false, false, true, false, false, false, false] rfl rfl (by kernel_rfl) (fun _ _ _ h => h) (Or.inl ⟨by rfl, ?_⟩) hHeld ?_ ?_
    rotate_left
    · rintro w' ⟨s0, s1⟩
      go_simp
      with_reducible rfl
    rotate_left
    · simp only [Act.put, List.setIfInBounds_toArray, List.set_cons_zero, List.set_cons_succ, i64_w, i32_w]
      rfl
    refine take_ (i := 10) (N := some 14) (v := ?_) (a' := ?_) #[true, true, true, false, false, false, false, false, false, true, true, false, true, false, false, false, false] rfl rfl (by kernel_rfl) (fun _ _ _ h => h) (Or.inl ⟨by rfl, ?_⟩) hHeld ?_ ?_
    rotate_left
    · rintro w' ⟨s0, s1⟩
      go_simp
      with_reducible rfl
    rotate_left
    · simp only [Act.put, List.setIfInBounds_toArray, List.set_cons_zero, List.set_cons_succ, i64_w, i32_w]
      rfl
    refine pure_ (i := 11) (N := some 15) (v := ?_) (a' := ?_) #[true, true, true, false, false, false, false, false, false, true, true, true, true, false, false, false, false] rfl rfl (by kernel_rfl) (fun _ _ _ h => h) (Or.inl ⟨by rfl, ?_⟩) ?_ ?_
    rotate_left
    · intro w'
      go_simp
      with_reducible rfl
    rotate_left
    · simp only [Act.put, List.setIfInBounds_toArray, List.set_cons_zero, List.set_cons_succ, i64_w, i32_w]
      rfl
    refine take_ (i := 13) (N := some 17) (v := ?_) (a' := ?_) #[true, true, true, false, false, false, false, false, false, true, true, true, true, true, false, false, false] rfl rfl (by kernel_rfl) (fun _ _ _ h => h) (Or.inl ⟨by rfl, ?_⟩) hHeld ?_ ?_
    rotate_left
    · rintro w' ⟨s0, s1⟩
      go_simp
      with_reducible rfl
    rotate_left
    · simp only [Act.put, List.setIfInBounds_toArray, List.set_cons_zero, List.set_cons_succ, i64_w, i32_w]
      rfl
    refine pure_ (i := 14) (N := some 18) (v := ?_) (a' := ?_) #[true, true, true, false, false, false, false, false, false, true, true, true, true, true, true, false, false] rfl rfl (by kernel_rfl) (fun _ _ _ h => h) (Or.inl ⟨by rfl, ?_⟩) ?_ ?_
    rotate_left
    · intro w'
      go_simp
      with_reducible rfl
    rotate_left
    · simp only [Act.put, List.setIfInBounds_toArray, List.set_cons_zero, List.set_cons_succ, i64_w, i32_w]
      rfl
    refine join_ (σ := Unit) 1 #[true, true, true, true, true, true, true, true, true, true, true, true, true, true, true, true, false] (fun _ => [(7, .bool false), (8, .bool false), (9, undef), (10, undef), (11, undef), (12, .bool false), (19, .slice (some ⟨w.heap.size + 1, 0, none⟩) 2 2)]) (fun _ w' => OutAt B g mk bad L w' ∧ FrO w w' ∧ Below B w w' ∧ w'.heap[w.heap.size + 1]? = some (.cells #[.int .i64 n, .int .i64 6, .int .i64 k, .int .i64 1] 76 (0, 0)) ∧ w'.heap[w.heap.size]? = some (.cells #[.int .i64 n, .int .i64 k] 40 (0, 0))) ?_ ?_
    rotate_left
    · intro hCont
      refine two_ (i := 3) (j := 15) (Ni := some 7) (Nj := some 19) #[true, true, true, true, false, false, false, false, false, true, true, true, true, true, true, false, false] #[true, true, true, false, false, false, false, false, false, true, true, true, true, true, true, true, false] rfl rfl rfl rfl (by kernel_rfl) (by decide) (by decide) (fun K hK => ?_) (fun K hK => ?_)
      · skip
        refine goes_ Try.func31 (by kernel_rfl) rfl #[.int .i64 n] (by rfl) rfl rfl (by simp only [List.map_toArray, List.map_cons, List.map_nil]; rfl) ?_
        with_reducible refine (code_time.calls n _ _ h1.out).mono ?_
        rintro e w3 ⟨rfl, ⟨nd, rfl⟩⟩
        refine ⟨_, rfl, ?_⟩
        refine hK.out _ _ ⟨(show _ from (stamp_c0 (by repeat (first | exact heap_alloc_new w _ | refine blk_drewN ?_ _ | refine blk_drew ?_ | refine blk_alloc ?_ _)))), (show _ from (stamp_c1 (by repeat (first | exact heap_alloc_new w _ | refine blk_drewN ?_ _ | refine blk_drew ?_ | refine blk_alloc ?_ _))))⟩ (fun hHeld => ?_)
        clear hK K
        refine norm_ (a' := ?_) ?_ ?_
        rotate_left
        · show Act.put _ (some 7) _ = _
          simp only [Act.put, List.setIfInBounds_toArray, List.set_cons_zero, List.set_cons_succ, i64_w, i32_w]
          rfl
        refine pure_ (i := 4) (N := some 8) (v := ?_) (a' := ?_) #[true, true, true, true, true, false, false, false, false, true, true, true, true, true, true, false, false] rfl rfl (by kernel_rfl) (fun _ _ _ h => h) (Or.inl ⟨by rfl, ?_⟩) ?_ ?_
        rotate_left
        · intro w'
          go_simp
          with_reducible rfl
        rotate_left
        · simp only [Act.put, List.setIfInBounds_toArray, List.set_cons_zero, List.set_cons_succ, i64_w, i32_w]
          rfl
        refine pure_ (i := 5) (N := some 9) (v := undef) (a' := ?_) #[true, true, true, true, true, true, false, false, false, true, true, true, true, true, true, false, false] rfl rfl (by kernel_rfl) (fun _ _ _ h => h) (Or.inr ⟨by rfl, rfl⟩) ?_ ?_
        rotate_left
        · simp only [Act.put, List.setIfInBounds_toArray, List.set_cons_zero, List.set_cons_succ, i64_w, i32_w]
          rfl
        refine pure_ (i := 6) (N := some 10) (v := undef) (a' := ?_) #[true, true, true, true, true, true, true, false, false, true, true, true, true, true, true, false, false] rfl rfl (by kernel_rfl) (fun _ _ _ h => h) (Or.inr ⟨by rfl, rfl⟩) ?_ ?_
        rotate_left
        · simp only [Act.put, List.setIfInBounds_toArray, List.set_cons_zero, List.set_cons_succ, i64_w, i32_w]
          rfl
        refine pure_ (i := 7) (N := some 11) (v := undef) (a' := ?_) #[true, true, true, true, true, true, true, true, false, true, true, true, true, true, true, false, false] rfl rfl (by kernel_rfl) (fun _ _ _ h => h) (Or.inr ⟨by rfl, rfl⟩) ?_ ?_
        rotate_left
        · simp only [Act.put, List.setIfInBounds_toArray, List.set_cons_zero, List.set_cons_succ, i64_w, i32_w]
          rfl
        refine pure_ (i := 8) (N := some 12) (v := ?_) (a' := ?_) #[true, true, true, true, true, true, true, true, true, true, true, true, true, true, true, false, false] rfl rfl (by kernel_rfl) (fun _ _ _ h => h) (Or.inl ⟨by rfl, ?_⟩) ?_ ?_
        rotate_left
        · intro w'
          go_simp
          with_reducible rfl
        rotate_left
        · simp only [Act.put, List.setIfInBounds_toArray, List.set_cons_zero, List.set_cons_succ, i64_w, i32_w]
          rfl
        refine one_ (i := 15) (N := some 19) #[true, true, true, true, true, true, true, true, true, true, true, true, true, true, true, true, false] rfl rfl (by kernel_rfl) (by decide) (fun K hK => ?_)
        refine value_ (w1 := ?_) (v := ?_) (by rfl) rfl ?_ ?_
        rotate_left 2
        · go_simp
          constructor
          · rfl
          · rfl
        refine hK.out _ _ ⟨(stamp_c0 (by repeat (first | exact heap_alloc_new w _ | refine blk_drewN ?_ _ | refine blk_drew ?_ | refine blk_alloc ?_ _))), (stamp_c1 (by repeat (first | exact heap_alloc_new w _ | refine blk_drewN ?_ _ | refine blk_drew ?_ | refine blk_alloc ?_ _)))⟩ (fun hHeld => ?_)
        clear hK K
        refine norm_ (a' := ?_) ?_ ?_
        rotate_left
        · show Act.put _ (some 19) _ = _
          simp only [Act.put, List.setIfInBounds_toArray, List.set_cons_zero, List.set_cons_succ, i64_w, i32_w]
          rfl
        exact norm_ (by simp only [putAll, Act.put, List.setIfInBounds_toArray, List.set_cons_zero, List.set_cons_succ]) (hCont () _ ⟨(by repeat (first | exact HO1.out | apply OutAt.alloc | apply OutAt.drewN | apply OutAt.drew)), (by repeat (first | exact HF1.out | apply FrO.alloc | apply FrO.drewN | apply FrO.drew)), (by repeat (first | exact HB1.out | apply below_allocB hB | apply pw_below_drewN | apply below_drew)), (by repeat (first | exact new_at (by simp) _ | refine blk_drewN ?_ _ | refine blk_drew ?_ | refine blk_alloc ?_ _)), (by repeat (first | exact heap_alloc_new w _ | refine blk_drewN ?_ _ | refine blk_drew ?_ | refine blk_alloc ?_ _))⟩)
      · skip
        refine value_ (w1 := ?_) (v := ?_) (by rfl) rfl ?_ ?_
        rotate_left 2
        · go_simp
          constructor
          · rfl
          · rfl
        refine hK.out _ _ ⟨(stamp_c0 (by repeat (first | exact heap_alloc_new w _ | refine blk_drewN ?_ _ | refine blk_drew ?_ | refine blk_alloc ?_ _))), (stamp_c1 (by repeat (first | exact heap_alloc_new w _ | refine blk_drewN ?_ _ | refine blk_drew ?_ | refine blk_alloc ?_ _)))⟩ (fun hHeld => ?_)
        clear hK K
        refine norm_ (a' := ?_) ?_ ?_
        rotate_left
        · show Act.put _ (some 19) _ = _
          simp only [Act.put, List.setIfInBounds_toArray, List.set_cons_zero, List.set_cons_succ, i64_w, i32_w]
          rfl
        refine one_ (i := 3) (N := some 7) #[true, true, true, true, false, false, false, false, false, true, true, true, true, true, true, true, false] rfl rfl (by kernel_rfl) (by decide) (fun K hK => ?_)
        refine goes_ Try.func31 (by kernel_rfl) rfl #[.int .i64 n] (by rfl) rfl rfl (by simp only [List.map_toArray, List.map_cons, List.map_nil]; rfl) ?_
        with_reducible refine (code_time.calls n _ _ h1.out).mono ?_
        rintro e w3 ⟨rfl, ⟨nd, rfl⟩⟩
        refine ⟨_, rfl, ?_⟩
        refine hK.out _ _ ⟨(show _ from (stamp_c0 (by repeat (first | exact heap_alloc_new w _ | refine blk_drewN ?_ _ | refine blk_drew ?_ | refine blk_alloc ?_ _)))), (show _ from (stamp_c1 (by repeat (first | exact heap_alloc_new w _ | refine blk_drewN ?_ _ | refine blk_drew ?_ | refine blk_alloc ?_ _))))⟩ (fun hHeld => ?_)
        clear hK K
        refine norm_ (a' := ?_) ?_ ?_
        rotate_left
        · show Act.put _ (some 7) _ = _
          simp only [Act.put, List.setIfInBounds_toArray, List.set_cons_zero, List.set_cons_succ, i64_w, i32_w]
          rfl
        refine pure_ (i := 4) (N := some 8) (v := ?_) (a' := ?_) #[true, true, true, true, true, false, false, false, false, true, true, true, true, true, true, true, false] rfl rfl (by kernel_rfl) (fun _ _ _ h => h) (Or.inl ⟨by rfl, ?_⟩) ?_ ?_
        rotate_left
        · intro w'
          go_simp
          with_reducible rfl
        rotate_left
        · simp only [Act.put, List.setIfInBounds_toArray, List.set_cons_zero, List.set_cons_succ, i64_w, i32_w]
          rfl
        refine pure_ (i := 5) (N := some 9) (v := undef) (a' := ?_) #[true, true, true, true, true, true, false, false, false, true, true, true, true, true, true, true, false] rfl rfl (by kernel_rfl) (fun _ _ _ h => h) (Or.inr ⟨by rfl, rfl⟩) ?_ ?_
        rotate_left
        · simp only [Act.put, List.setIfInBounds_toArray, List.set_cons_zero, List.set_cons_succ, i64_w, i32_w]
          rfl
        refine pure_ (i := 6) (N := some 10) (v := undef) (a' := ?_) #[true, true, true, true, true, true, true, false, false, true, true, true, true, true, true, true, false] rfl rfl (by kernel_rfl) (fun _ _ _ h => h) (Or.inr ⟨by rfl, rfl⟩) ?_ ?_
        rotate_left
        · simp only [Act.put, List.setIfInBounds_toArray, List.set_cons_zero, List.set_cons_succ, i64_w, i32_w]
          rfl
        refine pure_ (i := 7) (N := some 11) (v := undef) (a' := ?_) #[true, true, true, true, true, true, true, true, false, true, true, true, true, true, true, true, false] rfl rfl (by kernel_rfl) (fun _ _ _ h => h) (Or.inr ⟨by rfl, rfl⟩) ?_ ?_
        rotate_left
        · simp only [Act.put, List.setIfInBounds_toArray, List.set_cons_zero, List.set_cons_succ, i64_w, i32_w]
          rfl
        refine pure_ (i := 8) (N := some 12) (v := ?_) (a' := ?_) #[true, true, true, true, true, true, true, true, true, true, true, true, true, true, true, true, false] rfl rfl (by kernel_rfl) (fun _ _ _ h => h) (Or.inl ⟨by rfl, ?_⟩) ?_ ?_
        rotate_left
        · intro w'
          go_simp
          with_reducible rfl
        rotate_left
        · simp only [Act.put, List.setIfInBounds_toArray, List.set_cons_zero, List.set_cons_succ, i64_w, i32_w]
          rfl
        exact norm_ (by simp only [putAll, Act.put, List.setIfInBounds_toArray, List.set_cons_zero, List.set_cons_succ]) (hCont () _ ⟨(by repeat (first | exact HO1.out | apply OutAt.alloc | apply OutAt.drewN | apply OutAt.drew)), (by repeat (first | exact HF1.out | apply FrO.alloc | apply FrO.drewN | apply FrO.drew)), (by repeat (first | exact HB1.out | apply below_allocB hB | apply pw_below_drewN | apply below_drew)), (by repeat (first | exact new_at (by simp) _ | refine blk_drewN ?_ _ | refine blk_drew ?_ | refine blk_alloc ?_ _)), (by repeat (first | exact heap_alloc_new w _ | refine blk_drewN ?_ _ | refine blk_drew ?_ | refine blk_alloc ?_ _))⟩)
    rintro s w5 ⟨q1, q2, q3, q4, q5⟩
    have hHeld := And.intro (stamp_c0 q5) (stamp_c1 q5)
    refine norm_ (a' := ?_) ?_ ?_
    rotate_left
    · simp only [putAll, Act.put, List.setIfInBounds_toArray, List.set_cons_zero, List.set_cons_succ]
      rfl
    refine one_ (i := 16) (N := some 20) #[true, true, true, true, true, true, true, true, true, true, true, true, true, true, true, true, true] rfl rfl (by kernel_rfl) (by decide) (fun K hK => ?_)
    refine goes_ Try.func38 (by kernel_rfl) rfl #[.pointer (some ⟨g, 0, none⟩), .bool false, .string ⟨#[]⟩, .slice (some ⟨w.heap.size + 1, 0, none⟩) 2 2] (by rfl) rfl rfl (by simp only [List.map_toArray, List.map_cons, List.map_nil]; rfl) ?_
    with_reducible refine (stamp_puts B g mk bad false L n k w _ hl hB q1 q2 q3 q4 q5).mono ?_
    rintro e w6 ⟨rfl, H2, H3, H4, c0, c1⟩
    refine ⟨_, rfl, ?_⟩
    refine hK.out _ _ ⟨c0, c1⟩ (fun hHeld => ?_)
    clear hK K
    refine norm_ (a' := ?_) ?_ ?_
    rotate_left
    · show Act.put _ (some 20) _ = _
      simp only [Act.put, List.setIfInBounds_toArray, List.set_cons_zero, List.set_cons_succ, i64_w, i32_w]
      rfl
    refine done_ (by kernel_rfl) ?_
    go_wp2_with (fail)
    go_end0
    exact ⟨rfl, H2.out, H3.out, H4.out⟩
theorem Out_Byte_nil (n : Int) (w : World) : Calls Try.prog 22 #[.pointer none, .int .i64 n] w fun e w' => e = .returned (.tuple #[]) ∧ Below w.heap.size w w' := by
  have h1 := Aside0.mk (one_f n)
  go_enter Try.func22, Try.ntmps22
  go_wp2_with (fail)
  refine (code_one.calls n _ w h1.out).mono ?_
  rintro e w1 ⟨rfl, ⟨nd, rfl⟩⟩
  go_wp2_with (go_at_call 38; refine (puts_nil _ _ _ _).mono ?_; rintro e w1 ⟨rfl, rfl⟩)
  go_end0
  exact ⟨rfl, below_alloc (pw_below_drewN (Below.refl _ _) _) _⟩
theorem Out_Num_nil (n : Int) (w : World) : Calls Try.prog 23 #[.pointer none, .int .i64 n] w fun e w' => e = .returned (.tuple #[]) ∧ Below w.heap.size w w' := by
  have h1 := Aside0.mk (time_f n)
  go_enter Try.func23, Try.ntmps23
  go_wp2_with (fail)
  refine (code_time.calls n _ w h1.out).mono ?_
  rintro e w1 ⟨rfl, ⟨nd, rfl⟩⟩
  go_wp2_with (go_at_call 38; refine (puts_nil _ _ _ _).mono ?_; rintro e w1 ⟨rfl, rfl⟩)
  go_end0
  exact ⟨rfl, below_alloc (pw_below_drewN (Below.refl _ _) _) _⟩
theorem Out_Text_nil (s : ByteArray) (w : World) : Calls Try.prog 25 #[.pointer none, .string s] w fun e w' => e = .returned (.tuple #[]) ∧ Below w.heap.size w w' := by
  go_enter Try.func25, Try.ntmps25
  go_wp2_with (go_at_call 38; refine (puts_nil _ _ _ _).mono ?_; rintro e w1 ⟨rfl, rfl⟩)
  go_end0
  exact ⟨rfl, below_alloc (Below.refl _ _) _⟩
end
end Go.Proofs.Ytpeliaknceigdaa.Pr

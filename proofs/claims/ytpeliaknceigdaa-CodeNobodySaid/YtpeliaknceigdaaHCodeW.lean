/- samphirelaw09's writes: a part on both sides. -/
import Derived.Test.YtpeliaknceigdaaHCodeP
import Derived.Test.YtpeliaknceigdaaHCodeB
import Derived.Test.YtpeliaknceigdaaPrxf26
import Derived.Test.YtpeliaknceigdaaPrxf27
import Derived.Test.YtpeliaknceigdaaPrxf28
import Derived.Test.YtpeliaknceigdaaPrxf29
import Derived.Test.YtpeliaknceigdaaPrxf14
import Derived.Test.YtpeliaknceigdaaPrxf16
import Derived.Test.YtpeliaknceigdaaPrxf18
import Derived.Test.YtpeliaknceigdaaPrxf20
namespace Go.Proofs.Ytpeliaknceigdaa.Pr
open Go.RowKit Go.Deep Go.Proofs.YtpeliaknceigdaaW.PrintWords Go.Proofs.YtpeliaknceigdaaW.PrintLast Go.Proofs.YtpeliaknceigdaaW.PrintMore
set_option maxHeartbeats 2000000
set_option linter.unusedVariables false
set_option linter.unusedSimpArgs false
/-- A part: may it be, and its bytes. -/
def partOk (kind n m : Int) (s : ByteArray) : Bool := if kind = 1 then oneB n else if kind = 2 then timeB n else if kind = 3 then (timeB n && oneB m) else decide (s.size ≤ 65535)
def partBy (kind n m : Int) (s : ByteArray) : List Nat := if kind = 1 then byN n 1 else if kind = 2 then byN n 6 else if kind = 3 then byN n 6 ++ byN m 1 else byN (s.size : Int) 2 ++ bys s
def WritesPost (B g : Nat) (mk bad : Bool) (L : List Nat) (S : ByteArray) (b : Bool) (kind n m : Int) (s : ByteArray) (w : World) (e : Ending) (w' : World) : Prop :=
  e = .returned (.agg #[.string (refStep S b (partOk kind n m s) (partBy kind n m s)).1, .bool (refStep S b (partOk kind n m s) (partBy kind n m s)).2]) ∧
    OutAt B g mk (outStep bad L (partOk kind n m s) (partBy kind n m s)).1 (outStep bad L (partOk kind n m s) (partBy kind n m s)).2 w' ∧ FrO w w' ∧ Below B w w'
set_option maxRecDepth 100000 in
theorem writes_1 (B g : Nat) (mk bad : Bool) (L : List Nat) (S : ByteArray) (b : Bool) (n m : Int) (s : ByteArray) (w : World) (hO : OutAt B g mk bad L w) (hl : L.length ≤ 65536) (hS : S.size ≤ 1000000000000000) (hs : s.size ≤ 1000000000) (hB : B ≤ w.heap.size) :
    Calls Try.prog 11 #[.pointer (some ⟨g, 0, none⟩), .agg #[.string S, .bool b], .agg #[.int .i64 1, .int .i64 n, .int .i64 m, .string s]] w (WritesPost B g mk bad L S b 1 n m s w) := by
  have HO1 := Aside0.mk (((hO.alloc (.cells #[.string S, .bool b] 28)).alloc (.cells #[.int .i64 1, .int .i64 n, .int .i64 m, .string s] 31)).alloc (.cells #[.string (⟨#[]⟩ : ByteArray), .bool false] 28))
  have HF1 := Aside0.mk ((((FrO.refl w).alloc (.cells #[.string S, .bool b] 28)).alloc (.cells #[.int .i64 1, .int .i64 n, .int .i64 m, .string s] 31)).alloc (.cells #[.string (⟨#[]⟩ : ByteArray), .bool false] 28))
  have HB1 := Aside0.mk (below_allocB hB (below_allocB hB (below_allocB hB (Below.refl B w) (.cells #[.string S, .bool b] 28)) (.cells #[.int .i64 1, .int .i64 n, .int .i64 m, .string s] 31)) (.cells #[.string (⟨#[]⟩ : ByteArray), .bool false] 28))
  have K0 : Aside0 ((((w.alloc (.cells #[.string S, .bool b] 28)).alloc (.cells #[.int .i64 1, .int .i64 n, .int .i64 m, .string s] 31)).alloc (.cells #[.string (⟨#[]⟩ : ByteArray), .bool false] 28)).heap[w.heap.size]? = some (.cells #[.string S, .bool b] 28 (0, 0))) := ⟨blk_alloc (blk_alloc (heap_alloc_new w _) _) _⟩
  have K1 : Aside0 ((((w.alloc (.cells #[.string S, .bool b] 28)).alloc (.cells #[.int .i64 1, .int .i64 n, .int .i64 m, .string s] 31)).alloc (.cells #[.string (⟨#[]⟩ : ByteArray), .bool false] 28)).heap[w.heap.size + 1]? = some (.cells #[.int .i64 1, .int .i64 n, .int .i64 m, .string s] 31 (0, 0))) := ⟨blk_alloc (new_at (by simp) _) _⟩
  have K2 : Aside0 ((((w.alloc (.cells #[.string S, .bool b] 28)).alloc (.cells #[.int .i64 1, .int .i64 n, .int .i64 m, .string s] 31)).alloc (.cells #[.string (⟨#[]⟩ : ByteArray), .bool false] 28)).heap[w.heap.size + 1 + 1]? = some (.cells #[.string (⟨#[]⟩ : ByteArray), .bool false] 28 (0, 0))) := ⟨new_at (by simp) _⟩
  have hR := ref_Byte S b n hS
  have e1 : partOk 1 n m s = oneB n := if_pos rfl
  have e2 : partBy 1 n m s = byN n 1 := if_pos rfl
  unfold WritesPost
  rw [e1, e2]
  rcases hr : refStep S b (oneB n) (byN n 1) with ⟨r0, r1⟩
  rw [hr] at hR
  have HR := Aside0.mk hR
  clear hO e1 e2 hr hR
  go_enter Try.func11, Try.ntmps11
  go_wp2_with (fail)
  generalize ((w.alloc (.cells #[.string S, .bool b] 28)).alloc (.cells #[.int .i64 1, .int .i64 n, .int .i64 m, .string s] 31)).alloc (.cells #[.string (⟨#[]⟩ : ByteArray), .bool false] 28) = W at HO1 HF1 HB1 K0 K1 K2 ⊢
  refine (Out_Byte B g mk bad L n W HO1.out hl (Nat.le_trans hB HF1.out.1)).mono ?_
  rintro e w1 ⟨rfl, h2, h3, h4⟩
  have HO2 := Aside0.mk h2
  have HF2 := Aside0.mk (HF1.out.trans h3)
  have HB2 := Aside0.mk (HB1.out.trans h4)
  have J0 := Aside0.mk (h3.blk K0.out (by decide) (by decide))
  have J1 := Aside0.mk (h3.blk K1.out (by decide) (by decide))
  have J2 := Aside0.mk (h3.blk K2.out (by decide) (by decide))
  have c00 : w1.cell? ⟨w.heap.size, 0, none⟩ = some (.string S) := by rw [cell_of_row _ _ _ _ _ _ J0.out]; rfl
  have c01 : w1.cell? ⟨w.heap.size, 1, none⟩ = some (.bool b) := by rw [cell_of_row _ _ _ _ _ _ J0.out]; rfl
  have c11 : w1.cell? ⟨w.heap.size + 1, 1, none⟩ = some (.int .i64 n) := by rw [cell_of_row _ _ _ _ _ _ J1.out]; rfl
  have c12 : w1.cell? ⟨w.heap.size + 1, 2, none⟩ = some (.int .i64 m) := by rw [cell_of_row _ _ _ _ _ _ J1.out]; rfl
  have c13 : w1.cell? ⟨w.heap.size + 1, 3, none⟩ = some (.string s) := by rw [cell_of_row _ _ _ _ _ _ J1.out]; rfl
  clear h2 h3 h4
  go_wp2_with (fail)
  refine (samphireref09_Byte.calls 10 S b n _ _ w1 HR.out).mono ?_
  rintro e w2 ⟨rfl, hb⟩
  have HO3 := Aside0.mk (HO2.out.below hb)
  have HF3 := Aside0.mk (HF2.out.below hb)
  have HB3 := Aside0.mk (below_then HB2.out (by have := HF2.out.1; omega) hb)
  have I2 := Aside0.mk (blk_below J2.out hb)
  have d0 : w2.cell? ⟨w.heap.size + 1 + 1, 0, none⟩ = some (.string ⟨#[]⟩) := by rw [cell_of_row _ _ _ _ _ _ I2.out]; rfl
  have d1 : w2.cell? ⟨w.heap.size + 1 + 1, 1, none⟩ = some (.bool false) := by rw [cell_of_row _ _ _ _ _ _ I2.out]; rfl
  have f0 : w2.frozen? ⟨w.heap.size + 1 + 1, 0, none⟩ = false := blk_thaw I2.out 0
  have f1 : w2.frozen? ⟨w.heap.size + 1 + 1, 1, none⟩ = false := blk_thaw I2.out 1
  clear hb c00 c01 c11 c12 c13
  go_wp2_with (fail)
  refine bodyPost_ret (results_cell_row rfl _ _ (w.heap.size + 1 + 1) 28 #[.string r0, .bool r1] (0, 0) _ rfl (blk_put (blk_put I2.out 0 _ rfl) 1 _ rfl) Try.underlying28 rfl (by kernel_rfl)) rfl ?_
  exact ⟨rfl, (HO3.out.far I2.out (by decide) (by decide) 0 _).far (blk_put I2.out 0 _ rfl) (by decide) (by decide) 1 _, (HF3.out.new (by omega) 0 _).new (by omega) 1 _, (HB3.out.setCell (p := ⟨w.heap.size + 1 + 1, 0, none⟩) (by show B ≤ w.heap.size + 1 + 1; omega) _).setCell (p := ⟨w.heap.size + 1 + 1, 1, none⟩) (by show B ≤ w.heap.size + 1 + 1; omega) _⟩
set_option maxRecDepth 100000 in
theorem writes_2 (B g : Nat) (mk bad : Bool) (L : List Nat) (S : ByteArray) (b : Bool) (n m : Int) (s : ByteArray) (w : World) (hO : OutAt B g mk bad L w) (hl : L.length ≤ 65536) (hS : S.size ≤ 1000000000000000) (hs : s.size ≤ 1000000000) (hB : B ≤ w.heap.size) :
    Calls Try.prog 11 #[.pointer (some ⟨g, 0, none⟩), .agg #[.string S, .bool b], .agg #[.int .i64 2, .int .i64 n, .int .i64 m, .string s]] w (WritesPost B g mk bad L S b 2 n m s w) := by
  have HO1 := Aside0.mk (((hO.alloc (.cells #[.string S, .bool b] 28)).alloc (.cells #[.int .i64 2, .int .i64 n, .int .i64 m, .string s] 31)).alloc (.cells #[.string (⟨#[]⟩ : ByteArray), .bool false] 28))
  have HF1 := Aside0.mk ((((FrO.refl w).alloc (.cells #[.string S, .bool b] 28)).alloc (.cells #[.int .i64 2, .int .i64 n, .int .i64 m, .string s] 31)).alloc (.cells #[.string (⟨#[]⟩ : ByteArray), .bool false] 28))
  have HB1 := Aside0.mk (below_allocB hB (below_allocB hB (below_allocB hB (Below.refl B w) (.cells #[.string S, .bool b] 28)) (.cells #[.int .i64 2, .int .i64 n, .int .i64 m, .string s] 31)) (.cells #[.string (⟨#[]⟩ : ByteArray), .bool false] 28))
  have K0 : Aside0 ((((w.alloc (.cells #[.string S, .bool b] 28)).alloc (.cells #[.int .i64 2, .int .i64 n, .int .i64 m, .string s] 31)).alloc (.cells #[.string (⟨#[]⟩ : ByteArray), .bool false] 28)).heap[w.heap.size]? = some (.cells #[.string S, .bool b] 28 (0, 0))) := ⟨blk_alloc (blk_alloc (heap_alloc_new w _) _) _⟩
  have K1 : Aside0 ((((w.alloc (.cells #[.string S, .bool b] 28)).alloc (.cells #[.int .i64 2, .int .i64 n, .int .i64 m, .string s] 31)).alloc (.cells #[.string (⟨#[]⟩ : ByteArray), .bool false] 28)).heap[w.heap.size + 1]? = some (.cells #[.int .i64 2, .int .i64 n, .int .i64 m, .string s] 31 (0, 0))) := ⟨blk_alloc (new_at (by simp) _) _⟩
  have K2 : Aside0 ((((w.alloc (.cells #[.string S, .bool b] 28)).alloc (.cells #[.int .i64 2, .int .i64 n, .int .i64 m, .string s] 31)).alloc (.cells #[.string (⟨#[]⟩ : ByteArray), .bool false] 28)).heap[w.heap.size + 1 + 1]? = some (.cells #[.string (⟨#[]⟩ : ByteArray), .bool false] 28 (0, 0))) := ⟨new_at (by simp) _⟩
  have hR := ref_Num S b n hS
  have e1 : partOk 2 n m s = timeB n := by unfold partOk; rw [if_neg (by decide), if_pos rfl]
  have e2 : partBy 2 n m s = byN n 6 := by unfold partBy; rw [if_neg (by decide), if_pos rfl]
  unfold WritesPost
  rw [e1, e2]
  rcases hr : refStep S b (timeB n) (byN n 6) with ⟨r0, r1⟩
  rw [hr] at hR
  have HR := Aside0.mk hR
  clear hO e1 e2 hr hR
  go_enter Try.func11, Try.ntmps11
  go_wp2_with (fail)
  generalize ((w.alloc (.cells #[.string S, .bool b] 28)).alloc (.cells #[.int .i64 2, .int .i64 n, .int .i64 m, .string s] 31)).alloc (.cells #[.string (⟨#[]⟩ : ByteArray), .bool false] 28) = W at HO1 HF1 HB1 K0 K1 K2 ⊢
  refine (Out_Num B g mk bad L n W HO1.out hl (Nat.le_trans hB HF1.out.1)).mono ?_
  rintro e w1 ⟨rfl, h2, h3, h4⟩
  have HO2 := Aside0.mk h2
  have HF2 := Aside0.mk (HF1.out.trans h3)
  have HB2 := Aside0.mk (HB1.out.trans h4)
  have J0 := Aside0.mk (h3.blk K0.out (by decide) (by decide))
  have J1 := Aside0.mk (h3.blk K1.out (by decide) (by decide))
  have J2 := Aside0.mk (h3.blk K2.out (by decide) (by decide))
  have c00 : w1.cell? ⟨w.heap.size, 0, none⟩ = some (.string S) := by rw [cell_of_row _ _ _ _ _ _ J0.out]; rfl
  have c01 : w1.cell? ⟨w.heap.size, 1, none⟩ = some (.bool b) := by rw [cell_of_row _ _ _ _ _ _ J0.out]; rfl
  have c11 : w1.cell? ⟨w.heap.size + 1, 1, none⟩ = some (.int .i64 n) := by rw [cell_of_row _ _ _ _ _ _ J1.out]; rfl
  have c12 : w1.cell? ⟨w.heap.size + 1, 2, none⟩ = some (.int .i64 m) := by rw [cell_of_row _ _ _ _ _ _ J1.out]; rfl
  have c13 : w1.cell? ⟨w.heap.size + 1, 3, none⟩ = some (.string s) := by rw [cell_of_row _ _ _ _ _ _ J1.out]; rfl
  clear h2 h3 h4
  go_wp2_with (fail)
  refine (samphireref09_Num.calls 10 S b n _ _ w1 HR.out).mono ?_
  rintro e w2 ⟨rfl, hb⟩
  have HO3 := Aside0.mk (HO2.out.below hb)
  have HF3 := Aside0.mk (HF2.out.below hb)
  have HB3 := Aside0.mk (below_then HB2.out (by have := HF2.out.1; omega) hb)
  have I2 := Aside0.mk (blk_below J2.out hb)
  have d0 : w2.cell? ⟨w.heap.size + 1 + 1, 0, none⟩ = some (.string ⟨#[]⟩) := by rw [cell_of_row _ _ _ _ _ _ I2.out]; rfl
  have d1 : w2.cell? ⟨w.heap.size + 1 + 1, 1, none⟩ = some (.bool false) := by rw [cell_of_row _ _ _ _ _ _ I2.out]; rfl
  have f0 : w2.frozen? ⟨w.heap.size + 1 + 1, 0, none⟩ = false := blk_thaw I2.out 0
  have f1 : w2.frozen? ⟨w.heap.size + 1 + 1, 1, none⟩ = false := blk_thaw I2.out 1
  clear hb c00 c01 c11 c12 c13
  go_wp2_with (fail)
  refine bodyPost_ret (results_cell_row rfl _ _ (w.heap.size + 1 + 1) 28 #[.string r0, .bool r1] (0, 0) _ rfl (blk_put (blk_put I2.out 0 _ rfl) 1 _ rfl) Try.underlying28 rfl (by kernel_rfl)) rfl ?_
  exact ⟨rfl, (HO3.out.far I2.out (by decide) (by decide) 0 _).far (blk_put I2.out 0 _ rfl) (by decide) (by decide) 1 _, (HF3.out.new (by omega) 0 _).new (by omega) 1 _, (HB3.out.setCell (p := ⟨w.heap.size + 1 + 1, 0, none⟩) (by show B ≤ w.heap.size + 1 + 1; omega) _).setCell (p := ⟨w.heap.size + 1 + 1, 1, none⟩) (by show B ≤ w.heap.size + 1 + 1; omega) _⟩
set_option maxRecDepth 100000 in
theorem writes_3 (B g : Nat) (mk bad : Bool) (L : List Nat) (S : ByteArray) (b : Bool) (n m : Int) (s : ByteArray) (w : World) (hO : OutAt B g mk bad L w) (hl : L.length ≤ 65536) (hS : S.size ≤ 1000000000000000) (hs : s.size ≤ 1000000000) (hB : B ≤ w.heap.size) :
    Calls Try.prog 11 #[.pointer (some ⟨g, 0, none⟩), .agg #[.string S, .bool b], .agg #[.int .i64 3, .int .i64 n, .int .i64 m, .string s]] w (WritesPost B g mk bad L S b 3 n m s w) := by
  have HO1 := Aside0.mk (((hO.alloc (.cells #[.string S, .bool b] 28)).alloc (.cells #[.int .i64 3, .int .i64 n, .int .i64 m, .string s] 31)).alloc (.cells #[.string (⟨#[]⟩ : ByteArray), .bool false] 28))
  have HF1 := Aside0.mk ((((FrO.refl w).alloc (.cells #[.string S, .bool b] 28)).alloc (.cells #[.int .i64 3, .int .i64 n, .int .i64 m, .string s] 31)).alloc (.cells #[.string (⟨#[]⟩ : ByteArray), .bool false] 28))
  have HB1 := Aside0.mk (below_allocB hB (below_allocB hB (below_allocB hB (Below.refl B w) (.cells #[.string S, .bool b] 28)) (.cells #[.int .i64 3, .int .i64 n, .int .i64 m, .string s] 31)) (.cells #[.string (⟨#[]⟩ : ByteArray), .bool false] 28))
  have K0 : Aside0 ((((w.alloc (.cells #[.string S, .bool b] 28)).alloc (.cells #[.int .i64 3, .int .i64 n, .int .i64 m, .string s] 31)).alloc (.cells #[.string (⟨#[]⟩ : ByteArray), .bool false] 28)).heap[w.heap.size]? = some (.cells #[.string S, .bool b] 28 (0, 0))) := ⟨blk_alloc (blk_alloc (heap_alloc_new w _) _) _⟩
  have K1 : Aside0 ((((w.alloc (.cells #[.string S, .bool b] 28)).alloc (.cells #[.int .i64 3, .int .i64 n, .int .i64 m, .string s] 31)).alloc (.cells #[.string (⟨#[]⟩ : ByteArray), .bool false] 28)).heap[w.heap.size + 1]? = some (.cells #[.int .i64 3, .int .i64 n, .int .i64 m, .string s] 31 (0, 0))) := ⟨blk_alloc (new_at (by simp) _) _⟩
  have K2 : Aside0 ((((w.alloc (.cells #[.string S, .bool b] 28)).alloc (.cells #[.int .i64 3, .int .i64 n, .int .i64 m, .string s] 31)).alloc (.cells #[.string (⟨#[]⟩ : ByteArray), .bool false] 28)).heap[w.heap.size + 1 + 1]? = some (.cells #[.string (⟨#[]⟩ : ByteArray), .bool false] 28 (0, 0))) := ⟨new_at (by simp) _⟩
  have hR := ref_Stamp S b n m hS
  have e1 : partOk 3 n m s = (timeB n && oneB m) := by unfold partOk; rw [if_neg (by decide), if_neg (by decide), if_pos rfl]
  have e2 : partBy 3 n m s = byN n 6 ++ byN m 1 := by unfold partBy; rw [if_neg (by decide), if_neg (by decide), if_pos rfl]
  unfold WritesPost
  rw [e1, e2]
  rcases hr : refStep S b (timeB n && oneB m) (byN n 6 ++ byN m 1) with ⟨r0, r1⟩
  rw [hr] at hR
  have HR := Aside0.mk hR
  clear hO e1 e2 hr hR
  go_enter Try.func11, Try.ntmps11
  go_wp2_with (fail)
  generalize ((w.alloc (.cells #[.string S, .bool b] 28)).alloc (.cells #[.int .i64 3, .int .i64 n, .int .i64 m, .string s] 31)).alloc (.cells #[.string (⟨#[]⟩ : ByteArray), .bool false] 28) = W at HO1 HF1 HB1 K0 K1 K2 ⊢
  refine (Out_Stamp B g mk bad L n m W HO1.out hl (Nat.le_trans hB HF1.out.1)).mono ?_
  rintro e w1 ⟨rfl, h2, h3, h4⟩
  have HO2 := Aside0.mk h2
  have HF2 := Aside0.mk (HF1.out.trans h3)
  have HB2 := Aside0.mk (HB1.out.trans h4)
  have J0 := Aside0.mk (h3.blk K0.out (by decide) (by decide))
  have J1 := Aside0.mk (h3.blk K1.out (by decide) (by decide))
  have J2 := Aside0.mk (h3.blk K2.out (by decide) (by decide))
  have c00 : w1.cell? ⟨w.heap.size, 0, none⟩ = some (.string S) := by rw [cell_of_row _ _ _ _ _ _ J0.out]; rfl
  have c01 : w1.cell? ⟨w.heap.size, 1, none⟩ = some (.bool b) := by rw [cell_of_row _ _ _ _ _ _ J0.out]; rfl
  have c11 : w1.cell? ⟨w.heap.size + 1, 1, none⟩ = some (.int .i64 n) := by rw [cell_of_row _ _ _ _ _ _ J1.out]; rfl
  have c12 : w1.cell? ⟨w.heap.size + 1, 2, none⟩ = some (.int .i64 m) := by rw [cell_of_row _ _ _ _ _ _ J1.out]; rfl
  have c13 : w1.cell? ⟨w.heap.size + 1, 3, none⟩ = some (.string s) := by rw [cell_of_row _ _ _ _ _ _ J1.out]; rfl
  clear h2 h3 h4
  go_wp2_with (fail)
  refine (samphireref09_Stamp.calls 10 S b n m _ _ w1 HR.out).mono ?_
  rintro e w2 ⟨rfl, hb⟩
  have HO3 := Aside0.mk (HO2.out.below hb)
  have HF3 := Aside0.mk (HF2.out.below hb)
  have HB3 := Aside0.mk (below_then HB2.out (by have := HF2.out.1; omega) hb)
  have I2 := Aside0.mk (blk_below J2.out hb)
  have d0 : w2.cell? ⟨w.heap.size + 1 + 1, 0, none⟩ = some (.string ⟨#[]⟩) := by rw [cell_of_row _ _ _ _ _ _ I2.out]; rfl
  have d1 : w2.cell? ⟨w.heap.size + 1 + 1, 1, none⟩ = some (.bool false) := by rw [cell_of_row _ _ _ _ _ _ I2.out]; rfl
  have f0 : w2.frozen? ⟨w.heap.size + 1 + 1, 0, none⟩ = false := blk_thaw I2.out 0
  have f1 : w2.frozen? ⟨w.heap.size + 1 + 1, 1, none⟩ = false := blk_thaw I2.out 1
  clear hb c00 c01 c11 c12 c13
  go_wp2_with (fail)
  refine bodyPost_ret (results_cell_row rfl _ _ (w.heap.size + 1 + 1) 28 #[.string r0, .bool r1] (0, 0) _ rfl (blk_put (blk_put I2.out 0 _ rfl) 1 _ rfl) Try.underlying28 rfl (by kernel_rfl)) rfl ?_
  exact ⟨rfl, (HO3.out.far I2.out (by decide) (by decide) 0 _).far (blk_put I2.out 0 _ rfl) (by decide) (by decide) 1 _, (HF3.out.new (by omega) 0 _).new (by omega) 1 _, (HB3.out.setCell (p := ⟨w.heap.size + 1 + 1, 0, none⟩) (by show B ≤ w.heap.size + 1 + 1; omega) _).setCell (p := ⟨w.heap.size + 1 + 1, 1, none⟩) (by show B ≤ w.heap.size + 1 + 1; omega) _⟩
set_option maxRecDepth 100000 in
theorem writes_4 (B g : Nat) (mk bad : Bool) (L : List Nat) (S : ByteArray) (b : Bool) (kind : Int) (n m : Int) (s : ByteArray) (w : World) (h1 : kind ≠ 1) (h2 : kind ≠ 2) (h3 : kind ≠ 3) (hO : OutAt B g mk bad L w) (hl : L.length ≤ 65536) (hS : S.size ≤ 1000000000000000) (hs : s.size ≤ 1000000000) (hB : B ≤ w.heap.size) :
    Calls Try.prog 11 #[.pointer (some ⟨g, 0, none⟩), .agg #[.string S, .bool b], .agg #[.int .i64 kind, .int .i64 n, .int .i64 m, .string s]] w (WritesPost B g mk bad L S b kind n m s w) := by
  have HO1 := Aside0.mk (((hO.alloc (.cells #[.string S, .bool b] 28)).alloc (.cells #[.int .i64 kind, .int .i64 n, .int .i64 m, .string s] 31)).alloc (.cells #[.string (⟨#[]⟩ : ByteArray), .bool false] 28))
  have HF1 := Aside0.mk ((((FrO.refl w).alloc (.cells #[.string S, .bool b] 28)).alloc (.cells #[.int .i64 kind, .int .i64 n, .int .i64 m, .string s] 31)).alloc (.cells #[.string (⟨#[]⟩ : ByteArray), .bool false] 28))
  have HB1 := Aside0.mk (below_allocB hB (below_allocB hB (below_allocB hB (Below.refl B w) (.cells #[.string S, .bool b] 28)) (.cells #[.int .i64 kind, .int .i64 n, .int .i64 m, .string s] 31)) (.cells #[.string (⟨#[]⟩ : ByteArray), .bool false] 28))
  have K0 : Aside0 ((((w.alloc (.cells #[.string S, .bool b] 28)).alloc (.cells #[.int .i64 kind, .int .i64 n, .int .i64 m, .string s] 31)).alloc (.cells #[.string (⟨#[]⟩ : ByteArray), .bool false] 28)).heap[w.heap.size]? = some (.cells #[.string S, .bool b] 28 (0, 0))) := ⟨blk_alloc (blk_alloc (heap_alloc_new w _) _) _⟩
  have K1 : Aside0 ((((w.alloc (.cells #[.string S, .bool b] 28)).alloc (.cells #[.int .i64 kind, .int .i64 n, .int .i64 m, .string s] 31)).alloc (.cells #[.string (⟨#[]⟩ : ByteArray), .bool false] 28)).heap[w.heap.size + 1]? = some (.cells #[.int .i64 kind, .int .i64 n, .int .i64 m, .string s] 31 (0, 0))) := ⟨blk_alloc (new_at (by simp) _) _⟩
  have K2 : Aside0 ((((w.alloc (.cells #[.string S, .bool b] 28)).alloc (.cells #[.int .i64 kind, .int .i64 n, .int .i64 m, .string s] 31)).alloc (.cells #[.string (⟨#[]⟩ : ByteArray), .bool false] 28)).heap[w.heap.size + 1 + 1]? = some (.cells #[.string (⟨#[]⟩ : ByteArray), .bool false] 28 (0, 0))) := ⟨new_at (by simp) _⟩
  have hR := ref_Text S b s hS (by omega)
  have e1 : partOk kind n m s = decide (s.size ≤ 65535) := by unfold partOk; rw [if_neg h1, if_neg h2, if_neg h3]
  have e2 : partBy kind n m s = byN (s.size : Int) 2 ++ bys s := by unfold partBy; rw [if_neg h1, if_neg h2, if_neg h3]
  unfold WritesPost
  rw [e1, e2]
  rcases hr : refStep S b (decide (s.size ≤ 65535)) (byN (s.size : Int) 2 ++ bys s) with ⟨r0, r1⟩
  rw [hr] at hR
  have HR := Aside0.mk hR
  clear hO e1 e2 hr hR
  have t1 : (kind == 1) = false := beq_eq_false_iff_ne.2 h1
  have t2 : (kind == 2) = false := beq_eq_false_iff_ne.2 h2
  have t3 : (kind == 3) = false := beq_eq_false_iff_ne.2 h3
  clear h1 h2 h3
  go_enter Try.func11, Try.ntmps11
  go_wp2_with (fail)
  generalize ((w.alloc (.cells #[.string S, .bool b] 28)).alloc (.cells #[.int .i64 kind, .int .i64 n, .int .i64 m, .string s] 31)).alloc (.cells #[.string (⟨#[]⟩ : ByteArray), .bool false] 28) = W at HO1 HF1 HB1 K0 K1 K2 ⊢
  refine (Out_Text B g mk bad L s W HO1.out hl (by omega) (Nat.le_trans hB HF1.out.1)).mono ?_
  rintro e w1 ⟨rfl, h2, h3, h4⟩
  have HO2 := Aside0.mk h2
  have HF2 := Aside0.mk (HF1.out.trans h3)
  have HB2 := Aside0.mk (HB1.out.trans h4)
  have J0 := Aside0.mk (h3.blk K0.out (by decide) (by decide))
  have J1 := Aside0.mk (h3.blk K1.out (by decide) (by decide))
  have J2 := Aside0.mk (h3.blk K2.out (by decide) (by decide))
  have c00 : w1.cell? ⟨w.heap.size, 0, none⟩ = some (.string S) := by rw [cell_of_row _ _ _ _ _ _ J0.out]; rfl
  have c01 : w1.cell? ⟨w.heap.size, 1, none⟩ = some (.bool b) := by rw [cell_of_row _ _ _ _ _ _ J0.out]; rfl
  have c11 : w1.cell? ⟨w.heap.size + 1, 1, none⟩ = some (.int .i64 n) := by rw [cell_of_row _ _ _ _ _ _ J1.out]; rfl
  have c12 : w1.cell? ⟨w.heap.size + 1, 2, none⟩ = some (.int .i64 m) := by rw [cell_of_row _ _ _ _ _ _ J1.out]; rfl
  have c13 : w1.cell? ⟨w.heap.size + 1, 3, none⟩ = some (.string s) := by rw [cell_of_row _ _ _ _ _ _ J1.out]; rfl
  clear h2 h3 h4
  go_wp2_with (fail)
  refine (samphireref09_Text.calls 10 S b s _ _ w1 HR.out).mono ?_
  rintro e w2 ⟨rfl, hb⟩
  have HO3 := Aside0.mk (HO2.out.below hb)
  have HF3 := Aside0.mk (HF2.out.below hb)
  have HB3 := Aside0.mk (below_then HB2.out (by have := HF2.out.1; omega) hb)
  have I2 := Aside0.mk (blk_below J2.out hb)
  have d0 : w2.cell? ⟨w.heap.size + 1 + 1, 0, none⟩ = some (.string ⟨#[]⟩) := by rw [cell_of_row _ _ _ _ _ _ I2.out]; rfl
  have d1 : w2.cell? ⟨w.heap.size + 1 + 1, 1, none⟩ = some (.bool false) := by rw [cell_of_row _ _ _ _ _ _ I2.out]; rfl
  have f0 : w2.frozen? ⟨w.heap.size + 1 + 1, 0, none⟩ = false := blk_thaw I2.out 0
  have f1 : w2.frozen? ⟨w.heap.size + 1 + 1, 1, none⟩ = false := blk_thaw I2.out 1
  clear hb c00 c01 c11 c12 c13
  go_wp2_with (fail)
  refine bodyPost_ret (results_cell_row rfl _ _ (w.heap.size + 1 + 1) 28 #[.string r0, .bool r1] (0, 0) _ rfl (blk_put (blk_put I2.out 0 _ rfl) 1 _ rfl) Try.underlying28 rfl (by kernel_rfl)) rfl ?_
  exact ⟨rfl, (HO3.out.far I2.out (by decide) (by decide) 0 _).far (blk_put I2.out 0 _ rfl) (by decide) (by decide) 1 _, (HF3.out.new (by omega) 0 _).new (by omega) 1 _, (HB3.out.setCell (p := ⟨w.heap.size + 1 + 1, 0, none⟩) (by show B ≤ w.heap.size + 1 + 1; omega) _).setCell (p := ⟨w.heap.size + 1 + 1, 1, none⟩) (by show B ≤ w.heap.size + 1 + 1; omega) _⟩
theorem writes_any (B g : Nat) (mk bad : Bool) (L : List Nat) (S : ByteArray) (b : Bool) (kind n m : Int) (s : ByteArray) (w : World) (hO : OutAt B g mk bad L w) (hl : L.length ≤ 65536) (hS : S.size ≤ 1000000000000000) (hs : s.size ≤ 1000000000) (hB : B ≤ w.heap.size) :
    Calls Try.prog 11 #[.pointer (some ⟨g, 0, none⟩), .agg #[.string S, .bool b], .agg #[.int .i64 kind, .int .i64 n, .int .i64 m, .string s]] w (WritesPost B g mk bad L S b kind n m s w) := by
  by_cases h1 : kind = 1
  · subst h1; exact writes_1 B g mk bad L S b n m s w hO hl hS hs hB
  by_cases h2 : kind = 2
  · subst h2; exact writes_2 B g mk bad L S b n m s w hO hl hS hs hB
  by_cases h3 : kind = 3
  · subst h3; exact writes_3 B g mk bad L S b n m s w hO hl hS hs hB
  exact writes_4 B g mk bad L S b kind n m s w h1 h2 h3 hO hl hS hs hB
section
open Go.RowKit Go.Deep Go.Proofs.YtpeliaknceigdaaW.PrintWords Go.Proofs.YtpeliaknceigdaaW.PrintLast Go.Proofs.YtpeliaknceigdaaW.PrintMore
set_option maxHeartbeats 2000000
set_option linter.unusedVariables false
set_option linter.unusedSimpArgs false
theorem awake_1 : outStep false [] (timeB 258) (byN 258 6) = (false, [0, 0, 0, 0, 1, 2]) := by decide +kernel
theorem awake_2 : outStep false [0, 0, 0, 0, 1, 2] (decide ((⟨#[97, 98]⟩ : ByteArray).size ≤ 65535)) (byN ((⟨#[97, 98]⟩ : ByteArray).size : Int) 2 ++ bys ⟨#[97, 98]⟩) = (false, [0, 0, 0, 0, 1, 2, 0, 2, 97, 98]) := by decide +kernel
theorem awake_3 : txt [0, 0, 0, 0, 1, 2, 0, 2, 97, 98] = ⟨#[0, 0, 0, 0, 1, 2, 0, 2, 97, 98]⟩ := by decide +kernel
theorem awake_4 : code_In_Num.f 10 true ⟨#[0, 0, 0, 0, 1, 2, 0, 2, 97, 98]⟩ 0 = some (258, true, ⟨#[0, 2, 97, 98]⟩, 0) := by decide +kernel
theorem awake_5 : code_In_Text.f 10 true ⟨#[0, 2, 97, 98]⟩ 0 2 = some (⟨#[97, 98]⟩, true, ⟨#[]⟩, 0) := by decide +kernel
theorem awake_6 : code_In_Done.f true ⟨#[]⟩ 0 = some (0, true, ⟨#[]⟩, 0) := by decide +kernel
set_option maxRecDepth 100000 in
theorem awake_calls (w : World) : Calls Try.prog 10 #[] w fun e w' => e = .returned (.bool true) ∧ Below w.heap.size w w' := by
  go_enter Try.func10, Try.ntmps10
  go_wp2_with (fail)
  refine (NewOut_calls w.heap.size w (Nat.le_refl _)).mono ?_
  rintro e w1 ⟨rfl, h1, b1⟩
  have H1 := Aside0.mk h1
  have B1 := Aside0.mk b1
  clear h1 b1
  go_wp2_with (fail)
  refine (Out_Num w.heap.size w.heap.size true false [] 258 w1 H1.out (by decide) B1.out.size).mono ?_
  rw [awake_1]
  rintro e w2 ⟨rfl, h2, f2, b2⟩
  have H2 := Aside0.mk h2
  have B2 := Aside0.mk (B1.out.trans b2)
  clear h2 f2 b2
  go_wp2_with (fail)
  refine (Out_Text w.heap.size w.heap.size true false [0, 0, 0, 0, 1, 2] ⟨#[97, 98]⟩ w2 H2.out (by decide) (by decide) B2.out.size).mono ?_
  rw [awake_2]
  rintro e w3 ⟨rfl, h3, f3, b3⟩
  have H3 := Aside0.mk h3
  have B3 := Aside0.mk (B2.out.trans b3)
  clear h3 f3 b3
  go_wp2_with (fail)
  refine (Out_Done w.heap.size w.heap.size [0, 0, 0, 0, 1, 2, 0, 2, 97, 98] w3 H3.out).mono ?_
  rw [awake_3]
  rintro e w4 ⟨rfl, rfl⟩
  go_wp2_with (fail)
  refine (code_NewIn.calls ⟨#[0, 0, 0, 0, 1, 2, 0, 2, 97, 98]⟩ _ _ _ w w3 B3.out rfl).mono ?_
  rintro e w5 ⟨g, rfl, hi5, b5, b6⟩
  have HI5 := Aside0.mk hi5
  have B5 := Aside0.mk b5
  clear hi5 b5 b6
  go_wp2_with (fail)
  refine (code_In_Num.calls 10 g _ _ _ _ _ _ _ w w5 HI5.out B5.out awake_4).mono ?_
  rintro e w6 ⟨rfl, hi6, b6, k6⟩
  have HI6 := Aside0.mk hi6
  have B6 := Aside0.mk b6
  clear hi6 b6 k6
  go_wp2_with (fail)
  refine (code_In_Text.calls 10 g _ _ _ _ _ _ _ _ w w6 HI6.out B6.out awake_5).mono ?_
  rintro e w7 ⟨rfl, hi7, b7, k7⟩
  have HI7 := Aside0.mk hi7
  have B7 := Aside0.mk b7
  clear hi7 b7 k7
  go_wp2_with (fail)
  refine (code_In_Done.calls g _ _ _ _ _ _ _ w w7 HI7.out B7.out awake_6).mono ?_
  rintro e w8 ⟨rfl, hi8, b8, k8⟩
  have B8 := Aside0.mk b8
  clear hi8 b8 k8
  go_wp2_with (fail)
  go_ret
  exact ⟨rfl, B8.out⟩
end
end Go.Proofs.Ytpeliaknceigdaa.Pr

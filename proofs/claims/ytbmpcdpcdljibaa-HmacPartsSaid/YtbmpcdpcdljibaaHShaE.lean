/- sha.Sum and the reference's Sum: the walks. -/
-- HAND samphire/sha.Sum sha_Sum 0 1
-- HAND samphire/samphireref02.Sum samphireref02_Sum 0 1
-- NEEDS samphire/samphireref02.Block
-- NEEDS samphire/samphireref02.Begin
-- NEEDS samphire/sha.Pad
-- NEEDS samphire/samphireref02.Pad
import Derived.Test.YtbmpcdpcdljibaaHShaD
namespace Go.Proofs.Ytbmpcdpcdljibaa.Pr
open Go.RowKit Go.Deep Go.Proofs.YtbmpcdpcdljibaaW.PrintWords Go.Proofs.YtbmpcdpcdljibaaW.PrintLast Go.Proofs.YtbmpcdpcdljibaaW.PrintMore
set_option maxHeartbeats 2000000
set_option linter.unusedVariables false
set_option linter.unusedSimpArgs false
theorem St.bytes_length (s : St) : s.bytes.length = 32 := rfl
theorem St.bytes_lt (s : St) : ∀ n ∈ s.bytes, n < 256 := by
  intro n hn
  simp only [St.bytes, St.list, by4, List.flatMap_cons, List.flatMap_nil, List.cons_append, List.nil_append, List.mem_cons, List.not_mem_nil, or_false] at hn
  omega
theorem be4_by4 (x : Nat) (h : x < 4294967296) : x / 16777216 % 256 * 16777216 + x / 65536 % 256 * 65536 + x / 256 % 256 * 256 + x % 256 = x := by omega
theorem stOf_bytes (s : St) (h : s.ok) : stOf s.bytes = s := by
  obtain ⟨a, b, c, d, e, f, g, hh⟩ := s
  obtain ⟨h1, h2, h3, h4, h5, h6, h7, h8⟩ := h
  simp only at h1 h2 h3 h4 h5 h6 h7 h8
  simp only [stOf, be4, St.bytes, St.list, by4, List.flatMap_cons, List.flatMap_nil, List.cons_append, List.nil_append]
  simp [be4_by4 a h1, be4_by4 b h2, be4_by4 c h3, be4_by4 d h4, be4_by4 e h5, be4_by4 f h6, be4_by4 g h7, be4_by4 hh h8]
theorem bys_bytes (s : St) : bys (txt s.bytes) = s.bytes := bys_txt s.bytes_lt
theorem blks_succ (n : Nat) : ∀ (s : St) (l : List Nat), blks (n + 1) s l = stp (blks n s l) ((l.drop (64 * n)).take 64) := by
  induction n with
  | zero => intro s l; simp [blks]
  | succ n ih =>
    intro s l
    rw [blks, ih, blks, List.drop_drop]
    congr 2
    congr 1
    omega
theorem stp_ok (s : St) (l : List Nat) : (stp s l).ok := St.add_ok _ _
theorem blks_ok (n : Nat) : ∀ (s : St) (l : List Nat), s.ok → (blks n s l).ok := by
  induction n with
  | zero => intro s l h; exact h
  | succ n ih => intro s l h; exact ih _ _ (stp_ok _ _)
theorem bys_append (a b : ByteArray) : bys (a ++ b) = bys a ++ bys b := by
  simp [bys, ByteArray.data_append]
theorem padL_lt (n : Nat) : ∀ x ∈ padL n, x < 256 := by
  intro x hx
  simp only [padL, by4, List.mem_cons, List.mem_append, List.mem_replicate, List.not_mem_nil, or_false] at hx
  omega
theorem padL_len (n : Nat) : (padL n).length = 9 + (119 - n % 64) % 64 := by
  simp [padL, by4]
  omega
/-- All bytes that are summed. -/
def allL (a : ByteArray) : List Nat := bys a ++ padL a.size
theorem allL_len (a : ByteArray) : ∃ m, (allL a).length = 64 * m ∧ a.size < 64 * m := by
  refine ⟨(a.size + 9 + (119 - a.size % 64) % 64) / 64, ?_, ?_⟩
  · rw [allL, List.length_append, bys_length, padL_len]
    omega
  · omega
def sumF (a0 : ByteArray) : Option ByteArray := if a0.size ≤ 1000000000000 then some (txt (blks ((allL a0).length / 64) St0 (allL a0)).bytes) else none
def sha_Sum.f (a0 : ByteArray) : Option ByteArray := sumF a0
def samphireref02_Sum.f (a0 : ByteArray) : Option ByteArray := sumF a0
theorem refBegin (w : World) : Calls Try.prog 18 #[] w fun e w' => e = .returned (.string (txt St0.bytes)) ∧ Below w.heap.size w w' := by
  obtain ⟨K, hK⟩ := begin_ev
  exact samphireref02_Begin.calls K _ w (hK K (Nat.le_refl _))
theorem refBlock (s b : ByteArray) (w : World) (hs : s.size = 32) (hb : b.size = 64) :
    Calls Try.prog 20 #[.string s, .string b] w fun e w' => e = .returned (.tuple #[.string (txt (stp (stOf (bys s)) (bys b)).bytes), .int .i64 0]) ∧ Below w.heap.size w w' := by
  obtain ⟨K, hK⟩ := block_ev s b
  rw [if_pos ⟨hs, hb⟩] at hK
  exact samphireref02_Block.calls K s b _ _ w (hK K (Nat.le_refl _))
set_option maxRecDepth 100000 in
theorem refSum (a0 : ByteArray) (w : World) (hn : a0.size ≤ 1000000000000) :
    Calls Try.prog 25 #[.string a0] w fun e w' => e = .returned (.string (txt (blks ((allL a0).length / 64) St0 (allL a0)).bytes)) ∧ Below w.heap.size w w' := by
  have hn1 : (a0.size : Int) ≤ 1125899906842624 := by omega
  obtain ⟨m, hm, hm2⟩ := allL_len a0
  have e0 : (allL a0).length / 64 = m := by omega
  rw [e0]
  clear e0
  go_enter Try.func25, Try.ntmps25
  go_wp2_with (fail)
  refine (samphireref02_Pad.yes a0.size _ hn1).mono ?_
  rintro e w1 ⟨rfl, hb1⟩
  generalize hT : txt (padL a0.size) = T
  have hTs : T.size ≤ 100 := by rw [← hT, txt_size, padL_len]; omega
  have k1 : a0.size + T.size ≤ 9223372036854775807 := by omega
  have k3 : (9223372036854775807 < a0.size + T.size) = False := eq_false (Nat.not_lt.2 k1)
  have hS : bys (a0 ++ T) = allL a0 := by rw [bys_append, ← hT, bys_txt (padL_lt _)]; rfl
  have hSs : (a0 ++ T).size = 64 * m := by rw [← bys_length, hS, hm]
  have HSs := Aside0.mk hSs
  have hs1 : (a0 ++ T).size ≤ 1000000000200 := by rw [ByteArray.size_append]; omega
  clear hSs
  clear hT hn1
  have HS := Aside0.mk hS
  have HM := Aside0.mk hm
  clear hS hm
  go_wp2_with (go_at_call 18; refine (refBegin _).mono ?_; generalize a0 ++ T = S at HS HSs hs1 ⊢; rintro e w2 ⟨rfl, hb2⟩)
  have hB0 := below_then hb1 hb1.size hb2
  have HB0 := Aside0.mk hB0
  clear hB0 hb1 hb2 k1 k3
  go_wp2
  go_loopw [5, 6] (fun st i wr => ∃ (q : Nat) (τ : ByteArray), i = .int .i64 q ∧ st = .string τ ∧ q ≤ S.size ∧ τ.size = 32 ∧ Aside0 (∃ j, q = 64 * j ∧ j ≤ m ∧ τ = txt (blks j St0 (allL a0)).bytes) ∧ Aside0 (Below w.heap.size w wr)) (fun _ i _ => S.size + 64 - (intOf i).toNat)
  case atStart => exact ⟨0, txt St0.bytes, rfl, rfl, by omega, rfl, ⟨0, rfl, by omega, rfl⟩, HB0⟩
  case round =>
    obtain ⟨q, τ, rfl, rfl, hq, hτ, HJ, HB⟩ := hrel
    by_cases hlt : q + 64 ≤ S.size
    · have hx : (S.extract q (q + 64)).size = 64 := by simp; omega
      have HX := Aside0.mk hx
      have HT := Aside0.mk hτ
      clear hx hτ
      have i1 := eq_true (show (q : Int) + 64 ≤ (S.size : Int) by omega)
      have i2 := eq_true (show (q : Int) ≤ (q : Int) + 64 by omega)
      have i3 := eq_true (show 0 ≤ (q : Int) by omega)
      have i4 : ((q : Int) + 64).toNat = q + 64 := by omega
      go_wp2_with (go_at_call 20; refine (refBlock τ (S.extract q (q + 64)) _ HT.out HX.out).mono ?_; rintro e w3 ⟨rfl, hb3⟩)
      go_roundw
      case measure => simp [intOf]; omega
      case rel =>
        obtain ⟨j, hj1, hj2, hj3⟩ := HJ.out
        have hj4 : j + 1 ≤ m := by have := HSs.out; omega
        refine ⟨q + 64, _, by go_num, rfl, hlt, by rw [txt_size, St.bytes_length], ⟨j + 1, by omega, hj4, ?_⟩, ⟨below_then HB.out HB.out.size hb3⟩⟩
        rw [blks_succ, hj3, bys_bytes, stOf_bytes _ (blks_ok _ _ _ St0_ok), bys_extract, HS.out, hj1]
        rw [Nat.add_sub_cancel_left]
    · clear hτ
      have i1 := eq_false (show ¬ (q : Int) + 64 ≤ (S.size : Int) by omega)
      go_wp2
      go_ret
      obtain ⟨j, hj1, hj2, hj3⟩ := HJ.out
      have hj4 : j = m := by have := HSs.out; omega
      rw [← hj4, ← hj3]
      exact ⟨rfl, HB.out⟩
theorem samphireref02_Sum.calls (a0 : ByteArray) (r : ByteArray) (w : World) (h : samphireref02_Sum.f a0 = some r) :
    Calls Try.prog 25 #[.string a0] w fun e w' => e = .returned (.string r) ∧ Below w.heap.size w w' := by
  unfold samphireref02_Sum.f sumF at h
  by_cases hc : a0.size ≤ 1000000000000
  · rw [if_pos hc] at h
    obtain rfl := Option.some.inj h
    exact refSum a0 w hc
  · rw [if_neg hc] at h
    cases h
def strLen : Value → Nat | .string s => s.size | _ => 0
/-- The state in a row of the heap. -/
def StAt (g : Nat) (s : St) (w : World) : Prop := w.heap[g]? = some (.cells #[.int .u32 (s.a : Int), .int .u32 (s.b : Int), .int .u32 (s.c : Int), .int .u32 (s.d : Int), .int .u32 (s.e : Int), .int .u32 (s.f : Int), .int .u32 (s.g : Int), .int .u32 (s.h : Int)] 45 (0, 0))
def KAt (g : Nat) (w : World) : Prop := w.heap[g]? = some (.cells (u32s shaK) 50 (0, 0))
theorem StAt.store {g : Nat} {s : St} {w : World} (h : StAt g s w) (t : St) : StAt g t (w.setRow g #[.int .u32 (t.a : Int), .int .u32 (t.b : Int), .int .u32 (t.c : Int), .int .u32 (t.d : Int), .int .u32 (t.e : Int), .int .u32 (t.f : Int), .int .u32 (t.g : Int), .int .u32 (t.h : Int)]) :=
  setRow_heap _ _ _ _ _ _ h
theorem below_setRow8 {B g : Nat} {w0 w : World} (hb : Below B w0 w) (hg : B ≤ g) (cs : Array Value) : Below B w0 (w.setRow g cs) :=
  ⟨hb.os, hb.tape, hb.output, by simpa [World.setRow] using hb.size, fun k hk => by rw [setRow_other _ _ _ _ (by omega)]; exact hb.block k hk⟩
theorem KAt.store {g g' : Nat} {w : World} (h : KAt g w) (hg : g ≠ g') (cs : Array Value) : KAt g (w.setRow g' cs) := by
  unfold KAt
  rw [setRow_other _ _ _ _ hg]
  exact h
set_option maxRecDepth 100000 in
theorem shaSum (a0 : ByteArray) (w : World) (hn : a0.size ≤ 1000000000000) :
    Calls Try.prog 24 #[.string a0] w fun e w' => e = .returned (.string (txt (blks ((allL a0).length / 64) St0 (allL a0)).bytes)) ∧ Below w.heap.size w w' := by
  have hinf : (Try.prog.info? 50).map (·.size) = some 64 := by kernel_rfl
  have hinf8 : (Try.prog.info? 45).map (·.size) = some 8 := by kernel_rfl
  have hn1 : (a0.size : Int) ≤ 1125899906842624 := by omega
  obtain ⟨m, hm, hm2⟩ := allL_len a0
  have e0 : (allL a0).length / 64 = m := by omega
  rw [e0]
  clear e0
  have HI := Aside0.mk hinf
  have HI8 := Aside0.mk hinf8
  clear hinf hinf8
  go_enter Try.func24, Try.ntmps24
  go_wp2_with (fail)
  refine (sha_Pad.yes a0.size _ hn1).mono ?_
  rintro e w1 ⟨rfl, hb1⟩
  generalize hT : txt (padL a0.size) = T
  have hTs : T.size ≤ 100 := by rw [← hT, txt_size, padL_len]; omega
  have hTb : bys T = padL a0.size := by rw [← hT, bys_txt (padL_lt _)]
  have HTB := Aside0.mk hTb
  have HM := Aside0.mk hm
  clear hT hm hTb hn1
  go_wp2_with (first | (go_at_call 43; refine (constants.calls _).mono ?_; rintro e w2 ⟨rfl, hb2⟩; have HB2 := Aside0.mk (below_then hb1 hb1.size hb2); clear hb1 hb2) | (refine wpList_store_row rfl 50 (.tmp 5) (.tmp 16) rfl _ (u32s shaK) rfl rfl 50 _ (heap_alloc_last _ _) HI.out (by rfl) (u32s_one _) ?_; rw [World.setRow_alloc_new]) | (go_at_call 39; refine (sha_start.calls _).mono ?_; rintro e w3 ⟨rfl, hb3⟩))
  have HK : KAt w2.heap.size (w3.alloc (.cells #[.int .u32 (St0.a : Int), .int .u32 (St0.b : Int), .int .u32 (St0.c : Int), .int .u32 (St0.d : Int), .int .u32 (St0.e : Int), .int .u32 (St0.f : Int), .int .u32 (St0.g : Int), .int .u32 (St0.h : Int)] 45)) := blk_alloc (blk_below (heap_alloc_last _ _) hb3) _
  have HS0 : StAt w3.heap.size St0 (w3.alloc (.cells #[.int .u32 (St0.a : Int), .int .u32 (St0.b : Int), .int .u32 (St0.c : Int), .int .u32 (St0.d : Int), .int .u32 (St0.e : Int), .int .u32 (St0.f : Int), .int .u32 (St0.g : Int), .int .u32 (St0.h : Int)] 45)) := heap_alloc_last _ _
  have q1 : Below w.heap.size w (w2.alloc (.cells (u32s shaK) 50)) := below_alloc HB2.out _
  have HB4 : Below w.heap.size w (w3.alloc (.cells #[.int .u32 (St0.a : Int), .int .u32 (St0.b : Int), .int .u32 (St0.c : Int), .int .u32 (St0.d : Int), .int .u32 (St0.e : Int), .int .u32 (St0.f : Int), .int .u32 (St0.g : Int), .int .u32 (St0.h : Int)] 45)) := below_alloc (below_then q1 q1.size hb3) _
  have hk1 : w2.heap.size ≠ w3.heap.size := by have := hb3.size; simp at this; omega
  have hk2 : w.heap.size ≤ w3.heap.size := by have := hb3.size; have := q1.size; omega
  have AK := Aside0.mk HK
  have AS := Aside0.mk HS0
  have AB := Aside0.mk HB4
  have A1 := Aside0.mk hk1
  have A2 := Aside0.mk hk2
  clear HK HS0 HB4 q1 hb3 hk1 hk2 HB2
  generalize w3.alloc (.cells #[.int .u32 (St0.a : Int), .int .u32 (St0.b : Int), .int .u32 (St0.c : Int), .int .u32 (St0.d : Int), .int .u32 (St0.e : Int), .int .u32 (St0.f : Int), .int .u32 (St0.g : Int), .int .u32 (St0.h : Int)] 45) = w4 at AK AS AB ⊢
  generalize w2.heap.size = gc at AK A1 ⊢
  generalize w3.heap.size = gh at AS A1 A2 ⊢
  obtain ⟨M, hM⟩ : ∃ M : Nat, (a0.size : Int) / 64 * 64 = (M : Int) := ⟨a0.size / 64 * 64, by omega⟩
  rw [hM]
  have hM2 : M ≤ a0.size := by omega
  have hM3 : a0.size < M + 64 := by omega
  have hM4 : ∃ j, M = 64 * j := ⟨a0.size / 64, by omega⟩
  have HM4 := Aside0.mk hM4
  clear hM hM4
  go_loopw [8] (fun i wr => ∃ (q j : Nat), i = .int .i64 q ∧ q ≤ M ∧ Aside0 (q = 64 * j) ∧ Aside0 (KAt gc wr) ∧ Aside0 (StAt gh (blks j St0 (allL a0)) wr) ∧ Aside0 (Below w.heap.size w wr)) (fun i _ => M - (intOf i).toNat)
  case atStart => exact ⟨0, 0, rfl, by omega, ⟨rfl⟩, AK, AS, AB⟩
  case round =>
    clear AK AS AB
    obtain ⟨q, j, rfl, hq, HJ, HK, HS, HB⟩ := hrel
    by_cases hlt : q < M
    · have hle : q + 64 ≤ a0.size := by
        obtain ⟨j', hj'⟩ := HM4.out
        have := HJ.out
        omega
      have hx : (a0.extract q (q + 64)).size = 64 := by simp; omega
      have HX := Aside0.mk hx
      clear hx
      generalize hst : blks j St0 (allL a0) = st at HS
      have hok : st.ok := by rw [← hst]; exact blks_ok _ _ _ St0_ok
      have HST := Aside0.mk hst
      have HOK := Aside0.mk hok
      clear hst hok
      obtain ⟨a, b, c, d, e, f, g, h⟩ := st
      have i1 := eq_true (show (q : Int) + 64 ≤ (a0.size : Int) by omega)
      have i2 := eq_true (show (q : Int) ≤ (q : Int) + 64 by omega)
      have i3 := eq_true (show 0 ≤ (q : Int) by omega)
      have i4 : ((q : Int) + 64).toNat = q + 64 := by omega
      have i5 : IntKind.i64.wrap ((q : Int) + 64) = (q : Int) + 64 := IntWalk.i64_in _ (by omega)
      go_wp2_with (fail)
      refine wp_still_tail 6 (by kernel_rfl) (by kernel_rfl) ?_
      intro W hW
      have hcv := cell_row8 (w := W) (g := gh) (t := 45) (by rw [hW]; exact HS.out)
      have HK2 : Aside0 (KAt gc W) := ⟨by rw [hW]; exact HK.out⟩
      have HS2 : Aside0 (StAt gh ⟨a, b, c, d, e, f, g, h⟩ W) := ⟨by rw [hW]; exact HS.out⟩
      have HB2 : Aside0 (Below w.heap.size w W) := ⟨by rw [hW]; exact pw_below_drewN HB.out 1⟩
      clear hW HS HK HB
      simp only [List.take_succ_cons, List.take_zero, List.drop_succ_cons, List.drop_zero]
      repeat still_step
      refine wpStill_nil ?_
      clear hcv
      go_wp2_with (first | (go_at_call 44; refine (sums_step.calls a b c d e f g h gc (a0.extract q (q + 64)) W HOK.out HX.out HK2.out).mono ?_; rintro e5 w5 ⟨⟨s', hs', rfl⟩, hb5⟩; generalize hV : #[Value.int .u32 (s'.a : Int), Value.int .u32 (s'.b : Int), Value.int .u32 (s'.c : Int), Value.int .u32 (s'.d : Int), Value.int .u32 (s'.e : Int), Value.int .u32 (s'.f : Int), Value.int .u32 (s'.g : Int), Value.int .u32 (s'.h : Int)] = V; have HV := Aside0.mk hV; clear hV; have HS5 := Aside0.mk hs'; have HB5 := Aside0.mk hb5; clear hs' hb5) | (refine wpList_store_row rfl 45 (.tmp 6) (.tmp 33) rfl gh V rfl rfl 45 _ (blk_below HS2.out HB5.out) (by rw [← HV.out]; exact HI8.out) (by rw [← HV.out]; rfl) (by rw [← HV.out]; exact u32s_one [s'.a, s'.b, s'.c, s'.d, s'.e, s'.f, s'.g, s'.h]) ?_))
      rw [← HV.out]
      have HK6 : Aside0 (KAt gc (w5.setRow gh #[.int .u32 (s'.a : Int), .int .u32 (s'.b : Int), .int .u32 (s'.c : Int), .int .u32 (s'.d : Int), .int .u32 (s'.e : Int), .int .u32 (s'.f : Int), .int .u32 (s'.g : Int), .int .u32 (s'.h : Int)])) := ⟨KAt.store (blk_below HK2.out HB5.out) A1.out _⟩
      have HS6 : Aside0 (StAt gh s' (w5.setRow gh #[.int .u32 (s'.a : Int), .int .u32 (s'.b : Int), .int .u32 (s'.c : Int), .int .u32 (s'.d : Int), .int .u32 (s'.e : Int), .int .u32 (s'.f : Int), .int .u32 (s'.g : Int), .int .u32 (s'.h : Int)])) := ⟨StAt.store (blk_below HS2.out HB5.out) s'⟩
      have HB6 : Aside0 (Below w.heap.size w (w5.setRow gh #[.int .u32 (s'.a : Int), .int .u32 (s'.b : Int), .int .u32 (s'.c : Int), .int .u32 (s'.d : Int), .int .u32 (s'.e : Int), .int .u32 (s'.f : Int), .int .u32 (s'.g : Int), .int .u32 (s'.h : Int)])) := ⟨below_setRow8 (below_then HB2.out HB2.out.size HB5.out) A2.out _⟩
      generalize w5.setRow gh #[.int .u32 (s'.a : Int), .int .u32 (s'.b : Int), .int .u32 (s'.c : Int), .int .u32 (s'.d : Int), .int .u32 (s'.e : Int), .int .u32 (s'.f : Int), .int .u32 (s'.g : Int), .int .u32 (s'.h : Int)] = w6 at HK6 HS6 HB6 ⊢
      go_wp2
      refine ⟨⟨q + 64, j + 1, by go_num, by obtain ⟨j', hj'⟩ := HM4.out; have := HJ.out; omega, ⟨by have := HJ.out; omega⟩, HK6, ⟨?_⟩, HB6⟩, by simp [intOf]; omega⟩
      have e : blks (j + 1) St0 (allL a0) = s' := by
        rw [blks_succ, HST.out, HS5.out, bys_extract, allL, ← HJ.out, List.drop_append_of_le_length (by rw [bys_length]; omega), List.take_append_of_le_length (by rw [List.length_drop, bys_length]; omega), Nat.add_sub_cancel_left]
      rw [e]
      exact HS6.out
    · have hqM : q = M := by omega
      subst hqM
      clear hlt hq
      have i1 := eq_true (show (q : Int) ≤ (a0.size : Int) by omega)
      have i3 := eq_true (show 0 ≤ (q : Int) by omega)
      have hsz : (a0.extract q a0.size).size ≤ 64 := by simp; omega
      have k1 : (a0.extract q a0.size).size + T.size ≤ 9223372036854775807 := by omega
      have k3 : (9223372036854775807 < (a0.extract q a0.size).size + T.size) = False := eq_false (Nat.not_lt.2 k1)
      go_wp2_with (fail)
      have HT : Aside0 (bys (a0.extract q a0.size ++ T) = (allL a0).drop (64 * j)) := ⟨by rw [bys_append, HTB.out, bys_extract, allL, ← HJ.out, List.drop_append_of_le_length (by rw [bys_length]; omega), List.take_of_length_le (by rw [List.length_drop, bys_length]; omega)]⟩
      have ht : (a0.extract q a0.size ++ T).size ≤ 200 := by rw [ByteArray.size_append]; omega
      have hjm : 64 * j ≤ 64 * m := by have := HJ.out; omega
      generalize a0.extract q a0.size ++ T = U at HT ht ⊢
      clear k1 k3 hsz i1 i3
      go_loopw [9] (fun t wr => ∃ (j : Nat) (τ : ByteArray), t = .string τ ∧ τ.size ≤ 200 ∧ Aside0 (bys τ = (allL a0).drop (64 * j)) ∧ Aside0 (64 * j ≤ 64 * m) ∧ Aside0 (KAt gc wr) ∧ Aside0 (StAt gh (blks j St0 (allL a0)) wr) ∧ Aside0 (Below w.heap.size w wr)) (fun t _ => strLen t)
      case atStart => exact ⟨j, U, rfl, ht, HT, ⟨hjm⟩, HK, HS, HB⟩
      case round =>
        clear HJ HK HS HB HT
        obtain ⟨j, τ, rfl, hτ, HT, HJ, HK, HS, HB⟩ := hrel
        have hlen : τ.size = 64 * m - 64 * j := by rw [← bys_length, HT.out, List.length_drop, HM.out]
        by_cases hz : τ.size = 0
        · have hτ0 : τ = ⟨#[]⟩ := by
            obtain ⟨⟨l⟩⟩ := τ
            congr
            cases l with
            | nil => rfl
            | cons x l => simp [ByteArray.size] at hz
          subst hτ0
          have hjm : j = m := by have := HJ.out; rw [hz] at hlen; omega
          clear hτ hlen hz HT
          rw [hjm] at HS
          generalize hst : blks m St0 (allL a0) = st at HS
          have HST := Aside0.mk hst
          clear hst
          obtain ⟨a, b, c, d, e, f, g, h⟩ := st
          have hcv := cell_row8 (w := wr) (g := gh) (t := 45) HS.out
          go_wp2_with (go_at_call 40; refine (sums_text.calls _ _ _ _ _ _ _ _ _).mono ?_; rintro e w7 ⟨rfl, hb7⟩)
          go_ret
          rw [HST.out]
          exact ⟨rfl, below_then HB.out HB.out.size hb7⟩
        · have hge : 64 ≤ τ.size := by have := HJ.out; omega
          have hx : (τ.extract 0 64).size = 64 := by simp; omega
          have HX := Aside0.mk hx
          have HL := Aside0.mk hlen
          clear hx hlen
          generalize hst : blks j St0 (allL a0) = st at HS
          have hok : st.ok := by rw [← hst]; exact blks_ok _ _ _ St0_ok
          have HST := Aside0.mk hst
          have HOK := Aside0.mk hok
          clear hst hok
          obtain ⟨a, b, c, d, e, f, g, h⟩ := st
          have i1 := eq_true (show (64 : Int) ≤ (τ.size : Int) by omega)
          have i2 : τ.toList.isEmpty = false := by
            rw [ByteArray.toList_eq]
            obtain ⟨⟨l⟩⟩ := τ
            cases l with
            | nil => exact absurd rfl hz
            | cons x l => rfl
          go_wp2_with (fail)
          refine wp_still_tail 3 (by kernel_rfl) (by kernel_rfl) ?_
          intro W hW
          have hcv := cell_row8 (w := W) (g := gh) (t := 45) (by rw [hW]; exact HS.out)
          have HK2 : Aside0 (KAt gc W) := ⟨by rw [hW]; exact HK.out⟩
          have HS2 : Aside0 (StAt gh ⟨a, b, c, d, e, f, g, h⟩ W) := ⟨by rw [hW]; exact HS.out⟩
          have HB2 : Aside0 (Below w.heap.size w W) := ⟨by rw [hW]; exact pw_below_drewN HB.out 1⟩
          clear hW HS HK HB
          simp only [List.take_succ_cons, List.take_zero, List.drop_succ_cons, List.drop_zero]
          repeat still_step
          refine wpStill_nil ?_
          clear hcv
          go_wp2_with (first | (go_at_call 44; refine (sums_step.calls a b c d e f g h gc (τ.extract 0 64) W HOK.out HX.out HK2.out).mono ?_; rintro e5 w5 ⟨⟨s', hs', rfl⟩, hb5⟩; generalize hV : #[Value.int .u32 (s'.a : Int), Value.int .u32 (s'.b : Int), Value.int .u32 (s'.c : Int), Value.int .u32 (s'.d : Int), Value.int .u32 (s'.e : Int), Value.int .u32 (s'.f : Int), Value.int .u32 (s'.g : Int), Value.int .u32 (s'.h : Int)] = V; have HV := Aside0.mk hV; clear hV; have HS5 := Aside0.mk hs'; have HB5 := Aside0.mk hb5; clear hs' hb5) | (refine wpList_store_row rfl 45 (.tmp 6) (.tmp 46) rfl gh V rfl rfl 45 _ (blk_below HS2.out HB5.out) (by rw [← HV.out]; exact HI8.out) (by rw [← HV.out]; rfl) (by rw [← HV.out]; exact u32s_one [s'.a, s'.b, s'.c, s'.d, s'.e, s'.f, s'.g, s'.h]) ?_))
          rw [← HV.out]
          have HK6 : Aside0 (KAt gc (w5.setRow gh #[.int .u32 (s'.a : Int), .int .u32 (s'.b : Int), .int .u32 (s'.c : Int), .int .u32 (s'.d : Int), .int .u32 (s'.e : Int), .int .u32 (s'.f : Int), .int .u32 (s'.g : Int), .int .u32 (s'.h : Int)])) := ⟨KAt.store (blk_below HK2.out HB5.out) A1.out _⟩
          have HS6 : Aside0 (StAt gh s' (w5.setRow gh #[.int .u32 (s'.a : Int), .int .u32 (s'.b : Int), .int .u32 (s'.c : Int), .int .u32 (s'.d : Int), .int .u32 (s'.e : Int), .int .u32 (s'.f : Int), .int .u32 (s'.g : Int), .int .u32 (s'.h : Int)])) := ⟨StAt.store (blk_below HS2.out HB5.out) s'⟩
          have HB6 : Aside0 (Below w.heap.size w (w5.setRow gh #[.int .u32 (s'.a : Int), .int .u32 (s'.b : Int), .int .u32 (s'.c : Int), .int .u32 (s'.d : Int), .int .u32 (s'.e : Int), .int .u32 (s'.f : Int), .int .u32 (s'.g : Int), .int .u32 (s'.h : Int)])) := ⟨below_setRow8 (below_then HB2.out HB2.out.size HB5.out) A2.out _⟩
          generalize w5.setRow gh #[.int .u32 (s'.a : Int), .int .u32 (s'.b : Int), .int .u32 (s'.c : Int), .int .u32 (s'.d : Int), .int .u32 (s'.e : Int), .int .u32 (s'.f : Int), .int .u32 (s'.g : Int), .int .u32 (s'.h : Int)] = w6 at HK6 HS6 HB6 ⊢
          go_wp2
          refine ⟨⟨j + 1, τ.extract 64 τ.size, rfl, by simp; omega, ⟨?_⟩, ⟨by have := HJ.out; have := HL.out; omega⟩, HK6, ⟨?_⟩, HB6⟩, by simp [strLen]; omega⟩
          · rw [bys_extract, HT.out, List.take_of_length_le (by have := HL.out; simp [HM.out]; omega), List.drop_drop]
            rfl
          · have e : blks (j + 1) St0 (allL a0) = s' := by
              rw [blks_succ, HST.out, HS5.out, bys_extract, HT.out]
              rfl
            rw [e]
            exact HS6.out
theorem sha_Sum.calls (a0 : ByteArray) (r : ByteArray) (w : World) (h : sha_Sum.f a0 = some r) :
    Calls Try.prog 24 #[.string a0] w fun e w' => e = .returned (.string r) ∧ Below w.heap.size w w' := by
  unfold sha_Sum.f sumF at h
  by_cases hc : a0.size ≤ 1000000000000
  · rw [if_pos hc] at h
    obtain rfl := Option.some.inj h
    exact shaSum a0 w hc
  · rw [if_neg hc] at h
    cases h
end Go.Proofs.Ytbmpcdpcdljibaa.Pr

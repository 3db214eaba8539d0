/- CodeCuts: the walk. -/
import Derived.Test.YtpeliaknceigdaaHCodeI
import Derived.Test.YtpeliaknceigdaaPrxf21
import Derived.Test.YtpeliaknceigdaaPrxf15
import Derived.Test.YtpeliaknceigdaaPrxf17
import Derived.Test.YtpeliaknceigdaaPrxf19
import Derived.Test.YtpeliaknceigdaaPrxe0
import Derived.Deep.RegionHeld3
import Derived.Deep.DrawnRows
import Derived.Test.YtpeliaknceigdaaPrxf9
import Derived.Test.YtpeliaknceigdaaHPartA
import Derived.Test.YtpeliaknceigdaaPrxf13
import Derived.StillTail
import Derived.StillTailTactics
namespace Go.Proofs.Ytpeliaknceigdaa.Pr
open Go.RowKit Go.Deep Go.Proofs.YtpeliaknceigdaaW.PrintWords Go.Proofs.YtpeliaknceigdaaW.PrintLast Go.Proofs.YtpeliaknceigdaaW.PrintMore
set_option maxHeartbeats 2000000
set_option linter.unusedVariables false
set_option linter.unusedSimpArgs false
attribute [local go_sem high] eqA40
attribute [local go_sem ↓] Go.wp_at_zero Go.wp_at_succ
theorem and_65535 (n : Int) : bits .and .i64 n 65535 = n % 65536 := by
  have h127 : (BitVec.ofInt 64 65535).toNat = 2 ^ 16 - 1 := by decide
  have key : (BitVec.ofInt 64 n &&& BitVec.ofInt 64 65535).toNat = (n % ((2 ^ 64 : Nat) : Int)).toNat % 2 ^ 16 := by
    rw [BitVec.toNat_and, BitVec.toNat_ofInt, h127, Nat.and_two_pow_sub_one_eq_mod]
  show IntKind.i64.wrap ((BitVec.ofInt 64 n &&& BitVec.ofInt 64 65535).toNat : Nat) = n % 65536
  rw [key, IntKind.wrap_i64]
  omega
theorem isS_keep {W W1 w0 : World} {g g' : Nat} {a : Bool} {s : ByteArray} {e : Int} (h : IsS57 w0 W g a s e) (hk : KeepBut W W1 g' none) (hne : g ≠ g') : IsS57 w0 W1 g a s e := by
  obtain ⟨hb, hg⟩ := h
  exact ⟨(hk.2 g (blk_lt hb) hne (by simp)).trans hb, hg⟩
theorem isS_elder {W w0 w1 : World} {g : Nat} {a : Bool} {s : ByteArray} {e : Int} (h : IsS57 w1 W g a s e) (hle : w0.heap.size ≤ w1.heap.size) : IsS57 w0 W g a s e := by
  obtain ⟨hb, hg⟩ := h
  exact ⟨hb, Nat.le_trans hle hg⟩
theorem isS_ge {W w0 : World} {g : Nat} {a : Bool} {s : ByteArray} {e : Int} (h : IsS57 w0 W g a s e) : w0.heap.size ≤ g := h.2
set_option maxRecDepth 100000 in
theorem cuts_law (w : World) (A : Option Addr) (c : Nat) (l : List S31) (hr : Kd.C k31 w A l.length l) (hc : l.length ≤ c) (hQ : ∀ y ∈ l, PartQ y) (hM : l.length ≤ maxLen) (left : Int) (hleft : (Lit.int .i64 left).wf = true) :
    Calls Try.prog 6 #[.slice A l.length c, .int .i64 left] w fun e w' => e = .returned (.bool true) ∧ Below w.heap.size w w' := by
  obtain ⟨n0, hx0, hn0⟩ : ∃ n : Nat, bits .and .i64 left 65535 = (n : Int) ∧ n < 65536 := ⟨(left % 65536).toNat, by rw [and_65535]; omega, by omega⟩
  clear hleft
  have HR := Aside0.mk hr
  have HC := Aside0.mk hc
  obtain ⟨fb, hf, hfew⟩ := few_loop l (by unfold maxLen at hM; omega) l.length (2 * l.length + 2) 0 (by omega) (by omega) (by omega)
  have HF := Aside0.mk (show samphirelaw09_few.f (2 * l.length + 2) l = some fb from hf)
  have HW := Aside0.mk hfew
  clear hr hc hf hfew
  cases fb with
  | false =>
    go_enter Try.func6, Try.ntmps6
    go_wp2_with (fail)
    refine (NewOut_calls w.heap.size w (Nat.le_refl _)).mono ?_
    rintro e w1 ⟨rfl, h1, b1⟩
    have B1 := Aside0.mk b1
    have HR1 := Aside0.mk (Kd.C_below HR.out b1)
    clear h1 b1
    go_wp2_with (fail)
    refine (samphirelaw09_few.calls _ A c l _ w1 HR1.out HC.out HF.out).mono ?_
    rintro e w2 ⟨rfl, ⟨nd, rfl⟩⟩
    go_wp2_with (fail)
    refine (awake_calls _).mono ?_
    rintro e w3 ⟨rfl, b3⟩
    have B3 := Aside0.mk (below_then (pw_below_drewN B1.out nd) (pw_below_drewN B1.out nd).size b3)
    clear b3
    go_wp2_with (fail)
    go_ret
    exact ⟨rfl, B3.out⟩
  | true =>
    go_enter Try.func6, Try.ntmps6
    go_wp2_with (fail)
    refine (NewOut_calls w.heap.size w (Nat.le_refl _)).mono ?_
    rintro e w1 ⟨rfl, h1, b1⟩
    have H1 := Aside0.mk h1
    have B1 := Aside0.mk b1
    have HR1 := Aside0.mk (Kd.C_below HR.out b1)
    clear h1 b1
    go_wp2_with (fail)
    refine (samphirelaw09_few.calls _ A c l _ w1 HR1.out HC.out HF.out).mono ?_
    rintro e w2 ⟨rfl, ⟨nd, rfl⟩⟩
    have H2 := Aside0.mk (H1.out.drewN nd)
    have B2 := Aside0.mk (pw_below_drewN B1.out nd)
    have HR2 := Aside0.mk (Kd.C_drewN HR1.out nd)
    have hz : w.heap.size < w1.heap.size := H1.out.lt
    clear H1 B1 HR1
    generalize w1.drewN nd = W at H2 B2 HR2 ⊢
    have hlen := (HW.out (by trivial)).1
    go_wp2_with (fail)
    clear HR2 hz
    go_loopw [6] (fun i wr => ∃ (k : Nat) (bad : Bool) (L : List Nat), k ≤ l.length ∧ i = .int .i64 k ∧ L.length ≤ 65536 ∧ Aside0 (OutAt w.heap.size w.heap.size true bad L wr) ∧ Aside0 (Below w.heap.size w wr) ∧ Aside0 (Wrote l k bad L)) (fun i _ => l.length - (intOf i).toNat)
    case atStart => exact ⟨0, false, [], by omega, rfl, by decide, H2, B2, ⟨fun _ => ⟨rfl, fun x hx => by simp at hx⟩⟩⟩
    case round =>
      obtain ⟨k, bad, L, hk, rfl, hL, HO, HB, HWR⟩ := hrel
      by_cases hlt : k < l.length
      · obtain ⟨ad, hA, c0, c1, c2, c3⟩ := at_T31 (Kd.C_below HR.out HB.out) (k : Int) (by omega) (by omega)
        subst hA
        rw [Int.toNat_natCast] at c0 c1 c2 c3
        have hx : l[k]? = some (rd_T31 l (k : Int)) := by simp [rd_T31, hlt]
        generalize rd_T31 l (k : Int) = x at hx c0 c1 c2 c3
        have hxs := (HW.out trivial).2 k x (by omega) hx
        have HX := Aside0.mk hx
        clear hx
        go_wp2_with (fail)
        refine (writes_any w.heap.size w.heap.size true bad L ⟨#[]⟩ false x.f0 x.f1 x.f2 x.f3 wr HO.out hL (by decide) (by omega) HB.out.size).mono ?_
        unfold WritesPost
        have hl5 := outStep_len bad L (partOk x.f0 x.f1 x.f2 x.f3) (partBy x.f0 x.f1 x.f2 x.f3) hL
        generalize hos : outStep bad L (partOk x.f0 x.f1 x.f2 x.f3) (partBy x.f0 x.f1 x.f2 x.f3) = r at hl5 ⊢
        generalize refStep ⟨#[]⟩ false (partOk x.f0 x.f1 x.f2 x.f3) (partBy x.f0 x.f1 x.f2 x.f3) = r2
        obtain ⟨bad', L'⟩ := r
        obtain ⟨ra, rb⟩ := r2
        rintro e w5 ⟨rfl, h2, h3, h4⟩
        have HWR5 := Aside0.mk (wrote_next HWR.out HX.out hos)
        have HO5 := Aside0.mk (show OutAt w.heap.size w.heap.size true bad' L' w5 from h2)
        have HB5 := Aside0.mk (HB.out.trans h4)
        have hl6 : L'.length ≤ 65536 := hl5
        clear h2 h3 h4 hl5 hos c0 c1 c2 c3
        go_wp2_with (fail)
        refine ⟨⟨k + 1, bad', L', by omega, by go_num, hl6, HO5, HB5, HWR5⟩, by simp [intOf]; omega⟩
      · obtain rfl : k = l.length := by omega
        clear hlt hk
        cases bad with
        | true =>
          go_wp2_with (fail)
          refine (Out_Done_bad w.heap.size w.heap.size true true L _ HO.out (.inr rfl)).mono ?_
          rintro e w7 ⟨rfl, rfl⟩
          go_wp2_with (fail)
          refine (awake_calls _).mono ?_
          rintro e w7 ⟨rfl, b7⟩
          have B7 := Aside0.mk (below_then HB.out HB.out.size b7)
          clear b7
          go_wp2_with (fail)
          go_ret
          exact ⟨rfl, B7.out⟩
        | false =>
          obtain ⟨hLl, hpk⟩ := HWR.out rfl
          rw [List.take_length] at hLl hpk
          have HPK := Aside0.mk hpk
          have HLL := Aside0.mk hLl
          clear hLl hpk
          have hts : (txt L).size = L.length := txt_size L
          by_cases hL0 : L = []
          · have htl : (txt L).toList = [] := by rw [hL0, txt_toList]; rfl
            have htl2 : (txt L).toList.isEmpty = true := by rw [htl]; rfl
            clear hL0 hts
            go_wp2_with (fail)
            refine (Out_Done w.heap.size w.heap.size L _ HO.out).mono ?_
            rintro e w7 ⟨rfl, rfl⟩
            go_wp2_with (fail)
            refine (awake_calls _).mono ?_
            rintro e w7 ⟨rfl, b7⟩
            have B7 := Aside0.mk (below_then HB.out HB.out.size b7)
            clear b7
            go_wp2_with (fail)
            go_ret
            exact ⟨rfl, B7.out⟩
          have hne0 : 1 ≤ L.length := by
            rcases L with _ | ⟨a, L⟩
            · exact absurd rfl hL0
            · simp
          have htn : (txt L).toList.isEmpty = false := by
            rw [txt_toList]
            rcases L with _ | ⟨a, L⟩
            · exact absurd rfl hL0
            · rfl
          have htn2 : ¬ (txt L).toList = [] := by intro h; rw [h] at htn; cases htn
          have HL0 := Aside0.mk hL0
          clear hL0
          go_wp2_with (fail)
          refine (Out_Done w.heap.size w.heap.size L _ HO.out).mono ?_
          rintro e w7 ⟨rfl, rfl⟩
          generalize hTe : txt L = T at hts htn htn2 ⊢
          have HTE := Aside0.mk hTe
          clear hTe
          have s3 := Int.emod_nonneg (n0 : Int) (show (L.length : Int) ≠ 0 by omega)
          have s4 := Int.emod_lt_of_pos (n0 : Int) (show (0 : Int) < (L.length : Int) by omega)
          have i1 := eq_true s3
          have i2 := eq_true (show (n0 : Int) % (L.length : Int) ≤ (L.length : Int) by omega)
          have s5 : T.size + 1 ≤ 9223372036854775807 := by omega
          have s6 : L.length + 1 ≤ 9223372036854775807 := by omega
          clear s3 s4
          go_wp2_with (fail)
          have hm0 : n0 % L.length < L.length := Nat.mod_lt _ (by omega)
          generalize n0 % L.length = m0 at hm0 ⊢
          refine (code_NewIn.calls (T.extract 0 m0) _ _ _ w wr HB.out rfl).mono ?_
          rintro e w8 ⟨gi, rfl, hi8, b8, _⟩
          have HI8 := Aside0.mk hi8
          have HB8 := Aside0.mk b8
          clear hi8 b8 i1 i2
          go_wp2_with (fail)
          refine (code_NewIn.calls (T ++ (⟨#[120]⟩ : ByteArray)) _ _ _ w8 w8 (Below.refl _ _) rfl).mono ?_
          rintro e w9 ⟨gj, rfl, hj9, b9, _⟩
          have HI9 := Aside0.mk (IsS57.below HI8.out b9)
          have hij : gi ≠ gj := by have := isS_ge hj9; have := IsS57.lt HI8.out; omega
          have HJ9 := Aside0.mk (isS_elder (w0 := w) hj9 HB8.out.size)
          have HB9 := Aside0.mk (below_then HB8.out HB8.out.size b9)
          have HI10 : Aside0 (∃ s e, IsS57 w w9 gi true s e ∧ InSt s e ((l.drop 0).flatMap pby)) := ⟨T.extract 0 m0, 0, HI9.out, .inl ⟨rfl, L.take m0, by rw [← HTE.out, txt_extract]; simp, L.drop m0, by intro h; have := congrArg List.length h; rw [List.length_drop, List.length_nil] at this; omega, by rw [List.take_append_drop, HLL.out]; rfl⟩⟩
          have HJ10 : Aside0 (IsS57 w w9 gj true (txt ((l.drop 0).flatMap pby ++ [120])) 0) := ⟨by rw [List.drop_zero, ← HLL.out, txt_append, HTE.out]; exact HJ9.out⟩
          clear hj9 b9 HI8 HB8 HI9 HJ9 HO HL0 s5 s6 htn htn2 hts hm0
          go_wp2_with (fail)
          go_loopw [11] (fun i wr => ∃ (k : Nat), k ≤ l.length ∧ i = .int .i64 k ∧ Aside0 (∃ s e, IsS57 w wr gi true s e ∧ InSt s e ((l.drop k).flatMap pby)) ∧ Aside0 (IsS57 w wr gj true (txt ((l.drop k).flatMap pby ++ [120])) 0) ∧ Aside0 (Below w.heap.size w wr)) (fun i _ => l.length - (intOf i).toNat)
          case atStart => exact ⟨0, by omega, rfl, HI10, HJ10, HB9⟩
          case round =>
          clear HI10 HJ10 HB9
          obtain ⟨k, hk, rfl, HIS, HJ, HB⟩ := hrel
          obtain ⟨s, e, hi, hs⟩ := HIS.out
          have HI := Aside0.mk hi
          have HS := Aside0.mk hs
          clear hi hs HIS
          by_cases hlt : k < l.length
          · obtain ⟨ad, hA, c0, c1, c2, c3⟩ := at_T31 (Kd.C_below HR.out HB.out) (k : Int) (by omega) (by omega)
            subst hA
            rw [Int.toNat_natCast] at c0 c1 c2 c3
            have hx : l[k]? = some (rd_T31 l (k : Int)) := by simp [rd_T31, hlt]
            generalize rd_T31 l (k : Int) = x at hx c0 c1 c2 c3
            have hpx : partOk x.f0 x.f1 x.f2 x.f3 = true := HPK.out x (List.mem_of_getElem? hx)
            have hd := drop_parts hx
            rw [hd] at HS HJ
            clear hx hd
            generalize hRe : (l.drop (k + 1)).flatMap pby = R at HS HJ
            have HRE := Aside0.mk hRe
            obtain ⟨rb, s', e', hri, hsi⟩ := reads_cut s e x.f0 x.f1 x.f2 x.f3 R hpx HS.out
            obtain ⟨rb2, hrj⟩ := reads_whole x.f0 x.f1 x.f2 x.f3 (R ++ [120]) hpx
            rw [List.append_assoc] at HJ
            have HRI := Aside0.mk hri
            have HRJ := Aside0.mk hrj
            have HSI := Aside0.mk hsi
            clear hRe hri hrj hsi hpx
            have hgi : gi < wr.heap.size := IsS57.lt HI.out
            have hgj : gj < wr.heap.size := IsS57.lt HJ.out
            have hwz : w.heap.size ≤ wr.heap.size := HB.out.size
            have HI5 := Aside0.mk (IsS57.alloc HI.out (.cells #[.int .i64 x.f0, .int .i64 (cutN x.f0 x.f1), .int .i64 x.f2, .string x.f3] 31))
            have HJ5 := Aside0.mk (IsS57.alloc HJ.out (.cells #[.int .i64 x.f0, .int .i64 (cutN x.f0 x.f1), .int .i64 x.f2, .string x.f3] 31))
            have HB5 := Aside0.mk (below_alloc HB.out (.cells #[.int .i64 x.f0, .int .i64 (cutN x.f0 x.f1), .int .i64 x.f2, .string x.f3] 31))
            have HP5 := Aside0.mk (heap_alloc_new wr (.cells #[.int .i64 x.f0, .int .i64 (cutN x.f0 x.f1), .int .i64 x.f2, .string x.f3] 31))
            by_cases t1 : x.f0 < 1
            · have ecut : cutN x.f0 x.f1 = 65536 := if_pos (.inl t1)
              have t1b : decide (x.f0 < 1) = true := decide_eq_true t1
              rw [ecut] at HI5 HJ5 HB5 HP5 HRI HRJ
              clear ecut t1
              go_wp2_with (fail)
              generalize hWe : wr.alloc (.cells #[.int .i64 x.f0, .int .i64 (65536), .int .i64 x.f2, .string x.f3] 31) = W5 at HI5 HJ5 HB5 HP5 ⊢
              have hz5 : W5.heap.size = wr.heap.size + 1 := by rw [← hWe]; simp
              have HZ5 := Aside0.mk hz5
              clear hWe hz5
              refine (samphirelaw09_reads.calls 10 gi _ _ _ _ _ _ _ _ _ _ _ _ _ _ _ w W5 HI5.out HB5.out HRI.out).mono ?_
              rintro e6 w6 ⟨rfl, hi6, b6, k6⟩
              have hp6 : w6.heap[wr.heap.size]? = some (.cells #[.int .i64 x.f0, .int .i64 (65536), .int .i64 x.f2, .string x.f3] 31 (0, 0)) := (k6.2 _ (blk_lt HP5.out) (by omega) (by simp)).trans HP5.out
              have hz6 : wr.heap.size + 1 ≤ w6.heap.size := by have := k6.1; have := HZ5.out; omega
              have HI6 := Aside0.mk (IsS57.alloc hi6 (.cells #[.string (⟨#[]⟩ : ByteArray), .int .i64 90] 45))
              have HJ6 := Aside0.mk (IsS57.alloc (isS_keep HJ5.out k6 (Ne.symm hij)) (.cells #[.string (⟨#[]⟩ : ByteArray), .int .i64 90] 45))
              have HB6 := Aside0.mk (below_alloc b6 (.cells #[.string (⟨#[]⟩ : ByteArray), .int .i64 90] 45))
              have HQ6 := Aside0.mk (heap_alloc_new w6 (.cells #[.string (⟨#[]⟩ : ByteArray), .int .i64 90] 45))
              have d0 : (w6.alloc (.cells #[.string (⟨#[]⟩ : ByteArray), .int .i64 90] 45)).cell? ⟨wr.heap.size, 0, none⟩ = some (.int .i64 x.f0) := by rw [cell_of_row _ _ _ _ _ _ (blk_alloc hp6 _)]; rfl
              have d1 : (w6.alloc (.cells #[.string (⟨#[]⟩ : ByteArray), .int .i64 90] 45)).cell? ⟨wr.heap.size, 1, none⟩ = some (.int .i64 (65536)) := by rw [cell_of_row _ _ _ _ _ _ (blk_alloc hp6 _)]; rfl
              have d2 : (w6.alloc (.cells #[.string (⟨#[]⟩ : ByteArray), .int .i64 90] 45)).cell? ⟨wr.heap.size, 2, none⟩ = some (.int .i64 x.f2) := by rw [cell_of_row _ _ _ _ _ _ (blk_alloc hp6 _)]; rfl
              have d3 : (w6.alloc (.cells #[.string (⟨#[]⟩ : ByteArray), .int .i64 90] 45)).cell? ⟨wr.heap.size, 3, none⟩ = some (.string x.f3) := by rw [cell_of_row _ _ _ _ _ _ (blk_alloc hp6 _)]; rfl
              clear hi6 b6 k6 hp6
              go_wp2_with (fail)
              generalize hWe : w6.alloc (.cells #[.string (⟨#[]⟩ : ByteArray), .int .i64 90] 45) = W6 at HI6 HJ6 HB6 HQ6 ⊢
              clear hWe d0 d1 d2 d3
              refine (samphirelaw09_reads.calls 10 gj _ _ _ _ _ _ _ _ _ _ _ _ _ _ _ w W6 HJ6.out HB6.out HRJ.out).mono ?_
              rintro e7 w7 ⟨rfl, hj7, b7, k7⟩
              have hq7 : w7.heap[w6.heap.size]? = some (.cells #[.string (⟨#[]⟩ : ByteArray), .int .i64 90] 45 (0, 0)) := (k7.2 _ (blk_lt HQ6.out) (by omega) (by simp)).trans HQ6.out
              have HI7 := Aside0.mk (IsS57.alloc (isS_keep HI6.out k7 hij) (.cells #[.string (⟨#[]⟩ : ByteArray), .int .i64 90] 45))
              have HJ7 := Aside0.mk (IsS57.alloc hj7 (.cells #[.string (⟨#[]⟩ : ByteArray), .int .i64 90] 45))
              have HB7 := Aside0.mk (below_alloc b7 (.cells #[.string (⟨#[]⟩ : ByteArray), .int .i64 90] 45))
              have hl7 : w6.heap.size < w7.heap.size := blk_lt hq7
              have d1 : (w7.alloc (.cells #[.string (⟨#[]⟩ : ByteArray), .int .i64 90] 45)).cell? ⟨w6.heap.size, 1, none⟩ = some (.int .i64 90) := by rw [cell_of_row _ _ _ _ _ _ (blk_alloc hq7 _)]; rfl
              clear hj7 b7 k7 hq7
              go_wp2_with (fail)
              refine ⟨⟨k + 1, by omega, by go_num, ⟨s', e', HI7.out, by rw [HRE.out]; exact HSI.out⟩, ⟨by rw [HRE.out]; exact HJ7.out⟩, HB7⟩, by simp [intOf]; omega⟩
            by_cases t3 : 3 < x.f0
            · have ecut : cutN x.f0 x.f1 = 65536 := if_pos (.inr t3)
              have t1b : decide (x.f0 < 1) = false := decide_eq_false t1
              have t3b : decide (3 < x.f0) = true := decide_eq_true t3
              rw [ecut] at HI5 HJ5 HB5 HP5 HRI HRJ
              clear ecut t1 t3
              go_wp2_with (fail)
              generalize hWe : wr.alloc (.cells #[.int .i64 x.f0, .int .i64 (65536), .int .i64 x.f2, .string x.f3] 31) = W5 at HI5 HJ5 HB5 HP5 ⊢
              have hz5 : W5.heap.size = wr.heap.size + 1 := by rw [← hWe]; simp
              have HZ5 := Aside0.mk hz5
              clear hWe hz5
              refine (samphirelaw09_reads.calls 10 gi _ _ _ _ _ _ _ _ _ _ _ _ _ _ _ w W5 HI5.out HB5.out HRI.out).mono ?_
              rintro e6 w6 ⟨rfl, hi6, b6, k6⟩
              have hp6 : w6.heap[wr.heap.size]? = some (.cells #[.int .i64 x.f0, .int .i64 (65536), .int .i64 x.f2, .string x.f3] 31 (0, 0)) := (k6.2 _ (blk_lt HP5.out) (by omega) (by simp)).trans HP5.out
              have hz6 : wr.heap.size + 1 ≤ w6.heap.size := by have := k6.1; have := HZ5.out; omega
              have HI6 := Aside0.mk (IsS57.alloc hi6 (.cells #[.string (⟨#[]⟩ : ByteArray), .int .i64 90] 45))
              have HJ6 := Aside0.mk (IsS57.alloc (isS_keep HJ5.out k6 (Ne.symm hij)) (.cells #[.string (⟨#[]⟩ : ByteArray), .int .i64 90] 45))
              have HB6 := Aside0.mk (below_alloc b6 (.cells #[.string (⟨#[]⟩ : ByteArray), .int .i64 90] 45))
              have HQ6 := Aside0.mk (heap_alloc_new w6 (.cells #[.string (⟨#[]⟩ : ByteArray), .int .i64 90] 45))
              have d0 : (w6.alloc (.cells #[.string (⟨#[]⟩ : ByteArray), .int .i64 90] 45)).cell? ⟨wr.heap.size, 0, none⟩ = some (.int .i64 x.f0) := by rw [cell_of_row _ _ _ _ _ _ (blk_alloc hp6 _)]; rfl
              have d1 : (w6.alloc (.cells #[.string (⟨#[]⟩ : ByteArray), .int .i64 90] 45)).cell? ⟨wr.heap.size, 1, none⟩ = some (.int .i64 (65536)) := by rw [cell_of_row _ _ _ _ _ _ (blk_alloc hp6 _)]; rfl
              have d2 : (w6.alloc (.cells #[.string (⟨#[]⟩ : ByteArray), .int .i64 90] 45)).cell? ⟨wr.heap.size, 2, none⟩ = some (.int .i64 x.f2) := by rw [cell_of_row _ _ _ _ _ _ (blk_alloc hp6 _)]; rfl
              have d3 : (w6.alloc (.cells #[.string (⟨#[]⟩ : ByteArray), .int .i64 90] 45)).cell? ⟨wr.heap.size, 3, none⟩ = some (.string x.f3) := by rw [cell_of_row _ _ _ _ _ _ (blk_alloc hp6 _)]; rfl
              clear hi6 b6 k6 hp6
              go_wp2_with (fail)
              generalize hWe : w6.alloc (.cells #[.string (⟨#[]⟩ : ByteArray), .int .i64 90] 45) = W6 at HI6 HJ6 HB6 HQ6 ⊢
              clear hWe d0 d1 d2 d3
              refine (samphirelaw09_reads.calls 10 gj _ _ _ _ _ _ _ _ _ _ _ _ _ _ _ w W6 HJ6.out HB6.out HRJ.out).mono ?_
              rintro e7 w7 ⟨rfl, hj7, b7, k7⟩
              have hq7 : w7.heap[w6.heap.size]? = some (.cells #[.string (⟨#[]⟩ : ByteArray), .int .i64 90] 45 (0, 0)) := (k7.2 _ (blk_lt HQ6.out) (by omega) (by simp)).trans HQ6.out
              have HI7 := Aside0.mk (IsS57.alloc (isS_keep HI6.out k7 hij) (.cells #[.string (⟨#[]⟩ : ByteArray), .int .i64 90] 45))
              have HJ7 := Aside0.mk (IsS57.alloc hj7 (.cells #[.string (⟨#[]⟩ : ByteArray), .int .i64 90] 45))
              have HB7 := Aside0.mk (below_alloc b7 (.cells #[.string (⟨#[]⟩ : ByteArray), .int .i64 90] 45))
              have hl7 : w6.heap.size < w7.heap.size := blk_lt hq7
              have d1 : (w7.alloc (.cells #[.string (⟨#[]⟩ : ByteArray), .int .i64 90] 45)).cell? ⟨w6.heap.size, 1, none⟩ = some (.int .i64 90) := by rw [cell_of_row _ _ _ _ _ _ (blk_alloc hq7 _)]; rfl
              clear hj7 b7 k7 hq7
              go_wp2_with (fail)
              refine ⟨⟨k + 1, by omega, by go_num, ⟨s', e', HI7.out, by rw [HRE.out]; exact HSI.out⟩, ⟨by rw [HRE.out]; exact HJ7.out⟩, HB7⟩, by simp [intOf]; omega⟩
            · have ecut : cutN x.f0 x.f1 = x.f1 := if_neg (by omega)
              have t1b : decide (x.f0 < 1) = false := decide_eq_false t1
              have t3b : decide (3 < x.f0) = false := decide_eq_false t3
              rw [ecut] at HI5 HJ5 HB5 HP5 HRI HRJ
              clear ecut t1 t3
              go_wp2_with (fail)
              generalize hWe : wr.alloc (.cells #[.int .i64 x.f0, .int .i64 (x.f1), .int .i64 x.f2, .string x.f3] 31) = W5 at HI5 HJ5 HB5 HP5 ⊢
              have hz5 : W5.heap.size = wr.heap.size + 1 := by rw [← hWe]; simp
              have HZ5 := Aside0.mk hz5
              clear hWe hz5
              refine (samphirelaw09_reads.calls 10 gi _ _ _ _ _ _ _ _ _ _ _ _ _ _ _ w W5 HI5.out HB5.out HRI.out).mono ?_
              rintro e6 w6 ⟨rfl, hi6, b6, k6⟩
              have hp6 : w6.heap[wr.heap.size]? = some (.cells #[.int .i64 x.f0, .int .i64 (x.f1), .int .i64 x.f2, .string x.f3] 31 (0, 0)) := (k6.2 _ (blk_lt HP5.out) (by omega) (by simp)).trans HP5.out
              have hz6 : wr.heap.size + 1 ≤ w6.heap.size := by have := k6.1; have := HZ5.out; omega
              have HI6 := Aside0.mk (IsS57.alloc hi6 (.cells #[.string (⟨#[]⟩ : ByteArray), .int .i64 90] 45))
              have HJ6 := Aside0.mk (IsS57.alloc (isS_keep HJ5.out k6 (Ne.symm hij)) (.cells #[.string (⟨#[]⟩ : ByteArray), .int .i64 90] 45))
              have HB6 := Aside0.mk (below_alloc b6 (.cells #[.string (⟨#[]⟩ : ByteArray), .int .i64 90] 45))
              have HQ6 := Aside0.mk (heap_alloc_new w6 (.cells #[.string (⟨#[]⟩ : ByteArray), .int .i64 90] 45))
              have d0 : (w6.alloc (.cells #[.string (⟨#[]⟩ : ByteArray), .int .i64 90] 45)).cell? ⟨wr.heap.size, 0, none⟩ = some (.int .i64 x.f0) := by rw [cell_of_row _ _ _ _ _ _ (blk_alloc hp6 _)]; rfl
              have d1 : (w6.alloc (.cells #[.string (⟨#[]⟩ : ByteArray), .int .i64 90] 45)).cell? ⟨wr.heap.size, 1, none⟩ = some (.int .i64 (x.f1)) := by rw [cell_of_row _ _ _ _ _ _ (blk_alloc hp6 _)]; rfl
              have d2 : (w6.alloc (.cells #[.string (⟨#[]⟩ : ByteArray), .int .i64 90] 45)).cell? ⟨wr.heap.size, 2, none⟩ = some (.int .i64 x.f2) := by rw [cell_of_row _ _ _ _ _ _ (blk_alloc hp6 _)]; rfl
              have d3 : (w6.alloc (.cells #[.string (⟨#[]⟩ : ByteArray), .int .i64 90] 45)).cell? ⟨wr.heap.size, 3, none⟩ = some (.string x.f3) := by rw [cell_of_row _ _ _ _ _ _ (blk_alloc hp6 _)]; rfl
              clear hi6 b6 k6 hp6
              go_wp2_with (fail)
              generalize hWe : w6.alloc (.cells #[.string (⟨#[]⟩ : ByteArray), .int .i64 90] 45) = W6 at HI6 HJ6 HB6 HQ6 ⊢
              clear hWe d0 d1 d2 d3
              refine (samphirelaw09_reads.calls 10 gj _ _ _ _ _ _ _ _ _ _ _ _ _ _ _ w W6 HJ6.out HB6.out HRJ.out).mono ?_
              rintro e7 w7 ⟨rfl, hj7, b7, k7⟩
              have hq7 : w7.heap[w6.heap.size]? = some (.cells #[.string (⟨#[]⟩ : ByteArray), .int .i64 90] 45 (0, 0)) := (k7.2 _ (blk_lt HQ6.out) (by omega) (by simp)).trans HQ6.out
              have HI7 := Aside0.mk (IsS57.alloc (isS_keep HI6.out k7 hij) (.cells #[.string (⟨#[]⟩ : ByteArray), .int .i64 90] 45))
              have HJ7 := Aside0.mk (IsS57.alloc hj7 (.cells #[.string (⟨#[]⟩ : ByteArray), .int .i64 90] 45))
              have HB7 := Aside0.mk (below_alloc b7 (.cells #[.string (⟨#[]⟩ : ByteArray), .int .i64 90] 45))
              have hl7 : w6.heap.size < w7.heap.size := blk_lt hq7
              have d1 : (w7.alloc (.cells #[.string (⟨#[]⟩ : ByteArray), .int .i64 90] 45)).cell? ⟨w6.heap.size, 1, none⟩ = some (.int .i64 90) := by rw [cell_of_row _ _ _ _ _ _ (blk_alloc hq7 _)]; rfl
              clear hj7 b7 k7 hq7
              go_wp2_with (fail)
              refine ⟨⟨k + 1, by omega, by go_num, ⟨s', e', HI7.out, by rw [HRE.out]; exact HSI.out⟩, ⟨by rw [HRE.out]; exact HJ7.out⟩, HB7⟩, by simp [intOf]; omega⟩
          · obtain rfl : k = l.length := by omega
            clear hlt hk
            rw [List.drop_length, List.flatMap_nil] at HS HJ
            rw [List.nil_append] at HJ
            obtain ⟨rfl, rfl⟩ : e = 90 ∧ s = ⟨#[]⟩ := by
              rcases HS.out with ⟨_, T2, _, X, hX, hR⟩ | h
              · exact absurd (List.append_eq_nil_iff.1 hR.symm).2 hX
              · exact h
            go_wp2_with (fail)
            refine (code_In_Done.calls gi true _ _ 90 true ⟨#[]⟩ 90 w _ HI.out HB.out (by decide +kernel)).mono ?_
            rintro e9 w9 ⟨rfl, hi9, b9, k9⟩
            have HI9 := Aside0.mk hi9
            have HJ9 := Aside0.mk (isS_keep HJ.out k9 (Ne.symm hij))
            have HB9 := Aside0.mk b9
            clear hi9 b9 k9
            go_wp2_with (fail)
            refine (code_In_Rest.calls gi true _ _ 0 true ⟨#[]⟩ 90 w _ HI9.out HB9.out (by decide +kernel)).mono ?_
            rintro e10 w10 ⟨rfl, hi10, b10, k10⟩
            have HJ10 := Aside0.mk (isS_keep HJ9.out k10 (Ne.symm hij))
            have HB10 := Aside0.mk b10
            clear hi10 b10 k10
            go_wp2_with (fail)
            refine (code_In_Done.calls gj true _ _ 91 true (txt [120]) 0 w _ HJ10.out HB10.out (by decide +kernel)).mono ?_
            rintro e11 w11 ⟨rfl, hj11, b11, k11⟩
            have HJ11 := Aside0.mk hj11
            have HB11 := Aside0.mk b11
            clear hj11 b11 k11
            go_wp2_with (fail)
            refine (code_In_Rest.calls gj true _ _ 1 true (txt [120]) 0 w _ HJ11.out HB11.out (by decide +kernel)).mono ?_
            rintro e12 w12 ⟨rfl, hj12, b12, k12⟩
            have HB12 := Aside0.mk b12
            clear hj12 b12 k12
            go_wp2_with (fail)
            refine (awake_calls _).mono ?_
            rintro e13 w13 ⟨rfl, b13⟩
            have B13 := Aside0.mk (below_then HB12.out HB12.out.size b13)
            clear b13
            go_wp2_with (fail)
            go_ret
            exact ⟨rfl, B13.out⟩
end Go.Proofs.Ytpeliaknceigdaa.Pr

/- poly.read: the walk. -/
import Derived.Test.YtmablneefndedaaHPolB
import Derived.Test.YtmablneefndedaaHTxtA
namespace Go.Proofs.Ytmablneefndedaa.Pr
open Go.RowKit Go.Deep Go.Proofs.YtmablneefndedaaW.PrintWords Go.Proofs.YtmablneefndedaaW.PrintLast Go.Proofs.YtmablneefndedaaW.PrintMore
set_option maxHeartbeats 2000000
set_option linter.unusedVariables false
set_option linter.unusedSimpArgs false
theorem or_shl (x y q i : Nat) (hq : q = 2 ^ i) (hi : q ≤ 67108864) (hx : x < q) (hy : y < 256) :
    bits .or .u64 (x : Int) (IntKind.u64.wrap (IntKind.u64.wrap (y : Int) * (q : Int))) = ((x + y * q : Nat) : Int) := by
  have h2 : y * q ≤ 256 * 67108864 := Nat.mul_le_mul (by omega) hi
  rw [wraps_u64 (y : Int) (by omega) (by omega), show (y : Int) * (q : Int) = ((y * q : Nat) : Int) by simp, wraps_u64 _ (Int.natCast_nonneg _) (by omega), or64 _ _ (by omega) (by omega)]
  have h3 : x ||| y * q = x + y * q := by
    rw [Nat.or_comm, Nat.mul_comm y q, hq, ← Nat.two_pow_add_eq_or_of_lt (by rw [← hq]; exact hx) y, ← hq]
    omega
  rw [h3]
theorem or_zero64 (x : Nat) (hx : x < 18446744073709551616) : bits .or .u64 0 (x : Int) = (x : Int) := by
  have := or64 0 x (by decide) hx
  rw [show ((0 : Nat) : Int) = 0 from rfl] at this
  rw [this]
  simp
theorem rd_0 (V y : Nat) (hV : V < 1) (hy : y < 256) : limbs (V + 1 * y) = (limbs V).set 0 (V % 67108864 + y * 1) := by
  simp only [limbs, List.set_cons_succ, List.set_cons_zero, List.cons.injEq, and_true]
  refine ⟨?_, ?_, ?_, ?_, ?_⟩ <;> omega
theorem rd_1 (V y : Nat) (hV : V < 256) (hy : y < 256) : limbs (V + 256 * y) = (limbs V).set 0 (V % 67108864 + y * 256) := by
  simp only [limbs, List.set_cons_succ, List.set_cons_zero, List.cons.injEq, and_true]
  refine ⟨?_, ?_, ?_, ?_, ?_⟩ <;> omega
theorem rd_2 (V y : Nat) (hV : V < 65536) (hy : y < 256) : limbs (V + 65536 * y) = (limbs V).set 0 (V % 67108864 + y * 65536) := by
  simp only [limbs, List.set_cons_succ, List.set_cons_zero, List.cons.injEq, and_true]
  refine ⟨?_, ?_, ?_, ?_, ?_⟩ <;> omega
theorem rd_3 (V y : Nat) (hV : V < 16777216) (hy : y < 256) : limbs (V + 16777216 * y) = ((limbs V).set 1 ((V % 67108864 + y * 16777216) / 67108864)).set 0 ((V % 67108864 + y * 16777216) % 67108864) := by
  simp only [limbs, List.set_cons_succ, List.set_cons_zero, List.cons.injEq, and_true]
  refine ⟨?_, ?_, ?_, ?_, ?_⟩ <;> omega
theorem rd_4 (V y : Nat) (hV : V < 4294967296) (hy : y < 256) : limbs (V + 4294967296 * y) = (limbs V).set 1 (V / 67108864 % 67108864 + y * 64) := by
  simp only [limbs, List.set_cons_succ, List.set_cons_zero, List.cons.injEq, and_true]
  refine ⟨?_, ?_, ?_, ?_, ?_⟩ <;> omega
theorem rd_5 (V y : Nat) (hV : V < 1099511627776) (hy : y < 256) : limbs (V + 1099511627776 * y) = (limbs V).set 1 (V / 67108864 % 67108864 + y * 16384) := by
  simp only [limbs, List.set_cons_succ, List.set_cons_zero, List.cons.injEq, and_true]
  refine ⟨?_, ?_, ?_, ?_, ?_⟩ <;> omega
theorem rd_6 (V y : Nat) (hV : V < 281474976710656) (hy : y < 256) : limbs (V + 281474976710656 * y) = ((limbs V).set 2 ((V / 67108864 % 67108864 + y * 4194304) / 67108864)).set 1 ((V / 67108864 % 67108864 + y * 4194304) % 67108864) := by
  simp only [limbs, List.set_cons_succ, List.set_cons_zero, List.cons.injEq, and_true]
  refine ⟨?_, ?_, ?_, ?_, ?_⟩ <;> omega
theorem rd_7 (V y : Nat) (hV : V < 72057594037927936) (hy : y < 256) : limbs (V + 72057594037927936 * y) = (limbs V).set 2 (V / 4503599627370496 % 67108864 + y * 16) := by
  simp only [limbs, List.set_cons_succ, List.set_cons_zero, List.cons.injEq, and_true]
  refine ⟨?_, ?_, ?_, ?_, ?_⟩ <;> omega
theorem rd_8 (V y : Nat) (hV : V < 18446744073709551616) (hy : y < 256) : limbs (V + 18446744073709551616 * y) = (limbs V).set 2 (V / 4503599627370496 % 67108864 + y * 4096) := by
  simp only [limbs, List.set_cons_succ, List.set_cons_zero, List.cons.injEq, and_true]
  refine ⟨?_, ?_, ?_, ?_, ?_⟩ <;> omega
theorem rd_9 (V y : Nat) (hV : V < 4722366482869645213696) (hy : y < 256) : limbs (V + 4722366482869645213696 * y) = ((limbs V).set 3 ((V / 4503599627370496 % 67108864 + y * 1048576) / 67108864)).set 2 ((V / 4503599627370496 % 67108864 + y * 1048576) % 67108864) := by
  simp only [limbs, List.set_cons_succ, List.set_cons_zero, List.cons.injEq, and_true]
  refine ⟨?_, ?_, ?_, ?_, ?_⟩ <;> omega
theorem rd_10 (V y : Nat) (hV : V < 1208925819614629174706176) (hy : y < 256) : limbs (V + 1208925819614629174706176 * y) = (limbs V).set 3 (V / 302231454903657293676544 % 67108864 + y * 4) := by
  simp only [limbs, List.set_cons_succ, List.set_cons_zero, List.cons.injEq, and_true]
  refine ⟨?_, ?_, ?_, ?_, ?_⟩ <;> omega
theorem rd_11 (V y : Nat) (hV : V < 309485009821345068724781056) (hy : y < 256) : limbs (V + 309485009821345068724781056 * y) = (limbs V).set 3 (V / 302231454903657293676544 % 67108864 + y * 1024) := by
  simp only [limbs, List.set_cons_succ, List.set_cons_zero, List.cons.injEq, and_true]
  refine ⟨?_, ?_, ?_, ?_, ?_⟩ <;> omega
theorem rd_12 (V y : Nat) (hV : V < 79228162514264337593543950336) (hy : y < 256) : limbs (V + 79228162514264337593543950336 * y) = (limbs V).set 3 (V / 302231454903657293676544 % 67108864 + y * 262144) := by
  simp only [limbs, List.set_cons_succ, List.set_cons_zero, List.cons.injEq, and_true]
  refine ⟨?_, ?_, ?_, ?_, ?_⟩ <;> omega
theorem rd_13 (V y : Nat) (hV : V < 20282409603651670423947251286016) (hy : y < 256) : limbs (V + 20282409603651670423947251286016 * y) = (limbs V).set 4 (V / 20282409603651670423947251286016 % 67108864 + y * 1) := by
  simp only [limbs, List.set_cons_succ, List.set_cons_zero, List.cons.injEq, and_true]
  refine ⟨?_, ?_, ?_, ?_, ?_⟩ <;> omega
theorem rd_14 (V y : Nat) (hV : V < 5192296858534827628530496329220096) (hy : y < 256) : limbs (V + 5192296858534827628530496329220096 * y) = (limbs V).set 4 (V / 20282409603651670423947251286016 % 67108864 + y * 256) := by
  simp only [limbs, List.set_cons_succ, List.set_cons_zero, List.cons.injEq, and_true]
  refine ⟨?_, ?_, ?_, ?_, ?_⟩ <;> omega
theorem rd_15 (V y : Nat) (hV : V < 1329227995784915872903807060280344576) (hy : y < 256) : limbs (V + 1329227995784915872903807060280344576 * y) = (limbs V).set 4 (V / 20282409603651670423947251286016 % 67108864 + y * 65536) := by
  simp only [limbs, List.set_cons_succ, List.set_cons_zero, List.cons.injEq, and_true]
  refine ⟨?_, ?_, ?_, ?_, ?_⟩ <;> omega
theorem rd_16 (V y : Nat) (hV : V < 340282366920938463463374607431768211456) (hy : y < 4) : limbs (V + 340282366920938463463374607431768211456 * y) = (limbs V).set 4 (V / 20282409603651670423947251286016 % 67108864 + y * 16777216) := by
  simp only [limbs, List.set_cons_succ, List.set_cons_zero, List.cons.injEq, and_true]
  refine ⟨?_, ?_, ?_, ?_, ?_⟩ <;> omega
set_option maxRecDepth 100000 in
theorem poly_read_calls (s : ByteArray) (w : World) (hs : s.size ≤ 17) (h17 : (bys s).getD 16 0 < 4) :
    Calls Try.prog 77 #[.string s] w fun E w' => E = .returned (.agg (u64s (limbs (dv (bys s))))) ∧ Below w.heap.size w w' := by
  have hi : (Try.prog.info? 84).map (·.size) = some 5 := by kernel_rfl
  have HI := Aside0.mk hi
  have HB := Aside0.mk (bys_lt s)
  have H17 := Aside0.mk h17
  have HLn := Aside0.mk (bys_length s)
  have HG : Aside0 (∀ i (hi : i < s.size), (s[i]'hi).toNat = (bys s).getD i 0) := ⟨fun i hi => by
    have hl : i < s.data.toList.length := by rw [data_length]; exact hi
    simp only [bys, List.getD_eq_getElem?_getD, List.getElem?_map, List.getElem?_eq_getElem hl, Option.map_some, Option.getD_some]
    rfl⟩
  have HDL : Aside0 (∀ k, k ≤ s.size → dv ((bys s).take k) < 256 ^ k) := ⟨fun k hk => by
    have := dv_lt ((bys s).take k) (fun i => by
      rw [List.getD_eq_getElem?_getD, List.getElem?_take]
      split
      · have := bys_lt s i; rwa [List.getD_eq_getElem?_getD] at this
      · simp)
    rwa [List.length_take, Nat.min_eq_left (by rw [bys_length]; exact hk)] at this⟩
  have HDS : Aside0 (∀ k, dv ((bys s).take (k + 1)) = dv ((bys s).take k) + 256 ^ k * (bys s).getD k 0) := ⟨fun k => dv_take_succ _ k⟩
  clear hi h17
  go_enter Try.func77, Try.ntmps77
  go_wp2_with (fail)
  have H : Aside0 (PN w [List.replicate 5 0, limbs (dv ((bys s).take 0))] ((w.alloc (.cells (u64s (List.replicate 5 0)) 84)).alloc (.cells (u64s (List.replicate 5 0)) 84))) := ⟨by rw [show limbs (dv ((bys s).take 0)) = List.replicate 5 0 by simp [limbs, dv]]; exact ((PN.nil w).push _).push _⟩
  go_loopw [9] (fun i wr => ∃ k : Nat, k ≤ s.size ∧ i = .int .i64 k ∧ Aside0 (PN w [List.replicate 5 0, limbs (dv ((bys s).take k))] wr)) (fun i _ => s.size - (intOf i).toNat)
  case atStart => exact ⟨0, by omega, rfl, H⟩
  case round =>
    clear H
    obtain ⟨k, hk, rfl, H⟩ := hrel
    by_cases hlt : k < s.size
    · have HK : Aside0 (k = 0 ∨ k = 1 ∨ k = 2 ∨ k = 3 ∨ k = 4 ∨ k = 5 ∨ k = 6 ∨ k = 7 ∨ k = 8 ∨ k = 9 ∨ k = 10 ∨ k = 11 ∨ k = 12 ∨ k = 13 ∨ k = 14 ∨ k = 15 ∨ k = 16) := ⟨by omega⟩
      have hy := HB.out k
      have hV := HDL.out k hk
      have hg := HG.out k hlt
      have hds := HDS.out k
      have h16 : k = 16 → (bys s).getD k 0 < 4 := fun e => e ▸ H17.out
      generalize (bys s).getD k 0 = y at hy hg hds h16
      generalize dv ((bys s).take k) = V at H hV hds
      have HDSk := Aside0.mk hds
      clear hds
      rcases HK.out with h | h | h | h | h | h | h | h | h | h | h | h | h | h | h | h | h
      · as_aux_lemma =>
        subst h
        clear HK
        have hV2 : V < 1 := hV
        have hy2 : y < 256 := hy
        have hR := rd_0 V y hV2 hy2
        have hx0 : V % 67108864 < 1 := by omega
        have hc := (H.out.cell 1 0 rfl (by show _ < 5; decide)).1
        have hf := (H.out.cell 1 0 rfl (by show _ < 5; decide)).2
        have hcv : (limbs V).getD 0 0 = V % 67108864 := rfl
        rw [hcv] at hc
        clear hcv
        generalize V % 67108864 = X0 at hR hx0 hc
        have E : bits .or .u64 (X0 : Int) (IntKind.u64.wrap (IntKind.u64.wrap (y : Int))) = ((X0 + y * 1 : Nat) : Int) := by
          have := or_shl X0 y 1 0 rfl (by decide) hx0 hy
          rw [show ((1 : Nat) : Int) = 1 from rfl, Int.mul_one, wraps_u64 (y : Int) (by omega) (by omega), wraps_u64 (y : Int) (by omega) (by omega)] at this
          rw [wraps_u64 (y : Int) (by omega) (by omega), wraps_u64 (y : Int) (by omega) (by omega), this, Nat.mul_one]
        have hXb : X0 + y * 1 < 67108864 := by omega
        generalize X0 + y * 1 = X at E hR hXb
        have HR := Aside0.mk hR
        have HV' : Aside0 (dv (List.take (0 + 1) (bys s)) = V + 1 * y) := ⟨HDSk.out⟩
        have t0 : decide ((0 : Int) < (s.size : Int)) = true := decide_eq_true (by omega)
        have hle : 0 < s.size := hlt
        have t00 : (0 : Int) < (s.size : Int) := by omega
        clear hV hV2 hR hx0 hy hy2 h16 HDSk
        simp only [adr] at hc hf
        rw [show ((0 : Nat) : Int) = 0 from rfl]
        have t1 : decide (0 < (X : Int) / 67108864) = false := decide_eq_false (by omega)
        have t2 : decide (0 < X / 67108864) = false := decide_eq_false (by omega)
        clear hXb
        go_wp2_with (fail)
        refine wp_still_tail 13 (by kernel_rfl) (by kernel_rfl) ?_
        intro W hW
        have g1 : W.cell? ⟨w.heap.size + 1, 0, none⟩ = some (.int .u64 (X0 : Int)) := by rw [hW]; exact hc
        have gf : W.frozen? ⟨w.heap.size + 1, 0, none⟩ = false := by rw [hW]; exact hf
        have HW : Aside0 (PN w [List.replicate 5 0, limbs V] W) := ⟨by rw [hW]; exact H.out.drew⟩
        have wj : IntKind.i64.wrap 0 = 0 := by decide +kernel
        have wr_ : IntKind.i64.wrap 0 = 0 := by decide +kernel
        clear hW hc hf
        simp only [List.take_succ_cons, List.take_zero, List.drop_succ_cons, List.drop_zero]
        repeat still_step
        refine wpStill_nil ?_
        clear wj wr_
        go_wp2
        refine ⟨⟨1, by omega, rfl, ?_⟩, by simp [intOf]; omega⟩
        rw [HV'.out, HR.out]
        exact ⟨HW.out.set 1 0 X rfl⟩
      · as_aux_lemma =>
        subst h
        clear HK
        have hV2 : V < 256 := hV
        have hy2 : y < 256 := hy
        have hR := rd_1 V y hV2 hy2
        have hx0 : V % 67108864 < 256 := by omega
        have hc := (H.out.cell 1 0 rfl (by show _ < 5; decide)).1
        have hf := (H.out.cell 1 0 rfl (by show _ < 5; decide)).2
        have hcv : (limbs V).getD 0 0 = V % 67108864 := rfl
        rw [hcv] at hc
        clear hcv
        generalize V % 67108864 = X0 at hR hx0 hc
        have E : bits .or .u64 (X0 : Int) (IntKind.u64.wrap (IntKind.u64.wrap (y : Int) * 256)) = ((X0 + y * 256 : Nat) : Int) := by
          have := or_shl X0 y 256 8 rfl (by decide) hx0 hy
          exact this
        have hXb : X0 + y * 256 < 67108864 := by omega
        generalize X0 + y * 256 = X at E hR hXb
        have HR := Aside0.mk hR
        have HV' : Aside0 (dv (List.take (1 + 1) (bys s)) = V + 256 * y) := ⟨HDSk.out⟩
        have t0 : decide ((1 : Int) < (s.size : Int)) = true := decide_eq_true (by omega)
        have hle : 1 < s.size := hlt
        have t00 : (1 : Int) < (s.size : Int) := by omega
        clear hV hV2 hR hx0 hy hy2 h16 HDSk
        simp only [adr] at hc hf
        rw [show ((1 : Nat) : Int) = 1 from rfl]
        have t1 : decide (0 < (X : Int) / 67108864) = false := decide_eq_false (by omega)
        have t2 : decide (0 < X / 67108864) = false := decide_eq_false (by omega)
        clear hXb
        go_wp2_with (fail)
        refine wp_still_tail 13 (by kernel_rfl) (by kernel_rfl) ?_
        intro W hW
        have g1 : W.cell? ⟨w.heap.size + 1, 0, none⟩ = some (.int .u64 (X0 : Int)) := by rw [hW]; exact hc
        have gf : W.frozen? ⟨w.heap.size + 1, 0, none⟩ = false := by rw [hW]; exact hf
        have HW : Aside0 (PN w [List.replicate 5 0, limbs V] W) := ⟨by rw [hW]; exact H.out.drew⟩
        have wj : IntKind.i64.wrap 0 = 0 := by decide +kernel
        have wr_ : IntKind.i64.wrap 8 = 8 := by decide +kernel
        clear hW hc hf
        simp only [List.take_succ_cons, List.take_zero, List.drop_succ_cons, List.drop_zero]
        repeat still_step
        refine wpStill_nil ?_
        clear wj wr_
        go_wp2
        refine ⟨⟨2, by omega, rfl, ?_⟩, by simp [intOf]; omega⟩
        rw [HV'.out, HR.out]
        exact ⟨HW.out.set 1 0 X rfl⟩
      · as_aux_lemma =>
        subst h
        clear HK
        have hV2 : V < 65536 := hV
        have hy2 : y < 256 := hy
        have hR := rd_2 V y hV2 hy2
        have hx0 : V % 67108864 < 65536 := by omega
        have hc := (H.out.cell 1 0 rfl (by show _ < 5; decide)).1
        have hf := (H.out.cell 1 0 rfl (by show _ < 5; decide)).2
        have hcv : (limbs V).getD 0 0 = V % 67108864 := rfl
        rw [hcv] at hc
        clear hcv
        generalize V % 67108864 = X0 at hR hx0 hc
        have E : bits .or .u64 (X0 : Int) (IntKind.u64.wrap (IntKind.u64.wrap (y : Int) * 65536)) = ((X0 + y * 65536 : Nat) : Int) := by
          have := or_shl X0 y 65536 16 rfl (by decide) hx0 hy
          exact this
        have hXb : X0 + y * 65536 < 67108864 := by omega
        generalize X0 + y * 65536 = X at E hR hXb
        have HR := Aside0.mk hR
        have HV' : Aside0 (dv (List.take (2 + 1) (bys s)) = V + 65536 * y) := ⟨HDSk.out⟩
        have t0 : decide ((2 : Int) < (s.size : Int)) = true := decide_eq_true (by omega)
        have hle : 2 < s.size := hlt
        have t00 : (2 : Int) < (s.size : Int) := by omega
        clear hV hV2 hR hx0 hy hy2 h16 HDSk
        simp only [adr] at hc hf
        rw [show ((2 : Nat) : Int) = 2 from rfl]
        have t1 : decide (0 < (X : Int) / 67108864) = false := decide_eq_false (by omega)
        have t2 : decide (0 < X / 67108864) = false := decide_eq_false (by omega)
        clear hXb
        go_wp2_with (fail)
        refine wp_still_tail 13 (by kernel_rfl) (by kernel_rfl) ?_
        intro W hW
        have g1 : W.cell? ⟨w.heap.size + 1, 0, none⟩ = some (.int .u64 (X0 : Int)) := by rw [hW]; exact hc
        have gf : W.frozen? ⟨w.heap.size + 1, 0, none⟩ = false := by rw [hW]; exact hf
        have HW : Aside0 (PN w [List.replicate 5 0, limbs V] W) := ⟨by rw [hW]; exact H.out.drew⟩
        have wj : IntKind.i64.wrap 0 = 0 := by decide +kernel
        have wr_ : IntKind.i64.wrap 16 = 16 := by decide +kernel
        clear hW hc hf
        simp only [List.take_succ_cons, List.take_zero, List.drop_succ_cons, List.drop_zero]
        repeat still_step
        refine wpStill_nil ?_
        clear wj wr_
        go_wp2
        refine ⟨⟨3, by omega, rfl, ?_⟩, by simp [intOf]; omega⟩
        rw [HV'.out, HR.out]
        exact ⟨HW.out.set 1 0 X rfl⟩
      · as_aux_lemma =>
        subst h
        clear HK
        have hV2 : V < 16777216 := hV
        have hy2 : y < 256 := hy
        have hR := rd_3 V y hV2 hy2
        have hx0 : V % 67108864 < 16777216 := by omega
        have hc := (H.out.cell 1 0 rfl (by show _ < 5; decide)).1
        have hf := (H.out.cell 1 0 rfl (by show _ < 5; decide)).2
        have hcv : (limbs V).getD 0 0 = V % 67108864 := rfl
        rw [hcv] at hc
        clear hcv
        have hc1 := (H.out.cell 1 1 rfl (by show _ < 5; decide)).1
        have hf1 := (H.out.cell 1 1 rfl (by show _ < 5; decide)).2
        have hcv1 : (limbs V).getD 1 0 = V / 67108864 % 67108864 := rfl
        have hz1 : V / 67108864 % 67108864 = 0 := by omega
        rw [hcv1, hz1] at hc1
        clear hcv1
        generalize V % 67108864 = X0 at hR hx0 hc
        have E : bits .or .u64 (X0 : Int) (IntKind.u64.wrap (IntKind.u64.wrap (y : Int) * 16777216)) = ((X0 + y * 16777216 : Nat) : Int) := by
          have := or_shl X0 y 16777216 24 rfl (by decide) hx0 hy
          exact this
        have hXb : X0 + y * 16777216 < 17179869184 := by omega
        generalize X0 + y * 16777216 = X at E hR hXb
        have HR := Aside0.mk hR
        have HV' : Aside0 (dv (List.take (3 + 1) (bys s)) = V + 16777216 * y) := ⟨HDSk.out⟩
        have t0 : decide ((3 : Int) < (s.size : Int)) = true := decide_eq_true (by omega)
        have hle : 3 < s.size := hlt
        have t00 : (3 : Int) < (s.size : Int) := by omega
        clear hV hV2 hR hx0 hy hy2 h16 HDSk
        simp only [adr] at hc hf hc1 hf1
        rw [show ((3 : Nat) : Int) = 3 from rfl]
        by_cases hov : 67108864 ≤ X
        · as_aux_lemma =>
          have t1 : decide (0 < (X : Int) / 67108864) = true := decide_eq_true (by omega)
          have t2 : decide (0 < X / 67108864) = true := decide_eq_true (by omega)
          have hm := mask26 X (by omega)
          have ho := or_zero64 (X / 67108864) (by omega)
          rw [show ((X / 67108864 : Nat) : Int) = (X : Int) / 67108864 by simp] at ho
          clear hXb hz1
          go_wp2_with (fail)
          refine wp_still_tail 13 (by kernel_rfl) (by kernel_rfl) ?_
          intro W hW
          have g1 : W.cell? ⟨w.heap.size + 1, 0, none⟩ = some (.int .u64 (X0 : Int)) := by rw [hW]; exact hc
          have gf : W.frozen? ⟨w.heap.size + 1, 0, none⟩ = false := by rw [hW]; exact hf
          have HW : Aside0 (PN w [List.replicate 5 0, limbs V] W) := ⟨by rw [hW]; exact H.out.drew⟩
          have wj : IntKind.i64.wrap 0 = 0 := by decide +kernel
          have wr_ : IntKind.i64.wrap 24 = 24 := by decide +kernel
          have g3 : W.cell? ⟨w.heap.size + 1, 1, none⟩ = some (.int .u64 0) := by rw [hW]; exact hc1
          have gf3 : W.frozen? ⟨w.heap.size + 1, 1, none⟩ = false := by rw [hW]; exact hf1
          clear hW hc hf hc1 hf1
          simp only [List.take_succ_cons, List.take_zero, List.drop_succ_cons, List.drop_zero]
          repeat still_step
          refine wpStill_nil ?_
          clear wj wr_
          go_wp2
          refine ⟨⟨4, by omega, rfl, ?_⟩, by simp [intOf]; omega⟩
          rw [HV'.out, HR.out]
          have h1 := (HW.out.set 1 0 X rfl)
          have h2 := (h1.set 1 1 (X / 67108864) (l := (limbs V).set 0 X) rfl)
          have h3 := (h2.set 1 0 (X % 67108864) (l := ((limbs V).set 0 X).set 1 (X / 67108864)) rfl)
          exact ⟨h3⟩
        · as_aux_lemma =>
          have t1 : decide (0 < (X : Int) / 67108864) = false := decide_eq_false (by omega)
          have t2 : decide (0 < X / 67108864) = false := decide_eq_false (by omega)
          have hX0 : X / 67108864 = 0 := by omega
          have hX1 : X % 67108864 = X := by omega
          have HX0 := Aside0.mk hX0
          have HX1 := Aside0.mk hX1
          have hlz : (limbs V).set 1 0 = limbs V := by rw [← hz1]; rfl
          have HLZ := Aside0.mk hlz
          clear hXb hX0 hX1 hlz hz1
          go_wp2_with (fail)
          refine wp_still_tail 13 (by kernel_rfl) (by kernel_rfl) ?_
          intro W hW
          have g1 : W.cell? ⟨w.heap.size + 1, 0, none⟩ = some (.int .u64 (X0 : Int)) := by rw [hW]; exact hc
          have gf : W.frozen? ⟨w.heap.size + 1, 0, none⟩ = false := by rw [hW]; exact hf
          have HW : Aside0 (PN w [List.replicate 5 0, limbs V] W) := ⟨by rw [hW]; exact H.out.drew⟩
          have wj : IntKind.i64.wrap 0 = 0 := by decide +kernel
          have wr_ : IntKind.i64.wrap 24 = 24 := by decide +kernel
          have g3 : W.cell? ⟨w.heap.size + 1, 1, none⟩ = some (.int .u64 0) := by rw [hW]; exact hc1
          have gf3 : W.frozen? ⟨w.heap.size + 1, 1, none⟩ = false := by rw [hW]; exact hf1
          clear hW hc hf hc1 hf1
          simp only [List.take_succ_cons, List.take_zero, List.drop_succ_cons, List.drop_zero]
          repeat still_step
          refine wpStill_nil ?_
          clear wj wr_
          go_wp2
          refine ⟨⟨4, by omega, rfl, ?_⟩, by simp [intOf]; omega⟩
          rw [HV'.out, HR.out]
          rw [HX0.out, HX1.out, HLZ.out]
          exact ⟨HW.out.set 1 0 X rfl⟩
      · as_aux_lemma =>
        subst h
        clear HK
        have hV2 : V < 4294967296 := hV
        have hy2 : y < 256 := hy
        have hR := rd_4 V y hV2 hy2
        have hx0 : V / 67108864 % 67108864 < 64 := by omega
        have hc := (H.out.cell 1 1 rfl (by show _ < 5; decide)).1
        have hf := (H.out.cell 1 1 rfl (by show _ < 5; decide)).2
        have hcv : (limbs V).getD 1 0 = V / 67108864 % 67108864 := rfl
        rw [hcv] at hc
        clear hcv
        generalize V / 67108864 % 67108864 = X0 at hR hx0 hc
        have E : bits .or .u64 (X0 : Int) (IntKind.u64.wrap (IntKind.u64.wrap (y : Int) * 64)) = ((X0 + y * 64 : Nat) : Int) := by
          have := or_shl X0 y 64 6 rfl (by decide) hx0 hy
          exact this
        have hXb : X0 + y * 64 < 67108864 := by omega
        generalize X0 + y * 64 = X at E hR hXb
        have HR := Aside0.mk hR
        have HV' : Aside0 (dv (List.take (4 + 1) (bys s)) = V + 4294967296 * y) := ⟨HDSk.out⟩
        have t0 : decide ((4 : Int) < (s.size : Int)) = true := decide_eq_true (by omega)
        have hle : 4 < s.size := hlt
        have t00 : (4 : Int) < (s.size : Int) := by omega
        clear hV hV2 hR hx0 hy hy2 h16 HDSk
        simp only [adr] at hc hf
        rw [show ((4 : Nat) : Int) = 4 from rfl]
        have t1 : decide (0 < (X : Int) / 67108864) = false := decide_eq_false (by omega)
        have t2 : decide (0 < X / 67108864) = false := decide_eq_false (by omega)
        clear hXb
        go_wp2_with (fail)
        refine wp_still_tail 13 (by kernel_rfl) (by kernel_rfl) ?_
        intro W hW
        have g1 : W.cell? ⟨w.heap.size + 1, 1, none⟩ = some (.int .u64 (X0 : Int)) := by rw [hW]; exact hc
        have gf : W.frozen? ⟨w.heap.size + 1, 1, none⟩ = false := by rw [hW]; exact hf
        have HW : Aside0 (PN w [List.replicate 5 0, limbs V] W) := ⟨by rw [hW]; exact H.out.drew⟩
        have wj : IntKind.i64.wrap 1 = 1 := by decide +kernel
        have wr_ : IntKind.i64.wrap 6 = 6 := by decide +kernel
        clear hW hc hf
        simp only [List.take_succ_cons, List.take_zero, List.drop_succ_cons, List.drop_zero]
        repeat still_step
        refine wpStill_nil ?_
        clear wj wr_
        go_wp2
        refine ⟨⟨5, by omega, rfl, ?_⟩, by simp [intOf]; omega⟩
        rw [HV'.out, HR.out]
        exact ⟨HW.out.set 1 1 X rfl⟩
      · as_aux_lemma =>
        subst h
        clear HK
        have hV2 : V < 1099511627776 := hV
        have hy2 : y < 256 := hy
        have hR := rd_5 V y hV2 hy2
        have hx0 : V / 67108864 % 67108864 < 16384 := by omega
        have hc := (H.out.cell 1 1 rfl (by show _ < 5; decide)).1
        have hf := (H.out.cell 1 1 rfl (by show _ < 5; decide)).2
        have hcv : (limbs V).getD 1 0 = V / 67108864 % 67108864 := rfl
        rw [hcv] at hc
        clear hcv
        generalize V / 67108864 % 67108864 = X0 at hR hx0 hc
        have E : bits .or .u64 (X0 : Int) (IntKind.u64.wrap (IntKind.u64.wrap (y : Int) * 16384)) = ((X0 + y * 16384 : Nat) : Int) := by
          have := or_shl X0 y 16384 14 rfl (by decide) hx0 hy
          exact this
        have hXb : X0 + y * 16384 < 67108864 := by omega
        generalize X0 + y * 16384 = X at E hR hXb
        have HR := Aside0.mk hR
        have HV' : Aside0 (dv (List.take (5 + 1) (bys s)) = V + 1099511627776 * y) := ⟨HDSk.out⟩
        have t0 : decide ((5 : Int) < (s.size : Int)) = true := decide_eq_true (by omega)
        have hle : 5 < s.size := hlt
        have t00 : (5 : Int) < (s.size : Int) := by omega
        clear hV hV2 hR hx0 hy hy2 h16 HDSk
        simp only [adr] at hc hf
        rw [show ((5 : Nat) : Int) = 5 from rfl]
        have t1 : decide (0 < (X : Int) / 67108864) = false := decide_eq_false (by omega)
        have t2 : decide (0 < X / 67108864) = false := decide_eq_false (by omega)
        clear hXb
        go_wp2_with (fail)
        refine wp_still_tail 13 (by kernel_rfl) (by kernel_rfl) ?_
        intro W hW
        have g1 : W.cell? ⟨w.heap.size + 1, 1, none⟩ = some (.int .u64 (X0 : Int)) := by rw [hW]; exact hc
        have gf : W.frozen? ⟨w.heap.size + 1, 1, none⟩ = false := by rw [hW]; exact hf
        have HW : Aside0 (PN w [List.replicate 5 0, limbs V] W) := ⟨by rw [hW]; exact H.out.drew⟩
        have wj : IntKind.i64.wrap 1 = 1 := by decide +kernel
        have wr_ : IntKind.i64.wrap 14 = 14 := by decide +kernel
        clear hW hc hf
        simp only [List.take_succ_cons, List.take_zero, List.drop_succ_cons, List.drop_zero]
        repeat still_step
        refine wpStill_nil ?_
        clear wj wr_
        go_wp2
        refine ⟨⟨6, by omega, rfl, ?_⟩, by simp [intOf]; omega⟩
        rw [HV'.out, HR.out]
        exact ⟨HW.out.set 1 1 X rfl⟩
      · as_aux_lemma =>
        subst h
        clear HK
        have hV2 : V < 281474976710656 := hV
        have hy2 : y < 256 := hy
        have hR := rd_6 V y hV2 hy2
        have hx0 : V / 67108864 % 67108864 < 4194304 := by omega
        have hc := (H.out.cell 1 1 rfl (by show _ < 5; decide)).1
        have hf := (H.out.cell 1 1 rfl (by show _ < 5; decide)).2
        have hcv : (limbs V).getD 1 0 = V / 67108864 % 67108864 := rfl
        rw [hcv] at hc
        clear hcv
        have hc1 := (H.out.cell 1 2 rfl (by show _ < 5; decide)).1
        have hf1 := (H.out.cell 1 2 rfl (by show _ < 5; decide)).2
        have hcv1 : (limbs V).getD 2 0 = V / 4503599627370496 % 67108864 := rfl
        have hz1 : V / 4503599627370496 % 67108864 = 0 := by omega
        rw [hcv1, hz1] at hc1
        clear hcv1
        generalize V / 67108864 % 67108864 = X0 at hR hx0 hc
        have E : bits .or .u64 (X0 : Int) (IntKind.u64.wrap (IntKind.u64.wrap (y : Int) * 4194304)) = ((X0 + y * 4194304 : Nat) : Int) := by
          have := or_shl X0 y 4194304 22 rfl (by decide) hx0 hy
          exact this
        have hXb : X0 + y * 4194304 < 17179869184 := by omega
        generalize X0 + y * 4194304 = X at E hR hXb
        have HR := Aside0.mk hR
        have HV' : Aside0 (dv (List.take (6 + 1) (bys s)) = V + 281474976710656 * y) := ⟨HDSk.out⟩
        have t0 : decide ((6 : Int) < (s.size : Int)) = true := decide_eq_true (by omega)
        have hle : 6 < s.size := hlt
        have t00 : (6 : Int) < (s.size : Int) := by omega
        clear hV hV2 hR hx0 hy hy2 h16 HDSk
        simp only [adr] at hc hf hc1 hf1
        rw [show ((6 : Nat) : Int) = 6 from rfl]
        by_cases hov : 67108864 ≤ X
        · as_aux_lemma =>
          have t1 : decide (0 < (X : Int) / 67108864) = true := decide_eq_true (by omega)
          have t2 : decide (0 < X / 67108864) = true := decide_eq_true (by omega)
          have hm := mask26 X (by omega)
          have ho := or_zero64 (X / 67108864) (by omega)
          rw [show ((X / 67108864 : Nat) : Int) = (X : Int) / 67108864 by simp] at ho
          clear hXb hz1
          go_wp2_with (fail)
          refine wp_still_tail 13 (by kernel_rfl) (by kernel_rfl) ?_
          intro W hW
          have g1 : W.cell? ⟨w.heap.size + 1, 1, none⟩ = some (.int .u64 (X0 : Int)) := by rw [hW]; exact hc
          have gf : W.frozen? ⟨w.heap.size + 1, 1, none⟩ = false := by rw [hW]; exact hf
          have HW : Aside0 (PN w [List.replicate 5 0, limbs V] W) := ⟨by rw [hW]; exact H.out.drew⟩
          have wj : IntKind.i64.wrap 1 = 1 := by decide +kernel
          have wr_ : IntKind.i64.wrap 22 = 22 := by decide +kernel
          have g3 : W.cell? ⟨w.heap.size + 1, 2, none⟩ = some (.int .u64 0) := by rw [hW]; exact hc1
          have gf3 : W.frozen? ⟨w.heap.size + 1, 2, none⟩ = false := by rw [hW]; exact hf1
          clear hW hc hf hc1 hf1
          simp only [List.take_succ_cons, List.take_zero, List.drop_succ_cons, List.drop_zero]
          repeat still_step
          refine wpStill_nil ?_
          clear wj wr_
          go_wp2
          refine ⟨⟨7, by omega, rfl, ?_⟩, by simp [intOf]; omega⟩
          rw [HV'.out, HR.out]
          have h1 := (HW.out.set 1 1 X rfl)
          have h2 := (h1.set 1 2 (X / 67108864) (l := (limbs V).set 1 X) rfl)
          have h3 := (h2.set 1 1 (X % 67108864) (l := ((limbs V).set 1 X).set 2 (X / 67108864)) rfl)
          exact ⟨h3⟩
        · as_aux_lemma =>
          have t1 : decide (0 < (X : Int) / 67108864) = false := decide_eq_false (by omega)
          have t2 : decide (0 < X / 67108864) = false := decide_eq_false (by omega)
          have hX0 : X / 67108864 = 0 := by omega
          have hX1 : X % 67108864 = X := by omega
          have HX0 := Aside0.mk hX0
          have HX1 := Aside0.mk hX1
          have hlz : (limbs V).set 2 0 = limbs V := by rw [← hz1]; rfl
          have HLZ := Aside0.mk hlz
          clear hXb hX0 hX1 hlz hz1
          go_wp2_with (fail)
          refine wp_still_tail 13 (by kernel_rfl) (by kernel_rfl) ?_
          intro W hW
          have g1 : W.cell? ⟨w.heap.size + 1, 1, none⟩ = some (.int .u64 (X0 : Int)) := by rw [hW]; exact hc
          have gf : W.frozen? ⟨w.heap.size + 1, 1, none⟩ = false := by rw [hW]; exact hf
          have HW : Aside0 (PN w [List.replicate 5 0, limbs V] W) := ⟨by rw [hW]; exact H.out.drew⟩
          have wj : IntKind.i64.wrap 1 = 1 := by decide +kernel
          have wr_ : IntKind.i64.wrap 22 = 22 := by decide +kernel
          have g3 : W.cell? ⟨w.heap.size + 1, 2, none⟩ = some (.int .u64 0) := by rw [hW]; exact hc1
          have gf3 : W.frozen? ⟨w.heap.size + 1, 2, none⟩ = false := by rw [hW]; exact hf1
          clear hW hc hf hc1 hf1
          simp only [List.take_succ_cons, List.take_zero, List.drop_succ_cons, List.drop_zero]
          repeat still_step
          refine wpStill_nil ?_
          clear wj wr_
          go_wp2
          refine ⟨⟨7, by omega, rfl, ?_⟩, by simp [intOf]; omega⟩
          rw [HV'.out, HR.out]
          rw [HX0.out, HX1.out, HLZ.out]
          exact ⟨HW.out.set 1 1 X rfl⟩
      · as_aux_lemma =>
        subst h
        clear HK
        have hV2 : V < 72057594037927936 := hV
        have hy2 : y < 256 := hy
        have hR := rd_7 V y hV2 hy2
        have hx0 : V / 4503599627370496 % 67108864 < 16 := by omega
        have hc := (H.out.cell 1 2 rfl (by show _ < 5; decide)).1
        have hf := (H.out.cell 1 2 rfl (by show _ < 5; decide)).2
        have hcv : (limbs V).getD 2 0 = V / 4503599627370496 % 67108864 := rfl
        rw [hcv] at hc
        clear hcv
        generalize V / 4503599627370496 % 67108864 = X0 at hR hx0 hc
        have E : bits .or .u64 (X0 : Int) (IntKind.u64.wrap (IntKind.u64.wrap (y : Int) * 16)) = ((X0 + y * 16 : Nat) : Int) := by
          have := or_shl X0 y 16 4 rfl (by decide) hx0 hy
          exact this
        have hXb : X0 + y * 16 < 67108864 := by omega
        generalize X0 + y * 16 = X at E hR hXb
        have HR := Aside0.mk hR
        have HV' : Aside0 (dv (List.take (7 + 1) (bys s)) = V + 72057594037927936 * y) := ⟨HDSk.out⟩
        have t0 : decide ((7 : Int) < (s.size : Int)) = true := decide_eq_true (by omega)
        have hle : 7 < s.size := hlt
        have t00 : (7 : Int) < (s.size : Int) := by omega
        clear hV hV2 hR hx0 hy hy2 h16 HDSk
        simp only [adr] at hc hf
        rw [show ((7 : Nat) : Int) = 7 from rfl]
        have t1 : decide (0 < (X : Int) / 67108864) = false := decide_eq_false (by omega)
        have t2 : decide (0 < X / 67108864) = false := decide_eq_false (by omega)
        clear hXb
        go_wp2_with (fail)
        refine wp_still_tail 13 (by kernel_rfl) (by kernel_rfl) ?_
        intro W hW
        have g1 : W.cell? ⟨w.heap.size + 1, 2, none⟩ = some (.int .u64 (X0 : Int)) := by rw [hW]; exact hc
        have gf : W.frozen? ⟨w.heap.size + 1, 2, none⟩ = false := by rw [hW]; exact hf
        have HW : Aside0 (PN w [List.replicate 5 0, limbs V] W) := ⟨by rw [hW]; exact H.out.drew⟩
        have wj : IntKind.i64.wrap 2 = 2 := by decide +kernel
        have wr_ : IntKind.i64.wrap 4 = 4 := by decide +kernel
        clear hW hc hf
        simp only [List.take_succ_cons, List.take_zero, List.drop_succ_cons, List.drop_zero]
        repeat still_step
        refine wpStill_nil ?_
        clear wj wr_
        go_wp2
        refine ⟨⟨8, by omega, rfl, ?_⟩, by simp [intOf]; omega⟩
        rw [HV'.out, HR.out]
        exact ⟨HW.out.set 1 2 X rfl⟩
      · as_aux_lemma =>
        subst h
        clear HK
        have hV2 : V < 18446744073709551616 := hV
        have hy2 : y < 256 := hy
        have hR := rd_8 V y hV2 hy2
        have hx0 : V / 4503599627370496 % 67108864 < 4096 := by omega
        have hc := (H.out.cell 1 2 rfl (by show _ < 5; decide)).1
        have hf := (H.out.cell 1 2 rfl (by show _ < 5; decide)).2
        have hcv : (limbs V).getD 2 0 = V / 4503599627370496 % 67108864 := rfl
        rw [hcv] at hc
        clear hcv
        generalize V / 4503599627370496 % 67108864 = X0 at hR hx0 hc
        have E : bits .or .u64 (X0 : Int) (IntKind.u64.wrap (IntKind.u64.wrap (y : Int) * 4096)) = ((X0 + y * 4096 : Nat) : Int) := by
          have := or_shl X0 y 4096 12 rfl (by decide) hx0 hy
          exact this
        have hXb : X0 + y * 4096 < 67108864 := by omega
        generalize X0 + y * 4096 = X at E hR hXb
        have HR := Aside0.mk hR
        have HV' : Aside0 (dv (List.take (8 + 1) (bys s)) = V + 18446744073709551616 * y) := ⟨HDSk.out⟩
        have t0 : decide ((8 : Int) < (s.size : Int)) = true := decide_eq_true (by omega)
        have hle : 8 < s.size := hlt
        have t00 : (8 : Int) < (s.size : Int) := by omega
        clear hV hV2 hR hx0 hy hy2 h16 HDSk
        simp only [adr] at hc hf
        rw [show ((8 : Nat) : Int) = 8 from rfl]
        have t1 : decide (0 < (X : Int) / 67108864) = false := decide_eq_false (by omega)
        have t2 : decide (0 < X / 67108864) = false := decide_eq_false (by omega)
        clear hXb
        go_wp2_with (fail)
        refine wp_still_tail 13 (by kernel_rfl) (by kernel_rfl) ?_
        intro W hW
        have g1 : W.cell? ⟨w.heap.size + 1, 2, none⟩ = some (.int .u64 (X0 : Int)) := by rw [hW]; exact hc
        have gf : W.frozen? ⟨w.heap.size + 1, 2, none⟩ = false := by rw [hW]; exact hf
        have HW : Aside0 (PN w [List.replicate 5 0, limbs V] W) := ⟨by rw [hW]; exact H.out.drew⟩
        have wj : IntKind.i64.wrap 2 = 2 := by decide +kernel
        have wr_ : IntKind.i64.wrap 12 = 12 := by decide +kernel
        clear hW hc hf
        simp only [List.take_succ_cons, List.take_zero, List.drop_succ_cons, List.drop_zero]
        repeat still_step
        refine wpStill_nil ?_
        clear wj wr_
        go_wp2
        refine ⟨⟨9, by omega, rfl, ?_⟩, by simp [intOf]; omega⟩
        rw [HV'.out, HR.out]
        exact ⟨HW.out.set 1 2 X rfl⟩
      · as_aux_lemma =>
        subst h
        clear HK
        have hV2 : V < 4722366482869645213696 := hV
        have hy2 : y < 256 := hy
        have hR := rd_9 V y hV2 hy2
        have hx0 : V / 4503599627370496 % 67108864 < 1048576 := by omega
        have hc := (H.out.cell 1 2 rfl (by show _ < 5; decide)).1
        have hf := (H.out.cell 1 2 rfl (by show _ < 5; decide)).2
        have hcv : (limbs V).getD 2 0 = V / 4503599627370496 % 67108864 := rfl
        rw [hcv] at hc
        clear hcv
        have hc1 := (H.out.cell 1 3 rfl (by show _ < 5; decide)).1
        have hf1 := (H.out.cell 1 3 rfl (by show _ < 5; decide)).2
        have hcv1 : (limbs V).getD 3 0 = V / 302231454903657293676544 % 67108864 := rfl
        have hz1 : V / 302231454903657293676544 % 67108864 = 0 := by omega
        rw [hcv1, hz1] at hc1
        clear hcv1
        generalize V / 4503599627370496 % 67108864 = X0 at hR hx0 hc
        have E : bits .or .u64 (X0 : Int) (IntKind.u64.wrap (IntKind.u64.wrap (y : Int) * 1048576)) = ((X0 + y * 1048576 : Nat) : Int) := by
          have := or_shl X0 y 1048576 20 rfl (by decide) hx0 hy
          exact this
        have hXb : X0 + y * 1048576 < 17179869184 := by omega
        generalize X0 + y * 1048576 = X at E hR hXb
        have HR := Aside0.mk hR
        have HV' : Aside0 (dv (List.take (9 + 1) (bys s)) = V + 4722366482869645213696 * y) := ⟨HDSk.out⟩
        have t0 : decide ((9 : Int) < (s.size : Int)) = true := decide_eq_true (by omega)
        have hle : 9 < s.size := hlt
        have t00 : (9 : Int) < (s.size : Int) := by omega
        clear hV hV2 hR hx0 hy hy2 h16 HDSk
        simp only [adr] at hc hf hc1 hf1
        rw [show ((9 : Nat) : Int) = 9 from rfl]
        by_cases hov : 67108864 ≤ X
        · as_aux_lemma =>
          have t1 : decide (0 < (X : Int) / 67108864) = true := decide_eq_true (by omega)
          have t2 : decide (0 < X / 67108864) = true := decide_eq_true (by omega)
          have hm := mask26 X (by omega)
          have ho := or_zero64 (X / 67108864) (by omega)
          rw [show ((X / 67108864 : Nat) : Int) = (X : Int) / 67108864 by simp] at ho
          clear hXb hz1
          go_wp2_with (fail)
          refine wp_still_tail 13 (by kernel_rfl) (by kernel_rfl) ?_
          intro W hW
          have g1 : W.cell? ⟨w.heap.size + 1, 2, none⟩ = some (.int .u64 (X0 : Int)) := by rw [hW]; exact hc
          have gf : W.frozen? ⟨w.heap.size + 1, 2, none⟩ = false := by rw [hW]; exact hf
          have HW : Aside0 (PN w [List.replicate 5 0, limbs V] W) := ⟨by rw [hW]; exact H.out.drew⟩
          have wj : IntKind.i64.wrap 2 = 2 := by decide +kernel
          have wr_ : IntKind.i64.wrap 20 = 20 := by decide +kernel
          have g3 : W.cell? ⟨w.heap.size + 1, 3, none⟩ = some (.int .u64 0) := by rw [hW]; exact hc1
          have gf3 : W.frozen? ⟨w.heap.size + 1, 3, none⟩ = false := by rw [hW]; exact hf1
          clear hW hc hf hc1 hf1
          simp only [List.take_succ_cons, List.take_zero, List.drop_succ_cons, List.drop_zero]
          repeat still_step
          refine wpStill_nil ?_
          clear wj wr_
          go_wp2
          refine ⟨⟨10, by omega, rfl, ?_⟩, by simp [intOf]; omega⟩
          rw [HV'.out, HR.out]
          have h1 := (HW.out.set 1 2 X rfl)
          have h2 := (h1.set 1 3 (X / 67108864) (l := (limbs V).set 2 X) rfl)
          have h3 := (h2.set 1 2 (X % 67108864) (l := ((limbs V).set 2 X).set 3 (X / 67108864)) rfl)
          exact ⟨h3⟩
        · as_aux_lemma =>
          have t1 : decide (0 < (X : Int) / 67108864) = false := decide_eq_false (by omega)
          have t2 : decide (0 < X / 67108864) = false := decide_eq_false (by omega)
          have hX0 : X / 67108864 = 0 := by omega
          have hX1 : X % 67108864 = X := by omega
          have HX0 := Aside0.mk hX0
          have HX1 := Aside0.mk hX1
          have hlz : (limbs V).set 3 0 = limbs V := by rw [← hz1]; rfl
          have HLZ := Aside0.mk hlz
          clear hXb hX0 hX1 hlz hz1
          go_wp2_with (fail)
          refine wp_still_tail 13 (by kernel_rfl) (by kernel_rfl) ?_
          intro W hW
          have g1 : W.cell? ⟨w.heap.size + 1, 2, none⟩ = some (.int .u64 (X0 : Int)) := by rw [hW]; exact hc
          have gf : W.frozen? ⟨w.heap.size + 1, 2, none⟩ = false := by rw [hW]; exact hf
          have HW : Aside0 (PN w [List.replicate 5 0, limbs V] W) := ⟨by rw [hW]; exact H.out.drew⟩
          have wj : IntKind.i64.wrap 2 = 2 := by decide +kernel
          have wr_ : IntKind.i64.wrap 20 = 20 := by decide +kernel
          have g3 : W.cell? ⟨w.heap.size + 1, 3, none⟩ = some (.int .u64 0) := by rw [hW]; exact hc1
          have gf3 : W.frozen? ⟨w.heap.size + 1, 3, none⟩ = false := by rw [hW]; exact hf1
          clear hW hc hf hc1 hf1
          simp only [List.take_succ_cons, List.take_zero, List.drop_succ_cons, List.drop_zero]
          repeat still_step
          refine wpStill_nil ?_
          clear wj wr_
          go_wp2
          refine ⟨⟨10, by omega, rfl, ?_⟩, by simp [intOf]; omega⟩
          rw [HV'.out, HR.out]
          rw [HX0.out, HX1.out, HLZ.out]
          exact ⟨HW.out.set 1 2 X rfl⟩
      · as_aux_lemma =>
        subst h
        clear HK
        have hV2 : V < 1208925819614629174706176 := hV
        have hy2 : y < 256 := hy
        have hR := rd_10 V y hV2 hy2
        have hx0 : V / 302231454903657293676544 % 67108864 < 4 := by omega
        have hc := (H.out.cell 1 3 rfl (by show _ < 5; decide)).1
        have hf := (H.out.cell 1 3 rfl (by show _ < 5; decide)).2
        have hcv : (limbs V).getD 3 0 = V / 302231454903657293676544 % 67108864 := rfl
        rw [hcv] at hc
        clear hcv
        generalize V / 302231454903657293676544 % 67108864 = X0 at hR hx0 hc
        have E : bits .or .u64 (X0 : Int) (IntKind.u64.wrap (IntKind.u64.wrap (y : Int) * 4)) = ((X0 + y * 4 : Nat) : Int) := by
          have := or_shl X0 y 4 2 rfl (by decide) hx0 hy
          exact this
        have hXb : X0 + y * 4 < 67108864 := by omega
        generalize X0 + y * 4 = X at E hR hXb
        have HR := Aside0.mk hR
        have HV' : Aside0 (dv (List.take (10 + 1) (bys s)) = V + 1208925819614629174706176 * y) := ⟨HDSk.out⟩
        have t0 : decide ((10 : Int) < (s.size : Int)) = true := decide_eq_true (by omega)
        have hle : 10 < s.size := hlt
        have t00 : (10 : Int) < (s.size : Int) := by omega
        clear hV hV2 hR hx0 hy hy2 h16 HDSk
        simp only [adr] at hc hf
        rw [show ((10 : Nat) : Int) = 10 from rfl]
        have t1 : decide (0 < (X : Int) / 67108864) = false := decide_eq_false (by omega)
        have t2 : decide (0 < X / 67108864) = false := decide_eq_false (by omega)
        clear hXb
        go_wp2_with (fail)
        refine wp_still_tail 13 (by kernel_rfl) (by kernel_rfl) ?_
        intro W hW
        have g1 : W.cell? ⟨w.heap.size + 1, 3, none⟩ = some (.int .u64 (X0 : Int)) := by rw [hW]; exact hc
        have gf : W.frozen? ⟨w.heap.size + 1, 3, none⟩ = false := by rw [hW]; exact hf
        have HW : Aside0 (PN w [List.replicate 5 0, limbs V] W) := ⟨by rw [hW]; exact H.out.drew⟩
        have wj : IntKind.i64.wrap 3 = 3 := by decide +kernel
        have wr_ : IntKind.i64.wrap 2 = 2 := by decide +kernel
        clear hW hc hf
        simp only [List.take_succ_cons, List.take_zero, List.drop_succ_cons, List.drop_zero]
        repeat still_step
        refine wpStill_nil ?_
        clear wj wr_
        go_wp2
        refine ⟨⟨11, by omega, rfl, ?_⟩, by simp [intOf]; omega⟩
        rw [HV'.out, HR.out]
        exact ⟨HW.out.set 1 3 X rfl⟩
      · as_aux_lemma =>
        subst h
        clear HK
        have hV2 : V < 309485009821345068724781056 := hV
        have hy2 : y < 256 := hy
        have hR := rd_11 V y hV2 hy2
        have hx0 : V / 302231454903657293676544 % 67108864 < 1024 := by omega
        have hc := (H.out.cell 1 3 rfl (by show _ < 5; decide)).1
        have hf := (H.out.cell 1 3 rfl (by show _ < 5; decide)).2
        have hcv : (limbs V).getD 3 0 = V / 302231454903657293676544 % 67108864 := rfl
        rw [hcv] at hc
        clear hcv
        generalize V / 302231454903657293676544 % 67108864 = X0 at hR hx0 hc
        have E : bits .or .u64 (X0 : Int) (IntKind.u64.wrap (IntKind.u64.wrap (y : Int) * 1024)) = ((X0 + y * 1024 : Nat) : Int) := by
          have := or_shl X0 y 1024 10 rfl (by decide) hx0 hy
          exact this
        have hXb : X0 + y * 1024 < 67108864 := by omega
        generalize X0 + y * 1024 = X at E hR hXb
        have HR := Aside0.mk hR
        have HV' : Aside0 (dv (List.take (11 + 1) (bys s)) = V + 309485009821345068724781056 * y) := ⟨HDSk.out⟩
        have t0 : decide ((11 : Int) < (s.size : Int)) = true := decide_eq_true (by omega)
        have hle : 11 < s.size := hlt
        have t00 : (11 : Int) < (s.size : Int) := by omega
        clear hV hV2 hR hx0 hy hy2 h16 HDSk
        simp only [adr] at hc hf
        rw [show ((11 : Nat) : Int) = 11 from rfl]
        have t1 : decide (0 < (X : Int) / 67108864) = false := decide_eq_false (by omega)
        have t2 : decide (0 < X / 67108864) = false := decide_eq_false (by omega)
        clear hXb
        go_wp2_with (fail)
        refine wp_still_tail 13 (by kernel_rfl) (by kernel_rfl) ?_
        intro W hW
        have g1 : W.cell? ⟨w.heap.size + 1, 3, none⟩ = some (.int .u64 (X0 : Int)) := by rw [hW]; exact hc
        have gf : W.frozen? ⟨w.heap.size + 1, 3, none⟩ = false := by rw [hW]; exact hf
        have HW : Aside0 (PN w [List.replicate 5 0, limbs V] W) := ⟨by rw [hW]; exact H.out.drew⟩
        have wj : IntKind.i64.wrap 3 = 3 := by decide +kernel
        have wr_ : IntKind.i64.wrap 10 = 10 := by decide +kernel
        clear hW hc hf
        simp only [List.take_succ_cons, List.take_zero, List.drop_succ_cons, List.drop_zero]
        repeat still_step
        refine wpStill_nil ?_
        clear wj wr_
        go_wp2
        refine ⟨⟨12, by omega, rfl, ?_⟩, by simp [intOf]; omega⟩
        rw [HV'.out, HR.out]
        exact ⟨HW.out.set 1 3 X rfl⟩
      · as_aux_lemma =>
        subst h
        clear HK
        have hV2 : V < 79228162514264337593543950336 := hV
        have hy2 : y < 256 := hy
        have hR := rd_12 V y hV2 hy2
        have hx0 : V / 302231454903657293676544 % 67108864 < 262144 := by omega
        have hc := (H.out.cell 1 3 rfl (by show _ < 5; decide)).1
        have hf := (H.out.cell 1 3 rfl (by show _ < 5; decide)).2
        have hcv : (limbs V).getD 3 0 = V / 302231454903657293676544 % 67108864 := rfl
        rw [hcv] at hc
        clear hcv
        generalize V / 302231454903657293676544 % 67108864 = X0 at hR hx0 hc
        have E : bits .or .u64 (X0 : Int) (IntKind.u64.wrap (IntKind.u64.wrap (y : Int) * 262144)) = ((X0 + y * 262144 : Nat) : Int) := by
          have := or_shl X0 y 262144 18 rfl (by decide) hx0 hy
          exact this
        have hXb : X0 + y * 262144 < 67108864 := by omega
        generalize X0 + y * 262144 = X at E hR hXb
        have HR := Aside0.mk hR
        have HV' : Aside0 (dv (List.take (12 + 1) (bys s)) = V + 79228162514264337593543950336 * y) := ⟨HDSk.out⟩
        have t0 : decide ((12 : Int) < (s.size : Int)) = true := decide_eq_true (by omega)
        have hle : 12 < s.size := hlt
        have t00 : (12 : Int) < (s.size : Int) := by omega
        clear hV hV2 hR hx0 hy hy2 h16 HDSk
        simp only [adr] at hc hf
        rw [show ((12 : Nat) : Int) = 12 from rfl]
        have t1 : decide (0 < (X : Int) / 67108864) = false := decide_eq_false (by omega)
        have t2 : decide (0 < X / 67108864) = false := decide_eq_false (by omega)
        clear hXb
        go_wp2_with (fail)
        refine wp_still_tail 13 (by kernel_rfl) (by kernel_rfl) ?_
        intro W hW
        have g1 : W.cell? ⟨w.heap.size + 1, 3, none⟩ = some (.int .u64 (X0 : Int)) := by rw [hW]; exact hc
        have gf : W.frozen? ⟨w.heap.size + 1, 3, none⟩ = false := by rw [hW]; exact hf
        have HW : Aside0 (PN w [List.replicate 5 0, limbs V] W) := ⟨by rw [hW]; exact H.out.drew⟩
        have wj : IntKind.i64.wrap 3 = 3 := by decide +kernel
        have wr_ : IntKind.i64.wrap 18 = 18 := by decide +kernel
        clear hW hc hf
        simp only [List.take_succ_cons, List.take_zero, List.drop_succ_cons, List.drop_zero]
        repeat still_step
        refine wpStill_nil ?_
        clear wj wr_
        go_wp2
        refine ⟨⟨13, by omega, rfl, ?_⟩, by simp [intOf]; omega⟩
        rw [HV'.out, HR.out]
        exact ⟨HW.out.set 1 3 X rfl⟩
      · as_aux_lemma =>
        subst h
        clear HK
        have hV2 : V < 20282409603651670423947251286016 := hV
        have hy2 : y < 256 := hy
        have hR := rd_13 V y hV2 hy2
        have hx0 : V / 20282409603651670423947251286016 % 67108864 < 1 := by omega
        have hc := (H.out.cell 1 4 rfl (by show _ < 5; decide)).1
        have hf := (H.out.cell 1 4 rfl (by show _ < 5; decide)).2
        have hcv : (limbs V).getD 4 0 = V / 20282409603651670423947251286016 % 67108864 := rfl
        rw [hcv] at hc
        clear hcv
        generalize V / 20282409603651670423947251286016 % 67108864 = X0 at hR hx0 hc
        have E : bits .or .u64 (X0 : Int) (IntKind.u64.wrap (IntKind.u64.wrap (y : Int))) = ((X0 + y * 1 : Nat) : Int) := by
          have := or_shl X0 y 1 0 rfl (by decide) hx0 hy
          rw [show ((1 : Nat) : Int) = 1 from rfl, Int.mul_one, wraps_u64 (y : Int) (by omega) (by omega), wraps_u64 (y : Int) (by omega) (by omega)] at this
          rw [wraps_u64 (y : Int) (by omega) (by omega), wraps_u64 (y : Int) (by omega) (by omega), this, Nat.mul_one]
        have hXb : X0 + y * 1 < 67108864 := by omega
        generalize X0 + y * 1 = X at E hR hXb
        have HR := Aside0.mk hR
        have HV' : Aside0 (dv (List.take (13 + 1) (bys s)) = V + 20282409603651670423947251286016 * y) := ⟨HDSk.out⟩
        have t0 : decide ((13 : Int) < (s.size : Int)) = true := decide_eq_true (by omega)
        have hle : 13 < s.size := hlt
        have t00 : (13 : Int) < (s.size : Int) := by omega
        clear hV hV2 hR hx0 hy hy2 h16 HDSk
        simp only [adr] at hc hf
        rw [show ((13 : Nat) : Int) = 13 from rfl]
        have t1 : decide (0 < (X : Int) / 67108864) = false := decide_eq_false (by omega)
        have t2 : decide (0 < X / 67108864) = false := decide_eq_false (by omega)
        clear hXb
        go_wp2_with (fail)
        refine wp_still_tail 13 (by kernel_rfl) (by kernel_rfl) ?_
        intro W hW
        have g1 : W.cell? ⟨w.heap.size + 1, 4, none⟩ = some (.int .u64 (X0 : Int)) := by rw [hW]; exact hc
        have gf : W.frozen? ⟨w.heap.size + 1, 4, none⟩ = false := by rw [hW]; exact hf
        have HW : Aside0 (PN w [List.replicate 5 0, limbs V] W) := ⟨by rw [hW]; exact H.out.drew⟩
        have wj : IntKind.i64.wrap 4 = 4 := by decide +kernel
        have wr_ : IntKind.i64.wrap 0 = 0 := by decide +kernel
        clear hW hc hf
        simp only [List.take_succ_cons, List.take_zero, List.drop_succ_cons, List.drop_zero]
        repeat still_step
        refine wpStill_nil ?_
        clear wj wr_
        go_wp2
        refine ⟨⟨14, by omega, rfl, ?_⟩, by simp [intOf]; omega⟩
        rw [HV'.out, HR.out]
        exact ⟨HW.out.set 1 4 X rfl⟩
      · as_aux_lemma =>
        subst h
        clear HK
        have hV2 : V < 5192296858534827628530496329220096 := hV
        have hy2 : y < 256 := hy
        have hR := rd_14 V y hV2 hy2
        have hx0 : V / 20282409603651670423947251286016 % 67108864 < 256 := by omega
        have hc := (H.out.cell 1 4 rfl (by show _ < 5; decide)).1
        have hf := (H.out.cell 1 4 rfl (by show _ < 5; decide)).2
        have hcv : (limbs V).getD 4 0 = V / 20282409603651670423947251286016 % 67108864 := rfl
        rw [hcv] at hc
        clear hcv
        generalize V / 20282409603651670423947251286016 % 67108864 = X0 at hR hx0 hc
        have E : bits .or .u64 (X0 : Int) (IntKind.u64.wrap (IntKind.u64.wrap (y : Int) * 256)) = ((X0 + y * 256 : Nat) : Int) := by
          have := or_shl X0 y 256 8 rfl (by decide) hx0 hy
          exact this
        have hXb : X0 + y * 256 < 67108864 := by omega
        generalize X0 + y * 256 = X at E hR hXb
        have HR := Aside0.mk hR
        have HV' : Aside0 (dv (List.take (14 + 1) (bys s)) = V + 5192296858534827628530496329220096 * y) := ⟨HDSk.out⟩
        have t0 : decide ((14 : Int) < (s.size : Int)) = true := decide_eq_true (by omega)
        have hle : 14 < s.size := hlt
        have t00 : (14 : Int) < (s.size : Int) := by omega
        clear hV hV2 hR hx0 hy hy2 h16 HDSk
        simp only [adr] at hc hf
        rw [show ((14 : Nat) : Int) = 14 from rfl]
        have t1 : decide (0 < (X : Int) / 67108864) = false := decide_eq_false (by omega)
        have t2 : decide (0 < X / 67108864) = false := decide_eq_false (by omega)
        clear hXb
        go_wp2_with (fail)
        refine wp_still_tail 13 (by kernel_rfl) (by kernel_rfl) ?_
        intro W hW
        have g1 : W.cell? ⟨w.heap.size + 1, 4, none⟩ = some (.int .u64 (X0 : Int)) := by rw [hW]; exact hc
        have gf : W.frozen? ⟨w.heap.size + 1, 4, none⟩ = false := by rw [hW]; exact hf
        have HW : Aside0 (PN w [List.replicate 5 0, limbs V] W) := ⟨by rw [hW]; exact H.out.drew⟩
        have wj : IntKind.i64.wrap 4 = 4 := by decide +kernel
        have wr_ : IntKind.i64.wrap 8 = 8 := by decide +kernel
        clear hW hc hf
        simp only [List.take_succ_cons, List.take_zero, List.drop_succ_cons, List.drop_zero]
        repeat still_step
        refine wpStill_nil ?_
        clear wj wr_
        go_wp2
        refine ⟨⟨15, by omega, rfl, ?_⟩, by simp [intOf]; omega⟩
        rw [HV'.out, HR.out]
        exact ⟨HW.out.set 1 4 X rfl⟩
      · as_aux_lemma =>
        subst h
        clear HK
        have hV2 : V < 1329227995784915872903807060280344576 := hV
        have hy2 : y < 256 := hy
        have hR := rd_15 V y hV2 hy2
        have hx0 : V / 20282409603651670423947251286016 % 67108864 < 65536 := by omega
        have hc := (H.out.cell 1 4 rfl (by show _ < 5; decide)).1
        have hf := (H.out.cell 1 4 rfl (by show _ < 5; decide)).2
        have hcv : (limbs V).getD 4 0 = V / 20282409603651670423947251286016 % 67108864 := rfl
        rw [hcv] at hc
        clear hcv
        generalize V / 20282409603651670423947251286016 % 67108864 = X0 at hR hx0 hc
        have E : bits .or .u64 (X0 : Int) (IntKind.u64.wrap (IntKind.u64.wrap (y : Int) * 65536)) = ((X0 + y * 65536 : Nat) : Int) := by
          have := or_shl X0 y 65536 16 rfl (by decide) hx0 hy
          exact this
        have hXb : X0 + y * 65536 < 67108864 := by omega
        generalize X0 + y * 65536 = X at E hR hXb
        have HR := Aside0.mk hR
        have HV' : Aside0 (dv (List.take (15 + 1) (bys s)) = V + 1329227995784915872903807060280344576 * y) := ⟨HDSk.out⟩
        have t0 : decide ((15 : Int) < (s.size : Int)) = true := decide_eq_true (by omega)
        have hle : 15 < s.size := hlt
        have t00 : (15 : Int) < (s.size : Int) := by omega
        clear hV hV2 hR hx0 hy hy2 h16 HDSk
        simp only [adr] at hc hf
        rw [show ((15 : Nat) : Int) = 15 from rfl]
        have t1 : decide (0 < (X : Int) / 67108864) = false := decide_eq_false (by omega)
        have t2 : decide (0 < X / 67108864) = false := decide_eq_false (by omega)
        clear hXb
        go_wp2_with (fail)
        refine wp_still_tail 13 (by kernel_rfl) (by kernel_rfl) ?_
        intro W hW
        have g1 : W.cell? ⟨w.heap.size + 1, 4, none⟩ = some (.int .u64 (X0 : Int)) := by rw [hW]; exact hc
        have gf : W.frozen? ⟨w.heap.size + 1, 4, none⟩ = false := by rw [hW]; exact hf
        have HW : Aside0 (PN w [List.replicate 5 0, limbs V] W) := ⟨by rw [hW]; exact H.out.drew⟩
        have wj : IntKind.i64.wrap 4 = 4 := by decide +kernel
        have wr_ : IntKind.i64.wrap 16 = 16 := by decide +kernel
        clear hW hc hf
        simp only [List.take_succ_cons, List.take_zero, List.drop_succ_cons, List.drop_zero]
        repeat still_step
        refine wpStill_nil ?_
        clear wj wr_
        go_wp2
        refine ⟨⟨16, by omega, rfl, ?_⟩, by simp [intOf]; omega⟩
        rw [HV'.out, HR.out]
        exact ⟨HW.out.set 1 4 X rfl⟩
      · as_aux_lemma =>
        subst h
        clear HK
        have hV2 : V < 340282366920938463463374607431768211456 := hV
        have hy2 : y < 4 := h16 rfl
        have hR := rd_16 V y hV2 hy2
        have hx0 : V / 20282409603651670423947251286016 % 67108864 < 16777216 := by omega
        have hc := (H.out.cell 1 4 rfl (by show _ < 5; decide)).1
        have hf := (H.out.cell 1 4 rfl (by show _ < 5; decide)).2
        have hcv : (limbs V).getD 4 0 = V / 20282409603651670423947251286016 % 67108864 := rfl
        rw [hcv] at hc
        clear hcv
        generalize V / 20282409603651670423947251286016 % 67108864 = X0 at hR hx0 hc
        have E : bits .or .u64 (X0 : Int) (IntKind.u64.wrap (IntKind.u64.wrap (y : Int) * 16777216)) = ((X0 + y * 16777216 : Nat) : Int) := by
          have := or_shl X0 y 16777216 24 rfl (by decide) hx0 hy
          exact this
        have hXb : X0 + y * 16777216 < 67108864 := by omega
        generalize X0 + y * 16777216 = X at E hR hXb
        have HR := Aside0.mk hR
        have HV' : Aside0 (dv (List.take (16 + 1) (bys s)) = V + 340282366920938463463374607431768211456 * y) := ⟨HDSk.out⟩
        have t0 : decide ((16 : Int) < (s.size : Int)) = true := decide_eq_true (by omega)
        have hle : 16 < s.size := hlt
        have t00 : (16 : Int) < (s.size : Int) := by omega
        clear hV hV2 hR hx0 hy hy2 h16 HDSk
        simp only [adr] at hc hf
        rw [show ((16 : Nat) : Int) = 16 from rfl]
        have t1 : decide (0 < (X : Int) / 67108864) = false := decide_eq_false (by omega)
        have t2 : decide (0 < X / 67108864) = false := decide_eq_false (by omega)
        clear hXb
        go_wp2_with (fail)
        refine wp_still_tail 13 (by kernel_rfl) (by kernel_rfl) ?_
        intro W hW
        have g1 : W.cell? ⟨w.heap.size + 1, 4, none⟩ = some (.int .u64 (X0 : Int)) := by rw [hW]; exact hc
        have gf : W.frozen? ⟨w.heap.size + 1, 4, none⟩ = false := by rw [hW]; exact hf
        have HW : Aside0 (PN w [List.replicate 5 0, limbs V] W) := ⟨by rw [hW]; exact H.out.drew⟩
        have wj : IntKind.i64.wrap 4 = 4 := by decide +kernel
        have wr_ : IntKind.i64.wrap 24 = 24 := by decide +kernel
        clear hW hc hf
        simp only [List.take_succ_cons, List.take_zero, List.drop_succ_cons, List.drop_zero]
        repeat still_step
        refine wpStill_nil ?_
        clear wj wr_
        go_wp2
        refine ⟨⟨17, by omega, rfl, ?_⟩, by simp [intOf]; omega⟩
        rw [HV'.out, HR.out]
        exact ⟨HW.out.set 1 4 X rfl⟩
    · obtain rfl : k = s.size := by omega
      clear hlt hk
      have hr : dv ((bys s).take s.size) = dv (bys s) := by rw [← bys_length, List.take_length]
      rw [hr] at H
      have HCL := Aside0.mk (show (limbs (dv (bys s))).length = 5 from rfl)
      generalize hR : limbs (dv (bys s)) = r at *
      have HRe := Aside0.mk hR
      clear hR hr
      go_upto_region 12 with (fail)
      have hrow := H.out.rows 1 r rfl
      have hout := H.out.rows 0 _ rfl
      simp only [adr] at hrow hout
      have hsz : (Try.prog.info? 84).map (·.size) = some (u64s r).size := by rw [u64s_size, HCL.out]; exact HI.out
      have hsz2 : (u64s (List.replicate 5 0)).size = (u64s r).size := by rw [u64s_size, u64s_size, HCL.out]; rfl
      have HROW := Aside0.mk hrow
      have HOUT := Aside0.mk hout
      have HSZ := Aside0.mk hsz
      have HSZ2 := Aside0.mk hsz2
      clear hrow hout hsz hsz2
      go_wp2_with (first | (with_reducible refine wpList_load_row rfl 84 (.tmp 3) rfl (w.heap.size + 1) rfl 84 (u64s r) (0, 0) _ HROW.out Try.underlying84 rfl HSZ.out ?_) | (refine wpList_store_row rfl 84 (.tmp 2) (.tmp 49) rfl (w.heap.size) (u64s r) rfl rfl 84 _ HOUT.out HSZ.out HSZ2.out (u64s_one _) ?_))
      exact bodyPost_ret (results_cell_row Try.results77 _ _ (w.heap.size) 84 (u64s r) (0, 0) _ rfl (setRow_heap _ _ _ _ _ _ HOUT.out) Try.underlying84 rfl HSZ.out) rfl ⟨by first | (rw [HRe.out]; done) | (rw [HRe.out]; rfl) | rfl, below_setRow H.out.below (by omega) _⟩
end Go.Proofs.Ytmablneefndedaa.Pr

/- AeadTag: the walk, and what it answers. -/
import Derived.Test.YtmablneefndedaaHAwkA
import Derived.Test.YtmablneefndedaaHGenA
namespace Go.Proofs.Ytmablneefndedaa.Pr
open Go.RowKit Go.Deep Go.Proofs.YtmablneefndedaaW.PrintWords Go.Proofs.YtmablneefndedaaW.PrintLast Go.Proofs.YtmablneefndedaaW.PrintMore
set_option maxHeartbeats 2000000
set_option linter.unusedVariables false
set_option linter.unusedSimpArgs false
theorem and_15t (n : Int) : bits .and .i64 n 15 = n % 16 := by
  have h127 : (BitVec.ofInt 64 15).toNat = 2 ^ 4 - 1 := by decide
  have key : (BitVec.ofInt 64 n &&& BitVec.ofInt 64 15).toNat = (n % ((2 ^ 64 : Nat) : Int)).toNat % 2 ^ 4 := by
    rw [BitVec.toNat_and, BitVec.toNat_ofInt, h127, Nat.and_two_pow_sub_one_eq_mod]
  show IntKind.i64.wrap ((BitVec.ofInt 64 n &&& BitVec.ofInt 64 15).toNat : Nat) = n % 16
  rw [key, IntKind.wrap_i64]
  omega
theorem and_7t (n : Int) : bits .and .i64 n 7 = n % 8 := by
  have h127 : (BitVec.ofInt 64 7).toNat = 2 ^ 3 - 1 := by decide
  have key : (BitVec.ofInt 64 n &&& BitVec.ofInt 64 7).toNat = (n % ((2 ^ 64 : Nat) : Int)).toNat % 2 ^ 3 := by
    rw [BitVec.toNat_and, BitVec.toNat_ofInt, h127, Nat.and_two_pow_sub_one_eq_mod]
  show IntKind.i64.wrap ((BitVec.ofInt 64 n &&& BitVec.ofInt 64 7).toNat : Nat) = n % 8
  rw [key, IntKind.wrap_i64]
  omega
theorem tag_heavy (a0 a1 : ByteArray) (x y : Int) (h : ¬ (a0.size = 44 ∧ a1.size ≤ 512)) (w : World) :
    Calls Try.prog 6 #[.string a0, .string a1, .agg #[.int .i64 x, .int .i64 y]] w fun e w' => e = .returned (.bool true) ∧ Below w.heap.size w w' := by
  by_cases h0 : a0.size = 44
  · have c1 : ((a0.size : Int) != 44) = false := by rw [bne_eq_false_iff_eq]; omega
    have c2 : decide (512 < (a1.size : Int)) = true := decide_eq_true (by omega)
    clear h h0
    go_enter Try.func6, Try.ntmps6
    go_wp2_with (go_at_call 12; refine (samphirelaw07_awake.calls _ _ awake07_f).mono ?_; rintro e w6 ⟨rfl, hb6⟩)
    go_ret
    exact ⟨rfl, below_then (below_alloc (Below.refl _ _) _) (below_alloc (Below.refl _ _) _).size hb6⟩
  · have c1 : ((a0.size : Int) != 44) = true := by rw [bne_iff_ne]; omega
    clear h h0
    go_enter Try.func6, Try.ntmps6
    go_wp2_with (go_at_call 12; refine (samphirelaw07_awake.calls _ _ awake07_f).mono ?_; rintro e w6 ⟨rfl, hb6⟩)
    go_ret
    exact ⟨rfl, below_then (below_alloc (Below.refl _ _) _) (below_alloc (Below.refl _ _) _).size hb6⟩
set_option maxRecDepth 100000 in
theorem tag_light (a0 a1 : ByteArray) (x y : Int) (h0 : a0.size = 44) (h1 : a1.size ≤ 512) (w : World) :
    Calls Try.prog 6 #[.string a0, .string a1, .agg #[.int .i64 x, .int .i64 y]] w fun e w' => e = .returned (.bool true) ∧ Below w.heap.size w w' := by
  have c1 : ((a0.size : Int) != 44) = false := by rw [bne_eq_false_iff_eq]; omega
  have c2 : decide (512 < (a1.size : Int)) = false := decide_eq_false (by omega)
  have c3 := eq_true (show (32 : Int) ≤ (a0.size : Int) by omega)
  have c4 := eq_true (show 32 ≤ a0.size by omega)
  have hok : aeadOK (a0.extract 0 32) (a0.extract 32 a0.size) (⟨#[]⟩ : ByteArray).size a1.size := ⟨by rw [ByteArray.size_extract]; omega, by rw [ByteArray.size_extract]; omega, by decide, by show a1.size ≤ 32768 - 0; omega⟩
  have HS := fun W => aead_Seal.calls (a0.extract 0 32) (a0.extract 32 a0.size) ⟨#[]⟩ a1 (sealF (a0.extract 0 32) (a0.extract 32 a0.size) ⟨#[]⟩ a1).1 (sealF (a0.extract 0 32) (a0.extract 32 a0.size) ⟨#[]⟩ a1).2 W (aead_Seal_f _ _ _ _ (by decide) (by omega))
  obtain ⟨o1, o2, o3, o4⟩ := open_seal _ _ _ _ hok
  rw [o2] at HS
  have HOK := Aside0.mk hok
  clear hok
  generalize (sealF (a0.extract 0 32) (a0.extract 32 a0.size) ⟨#[]⟩ a1).1 = S at *
  have HO3 := Aside0.mk o3
  have HO4 := Aside0.mk o4
  have HSL := Aside0.mk HS
  have d1 : ((S.size : Int) != (a1.size : Int) + 16) = false := by rw [bne_eq_false_iff_eq, o3]; omega
  clear o1 o2 o3 o4 HS h0
  go_enter Try.func6, Try.ntmps6
  go_upto_region 3 with (fail)
  have HX0 : Aside0 ((w.alloc (Obj.cells #[Value.int IntKind.i64 x, Value.int IntKind.i64 y] 27)).heap[w.heap.size]? = some (.cells #[Value.int IntKind.i64 x, Value.int IntKind.i64 y] 27 (0, 0))) := ⟨blk_new _ _⟩
  have HB0 : Aside0 (Below w.heap.size w (w.alloc (Obj.cells #[Value.int IntKind.i64 x, Value.int IntKind.i64 y] 27))) := ⟨below_alloc (Below.refl _ _) _⟩
  have HZ0 : Aside0 (w.heap.size < (w.alloc (Obj.cells #[Value.int IntKind.i64 x, Value.int IntKind.i64 y] 27)).heap.size) := ⟨by simp⟩
  generalize w.alloc (Obj.cells #[Value.int IntKind.i64 x, Value.int IntKind.i64 y] 27) = W0 at HX0 HB0 HZ0 ⊢
  refine start_ (n := 11) (S := fun w' => True) (ds := []) #[false, false, false, false, false, false, false, false, false, false, false] (by kernel_rfl) rfl rfl trivial (fun hHeld => ?_)
  refine pure_ (i := 0) (N := some 25) (v := ?_) (a' := ?_) #[true, false, false, false, false, false, false, false, false, false, false] rfl rfl (by kernel_rfl) (fun _ _ _ h => h) (Or.inl ⟨by rfl, ?_⟩) ?_ ?_
  rotate_left
  · intro w'
    go_simp
    with_reducible rfl
  rotate_left
  · simp only [Act.put, List.setIfInBounds_toArray, List.set_cons_zero, List.set_cons_succ, i64_w, i32_w]
    rfl
  refine pure_ (i := 1) (N := some 26) (v := ?_) (a' := ?_) #[true, true, false, false, false, false, false, false, false, false, false] rfl rfl (by kernel_rfl) (fun _ _ _ h => h) (Or.inl ⟨by rfl, ?_⟩) ?_ ?_
  rotate_left
  · intro w'
    go_simp
    with_reducible rfl
  rotate_left
  · simp only [Act.put, List.setIfInBounds_toArray, List.set_cons_zero, List.set_cons_succ, i64_w, i32_w]
    rfl
  refine pure_ (i := 2) (N := some 27) (v := ?_) (a' := ?_) #[true, true, true, false, false, false, false, false, false, false, false] rfl rfl (by kernel_rfl) (fun _ _ _ h => h) (Or.inl ⟨by rfl, ?_⟩) ?_ ?_
  rotate_left
  · intro w'
    go_simp
    with_reducible rfl
  rotate_left
  · simp only [Act.put, List.setIfInBounds_toArray, List.set_cons_zero, List.set_cons_succ, i64_w, i32_w]
    rfl
  refine pure_ (i := 3) (N := some 28) (v := ?_) (a' := ?_) #[true, true, true, true, false, false, false, false, false, false, false] rfl rfl (by kernel_rfl) (fun _ _ _ h => h) (Or.inl ⟨by rfl, ?_⟩) ?_ ?_
  rotate_left
  · intro w'
    go_simp
    with_reducible rfl
  rotate_left
  · simp only [Act.put, List.setIfInBounds_toArray, List.set_cons_zero, List.set_cons_succ, i64_w, i32_w]
    rfl
  refine pure_ (i := 4) (N := some 29) (v := ?_) (a' := ?_) #[true, true, true, true, true, false, false, false, false, false, false] rfl rfl (by kernel_rfl) (fun _ _ _ h => h) (Or.inl ⟨by rfl, ?_⟩) ?_ ?_
  rotate_left
  · intro w'
    go_simp
    with_reducible rfl
  rotate_left
  · simp only [Act.put, List.setIfInBounds_toArray, List.set_cons_zero, List.set_cons_succ, i64_w, i32_w]
    rfl
  refine one_ (i := 5) (N := some 30) #[true, true, true, true, true, true, false, false, false, false, false] rfl rfl (by kernel_rfl) (by decide) (fun K hK => ?_)
  refine goes_ Try.func13 (by kernel_rfl) rfl #[.string (a0.extract 0 32), .string (a0.extract 32 a0.size), .string ⟨#[]⟩, .string a1] (by rfl) rfl rfl (by simp only [List.map_toArray, List.map_cons, List.map_nil]; rfl) ?_
  with_reducible refine (HSL.out _).mono ?_
  rintro e w1 ⟨rfl, hb1⟩
  refine ⟨_, rfl, ?_⟩
  refine hK.out _ _ trivial (fun hHeld => ?_)
  clear hK K
  refine norm_ (a' := ?_) ?_ ?_
  rotate_left
  · show Act.put _ (some 30) _ = _
    simp only [Act.put, List.setIfInBounds_toArray, List.set_cons_zero, List.set_cons_succ, i64_w, i32_w]
    rfl
  refine pure_ (i := 6) (N := some 24) (v := ?_) (a' := ?_) #[true, true, true, true, true, true, true, false, false, false, false] rfl rfl (by kernel_rfl) (fun _ _ _ h => h) (Or.inl ⟨by rfl, ?_⟩) ?_ ?_
  rotate_left
  · intro w'
    go_simp
    with_reducible rfl
  rotate_left
  · simp only [Act.put, List.setIfInBounds_toArray, List.set_cons_zero, List.set_cons_succ, i64_w, i32_w]
    rfl
  refine pure_ (i := 7) (N := some 31) (v := ?_) (a' := ?_) #[true, true, true, true, true, true, true, true, false, false, false] rfl rfl (by kernel_rfl) (fun _ _ _ h => h) (Or.inl ⟨by rfl, ?_⟩) ?_ ?_
  rotate_left
  · intro w'
    go_simp
    with_reducible rfl
  rotate_left
  · simp only [Act.put, List.setIfInBounds_toArray, List.set_cons_zero, List.set_cons_succ, i64_w, i32_w]
    rfl
  refine pure_ (i := 8) (N := some 32) (v := ?_) (a' := ?_) #[true, true, true, true, true, true, true, true, true, false, false] rfl rfl (by kernel_rfl) (fun _ _ _ h => h) (Or.inl ⟨by rfl, ?_⟩) ?_ ?_
  rotate_left
  · intro w'
    go_simp
    with_reducible rfl
  rotate_left
  · simp only [Act.put, List.setIfInBounds_toArray, List.set_cons_zero, List.set_cons_succ, i64_w, i32_w]
    rfl
  refine pure_ (i := 9) (N := some 7) (v := ?_) (a' := ?_) #[true, true, true, true, true, true, true, true, true, true, false] rfl rfl (by kernel_rfl) (fun _ _ _ h => h) (Or.inl ⟨by rfl, ?_⟩) ?_ ?_
  rotate_left
  · intro w'
    go_simp
    with_reducible rfl
  rotate_left
  · simp only [Act.put, List.setIfInBounds_toArray, List.set_cons_zero, List.set_cons_succ, i64_w, i32_w]
    rfl
  refine pure_ (i := 10) (N := some 8) (v := ?_) (a' := ?_) #[true, true, true, true, true, true, true, true, true, true, true] rfl rfl (by kernel_rfl) (fun _ _ _ h => h) (Or.inl ⟨by rfl, ?_⟩) ?_ ?_
  rotate_left
  · intro w'
    go_simp
    with_reducible rfl
  rotate_left
  · simp only [Act.put, List.setIfInBounds_toArray, List.set_cons_zero, List.set_cons_succ, i64_w, i32_w]
    rfl
  refine done_ (by kernel_rfl) ?_

  go_wp2
  rw [print_bytes (P := Try.prog) 9 28 5 Try.underlying9 Try.underlying28 Try.underlying5 S w1]
  have hB1 : Below w.heap.size w w1 := below_then (below_drew1 HB0.out) (below_drew1 HB0.out).size hb1
  have X1 : w1.heap[w.heap.size]? = _ := blk_below (blk_drew HX0.out) hb1
  have hz1 : w.heap.size < w1.heap.size := by have := hb1.size; have := HZ0.out; simp at *; omega
  have HB2 : Aside0 (Below w.heap.size w (Lib.bytesWorld w1 5 S)) := ⟨bytes_below hB1 (by omega) _ _⟩
  have X2 : (Lib.bytesWorld w1 5 S).heap[w.heap.size]? = _ := blk_below X1 (bytes_below (Below.refl _ _) (Nat.le_refl _) _ _)
  obtain ⟨rest, HR⟩ := bytes_row w1 S
  have HZ1 := Aside0.mk hz1
  have hl : (bys S).length = a1.size + 16 := by rw [bys_length]; exact HO3.out
  have hlt := bys_lt' S
  generalize hLd : bys S = L at HR hl hlt
  have HL := Aside0.mk hLd
  generalize Lib.bytesWorld w1 5 S = w2 at HR HB2 X2 ⊢
  have HSZ : Aside0 (S.size = a1.size + 16) := HO3
  rw [HSZ.out]
  have hcp := grownCap_ge w1 (a1.size + 16) 0 5
  generalize grownCap w1 (a1.size + 16) 0 5 = cp at hcp ⊢
  have hcx := cell_of_row w2 w.heap.size 0 _ _ _ X2
  generalize hg : w1.heap.size = g at HR hz1 HZ1 ⊢
  generalize hv : w.heap.size = v at *
  have HX2 := Aside0.mk X2
  obtain ⟨i, hi, hi2⟩ : ∃ i : Nat, bits .and .i64 x 15 = (i : Int) ∧ i < 16 := ⟨(x % 16).toNat, by rw [and_15t]; omega, by omega⟩
  obtain ⟨k, hk⟩ : ∃ k : Nat, k = a1.size + i := ⟨_, rfl⟩
  have hkk : (a1.size : Int) + (i : Int) = (k : Int) := by omega
  have hkl : k < a1.size + 16 := by omega
  have HK := Aside0.mk hk
  clear hk hB1 X1 hb1 hz1
  have hx0 : L[k]? = some (L.getD k 0) := by
    rw [List.getElem?_eq_getElem (by omega)]
    simp [show k < L.length by omega]
  have hxb : L.getD k 0 < 256 := by
    rw [List.getD_eq_getElem?_getD, List.getElem?_eq_getElem (by omega)]
    exact hlt _ (List.getElem_mem _)
  have hcell := BAt.cell HR hx0
  have hfr := BAt.frozen HR hx0
  have HRA := Aside0.mk HR
  generalize hz : L.getD k 0 = z at hcell hxb
  have HZZ := Aside0.mk hz
  have HLN := Aside0.mk hl
  have HLT := Aside0.mk hlt
  clear HR hl hlt hLd hz hx0 X2
  obtain ⟨s, hs, hs2⟩ : ∃ s : Nat, bits .and .i64 (x / 16) 7 = (s : Int) ∧ s < 8 := ⟨(x / 16 % 8).toNat, by rw [and_7t]; omega, by omega⟩
  go_wp2_with (fail)
  refine wp_still_tail 12 (by kernel_rfl) (by kernel_rfl) ?_
  intro W hW
  have HW := Aside0.mk hW
  have g1 : W.cell? ⟨g, k, none⟩ = some (.int .u8 (z : Int)) := by rw [hW]; exact hcell
  have g2 : W.cell? ⟨v, 0, none⟩ = some (.int .i64 x) := by rw [hW]; exact hcx
  have gf : W.frozen? ⟨g, k, none⟩ = false := by rw [hW]; exact hfr
  have i1 : (k : Int) < (a1.size : Int) + 16 := by omega
  clear hW hcell hcx hfr
  simp only [List.take_succ_cons, List.take_zero, List.drop_succ_cons, List.drop_zero]
  repeat still_step
  refine wpStill_nil ?_
  obtain ⟨q, hq, hq0, hq1⟩ : ∃ q : Nat, IntKind.u8.wrap ((2 : Int) ^ s) = (q : Int) ∧ 0 < q ∧ q < 256 := by
    have e1 : ∀ t : Nat, t < 8 → IntKind.u8.wrap ((2 : Int) ^ t) = ((2 ^ t : Nat) : Int) := by decide
    have e2 : ∀ t : Nat, t < 8 → 0 < 2 ^ t ∧ 2 ^ t < 256 := by decide
    exact ⟨2 ^ s, e1 s hs2, (e2 s hs2).1, (e2 s hs2).2⟩
  have hxor := u8_xor_nat z q hxb hq1
  rw [hq, hxor]
  have H3 : BAt g (L.set k (z ^^^ q)) rest (W.setCell ⟨g, k, none⟩ (.int .u8 ((z ^^^ q : Nat) : Int))) := by
    rw [HW.out]
    exact BAt.store (w := w2.drew) HRA.out k (z ^^^ q) (by rw [HLN.out]; omega)
  have HR3 := Aside0.mk H3
  have HB3 : Aside0 (Below v w (W.setCell ⟨g, k, none⟩ (.int .u8 ((z ^^^ q : Nat) : Int)))) := ⟨by rw [HW.out]; exact (below_drew1 HB2.out).setCell (p := ⟨g, k, none⟩) (Nat.le_of_lt HZ1.out) _⟩
  have HX3 : Aside0 ((W.setCell ⟨g, k, none⟩ (.int .u8 ((z ^^^ q : Nat) : Int))).heap[v]? = some (.cells #[Value.int IntKind.i64 x, Value.int IntKind.i64 y] 27 (0, 0))) := ⟨by rw [HW.out]; exact blk_far (w := w2.drew) (blk_drew HX2.out) (fun h => by have := HZ1.out; change v = g at h; omega) _⟩
  have hbl : ∀ p ∈ L.set k (z ^^^ q), p < 256 := by
    intro p hp
    rcases List.mem_or_eq_of_mem_set hp with h | h
    · exact HLT.out p h
    · rw [h]
      exact Nat.xor_lt_two_pow (n := 8) hxb hq1
  have HV : Aside0 (bys (txt (L.set k (z ^^^ q))) = L.set k (z ^^^ q)) := ⟨bys_txt hbl⟩
  have HVs : Aside0 ((txt (L.set k (z ^^^ q))).size = a1.size + 16) := ⟨by rw [txt_size, List.length_set]; exact HLN.out⟩
  have HCV : Aside0 (∀ W' : World, BAt g (L.set k (z ^^^ q)) rest W' → (convert 28 9 (.slice (some ⟨g, 0, none⟩) (a1.size + 16) cp)).run Try.prog W' = .ok (.string (txt (L.set k (z ^^^ q)))) W') := ⟨fun W' h => conv_bat W' g _ rest h (a1.size + 16) (by rw [List.length_set]; exact HLN.out) cp⟩
  have HOX : Aside0 (∀ W' : World, Calls Try.prog 15 #[.string (a0.extract 0 32), .string (a0.extract 32 a0.size), .string ⟨#[]⟩, .string (txt (L.set k (z ^^^ q)))] W' fun e w' => e = .returned (.tuple #[.string ⟨#[]⟩, .int .i64 70]) ∧ Below W'.heap.size W' w') := ⟨fun W' => by
    have hX : openF (a0.extract 0 32) (a0.extract 32 a0.size) ⟨#[]⟩ (txt (L.set k (z ^^^ q))) = (⟨#[]⟩, 70) := by
      obtain ⟨k0, k1, k2, k3⟩ := HOK.out
      unfold openF
      rw [HVs.out, HV.out, if_pos ⟨k0, k1, k2, by omega⟩, if_neg (by omega), show a1.size + 16 - 16 = a1.size from by omega]
      rw [if_neg]
      have hL := HO4.out
      rw [HL.out] at hL
      have hT := tagL_length (bys (a0.extract 0 32)) (bys (a0.extract 32 a0.size)) (bys ⟨#[]⟩) (streamL (bys (a0.extract 0 32)) (bys (a0.extract 32 a0.size)) 1 (bys a1))
      have hC : (streamL (bys (a0.extract 0 32)) (bys (a0.extract 32 a0.size)) 1 (bys a1)).length = a1.size := by rw [streamL_length, bys_length]
      have hZ := HZZ.out
      have hk' := HK.out
      rw [hL] at hZ
      rw [hL]
      generalize streamL (bys (a0.extract 0 32)) (bys (a0.extract 32 a0.size)) 1 (bys a1) = C at *
      have e1 : ((C ++ tagL (bys (a0.extract 0 32)) (bys (a0.extract 32 a0.size)) (bys ⟨#[]⟩) C).set k (z ^^^ q)).take a1.size = C := by
        rw [List.set_append_right _ _ (by omega), List.take_left' hC]
      have e2 : ((C ++ tagL (bys (a0.extract 0 32)) (bys (a0.extract 32 a0.size)) (bys ⟨#[]⟩) C).set k (z ^^^ q)).drop a1.size = (tagL (bys (a0.extract 0 32)) (bys (a0.extract 32 a0.size)) (bys ⟨#[]⟩) C).set i (z ^^^ q) := by
        rw [List.set_append_right _ _ (by omega), List.drop_left' hC, hC, show k - a1.size = i from by omega]
      rw [e1, e2]
      generalize tagL (bys (a0.extract 0 32)) (bys (a0.extract 32 a0.size)) (bys ⟨#[]⟩) C = T at *
      intro h
      have h2 := congrArg (fun l => l.getD i 0) h
      have h3 : (C ++ T).getD k 0 = T.getD i 0 := by
        rw [List.getD_eq_getElem?_getD, List.getD_eq_getElem?_getD, List.getElem?_append_right (by omega), hC, show k - a1.size = i from by omega]
      simp only [List.getD_eq_getElem?_getD, List.getElem?_set] at h2
      rw [if_pos trivial, if_pos (by omega), ← List.getD_eq_getElem?_getD, ← h3, hZ, Option.getD_some] at h2
      have h4 : z ^^^ z = z ^^^ (z ^^^ q) := by rw [← h2]
      rw [Nat.xor_self, ← Nat.xor_assoc, Nat.xor_self, Nat.zero_xor] at h4
      omega
    exact aead_Open.calls _ _ _ _ _ _ W' ((aead_Open_f _ _ _ _ (by decide) (by rw [HVs.out]; omega)).trans (congrArg some hX))⟩
  obtain ⟨j, hj, hj2⟩ : ∃ j : Nat, bits .and .i64 y 15 = (j : Int) ∧ j < 16 := ⟨(y % 16).toNat, by rw [and_15t]; omega, by omega⟩
  have HOY : Aside0 (∀ W' : World, Calls Try.prog 15 #[.string (a0.extract 0 32), .string (a0.extract 32 a0.size), .string ⟨#[]⟩, .string (S.extract 0 j)] W' fun e w' => e = .returned (.tuple #[.string ⟨#[]⟩, .int .i64 70]) ∧ Below W'.heap.size W' w') := ⟨fun W' => by
    have hys : (S.extract 0 j).size = j := by rw [ByteArray.size_extract, HO3.out]; omega
    have hY : openF (a0.extract 0 32) (a0.extract 32 a0.size) ⟨#[]⟩ (S.extract 0 j) = (⟨#[]⟩, 70) := by
      obtain ⟨k0, k1, k2, k3⟩ := HOK.out
      unfold openF
      rw [hys, if_pos ⟨k0, k1, k2, by omega⟩, if_pos hj2]
    exact aead_Open.calls _ _ _ _ _ _ W' ((aead_Open_f _ _ _ _ (by decide) (by rw [hys]; omega)).trans (congrArg some hY))⟩
  generalize txt (L.set k (z ^^^ q)) = X at *
  clear H3 hbl hxor hq
  go_upto_region 9 with (fail)
  generalize W.setCell ⟨g, k, none⟩ (.int .u8 ((z ^^^ q : Nat) : Int)) = W3 at HR3 HB3 HX3 ⊢
  have HRD : Aside0 (BAt g (L.set k (z ^^^ q)) rest W3.drew) := ⟨HR3.out⟩
  refine start_ (n := 12) (S := fun w' => (convert 28 9 (.slice (some ⟨g, 0, none⟩) (a1.size + 16) cp)).run Try.prog w' = .ok (.string X) w') (ds := []) #[false, false, false, false, false, false, false, false, false, false, false, false] (by kernel_rfl) rfl rfl ((HCV.out _ HRD.out)) (fun hHeld => ?_)
  refine pure_ (i := 0) (N := some 65) (v := ?_) (a' := ?_) #[true, false, false, false, false, false, false, false, false, false, false, false] rfl rfl (by kernel_rfl) (fun _ _ _ h => h) (Or.inl ⟨by rfl, ?_⟩) ?_ ?_
  rotate_left
  · intro w'
    go_simp
    with_reducible rfl
  rotate_left
  · simp only [Act.put, List.setIfInBounds_toArray, List.set_cons_zero, List.set_cons_succ, i64_w, i32_w]
    rfl
  refine pure_ (i := 1) (N := some 66) (v := ?_) (a' := ?_) #[true, true, false, false, false, false, false, false, false, false, false, false] rfl rfl (by kernel_rfl) (fun _ _ _ h => h) (Or.inl ⟨by rfl, ?_⟩) ?_ ?_
  rotate_left
  · intro w'
    go_simp
    with_reducible rfl
  rotate_left
  · simp only [Act.put, List.setIfInBounds_toArray, List.set_cons_zero, List.set_cons_succ, i64_w, i32_w]
    rfl
  refine pure_ (i := 2) (N := some 67) (v := ?_) (a' := ?_) #[true, true, true, false, false, false, false, false, false, false, false, false] rfl rfl (by kernel_rfl) (fun _ _ _ h => h) (Or.inl ⟨by rfl, ?_⟩) ?_ ?_
  rotate_left
  · intro w'
    go_simp
    with_reducible rfl
  rotate_left
  · simp only [Act.put, List.setIfInBounds_toArray, List.set_cons_zero, List.set_cons_succ, i64_w, i32_w]
    rfl
  refine pure_ (i := 3) (N := some 68) (v := ?_) (a' := ?_) #[true, true, true, true, false, false, false, false, false, false, false, false] rfl rfl (by kernel_rfl) (fun _ _ _ h => h) (Or.inl ⟨by rfl, ?_⟩) ?_ ?_
  rotate_left
  · intro w'
    go_simp
    with_reducible rfl
  rotate_left
  · simp only [Act.put, List.setIfInBounds_toArray, List.set_cons_zero, List.set_cons_succ, i64_w, i32_w]
    rfl
  refine pure_ (i := 4) (N := some 69) (v := ?_) (a' := ?_) #[true, true, true, true, true, false, false, false, false, false, false, false] rfl rfl (by kernel_rfl) (fun _ _ _ h => h) (Or.inl ⟨by rfl, ?_⟩) ?_ ?_
  rotate_left
  · intro w'
    go_simp
    with_reducible rfl
  rotate_left
  · simp only [Act.put, List.setIfInBounds_toArray, List.set_cons_zero, List.set_cons_succ, i64_w, i32_w]
    rfl
  refine take_ (i := 5) (N := some 70) (v := ?_) (a' := ?_) #[true, true, true, true, true, true, false, false, false, false, false, false] rfl rfl (by kernel_rfl) (fun _ _ _ h => h) (Or.inl ⟨by rfl, ?_⟩) hHeld ?_ ?_
  rotate_left
  · intro w' s0
    go_simp
    with_reducible rfl
  rotate_left
  · simp only [Act.put, List.setIfInBounds_toArray, List.set_cons_zero, List.set_cons_succ, i64_w, i32_w]
    rfl
  refine one_ (i := 6) (N := some 71) #[true, true, true, true, true, true, true, false, false, false, false, false] rfl rfl (by kernel_rfl) (by decide) (fun K hK => ?_)
  refine goes_ Try.func15 (by kernel_rfl) rfl #[.string (a0.extract 0 32), .string (a0.extract 32 a0.size), .string ⟨#[]⟩, .string X] (by rfl) rfl rfl (by simp only [List.map_toArray, List.map_cons, List.map_nil]; rfl) ?_
  with_reducible refine (HOX.out _).mono ?_
  rintro e w4 ⟨rfl, hb4⟩
  refine ⟨_, rfl, ?_⟩
  refine hK.out _ _ ((HCV.out _ (blk_below HRD.out hb4))) (fun hHeld => ?_)
  clear hK K
  refine norm_ (a' := ?_) ?_ ?_
  rotate_left
  · show Act.put _ (some 71) _ = _
    simp only [Act.put, List.setIfInBounds_toArray, List.set_cons_zero, List.set_cons_succ, i64_w, i32_w]
    rfl
  refine pure_ (i := 7) (N := some 64) (v := ?_) (a' := ?_) #[true, true, true, true, true, true, true, true, false, false, false, false] rfl rfl (by kernel_rfl) (fun _ _ _ h => h) (Or.inl ⟨by rfl, ?_⟩) ?_ ?_
  rotate_left
  · intro w'
    go_simp
    with_reducible rfl
  rotate_left
  · simp only [Act.put, List.setIfInBounds_toArray, List.set_cons_zero, List.set_cons_succ, i64_w, i32_w]
    rfl
  refine pure_ (i := 8) (N := some 72) (v := ?_) (a' := ?_) #[true, true, true, true, true, true, true, true, true, false, false, false] rfl rfl (by kernel_rfl) (fun _ _ _ h => h) (Or.inl ⟨by rfl, ?_⟩) ?_ ?_
  rotate_left
  · intro w'
    go_simp
    with_reducible rfl
  rotate_left
  · simp only [Act.put, List.setIfInBounds_toArray, List.set_cons_zero, List.set_cons_succ, i64_w, i32_w]
    rfl
  refine pure_ (i := 9) (N := some 73) (v := ?_) (a' := ?_) #[true, true, true, true, true, true, true, true, true, true, false, false] rfl rfl (by kernel_rfl) (fun _ _ _ h => h) (Or.inl ⟨by rfl, ?_⟩) ?_ ?_
  rotate_left
  · intro w'
    go_simp
    with_reducible rfl
  rotate_left
  · simp only [Act.put, List.setIfInBounds_toArray, List.set_cons_zero, List.set_cons_succ, i64_w, i32_w]
    rfl
  refine pure_ (i := 10) (N := some 11) (v := ?_) (a' := ?_) #[true, true, true, true, true, true, true, true, true, true, true, false] rfl rfl (by kernel_rfl) (fun _ _ _ h => h) (Or.inl ⟨by rfl, ?_⟩) ?_ ?_
  rotate_left
  · intro w'
    go_simp
    with_reducible rfl
  rotate_left
  · simp only [Act.put, List.setIfInBounds_toArray, List.set_cons_zero, List.set_cons_succ, i64_w, i32_w]
    rfl
  refine pure_ (i := 11) (N := some 12) (v := ?_) (a' := ?_) #[true, true, true, true, true, true, true, true, true, true, true, true] rfl rfl (by kernel_rfl) (fun _ _ _ h => h) (Or.inl ⟨by rfl, ?_⟩) ?_ ?_
  rotate_left
  · intro w'
    go_simp
    with_reducible rfl
  rotate_left
  · simp only [Act.put, List.setIfInBounds_toArray, List.set_cons_zero, List.set_cons_succ, i64_w, i32_w]
    rfl
  refine done_ (by kernel_rfl) ?_

  have X4 : w4.heap[v]? = _ := blk_below (blk_drew HX3.out) hb4
  have HB4 : Aside0 (Below v w w4) := ⟨below_then (below_drew1 HB3.out) (by have := (below_drew1 HB3.out).size; omega) hb4⟩
  have HX4 := Aside0.mk X4
  clear X4
  go_upto_region 10 with (fail)
  have HYC : Aside0 (w4.drew.cell? ⟨v, 1, none⟩ = some (.int .i64 y)) := ⟨cell_of_row w4 v 1 _ _ _ HX4.out⟩
  have HYD : Aside0 (∀ w' : World, Below w4.drew.heap.size w4.drew w' → w'.cell? ⟨v, 1, none⟩ = some (.int .i64 y)) := ⟨fun w' h => cell_of_row w' v 1 _ _ _ (blk_below (blk_drew HX4.out) h)⟩
  have j1 := eq_true (show (j : Int) ≤ (S.size : Int) by have := HO3.out; omega)
  have j2 := eq_true (show j ≤ S.size by have := HO3.out; omega)
  refine start_ (n := 15) (S := fun w' => w'.cell? ⟨v, 1, none⟩ = some (.int .i64 y)) (ds := []) #[false, false, false, false, false, false, false, false, false, false, false, false, false, false, false] (by kernel_rfl) rfl rfl ((HYC.out)) (fun hHeld => ?_)
  refine pure_ (i := 0) (N := some 75) (v := ?_) (a' := ?_) #[true, false, false, false, false, false, false, false, false, false, false, false, false, false, false] rfl rfl (by kernel_rfl) (fun _ _ _ h => h) (Or.inl ⟨by rfl, ?_⟩) ?_ ?_
  rotate_left
  · intro w'
    go_simp
    with_reducible rfl
  rotate_left
  · simp only [Act.put, List.setIfInBounds_toArray, List.set_cons_zero, List.set_cons_succ, i64_w, i32_w]
    rfl
  refine pure_ (i := 1) (N := some 76) (v := ?_) (a' := ?_) #[true, true, false, false, false, false, false, false, false, false, false, false, false, false, false] rfl rfl (by kernel_rfl) (fun _ _ _ h => h) (Or.inl ⟨by rfl, ?_⟩) ?_ ?_
  rotate_left
  · intro w'
    go_simp
    with_reducible rfl
  rotate_left
  · simp only [Act.put, List.setIfInBounds_toArray, List.set_cons_zero, List.set_cons_succ, i64_w, i32_w]
    rfl
  refine pure_ (i := 2) (N := some 77) (v := ?_) (a' := ?_) #[true, true, true, false, false, false, false, false, false, false, false, false, false, false, false] rfl rfl (by kernel_rfl) (fun _ _ _ h => h) (Or.inl ⟨by rfl, ?_⟩) ?_ ?_
  rotate_left
  · intro w'
    go_simp
    with_reducible rfl
  rotate_left
  · simp only [Act.put, List.setIfInBounds_toArray, List.set_cons_zero, List.set_cons_succ, i64_w, i32_w]
    rfl
  refine pure_ (i := 3) (N := some 78) (v := ?_) (a' := ?_) #[true, true, true, true, false, false, false, false, false, false, false, false, false, false, false] rfl rfl (by kernel_rfl) (fun _ _ _ h => h) (Or.inl ⟨by rfl, ?_⟩) ?_ ?_
  rotate_left
  · intro w'
    go_simp
    with_reducible rfl
  rotate_left
  · simp only [Act.put, List.setIfInBounds_toArray, List.set_cons_zero, List.set_cons_succ, i64_w, i32_w]
    rfl
  refine pure_ (i := 4) (N := some 79) (v := ?_) (a' := ?_) #[true, true, true, true, true, false, false, false, false, false, false, false, false, false, false] rfl rfl (by kernel_rfl) (fun _ _ _ h => h) (Or.inl ⟨by rfl, ?_⟩) ?_ ?_
  rotate_left
  · intro w'
    go_simp
    with_reducible rfl
  rotate_left
  · simp only [Act.put, List.setIfInBounds_toArray, List.set_cons_zero, List.set_cons_succ, i64_w, i32_w]
    rfl
  refine pure_ (i := 5) (N := some 80) (v := ?_) (a' := ?_) #[true, true, true, true, true, true, false, false, false, false, false, false, false, false, false] rfl rfl (by kernel_rfl) (fun _ _ _ h => h) (Or.inl ⟨by rfl, ?_⟩) ?_ ?_
  rotate_left
  · intro w'
    go_simp
    with_reducible rfl
  rotate_left
  · simp only [Act.put, List.setIfInBounds_toArray, List.set_cons_zero, List.set_cons_succ, i64_w, i32_w]
    rfl
  refine take_ (i := 6) (N := some 81) (v := ?_) (a' := ?_) #[true, true, true, true, true, true, true, false, false, false, false, false, false, false, false] rfl rfl (by kernel_rfl) (fun _ _ _ h => h) (Or.inl ⟨by rfl, ?_⟩) hHeld ?_ ?_
  rotate_left
  · intro w' s0
    go_simp
    with_reducible rfl
  rotate_left
  · simp only [Act.put, List.setIfInBounds_toArray, List.set_cons_zero, List.set_cons_succ, i64_w, i32_w]
    rfl
  refine pure_ (i := 7) (N := some 82) (v := ?_) (a' := ?_) #[true, true, true, true, true, true, true, true, false, false, false, false, false, false, false] rfl rfl (by kernel_rfl) (fun _ _ _ h => h) (Or.inl ⟨by rfl, ?_⟩) ?_ ?_
  rotate_left
  · intro w'
    go_simp
    with_reducible rfl
  rotate_left
  · simp only [Act.put, List.setIfInBounds_toArray, List.set_cons_zero, List.set_cons_succ, i64_w, i32_w]
    rfl
  refine pure_ (i := 8) (N := some 83) (v := ?_) (a' := ?_) #[true, true, true, true, true, true, true, true, true, false, false, false, false, false, false] rfl rfl (by kernel_rfl) (fun _ _ _ h => h) (Or.inl ⟨by rfl, ?_⟩) ?_ ?_
  rotate_left
  · intro w'
    go_simp
    with_reducible rfl
  rotate_left
  · simp only [Act.put, List.setIfInBounds_toArray, List.set_cons_zero, List.set_cons_succ, i64_w, i32_w]
    rfl
  refine one_ (i := 9) (N := some 84) #[true, true, true, true, true, true, true, true, true, true, false, false, false, false, false] rfl rfl (by kernel_rfl) (by decide) (fun K hK => ?_)
  refine goes_ Try.func15 (by kernel_rfl) rfl #[.string (a0.extract 0 32), .string (a0.extract 32 a0.size), .string ⟨#[]⟩, .string (S.extract 0 j)] (by rfl) rfl rfl (by simp only [List.map_toArray, List.map_cons, List.map_nil]; rfl) ?_
  with_reducible refine (HOY.out _).mono ?_
  rintro e w5 ⟨rfl, hb5⟩
  refine ⟨_, rfl, ?_⟩
  refine hK.out _ _ ((HYD.out _ hb5)) (fun hHeld => ?_)
  clear hK K
  refine norm_ (a' := ?_) ?_ ?_
  rotate_left
  · show Act.put _ (some 84) _ = _
    simp only [Act.put, List.setIfInBounds_toArray, List.set_cons_zero, List.set_cons_succ, i64_w, i32_w]
    rfl
  refine pure_ (i := 10) (N := some 74) (v := ?_) (a' := ?_) #[true, true, true, true, true, true, true, true, true, true, true, false, false, false, false] rfl rfl (by kernel_rfl) (fun _ _ _ h => h) (Or.inl ⟨by rfl, ?_⟩) ?_ ?_
  rotate_left
  · intro w'
    go_simp
    with_reducible rfl
  rotate_left
  · simp only [Act.put, List.setIfInBounds_toArray, List.set_cons_zero, List.set_cons_succ, i64_w, i32_w]
    rfl
  refine pure_ (i := 11) (N := some 85) (v := ?_) (a' := ?_) #[true, true, true, true, true, true, true, true, true, true, true, true, false, false, false] rfl rfl (by kernel_rfl) (fun _ _ _ h => h) (Or.inl ⟨by rfl, ?_⟩) ?_ ?_
  rotate_left
  · intro w'
    go_simp
    with_reducible rfl
  rotate_left
  · simp only [Act.put, List.setIfInBounds_toArray, List.set_cons_zero, List.set_cons_succ, i64_w, i32_w]
    rfl
  refine pure_ (i := 12) (N := some 86) (v := ?_) (a' := ?_) #[true, true, true, true, true, true, true, true, true, true, true, true, true, false, false] rfl rfl (by kernel_rfl) (fun _ _ _ h => h) (Or.inl ⟨by rfl, ?_⟩) ?_ ?_
  rotate_left
  · intro w'
    go_simp
    with_reducible rfl
  rotate_left
  · simp only [Act.put, List.setIfInBounds_toArray, List.set_cons_zero, List.set_cons_succ, i64_w, i32_w]
    rfl
  refine pure_ (i := 13) (N := some 13) (v := ?_) (a' := ?_) #[true, true, true, true, true, true, true, true, true, true, true, true, true, true, false] rfl rfl (by kernel_rfl) (fun _ _ _ h => h) (Or.inl ⟨by rfl, ?_⟩) ?_ ?_
  rotate_left
  · intro w'
    go_simp
    with_reducible rfl
  rotate_left
  · simp only [Act.put, List.setIfInBounds_toArray, List.set_cons_zero, List.set_cons_succ, i64_w, i32_w]
    rfl
  refine pure_ (i := 14) (N := some 14) (v := ?_) (a' := ?_) #[true, true, true, true, true, true, true, true, true, true, true, true, true, true, true] rfl rfl (by kernel_rfl) (fun _ _ _ h => h) (Or.inl ⟨by rfl, ?_⟩) ?_ ?_
  rotate_left
  · intro w'
    go_simp
    with_reducible rfl
  rotate_left
  · simp only [Act.put, List.setIfInBounds_toArray, List.set_cons_zero, List.set_cons_succ, i64_w, i32_w]
    rfl
  refine done_ (by kernel_rfl) ?_

  have HB5 : Aside0 (Below v w w5) := ⟨below_then (below_drew1 HB4.out) (by have := (below_drew1 HB4.out).size; omega) hb5⟩
  go_wp2_with (go_at_call 12; refine (samphirelaw07_awake.calls _ _ awake07_f).mono ?_; rintro e w6 ⟨rfl, hb6⟩)
  go_ret
  subst hv
  exact ⟨rfl, below_then HB5.out HB5.out.size hb6⟩
theorem tells_all (a0 a1 : ByteArray) (x y : Int) (w : World) :
    Calls Try.prog 6 #[.string a0, .string a1, .agg #[.int .i64 x, .int .i64 y]] w fun e w' => e = .returned (.bool true) ∧ Below w.heap.size w w' := by
  by_cases h : a0.size = 44 ∧ a1.size ≤ 512
  · exact tag_light a0 a1 x y h.1 h.2 w
  · exact tag_heavy a0 a1 x y h w
end Go.Proofs.Ytmablneefndedaa.Pr

/- aead.tag: the walk. -/
-- HAND samphire/aead.tag aead_tag 0 1
-- NEEDS samphire/chacha.Block
-- NEEDS samphire/poly.Mac
-- NEEDS samphire/word.PutSmall
-- NEEDS strings.Repeat
import Derived.Test.YtmablneefndedaaHAeadA
import Derived.Test.YtmablneefndedaaHChaC
import Derived.Test.YtmablneefndedaaHPolM
import Derived.Test.YtmablneefndedaaPrxf52
namespace Go.Proofs.Ytmablneefndedaa.Pr
open Go.RowKit Go.Deep Go.Proofs.YtmablneefndedaaW.PrintWords Go.Proofs.YtmablneefndedaaW.PrintLast Go.Proofs.YtmablneefndedaaW.PrintMore
set_option maxHeartbeats 2000000
set_option linter.unusedVariables false
set_option linter.unusedSimpArgs false
/-- Two texts' lengths as bytes. -/
def lenL (x y : Nat) : List Nat := [x, 0, y, 0].flatMap le4
theorem lenL_lt (x y : Nat) : ∀ z ∈ lenL x y, z < 256 := by
  intro z hz
  unfold lenL at hz
  rw [List.mem_flatMap] at hz
  obtain ⟨k, _, h⟩ := hz
  simp only [le4, List.mem_cons, List.not_mem_nil, or_false] at h
  rcases h with h | h | h | h <;> rw [h] <;> exact Nat.mod_lt _ (by decide)
theorem lenL_length (x y : Nat) : (lenL x y).length = 16 := rfl
theorem ps4 (g : Nat) (W : World) (x y : Nat) (hg : W.heap[g]? = some (.cells #[.int .i64 (x : Int), .int .i64 0, .int .i64 (y : Int), .int .i64 0] 3 (0, 0))) :
    Calls Try.prog 52 #[.slice (some ⟨g, 0, none⟩) 4 4] W fun e w' => e = .returned (.string (txt (lenL x y))) ∧ Below W.heap.size W w' := by
  have hC : (Kd.int .i64).C W (some ⟨g, 0, none⟩) [(x : Int), 0, (y : Int), 0].length [(x : Int), 0, (y : Int), 0] := by
    refine Kd.C_of_reads (enc := Value.int .i64) (d := (0 : Int)) (h1 := fun _ => rfl) ⟨rfl, by simp, fun _ => ⟨_, rfl, fun j hj => ?_⟩⟩
    rw [add_plain, blk_cell hg]
    have : j = 0 ∨ j = 1 ∨ j = 2 ∨ j = 3 := by simp at hj; omega
    rcases this with rfl | rfl | rfl | rfl <;> rfl
  have := word_PutSmall.calls (some ⟨g, 0, none⟩) 4 [(x : Int), 0, (y : Int), 0] (txt (lenL x y)) W hC (by simp) (by
    unfold word_PutSmall.f word_put.f
    rw [if_pos (by simp)]
    simp only [Option.bind_some, Option.some.injEq]
    rw [← str_nats]
    congr 1)
  exact this
theorem filled3 (g : Nat) (a b c : ByteArray) (W : World) (hg : W.heap[g]? = some (.cells #[.string a, .string b, .string c] 9 (0, 0))) (ha : a.size ≤ 1000000) (hb : b.size ≤ 1000000) (hc : c.size ≤ 1000000) :
    Calls Try.prog 51 #[.slice (some ⟨g, 0, none⟩) 3 3] W fun e w' => e = .returned (.string (txt (fill16 (bys a) ++ fill16 (bys b) ++ fill16 (bys c)))) ∧ Below W.heap.size W w' := by
  have := filled_calls g 3 [a, b, c] W hg (by
    intro t ht
    simp only [List.mem_cons, List.not_mem_nil, or_false] at ht
    rcases ht with rfl | rfl | rfl <;> assumption) (by simp) (by simp)
  have e : fillT [a, b, c] [a, b, c].length = fill16 (bys a) ++ fill16 (bys b) ++ fill16 (bys c) := by
    simp [fillT]
  rw [e] at this
  exact this
def tagL (key nonce bound c : List Nat) : List Nat := pmacL ((chaL key nonce 0).take 32) (fill16 bound ++ fill16 c ++ fill16 (lenL bound.length c.length))
def aead_tag.f (a0 a1 a2 a3 : ByteArray) : Option ByteArray :=
  if a0.size = 32 ∧ a1.size = 12 ∧ a2.size + a3.size ≤ 32768 then some (txt (tagL (bys a0) (bys a1) (bys a2) (bys a3))) else none
set_option maxRecDepth 100000 in
theorem aead_tag.yes (a0 a1 a2 a3 : ByteArray) (w : World) (h0 : a0.size = 32) (h1 : a1.size = 12) (h23 : a2.size + a3.size ≤ 32768) :
    Calls Try.prog 29 #[.string a0, .string a1, .string a2, .string a3] w fun e w' => e = .returned (.string (txt (tagL (bys a0) (bys a1) (bys a2) (bys a3)))) ∧ Below w.heap.size w w' := by
  have HBK := Aside0.mk (fun W => chacha_Block.calls a0 a1 0 (txt (chaL (bys a0) (bys a1) 0)) 0 W (by unfold chacha_Block.f; rw [if_pos ⟨h0, h1, by decide, by decide⟩]; rfl))
  have hks : (txt (chaL (bys a0) (bys a1) 0)).size = 64 := by rw [txt_size, chaL_length]
  have hkx : (txt (chaL (bys a0) (bys a1) 0)).extract 0 32 = txt ((chaL (bys a0) (bys a1) 0).take 32) := by rw [txt_extract]; rfl
  have hkb : bys (txt ((chaL (bys a0) (bys a1) 0).take 32)) = (chaL (bys a0) (bys a1) 0).take 32 := bys_txt (fun n hn => chaL_lt _ _ _ n (List.mem_of_mem_take hn))
  have hkl : (txt ((chaL (bys a0) (bys a1) 0).take 32)).size = 32 := by rw [txt_size, List.length_take, chaL_length]; rfl
  have hpl : bys (txt (lenL a2.size a3.size)) = lenL a2.size a3.size := bys_txt (lenL_lt _ _)
  have HPL : Aside0 ((txt (lenL a2.size a3.size)).size ≤ 1000000) := ⟨by rw [txt_size, lenL_length]; decide⟩
  have htag : tagL (bys a0) (bys a1) (bys a2) (bys a3) = pmacL ((chaL (bys a0) (bys a1) 0).take 32) (fill16 (bys a2) ++ fill16 (bys a3) ++ fill16 (lenL a2.size a3.size)) := by
    unfold tagL; rw [bys_length, bys_length]
  generalize chaL (bys a0) (bys a1) 0 = C at HBK hks hkx hkb hkl htag
  generalize hT : txt C = T at HBK hks hkx
  have HTX := Aside0.mk hkx
  have hlt : ∀ x ∈ fill16 (bys a2) ++ fill16 (bys a3) ++ fill16 (bys (txt (lenL a2.size a3.size))), x < 256 := by
    intro x hx
    have hz : ∀ l : List Nat, (∀ y ∈ l, y < 256) → ∀ y ∈ fill16 l, y < 256 := by
      intro l hl y hy
      unfold fill16 at hy
      rw [List.mem_append, List.mem_replicate] at hy
      rcases hy with h | h
      · exact hl y h
      · omega
    rw [List.mem_append, List.mem_append] at hx
    rcases hx with (h | h) | h
    · exact hz _ (bys_lt' _) x h
    · exact hz _ (bys_lt' _) x h
    · exact hz _ (bys_lt' _) x h
  have hmb : bys (txt (fill16 (bys a2) ++ fill16 (bys a3) ++ fill16 (bys (txt (lenL a2.size a3.size))))) = fill16 (bys a2) ++ fill16 (bys a3) ++ fill16 (lenL a2.size a3.size) := by
    rw [bys_txt hlt, hpl]
  have hml : (txt (fill16 (bys a2) ++ fill16 (bys a3) ++ fill16 (bys (txt (lenL a2.size a3.size))))).size ≤ 65536 := by
    rw [txt_size, List.length_append, List.length_append]
    have e1 := fill16_length (bys a2)
    have e2 := fill16_length (bys a3)
    have e3 := fill16_length (bys (txt (lenL a2.size a3.size)))
    rw [bys_length] at e1 e2
    rw [hpl, lenL_length] at e3
    rw [hpl]
    omega
  have hMC := fun W => poly_Mac.yes (txt (C.take 32)) _ W hkl hml
  rw [hkb, hmb, ← htag, ← hkx] at hMC
  have HMC := Aside0.mk hMC
  have h2 : a2.size ≤ 1000000 := by omega
  have h3 : a3.size ≤ 1000000 := by omega
  clear hkb hkl hpl htag hT hlt hmb hml hMC hkx
  generalize txt (tagL (bys a0) (bys a1) (bys a2) (bys a3)) = R at HMC ⊢
  have k32 : (32 : Int) ≤ (T.size : Int) := by omega
  clear hks
  go_enter Try.func29, Try.ntmps29
  go_upto_region 2 with (go_at_call 49; refine (HBK.out _).mono ?_; rintro e w1 ⟨rfl, hb1⟩)
  refine start_ (n := 18) (S := fun w' => True) (ds := []) #[false, false, false, false, false, false, false, false, false, false, false, false, false, false, false, false, false, false] (by kernel_rfl) rfl rfl trivial (fun hHeld => ?_)
  refine pure_ (i := 0) (N := some 20) (v := ?_) (a' := ?_) #[true, false, false, false, false, false, false, false, false, false, false, false, false, false, false, false, false, false] rfl rfl (by kernel_rfl) (fun _ _ _ h => h) (Or.inl ⟨by rfl, ?_⟩) ?_ ?_
  rotate_left
  · intro w'
    go_simp
    with_reducible rfl
  rotate_left
  · simp only [Act.put, List.setIfInBounds_toArray, List.set_cons_zero, List.set_cons_succ, i64_w, i32_w]
    rfl
  refine pure_ (i := 1) (N := some 21) (v := ?_) (a' := ?_) #[true, true, false, false, false, false, false, false, false, false, false, false, false, false, false, false, false, false] rfl rfl (by kernel_rfl) (fun _ _ _ h => h) (Or.inl ⟨by rfl, ?_⟩) ?_ ?_
  rotate_left
  · intro w'
    go_simp
    with_reducible rfl
  rotate_left
  · simp only [Act.put, List.setIfInBounds_toArray, List.set_cons_zero, List.set_cons_succ, i64_w, i32_w]
    rfl
  refine pure_ (i := 2) (N := some 22) (v := ?_) (a' := ?_) #[true, true, true, false, false, false, false, false, false, false, false, false, false, false, false, false, false, false] rfl rfl (by kernel_rfl) (fun _ _ _ h => h) (Or.inl ⟨by rfl, ?_⟩) ?_ ?_
  rotate_left
  · intro w'
    go_simp
    with_reducible rfl
  rotate_left
  · simp only [Act.put, List.setIfInBounds_toArray, List.set_cons_zero, List.set_cons_succ, i64_w, i32_w]
    rfl
  refine pure_ (i := 3) (N := some 23) (v := ?_) (a' := ?_) #[true, true, true, true, false, false, false, false, false, false, false, false, false, false, false, false, false, false] rfl rfl (by kernel_rfl) (fun _ _ _ h => h) (Or.inl ⟨by rfl, ?_⟩) ?_ ?_
  rotate_left
  · intro w'
    go_simp
    with_reducible rfl
  rotate_left
  · simp only [Act.put, List.setIfInBounds_toArray, List.set_cons_zero, List.set_cons_succ, i64_w, i32_w]
    rfl
  refine pure_ (i := 4) (N := some 24) (v := ?_) (a' := ?_) #[true, true, true, true, true, false, false, false, false, false, false, false, false, false, false, false, false, false] rfl rfl (by kernel_rfl) (fun _ _ _ h => h) (Or.inl ⟨by rfl, ?_⟩) ?_ ?_
  rotate_left
  · intro w'
    go_simp
    with_reducible rfl
  rotate_left
  · simp only [Act.put, List.setIfInBounds_toArray, List.set_cons_zero, List.set_cons_succ, i64_w, i32_w]
    rfl
  refine pure_ (i := 5) (N := some 25) (v := ?_) (a' := ?_) #[true, true, true, true, true, true, false, false, false, false, false, false, false, false, false, false, false, false] rfl rfl (by kernel_rfl) (fun _ _ _ h => h) (Or.inl ⟨by rfl, ?_⟩) ?_ ?_
  rotate_left
  · intro w'
    go_simp
    with_reducible rfl
  rotate_left
  · simp only [Act.put, List.setIfInBounds_toArray, List.set_cons_zero, List.set_cons_succ, i64_w, i32_w]
    rfl
  refine pure_ (i := 6) (N := some 26) (v := ?_) (a' := ?_) #[true, true, true, true, true, true, true, false, false, false, false, false, false, false, false, false, false, false] rfl rfl (by kernel_rfl) (fun _ _ _ h => h) (Or.inl ⟨by rfl, ?_⟩) ?_ ?_
  rotate_left
  · intro w'
    go_simp
    with_reducible rfl
  rotate_left
  · simp only [Act.put, List.setIfInBounds_toArray, List.set_cons_zero, List.set_cons_succ, i64_w, i32_w]
    rfl
  refine pure_ (i := 7) (N := some 27) (v := ?_) (a' := ?_) #[true, true, true, true, true, true, true, true, false, false, false, false, false, false, false, false, false, false] rfl rfl (by kernel_rfl) (fun _ _ _ h => h) (Or.inl ⟨by rfl, ?_⟩) ?_ ?_
  rotate_left
  · intro w'
    go_simp
    with_reducible rfl
  rotate_left
  · simp only [Act.put, List.setIfInBounds_toArray, List.set_cons_zero, List.set_cons_succ, i64_w, i32_w]
    rfl
  refine one_ (i := 8) (N := some 28) #[true, true, true, true, true, true, true, true, true, false, false, false, false, false, false, false, false, false] rfl rfl (by kernel_rfl) (by decide) (fun K hK => ?_)
  refine value_ (w1 := ?_) (v := ?_) (by rfl) rfl ?_ ?_
  rotate_left 2
  · go_simp
    constructor
    · rfl
    · rfl
  refine hK.out _ _ trivial (fun hHeld => ?_)
  clear hK K
  refine norm_ (a' := ?_) ?_ ?_
  rotate_left
  · show Act.put _ (some 28) _ = _
    simp only [Act.put, List.setIfInBounds_toArray, List.set_cons_zero, List.set_cons_succ, i64_w, i32_w]
    rfl
  refine one_ (i := 9) (N := some 29) #[true, true, true, true, true, true, true, true, true, true, false, false, false, false, false, false, false, false] rfl rfl (by kernel_rfl) (by decide) (fun K hK => ?_)
  refine goes_ Try.func52 (by kernel_rfl) rfl #[.slice (some ⟨w1.heap.size, 0, none⟩) 4 4] (by rfl) rfl rfl (by simp only [List.map_toArray, List.map_cons, List.map_nil]; rfl) ?_
  with_reducible refine (ps4 w1.heap.size _ a2.size a3.size (blk_drew (blk_new w1 _))).mono ?_
  rintro e w3 ⟨rfl, hb3⟩
  refine ⟨_, rfl, ?_⟩
  refine hK.out _ _ trivial (fun hHeld => ?_)
  clear hK K
  refine norm_ (a' := ?_) ?_ ?_
  rotate_left
  · show Act.put _ (some 29) _ = _
    simp only [Act.put, List.setIfInBounds_toArray, List.set_cons_zero, List.set_cons_succ, i64_w, i32_w]
    rfl
  refine one_ (i := 10) (N := some 30) #[true, true, true, true, true, true, true, true, true, true, true, false, false, false, false, false, false, false] rfl rfl (by kernel_rfl) (by decide) (fun K hK => ?_)
  refine value_ (w1 := ?_) (v := ?_) (by rfl) rfl ?_ ?_
  rotate_left 2
  · go_simp
    constructor
    · rfl
    · rfl
  refine hK.out _ _ trivial (fun hHeld => ?_)
  clear hK K
  refine norm_ (a' := ?_) ?_ ?_
  rotate_left
  · show Act.put _ (some 30) _ = _
    simp only [Act.put, List.setIfInBounds_toArray, List.set_cons_zero, List.set_cons_succ, i64_w, i32_w]
    rfl
  refine one_ (i := 11) (N := some 31) #[true, true, true, true, true, true, true, true, true, true, true, true, false, false, false, false, false, false] rfl rfl (by kernel_rfl) (by decide) (fun K hK => ?_)
  refine goes_ Try.func51 (by kernel_rfl) rfl #[.slice (some ⟨w3.heap.size, 0, none⟩) 3 3] (by rfl) rfl rfl (by simp only [List.map_toArray, List.map_cons, List.map_nil]; rfl) ?_
  with_reducible refine (filled3 w3.heap.size a2 a3 _ _ (blk_new w3 _) h2 h3 HPL.out).mono ?_
  rintro e w4 ⟨rfl, hb4⟩
  refine ⟨_, rfl, ?_⟩
  refine hK.out _ _ trivial (fun hHeld => ?_)
  clear hK K
  refine norm_ (a' := ?_) ?_ ?_
  rotate_left
  · show Act.put _ (some 31) _ = _
    simp only [Act.put, List.setIfInBounds_toArray, List.set_cons_zero, List.set_cons_succ, i64_w, i32_w]
    rfl
  refine one_ (i := 12) (N := some 32) #[true, true, true, true, true, true, true, true, true, true, true, true, true, false, false, false, false, false] rfl rfl (by kernel_rfl) (by decide) (fun K hK => ?_)
  refine goes_ Try.func50 (by kernel_rfl) rfl #[.string (T.extract 0 32), .string (txt (fill16 (bys a2) ++ fill16 (bys a3) ++ fill16 (bys (txt (lenL a2.size a3.size)))))] (by rfl) rfl rfl (by simp only [List.map_toArray, List.map_cons, List.map_nil]; rfl) ?_
  with_reducible refine (HMC.out _).mono ?_
  rintro e w5 ⟨rfl, hb5⟩
  refine ⟨_, rfl, ?_⟩
  refine hK.out _ _ trivial (fun hHeld => ?_)
  clear hK K
  refine norm_ (a' := ?_) ?_ ?_
  rotate_left
  · show Act.put _ (some 32) _ = _
    simp only [Act.put, List.setIfInBounds_toArray, List.set_cons_zero, List.set_cons_succ, i64_w, i32_w]
    rfl
  refine pure_ (i := 13) (N := some 19) (v := ?_) (a' := ?_) #[true, true, true, true, true, true, true, true, true, true, true, true, true, true, false, false, false, false] rfl rfl (by kernel_rfl) (fun _ _ _ h => h) (Or.inl ⟨by rfl, ?_⟩) ?_ ?_
  rotate_left
  · intro w'
    go_simp
    with_reducible rfl
  rotate_left
  · simp only [Act.put, List.setIfInBounds_toArray, List.set_cons_zero, List.set_cons_succ, i64_w, i32_w]
    rfl
  refine pure_ (i := 14) (N := some 33) (v := ?_) (a' := ?_) #[true, true, true, true, true, true, true, true, true, true, true, true, true, true, true, false, false, false] rfl rfl (by kernel_rfl) (fun _ _ _ h => h) (Or.inl ⟨by rfl, ?_⟩) ?_ ?_
  rotate_left
  · intro w'
    go_simp
    with_reducible rfl
  rotate_left
  · simp only [Act.put, List.setIfInBounds_toArray, List.set_cons_zero, List.set_cons_succ, i64_w, i32_w]
    rfl
  refine pure_ (i := 15) (N := some 34) (v := ?_) (a' := ?_) #[true, true, true, true, true, true, true, true, true, true, true, true, true, true, true, true, false, false] rfl rfl (by kernel_rfl) (fun _ _ _ h => h) (Or.inl ⟨by rfl, ?_⟩) ?_ ?_
  rotate_left
  · intro w'
    go_simp
    with_reducible rfl
  rotate_left
  · simp only [Act.put, List.setIfInBounds_toArray, List.set_cons_zero, List.set_cons_succ, i64_w, i32_w]
    rfl
  refine pure_ (i := 16) (N := some 11) (v := ?_) (a' := ?_) #[true, true, true, true, true, true, true, true, true, true, true, true, true, true, true, true, true, false] rfl rfl (by kernel_rfl) (fun _ _ _ h => h) (Or.inl ⟨by rfl, ?_⟩) ?_ ?_
  rotate_left
  · intro w'
    go_simp
    with_reducible rfl
  rotate_left
  · simp only [Act.put, List.setIfInBounds_toArray, List.set_cons_zero, List.set_cons_succ, i64_w, i32_w]
    rfl
  refine pure_ (i := 17) (N := some 12) (v := ?_) (a' := ?_) #[true, true, true, true, true, true, true, true, true, true, true, true, true, true, true, true, true, true] rfl rfl (by kernel_rfl) (fun _ _ _ h => h) (Or.inl ⟨by rfl, ?_⟩) ?_ ?_
  rotate_left
  · intro w'
    go_simp
    with_reducible rfl
  rotate_left
  · simp only [Act.put, List.setIfInBounds_toArray, List.set_cons_zero, List.set_cons_succ, i64_w, i32_w]
    rfl
  refine done_ (by kernel_rfl) ?_
  have hbel : Below w.heap.size w w5 := by
    have q1 := below_drew (below_alloc hb1 (.cells #[.int .i64 (a2.size : Int), .int .i64 0, .int .i64 (a3.size : Int), .int .i64 0] 3))
    have q2 := below_then q1 q1.size hb3
    have q3 := below_alloc q2 (.cells #[.string a2, .string a3, .string (txt (lenL a2.size a3.size))] 9)
    have q4 := below_then q3 q3.size hb4
    exact below_then q4 q4.size hb5
  have HBL := Aside0.mk hbel
  clear hbel hb5 hb4 hb3 hb1 hHeld
  go_wp2
  go_ret
  exact ⟨rfl, HBL.out⟩
theorem aead_tag.calls (a0 a1 a2 a3 : ByteArray) (r : ByteArray) (w : World) (h : aead_tag.f a0 a1 a2 a3 = some r) :
    Calls Try.prog 29 #[.string a0, .string a1, .string a2, .string a3] w fun e w' => e = .returned (.string r) ∧ Below w.heap.size w w' := by
  unfold aead_tag.f at h
  by_cases hc : a0.size = 32 ∧ a1.size = 12 ∧ a2.size + a3.size ≤ 32768
  · rw [if_pos hc] at h
    obtain rfl := Option.some.inj h
    exact aead_tag.yes a0 a1 a2 a3 w hc.1 hc.2.1 hc.2.2
  · rw [if_neg hc] at h
    cases h
end Go.Proofs.Ytmablneefndedaa.Pr

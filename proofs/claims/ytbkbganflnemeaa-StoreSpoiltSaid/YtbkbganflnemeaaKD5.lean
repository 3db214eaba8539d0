/- Joined texts (pack.py): what the statement's proof needs, part 5. No condition. -/
import Derived.Below
import Derived.Deep.Draws
import Derived.Deep.AppendLies
import Derived.Maps.AppendAt
import Derived.OwnWalk
import Derived.Laws.BytesArg
import Derived.Laws.MakeOwn
import Derived.Laws.OwnMore
import Derived.Deep.OwnRows
import Derived.Tactics
import Derived.Lib.ConvBytes
import Derived.Laws.Slices
import Derived.WalkKit
import Derived.KernelRfl
import Derived.RowKit3
import Derived.Deep.LoopGhost
import Derived.Deep.QuietTactic
import Derived.BigQuiet
import Derived.WideLaws
import Derived.Deep.DeepCutAuto
import Derived.Deep.CutBlock
import Derived.Deep.RegionHeld3
import Derived.Laws.Rows
import Derived.Lib.AppendStr
import Derived.ArgAppend
import Derived.Laws.IdiomCopy
import Derived.RowKit
import Derived.OrdersHeld
import Derived.Laws.BitsLemmas
import Derived.Laws.StructEq
import Derived.Shelf.Strings.Builder1
import Derived.Shelf.Strings.Builder2
import Derived.Shelf.Strings.OnBuilder
import Derived.Shelf.Strings.BuilderF
import Derived.Shelf.Strings.Prefix
import Derived.Shelf.Bits.Mul64
import Derived.Shelf.Strings.Repeat
import Derived.Test.YtbkbganflnemeaaProg
import Derived.Deep.RegionLaw
import Derived.StillTailTactics
import Derived.Deep.Light
import Derived.Deep.RegionHeldLaw
import Derived.Deep.DrawnRows
import Derived.IntWalk
import Derived.Deep.WholeRow
import Derived.Laws.CopyOwn
import Derived.Maps.OwnSet
import Derived.Lib.BufferWrite
import Derived.Test.YtbkbganflnemeaaRows
import Derived.ProofKit
import Derived.OpenShut
import Derived.ShutString
import Derived.ChangeOld
import Derived.SizedLaws
import Derived.Test.YtbkbganflnemeaaKD1
import Derived.Test.YtbkbganflnemeaaKD2
import Derived.Test.YtbkbganflnemeaaKD3
import Derived.Test.YtbkbganflnemeaaKD4
section
namespace Go.Proofs.Ytbkbganflnemeaa.Pr
open Go.RowKit Go.Deep Go.Proofs.YtbkbganflnemeaaW.PrintWords Go.Proofs.YtbkbganflnemeaaW.PrintLast Go.Proofs.YtbkbganflnemeaaW.PrintMore
set_option maxHeartbeats 1000000
set_option linter.unusedVariables false
set_option linter.unusedSimpArgs false
theorem and_255c (n : Int) : bits .and .i64 n 255 = n % 256 := by
  have h127 : (BitVec.ofInt 64 255).toNat = 2 ^ 8 - 1 := by decide
  have key : (BitVec.ofInt 64 n &&& BitVec.ofInt 64 255).toNat = (n % ((2 ^ 64 : Nat) : Int)).toNat % 2 ^ 8 := by
    rw [BitVec.toNat_and, BitVec.toNat_ofInt, h127, Nat.and_two_pow_sub_one_eq_mod]
  show IntKind.i64.wrap ((BitVec.ofInt 64 n &&& BitVec.ofInt 64 255).toNat : Nat) = n % 256
  rw [key, IntKind.wrap_i64]
  omega
theorem wrapNc {x : Int} (n : Nat) (h : x = n) (hn : n ≤ 1000000000000) : wrap64 x = n := by
  subst h
  unfold wrap64
  omega
theorem big_part (x : Int) (j : Nat) (hj : j ≤ 7) : (bits .and .i64 (shr .i64 x (wrap64 (8 * (j : Int)))) 255) % 256 = ((x / 2 ^ (8 * j) % 256).toNat : Int) := by
  rw [wrapNc (x := 8 * (j : Int)) (8 * j) (by omega) (by omega), and_255c, shr, Int.toNat_natCast]
  have : min (8 * j) IntKind.i64.bits = 8 * j := Nat.min_eq_left (by show 8 * j ≤ 64; omega)
  rw [this]
  omega
def downN (x : Int) : Nat → List Nat
  | 0 => []
  | j + 1 => (x / 2 ^ (8 * j) % 256).toNat :: downN x j
theorem big_loop (x : Int) : ∀ (j k : Nat) (acc : List Nat), j ≤ 8 → j < k → acc.length + j ≤ 100 →
    samphireref09_big.l0 k x (acc.map fun (n : Nat) => (n : Int)) ((j : Int) - 1) = some (txt (acc ++ downN x j))
  | 0, k, acc, _, hk, _ => by
    obtain ⟨k, rfl⟩ : ∃ m, k = m + 1 := ⟨k - 1, by omega⟩
    simp only [samphireref09_big.l0]
    rw [if_neg (by omega), str_nats]
    simp [downN]
  | j + 1, k, acc, hj, hk, hl => by
    obtain ⟨k, rfl⟩ : ∃ m, k = m + 1 := ⟨k - 1, by omega⟩
    have e : ((j + 1 : Nat) : Int) - 1 = (j : Int) := by omega
    rw [e]
    simp only [samphireref09_big.l0]
    rw [if_pos (by omega), if_pos (by rw [wrapNc (x := 8 * (j : Int)) (8 * j) (by omega) (by omega)]; omega), if_pos (by rw [List.length_map]; omega), big_part x j (by omega)]
    have e2 : wrap64 ((j : Int) - 1) = (j : Int) - 1 := by unfold wrap64; omega
    have e3 : (acc.map fun (n : Nat) => (n : Int)) ++ [((x / 2 ^ (8 * j) % 256).toNat : Int)] = ((acc ++ [(x / 2 ^ (8 * j) % 256).toNat]).map fun (n : Nat) => (n : Int)) := by simp
    rw [e2, e3, big_loop x j k _ (by omega) (by omega) (by rw [List.length_append, List.length_singleton]; omega), List.append_assoc]
    rfl
theorem downN_byN (x : Int) : downN x 1 = byN x 1 ∧ downN x 2 = byN x 2 ∧ downN x 6 = byN x 6 := by
  refine ⟨?_, ?_, ?_⟩ <;> simp [downN, byN, roomL, List.range, List.range.loop]
theorem big_f (x : Int) (m k : Nat) (hm : m ≤ 8) (hk : m < k) : samphireref09_big.f k x (m : Int) = some (txt (downN x m)) := by
  unfold samphireref09_big.f
  rw [show wrap64 ((m : Int) - 1) = (m : Int) - 1 from by unfold wrap64; omega]
  have := big_loop x m k [] hm hk (by simp; omega)
  simpa using this
theorem byN_lt (x : Int) (m : Nat) : ∀ n ∈ byN x m, n < 256 := by
  intro n hn
  unfold byN at hn
  have hn := List.mem_of_mem_drop hn
  unfold roomL at hn
  rw [List.mem_map] at hn
  obtain ⟨i, _, rfl⟩ := hn
  split <;> omega
def refStep (S : ByteArray) (b : Bool) (ok : Bool) (M : List Nat) : ByteArray × Bool := if ok = false ∨ b = true ∨ 65536 < S.size + M.length then (S, true) else (S ++ txt M, false)
theorem with_step (S : ByteArray) (b ok : Bool) (M : List Nat) (hS : S.size ≤ 1000000000000000) (hM : M.length ≤ 1000000) : samphireref09_with.f S b (txt M) ok = some (refStep S b ok M) := by
  unfold samphireref09_with.f refStep
  rw [if_pos ⟨hS, by rw [txt_size]; omega⟩, txt_size]
theorem ref_Num (S : ByteArray) (b : Bool) (n : Int) (hS : S.size ≤ 1000000000000000) : samphireref09_Num.f 10 S b n = some (refStep S b (timeB n) (byN n 6)) := by
  unfold samphireref09_Num.f
  rw [show (6 : Int) = ((6 : Nat) : Int) from rfl, big_f n 6 10 (by decide) (by decide), (downN_byN n).2.2, Option.bind_some]
  unfold timeB
  split
  · rw [with_step S b _ _ hS (by rw [byN_length _ _ (by decide)]; decide), Option.bind_some, show decide (n ≤ 1099511627775) = decide (0 ≤ n ∧ n ≤ 1099511627775) from by simp only [decide_eq_decide]; omega]
  · rw [decide_eq_false (by omega), with_step S b _ _ hS (by rw [byN_length _ _ (by decide)]; decide), Option.bind_some]
end Go.Proofs.Ytbkbganflnemeaa.Pr
end

section
namespace Go.Proofs.Ytbkbganflnemeaa.Pr
open Go.RowKit Go.Proofs.YtbkbganflnemeaaW.PrintWords Go.Proofs.YtbkbganflnemeaaW.PrintLast Go.Proofs.YtbkbganflnemeaaW.PrintMore
attribute [local go_sem] max2_int min2_int max_two min_two max_three min_three max_four min_four   -- for this text's walks alone
set_option linter.unusedVariables false
set_option linter.unusedSimpArgs false
def samphireref09_Done.f (a0_0 : ByteArray) (a0_1 : Bool) : Option (ByteArray × Int) := if a0_1 = true then (some ((⟨#[]⟩ : ByteArray), 1)) else (some (a0_0, 0))
set_option maxHeartbeats 8000000 in
set_option maxRecDepth 100000 in
theorem samphireref09_Done.calls (a0_0 : ByteArray) (a0_1 : Bool) (r1 : ByteArray) (r2 : Int) (w : World) (h : samphireref09_Done.f a0_0 a0_1 = some (r1, r2)) :
    Calls Try.prog 90 #[.agg #[.string a0_0, .bool a0_1]] w fun e w' => e = .returned (.tuple #[.string r1, .int .i64 r2]) ∧ Below w.heap.size w w' := by
  have hu126 := Try.underlying126
  have HB := Aside0.mk (Below.refl w.heap.size w)
  have H : (if a0_1 = true then (some ((⟨#[]⟩ : ByteArray), 1)) else (some (a0_0, 0))) = some (r1, r2) := h
  clear h
  by_cases c2 : a0_1 = true
  · subst c2
    have H1 : (some ((⟨#[]⟩ : ByteArray), 1)) = some (r1, r2) := by rw [if_pos rfl] at H; exact H
    clear H
    have H := H1
    clear H1
    simp only [Option.some.injEq, Prod.mk.injEq] at H
    obtain ⟨rfl, rfl⟩ := H
    go_enter Try.func90, Try.ntmps90
    go_wp2_with (first | ((with_reducible refine gate_dst (N := 1) rfl ?_); refine box_event ?hg (N := 1) ?hd (cs := #[.string a0_0, .bool true]) (t := 126) ?hr ?_; (case hd => rfl); (case hg => rfl); (case hr => first | (go_simp; done) | (go_simp; rfl)); intro gb113 hg w3 hbox hb; have n0_ := Aside0.mk (below_step (by repeat (first | (with_reducible first | exact HB.out | apply below_alloc | apply pw_below_drewN | apply below_drew1) | exact HB.out)) hb); have n1_ := Aside0.mk (hbox); have n2_ := Aside0.mk ((by rw [hg]; exact (below_size (by repeat (first | (with_reducible first | exact HB.out | apply below_alloc | apply pw_below_drewN | apply below_drew1) | exact HB.out))) : w.heap.size ≤ gb113)); have n3_ := Aside0.mk ((by rw [hg]; exact (below_size (by repeat (first | (with_reducible first | exact HB.out | apply below_alloc | apply pw_below_drewN | apply below_drew1) | exact HB.out))) : w.heap.size ≤ gb113)); clear HB; have HB := n0_; have BK113 := n1_; have GW113 := n2_; have GE113 := n3_; clear n0_ n1_ n2_ n3_; clear hb hbox hg; have hcz4_0 : w3.cell? ⟨gb113, 0, none⟩ = some (.string a0_0) := (blk_cell BK113.out 0).trans rfl; have hcz4_1 : w3.cell? ⟨gb113, 1, none⟩ = some (.bool true) := (blk_cell BK113.out 1).trans rfl; have hfz4_0 := blk_frozen BK113.out 0; have hfz4_1 := blk_frozen BK113.out 1))
    go_ret2
    exact ⟨by first | rfl | (simp [errW_none, errW_some] <;> rfl) | (simp [*, errW_none, errW_some] <;> rfl), by repeat (first | (with_reducible first | exact HB.out | apply below_alloc | apply pw_below_drewN | apply below_drew1 | refine below_set ?_ GE113.out) | exact HB.out)⟩
  · replace c2 := Bool.eq_false_iff.mpr c2
    subst c2
    have H1 : (some (a0_0, 0)) = some (r1, r2) := by rw [if_neg (show ¬ (false = true) by decide)] at H; exact H
    clear H
    have H := H1
    clear H1
    simp only [Option.some.injEq, Prod.mk.injEq] at H
    obtain ⟨rfl, rfl⟩ := H
    go_enter Try.func90, Try.ntmps90
    go_wp2_with (first | ((with_reducible refine gate_dst (N := 1) rfl ?_); refine box_event ?hg (N := 1) ?hd (cs := #[.string a0_0, .bool false]) (t := 126) ?hr ?_; (case hd => rfl); (case hg => rfl); (case hr => first | (go_simp; done) | (go_simp; rfl)); intro gb113 hg w5 hbox hb; have n0_ := Aside0.mk (below_step (by repeat (first | (with_reducible first | exact HB.out | apply below_alloc | apply pw_below_drewN | apply below_drew1) | exact HB.out)) hb); have n1_ := Aside0.mk (hbox); have n2_ := Aside0.mk ((by rw [hg]; exact (below_size (by repeat (first | (with_reducible first | exact HB.out | apply below_alloc | apply pw_below_drewN | apply below_drew1) | exact HB.out))) : w.heap.size ≤ gb113)); have n3_ := Aside0.mk ((by rw [hg]; exact (below_size (by repeat (first | (with_reducible first | exact HB.out | apply below_alloc | apply pw_below_drewN | apply below_drew1) | exact HB.out))) : w.heap.size ≤ gb113)); clear HB; have HB := n0_; have BK113 := n1_; have GW113 := n2_; have GE113 := n3_; clear n0_ n1_ n2_ n3_; clear hb hbox hg; have hcz6_0 : w5.cell? ⟨gb113, 0, none⟩ = some (.string a0_0) := (blk_cell BK113.out 0).trans rfl; have hcz6_1 : w5.cell? ⟨gb113, 1, none⟩ = some (.bool false) := (blk_cell BK113.out 1).trans rfl; have hfz6_0 := blk_frozen BK113.out 0; have hfz6_1 := blk_frozen BK113.out 1))
    go_ret2
    exact ⟨by first | rfl | (simp [errW_none, errW_some] <;> rfl) | (simp [*, errW_none, errW_some] <;> rfl), by repeat (first | (with_reducible first | exact HB.out | apply below_alloc | apply pw_below_drewN | apply below_drew1 | refine below_set ?_ GE113.out) | exact HB.out)⟩
end Go.Proofs.Ytbkbganflnemeaa.Pr
end

section
namespace Go.Proofs.Ytbkbganflnemeaa.Pr
open Go.RowKit Go.Deep Go.Maps Go.Proofs.YtbkbganflnemeaaW.PrintWords Go.Proofs.YtbkbganflnemeaaW.PrintLast Go.Proofs.YtbkbganflnemeaaW.PrintMore
set_option maxHeartbeats 4000000
set_option linter.unusedVariables false
set_option linter.unusedSimpArgs false
theorem strZ (n : Nat) : strOfNums (List.replicate n (0 : Int)) = txt (List.replicate n 0) := by
  have := str_nats (List.replicate n 0)
  rw [List.map_replicate] at this
  exact this
set_option maxRecDepth 100000 in
theorem rfilled_calls (s : ByteArray) (hs : s.size ≤ 1000000) (w : World) : Calls Try.prog 161 #[.string s] w fun e w' => e = .returned (.string (fillB s)) ∧ Below w.heap.size w w' := by
  obtain ⟨n, hn⟩ : ∃ n : Nat, (64 - s.size % 64) % 64 = n := ⟨_, rfl⟩
  have e1 : -((s.size : Int) % 64) % 64 = (n : Int) := by omega
  have hn64 : n < 64 := by omega
  have hmk : (Instr.makeSlice 68 (.int .i64 (n : Int)) (.int .i64 (n : Int))).run Try.prog w = .ok (.slice (some ⟨w.heap.size, 0, none⟩) n n) (w.alloc (.cells (madeCells #[.int .u8 0] n) 5)) := print_make 68 5 .u8 1 Try.underlying68 info5 (by decide) n (by omega) w
  have hcv : (convert 68 9 (.slice (some ⟨w.heap.size, 0, none⟩) n n)).run Try.prog (w.alloc (.cells (madeCells #[.int .u8 0] n) 5)) = .ok (.string (txt (List.replicate n 0))) (w.alloc (.cells (madeCells #[.int .u8 0] n) 5)) := by
    rw [← strZ]
    exact own_string Try.underlying68 Try.underlying5 Try.underlying9 (own_made w w.heap.size 5 .u8 n (Nat.le_refl _) (by omega))
  have hz : (9223372036854775807 < s.size + (txt (List.replicate n 0)).size) = False := eq_false (by rw [txt_size, List.length_replicate]; omega)
  have hz2 : s.size + (txt (List.replicate n 0)).size ≤ 9223372036854775807 := by rw [txt_size, List.length_replicate]; omega
  have HF : Aside0 (fillB s = s ++ txt (List.replicate n 0)) := ⟨by rw [fillB, hn]⟩
  clear hs hn hn64
  generalize txt (List.replicate n 0) = Z at *
  go_enter Try.func161, Try.ntmps161
  go_wp2_with (fail)
  go_ret
  rw [HF.out]
  exact ⟨rfl, below_alloc (Below.refl _ _) _⟩
theorem empty_txt (M : List Nat) : (⟨#[]⟩ : ByteArray) ++ txt M = txt M := by
  have := txt_append [] M
  rw [List.nil_append] at this
  exact this.symm
set_option maxRecDepth 100000 in
theorem rhead_calls (t : Int) (b : ByteArray) (ht : timeB t = true) (hb : b.size ≤ 1000000) (w : World) : Calls Try.prog 142 #[.int .i64 t, .string b] w fun e w' => e = .returned (.string (headB t b)) ∧ Below w.heap.size w w' := by
  have h1 : samphireref09_Num.f 10 (⟨#[]⟩ : ByteArray) false t = some (txt (byN t 6), false) := by
    rw [ref_Num _ _ _ (by decide), ht, refStep, if_neg (by rw [byN_length _ _ (by decide)]; decide), empty_txt]
  have h2 : samphireref09_Num.f 10 (txt (byN t 6)) false (b.size : Int) = some (txt (byN t 6 ++ byN (b.size : Int) 6), false) := by
    have hT : timeB (b.size : Int) = true := decide_eq_true (by omega)
    rw [ref_Num _ _ _ (by rw [txt_size, byN_length _ _ (by decide)]; decide), hT, refStep, if_neg (by rw [byN_length _ _ (by decide), txt_size, byN_length _ _ (by decide)]; decide), ← txt_append]
  have h3 : samphireref09_Done.f (txt (byN t 6 ++ byN (b.size : Int) 6)) false = some (txt (byN t 6 ++ byN (b.size : Int) 6), 0) := rfl
  have H1 := Aside0.mk (fun W => samphireref09_Num.calls 10 _ _ t _ _ W h1)
  have H2 := Aside0.mk (fun W => samphireref09_Num.calls 10 _ _ (b.size : Int) _ _ W h2)
  have H3 := Aside0.mk (fun W => samphireref09_Done.calls _ _ _ _ W h3)
  have H4 := Aside0.mk (fun W => samphireref02_Sum.calls b (sumT b) W (ref_Sum_f b (by omega)))
  have hss : (sumT b).size = 32 := sumT_size b
  have k1 := eq_true (show 8 ≤ (sumT b).size by omega)
  have k1i := eq_true (show (8 : Int) ≤ ((sumT b).size : Int) by omega)
  have hpz : (txt (byN t 6 ++ byN (b.size : Int) 6)).size = 12 := by rw [txt_size, List.length_append, byN_length _ _ (by decide), byN_length _ _ (by decide)]
  have hez : ((sumT b).extract 0 8).size = 8 := by rw [ByteArray.size_extract]; omega
  have k2 : (9223372036854775807 < (txt (byN t 6 ++ byN (b.size : Int) 6)).size + ((sumT b).extract 0 8).size) = False := eq_false (by omega)
  have k3 : (txt (byN t 6 ++ byN (b.size : Int) 6)).size + ((sumT b).extract 0 8).size ≤ 9223372036854775807 := by omega
  have H5 := Aside0.mk (fun W => rfilled_calls (txt (byN t 6 ++ byN (b.size : Int) 6) ++ (sumT b).extract 0 8) (by rw [ByteArray.size_append]; omega) W)
  have HH : Aside0 (headB t b = fillB (txt (byN t 6 ++ byN (b.size : Int) 6) ++ (sumT b).extract 0 8)) := ⟨rfl⟩
  have HB := Aside0.mk (Below.refl w.heap.size w)
  clear h1 h2 h3 hss hpz hez ht hb
  generalize txt (byN t 6 ++ byN (b.size : Int) 6) = P2 at *
  generalize txt (byN t 6) = P1 at *
  generalize sumT b = SU at *
  go_enter Try.func142, Try.ntmps142
  go_wp2_with (fail)
  refine (H1.out _).mono ?_
  rintro e w1 ⟨rfl, hb⟩
  have HB1 := Aside0.mk (show Below w.heap.size w w1 from hb)
  clear hb
  go_wp2_with (fail)
  refine (H2.out _).mono ?_
  rintro e w2 ⟨rfl, hb⟩
  have HB2 := Aside0.mk (show Below w.heap.size w w2 from below_then HB1.out HB1.out.size hb)
  clear hb
  go_wp2_with (fail)
  refine (H3.out _).mono ?_
  rintro e w3 ⟨rfl, hb⟩
  have HB3 := Aside0.mk (show Below w.heap.size w w3 from below_then HB2.out HB2.out.size hb)
  clear hb
  go_wp2_with (fail)
  refine (H4.out _).mono ?_
  rintro e w4 ⟨rfl, hb⟩
  have HB4 := Aside0.mk (show Below w.heap.size w w4 from below_then HB3.out HB3.out.size hb)
  clear hb
  go_wp2_with (fail)
  refine (H5.out _).mono ?_
  rintro e w5 ⟨rfl, hb⟩
  have HB5 := Aside0.mk (show Below w.heap.size w w5 from below_then HB4.out HB4.out.size hb)
  clear hb
  go_wp2_with (fail)
  go_ret
  rw [HH.out]
  exact ⟨rfl, HB5.out⟩
end Go.Proofs.Ytbkbganflnemeaa.Pr
end

section
namespace Go.Proofs.Ytbkbganflnemeaa.Pr
open Go.RowKit Go.Deep Go.Maps Go.Proofs.YtbkbganflnemeaaW.PrintWords Go.Proofs.YtbkbganflnemeaaW.PrintLast Go.Proofs.YtbkbganflnemeaaW.PrintMore
set_option maxHeartbeats 2000000
set_option linter.unusedVariables false
set_option linter.unusedSimpArgs false
theorem str_eq (x y : ByteArray) : (x.toList == y.toList) = decide (x = y) := by
  rw [Bool.eq_iff_iff, beq_iff_eq, decide_eq_true_iff]
  constructor
  · intro h
    rw [ByteArray.toList_eq, ByteArray.toList_eq] at h
    exact ByteArray.ext (Array.ext' h)
  · intro h; rw [h]
end Go.Proofs.Ytbkbganflnemeaa.Pr
end

section
namespace Go.Proofs.Ytbkbganflnemeaa.Pr
open Go.RowKit Go.Deep Go.Maps Go.Proofs.YtbkbganflnemeaaW.PrintWords Go.Proofs.YtbkbganflnemeaaW.PrintLast Go.Proofs.YtbkbganflnemeaaW.PrintMore
set_option maxHeartbeats 4000000
set_option linter.unusedVariables false
set_option linter.unusedSimpArgs false
def StoV (B s d : Nat) (v : Value) (l : List ByteArray) (b : ByteArray) (turn : Int) (w : World) : Prop :=
  B ≤ s ∧ w.heap[s]? = some (.cells #[.pointer (some ⟨d, 0, none⟩), v, .string b, .int .i64 turn] 61 (0, 0)) ∧ w.ownsRow B 9 1 v l.length (l.map Value.string)
def StoAt (B s d : Nat) (l : List ByteArray) (b : ByteArray) (turn : Int) (w : World) : Prop := ∃ v, StoV B s d v l b turn w
def halfB (which : Nat) (L : List ByteArray) : List ByteArray := (L.drop (which * (L.length / 2))).take (L.length / 2)
def halfPost (B d : Nat) (r : Option (Int × List Nat × List ByteArray)) (e : Ending) (w : World) : Prop :=
  match r with
  | none => e = .returned (.pointer none)
  | some (t, b, l) => ∃ s, e = .returned (.pointer (some ⟨s, 0, none⟩)) ∧ StoAt B s d l (txt b) t w
theorem parseP_nil (k : Nat) : parseP k [] = some [] := by cases k <;> rfl
theorem parseP_some {T R : List Nat} {s : ByteArray} (k : Nat) (h : textP T = some (s, R)) (hT : T ≠ []) : parseP (k + 1) T = (parseP k R).map (s :: ·) := by
  rw [parseP, if_neg hT, h]
theorem parseP_none {T : List Nat} (k : Nat) (h : textP T = none) (hT : T ≠ []) : parseP (k + 1) T = none := by
  rw [parseP, if_neg hT, h]
theorem StoV.ne {B s d gj : Nat} {v : Value} {l : List ByteArray} {b : ByteArray} {t : Int} {w : World} {cs : Array Value} (h : StoV B s d v l b t w) (hj : w.heap[gj]? = some (.cells cs 164 (0, 0))) : s ≠ gj := fun e => by
  have hb := h.2.1
  rw [e, hj] at hb
  injection hb with hb
  injection hb with _ h2 _
  exact absurd h2 (by decide)
theorem StoV.keep {B s d gj : Nat} {v : Value} {l : List ByteArray} {b : ByteArray} {t : Int} {w w' : World} {cs : Array Value} (h : StoV B s d v l b t w) (hk : KeepBut w w' gj none) (hj : w.heap[gj]? = some (.cells cs 164 (0, 0))) : StoV B s d v l b t w' := by
  have hne := h.ne hj
  obtain ⟨h0, hb, ho⟩ := h
  refine ⟨h0, (hk.2 s (blk_lt hb) hne (by simp)).trans hb, own_move ho (fun k hk2 => hk.2 k (own_lt ho k hk2) (fun e => ?_) (by simp))⟩
  obtain ⟨cells, hc⟩ := own_typed ho k hk2
  rw [e, hj] at hc
  injection hc with hc
  injection hc with _ h2 _
  exact absurd h2 (by decide)
theorem StoV.below {B s d : Nat} {v : Value} {l : List ByteArray} {b : ByteArray} {t : Int} {w w' : World} (h : StoV B s d v l b t w) (hk : Below w.heap.size w w') : StoV B s d v l b t w' := by
  obtain ⟨h0, hb, ho⟩ := h
  exact ⟨h0, (hk.block s (blk_lt hb)).trans hb, own_move ho (fun k hk2 => hk.block k (own_lt ho k hk2))⟩
theorem StoAt.keep {B s d gj : Nat} {l : List ByteArray} {b : ByteArray} {t : Int} {w w' : World} {cs : Array Value} (h : StoAt B s d l b t w) (hk : KeepBut w w' gj none) (hj : w.heap[gj]? = some (.cells cs 164 (0, 0))) : StoAt B s d l b t w' :=
  h.imp fun _ q => q.keep hk hj
theorem StoAt.below {B s d : Nat} {l : List ByteArray} {b : ByteArray} {t : Int} {w w' : World} (h : StoAt B s d l b t w) (hk : Below w.heap.size w w') : StoAt B s d l b t w' := h.imp fun _ q => q.below hk
theorem StoV.appended {B s d : Nat} {v v5 : Value} {l : List ByteArray} {b x : ByteArray} {t : Int} {n5 : Nat} {w w5 : World} (h : StoV B s d v l b t w) (hg : w.grownBy w5 v.ownBlock) (hown : w5.ownsRow B 9 1 v5 n5 (l.map Value.string ++ [.string x])) (hn : n5 = l.length + 1) : StoV B s d v5 (l ++ [x]) b t (w5.setCell ⟨s, 1, none⟩ v5) := by
  obtain ⟨h0, hb, ho⟩ := h
  subst hn
  have hb5 : w5.heap[s]? = some (.cells #[.pointer (some ⟨d, 0, none⟩), v, .string b, .int .i64 t] 61 (0, 0)) := (hg.block s (blk_lt hb) (Go.Proofs.YtbkbganflnemeaaW.PrintWords.own_ne ho hb (by decide))).trans hb
  refine ⟨h0, blk_put hb5 1 _ rfl, ?_⟩
  rw [List.length_append, List.map_append]
  exact own_move hown (fun k hk => Below.heap_setCell w5 ⟨s, 1, none⟩ v5 k (fun e => Go.Proofs.YtbkbganflnemeaaW.PrintWords.own_ne hown hb5 (by decide) (by rw [hk]; congr 1; exact e.symm)))
theorem numP_rng (T : List Nat) : 0 ≤ (numP T).1 ∧ (numP T).1 ≤ 1099511627775 := by
  unfold numP
  split
  · decide
  split <;> simp <;> omega
set_option maxRecDepth 100000 in
theorem half_calls (d g : Nat) (L : List ByteArray) (f nw : Int) (which : Nat) (hwh : which ≤ 1) (w : World) (hD : DevAt d g L f false nw w) (hL2 : 2 ≤ L.length) (hL : L.length ≤ 4096) :
    Calls Try.prog 71 #[.pointer (some ⟨d, 0, none⟩), .int .i64 (which : Int)] w fun e w' => Below w.heap.size w w' ∧ halfPost w.heap.size d (halfP which (catL (halfB which L))) e w' := by
  have hlen : (halfB which L).length = L.length / 2 := by
    unfold halfB
    rw [List.length_take, List.length_drop]
    have : which * (L.length / 2) ≤ L.length / 2 := by
      have := Nat.mul_le_mul_right (L.length / 2) hwh
      omega
    omega
  have hsiz : ∀ x ∈ halfB which L, x.size = 64 := fun x hx => hD.siz x (List.mem_of_mem_drop (List.mem_of_mem_take hx))
  have hAL := catL_length _ hsiz
  rw [hlen] at hAL
  have hlt : ∀ x ∈ catL (halfB which L), x < 256 := fun x hx => by
    obtain ⟨y, _, hy⟩ := List.mem_flatMap.1 hx
    exact bys_lt' y x hy
  have hle : which * (L.length / 2) ≤ L.length / 2 := by
    have := Nat.mul_le_mul_right (L.length / 2) hwh
    omega
  have HBL := Aside0.mk (blocks_calls d g L f nw (which * (L.length / 2)) (L.length / 2) w hD (by omega) hL)
  have HSZ := Aside0.mk (Size_dev d g L f nw false w hD)
  obtain ⟨H, hH⟩ : ∃ H, L.length / 2 = H := ⟨_, rfl⟩
  have hB : (L.drop (which * (L.length / 2))).take (L.length / 2) = halfB which L := rfl
  rw [hB] at HBL
  rw [hH] at HBL hAL hle
  have hH2 : 1 ≤ H ∧ H ≤ 2048 := by omega
  have e5 : ((L.length : Int) / 2) = (H : Int) := by omega
  have w1 : wrap64 ((which : Int) * (H : Int)) = ((which * H : Nat) : Int) := by rw [← Int.natCast_mul]; unfold wrap64; omega
  have w2 : wrap64 (((which * H : Nat) : Int) + (H : Int)) = ((which * H + H : Nat) : Int) := by unfold wrap64; omega
  have HD := Aside0.mk hD
  have HWH := Aside0.mk hwh
  clear hD hL2 hL hlen hsiz hle hH hB hwh
  generalize catL (halfB which L) = ALL at *
  have HAL := Aside0.mk hAL
  have HLT := Aside0.mk hlt
  have HH := Aside0.mk hH2
  have W1 := Aside0.mk w1
  have W2 := Aside0.mk w2
  have E5 := Aside0.mk e5
  have E0 : Aside0 (wrap64 (H : Int) = (H : Int)) := ⟨by have := HH.out; unfold wrap64; omega⟩
  clear hAL hlt hH2 w1 w2 e5
  go_enter Try.func71, Try.ntmps71
  go_wp2_with (fail)
  refine HSZ.out.mono ?_
  rintro e w' ⟨rfl, rfl⟩
  go_wp2_with (fail)
  rw [E5.out, E0.out, W1.out, W2.out]
  refine HBL.out.mono ?_
  rintro e w1 ⟨rfl, hb1⟩
  have HB1 := Aside0.mk hb1
  have HC : Aside0 ((txt ALL).extract 0 64 = txt (ALL.take 64)) := ⟨by rw [txt_extract]; rfl⟩
  have hz := txt_size ALL
  have e6 := eq_true (show 64 ≤ (txt ALL).size by rw [hz, HAL.out]; have := HH.out; omega)
  have e6i := eq_true (show (64 : Int) ≤ ((txt ALL).size : Int) by rw [hz, HAL.out]; have := HH.out; omega)
  have HZ := Aside0.mk hz
  have HT64 : Aside0 (∀ x ∈ ALL.take 64, x < 256) := ⟨fun x hx => HLT.out x (List.mem_of_mem_take hx)⟩
  clear hb1 hz HBL HSZ W1 W2 E5 E0
  generalize hAA : txt ALL = AA at *
  have HAA := Aside0.mk hAA
  clear hAA
  go_wp2_with (fail)
  rw [HC.out]
  refine (code_NewIn.calls (txt (ALL.take 64)) true (txt (ALL.take 64)) 0 w' w1 HB1.out rfl).mono ?_
  rintro e w2 ⟨gi, rfl, hi, hb2, hbb⟩
  have HI2 := Aside0.mk hi
  have HB2 := Aside0.mk hb2
  clear hi hb2 hbb HB1
  go_wp2_with (fail)
  refine (code_In_Num.calls 10 gi true (txt (ALL.take 64)) 0 _ _ _ _ w' w2 HI2.out HB2.out (numS _ HT64.out)).mono ?_
  rintro e w3 ⟨rfl, hi, hb3, _⟩
  have HI3 := Aside0.mk hi
  have HB3 := Aside0.mk hb3
  clear hi hb3 HI2 HB2
  have hnum2 : ∃ n2 T2 z2, (if (numP (ALL.take 64)).2.2 = 0 then (numP (numP (ALL.take 64)).2.1).1 else 0) = n2 ∧ code_In_Num.f 10 true (txt (numP (ALL.take 64)).2.1) (numP (ALL.take 64)).2.2 = some (n2, true, T2, z2) := by
    have hsub : ∀ x ∈ (numP (ALL.take 64)).2.1, x < 256 := by
      intro x hx
      unfold numP at hx
      split at hx
      · cases hx
      split at hx
      · exact HT64.out x (List.mem_of_mem_drop hx)
      · cases hx
    by_cases hz : (numP (ALL.take 64)).2.2 = 0
    · refine ⟨_, txt (numP (numP (ALL.take 64)).2.1).2.1, (numP (numP (ALL.take 64)).2.1).2.2, rfl, ?_⟩
      rw [if_pos hz, hz]
      exact numS _ hsub
    · refine ⟨_, txt (numP (ALL.take 64)).2.1, (numP (ALL.take 64)).2.2, rfl, ?_⟩
      rw [if_neg hz]
      exact numS_bad _ _ hz
  obtain ⟨n2, T2, z2, hn2, hf2⟩ := hnum2
  have HN2 := Aside0.mk hn2
  have HF2 := Aside0.mk hf2
  clear hn2 hf2
  have HRES : Aside0 (halfP which ALL = (if (numP (ALL.take 64)).1 < 1 ∨ (numP (ALL.take 64)).1 % 2 ≠ (which : Int) ∨ ((ALL.length - 64 : Nat) : Int) < n2 then none
  else if headB (numP (ALL.take 64)).1 (txt ((ALL.drop 64).take n2.toNat)) ≠ txt (ALL.take 64) then none
  else match parseP ALL.length ((ALL.drop 64).take n2.toNat) with
    | none => none
    | some [] => none
    | some (s :: l) => some ((numP (ALL.take 64)).1, (ALL.drop 64).take n2.toNat, s :: l))) := ⟨by rw [← HN2.out]; rfl⟩
  have HTR := Aside0.mk (numP_rng (ALL.take 64))
  have HNR : Aside0 (0 ≤ n2 ∧ n2 ≤ 1099511627775) := ⟨by
    have h := HN2.out
    split at h
    · rw [← h]; exact numP_rng _
    · rw [← h]; decide⟩
  generalize (numP (ALL.take 64)).1 = tn at *
  go_wp2_with (fail)
  refine (code_In_Num.calls 10 gi true _ _ _ _ _ _ w' w3 HI3.out HB3.out HF2.out).mono ?_
  rintro e w4 ⟨rfl, hi, hb4, _⟩
  have HB4 := Aside0.mk hb4
  clear hi hb4 HI3 HB3 HF2
  have HTR0 := HTR
  clear HN2 HC
  obtain ⟨M, hM⟩ : ∃ M, ALL.length - 64 = M := ⟨_, rfl⟩
  have HRES := Aside0.mk (show _ from (by have h := HRES.out; rw [hM] at h; exact h))
  have es : ((AA.size : Int) - 64) = (M : Int) := by rw [HZ.out, ← hM, HAL.out]; have := HH.out; omega
  have em : wrap64 (M : Int) = (M : Int) := by rw [← hM, HAL.out]; have := HH.out; unfold wrap64; omega
  have HM := Aside0.mk hM
  clear hM
  by_cases c1 : tn < 1
  · have d1 : decide (tn < 1) = true := decide_eq_true c1
    have HR2 : Aside0 (halfP which ALL = none) := ⟨by rw [HRES.out, if_pos (.inl c1)]⟩
    clear HRES c1
    go_wp2_with (fail)
    go_ret
    rw [HR2.out]
    exact ⟨HB4.out, rfl⟩
  · have d1 : decide (tn < 1) = false := decide_eq_false c1
    have C1 := Aside0.mk (show 1 ≤ tn by omega)
    have t2 : tn.tmod 2 = tn % 2 := Int.tmod_eq_emod_of_nonneg (by omega)
    by_cases c2 : tn % 2 ≠ (which : Int)
    · have HR2 : Aside0 (halfP which ALL = none) := ⟨by rw [HRES.out, if_pos (.inr (.inl c2))]⟩
      have d2 : (tn % 2 != (which : Int)) = true := bne_iff_ne.2 c2
      clear HRES c1
      go_wp2_with (fail)
      go_ret
      rw [HR2.out]
      exact ⟨HB4.out, rfl⟩
    · have c2' : tn % 2 = (which : Int) := by omega
      have d2 : (tn % 2 != (which : Int)) = false := by rw [bne_eq_false_iff_eq]; exact c2'
      by_cases c3 : (M : Int) < n2
      · have HR2 : Aside0 (halfP which ALL = none) := ⟨by rw [HRES.out, if_pos (.inr (.inr c3))]⟩
        have d3 : decide ((M : Int) < n2) = true := decide_eq_true c3
        clear HRES c1 c2' c3 c2
        go_wp2_with (fail)
        go_ret
        rw [HR2.out]
        exact ⟨HB4.out, rfl⟩
      · have d3 : decide ((M : Int) < n2) = false := decide_eq_false c3
        obtain ⟨n, rfl⟩ := Int.eq_ofNat_of_zero_le HNR.out.1
        clear d3
        have d3 : decide (M < n) = false := decide_eq_false (by omega)
        have HN := Aside0.mk (show n + 64 ≤ ALL.length by have := HM.out; have := HAL.out; have := HH.out; omega)
        have HR2 := HRES.out
        rw [if_neg (by rintro (h | h | h); exact c1 h; exact c2 h; exact c3 h), Int.toNat_natCast] at HR2
        have HR := Aside0.mk HR2
        have w64 : wrap64 (64 + (n : Int)) = 64 + (n : Int) := by have := HNR.out; unfold wrap64; omega
        have t64 : (64 + (n : Int)).toNat = 64 + n := by omega
        have s1 := eq_true (show 64 + n ≤ AA.size by have := HN.out; rw [HZ.out]; omega)
        have s1i := eq_true (show (64 + (n : Int)) ≤ (AA.size : Int) by have := HN.out; rw [HZ.out]; omega)
        have s2 := eq_true (show 64 ≤ 64 + n by omega)
        have s2i := eq_true (show (64 : Int) ≤ 64 + (n : Int) by omega)
        clear HRES c1 c2' c3 c2 HR2
        go_wp2_with (fail)
        have HBT : Aside0 (AA.extract 64 (64 + n) = txt ((ALL.drop 64).take n)) := ⟨by rw [← HAA.out, txt_extract]; congr 2; omega⟩
        have HHT : Aside0 (AA.extract 0 64 = txt (ALL.take 64)) := ⟨by rw [← HAA.out, txt_extract]; rfl⟩
        rw [← HBT.out, ← HHT.out] at HR
        have hbs : (AA.extract 64 (64 + n)).size = n := by rw [ByteArray.size_extract]; have := HN.out; rw [HZ.out]; omega
        have HBS := Aside0.mk hbs
        clear hbs HM HNR HTR s1 s1i s2 s2i em es t64 w64 HT64
        generalize AA.extract 64 (64 + n) = BT at *
        generalize hgs : w4.heap.size = gs at *
        have HGS := Aside0.mk hgs
        clear hgs
        have HS5 : Aside0 ((w4.alloc (.cells #[.pointer (some ⟨d, 0, none⟩), .slice none 0 0, .string BT, .int .i64 tn] 61)).heap[gs]? = some (.cells #[.pointer (some ⟨d, 0, none⟩), .slice none 0 0, .string BT, .int .i64 tn] 61 (0, 0))) := ⟨by rw [← HGS.out]; exact blk_new _ _⟩
        have HB5 := Aside0.mk (below_alloc HB4.out (.cells #[.pointer (some ⟨d, 0, none⟩), .slice none 0 0, .string BT, .int .i64 tn] 61))
        have HGB : Aside0 (w'.heap.size ≤ gs) := ⟨by rw [← HGS.out]; exact HB4.out.size⟩
        generalize w4.alloc (.cells #[.pointer (some ⟨d, 0, none⟩), .slice none 0 0, .string BT, .int .i64 tn] 61) = w5 at *
        clear HB4 HGS
        have HHD : Aside0 (∀ W, Calls Try.prog 107 #[.int .i64 tn, .string BT] W fun e w' => e = .returned (.string (headB tn BT)) ∧ Below W.heap.size W w') := ⟨fun W => head_calls tn BT (by unfold timeB; rw [decide_eq_true]; have := HTR0.out; omega) (by rw [HBS.out]; have := HN.out; rw [HAL.out] at this; have := HH.out; omega) W⟩
        have q2 : w5.cell? ⟨gs, 2, none⟩ = some (.string BT) := by rw [cell_of_row _ _ _ _ _ _ HS5.out]; rfl
        by_cases ce : headB tn BT = AA.extract 0 64
        · have n1 : ((headB tn BT).toList == (AA.extract 0 64).toList) = true := by rw [ce]; exact beq_self_eq_true _
          have n4 : ((headB tn BT).toList != (AA.extract 0 64).toList) = false := by rw [bne, n1]; rfl
          rw [if_neg (by rw [ce]; simp)] at HR
          clear ce n4
          generalize headB tn BT = HB at *
          go_region_held3 (fun w' => w'.cell? ⟨gs, 2, none⟩ = some (.string BT))
            (first | go_keep | exact q2)
            (first
              | (go_at_call 107; (with_reducible refine (HHD.out _).mono ?_); rintro e w6 ⟨rfl, hb0⟩; have hb : Below w5.heap.size w5 w6 := below_step (by first | exact below_drew1 (Below.refl _ _) | exact Below.refl _ _) hb0; clear hb0; have HB6 := Aside0.mk (show Below w'.heap.size w' w6 from below_then HB5.out HB5.out.size hb); have HS6 := Aside0.mk ((hb.block gs (blk_lt HS5.out)).trans HS5.out); clear q2; have q2 : w6.cell? ⟨gs, 2, none⟩ = some (.string BT) := (by rw [cell_of_row _ _ _ _ _ _ HS6.out]; rfl); clear hb))
          have HTX : Aside0 (BT = txt ((ALL.drop 64).take n)) := HBT
          obtain ⟨TT, hTT⟩ : ∃ TT, (ALL.drop 64).take n = TT := ⟨_, rfl⟩
          rw [hTT] at HTX
          have HR3 := HR.out
          rw [hTT] at HR3
          have HR4 := Aside0.mk HR3
          have HT3 : Aside0 (∀ x ∈ TT, x < 256) := ⟨fun x hx => HLT.out x (List.mem_of_mem_drop (List.mem_of_mem_take (by rw [hTT]; exact hx)))⟩
          have HTL : Aside0 (TT.length ≤ ALL.length ∧ TT.length ≤ 131072) := ⟨by rw [← hTT, List.length_take, List.length_drop]; have := HAL.out; have := HH.out; omega⟩
          clear hTT HR3 HR HRES HBT n1 HHD HS5 HB5 d1 d2 d3 t2 e6 e6i HHT
          go_wp2_with (fail)
          refine (code_NewIn.calls BT true BT 0 w' w6 HB6.out rfl).mono ?_
          rintro e w7 ⟨gj, rfl, hi, hb2, hbb⟩
          have HI7 := Aside0.mk hi
          have HB7 := Aside0.mk hb2
          have HS7 := Aside0.mk ((hbb.block gs (blk_lt HS6.out)).trans HS6.out)
          clear hi hb2 hbb HB6 HS6 q2
          go_wp2_with (fail)
          have HST : Aside0 (StoAt w'.heap.size gs d [] BT tn w7) := ⟨⟨_, HGB.out, HS7.out, ⟨rfl, .inl ⟨rfl, rfl⟩⟩⟩⟩
          have HI : Aside0 (IsS164 w' w7 gj true (txt TT) 0) := ⟨by rw [← HTX.out]; exact HI7.out⟩
          go_loopg [] TT.length (fun q wr => ∃ (l : List ByteArray) (T : List Nat) (e : Int) (k : Nat), Aside0 (IsS164 w' wr gj true (txt T) e) ∧ Aside0 (StoAt w'.heap.size gs d l BT tn wr) ∧ Aside0 (∀ x ∈ T, x < 256) ∧ Aside0 ((e = 0 ∧ T.length ≤ k ∧ parseP ALL.length TT = (parseP k T).map (l ++ ·)) ∨ (e ≠ 0 ∧ T = [] ∧ parseP ALL.length TT = none)) ∧ Aside0 (l.length + T.length ≤ 131072) ∧ Aside0 (q = T.length) ∧ Aside0 (Below w'.heap.size w' wr))
          case atStart => exact ⟨[], TT, 0, ALL.length, HI, HST, HT3, ⟨.inl ⟨rfl, HTL.out.1, by simp⟩⟩, ⟨by have := HTL.out; simp; omega⟩, ⟨rfl⟩, HB7⟩
          case round =>
            clear HST HI HI7 HS7 HB7
            obtain ⟨l, T, e, k, HI, HST, HT, HP, HLE, HQ, HB⟩ := hrel
            have HRS := Aside0.mk (code_In_Rest.calls gj true (txt T) e (((txt T).size : Int)) true (txt T) e w' _ HI.out HB.out rfl)
            by_cases hT : T = []
            · subst hT
              have d1 : decide (0 < (((txt []).size : Nat) : Int)) = false := decide_eq_false (by rw [txt_size]; simp)
              have d1b : decide (0 < (txt []).size) = false := decide_eq_false (by rw [txt_size]; simp)
              clear HT HLE HQ
              go_wp2_with (go_at_call 108; refine HRS.out.mono ?_; rintro e1 w8 ⟨rfl, hi, hb, hk⟩)
              have HI8 := Aside0.mk hi
              have HB8 := Aside0.mk hb
              have HS8 := Aside0.mk (HST.out.keep hk HI.out.1)
              clear hi hb hk HI HB HST HRS d1 d1b
              rcases HP.out with ⟨rfl, _, hp⟩ | ⟨he, _, hp⟩
              · rw [parseP_nil, Option.map_some, List.append_nil] at hp
                have HR5 := HR4.out
                rw [hp] at HR5
                have HR6 := Aside0.mk HR5
                clear HR5 hp HP
                refine (code_In_Done.calls gj true (txt []) 0 0 true (txt []) 0 w' _ HI8.out HB8.out (by unfold code_In_Done.f; rw [if_pos rfl, if_pos rfl, if_pos (by rw [ByteArray.toList_eq]; rfl)])).mono ?_
                rintro e1 w9 ⟨rfl, hi, hb, hk⟩
                have HB9 := Aside0.mk hb
                have HS9 := Aside0.mk (HS8.out.keep hk HI8.out.1)
                clear hi hb hk HI8 HB8 HS8
                obtain ⟨v, h0, hbx, ho⟩ := HS9.out
                obtain ⟨A, c, rfl⟩ := own_slice ho
                have g1 : w9.cell? ⟨gs, 1, none⟩ = some (.slice A l.length c) := by rw [cell_of_row _ _ _ _ _ _ hbx]; rfl
                clear h0 hbx ho
                cases l with
                | nil =>
                  go_wp2_with (fail)
                  go_ret
                  exact ⟨HB9.out, by rw [HR6.out]; rfl⟩
                | cons s l =>
                  have dl : (((s :: l).length : Int) == 0) = false := by rw [beq_eq_false_iff_ne, List.length_cons]; omega
                  have dl2 : ((l.length : Int) + 1 == 0) = false := by rw [beq_eq_false_iff_ne]; omega
                  go_wp2_with (fail)
                  go_ret
                  exact ⟨HB9.out, by rw [HR6.out]; exact ⟨gs, rfl, by rw [← HTX.out]; exact HS9.out⟩⟩
              · have HR5 := HR4.out
                rw [hp] at HR5
                have HR6 := Aside0.mk HR5
                have dz : (e != 0) = true := bne_iff_ne.2 he
                have HE := Aside0.mk he
                clear HR5 hp HP he
                refine (code_In_Done.calls gj true (txt []) e e true (txt []) e w' _ HI8.out HB8.out (by unfold code_In_Done.f; rw [if_pos rfl, if_neg HE.out])).mono ?_
                rintro e1 w9 ⟨rfl, hi, hb, hk⟩
                have HB9 := Aside0.mk hb
                clear hi hb hk HI8 HB8 HS8
                go_wp2_with (fail)
                go_ret
                exact ⟨HB9.out, by rw [HR6.out]; rfl⟩
            · have hpos : 0 < T.length := List.length_pos_iff.2 hT
              have d1 : decide (0 < (((txt T).size : Nat) : Int)) = true := decide_eq_true (by rw [txt_size]; omega)
              have d1b : decide (0 < (txt T).size) = true := decide_eq_true (by rw [txt_size]; omega)
              have HPOS := Aside0.mk hpos
              have HNE := Aside0.mk hT
              clear hpos hT
              go_wp2_with (go_at_call 108; refine HRS.out.mono ?_; rintro e1 w8 ⟨rfl, hi, hb, hk⟩)
              have HI8 := Aside0.mk hi
              have HB8 := Aside0.mk hb
              have HS8 := Aside0.mk (HST.out.keep hk HI.out.1)
              clear hi hb hk HI HB HST HRS d1 d1b
              have key : e = 0 ∧ ∃ s R e', code_In_Text.f 10 true (txt T) 0 32768 = some (s, true, txt R, e') ∧ R.length + 1 ≤ T.length ∧ (∀ x ∈ R, x < 256) ∧ ∃ k', ((e' = 0 ∧ R.length ≤ k' ∧ parseP ALL.length TT = (parseP k' R).map ((l ++ [s]) ++ ·)) ∨ (e' ≠ 0 ∧ R = [] ∧ parseP ALL.length TT = none)) := by
                rcases HP.out with ⟨he, hk, hp⟩ | ⟨_, h, _⟩
                · refine ⟨he, ?_⟩
                  obtain ⟨k', rfl⟩ : ∃ k', k = k' + 1 := ⟨k - 1, by have := HPOS.out; omega⟩
                  cases ht : textP T with
                  | some q =>
                    obtain ⟨s, R⟩ := q
                    have hl := textP_less T s R ht
                    refine ⟨s, R, 0, textS_ok T HT.out s R ht, by omega, fun x hx => HT.out x (hl.2 x hx), k', .inl ⟨rfl, by omega, ?_⟩⟩
                    rw [hp, parseP_some k' ht HNE.out, Option.map_map]
                    congr 1
                    funext z
                    simp
                  | none =>
                    obtain ⟨e', he', hf⟩ := textS_no T HT.out ht
                    refine ⟨⟨#[]⟩, [], e', hf, by have := HPOS.out; simp; omega, (fun x hx => by cases hx), 0, .inr ⟨he', rfl, ?_⟩⟩
                    rw [hp, parseP_none k' ht HNE.out]
                    rfl
                · exact absurd h HNE.out
              obtain ⟨rfl, s, R, e', hf, hRl, hR, k', hinv⟩ := key
              have HTXT := Aside0.mk (fun (W : World) (hW : IsS164 w' W gj true (txt T) 0) (hB : Below w'.heap.size w' W) => code_In_Text.calls 10 gj true (txt T) 0 32768 s true (txt R) e' w' W hW hB hf)
              have HRL := Aside0.mk hRl
              have HRX := Aside0.mk hR
              have HINV := Aside0.mk hinv
              clear hf hRl hR hinv HP
              obtain ⟨v, hv⟩ := HS8.out
              obtain ⟨A, c, rfl⟩ := own_slice hv.2.2
              have HVD := Aside0.mk (hv.below (below_drew1 (Below.refl _ _)))
              obtain ⟨ie, hie, hz0, hz1, hz2⟩ := info_parts info9
              have HID : Aside0 (IsS164 w' w8.drew gj true (txt T) 0) := ⟨HI8.out⟩
              have HBD := Aside0.mk (below_drew1 HB8.out)
              clear hv HS8 HI8 HB8
              go_wp2_with (fail)
              refine start_ (n := 12) (S := fun w' => w'.cell? ⟨gs, 1, none⟩ = some (.slice A l.length c)) (ds := [11]) #[false, false, false, false, false, false, false, false, false, false, false, false] (by kernel_rfl) rfl rfl ((by rw [cell_of_row _ _ _ _ _ _ HVD.out.2.1]; rfl)) (fun hHeld => ?_)
              refine pure_ (i := 0) (N := some 78) (v := ?_) (a' := ?_) #[true, false, false, false, false, false, false, false, false, false, false, false] rfl rfl (by kernel_rfl) (fun _ _ _ h => h) (Or.inl ⟨by rfl, ?_⟩) ?_ ?_
              rotate_left
              · intro w'
                go_simp
                with_reducible rfl
              rotate_left
              · simp only [Act.put, List.setIfInBounds_toArray, List.set_cons_zero, List.set_cons_succ, i64_w, i32_w]
                rfl
              refine pure_ (i := 1) (N := some 79) (v := ?_) (a' := ?_) #[true, true, false, false, false, false, false, false, false, false, false, false] rfl rfl (by kernel_rfl) (fun _ _ _ h => h) (Or.inl ⟨by rfl, ?_⟩) ?_ ?_
              rotate_left
              · intro w'
                go_simp
                with_reducible rfl
              rotate_left
              · simp only [Act.put, List.setIfInBounds_toArray, List.set_cons_zero, List.set_cons_succ, i64_w, i32_w]
                rfl
              refine pure_ (i := 2) (N := some 80) (v := ?_) (a' := ?_) #[true, true, true, false, false, false, false, false, false, false, false, false] rfl rfl (by kernel_rfl) (fun _ _ _ h => h) (Or.inl ⟨by rfl, ?_⟩) ?_ ?_
              rotate_left
              · intro w'
                go_simp
                with_reducible rfl
              rotate_left
              · simp only [Act.put, List.setIfInBounds_toArray, List.set_cons_zero, List.set_cons_succ, i64_w, i32_w]
                rfl
              refine pure_ (i := 3) (N := some 81) (v := ?_) (a' := ?_) #[true, true, true, true, false, false, false, false, false, false, false, false] rfl rfl (by kernel_rfl) (fun _ _ _ h => h) (Or.inl ⟨by rfl, ?_⟩) ?_ ?_
              rotate_left
              · intro w'
                go_simp
                with_reducible rfl
              rotate_left
              · simp only [Act.put, List.setIfInBounds_toArray, List.set_cons_zero, List.set_cons_succ, i64_w, i32_w]
                rfl
              refine pure_ (i := 5) (N := some 83) (v := ?_) (a' := ?_) #[true, true, true, true, false, true, false, false, false, false, false, false] rfl rfl (by kernel_rfl) (fun _ _ _ h => h) (Or.inl ⟨by rfl, ?_⟩) ?_ ?_
              rotate_left
              · intro w'
                go_simp
                with_reducible rfl
              rotate_left
              · simp only [Act.put, List.setIfInBounds_toArray, List.set_cons_zero, List.set_cons_succ, i64_w, i32_w]
                rfl
              refine take_ (i := 4) (N := some 82) (v := ?_) (a' := ?_) #[true, true, true, true, true, true, false, false, false, false, false, false] rfl rfl (by kernel_rfl) (fun _ _ _ h => h) (Or.inl ⟨by rfl, ?_⟩) hHeld ?_ ?_
              rotate_left
              · intro w' s0
                go_simp
                with_reducible rfl
              rotate_left
              · simp only [Act.put, List.setIfInBounds_toArray, List.set_cons_zero, List.set_cons_succ, i64_w, i32_w]
                rfl
              refine one_ (i := 6) (N := some 84) #[true, true, true, true, true, true, true, false, false, false, false, false] rfl rfl (by kernel_rfl) (by decide) (fun K hK => ?_)
              refine goes_ Try.func109 (by kernel_rfl) rfl #[.pointer (some ⟨gj, 0, none⟩), .int .i64 32768] (by rfl) rfl rfl (by simp only [List.map_toArray, List.map_cons, List.map_nil]; rfl) ?_
              with_reducible refine (HTXT.out _ HID.out HBD.out).mono ?_
              rintro e2 w9 ⟨rfl, hi9, hb9, hk9⟩
              refine ⟨_, rfl, ?_⟩
              have HI9 := Aside0.mk hi9
              have HB9 := Aside0.mk hb9
              have HV9 := Aside0.mk (HVD.out.keep hk9 HID.out.1)
              clear hi9 hb9 hk9
              refine hK.out _ _ ((by rw [cell_of_row _ _ _ _ _ _ HV9.out.2.1]; rfl)) (fun hHeld => ?_)
              clear hK K
              refine norm_ (a' := ?_) ?_ ?_
              rotate_left
              · show Act.put _ (some 84) _ = _
                simp only [Act.put, List.setIfInBounds_toArray, List.set_cons_zero, List.set_cons_succ, i64_w, i32_w]
                rfl
              refine one_ (i := 7) (N := some 85) #[true, true, true, true, true, true, true, true, false, false, false, false] rfl rfl (by kernel_rfl) (by decide) (fun K hK => ?_)
              refine value_ (w1 := ?_) (v := ?_) (by rfl) rfl ?_ ?_
              rotate_left 2
              · go_simp
                constructor
                · rfl
                · rfl
              have HV10 := Aside0.mk (HV9.out.below (below_alloc (Below.refl _ _) (.cells #[.string s] 9)))
              have HB10 := Aside0.mk (below_alloc HB9.out (.cells #[.string s] 9))
              have HI10 : Aside0 (IsS164 w' (w9.alloc (.cells #[.string s] 9)) gj true (txt R) e') := ⟨⟨blk_alloc HI9.out.1 _, HI9.out.2⟩⟩
              have HN10 : Aside0 ((w9.alloc (.cells #[.string s] 9)).heap[w9.heap.size]? = some (.cells #[.string s] 9 (0, 0))) := ⟨blk_new _ _⟩
              refine hK.out _ _ ((by rw [cell_of_row _ _ _ _ _ _ HV10.out.2.1]; rfl)) (fun hHeld => ?_)
              clear hK K
              refine norm_ (a' := ?_) ?_ ?_
              rotate_left
              · show Act.put _ (some 85) _ = _
                simp only [Act.put, List.setIfInBounds_toArray, List.set_cons_zero, List.set_cons_succ, i64_w, i32_w]
                rfl
              refine one_ (i := 8) (N := some 86) #[true, true, true, true, true, true, true, true, true, false, false, false] rfl rfl (by kernel_rfl) (by decide) (fun K hK => ?_)
              refine step_append_lies _ (by rfl) _ _ _ (by rfl) w'.heap.size 9 ie (.string ⟨#[]⟩) 1 16 Try.underlying46 hie hz0 hz1 hz2 rfl (by decide) (.slice A l.length c) l.length (l.map Value.string) (by rfl) HV10.out.2.2 ⟨w9.heap.size, 0, none⟩ 1 1 [.string s] (by rfl) rfl (World.news_of_block HN10.out) (fun u hu => by rw [List.mem_singleton.1 hu]; rfl) (by decide) (by have := HLE.out; unfold maxLen; omega) (by have := HLE.out; omega) HB10.out.size (w9.alloc (.cells #[.string s] 9)).heap.size rfl ?_
              intro gg cap w11 hown1 hgrow hat hlt5
              have e2 : w11.cell? ⟨gs, 1, none⟩ = some (.slice A l.length c) := (by rw [hgrow.cell_far _ (blk_lt HV10.out.2.1) (Go.Proofs.YtbkbganflnemeaaW.PrintWords.own_ne HV10.out.2.2 HV10.out.2.1 (by decide)), cell_of_row _ _ _ _ _ _ HV10.out.2.1]; rfl)
              have ef : w11.frozen? ⟨gs, 1, none⟩ = false := (by rw [hgrow.frozen_far _ (blk_lt HV10.out.2.1) (Go.Proofs.YtbkbganflnemeaaW.PrintWords.own_ne HV10.out.2.2 HV10.out.2.1 (by decide))]; exact blk_thaw HV10.out.2.1 1)
              refine hK.out _ _ (e2) (fun hHeld => ?_)
              clear hK K
              refine norm_ (a' := ?_) ?_ ?_
              rotate_left
              · show Act.put _ (some 86) _ = _
                simp only [Act.put, List.setIfInBounds_toArray, List.set_cons_zero, List.set_cons_succ, i64_w, i32_w]
                rfl
              refine pure_ (i := 9) (N := some 87) (v := ?_) (a' := ?_) #[true, true, true, true, true, true, true, true, true, true, false, false] rfl rfl (by kernel_rfl) (fun _ _ _ h => h) (Or.inl ⟨by rfl, ?_⟩) ?_ ?_
              rotate_left
              · intro w'
                go_simp
                with_reducible rfl
              rotate_left
              · simp only [Act.put, List.setIfInBounds_toArray, List.set_cons_zero, List.set_cons_succ, i64_w, i32_w]
                rfl
              refine pure_ (i := 10) (N := some 88) (v := ?_) (a' := ?_) #[true, true, true, true, true, true, true, true, true, true, true, false] rfl rfl (by kernel_rfl) (fun _ _ _ h => h) (Or.inl ⟨by rfl, ?_⟩) ?_ ?_
              rotate_left
              · intro w'
                go_simp
                with_reducible rfl
              rotate_left
              · simp only [Act.put, List.setIfInBounds_toArray, List.set_cons_zero, List.set_cons_succ, i64_w, i32_w]
                rfl
              refine last_ (i := 11) (N := none) #[true, true, true, true, true, true, true, true, true, true, true, true] rfl rfl (by kernel_rfl) (by decide) (fun K hK => ?_)
              refine skip_ (w1 := ?_) (by rfl) rfl ?_ ?_
              rotate_left
              · go_simp
                rfl
              refine hK.out _ _ ?_
              clear hK K
              refine done_ (by kernel_rfl) ?_

              have HSE : Aside0 (StoAt w'.heap.size gs d (l ++ [s]) BT tn (w11.setCell ⟨gs, 1, none⟩ (.slice (some ⟨gg, 0, none⟩) (l.length + 1) cap))) := ⟨⟨_, HV10.out.appended hgrow hown1 rfl⟩⟩
              have HIE : Aside0 (IsS164 w' (w11.setCell ⟨gs, 1, none⟩ (.slice (some ⟨gg, 0, none⟩) (l.length + 1) cap)) gj true (txt R) e') := ⟨⟨(Below.heap_setCell w11 ⟨gs, 1, none⟩ _ gj (HV10.out.ne HI10.out.1).symm).trans ((hgrow.block gj (blk_lt HI10.out.1) (Go.Proofs.YtbkbganflnemeaaW.PrintWords.own_ne HV10.out.2.2 HI10.out.1 (by decide))).trans HI10.out.1), HI10.out.2⟩⟩
              have HBE : Aside0 (Below w'.heap.size w' (w11.setCell ⟨gs, 1, none⟩ (.slice (some ⟨gg, 0, none⟩) (l.length + 1) cap))) := ⟨(HB10.out.grown hgrow HB10.out.size (fun k hk => own_base HV10.out.2.2 k hk)).setCell (p := ⟨gs, 1, none⟩) HGB.out _⟩
              clear hgrow hown1 hat hlt5 e2 ef HV10 HI10 HB10 HN10 HV9 HI9 HB9 HVD HID HBD HTXT hie hz0 hz1 hz2
              generalize w11.setCell ⟨gs, 1, none⟩ (.slice (some ⟨gg, 0, none⟩) (l.length + 1) cap) = w12 at *
              go_wp2_with (fail)
              go_roundg R.length
              case measure => have := HRL.out; have := HQ.out; omega
              case rel =>
                go_light
                exact ⟨l ++ [s], R, e', k', HIE, HSE, HRX, HINV, ⟨by have := HLE.out; have := HRL.out; simp; omega⟩, ⟨rfl⟩, HBE⟩
        · have n1 : ((headB tn BT).toList == (AA.extract 0 64).toList) = false := by rw [str_eq]; exact decide_eq_false ce
          have HR2 : Aside0 (halfP which ALL = none) := ⟨by have h := HR.out; rw [if_pos ce] at h; exact h⟩
          clear HR ce
          generalize headB tn BT = HB at *
          go_region_held3 (fun w' => w'.cell? ⟨gs, 2, none⟩ = some (.string BT))
            (first | go_keep | exact q2)
            (first
              | (go_at_call 107; (with_reducible refine (HHD.out _).mono ?_); rintro e w6 ⟨rfl, hb0⟩; have hb : Below w5.heap.size w5 w6 := below_step (by first | exact below_drew1 (Below.refl _ _) | exact Below.refl _ _) hb0; clear hb0; have HB6 := Aside0.mk (show Below w'.heap.size w' w6 from below_then HB5.out HB5.out.size hb); clear q2; have q2 : w6.cell? ⟨gs, 2, none⟩ = some (.string BT) := (by rw [cell_of_row _ _ _ _ _ _ ((hb.block gs (blk_lt HS5.out)).trans HS5.out)]; rfl); clear hb))
          go_wp2_with (fail)
          go_ret
          rw [HR2.out]
          exact ⟨HB6.out, rfl⟩
end Go.Proofs.Ytbkbganflnemeaa.Pr
end

section
namespace Go.Proofs.Ytbkbganflnemeaa.Pr
open Go.RowKit Go.Deep Go.Maps Go.Proofs.YtbkbganflnemeaaW.PrintWords Go.Proofs.YtbkbganflnemeaaW.PrintLast Go.Proofs.YtbkbganflnemeaaW.PrintMore
set_option maxHeartbeats 4000000
set_option linter.unusedVariables false
set_option linter.unusedSimpArgs false
abbrev StoR := Int × List Nat × List ByteArray
def better (b : StoR) (o : Option StoR) : StoR := match o with
  | none => b
  | some q => if b.1 < q.1 then q else b
def bestP (L : List ByteArray) : Nat → StoR
  | 0 => (0, [], [])
  | k + 1 => better (bestP L k) (halfP k (catL (halfB k L)))
theorem StoAt.lower {B B' s d : Nat} {l : List ByteArray} {b : ByteArray} {t : Int} {w : World} (h : StoAt B s d l b t w) (hb : B' ≤ B) : StoAt B' s d l b t w :=
  h.imp fun _ q => ⟨Nat.le_trans hb q.1, q.2.1, own_weaken q.2.2 hb⟩
theorem StoAt.turn {B s d : Nat} {l : List ByteArray} {b : ByteArray} {t : Int} {w : World} (h : StoAt B s d l b t w) : w.cell? ⟨s, 3, none⟩ = some (.int .i64 t) := by
  obtain ⟨v, q⟩ := h
  rw [cell_of_row _ _ _ _ _ _ q.2.1]
  rfl
set_option maxRecDepth 100000 in
theorem Open_dev (d g : Nat) (L : List ByteArray) (f nw : Int) (w : World) (hD : DevAt d g L f false nw w) (hL2 : 2 ≤ L.length) (hL : L.length ≤ 4096) :
    Calls Try.prog 33 #[.pointer (some ⟨d, 0, none⟩)] w fun e w' => Below w.heap.size w w' ∧ ∃ s, e = .returned (.tuple #[.pointer (some ⟨s, 0, none⟩), .int .i64 0]) ∧ StoAt w.heap.size s d (bestP L 2).2.2 (txt (bestP L 2).2.1) (bestP L 2).1 w' := by
  have HD := Aside0.mk hD
  have HL := Aside0.mk (show 2 ≤ L.length ∧ L.length ≤ 4096 from ⟨hL2, hL⟩)
  have HSZ := Aside0.mk (Size_dev d g L f nw false w hD)
  have HOF := Aside0.mk (Off_dev d g L f nw false w hD)
  have d1 : decide ((L.length : Int) < 2) = false := decide_eq_false (by omega)
  have d1b : decide (L.length < 2) = false := decide_eq_false (by omega)
  clear hD hL2 hL
  go_enter Try.func33, Try.ntmps33
  go_wp2_with (fail)
  refine HSZ.out.mono ?_
  rintro e w' ⟨rfl, rfl⟩
  go_wp2_with (fail)
  refine HOF.out.mono ?_
  rintro e w1 ⟨rfl, rfl⟩
  clear HSZ HOF d1 d1b
  go_wp2_with (fail)
  have HB0 := Aside0.mk (below_alloc (Below.refl w1.heap.size w1) (.cells #[.pointer (some ⟨d, 0, none⟩), .slice none 0 0, .string ⟨#[]⟩, .int .i64 0] 61))
  have HS0 : Aside0 (StoAt w1.heap.size w1.heap.size d (bestP L 0).2.2 (txt (bestP L 0).2.1) (bestP L 0).1 (w1.alloc (.cells #[.pointer (some ⟨d, 0, none⟩), .slice none 0 0, .string ⟨#[]⟩, .int .i64 0] 61))) := ⟨⟨_, Nat.le_refl _, blk_new _ _, ⟨rfl, .inl ⟨rfl, rfl⟩⟩⟩⟩
  have HD0 := Aside0.mk (HD.out.below HB0.out)
  go_loopw [4, 17] (fun bp i wr => ∃ (k s : Nat), Aside0 (k ≤ 2) ∧ i = .int .i64 (k : Int) ∧ bp = .pointer (some ⟨s, 0, none⟩) ∧ Aside0 (StoAt w1.heap.size s d (bestP L k).2.2 (txt (bestP L k).2.1) (bestP L k).1 wr) ∧ Aside0 (DevAt d g L f false nw wr) ∧ Aside0 (Below w1.heap.size w1 wr)) (fun _ i _ => 2 - (intOf i).toNat)
  case atStart => exact ⟨0, w1.heap.size, ⟨by omega⟩, rfl, rfl, HS0, HD0, HB0⟩
  case round =>
    clear HS0 HD0 HB0
    obtain ⟨k, s, HK, rfl, rfl, HS, HDV, HB⟩ := hrel
    by_cases hlt : k < 2
    · have q1 : decide ((k : Int) < 2) = true := decide_eq_true (by omega)
      have q2 : decide (k < 2) = true := decide_eq_true hlt
      have HLT := Aside0.mk hlt
      have HHF := Aside0.mk (half_calls d g L f nw k (by omega) _ HDV.out HL.out.1 HL.out.2)
      have HNX : Aside0 (bestP L (k + 1) = better (bestP L k) (halfP k (catL (halfB k L)))) := ⟨rfl⟩
      clear hlt
      go_wp2_with (fail)
      refine HHF.out.mono ?_
      rintro e w2 ⟨hb, hp⟩
      have HB2 := Aside0.mk (show Below w1.heap.size w1 w2 from below_then HB.out HB.out.size hb)
      have HD2 := Aside0.mk (HDV.out.below hb)
      have HS2 := Aside0.mk (HS.out.below hb)
      have hbz := HB.out.size
      clear hb HHF HS HDV HB
      generalize halfP k (catL (halfB k L)) = HP at *
      generalize hbp : bestP L k = bp at *
      have hw : wrap64 ((k : Int) + 1) = ((k + 1 : Nat) : Int) := by have := HLT.out; unfold wrap64; omega
      cases HP with
      | none =>
        obtain rfl : e = .returned (.pointer none) := hp
        clear hbz hw
        go_wp2_with (fail)
        refine start_ (n := 13) (S := fun w' => True) (ds := []) #[false, false, false, false, false, false, false, false, false, false, false, false, false] (by kernel_rfl) rfl rfl trivial (fun hHeld => ?_)
        refine pure_ (i := 0) (N := some 23) (v := ?_) (a' := ?_) #[true, false, false, false, false, false, false, false, false, false, false, false, false] rfl rfl (by kernel_rfl) (fun _ _ _ h => h) (Or.inl ⟨by rfl, ?_⟩) ?_ ?_
        rotate_left
        · intro w'
          go_simp
          with_reducible rfl
        rotate_left
        · simp only [Act.put, List.setIfInBounds_toArray, List.set_cons_zero, List.set_cons_succ, i64_w, i32_w]
          rfl
        refine pure_ (i := 1) (N := some 24) (v := ?_) (a' := ?_) #[true, true, false, false, false, false, false, false, false, false, false, false, false] rfl rfl (by kernel_rfl) (fun _ _ _ h => h) (Or.inl ⟨by rfl, ?_⟩) ?_ ?_
        rotate_left
        · intro w'
          go_simp
          with_reducible rfl
        rotate_left
        · simp only [Act.put, List.setIfInBounds_toArray, List.set_cons_zero, List.set_cons_succ, i64_w, i32_w]
          rfl
        refine pure_ (i := 2) (N := some 25) (v := ?_) (a' := ?_) #[true, true, true, false, false, false, false, false, false, false, false, false, false] rfl rfl (by kernel_rfl) (fun _ _ _ h => h) (Or.inl ⟨by rfl, ?_⟩) ?_ ?_
        rotate_left
        · intro w'
          go_simp
          with_reducible rfl
        rotate_left
        · simp only [Act.put, List.setIfInBounds_toArray, List.set_cons_zero, List.set_cons_succ, i64_w, i32_w]
          rfl
        refine pure_ (i := 3) (N := some 26) (v := undef) (a' := ?_) #[true, true, true, true, false, false, false, false, false, false, false, false, false] rfl rfl (by kernel_rfl) (fun _ _ _ h => h) (Or.inr ⟨by rfl, rfl⟩) ?_ ?_
        rotate_left
        · simp only [Act.put, List.setIfInBounds_toArray, List.set_cons_zero, List.set_cons_succ, i64_w, i32_w]
          rfl
        refine pure_ (i := 4) (N := some 27) (v := undef) (a' := ?_) #[true, true, true, true, true, false, false, false, false, false, false, false, false] rfl rfl (by kernel_rfl) (fun _ _ _ h => h) (Or.inr ⟨by rfl, rfl⟩) ?_ ?_
        rotate_left
        · simp only [Act.put, List.setIfInBounds_toArray, List.set_cons_zero, List.set_cons_succ, i64_w, i32_w]
          rfl
        refine pure_ (i := 5) (N := some 28) (v := undef) (a' := ?_) #[true, true, true, true, true, true, false, false, false, false, false, false, false] rfl rfl (by kernel_rfl) (fun _ _ _ h => h) (Or.inr ⟨by rfl, rfl⟩) ?_ ?_
        rotate_left
        · simp only [Act.put, List.setIfInBounds_toArray, List.set_cons_zero, List.set_cons_succ, i64_w, i32_w]
          rfl
        refine pure_ (i := 6) (N := some 29) (v := undef) (a' := ?_) #[true, true, true, true, true, true, true, false, false, false, false, false, false] rfl rfl (by kernel_rfl) (fun _ _ _ h => h) (Or.inr ⟨by rfl, rfl⟩) ?_ ?_
        rotate_left
        · simp only [Act.put, List.setIfInBounds_toArray, List.set_cons_zero, List.set_cons_succ, i64_w, i32_w]
          rfl
        refine pure_ (i := 7) (N := some 30) (v := undef) (a' := ?_) #[true, true, true, true, true, true, true, true, false, false, false, false, false] rfl rfl (by kernel_rfl) (fun _ _ _ h => h) (Or.inr ⟨by rfl, rfl⟩) ?_ ?_
        rotate_left
        · simp only [Act.put, List.setIfInBounds_toArray, List.set_cons_zero, List.set_cons_succ, i64_w, i32_w]
          rfl
        refine pure_ (i := 8) (N := some 31) (v := undef) (a' := ?_) #[true, true, true, true, true, true, true, true, true, false, false, false, false] rfl rfl (by kernel_rfl) (fun _ _ _ h => h) (Or.inr ⟨by rfl, rfl⟩) ?_ ?_
        rotate_left
        · simp only [Act.put, List.setIfInBounds_toArray, List.set_cons_zero, List.set_cons_succ, i64_w, i32_w]
          rfl
        refine pure_ (i := 9) (N := some 32) (v := undef) (a' := ?_) #[true, true, true, true, true, true, true, true, true, true, false, false, false] rfl rfl (by kernel_rfl) (fun _ _ _ h => h) (Or.inr ⟨by rfl, rfl⟩) ?_ ?_
        rotate_left
        · simp only [Act.put, List.setIfInBounds_toArray, List.set_cons_zero, List.set_cons_succ, i64_w, i32_w]
          rfl
        refine pure_ (i := 10) (N := some 33) (v := undef) (a' := ?_) #[true, true, true, true, true, true, true, true, true, true, true, false, false] rfl rfl (by kernel_rfl) (fun _ _ _ h => h) (Or.inr ⟨by rfl, rfl⟩) ?_ ?_
        rotate_left
        · simp only [Act.put, List.setIfInBounds_toArray, List.set_cons_zero, List.set_cons_succ, i64_w, i32_w]
          rfl
        refine pure_ (i := 11) (N := some 34) (v := undef) (a' := ?_) #[true, true, true, true, true, true, true, true, true, true, true, true, false] rfl rfl (by kernel_rfl) (fun _ _ _ h => h) (Or.inr ⟨by rfl, rfl⟩) ?_ ?_
        rotate_left
        · simp only [Act.put, List.setIfInBounds_toArray, List.set_cons_zero, List.set_cons_succ, i64_w, i32_w]
          rfl
        refine pure_ (i := 12) (N := some 35) (v := ?_) (a' := ?_) #[true, true, true, true, true, true, true, true, true, true, true, true, true] rfl rfl (by kernel_rfl) (fun _ _ _ h => h) (Or.inl ⟨by rfl, ?_⟩) ?_ ?_
        rotate_left
        · intro w'
          go_simp
          with_reducible rfl
        rotate_left
        · simp only [Act.put, List.setIfInBounds_toArray, List.set_cons_zero, List.set_cons_succ, i64_w, i32_w]
          rfl
        refine done_ (by kernel_rfl) ?_

        go_wp2_with (fail)
        refine ⟨⟨k + 1, s, ⟨by have := HLT.out; omega⟩, by have := HLT.out; rw [show wrap64 ((k : Int) + 1) = ((k + 1 : Nat) : Int) by unfold wrap64; omega], rfl, ⟨by rw [HNX.out]; exact HS2.out.below (below_drew1 (Below.refl _ _))⟩, ⟨HD2.out.below (below_drew1 (Below.refl _ _))⟩, ⟨below_drew1 HB2.out⟩⟩, by have := HLT.out; rw [show wrap64 ((k : Int) + 1) = ((k + 1 : Nat) : Int) by unfold wrap64; omega]; simp only [intOf, Int.toNat_natCast]; omega⟩
      | some q =>
        obtain ⟨t, b, l⟩ := q
        obtain ⟨s2, rfl, hs⟩ : ∃ s, e = .returned (.pointer (some ⟨s, 0, none⟩)) ∧ StoAt _ s d l (txt b) t w2 := hp
        have HSN := Aside0.mk (hs.lower hbz)
        have t1 := HSN.out.turn
        have t2 := HS2.out.turn
        by_cases hc : bp.1 < t
        · have d3 : decide (bp.1 < t) = true := decide_eq_true hc
          have HN2 : Aside0 (bestP L (k + 1) = (t, b, l)) := ⟨by rw [HNX.out]; exact if_pos hc⟩
          clear hc hbz hs hw HNX
          go_wp2_with (fail)
          go_region_held3 (fun w' => w'.cell? ⟨s2, 3, none⟩ = some (.int .i64 t) ∧ w'.cell? ⟨s, 3, none⟩ = some (.int .i64 bp.1)) (first | go_keep | exact ⟨t1, t2⟩) (fail)
          clear t1 t2
          go_wp2_with (fail)
          refine ⟨⟨k + 1, s2, ⟨by have := HLT.out; omega⟩, by have := HLT.out; rw [show wrap64 ((k : Int) + 1) = ((k + 1 : Nat) : Int) by unfold wrap64; omega], rfl, ⟨by rw [HN2.out]; exact HSN.out.below (below_drew1 (Below.refl _ _))⟩, ⟨HD2.out.below (below_drew1 (Below.refl _ _))⟩, ⟨below_drew1 HB2.out⟩⟩, by have := HLT.out; rw [show wrap64 ((k : Int) + 1) = ((k + 1 : Nat) : Int) by unfold wrap64; omega]; simp only [intOf, Int.toNat_natCast]; omega⟩
        · have d3 : decide (bp.1 < t) = false := decide_eq_false hc
          have HN2 : Aside0 (bestP L (k + 1) = bp) := ⟨by rw [HNX.out]; exact if_neg hc⟩
          clear hc hbz hs hw HNX
          go_wp2_with (fail)
          go_region_held3 (fun w' => w'.cell? ⟨s2, 3, none⟩ = some (.int .i64 t) ∧ w'.cell? ⟨s, 3, none⟩ = some (.int .i64 bp.1)) (first | go_keep | exact ⟨t1, t2⟩) (fail)
          clear t1 t2
          go_wp2_with (fail)
          refine ⟨⟨k + 1, s, ⟨by have := HLT.out; omega⟩, by have := HLT.out; rw [show wrap64 ((k : Int) + 1) = ((k + 1 : Nat) : Int) by unfold wrap64; omega], rfl, ⟨by rw [HN2.out]; exact HS2.out.below (below_drew1 (Below.refl _ _))⟩, ⟨HD2.out.below (below_drew1 (Below.refl _ _))⟩, ⟨below_drew1 HB2.out⟩⟩, by have := HLT.out; rw [show wrap64 ((k : Int) + 1) = ((k + 1 : Nat) : Int) by unfold wrap64; omega]; simp only [intOf, Int.toNat_natCast]; omega⟩
    · obtain rfl : k = 2 := by have := HK.out; omega
      have q1 : decide (((2 : Nat) : Int) < 2) = false := by decide
      clear hlt
      go_wp2_with (fail)
      go_ret2
      exact ⟨HB.out, s, rfl, HS.out⟩
end Go.Proofs.Ytbkbganflnemeaa.Pr
end

section
namespace Go.Proofs.Ytbkbganflnemeaa.Pr
open Go.RowKit Go.Deep Go.Maps Go.Proofs.YtbkbganflnemeaaW.PrintWords Go.Proofs.YtbkbganflnemeaaW.PrintLast Go.Proofs.YtbkbganflnemeaaW.PrintMore
set_option maxHeartbeats 4000000
set_option linter.unusedVariables false
set_option linter.unusedSimpArgs false
theorem StoV.cells {B s d : Nat} {v : Value} {l : List ByteArray} {b : ByteArray} {t : Int} {w : World} (h : StoV B s d v l b t w) :
    w.cell? ⟨s, 0, none⟩ = some (.pointer (some ⟨d, 0, none⟩)) ∧ w.cell? ⟨s, 1, none⟩ = some v ∧ w.cell? ⟨s, 2, none⟩ = some (.string b) ∧ w.cell? ⟨s, 3, none⟩ = some (.int .i64 t) := by
  refine ⟨?_, ?_, ?_, ?_⟩ <;> rw [cell_of_row _ _ _ _ _ _ h.2.1] <;> rfl
theorem given_some (B s d : Nat) (l : List ByteArray) (b : ByteArray) (t : Int) (w : World) (h : StoAt B s d l b t w) : Calls Try.prog 72 #[.pointer (some ⟨s, 0, none⟩)] w fun e w' => e = .returned (.bool true) ∧ w' = w := by
  obtain ⟨v, hv⟩ := h
  obtain ⟨c0, c1, c2, c3⟩ := hv.cells
  clear hv c1 c2 c3
  go_enter Try.func72, Try.ntmps72
  go_wp2_with (fail)
  go_ret
  exact ⟨rfl, rfl⟩
theorem Turn_sto (B s d : Nat) (l : List ByteArray) (b : ByteArray) (t : Int) (w : World) (h : StoAt B s d l b t w) : Calls Try.prog 38 #[.pointer (some ⟨s, 0, none⟩)] w fun e w' => e = .returned (.int .i64 t) ∧ w' = w := by
  have HG := Aside0.mk (given_some B s d l b t w h)
  have c3 := h.turn
  clear h
  go_enter Try.func38, Try.ntmps38
  go_wp2_with (fail)
  refine HG.out.mono ?_
  rintro e w' ⟨rfl, rfl⟩
  go_wp2_with (fail)
  go_ret
  exact ⟨rfl, rfl⟩
theorem Base_sto (B s d : Nat) (x : ByteArray) (l : List ByteArray) (b : ByteArray) (t : Int) (w : World) (h : StoAt B s d (x :: l) b t w) : Calls Try.prog 36 #[.pointer (some ⟨s, 0, none⟩)] w fun e w' => e = .returned (.string x) ∧ w' = w := by
  have HG := Aside0.mk (given_some B s d (x :: l) b t w h)
  obtain ⟨v, hv⟩ := h
  obtain ⟨c0, c1, c2, c3⟩ := hv.cells
  obtain ⟨A, c, hA, hr⟩ := own_reads_row hv.2.2 (R := fun (p : ByteArray) cs => cs = [.string p]) (ps := x :: l) (by
    generalize x :: l = q
    induction q with
    | nil => exact Reps.none _ _
    | cons a q ih => exact Reps.one rfl ih) rfl
  subst hA
  obtain ⟨ad, he, hz⟩ := hr.2.2 (by simp)
  subst he
  obtain ⟨cs, h1, rfl, h3⟩ := hz 0 x rfl
  have z0 : w.cell? ad = some (.string x) := h3 0 _ rfl
  have dl : (((x :: l).length : Int) == 0) = false := by rw [beq_eq_false_iff_ne, List.length_cons]; omega
  have dl2 : ((l.length : Int) + 1 == 0) = false := by rw [beq_eq_false_iff_ne]; omega
  have dl3 : (0 < l.length + 1) = True := eq_true (by omega)
  have dl4 : ((0 : Int) < (l.length : Int) + 1) = True := eq_true (by omega)
  clear hv hr hz h3 c0 c2 c3 h1
  go_enter Try.func36, Try.ntmps36
  go_wp2_with (fail)
  refine HG.out.mono ?_
  rintro e w' ⟨rfl, rfl⟩
  go_wp2_with (fail)
  go_ret
  exact ⟨rfl, rfl⟩
theorem Base_none (B s d : Nat) (b : ByteArray) (t : Int) (w : World) (h : StoAt B s d [] b t w) : Calls Try.prog 36 #[.pointer (some ⟨s, 0, none⟩)] w fun e w' => e = .returned (.string ⟨#[]⟩) ∧ w' = w := by
  have HG := Aside0.mk (given_some B s d [] b t w h)
  obtain ⟨v, hv⟩ := h
  obtain ⟨c0, c1, c2, c3⟩ := hv.cells
  obtain ⟨A, c, rfl⟩ := own_slice hv.2.2
  clear hv c0 c2 c3
  go_enter Try.func36, Try.ntmps36
  go_wp2_with (fail)
  refine HG.out.mono ?_
  rintro e w' ⟨rfl, rfl⟩
  go_wp2_with (fail)
  go_ret
  exact ⟨rfl, rfl⟩
end Go.Proofs.Ytbkbganflnemeaa.Pr
end

section
namespace Go.Proofs.Ytbkbganflnemeaa.Pr
open Go.RowKit Go.Deep Go.Maps Go.Proofs.YtbkbganflnemeaaW.PrintWords Go.Proofs.YtbkbganflnemeaaW.PrintLast Go.Proofs.YtbkbganflnemeaaW.PrintMore
set_option maxHeartbeats 4000000
set_option linter.unusedVariables false
set_option linter.unusedSimpArgs false
def runW : List (Nat × ByteArray) → List ByteArray → Int → List ByteArray × Int × Bool
  | [], L, f => (L, f, false)
  | (i, s) :: ps, L, f => if f = 0 then (L, -1, true) else runW ps (L.set i s) (if 0 < f then f - 1 else f)
def restW (a : Nat) (all hd : ByteArray) : Nat → Nat → List (Nat × ByteArray)
  | 0, _ => [(a, hd)]
  | m + 1, k => (a + 1 + k, all.extract (64 * k) (64 * k + 64)) :: restW a all hd m (k + 1)
def errW3 (r : List ByteArray × Int × Bool) : Int := if r.2.2 = true then 170 else 0
theorem DevAt.keep {d g q : Nat} {L : List ByteArray} {f nw : Int} {o : Bool} {w w' : World} {cs : Array Value} {t : TypeId} {z : Nat × Nat} (hD : DevAt d g L f o nw w) (hf : FrV d g w w') (h : w.heap[q]? = some (.cells cs t z)) (h1 : t ≠ 59) (h2 : t ≠ 106) : w'.heap[q]? = some (.cells cs t z) := by
  refine (hf.2.2.2.2 q (blk_lt h) (fun e => ?_) (fun e => ?_)).trans h
  · have hb := hD.box
    rw [← e, h] at hb
    injection hb with hb
    injection hb with _ h3 _
    exact h1 h3
  · have hb := hD.row
    rw [← e, h] at hb
    injection hb with hb
    injection hb with _ h3 _
    exact h2 h3
structure BoxW (gf ga gt gu gb : Nat) (from_ a : Nat) (all bytes : ByteArray) (turn : Int) (w : World) : Prop where
  xf : w.heap[gf]? = some (.cells #[.int .i64 (from_ : Int)] 3 (0, 0))
  xa : w.heap[ga]? = some (.cells #[.string all] 9 (0, 0))
  xt : w.heap[gt]? = some (.cells #[.int .i64 (a : Int)] 3 (0, 0))
  xu : w.heap[gu]? = some (.cells #[.int .i64 turn] 3 (0, 0))
  xb : w.heap[gb]? = some (.cells #[.string bytes] 9 (0, 0))
theorem BoxW.below {gf ga gt gu gb : Nat} {from_ a : Nat} {all bytes : ByteArray} {turn : Int} {w w' : World} (h : BoxW gf ga gt gu gb from_ a all bytes turn w) (hb : Below w.heap.size w w') : BoxW gf ga gt gu gb from_ a all bytes turn w' :=
  ⟨(hb.block _ (blk_lt h.xf)).trans h.xf, (hb.block _ (blk_lt h.xa)).trans h.xa, (hb.block _ (blk_lt h.xt)).trans h.xt, (hb.block _ (blk_lt h.xu)).trans h.xu, (hb.block _ (blk_lt h.xb)).trans h.xb⟩
theorem BoxW.keep {gf ga gt gu gb : Nat} {from_ a : Nat} {all bytes : ByteArray} {turn : Int} {d g : Nat} {L : List ByteArray} {f nw : Int} {o : Bool} {w w' : World} (h : BoxW gf ga gt gu gb from_ a all bytes turn w) (hD : DevAt d g L f o nw w) (hf : FrV d g w w') : BoxW gf ga gt gu gb from_ a all bytes turn w' :=
  ⟨hD.keep hf h.xf (by decide) (by decide), hD.keep hf h.xa (by decide) (by decide), hD.keep hf h.xt (by decide) (by decide), hD.keep hf h.xu (by decide) (by decide), hD.keep hf h.xb (by decide) (by decide)⟩
theorem BoxW.cells {gf ga gt gu gb : Nat} {from_ a : Nat} {all bytes : ByteArray} {turn : Int} {w : World} (h : BoxW gf ga gt gu gb from_ a all bytes turn w) :
    w.cell? ⟨gf, 0, none⟩ = some (.int .i64 (from_ : Int)) ∧ w.cell? ⟨ga, 0, none⟩ = some (.string all) ∧ w.cell? ⟨gt, 0, none⟩ = some (.int .i64 (a : Int)) ∧ w.cell? ⟨gu, 0, none⟩ = some (.int .i64 turn) ∧ w.cell? ⟨gb, 0, none⟩ = some (.string bytes) := by
  refine ⟨?_, ?_, ?_, ?_, ?_⟩
  · rw [cell_of_row _ _ _ _ _ _ h.xf]; rfl
  · rw [cell_of_row _ _ _ _ _ _ h.xa]; rfl
  · rw [cell_of_row _ _ _ _ _ _ h.xt]; rfl
  · rw [cell_of_row _ _ _ _ _ _ h.xu]; rfl
  · rw [cell_of_row _ _ _ _ _ _ h.xb]; rfl
theorem Write_any (d g : Nat) (L : List ByteArray) (f nw : Int) (k : Nat) (s : ByteArray) (w : World) (h : DevAt d g L f false nw w) (hk : k < L.length) (hs : s.size = 64) (hf : f ≤ 4611686018427387904) : Calls Try.prog 42 #[.pointer (some ⟨d, 0, none⟩), .int .i64 (k : Int), .string s] w fun e w' => e = .returned (.int .i64 (if f = 0 then 170 else 0)) ∧ (∃ nw', DevAt d g (if f = 0 then L else L.set k s) (if f = 0 then -1 else if 0 < f then f - 1 else f) (decide (f = 0)) nw' w') ∧ FrV d g w w' := by
  by_cases h0 : f = 0
  · refine (Write_cut d g L f nw false k s w h hk hs (.inr h0)).mono fun e w' q => ?_
    rw [if_pos h0, if_pos h0, if_pos h0, decide_eq_true h0]
    exact ⟨q.1, ⟨_, q.2.1⟩, q.2.2⟩
  · refine (Write_on d g L f nw k s w h hk hs h0).mono fun e w' q => ?_
    rw [if_neg h0, if_neg h0, if_neg h0, decide_eq_false h0]
    have e1 : (if 0 < f then wrap64 (f - 1) else f) = (if 0 < f then f - 1 else f) := by
      split
      · unfold wrap64; omega
      · rfl
    rw [e1] at q
    exact q
set_option maxRecDepth 100000 in
theorem each_calls (d g gf ga gt gu gb : Nat) (L : List ByteArray) (f nw : Int) (from_ a m : Nat) (all bytes : ByteArray) (turn : Int) (w : World) (hD : DevAt d g L f false nw w) (hX : BoxW gf ga gt gu gb from_ a all bytes turn w)
    (hm : all.size = 64 * (from_ + m)) (hr : a + 1 + from_ + m ≤ L.length) (hL : L.length ≤ 4096) (hT : timeB turn = true) (hb : bytes.size ≤ 1000000) (hf : f ≤ 4611686018427387904) :
    Calls Try.prog 113 #[.func (.func 42) #[.pointer (some ⟨d, 0, none⟩)] #[], .pointer (some ⟨gf, 0, none⟩), .pointer (some ⟨ga, 0, none⟩), .pointer (some ⟨gt, 0, none⟩), .pointer (some ⟨gu, 0, none⟩), .pointer (some ⟨gb, 0, none⟩)] w fun e w' =>
      e = .returned (.int .i64 (errW3 (runW (restW a all (headB turn bytes) m from_) L f))) ∧ (∃ nw', DevAt d g (runW (restW a all (headB turn bytes) m from_) L f).1 (runW (restW a all (headB turn bytes) m from_) L f).2.1 (runW (restW a all (headB turn bytes) m from_) L f).2.2 nw' w') ∧ FrV d g w w' := by
  have HD := Aside0.mk hD
  have HX := Aside0.mk hX
  have HP := Aside0.mk (show all.size = 64 * (from_ + m) ∧ a + 1 + from_ + m ≤ L.length ∧ L.length ≤ 4096 from ⟨hm, hr, hL⟩)
  have HHD := Aside0.mk (fun (W : World) => head_calls turn bytes hT hb W)
  have HF := Aside0.mk hf
  obtain ⟨x0, x1, x2, x3, x4⟩ := hX.cells
  clear hD hX hm hr hL hT hb hf
  have HHS := Aside0.mk (headB_size turn bytes)
  generalize headB turn bytes = HH at *
  go_enter Try.func113, Try.ntmps113
  go_wp2_with (fail)
  have HFR0 : Aside0 (FrV d g w w) := ⟨FrV.refl _ _ _⟩
  go_loopw [8] (fun i wr => ∃ (k m' : Nat) (Lk : List ByteArray) (fk nk : Int), Aside0 (k + m' = from_ + m) ∧ i = .int .i64 (k : Int) ∧ Aside0 (runW (restW a all HH m from_) L f = runW (restW a all HH m' k) Lk fk) ∧ Aside0 (DevAt d g Lk fk false nk wr) ∧ Aside0 (BoxW gf ga gt gu gb from_ a all bytes turn wr) ∧ Aside0 (FrV d g w wr) ∧ Aside0 (Lk.length = L.length) ∧ Aside0 (fk ≤ 4611686018427387904)) (fun i _ => from_ + m - (intOf i).toNat)
  case atStart => exact ⟨from_, m, L, f, nw, ⟨rfl⟩, rfl, ⟨rfl⟩, HD, HX, HFR0, ⟨rfl⟩, HF⟩
  case round =>
    clear HD HX HFR0 HF x0 x1 x2 x3 x4
    obtain ⟨k, m', Lk, fk, nk, HK, rfl, HRW, HDV, HBX, HFR, HLK, HFK⟩ := hrel
    obtain ⟨x0, x1, x2, x3, x4⟩ := HBX.out.cells
    have w64 : wrap64 (64 * (k : Int)) = 64 * (k : Int) := by have := HK.out; have := HP.out; unfold wrap64; omega
    cases m' with
    | zero =>
      have q1 : decide (64 * (k : Int) < (all.size : Int)) = false := decide_eq_false (by have := HK.out; have := HP.out; omega)
      have q2 : decide (64 * k < all.size) = false := decide_eq_false (by have := HK.out; have := HP.out; omega)
      have hw1 := fun (W : World) (hW : DevAt d g Lk fk false nk W) => Write_any d g Lk fk nk a HH W hW (by have := HLK.out; have := HP.out; omega) HHS.out HFK.out
      obtain ⟨rc, hrc⟩ : ∃ rc : Int, (if fk = 0 then (170 : Int) else 0) = rc := ⟨_, rfl⟩
      rw [hrc] at hw1
      have HRC := Aside0.mk hrc
      have HW1 := Aside0.mk hw1
      clear hw1 hrc
      have HDD := Aside0.mk (HDV.out.below (below_drew1 (Below.refl _ _)))
      have hrw : runW (restW a all HH 0 k) Lk fk = if fk = 0 then (Lk, -1, true) else (Lk.set a HH, (if 0 < fk then fk - 1 else fk), false) := rfl
      have HR2 := Aside0.mk (HRW.out.trans hrw)
      have HBD := Aside0.mk (below_drew1 (Below.refl wr.heap.size wr))
      clear hrw HRW x0
      go_wp2_with (fail)
      clear x1
      go_region_held3 (fun w' => w'.cell? ⟨gt, 0, none⟩ = some (.int .i64 (a : Int)) ∧ w'.cell? ⟨gu, 0, none⟩ = some (.int .i64 turn) ∧ w'.cell? ⟨gb, 0, none⟩ = some (.string bytes))
        (first | go_keep | exact ⟨x2, x3, x4⟩)
        (first
          | (go_at_call 107; (with_reducible refine (HHD.out _).mono ?_); rintro e2 w4 ⟨rfl, hb4⟩; have HB4 := Aside0.mk (below_step HBD.out hb4); have HX4 := Aside0.mk (HBX.out.below HB4.out); have HD4 := Aside0.mk (HDV.out.below HB4.out); clear hb4 x2 x3 x4; obtain ⟨x0, x1, x2, x3, x4⟩ := HX4.out.cells)
          | (go_at_call 42; (with_reducible refine (HW1.out _ HD4.out).mono ?_); rintro e2 w5 ⟨rfl, hd5, hf5⟩; have HD5 := Aside0.mk hd5; have HF5 := Aside0.mk (HFR.out.trans ((FrV.of_below HB4.out).trans hf5)); have HX5 := Aside0.mk (HX4.out.keep HD4.out hf5); clear hd5 hf5 x0 x1 x2 x3 x4; obtain ⟨x0, x1, x2, x3, x4⟩ := HX5.out.cells))
      go_wp2_with (fail)
      go_ret
      rw [HR2.out]
      refine ⟨?_, ?_, HF5.out⟩
      · rw [← HRC.out]
        unfold errW3
        by_cases h : fk = 0 <;> simp [h]
      · obtain ⟨nw', h⟩ := HD5.out
        refine ⟨nw', ?_⟩
        by_cases h0 : fk = 0 <;> simp [h0] at h ⊢ <;> exact h
    | succ m' =>
      have q1 : decide (64 * (k : Int) < (all.size : Int)) = true := decide_eq_true (by have := HK.out; have := HP.out; omega)
      have q2 : decide (64 * k < all.size) = true := decide_eq_true (by have := HK.out; have := HP.out; omega)
      have hsz : (all.extract (64 * k) (64 * k + 64)).size = 64 := by rw [ByteArray.size_extract]; have := HK.out; have := HP.out; omega
      have w1 : wrap64 ((a : Int) + 1) = (a : Int) + 1 := by have := HP.out; unfold wrap64; omega
      have w2 : wrap64 ((a : Int) + 1 + (k : Int)) = (a : Int) + 1 + (k : Int) := by have := HP.out; have := HK.out; unfold wrap64; omega
      have w3 : wrap64 (64 * (k : Int) + 64) = 64 * (k : Int) + 64 := by have := HP.out; have := HK.out; unfold wrap64; omega
      have v1 : IntKind.i64.wrap ((a : Int) + 1) = (a : Int) + 1 := by have := HP.out; rw [IntKind.wrap_i64]; omega
      have v2 : IntKind.i64.wrap ((a : Int) + 1 + (k : Int)) = (a : Int) + 1 + (k : Int) := by have := HP.out; have := HK.out; rw [IntKind.wrap_i64]; omega
      have v0 : IntKind.i64.wrap (64 * (k : Int)) = 64 * (k : Int) := by have := HP.out; have := HK.out; rw [IntKind.wrap_i64]; omega
      have v3 : IntKind.i64.wrap (64 * (k : Int) + 64) = 64 * (k : Int) + 64 := by have := HP.out; have := HK.out; rw [IntKind.wrap_i64]; omega
      have s1 := eq_true (show 64 * k + 64 ≤ all.size by have := HK.out; have := HP.out; omega)
      have s1i := eq_true (show 64 * (k : Int) + 64 ≤ (all.size : Int) by have := HK.out; have := HP.out; omega)
      have s2i := eq_true (show 64 * (k : Int) ≤ 64 * (k : Int) + 64 by omega)
      have s3i := eq_true (show (0 : Int) ≤ 64 * (k : Int) by omega)
      have t1 : (64 * (k : Int)).toNat = 64 * k := by omega
      have t2 : (64 * (k : Int) + 64).toNat = 64 * k + 64 := by omega
      have hw1 := fun (W : World) (hW : DevAt d g Lk fk false nk W) => Write_any d g Lk fk nk (a + 1 + k) (all.extract (64 * k) (64 * k + 64)) W hW (by have := HLK.out; have := HP.out; have := HK.out; omega) hsz HFK.out
      rw [show ((a + 1 + k : Nat) : Int) = (a : Int) + 1 + (k : Int) by omega] at hw1
      obtain ⟨rc, hrc⟩ : ∃ rc : Int, (if fk = 0 then (170 : Int) else 0) = rc := ⟨_, rfl⟩
      rw [hrc] at hw1
      have HRC := Aside0.mk hrc
      have HW1 := Aside0.mk hw1
      clear hw1 hrc
      have HDD := Aside0.mk (HDV.out.below (below_drew1 (Below.refl _ _)))
      go_wp2_with (fail)
      go_region_held3 (fun w' => w'.cell? ⟨ga, 0, none⟩ = some (.string all) ∧ w'.cell? ⟨gt, 0, none⟩ = some (.int .i64 (a : Int)))
        (first | go_keep | exact ⟨x1, x2⟩)
        (first
          | (go_at_call 42; (with_reducible refine (HW1.out _ HDD.out).mono ?_); rintro e2 w4 ⟨rfl, hd4, hf4⟩; have HD4 := Aside0.mk hd4; have HF4 := Aside0.mk (FrV.trans (FrV.of_below (below_drew1 (Below.refl _ _))) hf4 : FrV d g wr w4); have HX4 := Aside0.mk (HBX.out.keep HDV.out HF4.out); clear hd4 hf4 x0 x1 x2 x3 x4; obtain ⟨x0, x1, x2, x3, x4⟩ := HX4.out.cells))
      have hrw : runW (restW a all HH (m' + 1) k) Lk fk = if fk = 0 then (Lk, -1, true) else runW (restW a all HH m' (k + 1)) (Lk.set (a + 1 + k) (all.extract (64 * k) (64 * k + 64))) (if 0 < fk then fk - 1 else fk) := rfl
      have HR2 := Aside0.mk (HRW.out.trans hrw)
      clear hrw HRW w64 w1 w2 w3 v0 v1 v2 v3 s1 s1i s2i s3i t1 t2 q1 q2
      by_cases h0 : fk = 0
      · have hr0 : rc = 170 := by rw [← HRC.out, if_pos h0]
        have HR3 := Aside0.mk (HR2.out.trans (if_pos h0))
        have hd := HD4.out
        rw [if_pos h0, if_pos h0, decide_eq_true h0] at hd
        have HD5 := Aside0.mk hd
        subst hr0
        clear hd HR2
        go_wp2_with (fail)
        go_ret
        rw [HR3.out]
        exact ⟨rfl, HD5.out, HFR.out.trans HF4.out⟩
      · have hr0 : rc = 0 := by rw [← HRC.out, if_neg h0]
        have HR3 := Aside0.mk (HR2.out.trans (if_neg h0))
        have hd := HD4.out
        rw [if_neg h0, if_neg h0, decide_eq_false h0] at hd
        obtain ⟨nw', hd⟩ := hd
        have HD5 := Aside0.mk hd
        subst hr0
        clear hd HR2
        go_wp2_with (fail)
        have hw : wrap64 ((k : Int) + 1) = ((k + 1 : Nat) : Int) := by have := HP.out; have := HK.out; unfold wrap64; omega
        refine ⟨⟨k + 1, m', _, _, nw', ⟨by have := HK.out; omega⟩, by rw [hw], HR3, HD5, HX4, ⟨HFR.out.trans HF4.out⟩, ⟨by rw [List.length_set]; exact HLK.out⟩, ⟨by have := HFK.out; split <;> omega⟩⟩, by rw [hw]; have := HK.out; simp only [intOf, Int.toNat_natCast]; omega⟩
end Go.Proofs.Ytbkbganflnemeaa.Pr
end

section
namespace Go.Proofs.Ytbkbganflnemeaa.Pr
open Go.RowKit Go.Deep Go.Maps Go.Proofs.YtbkbganflnemeaaW.PrintWords Go.Proofs.YtbkbganflnemeaaW.PrintLast Go.Proofs.YtbkbganflnemeaaW.PrintMore
set_option maxHeartbeats 2000000
set_option linter.unusedVariables false
set_option linter.unusedSimpArgs false
theorem runW_on : ∀ (ps : List (Nat × ByteArray)) (L : List ByteArray), runW ps L (-1) = (ps.foldl (fun l p => l.set p.1 p.2) L, -1, false)
  | [], L => rfl
  | (i, s) :: ps, L => by
    rw [runW, if_neg (by decide), if_neg (by decide), runW_on ps]
    rfl
theorem fold_len (ps : List (Nat × ByteArray)) : ∀ (L : List ByteArray), (ps.foldl (fun l p => l.set p.1 p.2) L).length = L.length := by
  induction ps with
  | nil => intro L; rfl
  | cons p ps ih => intro L; rw [List.foldl_cons, ih, List.length_set]
theorem fold_out (ps : List (Nat × ByteArray)) : ∀ (L : List ByteArray) (k : Nat), (∀ p ∈ ps, p.1 ≠ k) → (ps.foldl (fun l p => l.set p.1 p.2) L)[k]? = L[k]? := by
  induction ps with
  | nil => intro L k _; rfl
  | cons p ps ih =>
    intro L k h
    rw [List.foldl_cons, ih _ k (fun q hq => h q (List.mem_cons_of_mem _ hq)), List.getElem?_set_ne (h p (List.mem_cons_self))]
theorem rest_mem (a : Nat) (all hd : ByteArray) : ∀ (m k : Nat) (p : Nat × ByteArray), p ∈ restW a all hd m k → p.1 = a ∨ (a + 1 + k ≤ p.1 ∧ p.1 < a + 1 + k + m)
  | 0, k, p, h => by
    rw [restW, List.mem_singleton] at h
    rw [h]
    exact .inl rfl
  | m + 1, k, p, h => by
    rw [restW, List.mem_cons] at h
    rcases h with h | h
    · rw [h]; right; simp only; omega
    · rcases rest_mem a all hd m (k + 1) p h with h | h
      · exact .inl h
      · right; omega
theorem rest_get (a : Nat) (all hd : ByteArray) : ∀ (m k : Nat) (L : List ByteArray), a + 1 + k + m ≤ L.length → ((restW a all hd m k).foldl (fun l p => l.set p.1 p.2) L)[a]? = some hd ∧ ∀ i, i < m → ((restW a all hd m k).foldl (fun l p => l.set p.1 p.2) L)[a + 1 + k + i]? = some (all.extract (64 * (k + i)) (64 * (k + i) + 64))
  | 0, k, L, h => by
    refine ⟨?_, fun i hi => absurd hi (by omega)⟩
    rw [restW, List.foldl_cons, List.foldl_nil, List.getElem?_set_self (by omega)]
  | m + 1, k, L, h => by
    obtain ⟨h1, h2⟩ := rest_get a all hd m (k + 1) (L.set (a + 1 + k) (all.extract (64 * k) (64 * k + 64))) (by rw [List.length_set]; omega)
    rw [restW, List.foldl_cons]
    refine ⟨h1, fun i hi => ?_⟩
    cases i with
    | zero =>
      have hz := fold_out (restW a all hd m (k + 1)) (L.set (a + 1 + k) (all.extract (64 * k) (64 * k + 64))) (a + 1 + k) (fun p hp => by rcases rest_mem a all hd m (k + 1) p hp with h | h <;> omega)
      have hl : a + 1 + k < L.length := by omega
      exact hz.trans (List.getElem?_set_self hl)
    | succ i =>
      have := h2 i (by omega)
      rw [show a + 1 + k + (i + 1) = a + 1 + (k + 1) + i by omega, this, show k + 1 + i = k + (i + 1) by omega]
end Go.Proofs.Ytbkbganflnemeaa.Pr
end

section
namespace Go.Proofs.Ytbkbganflnemeaa.Pr
open Go.RowKit Go.Deep Go.Maps Go.Proofs.YtbkbganflnemeaaW.PrintWords Go.Proofs.YtbkbganflnemeaaW.PrintLast Go.Proofs.YtbkbganflnemeaaW.PrintMore
set_option maxHeartbeats 2000000
set_option linter.unusedVariables false
set_option linter.unusedSimpArgs false
theorem downS_val (p : Nat) : ∀ (j m : Nat), j ≤ m → m ≤ 8 → p < 256 ^ m → valS ((downN (p : Int) m).take j) = p / 256 ^ (m - j)
  | 0, m, _, _, hp => by rw [List.take_zero, Nat.sub_zero, Nat.div_eq_of_lt hp]; rfl
  | j + 1, m, hj, hm, hp => by
    have ih := downS_val p j m (by omega) hm hp
    have hlen : ∀ (n : Nat), (downN (p : Int) n).length = n := by intro n; induction n with
      | zero => rfl
      | succ n ih => simp [downN, ih]
    have hget : ∀ (n i : Nat), i < n → (downN (p : Int) n)[i]? = some (p / 256 ^ (n - 1 - i) % 256) := by
      intro n
      induction n with
      | zero => intro i hi; omega
      | succ n ihn =>
        intro i hi
        cases i with
        | zero =>
          simp only [downN, List.getElem?_cons_zero, Option.some.injEq]
          rw [show (2 : Int) ^ (8 * n) = ((256 ^ n : Nat) : Int) by rw [Int.pow_mul]; simp]
          rw [show n + 1 - 1 - 0 = n by omega]
          omega
        | succ i =>
          simp only [downN, List.getElem?_cons_succ]
          rw [ihn i (by omega), show n + 1 - 1 - (i + 1) = n - 1 - i by omega]
    have hj2 : j < (downN (p : Int) m).length := by rw [hlen]; omega
    have hg := hget m j (by omega)
    rw [List.getElem?_eq_getElem hj2] at hg
    rw [List.take_succ_eq_append_getElem hj2, valS_snoc, ih, Option.some.inj hg]
    have e : m - j = (m - (j + 1)) + 1 := by omega
    rw [e, Nat.pow_succ, ← Nat.div_div_eq_div_mul, show m - 1 - j = m - (j + 1) by omega]
    omega
theorem valS_down (p m : Nat) (hm : m ≤ 8) (hp : p < 256 ^ m) : valS (downN (p : Int) m) = p := by
  have h := downS_val p m m (Nat.le_refl _) hm hp
  have hlen : ∀ (n : Nat), (downN (p : Int) n).length = n := by intro n; induction n with
    | zero => rfl
    | succ n ih => simp [downN, ih]
  rw [List.take_of_length_le (by rw [hlen]; exact Nat.le_refl _), Nat.sub_self, Nat.pow_zero, Nat.div_one] at h
  exact h
theorem numP_byN (t : Int) (R : List Nat) (h : timeB t = true) : numP (byN t 6 ++ R) = (t, R, 0) := by
  have hn := of_decide_eq_true h
  obtain ⟨p, rfl⟩ := Int.eq_ofNat_of_zero_le hn.1
  have hl : (byN (p : Int) 6).length = 6 := byN_length _ _ (by decide)
  have hv : valS (byN (p : Int) 6) = p := by rw [← (downN_byN _).2.2]; exact valS_down p 6 (by decide) (by omega)
  unfold numP
  rw [if_neg (by rw [List.length_append, hl]; omega), List.take_left' hl, List.drop_left' hl, hv, if_pos (by omega)]
theorem textP_txB (s : ByteArray) (R : List Nat) (h : s.size ≤ 32768) : textP (txB s ++ R) = some (s, R) := by
  have hl : (byN (s.size : Int) 2).length = 2 := byN_length _ _ (by decide)
  have hv : valS (byN (s.size : Int) 2) = s.size := by rw [← (downN_byN _).2.1]; exact valS_down s.size 2 (by decide) (by omega)
  unfold textP txB
  rw [List.append_assoc, if_neg (by rw [List.length_append, hl]; omega), List.take_left' hl, List.drop_left' hl, hv, if_neg (by omega), if_neg (by rw [List.length_append, bys_length]; omega), List.take_left' (bys_length s), List.drop_left' (bys_length s), txt_bys]
theorem txB_ne (s : ByteArray) (R : List Nat) : txB s ++ R ≠ [] := fun h => by
  have := congrArg List.length h
  rw [List.length_append, txB_length] at this
  simp at this
def txsB (l : List ByteArray) : List Nat := l.flatMap txB
theorem parseP_nil' (k : Nat) : parseP k [] = some [] := by cases k <;> rfl
theorem parse_txsB : ∀ (l : List ByteArray) (k : Nat), (∀ s ∈ l, s.size ≤ 32768) → l.length ≤ k → parseP k (txsB l) = some l
  | [], k, _, _ => parseP_nil' k
  | s :: l, k, h, hk => by
    obtain ⟨k, rfl⟩ : ∃ m, k = m + 1 := ⟨k - 1, by simp at hk; omega⟩
    have e : txsB (s :: l) = txB s ++ txsB l := by simp [txsB]
    rw [e, parseP, if_neg (txB_ne s _), textP_txB s _ (h s (List.mem_cons_self))]
    show (parseP k (txsB l)).map (s :: ·) = _
    rw [parse_txsB l k (fun x hx => h x (List.mem_cons_of_mem _ hx)) (by simpa using hk)]
    rfl
end Go.Proofs.Ytbkbganflnemeaa.Pr
end

section
namespace Go.Proofs.Ytbkbganflnemeaa.Pr
open Go.RowKit Go.Deep Go.Maps Go.Proofs.YtbkbganflnemeaaW.PrintWords Go.Proofs.YtbkbganflnemeaaW.PrintLast Go.Proofs.YtbkbganflnemeaaW.PrintMore
set_option maxHeartbeats 4000000
set_option linter.unusedVariables false
set_option linter.unusedSimpArgs false
def writesR (L : List ByteArray) (f turn : Int) (from_ : Nat) (bytes : ByteArray) : List ByteArray × Int × Bool :=
  runW (restW ((turn % 2).toNat * (L.length / 2)) (fillB bytes) (headB turn bytes) ((bytes.size + 63) / 64 - from_) from_) L f
set_option maxRecDepth 100000 in
theorem writes_calls (B s d g : Nat) (l : List ByteArray) (b : ByteArray) (t : Int) (L : List ByteArray) (f nw : Int) (turn : Int) (from_ : Nat) (bytes : ByteArray) (w : World) (hS : StoAt B s d l b t w) (hD : DevAt d g L f false nw w) (hL2 : 2 ≤ L.length) (hL : L.length ≤ 4096) (hT : 1 ≤ turn ∧ turn ≤ 1099511627775) (hb : bytes.size ≤ 262144) (hroom : (bytes.size + 63) / 64 < L.length / 2) (hfrom : from_ ≤ (bytes.size + 63) / 64) (hf : f ≤ 4611686018427387904) :
    Calls Try.prog 75 #[.pointer (some ⟨s, 0, none⟩), .int .i64 turn, .int .i64 (from_ : Int), .string bytes] w fun e w' => e = .returned (.int .i64 (errW3 (writesR L f turn from_ bytes))) ∧ (∃ nw', DevAt d g (writesR L f turn from_ bytes).1 (writesR L f turn from_ bytes).2.1 (writesR L f turn from_ bytes).2.2 nw' w') ∧ FrV d g w w' := by
  have hmf : ∀ (fn : Fn) (first cap : Array Value) (w : World), (Instr.makeFunc fn first cap).run Try.prog w = .ok (.func fn first cap) w := fun _ _ _ _ => rfl
  obtain ⟨v, hv⟩ := hS
  obtain ⟨c0, c1, c2, c3⟩ := hv.cells
  have HV := Aside0.mk hv
  have HD := Aside0.mk hD
  have HL := Aside0.mk (show 2 ≤ L.length ∧ L.length ≤ 4096 from ⟨hL2, hL⟩)
  have HFL := Aside0.mk (fun W => store_filled.calls bytes (fillB bytes) W (filled_f _ (by omega)))
  obtain ⟨H, hH⟩ : ∃ H, L.length / 2 = H := ⟨_, rfl⟩
  have e5 : ((L.length : Int) / 2) = (H : Int) := by omega
  have t2 : turn.tmod 2 = turn % 2 := Int.tmod_eq_emod_of_nonneg (by omega)
  have hH2 : 1 ≤ H ∧ H ≤ 2048 ∧ 2 * H ≤ L.length := by omega
  obtain ⟨aa, haa⟩ : ∃ aa, (turn % 2).toNat * H = aa := ⟨_, rfl⟩
  have h01 : turn % 2 = 0 ∨ turn % 2 = 1 := by omega
  have haH : aa ≤ H := by rw [← haa]; rcases h01 with h | h <;> rw [h] <;> simp
  have y1 : IntKind.i64.wrap (H : Int) = (H : Int) := by rw [IntKind.wrap_i64]; omega
  have y2 : IntKind.i64.wrap (turn % 2 * (H : Int)) = (aa : Int) := by rw [IntKind.wrap_i64, ← haa]; rcases h01 with h | h <;> rw [h] <;> simp <;> omega
  have HWR : Aside0 (writesR L f turn from_ bytes = runW (restW aa (fillB bytes) (headB turn bytes) ((bytes.size + 63) / 64 - from_) from_) L f) := ⟨by unfold writesR; rw [hH, haa]⟩
  have HE := Aside0.mk (fun (gf ga gt gu gb : Nat) (nw : Int) (W : World) (hD : DevAt d g L f false nw W) (hX : BoxW gf ga gt gu gb from_ aa (fillB bytes) bytes turn W) => each_calls d g gf ga gt gu gb L f nw from_ aa ((bytes.size + 63) / 64 - from_) (fillB bytes) bytes turn W hD hX (by rw [fillB_size]; omega) (by omega) hL (by unfold timeB; rw [decide_eq_true]; omega) (by omega) hf)
  clear hv hD hL2 hL hT hb hH c1 c2 c3 haa h01 haH hH2 hroom hfrom hf
  go_enter Try.func75, Try.ntmps75
  go_wp2_with (fail)
  have HBX := Aside0.mk (below_alloc (below_alloc (below_alloc (Below.refl w.heap.size w) (.cells #[.int .i64 turn] 3)) (.cells #[.int .i64 (from_ : Int)] 3)) (.cells #[.string bytes] 9))
  have HV3 := Aside0.mk (HV.out.below HBX.out)
  have HD3 := Aside0.mk (HD.out.below HBX.out)
  have hn3 : (((w.alloc (.cells #[.int .i64 turn] 3)).alloc (.cells #[.int .i64 (from_ : Int)] 3)).alloc (.cells #[.string bytes] 9)).heap.size = w.heap.size + 3 := by simp
  have hu3 : (((w.alloc (.cells #[.int .i64 turn] 3)).alloc (.cells #[.int .i64 (from_ : Int)] 3)).alloc (.cells #[.string bytes] 9)).heap[w.heap.size]? = some (.cells #[.int .i64 turn] 3 (0, 0)) := blk_alloc (blk_alloc (blk_new _ _) _) _
  have hf3 : (((w.alloc (.cells #[.int .i64 turn] 3)).alloc (.cells #[.int .i64 (from_ : Int)] 3)).alloc (.cells #[.string bytes] 9)).heap[w.heap.size + 1]? = some (.cells #[.int .i64 (from_ : Int)] 3 (0, 0)) := blk_alloc (stoNew_at (by simp) _) _
  have hb3 : (((w.alloc (.cells #[.int .i64 turn] 3)).alloc (.cells #[.int .i64 (from_ : Int)] 3)).alloc (.cells #[.string bytes] 9)).heap[w.heap.size + 1 + 1]? = some (.cells #[.string bytes] 9 (0, 0)) := stoNew_at (by simp) _
  generalize ((w.alloc (.cells #[.int .i64 turn] 3)).alloc (.cells #[.int .i64 (from_ : Int)] 3)).alloc (.cells #[.string bytes] 9) = w3 at *
  obtain ⟨c0, c1, c2, c3⟩ := HV3.out.cells
  have u0 : w3.cell? ⟨w.heap.size, 0, none⟩ = some (.int .i64 turn) := by rw [cell_of_row _ _ _ _ _ _ hu3]; rfl
  have HSZ := Aside0.mk (fun (W : World) (hW : DevAt d g L f false nw W) => Size_dev d g L f nw false W hW)
  have HD3D := Aside0.mk (HD3.out.below (below_drew1 (Below.refl _ _)))
  clear c1 c2 c3
  go_region_held3 (fun w' => w'.cell? ⟨w.heap.size, 0, none⟩ = some (.int .i64 turn) ∧ w'.cell? ⟨s, 0, none⟩ = some (.pointer (some ⟨d, 0, none⟩)))
    (first | go_keep | exact ⟨u0, c0⟩)
    (first
      | (go_at_call 69; (with_reducible refine (HSZ.out _ (by first | exact HD3D.out | exact HD3.out | exact HD3D.out.below (below_alloc (Below.refl _ _) _) | exact HD3.out.below (below_alloc (Below.refl _ _) _))).mono ?_); rintro e2 w4 ⟨rfl, rfl⟩))
  clear u0 c0 t2 e5 HD3D
  all_goals
    have HB4 := Aside0.mk (below_drew1 (below_alloc (Below.refl w3.heap.size w3) (.cells #[.int .i64 (aa : Int)] 3)))
    have HT4 : Aside0 ((w3.alloc (.cells #[.int .i64 (aa : Int)] 3)).drew.heap[w.heap.size + 3]? = some (.cells #[.int .i64 (aa : Int)] 3 (0, 0))) := ⟨stoNew_at hn3 _⟩
    generalize (w3.alloc (.cells #[.int .i64 (aa : Int)] 3)).drew = w4 at *
    have hu4 := (HB4.out.block _ (blk_lt hu3)).trans hu3
    have hf4 := (HB4.out.block _ (blk_lt hf3)).trans hf3
    have hb4 := (HB4.out.block _ (blk_lt hb3)).trans hb3
    have HV4 := Aside0.mk (HV3.out.below HB4.out)
    have HD4 := Aside0.mk (HD3.out.below HB4.out)
    have HW4 := Aside0.mk (show Below w.heap.size w w4 from below_then HBX.out HBX.out.size HB4.out)
    have b0 : w4.cell? ⟨w.heap.size + 1 + 1, 0, none⟩ = some (.string bytes) := by rw [cell_of_row _ _ _ _ _ _ hb4]; rfl
    have HU := Aside0.mk hu4
    have HF := Aside0.mk hf4
    have HBB := Aside0.mk hb4
    clear hu3 hf3 hb3 HV3 HD3 hu4 hf4 hb4 hn3 HB4
    go_wp2_with (fail)
    refine (HFL.out _).mono ?_
    rintro e w5 ⟨rfl, hb5⟩
    have HV5 := Aside0.mk (HV4.out.below hb5)
    have HD5 := Aside0.mk (HD4.out.below hb5)
    have HW5 := Aside0.mk (show Below w.heap.size w w5 from below_then HW4.out HW4.out.size hb5)
    have HU5 := Aside0.mk ((hb5.block _ (blk_lt HU.out)).trans HU.out)
    have HF5 := Aside0.mk ((hb5.block _ (blk_lt HF.out)).trans HF.out)
    have HB5 := Aside0.mk ((hb5.block _ (blk_lt HBB.out)).trans HBB.out)
    have HT5 := Aside0.mk ((hb5.block _ (blk_lt HT4.out)).trans HT4.out)
    clear hb5 b0 HV4 HD4 HW4 HU HF HBB HT4
    have HB6 := Aside0.mk (below_alloc (Below.refl w5.heap.size w5) (.cells #[.string (fillB bytes)] 9))
    have HX6 : Aside0 (BoxW (w.heap.size + 1) w5.heap.size (w.heap.size + 3) w.heap.size (w.heap.size + 1 + 1) from_ aa (fillB bytes) bytes turn (w5.alloc (.cells #[.string (fillB bytes)] 9))) := ⟨⟨blk_alloc HF5.out _, blk_new _ _, blk_alloc HT5.out _, blk_alloc HU5.out _, blk_alloc HB5.out _⟩⟩
    have HD6 := Aside0.mk (HD5.out.below HB6.out)
    have HV6 := Aside0.mk (HV5.out.below HB6.out)
    have HW6 := Aside0.mk (below_alloc HW5.out (.cells #[.string (fillB bytes)] 9))
    obtain ⟨c0, c1, c2, c3⟩ := HV6.out.cells
    clear c1 c2 c3 HB6 HV5 HD5 HW5 HU5 HF5 HB5 HT5
    go_wp2_with (fail)
    refine (HE.out _ _ _ _ _ _ _ HD6.out HX6.out).mono ?_
    rintro e w7 ⟨rfl, hd7, hf7⟩
    have HD7 := Aside0.mk hd7
    have HF7 := Aside0.mk (show FrV d g w w7 from (FrV.of_below HW6.out).trans hf7)
    clear hd7 hf7 HD6 HV6 HX6 HE c0
    rw [← HWR.out] at HD7 ⊢
    generalize hr : writesR L f turn from_ bytes = r at *
    have hrr : ∃ z, errW3 r = z := ⟨_, rfl⟩
    obtain ⟨z, hz⟩ := hrr
    rw [hz]
    have HRR := Aside0.mk hr
    have HZ := Aside0.mk hz
    clear hr hz
    go_wp2_with (fail)
    go_ret
    rw [HRR.out, HZ.out]
    exact ⟨rfl, HD7.out, HF7.out⟩
end Go.Proofs.Ytbkbganflnemeaa.Pr
end

section
namespace Go.Proofs.Ytbkbganflnemeaa.Pr
open Go.RowKit Go.Deep Go.Maps Go.Proofs.YtbkbganflnemeaaW.PrintWords Go.Proofs.YtbkbganflnemeaaW.PrintLast Go.Proofs.YtbkbganflnemeaaW.PrintMore
set_option maxHeartbeats 2000000
set_option linter.unusedVariables false
set_option linter.unusedSimpArgs false
theorem cat_blocks (s : ByteArray) : ∀ (m k : Nat), s.size = 64 * (k + m) → catL ((List.range' k m).map fun i => s.extract (64 * i) (64 * i + 64)) = (bys s).drop (64 * k)
  | 0, k, h => by
    rw [List.range'_zero, List.map_nil, List.drop_eq_nil_of_le (by rw [bys_length]; omega)]
    rfl
  | m + 1, k, h => by
    rw [List.range'_succ, List.map_cons, catL, List.flatMap_cons, ← catL, cat_blocks s m (k + 1) (by omega), bys_extract, show 64 * k + 64 - 64 * k = 64 by omega, show 64 * (k + 1) = 64 * k + 64 by omega, ← List.drop_drop]
    exact List.take_append_drop 64 _
theorem bys_fillB (s : ByteArray) : bys (fillB s) = bys s ++ List.replicate ((64 - s.size % 64) % 64) 0 := by
  rw [fillB, bys_append, bys_txt (fun x hx => by rw [(List.mem_replicate.1 hx).2]; decide)]
theorem halfP_of (which : Nat) (turn : Int) (bytes : ByteArray) (l : List ByteArray) (rest : List Nat) (hT : timeB turn = true) (h1 : 1 ≤ turn) (hw : turn % 2 = (which : Int)) (hb : bytes = txt (txsB l)) (hl : ∀ s ∈ l, s.size ≤ 32768) (hne : l ≠ []) (hz : bytes.size ≤ 1000000) :
    halfP which (bys (headB turn bytes) ++ (bys (fillB bytes) ++ rest)) = some (turn, bys bytes, l) := by
  have hhl : (bys (headB turn bytes)).length = 64 := by rw [bys_length, headB_size]
  have hL : (txsB l).length = bytes.size := by rw [hb, txt_size]
  have hbl : bys bytes = txsB l := by
    rw [hb]
    refine bys_txt (fun x hx => ?_)
    obtain ⟨y, _, hy⟩ := List.mem_flatMap.1 hx
    rcases List.mem_append.1 hy with h | h
    · exact byN_lt _ _ x h
    · exact bys_lt' y x h
  have hTB : timeB (bytes.size : Int) = true := by unfold timeB; rw [decide_eq_true]; omega
  have hhd : bys (headB turn bytes) = byN turn 6 ++ (byN (bytes.size : Int) 6 ++ (bys ((sumT bytes).extract 0 8) ++ List.replicate ((64 - (txt (byN turn 6 ++ byN (bytes.size : Int) 6) ++ (sumT bytes).extract 0 8).size % 64) % 64) 0)) := by
    rw [headB, bys_fillB, bys_append, bys_txt (fun x hx => by rcases List.mem_append.1 hx with h | h <;> exact byN_lt _ _ x h)]
    simp only [List.append_assoc]
  have e1 : (bys (headB turn bytes) ++ (bys (fillB bytes) ++ rest)).take 64 = bys (headB turn bytes) := List.take_left' hhl
  have e2 : (bys (headB turn bytes) ++ (bys (fillB bytes) ++ rest)).drop 64 = bys (fillB bytes) ++ rest := List.drop_left' hhl
  have e3 : (bys (fillB bytes) ++ rest).take bytes.size = bys bytes := by
    rw [bys_fillB, List.append_assoc]
    exact List.take_left' (bys_length bytes)
  have n1 : numP (bys (headB turn bytes)) = (turn, byN (bytes.size : Int) 6 ++ (bys ((sumT bytes).extract 0 8) ++ List.replicate ((64 - (txt (byN turn 6 ++ byN (bytes.size : Int) 6) ++ (sumT bytes).extract 0 8).size % 64) % 64) 0), 0) := by
    rw [hhd]
    exact numP_byN turn _ hT
  unfold halfP
  rw [e1, e2, n1]
  simp only [if_true]
  rw [numP_byN _ _ hTB]
  simp only [Int.toNat_natCast]
  rw [e3, txt_bys, txt_bys]
  have hlen : (bys (headB turn bytes) ++ (bys (fillB bytes) ++ rest)).length = 64 + ((bys (fillB bytes)).length + rest.length) := by rw [List.length_append, List.length_append, hhl]
  have hfl : bytes.size ≤ (bys (fillB bytes)).length := by rw [bys_length, fillB_size]; omega
  have hln : l.length ≤ (txsB l).length := by
    clear hne hL hbl hb hl e1 e2 e3 n1 hhd
    induction l with
    | nil => simp [txsB]
    | cons a l ih =>
      have e : txsB (a :: l) = txB a ++ txsB l := by simp [txsB]
      rw [e, List.length_append, txB_length, List.length_cons]
      omega
  rw [if_neg (by rintro (h | h | h) <;> omega), if_neg (by simp), hbl, parse_txsB l _ hl (by rw [hlen]; omega)]
  cases l with
  | nil => exact absurd rfl hne
  | cons s l => rfl
end Go.Proofs.Ytbkbganflnemeaa.Pr
end

section
namespace Go.Proofs.Ytbkbganflnemeaa.Pr
open Go.RowKit Go.Deep Go.Maps Go.Proofs.YtbkbganflnemeaaW.PrintWords Go.Proofs.YtbkbganflnemeaaW.PrintLast Go.Proofs.YtbkbganflnemeaaW.PrintMore
set_option maxHeartbeats 2000000
set_option linter.unusedVariables false
set_option linter.unusedSimpArgs false
theorem catL_append (a b : List ByteArray) : catL (a ++ b) = catL a ++ catL b := by simp [catL]
theorem cat_half (X : List ByteArray) (hd all : ByteArray) (m : Nat) (h0 : X[0]? = some hd) (hm : ∀ i, i < m → X[1 + i]? = some (all.extract (64 * i) (64 * i + 64))) (hl : 1 + m ≤ X.length) (hs : all.size = 64 * m) :
    catL X = bys hd ++ (bys all ++ catL (X.drop (1 + m))) := by
  have e : X.take (1 + m) = hd :: (List.range' 0 m).map fun i => all.extract (64 * i) (64 * i + 64) := by
    apply List.ext_getElem?
    intro j
    cases j with
    | zero =>
      rw [List.getElem?_take, if_pos (by omega), h0]
      rfl
    | succ j =>
      rw [List.getElem?_take, List.getElem?_cons_succ, List.getElem?_map]
      by_cases hj : j < m
      · rw [if_pos (by omega), show j + 1 = 1 + j by omega, hm j hj, List.getElem?_range' hj]
        simp
      · rw [if_neg (by omega), List.getElem?_eq_none (by rw [List.length_range']; omega)]
        rfl
  have h := cat_blocks all m 0 (by omega)
  rw [Nat.mul_zero, List.drop_zero] at h
  conv => lhs; rw [← List.take_append_drop (1 + m) X, catL_append, e, catL, List.flatMap_cons, ← catL, h, List.append_assoc]
theorem half_written (L : List ByteArray) (turn : Int) (from_ : Nat) (bytes : ByteArray) (l : List ByteArray) (which : Nat) (hT : timeB turn = true) (h1 : 1 ≤ turn) (hw : turn % 2 = (which : Int)) (hb : bytes = txt (txsB l)) (hl : ∀ s ∈ l, s.size ≤ 32768) (hne : l ≠ []) (hz : bytes.size ≤ 1000000)
    (hroom : (bytes.size + 63) / 64 < L.length / 2) (hfrom : from_ ≤ (bytes.size + 63) / 64) (hpre : ∀ i, i < from_ → L[which * (L.length / 2) + 1 + i]? = some ((fillB bytes).extract (64 * i) (64 * i + 64))) :
    (writesR L (-1) turn from_ bytes).2 = (-1, false) ∧ (writesR L (-1) turn from_ bytes).1.length = L.length ∧ halfP which (catL (halfB which (writesR L (-1) turn from_ bytes).1)) = some (turn, bys bytes, l) ∧ halfB (1 - which) (writesR L (-1) turn from_ bytes).1 = halfB (1 - which) L ∧
    (∀ i, i < (bytes.size + 63) / 64 → (writesR L (-1) turn from_ bytes).1[which * (L.length / 2) + 1 + i]? = some ((fillB bytes).extract (64 * i) (64 * i + 64))) ∧ (∀ x ∈ (writesR L (-1) turn from_ bytes).1, x ∈ L ∨ x.size = 64) := by
  have hwh : (turn % 2).toNat = which := by omega
  have hw1 : which = 0 ∨ which = 1 := by omega
  obtain ⟨H, hH⟩ : ∃ H, L.length / 2 = H := ⟨_, rfl⟩
  obtain ⟨m, hm⟩ : ∃ m, (bytes.size + 63) / 64 = from_ + m := ⟨(bytes.size + 63) / 64 - from_, by omega⟩
  have hfz : (fillB bytes).size = 64 * (from_ + m) := by rw [fillB_size]; omega
  have eW : writesR L (-1) turn from_ bytes = runW (restW (which * H) (fillB bytes) (headB turn bytes) m from_) L (-1) := by
    unfold writesR
    rw [hwh, hH, hm, Nat.add_sub_cancel_left]
  rw [eW, runW_on]
  rw [hH] at hroom hpre
  have hwH : which * H ≤ H := by rcases hw1 with h | h <;> rw [h] <;> simp
  have hLH : 2 * H ≤ L.length := by omega
  have hlen := fold_len (restW (which * H) (fillB bytes) (headB turn bytes) m from_) L
  obtain ⟨g1, g2⟩ := rest_get (which * H) (fillB bytes) (headB turn bytes) m from_ L (by omega)
  have gout := fold_out (restW (which * H) (fillB bytes) (headB turn bytes) m from_) L
  have gmem := rest_mem (which * H) (fillB bytes) (headB turn bytes) m from_
  have gall : ∀ i, i < from_ + m → ((restW (which * H) (fillB bytes) (headB turn bytes) m from_).foldl (fun l p => l.set p.1 p.2) L)[which * H + 1 + i]? = some ((fillB bytes).extract (64 * i) (64 * i + 64)) := fun i hi => by
    by_cases hf : i < from_
    · rw [gout _ (fun p hp => by rcases gmem p hp with h | h <;> omega)]
      exact hpre i hf
    · have := g2 (i - from_) (by omega)
      rw [show which * H + 1 + from_ + (i - from_) = which * H + 1 + i by omega, show from_ + (i - from_) = i by omega] at this
      exact this
  refine ⟨rfl, hlen, ?_, ?_, fun i hi => by rw [hH]; exact gall i (by omega), fun x hx => ?_⟩
  · simp only
    generalize (restW (which * H) (fillB bytes) (headB turn bytes) m from_).foldl (fun l p => l.set p.1 p.2) L = L2 at *
    have hget : ∀ i, i < H → (halfB which L2)[i]? = L2[which * H + i]? := fun i hi => by
      unfold halfB
      rw [hlen, hH, List.getElem?_take, if_pos hi, List.getElem?_drop]
    have hXl : (halfB which L2).length = H := by
      unfold halfB
      rw [hlen, hH, List.length_take, List.length_drop, hlen]
      omega
    rw [cat_half (halfB which L2) (headB turn bytes) (fillB bytes) (from_ + m) (by rw [hget 0 (by omega), Nat.add_zero]; exact g1) (fun i hi => by
      rw [hget (1 + i) (by omega), ← Nat.add_assoc]
      by_cases hf : i < from_
      · rw [gout _ (fun p hp => by rcases gmem p hp with h | h <;> omega)]
        exact hpre i hf
      · have := g2 (i - from_) (by omega)
        rw [show which * H + 1 + from_ + (i - from_) = which * H + 1 + i by omega, show from_ + (i - from_) = i by omega] at this
        exact this) (by rw [hXl]; omega) hfz]
    exact halfP_of which turn bytes l _ hT h1 hw hb hl hne hz
  · simp only
    unfold halfB
    rw [hlen, hH]
    apply List.ext_getElem?
    intro j
    rw [List.getElem?_take, List.getElem?_take]
    by_cases hj : j < H
    · rw [if_pos hj, if_pos hj, List.getElem?_drop, List.getElem?_drop]
      refine gout _ (fun p hp => ?_)
      rcases hw1 with h | h
      · subst h
        simp only [Nat.sub_zero, Nat.one_mul, Nat.zero_mul] at *
        rcases gmem p hp with h | h <;> omega
      · subst h
        simp only [Nat.sub_self, Nat.one_mul, Nat.zero_mul] at *
        rcases gmem p hp with h | h <;> omega
    · rw [if_neg hj, if_neg hj]
  · have hst : ∀ (ps : List (Nat × ByteArray)) (L : List ByteArray), (∀ p ∈ ps, p.2.size = 64) → ∀ x ∈ ps.foldl (fun l p => l.set p.1 p.2) L, x ∈ L ∨ x.size = 64 := by
      intro ps
      induction ps with
      | nil => intro L _ x hx; exact .inl hx
      | cons p ps ih =>
        intro L hp x hx
        rcases ih (L.set p.1 p.2) (fun q hq => hp q (List.mem_cons_of_mem _ hq)) x hx with h | h
        · rcases List.mem_or_eq_of_mem_set h with h | h
          · exact .inl h
          · rw [h]; exact .inr (hp p (List.mem_cons_self))
        · exact .inr h
    have hrs : ∀ (m k : Nat), (fillB bytes).size = 64 * (k + m) → ∀ p ∈ restW (which * H) (fillB bytes) (headB turn bytes) m k, p.2.size = 64 := by
      intro m
      induction m with
      | zero => intro k _ p hp; rw [restW, List.mem_singleton] at hp; rw [hp]; exact headB_size _ _
      | succ m ih =>
        intro k hk p hp
        rw [restW, List.mem_cons] at hp
        rcases hp with h | h
        · rw [h]; simp only; rw [ByteArray.size_extract]; omega
        · exact ih (k + 1) (by omega) p h
    exact hst _ L (hrs m from_ hfz) x hx
end Go.Proofs.Ytbkbganflnemeaa.Pr
end

section
namespace Go.Proofs.Ytbkbganflnemeaa.Pr
open Go.RowKit Go.Deep Go.Maps Go.Proofs.YtbkbganflnemeaaW.PrintWords Go.Proofs.YtbkbganflnemeaaW.PrintLast Go.Proofs.YtbkbganflnemeaaW.PrintMore
set_option maxHeartbeats 2000000
set_option linter.unusedVariables false
set_option linter.unusedSimpArgs false
theorem halfP_inv {which : Nat} {all : List Nat} {t : Int} {b : List Nat} {l : List ByteArray} (h : halfP which all = some (t, b, l)) :
    1 ≤ t ∧ t ≤ 1099511627775 ∧ t % 2 = (which : Int) ∧ b = (all.drop 64).take b.length ∧ b.length + 64 ≤ all.length ∧ l ≠ [] ∧ parseP all.length b = some l ∧ headB t (txt b) = txt (all.take 64) := by
  have hr := numP_rng (all.take 64)
  unfold halfP at h
  simp only at h
  have hn0 : 0 ≤ (if (numP (all.take 64)).2.2 = 0 then (numP (numP (all.take 64)).2.1).1 else 0) := by
    split
    · exact (numP_rng _).1
    · exact Int.le_refl 0
  generalize hnn : (if (numP (all.take 64)).2.2 = 0 then (numP (numP (all.take 64)).2.1).1 else 0) = n at h hn0
  split at h
  · cases h
  rename_i h1
  split at h
  · cases h
  rename_i h2
  have h2 := Classical.not_not.1 h2
  split at h
  · cases h
  · cases h
  rename_i s l' h3
  simp only [Option.some.injEq, Prod.mk.injEq] at h
  obtain ⟨rfl, rfl, rfl⟩ := h
  have hle : n ≤ ((all.length - 64 : Nat) : Int) := by omega
  have hlen : ((all.drop 64).take n.toNat).length = n.toNat := by rw [List.length_take, List.length_drop]; omega
  refine ⟨by omega, hr.2, by omega, by rw [hlen], ?_, by simp, h3, h2⟩
  rw [hlen]
  have hge : 64 ≤ all.length := by
    rcases Nat.lt_or_ge all.length 64 with hlt | hge
    · exfalso
      have hz := congrArg ByteArray.size h2
      rw [headB_size, txt_size, List.length_take] at hz
      omega
    · exact hge
  omega
theorem best_two (L : List ByteArray) : bestP L 2 = better (better (0, [], []) (halfP 0 (catL (halfB 0 L)))) (halfP 1 (catL (halfB 1 L))) := rfl
theorem halfP_turn {which : Nat} {all : List Nat} {q : StoR} (h : halfP which all = some q) : 1 ≤ q.1 ∧ q.1 % 2 = (which : Int) := by
  obtain ⟨t, b, l⟩ := q
  have := halfP_inv h
  exact ⟨this.1, this.2.2.1⟩
theorem better_none (b : StoR) : better b none = b := rfl
theorem better_lt {b q : StoR} (h : b.1 < q.1) : better b (some q) = q := if_pos h
theorem better_ge {b q : StoR} (h : ¬ b.1 < q.1) : better b (some q) = b := if_neg h
theorem better_zero {q : StoR} (h : 1 ≤ q.1) : better (0, [], []) (some q) = q := if_pos (show (0 : Int) < q.1 by omega)
theorem better_first {b : StoR} {o : Option StoR} : b.1 ≤ (better b o).1 ∧ ∀ q, o = some q → q.1 ≤ (better b o).1 := by
  cases o with
  | none => exact ⟨Int.le_refl _, fun q h => by cases h⟩
  | some r =>
    by_cases h : b.1 < r.1
    · rw [better_lt h]
      exact ⟨Int.le_of_lt h, fun q hq => by cases hq; exact Int.le_refl _⟩
    · rw [better_ge h]
      exact ⟨Int.le_refl _, fun q hq => by cases hq; omega⟩
theorem best_le (L : List ByteArray) (which : Nat) (hw : which ≤ 1) (q : StoR) (h : halfP which (catL (halfB which L)) = some q) : q.1 ≤ (bestP L 2).1 := by
  rw [best_two]
  rcases (show which = 0 ∨ which = 1 by omega) with rfl | rfl
  · exact Int.le_trans (better_first.2 q h) better_first.1
  · exact better_first.2 q h
theorem best_half (L : List ByteArray) (t : Int) (b : List Nat) (l : List ByteArray) (h : bestP L 2 = (t, b, l)) (ht : 1 ≤ t) : halfP (t % 2).toNat (catL (halfB (t % 2).toNat L)) = some (t, b, l) := by
  rw [best_two] at h
  have one : ∀ which, which ≤ 1 → ∀ q, halfP which (catL (halfB which L)) = some q → q = (t, b, l) → halfP (t % 2).toNat (catL (halfB (t % 2).toNat L)) = some (t, b, l) := fun which hw q h1 h2 => by
    have hq := (halfP_turn h1).2
    rw [h2] at hq h1
    have e : (t % 2).toNat = which := by simp only at hq; omega
    rw [e]
    exact h1
  cases h0 : halfP 0 (catL (halfB 0 L)) with
  | none =>
    rw [h0, better_none] at h
    cases h1 : halfP 1 (catL (halfB 1 L)) with
    | none => rw [h1, better_none] at h; simp only [Prod.mk.injEq] at h; omega
    | some q =>
      rw [h1, better_zero (halfP_turn h1).1] at h
      exact one 1 (by decide) q h1 h
  | some p =>
    rw [h0, better_zero (halfP_turn h0).1] at h
    cases h1 : halfP 1 (catL (halfB 1 L)) with
    | none =>
      rw [h1, better_none] at h
      exact one 0 (by decide) p h0 h
    | some q =>
      rw [h1] at h
      by_cases hl : p.1 < q.1
      · rw [better_lt hl] at h
        exact one 1 (by decide) q h1 h
      · rw [better_ge hl] at h
        exact one 0 (by decide) p h0 h
theorem best_of (L : List ByteArray) (which : Nat) (hw : which ≤ 1) (q : StoR) (h : halfP which (catL (halfB which L)) = some q) (ho : ∀ p, halfP (1 - which) (catL (halfB (1 - which) L)) = some p → p.1 < q.1) : bestP L 2 = q := by
  rw [best_two]
  have hq := (halfP_turn h).1
  rcases (show which = 0 ∨ which = 1 by omega) with rfl | rfl
  · rw [h, better_zero hq]
    cases h1 : halfP 1 (catL (halfB 1 L)) with
    | none => rfl
    | some p =>
      have := ho p h1
      exact better_ge (by omega)
  · rw [h]
    cases h0 : halfP 0 (catL (halfB 0 L)) with
    | none => exact better_zero hq
    | some p =>
      have := ho p h0
      rw [better_zero (halfP_turn h0).1]
      exact better_lt this
theorem txsB_one (s : ByteArray) : txsB [s] = txB s := by simp [txsB]
theorem txsB_snoc (l : List ByteArray) (s : ByteArray) : txsB (l ++ [s]) = txsB l ++ txB s := by simp [txsB]
theorem best_lay (L : List ByteArray) (t : Int) (text : ByteArray) (hb : (bestP L 2).1 = t) (h0 : 0 ≤ t) (ht : t < 1099511627775) (hx : text.size ≤ 32768) (hr : (text.size + 2 + 63) / 64 < L.length / 2) :
    (writesR L (-1) (t + 1) 0 (txt (txB text))).2 = (-1, false) ∧ (writesR L (-1) (t + 1) 0 (txt (txB text))).1.length = L.length ∧ bestP (writesR L (-1) (t + 1) 0 (txt (txB text))).1 2 = (t + 1, txB text, [text]) ∧ (∀ x ∈ (writesR L (-1) (t + 1) 0 (txt (txB text))).1, x ∈ L ∨ x.size = 64) := by
  have hsz : (txt (txB text)).size = text.size + 2 := by rw [txt_size, txB_length]
  obtain ⟨g1, g2, g3, g4, _, g6⟩ := half_written L (t + 1) 0 (txt (txB text)) [text] ((t + 1) % 2).toNat (decide_eq_true (by omega)) (by omega) (by omega) (by rw [txsB_one]) (by simpa using hx) (by simp) (by omega) (by rw [hsz]; exact hr) (Nat.zero_le _) (fun i hi => absurd hi (by omega))
  refine ⟨g1, g2, ?_, g6⟩
  have hbt : bys (txt (txB text)) = txB text := bys_txt (fun x hx => by
    rcases List.mem_append.1 hx with h | h
    · exact byN_lt _ _ x h
    · exact bys_lt' text x h)
  rw [hbt] at g3
  refine best_of _ _ (by omega) _ g3 (fun p hp => ?_)
  rw [g4] at hp
  have := best_le L _ (by omega) p hp
  rw [hb] at this
  exact Int.lt_of_le_of_lt this (by simp only; omega)
theorem catL_blk (X : List ByteArray) (h : ∀ x ∈ X, x.size = 64) (i : Nat) (s : ByteArray) (hs : X[i]? = some s) : ((catL X).drop (64 * i)).take 64 = bys s := by
  induction X generalizing i with
  | nil => simp at hs
  | cons a X ih =>
    have ha := h a (List.mem_cons_self)
    rw [catL, List.flatMap_cons, ← catL]
    cases i with
    | zero =>
      simp only [List.getElem?_cons_zero, Option.some.injEq] at hs
      subst hs
      rw [Nat.mul_zero, List.drop_zero, List.take_left' (by rw [bys_length, ha])]
    | succ i =>
      rw [List.getElem?_cons_succ] at hs
      rw [show 64 * (i + 1) = 64 + 64 * i by omega, ← List.drop_drop, List.drop_left' (by rw [bys_length, ha])]
      exact ih (fun x hx => h x (List.mem_cons_of_mem _ hx)) i hs
theorem textP_inv {T R : List Nat} (hT : ∀ x ∈ T, x < 256) {s : ByteArray} (h : textP T = some (s, R)) : T = txB s ++ R ∧ s.size ≤ 32768 ∧ ∀ x ∈ R, x < 256 := by
  unfold textP at h
  split at h
  · cases h
  rename_i h1
  split at h
  · cases h
  rename_i h2
  split at h
  · cases h
  rename_i h3
  simp only [Option.some.injEq, Prod.mk.injEq] at h
  obtain ⟨hs, hR⟩ := h
  obtain ⟨a, b, T2, rfl⟩ : ∃ a b T2, T = a :: b :: T2 := by
    match T, h1 with
    | [], h1 => simp at h1
    | [_], h1 => simp at h1
    | a :: b :: T2, _ => exact ⟨a, b, T2, rfl⟩
  have ea : a < 256 := hT a (by simp)
  have eb : b < 256 := hT b (by simp)
  have hv : valS ((a :: b :: T2).take 2) = a * 256 + b := by simp [valS]
  rw [hv] at hs hR h2 h3
  simp only [List.drop_succ_cons, List.drop_zero] at hs hR h3
  have hsz : s.size = a * 256 + b := by rw [← hs, txt_size, List.length_take]; omega
  refine ⟨?_, by omega, fun x hx => hT x (by rw [← hR] at hx; exact List.mem_cons_of_mem _ (List.mem_cons_of_mem _ (List.mem_of_mem_drop hx)))⟩
  have hby : bys s = T2.take (a * 256 + b) := by
    rw [← hs]
    exact bys_txt (fun x hx => hT x (List.mem_cons_of_mem _ (List.mem_cons_of_mem _ (List.mem_of_mem_take hx))))
  have hbn : byN (s.size : Int) 2 = [a, b] := by
    rw [hsz, ← (downN_byN _).2.1]
    simp only [downN, List.cons.injEq, and_true]
    omega
  rw [txB, hbn, hby, ← hR]
  simp
theorem parseP_inv : ∀ (k : Nat) (T : List Nat) (l : List ByteArray), (∀ x ∈ T, x < 256) → parseP k T = some l → T = txsB l ∧ ∀ s ∈ l, s.size ≤ 32768
  | 0, T, l, _, h => by
    unfold parseP at h
    split at h
    · rename_i h0
      cases h
      exact ⟨h0, by simp⟩
    · cases h
  | k + 1, T, l, hT, h => by
    unfold parseP at h
    split at h
    · rename_i h0
      cases h
      exact ⟨h0, by simp⟩
    · split at h
      · cases h
      rename_i s R hs
      obtain ⟨e1, e2, e3⟩ := textP_inv hT hs
      cases hp : parseP k R with
      | none => rw [hp] at h; cases h
      | some l' =>
        rw [hp] at h
        cases h
        obtain ⟨f1, f2⟩ := parseP_inv k R l' e3 hp
        refine ⟨by rw [e1, f1]; simp [txsB], fun x hx => ?_⟩
        rcases List.mem_cons.1 hx with rfl | hx
        · exact e2
        · exact f2 x hx
theorem best_add (L : List ByteArray) (t : Int) (b : List Nat) (l : List ByteArray) (text : ByteArray) (hb : bestP L 2 = (t, b, l)) (h1 : 1 ≤ t) (hL : ∀ x ∈ L, x.size = 64) (hx : text.size ≤ 32768) (hz : b.length ≤ 900000) (hr : (b.length + (text.size + 2) + 63) / 64 < L.length / 2) :
    (writesR L (-1) t (b.length / 64) (txt b ++ txt (txB text))).2 = (-1, false) ∧ (writesR L (-1) t (b.length / 64) (txt b ++ txt (txB text))).1.length = L.length ∧ bestP (writesR L (-1) t (b.length / 64) (txt b ++ txt (txB text))).1 2 = (t, b ++ txB text, l ++ [text]) ∧ (∀ x ∈ (writesR L (-1) t (b.length / 64) (txt b ++ txt (txB text))).1, x ∈ L ∨ x.size = 64) := by
  have hh := best_half L t b l hb h1
  obtain ⟨i1, i2, i3, i4, i5, i6, i7, i8⟩ := halfP_inv hh
  have hw1 : (t % 2).toNat = 0 ∨ (t % 2).toNat = 1 := by omega
  obtain ⟨which, hwh⟩ : ∃ which, (t % 2).toNat = which := ⟨_, rfl⟩
  rw [hwh] at hh i3 i4 i5 i7 i8 hw1
  have hX64 : ∀ x ∈ halfB which L, x.size = 64 := fun x hx => hL x (List.mem_of_mem_drop (List.mem_of_mem_take hx))
  have hc256 : ∀ x ∈ catL (halfB which L), x < 256 := fun x hx => by
    obtain ⟨y, _, hy⟩ := List.mem_flatMap.1 hx
    exact bys_lt' y x hy
  have hb256 : ∀ x ∈ b, x < 256 := fun x hx => hc256 x (List.mem_of_mem_drop (List.mem_of_mem_take (by rw [← i4]; exact hx)))
  obtain ⟨p1, p2⟩ := parseP_inv _ b l hb256 i7
  have hsz : (txt b ++ txt (txB text)).size = b.length + (text.size + 2) := by rw [ByteArray.size_append, txt_size, txt_size, txB_length]
  have hbt : bys (txt b ++ txt (txB text)) = b ++ txB text := by
    rw [bys_append, bys_txt hb256, bys_txt (fun x hx => by
      rcases List.mem_append.1 hx with h | h
      · exact byN_lt _ _ x h
      · exact bys_lt' text x h)]
  have hall : txt b ++ txt (txB text) = txt (txsB (l ++ [text])) := by
    rw [txsB_snoc, ← p1, ← txt_bys (txt b ++ txt (txB text)), hbt]
  have hXl : (halfB which L).length = L.length / 2 := by
    unfold halfB
    rw [List.length_take, List.length_drop]
    rcases hw1 with h | h <;> rw [h] <;> omega
  obtain ⟨g1, g2, g3, g4, _, g6⟩ := half_written L t (b.length / 64) (txt b ++ txt (txB text)) (l ++ [text]) which (decide_eq_true (by omega)) h1 (by omega) hall (fun s hs => by
    rcases List.mem_append.1 hs with h | h
    · exact p2 s h
    · rw [List.mem_singleton.1 h]; exact hx) (by simp) (by omega) (by rw [hsz]; exact hr) (by rw [hsz]; omega) (fun i hi => by
    have hlt : 1 + i < (halfB which L).length := by rw [hXl]; omega
    have hg : L[which * (L.length / 2) + 1 + i]? = some ((halfB which L)[1 + i]) := by
      rw [← List.getElem?_eq_getElem hlt]
      unfold halfB
      rw [List.getElem?_take, if_pos (by rw [hXl] at hlt; exact hlt), List.getElem?_drop]
      congr 1
      omega
    rw [hg]
    have hk := catL_blk (halfB which L) hX64 (1 + i) _ (List.getElem?_eq_getElem hlt)
    congr 1
    rw [← txt_bys (halfB which L)[1 + i], ← hk, ← txt_bys ((fillB _).extract _ _), bys_extract, bys_fillB, hbt, show 64 * i + 64 - 64 * i = 64 by omega]
    congr 1
    have hib : 64 * i + 64 ≤ b.length := by omega
    rw [List.append_assoc, List.drop_append_of_le_length (by omega), List.take_append_of_le_length (by rw [List.length_drop]; omega)]
    conv => rhs; rw [i4]
    rw [List.drop_take, List.take_take, List.drop_drop, show min 64 (b.length - 64 * i) = 64 by omega, show 64 + 64 * i = 64 * (1 + i) by omega])
  refine ⟨g1, g2, ?_, g6⟩
  rw [hbt] at g3
  refine best_of _ _ (by omega) _ g3 (fun p hp => ?_)
  rw [g4] at hp
  have h3 := best_le L _ (by omega) p hp
  have h4 := halfP_turn hp
  rw [hb] at h3
  simp only at h3 ⊢
  omega
theorem best_zero (n : Nat) (h : 2 ≤ n) : bestP (List.replicate n zblk) 2 = (0, [], []) := by
  have e : ∀ which, which ≤ 1 → halfP which (catL (halfB which (List.replicate n zblk))) = none := fun which hw => by
    have e1 : halfB which (List.replicate n zblk) = List.replicate (n / 2) zblk := by
      unfold halfB
      rw [List.length_replicate, List.drop_replicate, List.take_replicate]
      congr 1
      rcases (show which = 0 ∨ which = 1 by omega) with rfl | rfl <;> omega
    have e2 : bys zblk = List.replicate 64 0 := by decide +kernel
    have e3 : ∀ m, catL (List.replicate m zblk) = List.replicate (64 * m) 0 := by
      intro m
      induction m with
      | zero => rfl
      | succ m ih => rw [List.replicate_succ, catL, List.flatMap_cons, ← catL, ih, e2, List.replicate_append_replicate]; congr 1; omega
    rw [e1, e3]
    unfold halfP
    simp only
    rw [List.take_replicate, show min 64 (64 * (n / 2)) = 64 by omega]
    rw [if_pos (.inl (show (numP (List.replicate 64 0)).1 < 1 by decide +kernel))]
  rw [best_two, e 0 (by decide), e 1 (by decide)]
  rfl
end Go.Proofs.Ytbkbganflnemeaa.Pr
end

section
namespace Go.Proofs.Ytbkbganflnemeaa.Pr
open Go.RowKit Go.Deep Go.Maps Go.Proofs.YtbkbganflnemeaaW.PrintWords Go.Proofs.YtbkbganflnemeaaW.PrintLast Go.Proofs.YtbkbganflnemeaaW.PrintMore
set_option maxHeartbeats 4000000
set_option linter.unusedVariables false
set_option linter.unusedSimpArgs false
set_option maxRecDepth 100000 in
theorem room_calls (B s d g : Nat) (l : List ByteArray) (b : ByteArray) (t : Int) (L : List ByteArray) (f nw : Int) (n : Nat) (w : World) (hS : StoAt B s d l b t w) (hD : DevAt d g L f false nw w) (hn : n ≤ 1000000) (hL : L.length ≤ 4096) :
    Calls Try.prog 73 #[.pointer (some ⟨s, 0, none⟩), .int .i64 (n : Int)] w fun e w' => e = .returned (.bool (decide ((n + 63) / 64 < L.length / 2))) ∧ w' = w := by
  obtain ⟨v, hv⟩ := hS
  obtain ⟨c0, c1, c2, c3⟩ := hv.cells
  have HSZ := Aside0.mk (Size_dev d g L f nw false w hD)
  obtain ⟨m, hm⟩ : ∃ m, n + 63 = m := ⟨_, rfl⟩
  obtain ⟨q, hq⟩ : ∃ q, m / 64 = q := ⟨_, rfl⟩
  obtain ⟨H, hH⟩ : ∃ H, L.length / 2 = H := ⟨_, rfl⟩
  rw [hm, hq, hH]
  have w1 : wrap64 ((n : Int) + 64) = (n : Int) + 64 := by unfold wrap64; omega
  have w2 : wrap64 ((n : Int) + 64 - 1) = (m : Int) := by unfold wrap64; omega
  have w2b : wrap64 ((n : Int) + 63) = (m : Int) := by unfold wrap64; omega
  have w3 : (m : Int) / 64 = (q : Int) := by omega
  have w5 : wrap64 (q : Int) = (q : Int) := by unfold wrap64; omega
  have w4 : ((L.length : Int) / 2) = (H : Int) := by omega
  have w6 : wrap64 (H : Int) = (H : Int) := by unfold wrap64; omega
  clear hv hD c1 c2 c3 hn hm hq hH hL
  go_enter Try.func73, Try.ntmps73
  go_wp2_with (fail)
  refine HSZ.out.mono ?_
  rintro e w' ⟨rfl, rfl⟩
  go_wp2_with (fail)
  go_ret
  exact ⟨by simp, rfl⟩
theorem StoV.frv {B s d g : Nat} {v : Value} {l : List ByteArray} {b : ByteArray} {t : Int} {L : List ByteArray} {f nw : Int} {o : Bool} {w w' : World} (h : StoV B s d v l b t w) (hD : DevAt d g L f o nw w) (hf : FrV d g w w') : StoV B s d v l b t w' := by
  obtain ⟨h0, hb, ho⟩ := h
  refine ⟨h0, hD.keep hf hb (by decide) (by decide), own_move ho (fun k hk => ?_)⟩
  obtain ⟨cells, hc⟩ := own_typed ho k hk
  rw [hc]
  exact hD.keep hf hc (by decide) (by decide)
theorem StoAt.frv {B s d g : Nat} {l : List ByteArray} {b : ByteArray} {t : Int} {L : List ByteArray} {f nw : Int} {o : Bool} {w w' : World} (h : StoAt B s d l b t w) (hD : DevAt d g L f o nw w) (hf : FrV d g w w') : StoAt B s d l b t w' := h.imp fun _ q => q.frv hD hf
def FrS (d g s : Nat) (w w' : World) : Prop := w'.os = w.os ∧ w'.tape = w.tape ∧ w'.output = w.output ∧ w.heap.size ≤ w'.heap.size ∧ ∀ k, k < w.heap.size → k ≠ d → k ≠ g → k ≠ s → w'.heap[k]? = w.heap[k]?
theorem FrS.trans {d g s : Nat} {a b c : World} (h : FrS d g s a b) (k : FrS d g s b c) : FrS d g s a c :=
  ⟨k.1.trans h.1, k.2.1.trans h.2.1, k.2.2.1.trans h.2.2.1, Nat.le_trans h.2.2.2.1 k.2.2.2.1, fun i hi h1 h2 h3 => (k.2.2.2.2 i (Nat.lt_of_lt_of_le hi h.2.2.2.1) h1 h2 h3).trans (h.2.2.2.2 i hi h1 h2 h3)⟩
theorem FrS.of_frv {d g s : Nat} {a b : World} (h : FrV d g a b) : FrS d g s a b := ⟨h.1, h.2.1, h.2.2.1, h.2.2.2.1, fun i hi h1 h2 _ => h.2.2.2.2 i hi h1 h2⟩
theorem FrS.set (d g s : Nat) (w : World) (j : Nat) (u : Value) : FrS d g s w (w.setCell ⟨s, j, none⟩ u) := ⟨rfl, rfl, rfl, by simp [World.setCell], fun k _ _ _ h3 => Below.heap_setCell w ⟨s, j, none⟩ u k h3⟩
theorem DevAt.far {d g s : Nat} {L : List ByteArray} {f nw : Int} {o : Bool} {w : World} {cs : Array Value} (h : DevAt d g L f o nw w) (hs : w.heap[s]? = some (.cells cs 61 (0, 0))) (j : Nat) (u : Value) : DevAt d g L f o nw (w.setCell ⟨s, j, none⟩ u) := by
  refine ⟨(Below.heap_setCell w ⟨s, j, none⟩ u d (fun e => ?_)).trans h.box, (Below.heap_setCell w ⟨s, j, none⟩ u g (fun e => ?_)).trans h.row, h.siz⟩
  · have hb := h.box
    have e2 : d = s := e
    rw [e2, hs] at hb
    injection hb with hb
    injection hb with _ h3 _
    exact absurd h3 (by decide)
  · have hb := h.row
    have e2 : g = s := e
    rw [e2, hs] at hb
    injection hb with hb
    injection hb with _ h3 _
    exact absurd h3 (by decide)
theorem sto_new (B : Nat) (w : World) (x : ByteArray) (h : B ≤ w.heap.size) : (w.alloc (.cells #[.string x] 9)).ownsRow B 9 1 (.slice (some ⟨w.heap.size, 0, none⟩) 1 1) 1 [.string x] :=
  ⟨rfl, .inr ⟨w.heap.size, 1, #[.string x], rfl, h, blk_new _ _, Nat.le_refl _, by decide, rfl, rfl⟩⟩
set_option maxRecDepth 100000 in
theorem Lay_sto (B s d g : Nat) (l : List ByteArray) (b : ByteArray) (t : Int) (L : List ByteArray) (f nw : Int) (text : ByteArray) (w : World) (hS : StoAt B s d l b t w) (hD : DevAt d g L f false nw w) (hL2 : 2 ≤ L.length) (hL : L.length ≤ 4096) (hf : f ≤ 4611686018427387904) (ht : 0 ≤ t ∧ t < 1099511627775) (hx : text.size ≤ 32768) (hr : (text.size + 2 + 63) / 64 < L.length / 2) :
    Calls Try.prog 35 #[.pointer (some ⟨s, 0, none⟩), .string text] w fun e w' => e = .returned (.int .i64 (errW3 (writesR L f (t + 1) 0 (txt (txB text))))) ∧
      (∃ nw', DevAt d g (writesR L f (t + 1) 0 (txt (txB text))).1 (writesR L f (t + 1) 0 (txt (txB text))).2.1 (writesR L f (t + 1) 0 (txt (txB text))).2.2 nw' w') ∧
      (errW3 (writesR L f (t + 1) 0 (txt (txB text))) = 0 → StoAt B s d [text] (txt (txB text)) (t + 1) w') ∧ (errW3 (writesR L f (t + 1) 0 (txt (txB text))) ≠ 0 → StoAt B s d l b t w') ∧ FrS d g s w w' := by
  have HG := Aside0.mk (given_some B s d l b t w hS)
  have HBY := Aside0.mk (fun W => bytes_calls text (by omega) W)
  have hsz : (txt (txB text)).size = text.size + 2 := by rw [txt_size, txB_length]
  have HRM := Aside0.mk (fun (nw : Int) (W : World) (hS : StoAt B s d l b t W) (hD : DevAt d g L f false nw W) => room_calls B s d g l b t L f nw (txt (txB text)).size W hS hD (by rw [hsz]; omega) hL)
  have HWR := Aside0.mk (fun (nw : Int) (W : World) (hS : StoAt B s d l b t W) (hD : DevAt d g L f false nw W) => show Calls Try.prog 75 #[.pointer (some ⟨s, 0, none⟩), .int .i64 (t + 1), .int .i64 0, .string (txt (txB text))] W _ from writes_calls B s d g l b t L f nw (t + 1) 0 (txt (txB text)) W hS hD hL2 hL (by omega) (by omega) (by rw [hsz]; exact hr) (by omega) hf)
  have HS := Aside0.mk hS
  have HD := Aside0.mk hD
  have c3 := hS.turn
  have d1 : decide (32768 < (text.size : Int)) = false := decide_eq_false (by omega)
  have d1b : decide (32768 < text.size) = false := decide_eq_false (by omega)
  have d2 : decide ((1099511627775 : Int) ≤ t) = false := decide_eq_false (by omega)
  have d2b : ((1099511627775 : Int) ≤ t) = False := eq_false (by omega)
  have hrm : decide (((txt (txB text)).size + 63) / 64 < L.length / 2) = true := decide_eq_true (by rw [hsz]; exact hr)
  rw [hrm] at HRM
  have HWT : Aside0 (wrap64 (t + 1) = t + 1) := ⟨by unfold wrap64; omega⟩
  clear hS hD hL2 hL hf ht hx hr hrm
  generalize hTX : txt (txB text) = TX at *
  have HTX := Aside0.mk hTX
  have HTZ : Aside0 (TX.size = text.size + 2) := ⟨hsz⟩
  clear hTX hsz
  go_enter Try.func35, Try.ntmps35
  go_wp2_with (fail)
  refine HG.out.mono ?_
  rintro e w' ⟨rfl, rfl⟩
  go_wp2_with (fail)
  have w1t : wrap64 (t + 1) = t + 1 := HWT.out
  have w2t : IntKind.i64.wrap (t + 1) = t + 1 := by rw [IntKind.wrap_i64]; have := HWT.out; unfold wrap64 at this; omega
  refine (HBY.out _).mono ?_
  rintro e w1 ⟨rfl, hb1⟩
  have HS1 := Aside0.mk (HS.out.below hb1)
  have HD1 := Aside0.mk (HD.out.below hb1)
  have HB1 := Aside0.mk hb1
  clear hb1 c3
  go_wp2_with (fail)
  refine (HRM.out _ _ HS1.out HD1.out).mono ?_
  rintro e w2 ⟨rfl, rfl⟩
  have c3 := HS1.out.turn
  have HBD := Aside0.mk (below_drew1 (Below.refl w2.heap.size w2))
  obtain ⟨R, hR⟩ : ∃ R, writesR L f (t + 1) 0 TX = R := ⟨_, rfl⟩
  obtain ⟨z, hz⟩ : ∃ z, errW3 R = z := ⟨_, rfl⟩
  have HWR2 := HWR.out
  rw [hR, hz] at HWR2
  have HW := Aside0.mk HWR2
  have HR := Aside0.mk hR
  have HZ := Aside0.mk hz
  clear HWR HWR2 hR hz HG HRM
  go_wp2_with (fail)
  go_region_held3 (fun w' => w'.cell? ⟨s, 3, none⟩ = some (.int .i64 t))
    (first | go_keep | exact c3)
    (first
      | (go_at_call 74; (with_reducible refine (HBY.out _).mono ?_); rintro e2 w3 ⟨rfl, hb0⟩; have hb : Below w2.heap.size w2 w3 := below_step HBD.out hb0; have HB3 := Aside0.mk hb; have HS3 := Aside0.mk (HS1.out.below hb); have HD3 := Aside0.mk (HD1.out.below hb); clear hb0 hb c3; have c3 := HS3.out.turn)
      | (go_at_call 75; (with_reducible refine (HW.out _ _ HS3.out HD3.out).mono ?_); rintro e2 w4 ⟨rfl, hd4, hf4⟩; have HD4 := Aside0.mk hd4; have HF4 := Aside0.mk (show FrV d g w' w4 from ((FrV.of_below HB1.out).trans (FrV.of_below HB3.out)).trans hf4); have HS4 := Aside0.mk (HS3.out.frv HD3.out hf4); clear hd4 hf4 c3; have c3 := HS4.out.turn))
  by_cases hz0 : z = 0
  · subst hz0
    clear HW HS3 HD3 HB3 HS1 HD1 HB1 HBD w1t d1 d1b d2 d2b c3
    obtain ⟨v, hv⟩ := HS4.out
    have hBs : B ≤ w4.heap.size := Nat.le_trans hv.1 (Nat.le_of_lt (blk_lt hv.2.1))
    have HVD := Aside0.mk (hv.below (below_drew1 (Below.refl _ _)))
    have HBD4 := Aside0.mk (below_drew1 (Below.refl w4.heap.size w4))
    clear hv
    go_wp2_with (fail)
    refine start_ (n := 21) (S := fun w' => w'.cell? ⟨s, 3, none⟩ = some (.int .i64 t)) (ds := [20]) #[false, false, false, false, false, false, false, false, false, false, false, false, false, false, false, false, false, false, false, false, false] (by kernel_rfl) rfl rfl ((HVD.out.cells).2.2.2) (fun hHeld => ?_)
    refine pure_ (i := 0) (N := some 39) (v := ?_) (a' := ?_) #[true, false, false, false, false, false, false, false, false, false, false, false, false, false, false, false, false, false, false, false, false] rfl rfl (by kernel_rfl) (fun _ _ _ h => h) (Or.inl ⟨by rfl, ?_⟩) ?_ ?_
    rotate_left
    · intro w'
      go_simp
      with_reducible rfl
    rotate_left
    · simp only [Act.put, List.setIfInBounds_toArray, List.set_cons_zero, List.set_cons_succ, i64_w, i32_w]
      rfl
    refine pure_ (i := 1) (N := some 40) (v := ?_) (a' := ?_) #[true, true, false, false, false, false, false, false, false, false, false, false, false, false, false, false, false, false, false, false, false] rfl rfl (by kernel_rfl) (fun _ _ _ h => h) (Or.inl ⟨by rfl, ?_⟩) ?_ ?_
    rotate_left
    · intro w'
      go_simp
      with_reducible rfl
    rotate_left
    · simp only [Act.put, List.setIfInBounds_toArray, List.set_cons_zero, List.set_cons_succ, i64_w, i32_w]
      rfl
    refine pure_ (i := 2) (N := some 41) (v := ?_) (a' := ?_) #[true, true, true, false, false, false, false, false, false, false, false, false, false, false, false, false, false, false, false, false, false] rfl rfl (by kernel_rfl) (fun _ _ _ h => h) (Or.inl ⟨by rfl, ?_⟩) ?_ ?_
    rotate_left
    · intro w'
      go_simp
      with_reducible rfl
    rotate_left
    · simp only [Act.put, List.setIfInBounds_toArray, List.set_cons_zero, List.set_cons_succ, i64_w, i32_w]
      rfl
    refine pure_ (i := 3) (N := some 42) (v := ?_) (a' := ?_) #[true, true, true, true, false, false, false, false, false, false, false, false, false, false, false, false, false, false, false, false, false] rfl rfl (by kernel_rfl) (fun _ _ _ h => h) (Or.inl ⟨by rfl, ?_⟩) ?_ ?_
    rotate_left
    · intro w'
      go_simp
      with_reducible rfl
    rotate_left
    · simp only [Act.put, List.setIfInBounds_toArray, List.set_cons_zero, List.set_cons_succ, i64_w, i32_w]
      rfl
    refine pure_ (i := 5) (N := some 44) (v := ?_) (a' := ?_) #[true, true, true, true, false, true, false, false, false, false, false, false, false, false, false, false, false, false, false, false, false] rfl rfl (by kernel_rfl) (fun _ _ _ h => h) (Or.inl ⟨by rfl, ?_⟩) ?_ ?_
    rotate_left
    · intro w'
      go_simp
      with_reducible rfl
    rotate_left
    · simp only [Act.put, List.setIfInBounds_toArray, List.set_cons_zero, List.set_cons_succ, i64_w, i32_w]
      rfl
    refine pure_ (i := 7) (N := some 46) (v := ?_) (a' := ?_) #[true, true, true, true, false, true, false, true, false, false, false, false, false, false, false, false, false, false, false, false, false] rfl rfl (by kernel_rfl) (fun _ _ _ h => h) (Or.inl ⟨by rfl, ?_⟩) ?_ ?_
    rotate_left
    · intro w'
      go_simp
      with_reducible rfl
    rotate_left
    · simp only [Act.put, List.setIfInBounds_toArray, List.set_cons_zero, List.set_cons_succ, i64_w, i32_w]
      rfl
    refine pure_ (i := 8) (N := some 47) (v := ?_) (a' := ?_) #[true, true, true, true, false, true, false, true, true, false, false, false, false, false, false, false, false, false, false, false, false] rfl rfl (by kernel_rfl) (fun _ _ _ h => h) (Or.inl ⟨by rfl, ?_⟩) ?_ ?_
    rotate_left
    · intro w'
      go_simp
      with_reducible rfl
    rotate_left
    · simp only [Act.put, List.setIfInBounds_toArray, List.set_cons_zero, List.set_cons_succ, i64_w, i32_w]
      rfl
    refine pure_ (i := 9) (N := some 48) (v := ?_) (a' := ?_) #[true, true, true, true, false, true, false, true, true, true, false, false, false, false, false, false, false, false, false, false, false] rfl rfl (by kernel_rfl) (fun _ _ _ h => h) (Or.inl ⟨by rfl, ?_⟩) ?_ ?_
    rotate_left
    · intro w'
      go_simp
      with_reducible rfl
    rotate_left
    · simp only [Act.put, List.setIfInBounds_toArray, List.set_cons_zero, List.set_cons_succ, i64_w, i32_w]
      rfl
    refine take_ (i := 10) (N := some 49) (v := ?_) (a' := ?_) #[true, true, true, true, false, true, false, true, true, true, true, false, false, false, false, false, false, false, false, false, false] rfl rfl (by kernel_rfl) (fun _ _ _ h => h) (Or.inl ⟨by rfl, ?_⟩) hHeld ?_ ?_
    rotate_left
    · intro w' s0
      go_simp
      with_reducible rfl
    rotate_left
    · simp only [Act.put, List.setIfInBounds_toArray, List.set_cons_zero, List.set_cons_succ, i64_w, i32_w]
      rfl
    refine pure_ (i := 11) (N := some 50) (v := ?_) (a' := ?_) #[true, true, true, true, false, true, false, true, true, true, true, true, false, false, false, false, false, false, false, false, false] rfl rfl (by kernel_rfl) (fun _ _ _ h => h) (Or.inl ⟨by rfl, ?_⟩) ?_ ?_
    rotate_left
    · intro w'
      go_simp
      with_reducible rfl
    rotate_left
    · simp only [Act.put, List.setIfInBounds_toArray, List.set_cons_zero, List.set_cons_succ, i64_w, i32_w]
      rfl
    refine join_ (σ := Value) 9 #[true, true, true, true, true, true, true, true, true, true, true, true, false, false, false, false, false, false, false, false, false] (fun s_ => [(43, s_), (45, .string TX)]) (fun s_ w' => StoV B s d v l b t w' ∧ Below w4.heap.size w4 w' ∧ w'.ownsRow B 9 1 s_ 1 [.string text]) ?_ ?_
    rotate_left
    · intro hCont
      refine two_ (i := 4) (j := 6) (Ni := some 43) (Nj := some 45) #[true, true, true, true, true, true, false, true, true, true, true, true, false, false, false, false, false, false, false, false, false] #[true, true, true, true, false, true, true, true, true, true, true, true, false, false, false, false, false, false, false, false, false] rfl rfl rfl rfl (by kernel_rfl) (by decide) (by decide) (fun K hK => ?_) (fun K hK => ?_)
      · skip
        refine value_ (w1 := ?_) (v := ?_) (by rfl) rfl ?_ ?_
        rotate_left 2
        · go_simp
          constructor
          · rfl
          · rfl
        have HVa := Aside0.mk (HVD.out.below (below_alloc (Below.refl _ _) (.cells #[.string text] 9)))
        have HBa := Aside0.mk (below_alloc HBD4.out (.cells #[.string text] 9))
        have HOa := Aside0.mk (sto_new B w4.drew text (Nat.le_trans hBs HBD4.out.size))
        refine hK.out _ _ ((HVa.out.cells).2.2.2) (fun hHeld => ?_)
        clear hK K
        refine norm_ (a' := ?_) ?_ ?_
        rotate_left
        · show Act.put _ (some 43) _ = _
          simp only [Act.put, List.setIfInBounds_toArray, List.set_cons_zero, List.set_cons_succ, i64_w, i32_w]
          rfl
        refine one_ (i := 6) (N := some 45) #[true, true, true, true, true, true, true, true, true, true, true, true, false, false, false, false, false, false, false, false, false] rfl rfl (by kernel_rfl) (by decide) (fun K hK => ?_)
        refine goes_ Try.func74 (by kernel_rfl) rfl #[.string text] (by rfl) rfl rfl (by simp only [List.map_toArray, List.map_cons, List.map_nil]; rfl) ?_
        with_reducible refine (HBY.out _).mono ?_
        rintro e3 w7 ⟨rfl, hb7⟩
        refine ⟨_, rfl, ?_⟩
        have HVb := Aside0.mk (HVa.out.below hb7)
        have HBb := Aside0.mk (show Below w4.heap.size w4 w7 from below_then HBa.out HBa.out.size hb7)
        have HOb := Aside0.mk (own_move HOa.out (fun k hk => hb7.block k (own_lt HOa.out k hk)))
        clear hb7
        refine hK.out _ _ ((HVb.out.cells).2.2.2) (fun hHeld => ?_)
        clear hK K
        refine norm_ (a' := ?_) ?_ ?_
        rotate_left
        · show Act.put _ (some 45) _ = _
          simp only [Act.put, List.setIfInBounds_toArray, List.set_cons_zero, List.set_cons_succ, i64_w, i32_w]
          rfl
        exact norm_ (by first | (simp only [putAll, Act.put, List.setIfInBounds_toArray, List.set_cons_zero, List.set_cons_succ]; done) | (simp only [putAll, Act.put, List.setIfInBounds_toArray, List.set_cons_zero, List.set_cons_succ]; rfl)) (hCont _ _ ⟨HVb.out, HBb.out, HOb.out⟩)
      · skip
        refine goes_ Try.func74 (by kernel_rfl) rfl #[.string text] (by rfl) rfl rfl (by simp only [List.map_toArray, List.map_cons, List.map_nil]; rfl) ?_
        with_reducible refine (HBY.out _).mono ?_
        rintro e3 w7 ⟨rfl, hb7⟩
        refine ⟨_, rfl, ?_⟩
        have HVa := Aside0.mk (HVD.out.below hb7)
        have HBa := Aside0.mk (show Below w4.heap.size w4 w7 from below_then HBD4.out HBD4.out.size hb7)
        clear hb7
        refine hK.out _ _ ((HVa.out.cells).2.2.2) (fun hHeld => ?_)
        clear hK K
        refine norm_ (a' := ?_) ?_ ?_
        rotate_left
        · show Act.put _ (some 45) _ = _
          simp only [Act.put, List.setIfInBounds_toArray, List.set_cons_zero, List.set_cons_succ, i64_w, i32_w]
          rfl
        refine one_ (i := 4) (N := some 43) #[true, true, true, true, true, true, true, true, true, true, true, true, false, false, false, false, false, false, false, false, false] rfl rfl (by kernel_rfl) (by decide) (fun K hK => ?_)
        refine value_ (w1 := ?_) (v := ?_) (by rfl) rfl ?_ ?_
        rotate_left 2
        · go_simp
          constructor
          · rfl
          · rfl
        have HVb := Aside0.mk (HVa.out.below (below_alloc (Below.refl _ _) (.cells #[.string text] 9)))
        have HBb := Aside0.mk (below_alloc HBa.out (.cells #[.string text] 9))
        have HOb := Aside0.mk (sto_new B w7 text (Nat.le_trans hBs HBa.out.size))
        refine hK.out _ _ ((HVb.out.cells).2.2.2) (fun hHeld => ?_)
        clear hK K
        refine norm_ (a' := ?_) ?_ ?_
        rotate_left
        · show Act.put _ (some 43) _ = _
          simp only [Act.put, List.setIfInBounds_toArray, List.set_cons_zero, List.set_cons_succ, i64_w, i32_w]
          rfl
        exact norm_ (by first | (simp only [putAll, Act.put, List.setIfInBounds_toArray, List.set_cons_zero, List.set_cons_succ]; done) | (simp only [putAll, Act.put, List.setIfInBounds_toArray, List.set_cons_zero, List.set_cons_succ]; rfl)) (hCont _ _ ⟨HVb.out, HBb.out, HOb.out⟩)
    rintro s_ w6 ⟨q1, q2, q3⟩
    obtain ⟨A9, c9, rfl⟩ := own_slice q3
    have hHeld := (q1.cells).2.2.2
    have g1 := (q1.cells).2.1
    have f1 := blk_thaw q1.2.1 1
    refine norm_ (a' := ?_) ?_ ?_
    rotate_left
    · simp only [putAll, Act.put, List.setIfInBounds_toArray, List.set_cons_zero, List.set_cons_succ]
      rfl
    refine pure_ (i := 12) (N := some 51) (v := ?_) (a' := ?_) #[true, true, true, true, true, true, true, true, true, true, true, true, true, false, false, false, false, false, false, false, false] rfl rfl (by kernel_rfl) (fun _ _ _ h => h) (Or.inl ⟨by rfl, ?_⟩) ?_ ?_
    rotate_left
    · intro w'
      go_simp
      with_reducible rfl
    rotate_left
    · simp only [Act.put, List.setIfInBounds_toArray, List.set_cons_zero, List.set_cons_succ, i64_w, i32_w]
      rfl
    refine pure_ (i := 13) (N := some 52) (v := ?_) (a' := ?_) #[true, true, true, true, true, true, true, true, true, true, true, true, true, true, false, false, false, false, false, false, false] rfl rfl (by kernel_rfl) (fun _ _ _ h => h) (Or.inl ⟨by rfl, ?_⟩) ?_ ?_
    rotate_left
    · intro w'
      go_simp
      with_reducible rfl
    rotate_left
    · simp only [Act.put, List.setIfInBounds_toArray, List.set_cons_zero, List.set_cons_succ, i64_w, i32_w]
      rfl
    refine one_ (i := 14) (N := none) #[true, true, true, true, true, true, true, true, true, true, true, true, true, true, true, false, false, false, false, false, false] rfl rfl (by kernel_rfl) (by decide) (fun K hK => ?_)
    refine skip_ (w1 := ?_) (by rfl) rfl ?_ ?_
    rotate_left
    · go_simp
      rfl
    have P1 : (w6.setCell ⟨s, 1, none⟩ (.slice A9 1 c9)).heap[s]? = some (.cells #[.pointer (some ⟨d, 0, none⟩), .slice A9 1 c9, .string b, .int .i64 t] 61 (0, 0)) := blk_put q1.2.1 1 _ rfl
    have g2 : (w6.setCell ⟨s, 1, none⟩ (.slice A9 1 c9)).cell? ⟨s, 2, none⟩ = some (.string b) := (by rw [cell_of_row _ _ _ _ _ _ P1]; rfl)
    have f2 := blk_thaw P1 2
    refine hK.out _ _ ((by rw [cell_of_row _ _ _ _ _ _ P1]; rfl)) (fun hHeld => ?_)
    clear hK K
    refine pure_ (i := 15) (N := some 53) (v := ?_) (a' := ?_) #[true, true, true, true, true, true, true, true, true, true, true, true, true, true, true, true, false, false, false, false, false] rfl rfl (by kernel_rfl) (fun _ _ _ h => h) (Or.inl ⟨by rfl, ?_⟩) ?_ ?_
    rotate_left
    · intro w'
      go_simp
      with_reducible rfl
    rotate_left
    · simp only [Act.put, List.setIfInBounds_toArray, List.set_cons_zero, List.set_cons_succ, i64_w, i32_w]
      rfl
    refine pure_ (i := 16) (N := some 54) (v := ?_) (a' := ?_) #[true, true, true, true, true, true, true, true, true, true, true, true, true, true, true, true, true, false, false, false, false] rfl rfl (by kernel_rfl) (fun _ _ _ h => h) (Or.inl ⟨by rfl, ?_⟩) ?_ ?_
    rotate_left
    · intro w'
      go_simp
      with_reducible rfl
    rotate_left
    · simp only [Act.put, List.setIfInBounds_toArray, List.set_cons_zero, List.set_cons_succ, i64_w, i32_w]
      rfl
    refine one_ (i := 17) (N := none) #[true, true, true, true, true, true, true, true, true, true, true, true, true, true, true, true, true, true, false, false, false] rfl rfl (by kernel_rfl) (by decide) (fun K hK => ?_)
    refine skip_ (w1 := ?_) (by rfl) rfl ?_ ?_
    rotate_left
    · go_simp
      rfl
    have P2 : ((w6.setCell ⟨s, 1, none⟩ (.slice A9 1 c9)).setCell ⟨s, 2, none⟩ (.string TX)).heap[s]? = some (.cells #[.pointer (some ⟨d, 0, none⟩), .slice A9 1 c9, .string TX, .int .i64 t] 61 (0, 0)) := blk_put P1 2 _ rfl
    have g3 : ((w6.setCell ⟨s, 1, none⟩ (.slice A9 1 c9)).setCell ⟨s, 2, none⟩ (.string TX)).cell? ⟨s, 3, none⟩ = some (.int .i64 t) := (by rw [cell_of_row _ _ _ _ _ _ P2]; rfl)
    have f3 := blk_thaw P2 3
    refine hK.out _ _ (g3) (fun hHeld => ?_)
    clear hK K
    refine pure_ (i := 18) (N := some 55) (v := ?_) (a' := ?_) #[true, true, true, true, true, true, true, true, true, true, true, true, true, true, true, true, true, true, true, false, false] rfl rfl (by kernel_rfl) (fun _ _ _ h => h) (Or.inl ⟨by rfl, ?_⟩) ?_ ?_
    rotate_left
    · intro w'
      go_simp
      with_reducible rfl
    rotate_left
    · simp only [Act.put, List.setIfInBounds_toArray, List.set_cons_zero, List.set_cons_succ, i64_w, i32_w]
      rfl
    refine pure_ (i := 19) (N := some 56) (v := ?_) (a' := ?_) #[true, true, true, true, true, true, true, true, true, true, true, true, true, true, true, true, true, true, true, true, false] rfl rfl (by kernel_rfl) (fun _ _ _ h => h) (Or.inl ⟨by rfl, ?_⟩) ?_ ?_
    rotate_left
    · intro w'
      go_simp
      with_reducible rfl
    rotate_left
    · simp only [Act.put, List.setIfInBounds_toArray, List.set_cons_zero, List.set_cons_succ, i64_w, i32_w]
      rfl
    refine last_ (i := 20) (N := none) #[true, true, true, true, true, true, true, true, true, true, true, true, true, true, true, true, true, true, true, true, true] rfl rfl (by kernel_rfl) (by decide) (fun K hK => ?_)
    refine skip_ (w1 := ?_) (by rfl) rfl ?_ ?_
    rotate_left
    · go_simp
      rfl
    refine hK.out _ _ ?_
    clear hK K
    refine done_ (by kernel_rfl) ?_

    have P3 := blk_put P2 3 (.int .i64 (t + 1)) (show _ = #[.pointer (some ⟨d, 0, none⟩), .slice A9 1 c9, .string TX, .int .i64 (t + 1)] from rfl)
    have HSE : Aside0 (StoAt B s d [text] TX (t + 1) (((w6.setCell ⟨s, 1, none⟩ (.slice A9 1 c9)).setCell ⟨s, 2, none⟩ (.string TX)).setCell ⟨s, 3, none⟩ (.int .i64 (t + 1)))) := ⟨⟨.slice A9 1 c9, q1.1, P3, own_move q3 (fun k hk => by
      have hne : k ≠ s := fun e => Go.Proofs.YtbkbganflnemeaaW.PrintWords.own_ne q3 q1.2.1 (by decide) (by rw [hk, e])
      rw [Below.heap_setCell _ ⟨s, 3, none⟩ _ k hne, Below.heap_setCell _ ⟨s, 2, none⟩ _ k hne, Below.heap_setCell _ ⟨s, 1, none⟩ _ k hne])⟩⟩
    have HDE : Aside0 (∃ nw', DevAt d g R.1 R.2.1 R.2.2 nw' (((w6.setCell ⟨s, 1, none⟩ (.slice A9 1 c9)).setCell ⟨s, 2, none⟩ (.string TX)).setCell ⟨s, 3, none⟩ (.int .i64 (t + 1)))) := ⟨HD4.out.imp fun nw' h => (((h.below q2).far q1.2.1 1 _).far P1 2 _).far P2 3 _⟩
    have HFE : Aside0 (FrS d g s w' (((w6.setCell ⟨s, 1, none⟩ (.slice A9 1 c9)).setCell ⟨s, 2, none⟩ (.string TX)).setCell ⟨s, 3, none⟩ (.int .i64 (t + 1)))) := ⟨((((FrS.of_frv (HF4.out.trans (FrV.of_below q2))).trans (FrS.set d g s _ 1 _)).trans (FrS.set d g s _ 2 _)).trans (FrS.set d g s _ 3 _))⟩
    clear q1 q2 q3 P1 P2 P3 g1 f1 g2 f2 g3 f3 hHeld HVD HBD4 hBs
    generalize ((w6.setCell ⟨s, 1, none⟩ (.slice A9 1 c9)).setCell ⟨s, 2, none⟩ (.string TX)).setCell ⟨s, 3, none⟩ (.int .i64 (t + 1)) = w9 at *
    go_wp2_with (fail)
    go_ret
    rw [HR.out, HZ.out]
    exact ⟨rfl, HDE.out, fun _ => HSE.out, fun h => absurd rfl h, HFE.out⟩
  · have e1 : (z != 0) = true := bne_iff_ne.2 hz0
    clear c3 HBY HW HS3 HD3 HB3 HS1 HD1 HB1 HBD
    have HNZ := Aside0.mk hz0
    clear hz0
    go_wp2_with (fail)
    go_ret
    rw [HR.out, HZ.out]
    exact ⟨rfl, HD4.out, fun h => absurd h HNZ.out, fun _ => HS4.out, FrS.of_frv HF4.out⟩
end Go.Proofs.Ytbkbganflnemeaa.Pr
end

section
namespace Go.Proofs.Ytbkbganflnemeaa.Pr
open Go.RowKit Go.Deep Go.Maps Go.Proofs.YtbkbganflnemeaaW.PrintWords Go.Proofs.YtbkbganflnemeaaW.PrintLast Go.Proofs.YtbkbganflnemeaaW.PrintMore
set_option maxHeartbeats 4000000
set_option linter.unusedVariables false
set_option linter.unusedSimpArgs false
theorem StoAt.bytes {B s d : Nat} {l : List ByteArray} {b : ByteArray} {t : Int} {w : World} (h : StoAt B s d l b t w) : w.cell? ⟨s, 2, none⟩ = some (.string b) := by
  obtain ⟨v, q⟩ := h
  exact q.cells.2.2.1
theorem devGrown {B d g n : Nat} {v : Value} {xs : List Value} {L : List ByteArray} {f nw : Int} {o : Bool} {w w' : World} (h : DevAt d g L f o nw w) (ho : w.ownsRow B 9 1 v n xs) (hg : w.grownBy w' v.ownBlock) : DevAt d g L f o nw w' :=
  ⟨(hg.block d (blk_lt h.box) (Go.Proofs.YtbkbganflnemeaaW.PrintWords.own_ne ho h.box (by decide))).trans h.box, (hg.block g (blk_lt h.row) (Go.Proofs.YtbkbganflnemeaaW.PrintWords.own_ne ho h.row (by decide))).trans h.row, h.siz⟩
def FrT (B d g : Nat) (w w' : World) : Prop := w'.os = w.os ∧ w'.tape = w.tape ∧ w'.output = w.output ∧ w.heap.size ≤ w'.heap.size ∧ ∀ k, k < w.heap.size → k < B → k ≠ d → k ≠ g → w'.heap[k]? = w.heap[k]?
theorem FrT.trans {B d g : Nat} {a b c : World} (h : FrT B d g a b) (k : FrT B d g b c) : FrT B d g a c :=
  ⟨k.1.trans h.1, k.2.1.trans h.2.1, k.2.2.1.trans h.2.2.1, Nat.le_trans h.2.2.2.1 k.2.2.2.1, fun i hi h1 h2 h3 => (k.2.2.2.2 i (Nat.lt_of_lt_of_le hi h.2.2.2.1) h1 h2 h3).trans (h.2.2.2.2 i hi h1 h2 h3)⟩
theorem FrT.of_frv {B d g : Nat} {a b : World} (h : FrV d g a b) : FrT B d g a b := ⟨h.1, h.2.1, h.2.2.1, h.2.2.2.1, fun i hi _ h1 h2 => h.2.2.2.2 i hi h1 h2⟩
theorem FrT.of_grown {B d g : Nat} {a b : World} {r : Option Nat} (h : a.grownBy b r) (hr : ∀ k, r = some k → B ≤ k) : FrT B d g a b := ⟨h.os, h.tape, h.output, h.size, fun i hi hB _ _ => h.block i hi (fun e => by have := hr i e.symm; omega)⟩
theorem FrT.set {B d g s : Nat} (w : World) (hs : B ≤ s) (j : Nat) (u : Value) : FrT B d g w (w.setCell ⟨s, j, none⟩ u) := ⟨rfl, rfl, rfl, by simp [World.setCell], fun k _ hB _ _ => Below.heap_setCell w ⟨s, j, none⟩ u k (fun e => by have e2 : k = s := e; omega)⟩
set_option maxRecDepth 100000 in
theorem Add_sto (B s d g : Nat) (l : List ByteArray) (b : ByteArray) (t : Int) (L : List ByteArray) (f nw : Int) (text : ByteArray) (w : World) (hS : StoAt B s d l b t w) (hD : DevAt d g L f false nw w) (hL2 : 2 ≤ L.length) (hL : L.length ≤ 4096) (hf : f ≤ 4611686018427387904) (ht : 1 ≤ t ∧ t ≤ 1099511627775) (hx : text.size ≤ 32768) (hbz : b.size ≤ 131072) (hll : l.length ≤ 131072) (hr : (b.size + (text.size + 2) + 63) / 64 < L.length / 2) :
    Calls Try.prog 39 #[.pointer (some ⟨s, 0, none⟩), .string text] w fun e w' => e = .returned (.int .i64 (errW3 (writesR L f t (b.size / 64) (b ++ txt (txB text))))) ∧ (∃ nw', DevAt d g (writesR L f t (b.size / 64) (b ++ txt (txB text))).1 (writesR L f t (b.size / 64) (b ++ txt (txB text))).2.1 (writesR L f t (b.size / 64) (b ++ txt (txB text))).2.2 nw' w') ∧
      (errW3 (writesR L f t (b.size / 64) (b ++ txt (txB text))) = 0 → StoAt B s d (l ++ [text]) (b ++ txt (txB text)) t w') ∧ (errW3 (writesR L f t (b.size / 64) (b ++ txt (txB text))) ≠ 0 → StoAt B s d l b t w') ∧ FrT B d g w w' := by
  have HG := Aside0.mk (given_some B s d l b t w hS)
  have HBY := Aside0.mk (fun W => bytes_calls text (by omega) W)
  have hsz : (txt (txB text)).size = text.size + 2 := by rw [txt_size, txB_length]
  have hcz : (b ++ txt (txB text)).size = b.size + (text.size + 2) := by rw [ByteArray.size_append, hsz]
  have HRM := Aside0.mk (fun (nw : Int) (W : World) (hS : StoAt B s d l b t W) (hD : DevAt d g L f false nw W) => room_calls B s d g l b t L f nw (b.size + (txt (txB text)).size) W hS hD (by rw [hsz]; omega) hL)
  have HWR := Aside0.mk (fun (nw : Int) (W : World) (hS : StoAt B s d l b t W) (hD : DevAt d g L f false nw W) => writes_calls B s d g l b t L f nw t (b.size / 64) (b ++ txt (txB text)) W hS hD hL2 hL (by omega) (by rw [hcz]; omega) (by rw [hcz]; exact hr) (by rw [hcz]; omega) hf)
  have HLL := Aside0.mk hll
  clear hll
  have HS := Aside0.mk hS
  have HD := Aside0.mk hD
  have c2 := hS.bytes
  have c3 := hS.turn
  have d1 : decide (32768 < (text.size : Int)) = false := decide_eq_false (by omega)
  have d1b : decide (32768 < text.size) = false := decide_eq_false (by omega)
  have d2 : (t == 0) = false := by rw [beq_eq_false_iff_ne]; omega
  have hrm : decide ((b.size + (txt (txB text)).size + 63) / 64 < L.length / 2) = true := decide_eq_true (by rw [hsz]; exact hr)
  have v1 : IntKind.i64.wrap ((b.size : Int) + ((txt (txB text)).size : Int)) = ((b.size + (txt (txB text)).size : Nat) : Int) := by rw [IntKind.wrap_i64, hsz]; omega
  have k9 : (9223372036854775807 < b.size + (txt (txB text)).size) = False := eq_false (by rw [hsz]; omega)
  rw [hrm] at HRM
  have HV1 := Aside0.mk v1
  have HK9 := Aside0.mk k9
  have HFRW : Aside0 (∀ fr, b.size / 64 = fr → IntKind.i64.wrap (fr : Int) = (fr : Int)) := ⟨fun fr h => by rw [IntKind.wrap_i64]; omega⟩
  clear hS hD hL2 hL hf ht hx hr hrm v1 k9 hbz hcz
  generalize hTX : txt (txB text) = TX at *
  have HTX := Aside0.mk hTX
  have HTZ : Aside0 (TX.size = text.size + 2) := ⟨hsz⟩
  clear hTX hsz
  obtain ⟨NN, hNN⟩ : ∃ NN, b.size + TX.size = NN := ⟨_, rfl⟩
  rw [hNN] at HRM HV1
  have V1 := HV1.out
  have HBD := Aside0.mk (below_drew1 (Below.refl w.heap.size w))
  clear hNN
  go_enter Try.func39, Try.ntmps39
  go_wp2_with (fail)
  refine HG.out.mono ?_
  rintro e w' ⟨rfl, rfl⟩
  go_wp2_with (fail)
  go_region_held3 (fun w' => w'.cell? ⟨s, 3, none⟩ = some (.int .i64 t) ∧ w'.cell? ⟨s, 2, none⟩ = some (.string b))
    (first | go_keep | exact ⟨c3, c2⟩)
    (first
      | (go_at_call 74; (with_reducible refine (HBY.out _).mono ?_); rintro e2 w3 ⟨rfl, hb0⟩; have HB3 := Aside0.mk (below_step HBD.out hb0); have HS3 := Aside0.mk (HS.out.below HB3.out); have HD3 := Aside0.mk (HD.out.below HB3.out); clear hb0 c3 c2; have c3 := HS3.out.turn; have c2 := HS3.out.bytes)
      | (go_at_call 73; (with_reducible refine (HRM.out _ _ HS3.out HD3.out).mono ?_); rintro e2 w4 ⟨rfl, rfl⟩))
  have K9 := HK9.out
  have HBD4 := Aside0.mk (below_drew1 (Below.refl w4.heap.size w4))
  clear V1 c3
  go_wp2_with (fail)
  go_region_held3 (fun w' => w'.cell? ⟨s, 2, none⟩ = some (.string b))
    (first | go_keep | exact c2)
    (first
      | (go_at_call 74; (with_reducible refine (HBY.out _).mono ?_); rintro e2 w5 ⟨rfl, hb0⟩; have HB5 := Aside0.mk (below_step HBD4.out hb0); have HS5 := Aside0.mk (HS3.out.below HB5.out); have HD5 := Aside0.mk (HD3.out.below HB5.out); clear hb0 c2; have c2 := HS5.out.bytes))
  have c3 := HS5.out.turn
  obtain ⟨AL, hAL⟩ : ∃ AL, b ++ TX = AL := ⟨_, rfl⟩
  obtain ⟨fr, hfr⟩ : ∃ fr, b.size / 64 = fr := ⟨_, rfl⟩
  have q64 : ((b.size : Int) / 64) = (fr : Int) := by omega
  have z64 : IntKind.i64.wrap (fr : Int) = (fr : Int) := HFRW.out fr hfr
  have HWR2 := HWR.out
  rw [hAL, hfr] at HWR2
  obtain ⟨R, hR⟩ : ∃ R, writesR L f t fr AL = R := ⟨_, rfl⟩
  obtain ⟨z, hz⟩ : ∃ z, errW3 R = z := ⟨_, rfl⟩
  rw [hR, hz] at HWR2
  have HW := Aside0.mk HWR2
  have HR := Aside0.mk hR
  have HZ := Aside0.mk hz
  have HAL := Aside0.mk hAL
  have HFR := Aside0.mk hfr
  clear HWR HWR2 hR hz hfr HRM HS3 HD3 HBD4 HBD
  have HS5D := Aside0.mk (HS5.out.below (below_drew1 (Below.refl _ _)))
  have HD5D := Aside0.mk (HD5.out.below (below_drew1 (Below.refl _ _)))
  go_wp2_with (fail)
  rw [hAL]
  clear hAL
  go_region_held3 (fun w' => w'.cell? ⟨s, 3, none⟩ = some (.int .i64 t) ∧ w'.cell? ⟨s, 2, none⟩ = some (.string b))
    (first | go_keep | exact ⟨c3, c2⟩)
    (first
      | (go_at_call 75; (with_reducible refine (HW.out _ _ HS5D.out HD5D.out).mono ?_); rintro e2 w6 ⟨rfl, hd4, hf4⟩; have HD6 := Aside0.mk hd4; have HF6 := Aside0.mk (show FrV d g w' w6 from ((FrV.of_below HB3.out).trans (FrV.of_below HB5.out)).trans ((FrV.of_below (below_drew1 (Below.refl _ _))).trans hf4)); have HS6 := Aside0.mk (HS5D.out.frv HD5D.out hf4); clear hd4 hf4 c3 c2; have c3 := HS6.out.turn; have c2 := HS6.out.bytes))
  by_cases hz0 : z = 0
  · subst hz0
    clear HW HS5 HD5 HB5 HS5D HD5D HB3 HBY q64 z64 K9 d1 d1b d2
    obtain ⟨v, hv⟩ := HS6.out
    obtain ⟨A, c, rfl⟩ := own_slice hv.2.2
    have g1 := (hv.cells).2.1
    obtain ⟨ie, hie, hy0, hy1, hy2⟩ := info_parts info9
    have hBs : B ≤ w6.heap.size := Nat.le_trans hv.1 (Nat.le_of_lt (blk_lt hv.2.1))
    have HV7 := Aside0.mk (hv.below (below_alloc (Below.refl _ _) (.cells #[.string text] 9)))
    have HN7 : Aside0 ((w6.alloc (.cells #[.string text] 9)).heap[w6.heap.size]? = some (.cells #[.string text] 9 (0, 0))) := ⟨blk_new _ _⟩
    clear hv
    go_wp2_with (at_builtin; refine wpList_append_lies _ rfl _ _ _ rfl B 9 ie (.string ⟨#[]⟩) 1 16 Try.underlying46 hie hy0 hy1 hy2 rfl (by decide) (.slice A l.length c) l.length (l.map Value.string) rfl HV7.out.2.2 ⟨w6.heap.size, 0, none⟩ 1 1 [.string text] rfl rfl (World.news_of_block HN7.out) (fun u hu => by rw [List.mem_singleton.1 hu]; rfl) (by decide) (by have := HLL.out; unfold maxLen; omega) (by have := HLL.out; omega) (Nat.le_trans hBs (by simp)) (w6.alloc (.cells #[.string text] 9)).heap.size rfl ?_; intro gg cap w8 hown1 hgrow hat hlt5; have P8 := (hgrow.block s (blk_lt HV7.out.2.1) (Go.Proofs.YtbkbganflnemeaaW.PrintWords.own_ne HV7.out.2.2 HV7.out.2.1 (by decide))).trans HV7.out.2.1; have e2 : w8.cell? ⟨s, 1, none⟩ = some (.slice A l.length c) := (by rw [cell_of_row _ _ _ _ _ _ P8]; rfl); have ef2 := blk_thaw P8 1; have P9 := blk_put P8 1 (.slice (some ⟨gg, 0, none⟩) (l.length + 1) cap) (show _ = #[.pointer (some ⟨d, 0, none⟩), (.slice (some ⟨gg, 0, none⟩) (l.length + 1) cap), .string b, .int .i64 t] from rfl); have e3 : (w8.setCell ⟨s, 1, none⟩ (.slice (some ⟨gg, 0, none⟩) (l.length + 1) cap)).cell? ⟨s, 2, none⟩ = some (.string b) := (by rw [cell_of_row _ _ _ _ _ _ P9]; rfl); have ef3 := blk_thaw P9 2)
    have P10 := blk_put P9 2 (.string AL) (show _ = #[.pointer (some ⟨d, 0, none⟩), (.slice (some ⟨gg, 0, none⟩) (l.length + 1) cap), .string AL, .int .i64 t] from rfl)
    have HSE : Aside0 (StoAt B s d (l ++ [text]) AL t ((w8.setCell ⟨s, 1, none⟩ (.slice (some ⟨gg, 0, none⟩) (l.length + 1) cap)).setCell ⟨s, 2, none⟩ (.string AL))) := ⟨⟨(.slice (some ⟨gg, 0, none⟩) (l.length + 1) cap), HV7.out.1, P10, by
      rw [List.length_append, List.map_append]
      exact own_move hown1 (fun k hk => by
        have hne : k ≠ s := fun e => Go.Proofs.YtbkbganflnemeaaW.PrintWords.own_ne hown1 P8 (by decide) (by rw [hk, e])
        rw [Below.heap_setCell _ ⟨s, 2, none⟩ _ k hne, Below.heap_setCell _ ⟨s, 1, none⟩ _ k hne])⟩⟩
    have HDE : Aside0 (∃ nw', DevAt d g R.1 R.2.1 R.2.2 nw' ((w8.setCell ⟨s, 1, none⟩ (.slice (some ⟨gg, 0, none⟩) (l.length + 1) cap)).setCell ⟨s, 2, none⟩ (.string AL))) := ⟨HD6.out.imp fun nw' h => ((devGrown (h.below (below_alloc (Below.refl _ _) (.cells #[.string text] 9))) HV7.out.2.2 hgrow).far P8 1 _).far P9 2 _⟩
    have HFE : Aside0 (FrT B d g w' ((w8.setCell ⟨s, 1, none⟩ (.slice (some ⟨gg, 0, none⟩) (l.length + 1) cap)).setCell ⟨s, 2, none⟩ (.string AL))) := ⟨((FrT.of_frv (HF6.out.trans (FrV.of_below (below_alloc (Below.refl _ _) (.cells #[.string text] 9))))).trans (FrT.of_grown hgrow (fun k hk => own_base HV7.out.2.2 k hk))).trans ((FrT.set _ HV7.out.1 1 _).trans (FrT.set _ HV7.out.1 2 _))⟩
    go_ret
    rw [← HTX.out] at HAL
    rw [HTX.out] at HAL
    have hR2 : writesR L f t (b.size / 64) (b ++ TX) = R := by rw [HFR.out, HAL.out]; exact HR.out
    rw [hR2, HZ.out, HAL.out]
    exact ⟨rfl, HDE.out, fun _ => HSE.out, fun h => absurd rfl h, HFE.out⟩
  · have e1 : (z != 0) = true := bne_iff_ne.2 hz0
    have HNZ := Aside0.mk hz0
    clear c3 c2 HW HS5 HD5 HB5 HS5D HD5D HB3 HBY hz0 q64 z64 K9 d1 d1b d2
    go_wp2_with (fail)
    go_ret
    have hR2 : writesR L f t (b.size / 64) (b ++ TX) = R := by rw [HFR.out, HAL.out]; exact HR.out
    rw [hR2, HZ.out]
    exact ⟨rfl, HD6.out, fun h => absurd h HNZ.out, fun _ => HS6.out, FrT.of_frv HF6.out⟩
end Go.Proofs.Ytbkbganflnemeaa.Pr
end

section
namespace Go.Proofs.Ytbkbganflnemeaa.Pr
open Go.RowKit Go.Deep Go.Maps Go.Proofs.YtbkbganflnemeaaW.PrintWords Go.Proofs.YtbkbganflnemeaaW.PrintLast Go.Proofs.YtbkbganflnemeaaW.PrintMore
set_option maxHeartbeats 4000000
set_option linter.unusedVariables false
set_option linter.unusedSimpArgs false
set_option maxRecDepth 100000 in
theorem Add_turn0 (B s d : Nat) (l : List ByteArray) (b : ByteArray) (text : ByteArray) (w : World) (hS : StoAt B s d l b 0 w) :
    Calls Try.prog 39 #[.pointer (some ⟨s, 0, none⟩), .string text] w fun e w' => e = .returned (.int .i64 2) ∧ Below w.heap.size w w' := by
  have HG := Aside0.mk (given_some B s d l b 0 w hS)
  have c3 := hS.turn
  clear hS
  go_enter Try.func39, Try.ntmps39
  go_wp2_with (fail)
  refine HG.out.mono ?_
  rintro e w' ⟨rfl, rfl⟩
  go_wp2_with (fail)
  refine start_ (n := 24) (S := fun w' => w'.cell? ⟨s, 3, none⟩ = some (.int .i64 0)) (ds := []) #[false, false, false, false, false, false, false, false, false, false, false, false, false, false, false, false, false, false, false, false, false, false, false, false] (by kernel_rfl) rfl rfl (c3) (fun hHeld => ?_)
  refine pure_ (i := 0) (N := some 10) (v := ?_) (a' := ?_) #[true, false, false, false, false, false, false, false, false, false, false, false, false, false, false, false, false, false, false, false, false, false, false, false] rfl rfl (by kernel_rfl) (fun _ _ _ h => h) (Or.inl ⟨by rfl, ?_⟩) ?_ ?_
  rotate_left
  · intro w'
    go_simp
    with_reducible rfl
  rotate_left
  · simp only [Act.put, List.setIfInBounds_toArray, List.set_cons_zero, List.set_cons_succ, i64_w, i32_w]
    rfl
  refine pure_ (i := 1) (N := some 11) (v := ?_) (a' := ?_) #[true, true, false, false, false, false, false, false, false, false, false, false, false, false, false, false, false, false, false, false, false, false, false, false] rfl rfl (by kernel_rfl) (fun _ _ _ h => h) (Or.inl ⟨by rfl, ?_⟩) ?_ ?_
  rotate_left
  · intro w'
    go_simp
    with_reducible rfl
  rotate_left
  · simp only [Act.put, List.setIfInBounds_toArray, List.set_cons_zero, List.set_cons_succ, i64_w, i32_w]
    rfl
  refine pure_ (i := 2) (N := some 12) (v := ?_) (a' := ?_) #[true, true, true, false, false, false, false, false, false, false, false, false, false, false, false, false, false, false, false, false, false, false, false, false] rfl rfl (by kernel_rfl) (fun _ _ _ h => h) (Or.inl ⟨by rfl, ?_⟩) ?_ ?_
  rotate_left
  · intro w'
    go_simp
    with_reducible rfl
  rotate_left
  · simp only [Act.put, List.setIfInBounds_toArray, List.set_cons_zero, List.set_cons_succ, i64_w, i32_w]
    rfl
  refine take_ (i := 3) (N := some 13) (v := ?_) (a' := ?_) #[true, true, true, true, false, false, false, false, false, false, false, false, false, false, false, false, false, false, false, false, false, false, false, false] rfl rfl (by kernel_rfl) (fun _ _ _ h => h) (Or.inl ⟨by rfl, ?_⟩) hHeld ?_ ?_
  rotate_left
  · intro w' s0
    go_simp
    with_reducible rfl
  rotate_left
  · simp only [Act.put, List.setIfInBounds_toArray, List.set_cons_zero, List.set_cons_succ, i64_w, i32_w]
    rfl
  refine pure_ (i := 4) (N := some 14) (v := ?_) (a' := ?_) #[true, true, true, true, true, false, false, false, false, false, false, false, false, false, false, false, false, false, false, false, false, false, false, false] rfl rfl (by kernel_rfl) (fun _ _ _ h => h) (Or.inl ⟨by rfl, ?_⟩) ?_ ?_
  rotate_left
  · intro w'
    go_simp
    with_reducible rfl
  rotate_left
  · simp only [Act.put, List.setIfInBounds_toArray, List.set_cons_zero, List.set_cons_succ, i64_w, i32_w]
    rfl
  refine pure_ (i := 5) (N := some 15) (v := ?_) (a' := ?_) #[true, true, true, true, true, true, false, false, false, false, false, false, false, false, false, false, false, false, false, false, false, false, false, false] rfl rfl (by kernel_rfl) (fun _ _ _ h => h) (Or.inl ⟨by rfl, ?_⟩) ?_ ?_
  rotate_left
  · intro w'
    go_simp
    with_reducible rfl
  rotate_left
  · simp only [Act.put, List.setIfInBounds_toArray, List.set_cons_zero, List.set_cons_succ, i64_w, i32_w]
    rfl
  refine pure_ (i := 6) (N := some 16) (v := undef) (a' := ?_) #[true, true, true, true, true, true, true, false, false, false, false, false, false, false, false, false, false, false, false, false, false, false, false, false] rfl rfl (by kernel_rfl) (fun _ _ _ h => h) (Or.inr ⟨by rfl, rfl⟩) ?_ ?_
  rotate_left
  · simp only [Act.put, List.setIfInBounds_toArray, List.set_cons_zero, List.set_cons_succ, i64_w, i32_w]
    rfl
  refine pure_ (i := 7) (N := some 17) (v := undef) (a' := ?_) #[true, true, true, true, true, true, true, true, false, false, false, false, false, false, false, false, false, false, false, false, false, false, false, false] rfl rfl (by kernel_rfl) (fun _ _ _ h => h) (Or.inr ⟨by rfl, rfl⟩) ?_ ?_
  rotate_left
  · simp only [Act.put, List.setIfInBounds_toArray, List.set_cons_zero, List.set_cons_succ, i64_w, i32_w]
    rfl
  refine pure_ (i := 8) (N := some 18) (v := undef) (a' := ?_) #[true, true, true, true, true, true, true, true, true, false, false, false, false, false, false, false, false, false, false, false, false, false, false, false] rfl rfl (by kernel_rfl) (fun _ _ _ h => h) (Or.inr ⟨by rfl, rfl⟩) ?_ ?_
  rotate_left
  · simp only [Act.put, List.setIfInBounds_toArray, List.set_cons_zero, List.set_cons_succ, i64_w, i32_w]
    rfl
  refine pure_ (i := 9) (N := some 19) (v := ?_) (a' := ?_) #[true, true, true, true, true, true, true, true, true, true, false, false, false, false, false, false, false, false, false, false, false, false, false, false] rfl rfl (by kernel_rfl) (fun _ _ _ h => h) (Or.inl ⟨by rfl, ?_⟩) ?_ ?_
  rotate_left
  · intro w'
    go_simp
    with_reducible rfl
  rotate_left
  · simp only [Act.put, List.setIfInBounds_toArray, List.set_cons_zero, List.set_cons_succ, i64_w, i32_w]
    rfl
  refine pure_ (i := 10) (N := some 20) (v := ?_) (a' := ?_) #[true, true, true, true, true, true, true, true, true, true, true, false, false, false, false, false, false, false, false, false, false, false, false, false] rfl rfl (by kernel_rfl) (fun _ _ _ h => h) (Or.inl ⟨by rfl, ?_⟩) ?_ ?_
  rotate_left
  · intro w'
    go_simp
    with_reducible rfl
  rotate_left
  · simp only [Act.put, List.setIfInBounds_toArray, List.set_cons_zero, List.set_cons_succ, i64_w, i32_w]
    rfl
  refine pure_ (i := 11) (N := some 21) (v := undef) (a' := ?_) #[true, true, true, true, true, true, true, true, true, true, true, true, false, false, false, false, false, false, false, false, false, false, false, false] rfl rfl (by kernel_rfl) (fun _ _ _ h => h) (Or.inr ⟨by rfl, rfl⟩) ?_ ?_
  rotate_left
  · simp only [Act.put, List.setIfInBounds_toArray, List.set_cons_zero, List.set_cons_succ, i64_w, i32_w]
    rfl
  refine pure_ (i := 12) (N := some 22) (v := undef) (a' := ?_) #[true, true, true, true, true, true, true, true, true, true, true, true, true, false, false, false, false, false, false, false, false, false, false, false] rfl rfl (by kernel_rfl) (fun _ _ _ h => h) (Or.inr ⟨by rfl, rfl⟩) ?_ ?_
  rotate_left
  · simp only [Act.put, List.setIfInBounds_toArray, List.set_cons_zero, List.set_cons_succ, i64_w, i32_w]
    rfl
  refine pure_ (i := 13) (N := some 23) (v := undef) (a' := ?_) #[true, true, true, true, true, true, true, true, true, true, true, true, true, true, false, false, false, false, false, false, false, false, false, false] rfl rfl (by kernel_rfl) (fun _ _ _ h => h) (Or.inr ⟨by rfl, rfl⟩) ?_ ?_
  rotate_left
  · simp only [Act.put, List.setIfInBounds_toArray, List.set_cons_zero, List.set_cons_succ, i64_w, i32_w]
    rfl
  refine pure_ (i := 14) (N := some 24) (v := undef) (a' := ?_) #[true, true, true, true, true, true, true, true, true, true, true, true, true, true, true, false, false, false, false, false, false, false, false, false] rfl rfl (by kernel_rfl) (fun _ _ _ h => h) (Or.inr ⟨by rfl, rfl⟩) ?_ ?_
  rotate_left
  · simp only [Act.put, List.setIfInBounds_toArray, List.set_cons_zero, List.set_cons_succ, i64_w, i32_w]
    rfl
  refine pure_ (i := 15) (N := some 25) (v := undef) (a' := ?_) #[true, true, true, true, true, true, true, true, true, true, true, true, true, true, true, true, false, false, false, false, false, false, false, false] rfl rfl (by kernel_rfl) (fun _ _ _ h => h) (Or.inr ⟨by rfl, rfl⟩) ?_ ?_
  rotate_left
  · simp only [Act.put, List.setIfInBounds_toArray, List.set_cons_zero, List.set_cons_succ, i64_w, i32_w]
    rfl
  refine pure_ (i := 16) (N := some 26) (v := undef) (a' := ?_) #[true, true, true, true, true, true, true, true, true, true, true, true, true, true, true, true, true, false, false, false, false, false, false, false] rfl rfl (by kernel_rfl) (fun _ _ _ h => h) (Or.inr ⟨by rfl, rfl⟩) ?_ ?_
  rotate_left
  · simp only [Act.put, List.setIfInBounds_toArray, List.set_cons_zero, List.set_cons_succ, i64_w, i32_w]
    rfl
  refine pure_ (i := 17) (N := some 27) (v := undef) (a' := ?_) #[true, true, true, true, true, true, true, true, true, true, true, true, true, true, true, true, true, true, false, false, false, false, false, false] rfl rfl (by kernel_rfl) (fun _ _ _ h => h) (Or.inr ⟨by rfl, rfl⟩) ?_ ?_
  rotate_left
  · simp only [Act.put, List.setIfInBounds_toArray, List.set_cons_zero, List.set_cons_succ, i64_w, i32_w]
    rfl
  refine pure_ (i := 18) (N := some 28) (v := undef) (a' := ?_) #[true, true, true, true, true, true, true, true, true, true, true, true, true, true, true, true, true, true, true, false, false, false, false, false] rfl rfl (by kernel_rfl) (fun _ _ _ h => h) (Or.inr ⟨by rfl, rfl⟩) ?_ ?_
  rotate_left
  · simp only [Act.put, List.setIfInBounds_toArray, List.set_cons_zero, List.set_cons_succ, i64_w, i32_w]
    rfl
  refine pure_ (i := 19) (N := some 29) (v := undef) (a' := ?_) #[true, true, true, true, true, true, true, true, true, true, true, true, true, true, true, true, true, true, true, true, false, false, false, false] rfl rfl (by kernel_rfl) (fun _ _ _ h => h) (Or.inr ⟨by rfl, rfl⟩) ?_ ?_
  rotate_left
  · simp only [Act.put, List.setIfInBounds_toArray, List.set_cons_zero, List.set_cons_succ, i64_w, i32_w]
    rfl
  refine pure_ (i := 20) (N := some 30) (v := undef) (a' := ?_) #[true, true, true, true, true, true, true, true, true, true, true, true, true, true, true, true, true, true, true, true, true, false, false, false] rfl rfl (by kernel_rfl) (fun _ _ _ h => h) (Or.inr ⟨by rfl, rfl⟩) ?_ ?_
  rotate_left
  · simp only [Act.put, List.setIfInBounds_toArray, List.set_cons_zero, List.set_cons_succ, i64_w, i32_w]
    rfl
  refine pure_ (i := 21) (N := some 31) (v := undef) (a' := ?_) #[true, true, true, true, true, true, true, true, true, true, true, true, true, true, true, true, true, true, true, true, true, true, false, false] rfl rfl (by kernel_rfl) (fun _ _ _ h => h) (Or.inr ⟨by rfl, rfl⟩) ?_ ?_
  rotate_left
  · simp only [Act.put, List.setIfInBounds_toArray, List.set_cons_zero, List.set_cons_succ, i64_w, i32_w]
    rfl
  refine pure_ (i := 22) (N := some 32) (v := undef) (a' := ?_) #[true, true, true, true, true, true, true, true, true, true, true, true, true, true, true, true, true, true, true, true, true, true, true, false] rfl rfl (by kernel_rfl) (fun _ _ _ h => h) (Or.inr ⟨by rfl, rfl⟩) ?_ ?_
  rotate_left
  · simp only [Act.put, List.setIfInBounds_toArray, List.set_cons_zero, List.set_cons_succ, i64_w, i32_w]
    rfl
  refine pure_ (i := 23) (N := some 33) (v := ?_) (a' := ?_) #[true, true, true, true, true, true, true, true, true, true, true, true, true, true, true, true, true, true, true, true, true, true, true, true] rfl rfl (by kernel_rfl) (fun _ _ _ h => h) (Or.inl ⟨by rfl, ?_⟩) ?_ ?_
  rotate_left
  · intro w'
    go_simp
    with_reducible rfl
  rotate_left
  · simp only [Act.put, List.setIfInBounds_toArray, List.set_cons_zero, List.set_cons_succ, i64_w, i32_w]
    rfl
  refine done_ (by kernel_rfl) ?_
  go_wp2_with (fail)
  go_ret
  exact ⟨rfl, below_drew1 (Below.refl _ _)⟩
set_option maxRecDepth 100000 in
theorem Behind_one (B s d : Nat) (x : ByteArray) (b : ByteArray) (t : Int) (w : World) (h : StoAt B s d [x] b t w) : Calls Try.prog 37 #[.pointer (some ⟨s, 0, none⟩)] w fun e w' => e = .returned (.slice none 0 0) ∧ Below w.heap.size w w' := by
  have HG := Aside0.mk (given_some B s d [x] b t w h)
  obtain ⟨v, hv⟩ := h
  obtain ⟨c0, c1, c2, c3⟩ := hv.cells
  rcases hv.2.2.2 with ⟨_, h0⟩ | ⟨g, cap, cur, rfl, hg, hh, hcap, hmax, hsz, hr⟩
  · exact absurd h0 (by simp)
  have hcap2 : 1 ≤ cap := hcap
  have k1 := eq_true hcap2
  have k1i := eq_true (show (1 : Int) ≤ (cap : Int) by omega)
  clear hv c0 c2 c3 hr hsz hcap
  go_enter Try.func37, Try.ntmps37
  go_wp2_with (fail)
  refine HG.out.mono ?_
  rintro e w' ⟨rfl, rfl⟩
  go_wp2_with (fail)
  all_goals
    go_ret
    exact ⟨rfl, Below.refl _ _⟩
end Go.Proofs.Ytbkbganflnemeaa.Pr
end

section
namespace Go.Proofs.Ytbkbganflnemeaa.Pr
open Go.RowKit Go.Deep Go.Maps Go.Proofs.YtbkbganflnemeaaW.PrintWords Go.Proofs.YtbkbganflnemeaaW.PrintLast Go.Proofs.YtbkbganflnemeaaW.PrintMore
set_option maxHeartbeats 4000000
set_option linter.unusedVariables false
set_option linter.unusedSimpArgs false
set_option maxRecDepth 100000 in
theorem Behind_more (B s d : Nat) (x y : ByteArray) (l : List ByteArray) (b : ByteArray) (t : Int) (w : World) (h : StoAt B s d (x :: y :: l) b t w) (hl : l.length ≤ 131072) : Calls Try.prog 37 #[.pointer (some ⟨s, 0, none⟩)] w fun e w' => ∃ v', e = .returned v' ∧ w'.ownsRow w.heap.size 9 1 v' (l.length + 1) ((y :: l).map Value.string) ∧ Below w.heap.size w w' := by
  have HG := Aside0.mk (given_some B s d (x :: y :: l) b t w h)
  obtain ⟨v, hv⟩ := h
  obtain ⟨c0, c1, c2, c3⟩ := hv.cells
  rcases hv.2.2.2 with ⟨_, h0⟩ | ⟨g, cap, cur, rfl, hg, hh, hcap, hmax, hsz, hr⟩
  · exact absurd h0 (by simp)
  have HNW : Aside0 (∀ j u, ((y :: l).map Value.string)[j]? = some u → w.cell? ((⟨g, 1, none⟩ : Addr).add j) = some u) := ⟨fun j u hu => by
    have e1 : (⟨g, 1, none⟩ : Addr).add j = ⟨g, 1 + j, none⟩ := by unfold Addr.add; split <;> simp_all
    rw [e1, cell_of_row _ _ _ _ _ _ hh]
    have h3 : (cur.toList.take ((x :: y :: l).length * 1))[1 + j]? = some u := by
      rw [hr, List.map_cons, Nat.add_comm, List.getElem?_cons_succ]
      exact hu
    rw [List.getElem?_take] at h3
    split at h3
    · rw [← Array.getElem?_toList]
      exact h3
    · cases h3⟩
  have hn : (x :: y :: l).length = l.length + 2 := rfl
  have hcap2 : l.length + 2 ≤ cap := hcap
  have HCP := Aside0.mk hcap2
  have k1 := eq_true (show 1 ≤ cap by omega)
  have k1i := eq_true (show (1 : Int) ≤ (cap : Int) by omega)
  have k2 := eq_true (show 1 ≤ l.length + 2 by omega)
  have k2i := eq_true (show (1 : Int) ≤ (l.length : Int) + 2 by omega)
  have kz : ((l.length : Int) + 2 == 0) = false := by rw [beq_eq_false_iff_ne]; omega
  have k3 : (cap = 1) = False := eq_false (by omega)
  rw [hn] at c1
  have HLL := Aside0.mk hl
  obtain ⟨ie, hie, hy0, hy1, hy2⟩ := info_parts info9
  clear hv c0 c2 c3 hr hsz hcap hcap2 hn hl
  go_enter Try.func37, Try.ntmps37
  go_wp2_with (fail)
  refine HG.out.mono ?_
  rintro e w' ⟨rfl, rfl⟩
  go_wp2_with (at_builtin; refine wpList_append_lies _ rfl _ _ _ rfl w'.heap.size 9 ie (.string ⟨#[]⟩) 1 16 Try.underlying46 hie hy0 hy1 hy2 rfl (by decide) (.slice none 0 0) 0 [] rfl ⟨rfl, .inl ⟨rfl, rfl⟩⟩ ⟨g, 1, none⟩ (l.length + 1) (cap - 1) ((y :: l).map Value.string) rfl (by simp) HNW.out (fun u hu => by obtain ⟨z, _, rfl⟩ := List.mem_map.1 hu; rfl) (by omega) (by have := HLL.out; unfold maxLen; omega) (by have := HLL.out; omega) (Nat.le_refl _) w'.heap.size rfl ?_; intro gg cp w8 hown1 hgrow hat hlt5)
  go_ret
  refine ⟨_, rfl, ?_, ?_⟩
  · simpa using hown1
  · exact (Below.refl _ _).grown hgrow (Nat.le_refl _) (fun k hk => by simp [Value.ownBlock] at hk)
end Go.Proofs.Ytbkbganflnemeaa.Pr
end

section
namespace Go.Proofs.Ytbkbganflnemeaa.Pr
open Go.RowKit Go.Deep Go.Maps Go.Proofs.YtbkbganflnemeaaW.PrintWords Go.Proofs.YtbkbganflnemeaaW.PrintLast Go.Proofs.YtbkbganflnemeaaW.PrintMore
set_option maxHeartbeats 2000000
set_option linter.unusedVariables false
set_option linter.unusedSimpArgs false
theorem errW3_on {r : List ByteArray × Int × Bool} (h : r.2 = (-1, false)) : errW3 r = 0 := by
  unfold errW3
  rw [h]
  rfl
theorem FrS.below {d g s B : Nat} {a b : World} (h : FrS d g s a b) (h1 : B ≤ d) (h2 : B ≤ g) (h3 : B ≤ s) (h4 : B ≤ a.heap.size) : Below B a b := ⟨h.1, h.2.1, h.2.2.1, h.2.2.2.1, fun k hk => h.2.2.2.2 k (by omega) (by omega) (by omega) (by omega)⟩
theorem FrT.below {d g B C : Nat} {a b : World} (h : FrT C d g a b) (h1 : B ≤ d) (h2 : B ≤ g) (h3 : B ≤ C) (h4 : B ≤ a.heap.size) : Below B a b := ⟨h.1, h.2.1, h.2.2.1, h.2.2.2.1, fun k hk => h.2.2.2.2 k (by omega) (by omega) (by omega) (by omega)⟩
theorem Lay_on (B s d g : Nat) (l : List ByteArray) (b : ByteArray) (t : Int) (L : List ByteArray) (nw : Int) (text : ByteArray) (w : World) (hS : StoAt B s d l b t w) (hD : DevAt d g L (-1) false nw w) (hL2 : 2 ≤ L.length) (hL : L.length ≤ 4096) (ht : 0 ≤ t ∧ t < 1099511627775) (hx : text.size ≤ 32768) (hr : (text.size + 2 + 63) / 64 < L.length / 2) (hb : (bestP L 2).1 = t) :
    Calls Try.prog 35 #[.pointer (some ⟨s, 0, none⟩), .string text] w fun e w' => e = .returned (.int .i64 0) ∧
      ∃ L' nw', DevAt d g L' (-1) false nw' w' ∧ L'.length = L.length ∧ bestP L' 2 = (t + 1, txB text, [text]) ∧ StoAt B s d [text] (txt (txB text)) (t + 1) w' ∧ FrS d g s w w' := by
  obtain ⟨g1, g2, g3, g4⟩ := best_lay L t text hb ht.1 ht.2 hx hr
  refine (Lay_sto B s d g l b t L (-1) nw text w hS hD hL2 hL (by decide) ht hx hr).mono ?_
  rintro e w' ⟨he, ⟨nw', hd⟩, h0, _, hf⟩
  rw [errW3_on g1] at he h0
  rw [g1] at hd
  exact ⟨he, _, nw', hd, g2, g3, h0 rfl, hf⟩
theorem Add_on (B s d g : Nat) (l : List ByteArray) (b : List Nat) (t : Int) (L : List ByteArray) (nw : Int) (text : ByteArray) (w : World) (hS : StoAt B s d l (txt b) t w) (hD : DevAt d g L (-1) false nw w) (hL2 : 2 ≤ L.length) (hL : L.length ≤ 4096) (ht : 1 ≤ t ∧ t ≤ 1099511627775) (hx : text.size ≤ 32768) (hbz : b.length ≤ 131072) (hll : l.length ≤ 131072) (hr : (b.length + (text.size + 2) + 63) / 64 < L.length / 2) (hb : bestP L 2 = (t, b, l)) :
    Calls Try.prog 39 #[.pointer (some ⟨s, 0, none⟩), .string text] w fun e w' => e = .returned (.int .i64 0) ∧
      ∃ L' nw', DevAt d g L' (-1) false nw' w' ∧ L'.length = L.length ∧ bestP L' 2 = (t, b ++ txB text, l ++ [text]) ∧ StoAt B s d (l ++ [text]) (txt (b ++ txB text)) t w' ∧ FrT B d g w w' := by
  obtain ⟨g1, g2, g3, g4⟩ := best_add L t b l text hb ht.1 hD.siz hx (by omega) hr
  have hz : (txt b).size = b.length := txt_size _
  have h := Add_sto B s d g l (txt b) t L (-1) nw text w hS hD hL2 hL (by decide) ht hx (by omega) hll (by rw [hz]; exact hr)
  rw [hz] at h
  refine h.mono ?_
  rintro e w' ⟨he, ⟨nw', hd⟩, h0, _, hf⟩
  rw [errW3_on g1] at he h0
  rw [g1] at hd
  rw [txt_append]
  exact ⟨he, _, nw', hd, g2, g3, h0 rfl, hf⟩
end Go.Proofs.Ytbkbganflnemeaa.Pr
end

section
namespace Go.Proofs.Ytbkbganflnemeaa.Pr
open Go.RowKit Go.Deep Go.Maps Go.Proofs.YtbkbganflnemeaaW.PrintWords Go.Proofs.YtbkbganflnemeaaW.PrintLast Go.Proofs.YtbkbganflnemeaaW.PrintMore
set_option maxHeartbeats 2000000
set_option linter.unusedVariables false
set_option linter.unusedSimpArgs false
theorem halfB_get (L : List ByteArray) (which i : Nat) (hw : which ≤ 1) (hi : i < L.length / 2) : (halfB which L)[i]? = L[which * (L.length / 2) + i]? := by
  unfold halfB
  rw [List.getElem?_take, if_pos hi, List.getElem?_drop]
theorem halfB_length (L : List ByteArray) (which : Nat) (hw : which ≤ 1) : (halfB which L).length = L.length / 2 := by
  unfold halfB
  rw [List.length_take, List.length_drop]
  rcases (show which = 0 ∨ which = 1 by omega) with h | h <;> rw [h] <;> omega
theorem halfB_mem {L : List ByteArray} {which : Nat} {x : ByteArray} (h : x ∈ halfB which L) : x ∈ L := List.mem_of_mem_drop (List.mem_of_mem_take h)
theorem take_head (X : List ByteArray) (h : ∀ x ∈ X, x.size = 64) (s : ByteArray) (hs : X[0]? = some s) : (catL X).take 64 = bys s := by
  have := catL_blk X h 0 s hs
  rwa [Nat.mul_zero, List.drop_zero] at this
end Go.Proofs.Ytbkbganflnemeaa.Pr
end

section
namespace Go.Proofs.Ytbkbganflnemeaa.Pr
open Go.RowKit Go.Proofs.YtbkbganflnemeaaW.PrintWords Go.Proofs.YtbkbganflnemeaaW.PrintLast Go.Proofs.YtbkbganflnemeaaW.PrintMore
attribute [local go_sem] max2_int min2_int max_two min_two max_three min_three max_four min_four   -- for this text's walks alone
set_option linter.unusedVariables false
set_option linter.unusedSimpArgs false
def samphireref08_Same.l0 : Nat → List ByteArray → List ByteArray → Int → Option (Bool)
  | 0, _, _, _ => none
  | k + 1, x0, x1, x5 => if x5 < (x0.length : Int) then (if 0 ≤ x5 then (if x5 < (x1.length : Int) then (if (rdOf ByteArray.empty x0 x5).toList = (rdOf ByteArray.empty x1 x5).toList then (samphireref08_Same.l0 k x0 x1 (wrap64 (x5 + 1))) else (some false)) else (none)) else (none)) else (some true)
def samphireref08_Same.f (k : Nat) (l0 : List ByteArray) (l1 : List ByteArray) : Option (Bool) := if (l0.length : Int) = (l1.length : Int) then (samphireref08_Same.l0 k l0 l1 0) else (some false)
set_option maxHeartbeats 8000000 in
set_option maxRecDepth 100000 in
theorem samphireref08_Same.calls (k : Nat) (A0 : Option Addr) (c0 : Nat) (l0 : List ByteArray) (A1 : Option Addr) (c1 : Nat) (l1 : List ByteArray) (r : Bool) (w : World) (hr0 : Kd.C Kd.string w A0 l0.length l0) (hc0 : l0.length ≤ c0) (hr1 : Kd.C Kd.string w A1 l1.length l1) (hc1 : l1.length ≤ c1) (h : samphireref08_Same.f k l0 l1 = some r) :
    Calls Try.prog 47 #[.slice A0 l0.length c0, .slice A1 l1.length c1] w fun e w' => e = .returned (.bool r) ∧ Drawn0 w w' := by
  have HR0 := Aside0.mk hr0
  have HC0 := Aside0.mk hc0
  clear hr0 hc0
  have HR1 := Aside0.mk hr1
  have HC1 := Aside0.mk hc1
  clear hr1 hc1
  have H : (if (l0.length : Int) = (l1.length : Int) then (samphireref08_Same.l0 k l0 l1 0) else (some false)) = some r := h
  clear h
  by_cases c3 : (l0.length : Int) = (l1.length : Int)
  · rw [if_pos c3] at H
    have c3b0 : ((l0.length : Int) == (l1.length : Int)) = true := beq_iff_eq.mpr c3
    have c3b1 : ((l0.length : Int) != (l1.length : Int)) = false := bne_eq_false_iff_eq.mpr c3
    have c3b2 : (l0.length == l1.length) = true := by first | simpa using c3 | (simp at c3 ⊢; omega)
    clear c3
    have H' := Aside0.mk H
    clear H
    go_enter Try.func47, Try.ntmps47
    go_wp2
    repeat (go_quiet (fail); try go_wp2)
    go_loopg [5] k (fun kq v5 w' => ∃ (x5_1 : Int), v5 = .int .i64 x5_1 ∧ Aside0 (samphireref08_Same.l0 kq l0 l1 x5_1 = some r) ∧ Aside0 (kq ≤ k) ∧ Drawn0 w w')
    case atStart => exact ⟨(0), (by first | rfl | (simp; done) | (simp [*]; done)), H', ⟨Nat.le_refl _⟩, by repeat (first | exact Drawn0.refl _ | apply Drawn0.step)⟩
    case round =>
      clear H'
      try clear c1
      try clear p2
      try clear c3
      try clear c3b0
      try clear c3b1
      try clear c3b2
      obtain ⟨x5_1, rfl, HA, HK1, ⟨m1, rfl⟩⟩ := hrel
      cases gk with
      | zero => exact absurd HA.out (by simp [samphireref08_Same.l0])
      | succ k1 =>
        have H := HA.out
        clear HA
        simp only [samphireref08_Same.l0] at H
        by_cases c4 : x5_1 < (l0.length : Int)
        · rw [if_pos c4] at H
          have c4b0 : decide (x5_1 < (l0.length : Int)) = true := decide_eq_true c4
          clear c4
          by_cases c5 : 0 ≤ x5_1
          · rw [if_pos c5] at H
            have c5b0 : decide (0 ≤ x5_1) = true := decide_eq_true c5
            clear c5
            by_cases c6 : x5_1 < (l1.length : Int)
            · rw [if_pos c6] at H
              have c6b0 : decide (x5_1 < (l1.length : Int)) = true := decide_eq_true c6
              clear c6
              by_cases c7 : (rdOf ByteArray.empty l0 x5_1).toList = (rdOf ByteArray.empty l1 x5_1).toList
              · rw [if_pos c7] at H
                have c7b0 : ((rdOf ByteArray.empty l0 x5_1).toList == (rdOf ByteArray.empty l1 x5_1).toList) = true := beq_iff_eq.mpr c7
                have c7b1 : ((rdOf ByteArray.empty l0 x5_1).toList != (rdOf ByteArray.empty l1 x5_1).toList) = false := bne_eq_false_iff_eq.mpr c7
                clear c7
                have H' := Aside0.mk H
                clear H
                have p414 : 0 ≤ (x5_1 : Int) := of_decide_eq_true (by first | (with_reducible assumption) | assumption)
                have q414 : x5_1 < (l0.length : Int) := of_decide_eq_true (by first | (with_reducible assumption) | assumption)
                obtain ⟨ad414, e414, hx414_0⟩ := Kd.at_string HR0.out x5_1 p414 q414
                cases e414
                replace p414 := eq_true p414
                replace q414 := eq_true q414
                have p415 : 0 ≤ (x5_1 : Int) := of_decide_eq_true (by first | (with_reducible assumption) | assumption)
                have q415 : x5_1 < (l1.length : Int) := of_decide_eq_true (by first | (with_reducible assumption) | assumption)
                obtain ⟨ad415, e415, hx415_0⟩ := Kd.at_string HR1.out x5_1 p415 q415
                cases e415
                replace p415 := eq_true p415
                replace q415 := eq_true q415
                go_wp2
                repeat (go_quiet (fail); try go_wp2)
                go_roundg k1
                case measure => have := HK1.out; omega
                case rel => exact ⟨(wrap64 (x5_1 + 1)), (by first | rfl | (simp; done) | (simp [*]; done)), H', ⟨by have := HK1.out; omega⟩, by repeat (first | exact Drawn0.refl _ | apply Drawn0.step)⟩
              · rw [if_neg c7] at H
                have c7b0 : ((rdOf ByteArray.empty l0 x5_1).toList == (rdOf ByteArray.empty l1 x5_1).toList) = false := beq_eq_false_iff_ne.mpr c7
                have c7b1 : ((rdOf ByteArray.empty l0 x5_1).toList != (rdOf ByteArray.empty l1 x5_1).toList) = true := bne_iff_ne.mpr c7
                obtain rfl := Option.some.inj H
                have p414 : 0 ≤ (x5_1 : Int) := of_decide_eq_true (by first | (with_reducible assumption) | assumption)
                have q414 : x5_1 < (l0.length : Int) := of_decide_eq_true (by first | (with_reducible assumption) | assumption)
                obtain ⟨ad414, e414, hx414_0⟩ := Kd.at_string HR0.out x5_1 p414 q414
                cases e414
                replace p414 := eq_true p414
                replace q414 := eq_true q414
                have p415 : 0 ≤ (x5_1 : Int) := of_decide_eq_true (by first | (with_reducible assumption) | assumption)
                have q415 : x5_1 < (l1.length : Int) := of_decide_eq_true (by first | (with_reducible assumption) | assumption)
                obtain ⟨ad415, e415, hx415_0⟩ := Kd.at_string HR1.out x5_1 p415 q415
                cases e415
                replace p415 := eq_true p415
                replace q415 := eq_true q415
                go_wp2
                repeat (go_quiet (fail); try go_wp2)
                go_ret
                exact ⟨by first | rfl | (simp; done) | (simp [*]; done), by repeat (first | exact Drawn0.refl _ | apply Drawn0.step)⟩
            · rw [if_neg c6] at H
              exact absurd H (by simp)
          · rw [if_neg c5] at H
            exact absurd H (by simp)
        · rw [if_neg c4] at H
          have c4b0 : decide (x5_1 < (l0.length : Int)) = false := decide_eq_false c4
          clear c4
          obtain rfl := Option.some.inj H
          go_wp2
          repeat (go_quiet (fail); try go_wp2)
          go_ret
          exact ⟨by first | rfl | (simp; done) | (simp [*]; done), by repeat (first | exact Drawn0.refl _ | apply Drawn0.step)⟩
  · rw [if_neg c3] at H
    have c3b0 : ((l0.length : Int) == (l1.length : Int)) = false := beq_eq_false_iff_ne.mpr c3
    have c3b1 : ((l0.length : Int) != (l1.length : Int)) = true := bne_iff_ne.mpr c3
    have c3b2 : (l0.length == l1.length) = false := by first | simpa using c3 | (simp at c3 ⊢; omega)
    obtain rfl := Option.some.inj H
    go_enter Try.func47, Try.ntmps47
    go_wp2
    repeat (go_quiet (fail); try go_wp2)
    go_ret
    exact ⟨by first | rfl | (simp; done) | (simp [*]; done), by repeat (first | exact Drawn0.refl _ | apply Drawn0.step)⟩
end Go.Proofs.Ytbkbganflnemeaa.Pr
end

section
namespace Go.Proofs.Ytbkbganflnemeaa.Pr
open Go.RowKit Go.Deep Go.Maps Go.Proofs.YtbkbganflnemeaaW.PrintWords Go.Proofs.YtbkbganflnemeaaW.PrintLast Go.Proofs.YtbkbganflnemeaaW.PrintMore
set_option maxHeartbeats 4000000
set_option linter.unusedVariables false
set_option linter.unusedSimpArgs false
def sA : ByteArray := ⟨#[97]⟩
def sB : ByteArray := ⟨#[98]⟩
theorem same_self_l : ∀ (k : Nat) (l : List ByteArray) (i : Nat), l.length ≤ i + k → i ≤ l.length → l.length < 1000000 → samphireref08_Same.l0 (k + 1) l l (i : Int) = some true
  | 0, l, i, h, h2, h3 => by
    unfold samphireref08_Same.l0
    rw [if_neg (by omega)]
  | k + 1, l, i, h, h2, h3 => by
    unfold samphireref08_Same.l0
    by_cases hl : i < l.length
    · rw [if_pos (by omega), if_pos (by omega), if_pos (by omega), if_pos rfl, show wrap64 ((i : Int) + 1) = ((i + 1 : Nat) : Int) by unfold wrap64; omega]
      exact same_self_l k l (i + 1) (by omega) (by omega) h3
    · rw [if_neg (by omega)]
theorem same_self (l : List ByteArray) (h : l.length < 1000000) : samphireref08_Same.f (l.length + 1) l l = some true := by
  unfold samphireref08_Same.f
  rw [if_pos rfl]
  exact same_self_l l.length l 0 (by omega) (by omega) h
theorem C_of_own {B e : Nat} {v : Value} {l : List ByteArray} {w : World} (h : w.ownsRow B e 1 v l.length (l.map Value.string)) : ∃ A c, v = .slice A l.length c ∧ l.length ≤ c ∧ Kd.C Kd.string w A l.length l :=
  Kd.R_reads (Kd.R_of_own (ok := fun _ => True) (h1 := fun _ => rfl) h (fun _ _ => trivial))
theorem StoAt.below_B {B s d B' : Nat} {l : List ByteArray} {b : ByteArray} {t : Int} {w : World} (h : StoAt B s d l b t w) (hb : B' ≤ B) : B' ≤ s := by
  obtain ⟨v, q⟩ := h
  exact Nat.le_trans hb q.1
set_option maxRecDepth 100000 in
theorem sawake_calls (w : World) : Calls Try.prog 34 #[] w fun e w' => e = .returned (.bool true) ∧ Below w.heap.size w w' := by
  have HSM := Aside0.mk (same_self [sB] (by decide))
  go_enter Try.func34, Try.ntmps34
  go_wp2_with (fail)
  refine (New_dev 8 (by decide) (by decide) w).mono ?_
  rintro e w1 ⟨rfl, hD, hb⟩
  have HD1 := Aside0.mk hD
  have HB1 := Aside0.mk hb
  have HL0 : Aside0 ((List.replicate 8 zblk).length = 8 ∧ bestP (List.replicate 8 zblk) 2 = (0, [], [])) := ⟨⟨List.length_replicate, best_zero 8 (by decide)⟩⟩
  clear hD hb
  generalize List.replicate 8 zblk = L0 at *
  go_wp2_with (fail)
  have ho := Open_dev _ _ L0 (-1) 0 w1 HD1.out (by rw [HL0.out.1]; decide) (by rw [HL0.out.1]; decide)
  rw [HL0.out.2] at ho
  refine ho.mono ?_
  clear ho
  rintro e w2 ⟨hb, s, rfl, hs⟩
  have HS2 := Aside0.mk hs
  have HD2 := Aside0.mk (HD1.out.below hb)
  have HB2 := Aside0.mk (show Below w.heap.size w w2 from below_then HB1.out HB1.out.size hb)
  have HW1 := Aside0.mk HB1.out.size
  clear hs hb HD1 HB1
  go_wp2_with (fail)
  refine (Add_turn0 w1.heap.size s _ [] _ _ w2 HS2.out).mono ?_
  rintro e w3 ⟨rfl, hb⟩
  have HS3 := Aside0.mk (HS2.out.below hb)
  have HD3 := Aside0.mk (HD2.out.below hb)
  have HB3 := Aside0.mk (show Below w.heap.size w w3 from below_then HB2.out HB2.out.size hb)
  clear hb HS2 HD2 HB2
  go_wp2_with (fail)
  refine (Lay_on w1.heap.size s _ _ [] _ 0 L0 0 sA w3 HS3.out HD3.out (by rw [HL0.out.1]; decide) (by rw [HL0.out.1]; decide) (by decide) (by decide) (by rw [HL0.out.1]; decide) (by rw [HL0.out.2])).mono ?_
  rintro e w4 ⟨rfl, L1, nw1, hd, hl, hbest, hs, hf⟩
  have HS4 := Aside0.mk hs
  have HD4 := Aside0.mk hd
  have HL1 := Aside0.mk (show L1.length = 8 ∧ bestP L1 2 = (1, txB sA, [sA]) from ⟨hl.trans HL0.out.1, hbest⟩)
  have HB4 := Aside0.mk (show Below w.heap.size w w4 from HB3.out.trans (hf.below (by omega) (by omega) (Nat.le_trans HW1.out (HS3.out.below_B (Nat.le_refl _))) HB3.out.size))
  clear hs hd hl hbest hf HS3 HD3 HB3 HL0
  go_wp2_with (fail)
  refine (Add_on w1.heap.size s _ _ [sA] (txB sA) 1 L1 nw1 sB w4 HS4.out HD4.out (by rw [HL1.out.1]; decide) (by rw [HL1.out.1]; decide) (by decide) (by decide) (by decide +kernel) (by decide) (by rw [HL1.out.1]; decide +kernel) HL1.out.2).mono ?_
  rintro e w5 ⟨rfl, L2, nw2, hd, hl, hbest, hs, hf⟩
  have HD5 := Aside0.mk hd
  have HL2 := Aside0.mk (show L2.length = 8 ∧ bestP L2 2 = (1, txB sA ++ txB sB, [sA, sB]) from ⟨hl.trans HL1.out.1, hbest⟩)
  have HB5 := Aside0.mk (show Below w.heap.size w w5 from HB4.out.trans (hf.below (by omega) (by omega) HW1.out HB4.out.size))
  clear hs hd hl hbest hf HS4 HD4 HB4 HL1
  go_wp2_with (fail)
  have ho := Open_dev _ _ L2 (-1) nw2 w5 HD5.out (by rw [HL2.out.1]; decide) (by rw [HL2.out.1]; decide)
  rw [HL2.out.2] at ho
  refine ho.mono ?_
  clear ho
  rintro e w6 ⟨hb, s2, rfl, hs⟩
  have HS6 := Aside0.mk hs
  have HB6 := Aside0.mk (show Below w.heap.size w w6 from below_then HB5.out HB5.out.size hb)
  clear hs hb HD5 HB5
  go_wp2_with (fail)
  refine (Base_sto w5.heap.size s2 _ (⟨#[97]⟩ : ByteArray) [sB] _ _ w6 HS6.out).mono ?_
  rintro e w' ⟨rfl, rfl⟩
  go_wp2_with (fail)
  refine (Behind_more w5.heap.size s2 _ sA sB [] _ _ w' HS6.out (by decide)).mono ?_
  rintro e w7 ⟨v7, rfl, ho7, hb⟩
  have HS7 := Aside0.mk (HS6.out.below hb)
  have HB7 := Aside0.mk (show Below w.heap.size w w7 from below_then HB6.out HB6.out.size hb)
  have HO7 := Aside0.mk (C_of_own (l := [sB]) ho7)
  clear hb ho7 HS6 HB6
  obtain ⟨A7, c7, rfl, hc7, hC7⟩ := HO7.out
  have HC7 := Aside0.mk hC7
  have HK7 := Aside0.mk hc7
  clear hC7 hc7 HO7
  go_wp2_with (fail)
  have HC8 : Aside0 (Kd.C Kd.string (w7.alloc (Obj.cells #[Value.string ⟨#[98]⟩] 9)) (some ⟨w7.heap.size, 0, none⟩) [sB].length [sB]) := ⟨by
    obtain ⟨A, c, he, _, hC⟩ := C_of_own (l := [sB]) (sto_new w7.heap.size w7 sB (Nat.le_refl _))
    simp only [Value.slice.injEq] at he
    rw [he.1]
    exact hC⟩
  refine (samphireref08_Same.calls ([sB].length + 1) A7 c7 [sB] (some ⟨w7.heap.size, 0, none⟩) 1 [sB] true _ (Kd.C_below HC7.out (below_alloc (Below.refl _ _) _)) HK7.out HC8.out (Nat.le_refl _) HSM.out).mono ?_
  rintro e w8 ⟨rfl, hdr⟩
  have HS8 := Aside0.mk ((HS7.out.below (below_alloc (Below.refl _ _) (Obj.cells #[Value.string ⟨#[98]⟩] 9))).below hdr.below)
  have HB8 := Aside0.mk (show Below w.heap.size w w8 from below_then (below_alloc HB7.out _) (below_alloc HB7.out _).size hdr.below)
  clear hdr HS7 HB7 HC7 HC8 HK7 HSM
  go_wp2_with (fail)
  refine (Turn_sto w5.heap.size s2 _ [sA, sB] _ _ w8 HS8.out).mono ?_
  rintro e w' ⟨rfl, rfl⟩
  go_wp2_with (fail)
  go_ret
  exact ⟨rfl, HB8.out⟩
end Go.Proofs.Ytbkbganflnemeaa.Pr
end

section
namespace Go.Proofs.Ytbkbganflnemeaa.Pr
open Go.RowKit Go.Deep Go.Maps Go.Proofs.YtbkbganflnemeaaW.PrintWords Go.Proofs.YtbkbganflnemeaaW.PrintLast Go.Proofs.YtbkbganflnemeaaW.PrintMore
attribute [local go_sem] max2_int min2_int max_two min_two
set_option maxHeartbeats 4000000
set_option linter.unusedVariables false
set_option linter.unusedSimpArgs false
theorem Behind_any (B s d : Nat) (x : ByteArray) (l : List ByteArray) (b : ByteArray) (t : Int) (w : World) (h : StoAt B s d (x :: l) b t w) (hl : l.length ≤ 131072) : Calls Try.prog 37 #[.pointer (some ⟨s, 0, none⟩)] w fun e w' => ∃ v', e = .returned v' ∧ w'.ownsRow w.heap.size 9 1 v' l.length (l.map Value.string) ∧ Below w.heap.size w w' := by
  cases l with
  | nil => exact (Behind_one B s d x b t w h).mono fun e w' q => ⟨_, q.1, own_nil _ _ _ _, q.2⟩
  | cons y l => exact Behind_more B s d x y l b t w h (by simp at hl; omega)
end Go.Proofs.Ytbkbganflnemeaa.Pr
end

section
namespace Go.Proofs.Ytbkbganflnemeaa.Pr
open Go.RowKit Go.Deep Go.Maps Go.Proofs.YtbkbganflnemeaaW.PrintWords Go.Proofs.YtbkbganflnemeaaW.PrintLast Go.Proofs.YtbkbganflnemeaaW.PrintMore
set_option maxHeartbeats 8000000
set_option linter.unusedVariables false
set_option linter.unusedSimpArgs false
def Sl (B : Nat) (bv : Value) (l : List ByteArray) (w : World) : Prop :=
  (bv = .slice none 0 0 ∧ l = []) ∨ ∃ g o cap cs, bv = .slice (some ⟨g, o, none⟩) l.length cap ∧ B ≤ g ∧ w.heap[g]? = some (.cells cs 9 (0, 0)) ∧ (l.length ≤ cap ∧ l.length ≤ 1000000) ∧ ∀ j y, l[j]? = some y → cs[o + j]? = some (.string y)
theorem Sl.keep {B : Nat} {bv : Value} {l : List ByteArray} {w w' : World} (h : Sl B bv l w) (hk : ∀ g cs, B ≤ g → w.heap[g]? = some (.cells cs 9 (0, 0)) → w'.heap[g]? = w.heap[g]?) : Sl B bv l w' := by
  rcases h with h | ⟨g, o, cap, cs, h1, h2, h3, h4, h5⟩
  · exact .inl h
  · exact .inr ⟨g, o, cap, cs, h1, h2, (hk g cs h2 h3).trans h3, h4, h5⟩
theorem Sl.below {B : Nat} {bv : Value} {l : List ByteArray} {w w' : World} (h : Sl B bv l w) (hb : Below w.heap.size w w') : Sl B bv l w' := h.keep fun g cs _ hg => hb.block g (blk_lt hg)
theorem Sl.lower {B B' : Nat} {bv : Value} {l : List ByteArray} {w : World} (h : Sl B bv l w) (hb : B' ≤ B) : Sl B' bv l w := by
  rcases h with h | ⟨g, o, cap, cs, h1, h2, h3⟩
  · exact .inl h
  · exact .inr ⟨g, o, cap, cs, h1, Nat.le_trans hb h2, h3⟩
theorem Sl.C {B : Nat} {bv : Value} {l : List ByteArray} {w : World} (h : Sl B bv l w) : ∃ A c, bv = .slice A l.length c ∧ l.length ≤ c ∧ Kd.C Kd.string w A l.length l := by
  rcases h with ⟨rfl, rfl⟩ | ⟨g, o, cap, cs, rfl, h2, h3, h4, h5⟩
  · exact ⟨none, 0, rfl, Nat.le_refl _, rfl, by decide, fun h => absurd h (by decide)⟩
  · refine ⟨_, _, rfl, h4.1, Kd.C_of_reads (enc := Value.string) (d := ByteArray.empty) (h1 := fun _ => rfl) ⟨rfl, ?_, fun _ => ⟨_, rfl, fun j hj => ?_⟩⟩⟩
    · have := h4.2; omega
    · have e1 : (⟨g, o, none⟩ : Addr).add j = ⟨g, o + j, none⟩ := by unfold Addr.add; split <;> simp_all
      rw [e1, cell_of_row _ _ _ _ _ _ h3]
      rw [List.getD_eq_getElem?_getD, List.getElem?_eq_getElem hj]
      exact h5 j _ (List.getElem?_eq_getElem hj)
def RSt (B : Nat) (q : StoR) (sv : Value) (w : World) : Prop := ∃ bv, sv = .agg #[.string (q.2.2.headD ⟨#[]⟩), bv, .int .i64 q.1, .string (txt q.2.1)] ∧ Sl B bv q.2.2.tail w
theorem RSt.zero (B : Nat) (w : World) : RSt B (0, [], []) (.agg #[.string ⟨#[]⟩, .slice none 0 0, .int .i64 0, .string ⟨#[]⟩]) w := ⟨_, rfl, .inl ⟨rfl, rfl⟩⟩
theorem catL_half (L : List ByteArray) (which H : Nat) (hw : which ≤ 1) (hH : L.length / 2 = H) (h0 : 0 < H) (X : ByteArray) (hX : L[which * H]? = some X) (h64 : ∀ x ∈ L, x.size = 64) :
    (catL (halfB which L)).take 64 = bys X ∧ (catL (halfB which L)).drop 64 = catL ((L.drop (which * H + 1)).take (H - 1)) ∧ (catL (halfB which L)).length = 64 * H := by
  have hh : halfB which L = X :: (L.drop (which * H + 1)).take (H - 1) := by
    unfold halfB
    rw [hH]
    obtain ⟨hl, he⟩ := List.getElem?_eq_some_iff.1 hX
    rw [List.drop_eq_getElem_cons hl, he]
    obtain ⟨h1, rfl⟩ : ∃ m, H = m + 1 := ⟨H - 1, by omega⟩
    rfl
  have hXs : X.size = 64 := h64 X (List.mem_of_getElem? hX)
  have hc : catL (halfB which L) = bys X ++ catL ((L.drop (which * H + 1)).take (H - 1)) := by rw [hh, catL, List.flatMap_cons, ← catL]
  refine ⟨?_, ?_, ?_⟩
  · rw [hc]; exact List.take_left' (by rw [bys_length, hXs])
  · rw [hc]; exact List.drop_left' (by rw [bys_length, hXs])
  · rw [catL_length _ (fun x hx => h64 x (halfB_mem hx)), halfB_length _ _ hw, hH]
theorem halfP_none1 (which : Nat) (all : List Nat) (h : (numP (all.take 64)).2.2 ≠ 0 ∨ (numP (numP (all.take 64)).2.1).2.2 ≠ 0 ∨ (numP (all.take 64)).1 < 1 ∨ (numP (all.take 64)).1 % 2 ≠ (which : Int) ∨ ((all.length - 64 : Nat) : Int) < (numP (numP (all.take 64)).2.1).1) : halfP which all = none := by
  have e0 : ∀ T, (numP T).2.2 ≠ 0 → (numP T).1 = 0 := fun T h => by
    unfold numP at h ⊢
    split
    · rfl
    split
    · rename_i h1 h2; rw [if_neg h1, if_pos h2] at h; exact absurd rfl h
    · rfl
  unfold halfP
  simp only
  generalize hA : numP (all.take 64) = A at *
  obtain ⟨t, R, e⟩ := A
  simp only at h ⊢
  by_cases he : e = 0
  · rw [if_pos he]
    generalize hB : numP R = B2 at *
    obtain ⟨n, R2, e2⟩ := B2
    simp only at h ⊢
    by_cases hc : t < 1 ∨ t % 2 ≠ (which : Int) ∨ ((all.length - 64 : Nat) : Int) < n
    · rw [if_pos hc]
    · rw [if_neg hc]
      have he2 : e2 ≠ 0 := by
        rcases h with h | h | h
        · exact absurd he h
        · exact h
        · exact absurd h hc
      have hn := e0 R (by rw [hB]; exact he2)
      rw [hB] at hn
      simp only at hn
      subst hn
      split
      · rfl
      · rw [show (0 : Int).toNat = 0 from rfl, List.take_zero, parseP_nil]
  · have ht := e0 (all.take 64) (by rw [hA]; exact he)
    rw [hA] at ht
    simp only at ht
    rw [if_pos (.inl (by omega))]
theorem halfP_eq (which : Nat) (all : List Nat) (t n : Int) (R R2 : List Nat) (hA : numP (all.take 64) = (t, R, 0)) (hB : numP R = (n, R2, 0)) (h1 : ¬ t < 1) (h2 : t % 2 = (which : Int)) (h3 : ¬ ((all.length - 64 : Nat) : Int) < n) :
    halfP which all = (match parseP ((all.drop 64).take n.toNat).length ((all.drop 64).take n.toNat) with
      | none => none
      | some [] => none
      | some (s :: l) => if headB t (txt ((all.drop 64).take n.toNat)) = txt (all.take 64) then some (t, (all.drop 64).take n.toNat, s :: l) else none) := by
  have hfuel : ∀ (k K : Nat) (T : List Nat), T.length ≤ k → T.length ≤ K → parseP k T = parseP K T := by
    intro k
    induction k with
    | zero =>
      intro K T h1 h2
      have : T = [] := List.eq_nil_of_length_eq_zero (by omega)
      subst this
      rw [parseP_nil, parseP_nil]
    | succ k ih =>
      intro K T h1 h2
      by_cases h0 : T = []
      · subst h0; rw [parseP_nil, parseP_nil]
      · obtain ⟨K, rfl⟩ : ∃ m, K = m + 1 := ⟨K - 1, by cases T with | nil => exact absurd rfl h0 | cons a T => simp at h2; omega⟩
        cases hp : textP T with
        | none => rw [parseP_none _ hp h0, parseP_none _ hp h0]
        | some q =>
          obtain ⟨s, R⟩ := q
          have := textP_less T s R hp
          rw [parseP_some _ hp h0, parseP_some _ hp h0, ih K R (by omega) (by omega)]
  unfold halfP
  simp only
  rw [hA]
  simp only [if_true]
  rw [hB]
  simp only
  rw [if_neg (by rintro (h | h | h); exact h1 h; exact h h2; exact h3 h), hfuel all.length ((all.drop 64).take n.toNat).length _ (by rw [List.length_take, List.length_drop]; omega) (Nat.le_refl _)]
  by_cases hh : headB t (txt ((all.drop 64).take n.toNat)) = txt (all.take 64)
  · rw [if_neg (by simpa using hh)]
    cases hp : parseP ((all.drop 64).take n.toNat).length ((all.drop 64).take n.toNat) with
    | none => rfl
    | some l => cases l with
      | nil => rfl
      | cons s l => simp only; rw [if_pos hh]
  · rw [if_pos (by simpa using hh)]
    cases hp : parseP ((all.drop 64).take n.toNat).length ((all.drop 64).take n.toNat) with
    | none => rfl
    | some l => cases l with
      | nil => rfl
      | cons s l => simp only; rw [if_neg hh]
end Go.Proofs.Ytbkbganflnemeaa.Pr
end

section
namespace Go.Proofs.Ytbkbganflnemeaa.Pr
open Go.RowKit Go.Deep Go.Maps Go.Proofs.YtbkbganflnemeaaW.PrintWords Go.Proofs.YtbkbganflnemeaaW.PrintLast Go.Proofs.YtbkbganflnemeaaW.PrintMore
set_option maxHeartbeats 4000000
set_option linter.unusedVariables false
set_option linter.unusedSimpArgs false
theorem str_at {w : World} {A : Option Addr} {l : List ByteArray} (h : Kd.C Kd.string w A l.length l) (k : Nat) (hk : k < l.length) : ∃ ad x, A = some ad ∧ l[k]? = some x ∧ w.cell? (ad.add k) = some (.string x) := by
  obtain ⟨ad, he, hz⟩ := h.2.2 (by omega)
  obtain ⟨cs, h1, h2, h3⟩ := hz k _ (List.getElem?_eq_getElem hk)
  have h2' : cs = [.string l[k]] := h2
  subst h2'
  have h4 : w.cell? (ad.add (k * 1)) = some (.string l[k]) := h3 0 _ rfl
  rw [Nat.mul_one] at h4
  exact ⟨ad, l[k], he, List.getElem?_eq_getElem hk, h4⟩
end Go.Proofs.Ytbkbganflnemeaa.Pr
end

section
namespace Go.Proofs.Ytbkbganflnemeaa.Pr
open Go.RowKit Go.Deep Go.Maps Go.Proofs.YtbkbganflnemeaaW.PrintWords Go.Proofs.YtbkbganflnemeaaW.PrintLast Go.Proofs.YtbkbganflnemeaaW.PrintMore
set_option maxHeartbeats 8000000
set_option linter.unusedVariables false
set_option linter.unusedSimpArgs false
def rhalfPost (B : Nat) (r : Option StoR) (e : Ending) (w : World) : Prop := ∃ sv, e = .returned (.tuple #[sv, .bool r.isSome]) ∧ RSt B (r.getD (0, [], [])) sv w
theorem row4 {W : World} {g ty : Nat} {a b c d a' b' c' d' : Value} (h : W.heap[g]? = some (.cells #[a, b, c, d] ty (0, 0))) : ((((W.setCell ⟨g, 0, none⟩ a').setCell ⟨g, 1, none⟩ b').setCell ⟨g, 2, none⟩ c').setCell ⟨g, 3, none⟩ d').heap[g]? = some (.cells #[a', b', c', d'] ty (0, 0)) :=
  blk_put (blk_put (blk_put (blk_put h 0 a' rfl) 1 b' rfl) 2 c' rfl) 3 d' rfl
theorem below_setRc {B g j : Nat} {u : Value} {w W : World} (h : Below B w W) (hg : B ≤ g) : Below B w (W.setCell ⟨g, j, none⟩ u) := ⟨h.os, h.tape, h.output, Nat.le_trans h.size (by simp [World.setCell]), fun k hk => (Below.heap_setCell W ⟨g, j, none⟩ u k (by have e : k ≠ g := (by omega); exact e)).trans (h.block k hk)⟩
theorem keep_set {W : World} {g j k : Nat} {u : Value} {o : Obj} (h : W.heap[k]? = some o) (hne : k ≠ g) : (W.setCell ⟨g, j, none⟩ u).heap[k]? = some o := (Below.heap_setCell W ⟨g, j, none⟩ u k hne).trans h
def allB (L : List ByteArray) (a k : Nat) : List Nat := catL ((L.drop (a + 1)).take k)
theorem allB_succ (L : List ByteArray) (a k : Nat) (Y : ByteArray) (h : L[a + 1 + k]? = some Y) : allB L a (k + 1) = allB L a k ++ bys Y := by
  have h2 : (L.drop (a + 1))[k]? = some Y := by rw [List.getElem?_drop]; exact h
  obtain ⟨hl, he⟩ := List.getElem?_eq_some_iff.1 h2
  unfold allB
  rw [List.take_succ_eq_append_getElem hl, he, catL_append]
  simp [catL]
theorem conv_pre {w : World} {B g n cap : Nat} {xs : List Nat} (ho : w.ownsRow B 5 1 (.slice (some ⟨g, 0, none⟩) n cap) n (nums .u8 (xs.map fun (x : Nat) => (x : Int)))) (m : Nat) (hm : m ≤ n) (hx : xs.length = n) :
    (convert 68 9 (.slice (some ⟨g, 0, none⟩) m cap)).run Try.prog w = .ok (.string (txt (xs.take m))) w := by
  rw [← str_nats]
  refine run_convert_bytes_arg w 68 5 Try.underlying68 Try.underlying5 g 0 m cap _ (by rw [List.length_map, List.length_take]; omega) (fun i hi => ?_) 9 Try.underlying9
  have h := (own_at ho (i : Int) (by omega) (by omega)).1
  rw [Int.toNat_natCast] at h
  rw [Nat.zero_add, h]
  congr 2
  unfold rd
  rw [Int.toNat_natCast, List.getD_eq_getElem?_getD, List.getD_eq_getElem?_getD, List.getElem?_map, List.getElem?_map, List.getElem?_take, if_pos hi]
theorem idx_lt {aa k H n : Nat} (h1 : 2 * H ≤ n) (h2 : aa ≤ H) (h3 : k < H) : aa + k < n := by omega
theorem len_small {k H : Nat} (h1 : k < H) (h2 : H ≤ 2048) : 64 * (k - 1) + 64 ≤ 140737488355328 := by omega
theorem wrap_one {k : Nat} (h : k < 4096) : wrap64 ((k : Int) + 1) = ((k + 1 : Nat) : Int) := by unfold wrap64; omega
theorem wrap_small {a k : Nat} (h : a + k ≤ 4096) : wrap64 ((a : Int) + (k : Int)) = ((a + k : Nat) : Int) := by unfold wrap64; omega
theorem txsB_len (l : List ByteArray) : l.length ≤ (txsB l).length := by
  induction l with
  | nil => simp [txsB]
  | cons a l ih =>
    have e : txsB (a :: l) = txB a ++ txsB l := by simp [txsB]
    rw [e, List.length_append, txB_length, List.length_cons]
    omega
def zSto : Array Value := #[.string ⟨#[]⟩, .slice none 0 0, .int .i64 0, .string ⟨#[]⟩]
set_option maxRecDepth 100000 in
theorem rhalf_calls (A : Option Addr) (c : Nat) (L : List ByteArray) (f n : Int) (off : Bool) (which : Nat) (hw : which ≤ 1) (w : World) (hC : Kd.C Kd.string w A L.length L) (h64 : ∀ x ∈ L, x.size = 64) (hL2 : 2 ≤ L.length) (hL : L.length ≤ 4096) :
    Calls Try.prog 114 #[.agg #[.slice A L.length c, .int .i64 f, .bool off, .int .i64 n], .int .i64 (which : Int)] w fun e w' => Below w.heap.size w w' ∧ rhalfPost w.heap.size (halfP which (catL (halfB which L))) e w' := by
  obtain ⟨H, hH⟩ : ∃ H, L.length / 2 = H := ⟨_, rfl⟩
  have e5 : ((L.length : Int) / 2) = (H : Int) := by omega
  have hHb : 1 ≤ H ∧ H ≤ 2048 ∧ 2 * H ≤ L.length := by omega
  obtain ⟨aa, haa⟩ : ∃ aa, which * H = aa := ⟨_, rfl⟩
  have hwc : which = 0 ∨ which = 1 := by omega
  have haH : aa ≤ H := by rw [← haa]; rcases hwc with h | h <;> rw [h] <;> simp
  have y1 : wrap64 ((which : Int) * (H : Int)) = (aa : Int) := by rw [← haa]; unfold wrap64; rcases hwc with h | h <;> rw [h] <;> simp <;> omega
  have yH : wrap64 (H : Int) = (H : Int) := by unfold wrap64; omega
  have hal : aa < L.length := by omega
  have e6 := eq_true hal
  have e6i := eq_true (show (aa : Int) < (L.length : Int) by omega)
  obtain ⟨ad, X, rfl, hX, cx⟩ := str_at hC aa hal
  have HC := Aside0.mk hC
  have CX := Aside0.mk cx
  obtain ⟨q1, q2, q3⟩ := catL_half L which H hw hH (by omega) X (by rw [haa]; exact hX) h64
  obtain ⟨⟨t, R, er⟩, hA⟩ : ∃ q, numP (bys X) = q := ⟨_, rfl⟩
  have hi1 := rInNum (bys X) (bys_lt' X) 10 (by decide)
  rw [txt_bys, hA] at hi1
  have HA := Aside0.mk hA
  have H1 := Aside0.mk (fun W => samphireref09_InNum.calls 10 X 0 _ _ _ W hi1)
  obtain ⟨R', e', n', hi2, hen⟩ : ∃ R' e' n', samphireref09_InNum.f 10 (txt R) er = some (R', e', n') ∧ ((er = 0 → ∃ R2, numP R = (n', R2, e')) ∧ (er ≠ 0 → e' ≠ 0)) := by
    by_cases he : er = 0
    · subst he
      have hR : ∀ x ∈ R, x < 256 := fun x hx => by
        have hR0 : R = (numP (bys X)).2.1 := by rw [hA]
        rw [hR0] at hx
        unfold numP at hx
        split at hx
        · simp at hx
        split at hx
        · exact bys_lt' X x (List.mem_of_mem_drop hx)
        · simp at hx
      exact ⟨_, _, _, rInNum R hR 10 (by decide), fun _ => ⟨_, rfl⟩, fun h => absurd rfl h⟩
    · exact ⟨_, _, _, rInNum_bad (txt R) er he 10 (by decide), fun h => absurd h he, fun _ => he⟩
  have HEN := Aside0.mk hen
  have H2 := Aside0.mk (fun W => samphireref09_InNum.calls 10 (txt R) er _ _ _ W hi2)
  clear hi1 hC cx hi2 hen
  have HQ := Aside0.mk (And.intro q1 (And.intro q2 q3))
  have HX := Aside0.mk hX
  have H64 := Aside0.mk h64
  have HLL := Aside0.mk (And.intro hHb (And.intro haH (And.intro hL haa)))
  clear q1 q2 q3 hX h64 hHb haH hL haa hA hL2 hwc hal
  go_enter Try.func114, Try.ntmps114
  have HB0 := Aside0.mk (below_alloc (below_alloc (Below.refl w.heap.size w) (.cells #[.slice (some ad) L.length c, .int .i64 f, .bool off, .int .i64 n] 65)) (.cells #[.string ⟨#[]⟩, .slice none 0 0, .int .i64 0, .string ⟨#[]⟩] 73))
  have cx' := pw_cell_below HB0.out CX.out
  go_wp2_with (fail)
  have HG0 : Aside0 (((w.alloc (.cells #[.slice (some ad) L.length c, .int .i64 f, .bool off, .int .i64 n] 65)).alloc (.cells #[.string ⟨#[]⟩, .slice none 0 0, .int .i64 0, .string ⟨#[]⟩] 73)).heap[w.heap.size]? = some (.cells #[.slice (some ad) L.length c, .int .i64 f, .bool off, .int .i64 n] 65 (0, 0))) := ⟨((below_alloc (Below.refl _ _) _).block w.heap.size (blk_lt (blk_new w _))).trans (blk_new w _)⟩
  have HR0 : Aside0 (((w.alloc (.cells #[.slice (some ad) L.length c, .int .i64 f, .bool off, .int .i64 n] 65)).alloc (.cells #[.string ⟨#[]⟩, .slice none 0 0, .int .i64 0, .string ⟨#[]⟩] 73)).heap[w.heap.size + 1]? = some (.cells #[.string ⟨#[]⟩, .slice none 0 0, .int .i64 0, .string ⟨#[]⟩] 73 (0, 0))) := ⟨stoNew_at (Array.size_push _) _⟩
  generalize (w.alloc (.cells #[.slice (some ad) L.length c, .int .i64 f, .bool off, .int .i64 n] 65)).alloc (.cells #[.string ⟨#[]⟩, .slice none 0 0, .int .i64 0, .string ⟨#[]⟩] 73) = w0 at *
  refine (H1.out w0).mono ?_
  rintro e w1 ⟨rfl, hb⟩
  have HG1 := Aside0.mk ((hb.block _ (blk_lt HG0.out)).trans HG0.out)
  have HR1 := Aside0.mk ((hb.block _ (blk_lt HR0.out)).trans HR0.out)
  have HB1 := Aside0.mk (show Below w.heap.size w w1 from below_then HB0.out HB0.out.size hb)
  clear hb HG0 HR0 HB0 cx'
  go_wp2_with (fail)
  obtain ⟨gi, hgi⟩ : ∃ gi, w1.heap.size = gi := ⟨_, rfl⟩
  have HI1 : Aside0 ((w1.alloc (.cells #[.string (txt R), .int .i64 er] 171)).heap[gi]? = some (.cells #[.string (txt R), .int .i64 er] 171 (0, 0))) := ⟨stoNew_at hgi _⟩
  have HBI := Aside0.mk (below_alloc (Below.refl w1.heap.size w1) (.cells #[.string (txt R), .int .i64 er] 171))
  have HGI : Aside0 (w.heap.size < gi ∧ w.heap.size + 1 < gi) := ⟨by rw [← hgi]; exact ⟨blk_lt HG1.out, blk_lt HR1.out⟩⟩
  rw [hgi]
  refine (H2.out _).mono ?_
  rintro e w2 ⟨rfl, hb⟩
  have hb1 := below_then HBI.out HBI.out.size hb
  have HG2 := Aside0.mk ((hb1.block _ (blk_lt HG1.out)).trans HG1.out)
  have HR2 := Aside0.mk ((hb1.block _ (blk_lt HR1.out)).trans HR1.out)
  have HI2 := Aside0.mk ((hb.block _ (blk_lt HI1.out)).trans HI1.out)
  have HB2 := Aside0.mk (show Below w.heap.size w w2 from below_then HB1.out HB1.out.size hb1)
  clear hb hb1 HG1 HR1 HB1 HI1 HBI hgi
  have i0 : w2.cell? ⟨gi, 0, none⟩ = some (.string (txt R)) := by rw [cell_of_row _ _ _ _ _ _ HI2.out]; rfl
  have i1 : w2.cell? ⟨gi, 1, none⟩ = some (.int .i64 er) := by rw [cell_of_row _ _ _ _ _ _ HI2.out]; rfl
  have if0 := blk_thaw HI2.out 0
  have if1 := blk_thaw HI2.out 1
  have HB3 := Aside0.mk (show Below w.heap.size w ((w2.setCell ⟨gi, 0, none⟩ (.string R')).setCell ⟨gi, 1, none⟩ (.int .i64 e')) from below_setRc (below_setRc HB2.out (Nat.le_of_lt HGI.out.1)) (Nat.le_of_lt HGI.out.1))
  have HG3 := Aside0.mk (show ((w2.setCell ⟨gi, 0, none⟩ (.string R')).setCell ⟨gi, 1, none⟩ (.int .i64 e')).heap[w.heap.size]? = _ from keep_set (keep_set HG2.out (by have := HGI.out.1; omega)) (by have := HGI.out.1; omega))
  have HR3 := Aside0.mk (show ((w2.setCell ⟨gi, 0, none⟩ (.string R')).setCell ⟨gi, 1, none⟩ (.int .i64 e')).heap[w.heap.size + 1]? = _ from keep_set (keep_set HR2.out (by have := HGI.out.2; omega)) (by have := HGI.out.2; omega))
  clear HB2 HG2 HR2
  have g0 : ((w2.setCell ⟨gi, 0, none⟩ (.string R')).setCell ⟨gi, 1, none⟩ (.int .i64 e')).cell? ⟨w.heap.size, 0, none⟩ = some (.slice (some ad) L.length c) := by rw [cell_of_row _ _ _ _ _ _ HG3.out]; rfl
  have r0 : ((w2.setCell ⟨gi, 0, none⟩ (.string R')).setCell ⟨gi, 1, none⟩ (.int .i64 e')).cell? ⟨w.heap.size + 1, 0, none⟩ = some (.string ⟨#[]⟩) := by rw [cell_of_row _ _ _ _ _ _ HR3.out]; rfl
  have r1 : ((w2.setCell ⟨gi, 0, none⟩ (.string R')).setCell ⟨gi, 1, none⟩ (.int .i64 e')).cell? ⟨w.heap.size + 1, 1, none⟩ = some (.slice none 0 0) := by rw [cell_of_row _ _ _ _ _ _ HR3.out]; rfl
  have r2 : ((w2.setCell ⟨gi, 0, none⟩ (.string R')).setCell ⟨gi, 1, none⟩ (.int .i64 e')).cell? ⟨w.heap.size + 1, 2, none⟩ = some (.int .i64 0) := by rw [cell_of_row _ _ _ _ _ _ HR3.out]; rfl
  have r3 : ((w2.setCell ⟨gi, 0, none⟩ (.string R')).setCell ⟨gi, 1, none⟩ (.int .i64 e')).cell? ⟨w.heap.size + 1, 3, none⟩ = some (.string ⟨#[]⟩) := by rw [cell_of_row _ _ _ _ _ _ HR3.out]; rfl
  have rf0 := blk_thaw HR3.out 0
  have rf1 := blk_thaw HR3.out 1
  have rf2 := blk_thaw HR3.out 2
  have rf3 := blk_thaw HR3.out 3
  have z1 : wrap64 ((H : Int) - 1) = (H : Int) - 1 := by have := HLL.out.1; unfold wrap64; omega
  have z2 : wrap64 (64 * ((H : Int) - 1)) = 64 * ((H : Int) - 1) := by have := HLL.out.1; unfold wrap64; omega
  have ht0 : 0 ≤ t ∧ t ≤ 1099511627775 := by have := numP_rng (bys X); rw [HA.out] at this; exact this
  have tm : t.tmod 2 = t % 2 := Int.tmod_eq_emod_of_nonneg ht0.1
  have HT0 := Aside0.mk ht0
  clear ht0
  have hnone : Aside0 ((er ≠ 0 ∨ e' ≠ 0 ∨ t < 1 ∨ t % 2 ≠ (which : Int) ∨ 64 * ((H : Int) - 1) < n') → halfP which (catL (halfB which L)) = none) := ⟨fun h => by
    refine halfP_none1 which _ ?_
    rw [HQ.out.1, HA.out]
    by_cases he : er = 0
    · obtain ⟨R2, hR2⟩ := HEN.out.1 he
      simp only
      rw [hR2]
      simp only
      rcases h with h | h | h | h | h
      · exact .inl h
      · exact .inr (.inl h)
      · exact .inr (.inr (.inl h))
      · exact .inr (.inr (.inr (.inl h)))
      · refine .inr (.inr (.inr (.inr ?_)))
        rw [HQ.out.2.2]
        have := HLL.out.1
        omega
    · exact .inl he⟩
  by_cases hall : e' = 0 ∧ ¬ t < 1 ∧ t % 2 = (which : Int) ∧ ¬ 64 * ((H : Int) - 1) < n'
  case neg =>
    have hno : Aside0 (halfP which (catL (halfB which L)) = none) := ⟨hnone.out (by
      by_cases q1 : e' = 0
      · by_cases q2 : t < 1
        · exact .inr (.inr (.inl q2))
        · by_cases q3 : t % 2 = (which : Int)
          · by_cases q4 : 64 * ((H : Int) - 1) < n'
            · exact .inr (.inr (.inr (.inr q4)))
            · exact absurd ⟨q1, q2, q3, q4⟩ hall
          · exact .inr (.inr (.inr (.inl q3)))
      · exact .inr (.inl q1))⟩
    have hsplit : (e' != 0) = true ∨ (e' = 0 ∧ decide (t < 1) = true) ∨ (e' = 0 ∧ decide (t < 1) = false ∧ (t % 2 != (which : Int)) = true) ∨ (e' = 0 ∧ decide (t < 1) = false ∧ (t % 2 != (which : Int)) = false ∧ decide (64 * ((H : Int) - 1) < n') = true) := by
      by_cases q1 : e' = 0
      · by_cases q2 : t < 1
        · exact .inr (.inl ⟨q1, decide_eq_true q2⟩)
        · by_cases q3 : t % 2 = (which : Int)
          · by_cases q4 : 64 * ((H : Int) - 1) < n'
            · exact .inr (.inr (.inr ⟨q1, decide_eq_false q2, by rw [bne_eq_false_iff_eq]; exact q3, decide_eq_true q4⟩))
            · exact absurd ⟨q1, q2, q3, q4⟩ hall
          · exact .inr (.inr (.inl ⟨q1, decide_eq_false q2, bne_iff_ne.2 q3⟩))
      · exact .inl (bne_iff_ne.2 q1)
    clear hall hnone
    rcases hsplit with b1 | ⟨rfl, b2⟩ | ⟨rfl, b2, b3⟩ | ⟨rfl, b2, b3, b4⟩
    all_goals
      have hz := row4 (a' := .string ⟨#[]⟩) (b' := .slice none 0 0) (c' := .int .i64 0) (d' := .string ⟨#[]⟩) HR3.out
      go_wp2_with (fail)
      refine bodyPost_ret (results_ct rfl _ _ (w.heap.size + 1) 73 zSto (0, 0) _ rfl hz Try.underlying73 rfl (by kernel_rfl)) rfl ?_
      rw [hno.out]
      exact ⟨below_setRc (below_setRc (below_setRc (below_setRc HB3.out (Nat.le_succ _)) (Nat.le_succ _)) (Nat.le_succ _)) (Nat.le_succ _), _, rfl, RSt.zero _ _⟩
  obtain ⟨rfl, c2, c3, c4⟩ := hall
  have b2 : decide (t < 1) = false := decide_eq_false c2
  have b3 : (t % 2 != (which : Int)) = false := by rw [bne_eq_false_iff_eq]; exact c3
  have b4 : decide (64 * ((H : Int) - 1) < n') = false := decide_eq_false c4
  have er0 : er = 0 := Classical.byContradiction fun h => (HEN.out.2 h) rfl
  subst er0
  obtain ⟨R2, hR2⟩ := HEN.out.1 rfl
  have hn0 := (numP_rng R).1
  rw [hR2] at hn0
  obtain ⟨m, rfl⟩ := Int.eq_ofNat_of_zero_le hn0
  have hLL := HLL.out
  have hm : m ≤ 64 * (H - 1) := by omega
  obtain ⟨bb, hbb⟩ : ∃ bb, ((catL (halfB which L)).drop 64).take m = bb := ⟨_, rfl⟩
  have hbl : bb.length = m := by rw [← hbb, List.length_take, List.length_drop, HQ.out.2.2]; omega
  have hall0 : (catL (halfB which L)).drop 64 = allB L aa (H - 1) := by rw [HQ.out.2.1]; unfold allB; rw [HLL.out.2.2.2]
  have hpeq := halfP_eq which (catL (halfB which L)) t (m : Int) R R2 (by rw [HQ.out.1, HA.out]) hR2 c2 c3 (by rw [HQ.out.2.2]; omega)
  rw [Int.toNat_natCast, hbb, HQ.out.1, txt_bys] at hpeq
  have HPE := Aside0.mk hpeq
  have HBB := Aside0.mk (And.intro hbb (And.intro hbl hall0))
  have HM := Aside0.mk hm
  clear hLL hbb hbl hall0 hm hpeq hn0 hnone
  have HO0 : Aside0 (((w2.setCell ⟨gi, 0, none⟩ (.string R')).setCell ⟨gi, 1, none⟩ (.int .i64 0)).ownsRow w.heap.size 5 1 (.slice none 0 0) (allB L aa 0).length (nums .u8 ((allB L aa 0).map fun (x : Nat) => (x : Int)))) := ⟨own_nil _ _ _ _⟩
  have HHW := Aside0.mk hw
  clear r0 r1 r2 r3 rf0 rf1 rf2 rf3 c2 c3 c4 hR2 hw
  go_wp2_with (fail)
  clear b2 b3 b4 z1 z2
  go_loopw [10, 11] (fun v i wr => ∃ k : Nat, 1 ≤ k ∧ k ≤ H ∧ i = .int .i64 (k : Int) ∧ Aside0 (wr.ownsRow w.heap.size 5 1 v (allB L aa (k - 1)).length (nums .u8 ((allB L aa (k - 1)).map fun (x : Nat) => (x : Int)))) ∧ Aside0 ((allB L aa (k - 1)).length = 64 * (k - 1)) ∧ Aside0 (wr.heap[w.heap.size]? = some (.cells #[.slice (some ad) L.length c, .int .i64 f, .bool off, .int .i64 n] 65 (0, 0))) ∧ Aside0 (wr.heap[w.heap.size + 1]? = some (.cells #[.string ⟨#[]⟩, .slice none 0 0, .int .i64 0, .string ⟨#[]⟩] 73 (0, 0))) ∧ Aside0 (Below w.heap.size w wr)) (fun _ i _ => H - (intOf i).toNat)
  case atStart => exact ⟨1, by omega, HLL.out.1.1, rfl, HO0, ⟨rfl⟩, HG3, HR3, HB3⟩
  case round =>
    clear HO0 HG3 HR3 HB3 g0
    obtain ⟨k, hk1, hk, rfl, HO, HZ, HG, HR, HB⟩ := hrel
    obtain ⟨Av, cv, rfl⟩ := own_slice HO.out
    have g0 : wr.cell? ⟨w.heap.size, 0, none⟩ = some (.slice (some ad) L.length c) := by rw [cell_of_row _ _ _ _ _ _ HG.out]; rfl
    by_cases hlt : k < H
    · have p1 : decide (k < H) = true := decide_eq_true hlt
      have p1i : decide ((k : Int) < (H : Int)) = true := decide_eq_true (Int.ofNat_lt.2 hlt)
      have hk0 : aa + 1 + (k - 1) = aa + k := by omega
      have hk3 : k - 1 + 1 = k + 1 - 1 := by omega
      have hak : aa + k < L.length := idx_lt HLL.out.1.2.2 HLL.out.2.1 hlt
      obtain ⟨ad2, Y, had, hY, cy⟩ := str_at HC.out (aa + k) hak
      cases had
      have cy' := pw_cell_below HB.out cy
      have hYs : Y.size = 64 := H64.out Y (List.mem_of_getElem? hY)
      have hsucc := allB_succ L aa (k - 1) Y (by rw [hk0]; exact hY)
      have HSU := Aside0.mk hsucc
      have HYS := Aside0.mk hYs
      have HKK := Aside0.mk (And.intro hk1 (And.intro hlt hk3))
      obtain ⟨ix, hix⟩ : ∃ ix, aa + k = ix := ⟨_, rfl⟩
      have p2 : wrap64 ((aa : Int) + (k : Int)) = ((aa + k : Nat) : Int) := wrap_small (Nat.le_of_lt (Nat.lt_of_lt_of_le hak HLL.out.2.2.1))
      rw [hix] at p2 hak cy'
      have p3 := eq_true hak
      have p3i := eq_true (show (ix : Int) < (L.length : Int) from Int.ofNat_lt.2 hak)
      clear hix hak hY cy hYs hsucc hk1 hk hlt hk0 hk3
      go_wp2_with (at_builtin; refine print_append_str (w0 := w) w.heap.size rfl (.tmp 62) (.tmp 71) 68 9 5 rfl Try.underlying68 Try.underlying9 info5 _ ((allB L aa (k - 1)).map fun (x : Nat) => (x : Int)) Y rfl rfl (by rw [List.length_map]; exact HO.out) HB.out HB.out.size (by rw [List.length_map, HZ.out, HYS.out]; exact len_small HKK.out.2.1 HLL.out.1.2.1) ?_; intro v1 w9 ho9 hb9 hg9; have HG9 := Aside0.mk ((hg9.block _ (blk_lt HG.out) (Go.Proofs.YtbkbganflnemeaaW.PrintWords.own_ne HO.out HG.out (by decide))).trans HG.out); have HR9 := Aside0.mk ((hg9.block _ (blk_lt HR.out) (Go.Proofs.YtbkbganflnemeaaW.PrintWords.own_ne HO.out HR.out (by decide))).trans HR.out); have HB9 := Aside0.mk hb9; have HO9 := Aside0.mk ho9; clear ho9 hb9 hg9)
      clear y1 yH p2
      have hk2 : k < 4096 := Nat.lt_of_lt_of_le HKK.out.2.1 (Nat.le_trans HLL.out.1.2.1 (by decide))
      have h2 := HSU.out
      rw [HKK.out.2.2] at h2
      have hee : ((allB L aa (k - 1)).map fun (x : Nat) => (x : Int)) ++ bytesOf Y = (allB L aa (k + 1 - 1)).map fun (x : Nat) => (x : Int) := by
        rw [h2, List.map_append]
        congr 1
        simp [bys, bytesOf]
      have hO9 := HO9.out
      rw [hee, List.length_map] at hO9
      have hkk := HKK.out
      have hZ9 : (allB L aa (k + 1 - 1)).length = 64 * (k + 1 - 1) := by
        rw [h2, List.length_append, HZ.out, bys_length, HYS.out]
        omega
      rw [wrap_one hk2]
      go_roundw
      case rel =>
        exact ⟨k + 1, by omega, by omega, rfl, ⟨hO9⟩, ⟨hZ9⟩, HG9, HR9, HB9⟩
      case measure =>
        show H - (intOf (.int .i64 ((k + 1 : Nat) : Int))).toNat < H - (intOf (.int .i64 (k : Int))).toNat
        simp only [intOf, Int.toNat_natCast]
        omega
    · obtain rfl : k = H := Nat.le_antisymm hk (Nat.le_of_not_lt hlt)
      have p1 : decide (k < k) = false := decide_eq_false (Nat.lt_irrefl k)
      have p1b : (k < k) = False := eq_false (Nat.lt_irrefl k)
      have hmz : m ≤ (allB L aa (k - 1)).length := by rw [HZ.out]; exact HM.out
      have hbt : (allB L aa (k - 1)).take m = bb := by rw [← HBB.out.2.2]; exact HBB.out.1
      have hb256 : ∀ x ∈ bb, x < 256 := fun x hx => by
        rw [← hbt] at hx
        obtain ⟨y, _, hy⟩ := List.mem_flatMap.1 (List.mem_of_mem_take hx)
        exact bys_lt' y x hy
      have hbz : bb.length ≤ 1000000 := by rw [HBB.out.2.1]; have := HM.out; have := HLL.out.1.2.1; omega
      obtain ⟨l0, ok, htx, hno, hyes⟩ : ∃ l0 ok, samphireref18_texts.f (bb.length + 9) (txt bb) = some (l0, ok) ∧ (ok = false → halfP which (catL (halfB which L)) = none) ∧ (ok = true → ∃ x l', l0 = x :: l' ∧ l'.length ≤ 1000000 ∧ halfP which (catL (halfB which L)) = if headB t (txt bb) = X then some (t, bb, x :: l') else none) := by
        have h := rtexts bb hb256 hbz
        have hp := HPE.out
        cases hq : parseP bb.length bb with
        | none =>
          rw [hq] at h hp
          exact ⟨_, _, h, fun _ => hp, fun e => by cases e⟩
        | some l =>
          rw [hq] at h hp
          cases l with
          | nil => exact ⟨_, _, h, fun _ => hp, fun e => by simp at e⟩
          | cons x l' =>
            have hlen : l'.length ≤ 1000000 := by
              have h1 := (parseP_inv _ bb _ hb256 hq).1
              have h2 := txsB_len (x :: l')
              rw [← h1, List.length_cons] at h2
              omega
            exact ⟨_, _, h, fun e => by simp at e, fun _ => ⟨x, l', rfl, hlen, hp⟩⟩
      have HTX := Aside0.mk (fun W => samphireref18_texts.calls (bb.length + 9) (txt bb) l0 ok W htx)
      have HHD := Aside0.mk (fun W => rhead_calls t (txt bb) (decide_eq_true HT0.out) (by rw [txt_size]; exact hbz) W)
      have HNO := Aside0.mk hno
      have HYE := Aside0.mk hyes
      have hmk : ∃ vs : Value, (∀ W, (W = wr → (convert 68 9 vs).run Try.prog W = .ok (.string (txt bb)) W)) ∧ ((Av = none ∧ m = 0 ∧ cv = 0 ∧ vs = .slice none 0 0) ∨ ∃ g, Av = some ⟨g, 0, none⟩ ∧ m ≤ cv ∧ vs = .slice (some ⟨g, 0, none⟩) m cv) := by
        rcases HO.out.2 with ⟨e1, e2⟩ | ⟨g, cap, cur, e1, q1, q2, q3, q4⟩
        · simp only [Value.slice.injEq] at e1
          obtain ⟨e1, e3, e4⟩ := e1
          have hm0 : m = 0 := by omega
          refine ⟨_, fun W _ => ?_, .inl ⟨e1, hm0, e4, rfl⟩⟩
          have hbe : bb = [] := List.eq_nil_of_length_eq_zero (by rw [HBB.out.2.1, hm0])
          rw [hbe]
          exact run_convert_bytes_nil W 68 5 Try.underlying68 Try.underlying5 0 0 9 Try.underlying9
        · simp only [Value.slice.injEq] at e1
          obtain ⟨rfl, _, rfl⟩ := e1
          refine ⟨_, fun W hW => ?_, .inr ⟨g, rfl, by omega, rfl⟩⟩
          rw [hW, ← hbt]
          exact conv_pre HO.out m hmz rfl
      clear hmz hbt hb256 hbz htx hno hyes hk1 hk hlt
      obtain ⟨vs, hcv0, hcases⟩ := hmk
      have hcv := hcv0 wr rfl
      clear hcv0
      rcases hcases with ⟨rfl, rfl, rfl, rfl⟩ | ⟨g, rfl, hmc, rfl⟩
      case' inl =>
        have s1 := eq_true (Nat.le_refl 0)
      case' inr =>
        have s1 := eq_true hmc
        have s1i := eq_true (show (m : Int) ≤ (cv : Int) from Int.ofNat_le.2 hmc)
        clear hmc
      all_goals
        go_wp2_with (fail)
        refine (HTX.out _).mono ?_
        rintro e w5 ⟨v0, rfl, hR5, hb⟩
        have HG5 := Aside0.mk ((hb.block _ (blk_lt HG.out)).trans HG.out)
        have HR5 := Aside0.mk ((hb.block _ (blk_lt HR.out)).trans HR.out)
        have HB5 := Aside0.mk (show Below w.heap.size w w5 from below_then HB.out HB.out.size hb)
        have HL5 := Aside0.mk (Kd.R_lower hR5 HB.out.size)
        clear hR5 hb HG HR HB HO g0 hcv s1
        cases ok
        · have hno := Aside0.mk (HNO.out rfl)
          have hz := row4 (a' := .string ⟨#[]⟩) (b' := .slice none 0 0) (c' := .int .i64 0) (d' := .string ⟨#[]⟩) (show w5.drew.heap[w.heap.size + 1]? = _ from HR5.out)
          have HBD := Aside0.mk (show Below w.heap.size w w5.drew from below_drew1 HB5.out)
          have hrd : w5.drew.heap[w.heap.size + 1]? = some (.cells #[.string ⟨#[]⟩, .slice none 0 0, .int .i64 0, .string ⟨#[]⟩] 73 (0, 0)) := HR5.out
          have r0 : w5.drew.cell? ⟨w.heap.size + 1, 0, none⟩ = some (.string ⟨#[]⟩) := by rw [cell_of_row _ _ _ _ _ _ hrd]; rfl
          have r1 : w5.drew.cell? ⟨w.heap.size + 1, 1, none⟩ = some (.slice none 0 0) := by rw [cell_of_row _ _ _ _ _ _ hrd]; rfl
          have r2 : w5.drew.cell? ⟨w.heap.size + 1, 2, none⟩ = some (.int .i64 0) := by rw [cell_of_row _ _ _ _ _ _ hrd]; rfl
          have r3 : w5.drew.cell? ⟨w.heap.size + 1, 3, none⟩ = some (.string ⟨#[]⟩) := by rw [cell_of_row _ _ _ _ _ _ hrd]; rfl
          have rf0 := blk_thaw hrd 0
          have rf1 := blk_thaw hrd 1
          have rf2 := blk_thaw hrd 2
          have rf3 := blk_thaw hrd 3
          clear hrd
          have r0a : w5.cell? ⟨w.heap.size + 1, 0, none⟩ = some (.string ⟨#[]⟩) := by rw [cell_of_row _ _ _ _ _ _ HR5.out]; rfl
          have r1a : w5.cell? ⟨w.heap.size + 1, 1, none⟩ = some (.slice none 0 0) := by rw [cell_of_row _ _ _ _ _ _ HR5.out]; rfl
          have r2a : w5.cell? ⟨w.heap.size + 1, 2, none⟩ = some (.int .i64 0) := by rw [cell_of_row _ _ _ _ _ _ HR5.out]; rfl
          have r3a : w5.cell? ⟨w.heap.size + 1, 3, none⟩ = some (.string ⟨#[]⟩) := by rw [cell_of_row _ _ _ _ _ _ HR5.out]; rfl
          have rf0a := blk_thaw HR5.out 0
          have rf1a := blk_thaw HR5.out 1
          have rf2a := blk_thaw HR5.out 2
          have rf3a := blk_thaw HR5.out 3
          go_wp2_with (fail)
          refine start_ (n := 15) (S := fun w' => True) (ds := []) #[false, false, false, false, false, false, false, false, false, false, false, false, false, false, false] (by kernel_rfl) rfl rfl trivial (fun hHeld => ?_)
          refine pure_ (i := 0) (N := some 82) (v := ?_) (a' := ?_) #[true, false, false, false, false, false, false, false, false, false, false, false, false, false, false] rfl rfl (by kernel_rfl) (fun _ _ _ h => h) (Or.inl ⟨by rfl, ?_⟩) ?_ ?_
          rotate_left
          · intro w'
            go_simp
            with_reducible rfl
          rotate_left
          · simp only [Act.put, List.setIfInBounds_toArray, List.set_cons_zero, List.set_cons_succ, i64_w, i32_w]
            rfl
          refine pure_ (i := 1) (N := some 83) (v := ?_) (a' := ?_) #[true, true, false, false, false, false, false, false, false, false, false, false, false, false, false] rfl rfl (by kernel_rfl) (fun _ _ _ h => h) (Or.inl ⟨by rfl, ?_⟩) ?_ ?_
          rotate_left
          · intro w'
            go_simp
            with_reducible rfl
          rotate_left
          · simp only [Act.put, List.setIfInBounds_toArray, List.set_cons_zero, List.set_cons_succ, i64_w, i32_w]
            rfl
          refine pure_ (i := 2) (N := some 84) (v := ?_) (a' := ?_) #[true, true, true, false, false, false, false, false, false, false, false, false, false, false, false] rfl rfl (by kernel_rfl) (fun _ _ _ h => h) (Or.inl ⟨by rfl, ?_⟩) ?_ ?_
          rotate_left
          · intro w'
            go_simp
            with_reducible rfl
          rotate_left
          · simp only [Act.put, List.setIfInBounds_toArray, List.set_cons_zero, List.set_cons_succ, i64_w, i32_w]
            rfl
          refine pure_ (i := 3) (N := some 85) (v := undef) (a' := ?_) #[true, true, true, true, false, false, false, false, false, false, false, false, false, false, false] rfl rfl (by kernel_rfl) (fun _ _ _ h => h) (Or.inr ⟨by rfl, rfl⟩) ?_ ?_
          rotate_left
          · simp only [Act.put, List.setIfInBounds_toArray, List.set_cons_zero, List.set_cons_succ, i64_w, i32_w]
            rfl
          refine pure_ (i := 4) (N := some 86) (v := undef) (a' := ?_) #[true, true, true, true, true, false, false, false, false, false, false, false, false, false, false] rfl rfl (by kernel_rfl) (fun _ _ _ h => h) (Or.inr ⟨by rfl, rfl⟩) ?_ ?_
          rotate_left
          · simp only [Act.put, List.setIfInBounds_toArray, List.set_cons_zero, List.set_cons_succ, i64_w, i32_w]
            rfl
          refine pure_ (i := 5) (N := some 87) (v := undef) (a' := ?_) #[true, true, true, true, true, true, false, false, false, false, false, false, false, false, false] rfl rfl (by kernel_rfl) (fun _ _ _ h => h) (Or.inr ⟨by rfl, rfl⟩) ?_ ?_
          rotate_left
          · simp only [Act.put, List.setIfInBounds_toArray, List.set_cons_zero, List.set_cons_succ, i64_w, i32_w]
            rfl
          refine pure_ (i := 6) (N := some 88) (v := undef) (a' := ?_) #[true, true, true, true, true, true, true, false, false, false, false, false, false, false, false] rfl rfl (by kernel_rfl) (fun _ _ _ h => h) (Or.inr ⟨by rfl, rfl⟩) ?_ ?_
          rotate_left
          · simp only [Act.put, List.setIfInBounds_toArray, List.set_cons_zero, List.set_cons_succ, i64_w, i32_w]
            rfl
          refine pure_ (i := 7) (N := some 89) (v := undef) (a' := ?_) #[true, true, true, true, true, true, true, true, false, false, false, false, false, false, false] rfl rfl (by kernel_rfl) (fun _ _ _ h => h) (Or.inr ⟨by rfl, rfl⟩) ?_ ?_
          rotate_left
          · simp only [Act.put, List.setIfInBounds_toArray, List.set_cons_zero, List.set_cons_succ, i64_w, i32_w]
            rfl
          refine pure_ (i := 8) (N := some 90) (v := undef) (a' := ?_) #[true, true, true, true, true, true, true, true, true, false, false, false, false, false, false] rfl rfl (by kernel_rfl) (fun _ _ _ h => h) (Or.inr ⟨by rfl, rfl⟩) ?_ ?_
          rotate_left
          · simp only [Act.put, List.setIfInBounds_toArray, List.set_cons_zero, List.set_cons_succ, i64_w, i32_w]
            rfl
          refine pure_ (i := 9) (N := some 91) (v := undef) (a' := ?_) #[true, true, true, true, true, true, true, true, true, true, false, false, false, false, false] rfl rfl (by kernel_rfl) (fun _ _ _ h => h) (Or.inr ⟨by rfl, rfl⟩) ?_ ?_
          rotate_left
          · simp only [Act.put, List.setIfInBounds_toArray, List.set_cons_zero, List.set_cons_succ, i64_w, i32_w]
            rfl
          refine pure_ (i := 10) (N := some 92) (v := undef) (a' := ?_) #[true, true, true, true, true, true, true, true, true, true, true, false, false, false, false] rfl rfl (by kernel_rfl) (fun _ _ _ h => h) (Or.inr ⟨by rfl, rfl⟩) ?_ ?_
          rotate_left
          · simp only [Act.put, List.setIfInBounds_toArray, List.set_cons_zero, List.set_cons_succ, i64_w, i32_w]
            rfl
          refine pure_ (i := 11) (N := some 93) (v := undef) (a' := ?_) #[true, true, true, true, true, true, true, true, true, true, true, true, false, false, false] rfl rfl (by kernel_rfl) (fun _ _ _ h => h) (Or.inr ⟨by rfl, rfl⟩) ?_ ?_
          rotate_left
          · simp only [Act.put, List.setIfInBounds_toArray, List.set_cons_zero, List.set_cons_succ, i64_w, i32_w]
            rfl
          refine pure_ (i := 12) (N := some 94) (v := undef) (a' := ?_) #[true, true, true, true, true, true, true, true, true, true, true, true, true, false, false] rfl rfl (by kernel_rfl) (fun _ _ _ h => h) (Or.inr ⟨by rfl, rfl⟩) ?_ ?_
          rotate_left
          · simp only [Act.put, List.setIfInBounds_toArray, List.set_cons_zero, List.set_cons_succ, i64_w, i32_w]
            rfl
          refine pure_ (i := 13) (N := some 95) (v := undef) (a' := ?_) #[true, true, true, true, true, true, true, true, true, true, true, true, true, true, false] rfl rfl (by kernel_rfl) (fun _ _ _ h => h) (Or.inr ⟨by rfl, rfl⟩) ?_ ?_
          rotate_left
          · simp only [Act.put, List.setIfInBounds_toArray, List.set_cons_zero, List.set_cons_succ, i64_w, i32_w]
            rfl
          refine pure_ (i := 14) (N := some 96) (v := ?_) (a' := ?_) #[true, true, true, true, true, true, true, true, true, true, true, true, true, true, true] rfl rfl (by kernel_rfl) (fun _ _ _ h => h) (Or.inl ⟨by rfl, ?_⟩) ?_ ?_
          rotate_left
          · intro w'
            go_simp
            with_reducible rfl
          rotate_left
          · simp only [Act.put, List.setIfInBounds_toArray, List.set_cons_zero, List.set_cons_succ, i64_w, i32_w]
            rfl
          refine done_ (by kernel_rfl) ?_
          go_wp2_with (fail)
          refine bodyPost_ret (results_ct rfl _ _ (w.heap.size + 1) 73 zSto (0, 0) _ rfl hz Try.underlying73 rfl (by kernel_rfl)) rfl ?_
          rw [hno.out]
          exact ⟨below_setRc (below_setRc (below_setRc (below_setRc HBD.out (Nat.le_succ _)) (Nat.le_succ _)) (Nat.le_succ _)) (Nat.le_succ _), _, rfl, RSt.zero _ _⟩
        · obtain ⟨x, l', rfl, hl9, hpe⟩ := HYE.out rfl
          obtain ⟨hd, hhd⟩ : ∃ hd, headB t (txt bb) = hd := ⟨_, rfl⟩
          have HHD2 := HHD.out
          rw [hhd] at HHD2 hpe
          have HHD3 := Aside0.mk HHD2
          have HPP := Aside0.mk hpe
          clear HHD HHD2 hhd hpe
          have hgd : w5.drew.heap[w.heap.size]? = some (.cells #[.slice (some ad) L.length c, .int .i64 f, .bool off, .int .i64 n] 65 (0, 0)) := HG5.out
          have HBD := Aside0.mk (show Below w.heap.size w w5.drew from below_drew1 HB5.out)
          have HRD := Aside0.mk (show w5.drew.heap[w.heap.size + 1]? = _ from HR5.out)
          have HGD := Aside0.mk hgd
          have HLD := Aside0.mk (Kd.R_below HL5.out (below_drew1 (Below.refl w5.heap.size w5)))
          have g5 : w5.drew.cell? ⟨w.heap.size, 0, none⟩ = some (.slice (some ad) L.length c) := by rw [cell_of_row _ _ _ _ _ _ hgd]; rfl
          have x5 : w5.drew.cell? (ad.add aa) = some (.string X) := pw_cell_below HBD.out CX.out
          clear hgd HG5 HR5 HB5 HL5
          have y1i : IntKind.i64.wrap ((which : Int) * (k : Int)) = (aa : Int) := by
            have y := y1
            unfold wrap64 at y
            rw [IntKind.wrap_i64]
            exact y
          by_cases heq : hd = X
          · subst heq
            go_wp2_with (fail)
            go_region_held3 (fun w' => w'.cell? ⟨w.heap.size, 0, none⟩ = some (.slice (some ad) L.length c) ∧ w'.cell? (ad.add aa) = some (.string hd))
              (first | go_keep | exact ⟨g5, x5⟩)
              (first
                | (go_at_call 142; (with_reducible refine (HHD3.out _).mono ?_); rintro e w6 ⟨rfl, hb0⟩; have hb : Below w5.drew.heap.size w5.drew w6 := below_step (by first | exact Below.refl _ _ | exact below_drew1 (Below.refl _ _)) hb0; clear hb0; have HG6 := Aside0.mk ((hb.block _ (blk_lt HGD.out)).trans HGD.out); have HR6 := Aside0.mk ((hb.block _ (blk_lt HRD.out)).trans HRD.out); have HB6 := Aside0.mk (show Below w.heap.size w w6 from below_then HBD.out HBD.out.size hb); have HL6 := Aside0.mk (Kd.R_below HLD.out hb); clear hb g5 x5; have g5 : w6.cell? ⟨w.heap.size, 0, none⟩ = some (.slice (some ad) L.length c) := (by rw [cell_of_row _ _ _ _ _ _ HG6.out]; rfl); have x5 := pw_cell_below HB6.out CX.out))
            go_wp2_with (fail)
            have hown := Kd.own_of_R HL6.out
            rcases hown.2 with ⟨_, h0⟩ | ⟨g1, cap1, cur, hv0, hg1, hh1, hcap, _, _, hr1⟩
            · exact absurd h0 (by simp [encs])
            subst hv0
            have hcap1 : l'.length + 1 ≤ cap1 := hcap
            refine wp_still_tail 8 (by kernel_rfl) (by kernel_rfl) ?_
            intro W hW
            have HRW := Aside0.mk (show W.heap[w.heap.size + 1]? = some (.cells #[.string ⟨#[]⟩, .slice none 0 0, .int .i64 0, .string ⟨#[]⟩] 73 (0, 0)) by rw [hW]; exact HR6.out)
            have HBW := Aside0.mk (show Below w.heap.size w W by rw [hW]; exact below_drew1 HB6.out)
            have HHW1 := Aside0.mk (show W.heap[g1]? = some (.cells cur 9 (0, 0)) by rw [hW]; exact hh1)
            have HCUR : Aside0 (cur.toList.take (l'.length + 1) = (x :: l').map Value.string) := ⟨by simpa [encs] using hr1⟩
            have HGB := Aside0.mk hg1
            have hcu : ∀ j y, (x :: l')[j]? = some y → cur[j]? = some (Value.string y) := fun j y hj => by
              have hl : j < l'.length + 1 := (List.getElem?_eq_some_iff.1 hj).1
              have h3 : (cur.toList.take (l'.length + 1))[j]? = some (.string y) := by rw [HCUR.out, List.getElem?_map, hj]; rfl
              rw [List.getElem?_take, if_pos hl] at h3
              rw [← Array.getElem?_toList]
              exact h3
            have HCU := Aside0.mk hcu
            have c0 : W.cell? ⟨g1, 0, none⟩ = some (.string x) := by rw [cell_of_row _ _ _ _ _ _ HHW1.out]; exact hcu 0 x rfl
            have k1 := eq_true (show 1 ≤ cap1 by omega)
            have k1i := eq_true (show (1 : Int) ≤ (cap1 : Int) by omega)
            have k2 := eq_true (show 1 ≤ l'.length + 1 by omega)
            have k2i := eq_true (show (1 : Int) ≤ (l'.length : Int) + 1 by omega)
            have k4 := eq_true (show 0 < l'.length + 1 by omega)
            have k4i := eq_true (show (0 : Int) < (l'.length : Int) + 1 by omega)
            have k5 := eq_true hcap1
            have k5i := eq_true (show (l'.length : Int) + 1 ≤ (cap1 : Int) by omega)
            have hgne : w.heap.size + 1 ≠ g1 := fun e => by
              have h9 := HHW1.out
              rw [← e, HRW.out] at h9
              injection h9 with h9
              injection h9 with _ h10 _
              exact absurd h10 (by decide)
            have HGN := Aside0.mk hgne
            have HC1 := Aside0.mk hcap1
            have HLL1 := Aside0.mk hl9
            clear hW hcu hgne hcap1 hcap hown hg1 hh1 hr1 hl9
            have r0 : W.cell? ⟨w.heap.size + 1, 0, none⟩ = some (.string ⟨#[]⟩) := by rw [cell_of_row _ _ _ _ _ _ HRW.out]; rfl
            have r1 : W.cell? ⟨w.heap.size + 1, 1, none⟩ = some (.slice none 0 0) := by rw [cell_of_row _ _ _ _ _ _ HRW.out]; rfl
            have r2 : W.cell? ⟨w.heap.size + 1, 2, none⟩ = some (.int .i64 0) := by rw [cell_of_row _ _ _ _ _ _ HRW.out]; rfl
            have r3 : W.cell? ⟨w.heap.size + 1, 3, none⟩ = some (.string ⟨#[]⟩) := by rw [cell_of_row _ _ _ _ _ _ HRW.out]; rfl
            have rf0 := blk_thaw HRW.out 0
            have rf1 := blk_thaw HRW.out 1
            have rf2 := blk_thaw HRW.out 2
            have rf3 := blk_thaw HRW.out 3
            by_cases hc1 : cap1 = 1
            · subst hc1
              obtain rfl : l' = [] := List.eq_nil_of_length_eq_zero (by have := HC1.out; omega)
              simp only [List.take_succ_cons, List.take_zero, List.drop_succ_cons, List.drop_zero]
              repeat still_step
              refine wpStill_nil ?_
              go_wp2_with (fail)
              have hz := row4 (a' := .string x) (b' := (.slice (some ⟨g1, 0, none⟩) 0 0)) (c' := .int .i64 t) (d' := .string (txt bb)) HRW.out
              refine bodyPost_ret (results_ct rfl _ _ (w.heap.size + 1) 73 #[.string x, (.slice (some ⟨g1, 0, none⟩) 0 0), .int .i64 t, .string (txt bb)] (0, 0) _ rfl hz Try.underlying73 rfl (by kernel_rfl)) rfl ?_
              rw [HPP.out, if_pos trivial]
              refine ⟨below_setRc (below_setRc (below_setRc (below_setRc HBW.out (Nat.le_succ _)) (Nat.le_succ _)) (Nat.le_succ _)) (Nat.le_succ _), _, rfl, (.slice (some ⟨g1, 0, none⟩) 0 0), rfl, .inr ⟨g1, 0, 0, cur, rfl, HGB.out, keep_set (keep_set (keep_set (keep_set HHW1.out (Ne.symm HGN.out)) (Ne.symm HGN.out)) (Ne.symm HGN.out)) (Ne.symm HGN.out), ⟨Nat.le_refl _, HLL1.out⟩, fun j y hj => by simp at hj⟩⟩
            · have k3 : (cap1 = 1) = False := eq_false hc1
              clear hc1
              simp only [List.take_succ_cons, List.take_zero, List.drop_succ_cons, List.drop_zero]
              repeat still_step
              refine wpStill_nil ?_
              go_wp2_with (fail)
              have hz := row4 (a' := .string x) (b' := (.slice (some ⟨g1, 1, none⟩) l'.length (cap1 - 1))) (c' := .int .i64 t) (d' := .string (txt bb)) HRW.out
              refine bodyPost_ret (results_ct rfl _ _ (w.heap.size + 1) 73 #[.string x, (.slice (some ⟨g1, 1, none⟩) l'.length (cap1 - 1)), .int .i64 t, .string (txt bb)] (0, 0) _ rfl hz Try.underlying73 rfl (by kernel_rfl)) rfl ?_
              rw [HPP.out, if_pos trivial]
              refine ⟨below_setRc (below_setRc (below_setRc (below_setRc HBW.out (Nat.le_succ _)) (Nat.le_succ _)) (Nat.le_succ _)) (Nat.le_succ _), _, rfl, (.slice (some ⟨g1, 1, none⟩) l'.length (cap1 - 1)), rfl, .inr ⟨g1, 1, cap1 - 1, cur, rfl, HGB.out, keep_set (keep_set (keep_set (keep_set HHW1.out (Ne.symm HGN.out)) (Ne.symm HGN.out)) (Ne.symm HGN.out)) (Ne.symm HGN.out), ⟨show l'.length ≤ cap1 - 1 by have := HC1.out; omega, HLL1.out⟩, fun j y hj => ?_⟩⟩
              have := HCU.out (j + 1) y (by rw [List.getElem?_cons_succ]; exact hj)
              rw [Nat.add_comm] at this
              exact this
          · have m0 : ¬ (hd.toList = X.toList) := fun h => heq (by
              rw [ByteArray.toList_eq, ByteArray.toList_eq] at h
              exact ByteArray.ext (Array.ext' h))
            have m1 : (hd.toList != X.toList) = true := bne_iff_ne.2 m0
            have m1b : (hd.toList == X.toList) = false := by rw [beq_eq_false_iff_ne]; exact m0
            have hno : Aside0 (halfP which (catL (halfB which L)) = none) := ⟨by rw [HPP.out, if_neg heq]⟩
            clear m0 heq
            go_wp2_with (fail)
            go_region_held3 (fun w' => w'.cell? ⟨w.heap.size, 0, none⟩ = some (.slice (some ad) L.length c) ∧ w'.cell? (ad.add aa) = some (.string X))
              (first | go_keep | exact ⟨g5, x5⟩)
              (first
                | (go_at_call 142; (with_reducible refine (HHD3.out _).mono ?_); rintro e w6 ⟨rfl, hb0⟩; have hb : Below w5.drew.heap.size w5.drew w6 := below_step (by first | exact Below.refl _ _ | exact below_drew1 (Below.refl _ _)) hb0; clear hb0; have HG6 := Aside0.mk ((hb.block _ (blk_lt HGD.out)).trans HGD.out); have HR6 := Aside0.mk ((hb.block _ (blk_lt HRD.out)).trans HRD.out); have HB6 := Aside0.mk (show Below w.heap.size w w6 from below_then HBD.out HBD.out.size hb); have HL6 := Aside0.mk (Kd.R_below HLD.out hb); clear hb g5 x5; have g5 : w6.cell? ⟨w.heap.size, 0, none⟩ = some (.slice (some ad) L.length c) := (by rw [cell_of_row _ _ _ _ _ _ HG6.out]; rfl); have x5 := pw_cell_below HB6.out CX.out))
            have hz := row4 (a' := .string ⟨#[]⟩) (b' := .slice none 0 0) (c' := .int .i64 0) (d' := .string ⟨#[]⟩) HR6.out
            have r0 : w6.cell? ⟨w.heap.size + 1, 0, none⟩ = some (.string ⟨#[]⟩) := by rw [cell_of_row _ _ _ _ _ _ HR6.out]; rfl
            have r1 : w6.cell? ⟨w.heap.size + 1, 1, none⟩ = some (.slice none 0 0) := by rw [cell_of_row _ _ _ _ _ _ HR6.out]; rfl
            have r2 : w6.cell? ⟨w.heap.size + 1, 2, none⟩ = some (.int .i64 0) := by rw [cell_of_row _ _ _ _ _ _ HR6.out]; rfl
            have r3 : w6.cell? ⟨w.heap.size + 1, 3, none⟩ = some (.string ⟨#[]⟩) := by rw [cell_of_row _ _ _ _ _ _ HR6.out]; rfl
            have rf0 := blk_thaw HR6.out 0
            have rf1 := blk_thaw HR6.out 1
            have rf2 := blk_thaw HR6.out 2
            have rf3 := blk_thaw HR6.out 3
            go_wp2_with (fail)
            refine bodyPost_ret (results_ct rfl _ _ (w.heap.size + 1) 73 zSto (0, 0) _ rfl hz Try.underlying73 rfl (by kernel_rfl)) rfl ?_
            rw [hno.out]
            exact ⟨below_setRc (below_setRc (below_setRc (below_setRc HB6.out (Nat.le_succ _)) (Nat.le_succ _)) (Nat.le_succ _)) (Nat.le_succ _), _, rfl, RSt.zero _ _⟩
end Go.Proofs.Ytbkbganflnemeaa.Pr
end

section
namespace Go.Proofs.Ytbkbganflnemeaa.Pr
open Go.RowKit Go.Deep Go.Maps Go.Proofs.YtbkbganflnemeaaW.PrintWords Go.Proofs.YtbkbganflnemeaaW.PrintLast Go.Proofs.YtbkbganflnemeaaW.PrintMore
set_option maxHeartbeats 8000000
set_option linter.unusedVariables false
set_option linter.unusedSimpArgs false
theorem Sl.form {B : Nat} {bv : Value} {l : List ByteArray} {w : World} (h : Sl B bv l w) : ∃ A n c, bv = .slice A n c := by
  rcases h with ⟨rfl, _⟩ | ⟨g, o, cap, cs, rfl, _⟩
  · exact ⟨_, _, _, rfl⟩
  · exact ⟨_, _, _, rfl⟩
structure HalfR (o : Option StoR) where
  x : ByteArray
  T : Int
  b : ByteArray
  l : List ByteArray
  k : Bool
  ok : (k = false ∧ x = ⟨#[]⟩ ∧ T = 0 ∧ b = txt [] ∧ l = [] ∧ o = none) ∨ (k = true ∧ ∃ p : StoR, o = some p ∧ x = p.2.2.headD ⟨#[]⟩ ∧ T = p.1 ∧ b = txt p.2.1 ∧ l = p.2.2.tail)
def halfR (o : Option StoR) : HalfR o := match o with
  | none => ⟨⟨#[]⟩, 0, txt [], [], false, .inl ⟨rfl, rfl, rfl, rfl, rfl, rfl⟩⟩
  | some p => ⟨p.2.2.headD ⟨#[]⟩, p.1, txt p.2.1, p.2.2.tail, true, .inr ⟨rfl, p, rfl, rfl, rfl, rfl, rfl⟩⟩
theorem rhalfPost_parts {B : Nat} {o : Option StoR} {e : Ending} {w : World} (h : rhalfPost B o e w) : ∃ bv, e = .returned (.tuple #[.agg #[.string (halfR o).x, bv, .int .i64 (halfR o).T, .string (halfR o).b], .bool (halfR o).k]) ∧ Sl B bv (halfR o).l w := by
  obtain ⟨sv, rfl, bv, rfl, hs⟩ := h
  cases o with
  | none => exact ⟨bv, rfl, hs⟩
  | some p => exact ⟨bv, rfl, hs⟩
theorem keep4 {W : World} {g0 : Nat} {cs0 : Array Value} {a b c d : Value} (h0 : W.heap[g0]? = some (.cells cs0 73 (0, 0))) : ∀ (g : Nat) (cs : Array Value), W.heap[g]? = some (.cells cs 9 (0, 0)) → ((((W.setCell ⟨g0, 0, none⟩ a).setCell ⟨g0, 1, none⟩ b).setCell ⟨g0, 2, none⟩ c).setCell ⟨g0, 3, none⟩ d).heap[g]? = W.heap[g]? := fun g cs hg => by
  have hne : g ≠ g0 := fun e => by
    rw [e, h0] at hg
    injection hg with hg
    injection hg with _ h _
    exact absurd h (by decide)
  rw [hg]
  exact keep_set (keep_set (keep_set (keep_set hg hne) hne) hne) hne
set_option maxRecDepth 100000 in
theorem rOpen_calls (A : Option Addr) (c : Nat) (L : List ByteArray) (f n : Int) (w : World) (hC : Kd.C Kd.string w A L.length L) (h64 : ∀ x ∈ L, x.size = 64) (hL2 : 2 ≤ L.length) (hL : L.length ≤ 4096) :
    Calls Try.prog 78 #[.agg #[.slice A L.length c, .int .i64 f, .bool false, .int .i64 n]] w fun e w' => Below w.heap.size w w' ∧ ∃ sv, e = .returned (.tuple #[sv, .int .i64 0]) ∧ RSt w.heap.size (bestP L 2) sv w' := by
  have d1 : decide ((L.length : Int) < 2) = false := decide_eq_false (by omega)
  have d1b : decide (L.length < 2) = false := decide_eq_false (by omega)
  have HC := Aside0.mk hC
  obtain ⟨o0, ho0⟩ : ∃ o, halfP 0 (catL (halfB 0 L)) = o := ⟨_, rfl⟩
  obtain ⟨o1, ho1⟩ : ∃ o, halfP 1 (catL (halfB 1 L)) = o := ⟨_, rfl⟩
  have HBE : Aside0 (bestP L 2 = better (better (0, [], []) o0) o1) := ⟨by rw [best_two, ho0, ho1]⟩
  have HP0 := Aside0.mk (fun p (hp : o0 = some p) => halfP_turn (ho0.trans hp))
  have HP1 := Aside0.mk (fun p (hp : o1 = some p) => halfP_turn (ho1.trans hp))
  have hh0 := fun (W : World) (hC : Kd.C Kd.string W A L.length L) => rhalf_calls A c L f n false 0 (by decide) W hC h64 hL2 hL
  have hh1 := fun (W : World) (hC : Kd.C Kd.string W A L.length L) => rhalf_calls A c L f n false 1 (by decide) W hC h64 hL2 hL
  rw [ho0] at hh0
  rw [ho1] at hh1
  have hh0' := fun (W : World) (hC : Kd.C Kd.string W A L.length L) => (hh0 W hC).mono fun e w' q => And.intro q.1 (rhalfPost_parts q.2)
  have hh1' := fun (W : World) (hC : Kd.C Kd.string W A L.length L) => (hh1 W hC).mono fun e w' q => And.intro q.1 (rhalfPost_parts q.2)
  have HK0 := Aside0.mk (halfR o0).ok
  have HK1 := Aside0.mk (halfR o1).ok
  generalize (halfR o0).x = x0 at hh0' HK0
  generalize (halfR o0).T = T0 at hh0' HK0
  generalize (halfR o0).b = b0 at hh0' HK0
  generalize (halfR o0).l = l0 at hh0' HK0
  generalize (halfR o0).k = k0 at hh0' HK0
  generalize (halfR o1).x = x1 at hh1' HK1
  generalize (halfR o1).T = T1 at hh1' HK1
  generalize (halfR o1).b = b1 at hh1' HK1
  generalize (halfR o1).l = l1 at hh1' HK1
  generalize (halfR o1).k = k1 at hh1' HK1
  have H0 := Aside0.mk hh0'
  have H1 := Aside0.mk hh1'
  clear hh0 hh1 hh0' hh1' ho0 ho1 hC h64 hL2 hL
  go_enter Try.func78, Try.ntmps78
  have HB0 := Aside0.mk (below_alloc (below_alloc (Below.refl w.heap.size w) (.cells #[.slice A L.length c, .int .i64 f, .bool false, .int .i64 n] 65)) (.cells #[.string ⟨#[]⟩, .slice none 0 0, .int .i64 0, .string ⟨#[]⟩] 73))
  have HG0 : Aside0 (((w.alloc (.cells #[.slice A L.length c, .int .i64 f, .bool false, .int .i64 n] 65)).alloc (.cells #[.string ⟨#[]⟩, .slice none 0 0, .int .i64 0, .string ⟨#[]⟩] 73)).heap[w.heap.size]? = some (.cells #[.slice A L.length c, .int .i64 f, .bool false, .int .i64 n] 65 (0, 0))) := ⟨((below_alloc (Below.refl _ _) _).block w.heap.size (blk_lt (blk_new w _))).trans (blk_new w _)⟩
  have HR0 : Aside0 (((w.alloc (.cells #[.slice A L.length c, .int .i64 f, .bool false, .int .i64 n] 65)).alloc (.cells #[.string ⟨#[]⟩, .slice none 0 0, .int .i64 0, .string ⟨#[]⟩] 73)).heap[w.heap.size + 1]? = some (.cells #[.string ⟨#[]⟩, .slice none 0 0, .int .i64 0, .string ⟨#[]⟩] 73 (0, 0))) := ⟨stoNew_at (Array.size_push _) _⟩
  go_wp2_with (fail)
  generalize (w.alloc (.cells #[.slice A L.length c, .int .i64 f, .bool false, .int .i64 n] 65)).alloc (.cells #[.string ⟨#[]⟩, .slice none 0 0, .int .i64 0, .string ⟨#[]⟩] 73) = w0 at *
  refine (H0.out w0 (Kd.C_below HC.out HB0.out)).mono ?_
  rintro e w1 ⟨hb, bv0, rfl, hs0⟩
  obtain ⟨A0, n0, c0, rfl⟩ := hs0.form
  have HG1 := Aside0.mk ((hb.block _ (blk_lt HG0.out)).trans HG0.out)
  have HR1 := Aside0.mk ((hb.block _ (blk_lt HR0.out)).trans HR0.out)
  have HS1 := Aside0.mk (hs0.lower HB0.out.size)
  have HB1 := Aside0.mk (show Below w.heap.size w w1 from below_then HB0.out HB0.out.size hb)
  clear hb hs0 HG0 HR0 HB0
  have d0 : w1.cell? ⟨w.heap.size, 0, none⟩ = some (.slice A L.length c) := by rw [cell_of_row _ _ _ _ _ _ HG1.out]; rfl
  have d2 : w1.cell? ⟨w.heap.size, 1, none⟩ = some (.int .i64 f) := by rw [cell_of_row _ _ _ _ _ _ HG1.out]; rfl
  have d3 : w1.cell? ⟨w.heap.size, 2, none⟩ = some (.bool false) := by rw [cell_of_row _ _ _ _ _ _ HG1.out]; rfl
  have d4 : w1.cell? ⟨w.heap.size, 3, none⟩ = some (.int .i64 n) := by rw [cell_of_row _ _ _ _ _ _ HG1.out]; rfl
  have hbA := below_alloc (Below.refl w1.heap.size w1) (.cells #[.string x0, .slice A0 n0 c0, .int .i64 T0, .string b0] 73)
  have e0 := pw_cell_below hbA d0
  have e2 := pw_cell_below hbA d2
  have e3 := pw_cell_below hbA d3
  have e4 := pw_cell_below hbA d4
  clear d0 d2 d3 d4 hbA
  go_wp2_with (fail)
  obtain ⟨g4, hg4⟩ : ∃ g, w1.heap.size = g := ⟨_, rfl⟩
  have HA1 : Aside0 ((w1.alloc (.cells #[.string x0, .slice A0 n0 c0, .int .i64 T0, .string b0] 73)).heap[g4]? = some (.cells #[.string x0, .slice A0 n0 c0, .int .i64 T0, .string b0] 73 (0, 0))) := ⟨stoNew_at hg4 _⟩
  have hba := below_alloc (Below.refl w1.heap.size w1) (.cells #[.string x0, .slice A0 n0 c0, .int .i64 T0, .string b0] 73)
  have HBA := Aside0.mk hba
  have HR2 := Aside0.mk ((hba.block _ (blk_lt HR1.out)).trans HR1.out)
  have HS2 := Aside0.mk (HS1.out.below hba)
  have HB2 := Aside0.mk (below_then HB1.out HB1.out.size hba)
  have HG4 : Aside0 (w.heap.size + 1 < g4) := ⟨by rw [← hg4]; exact blk_lt HR1.out⟩
  clear HG1 HR1 HS1 HB1 hba e0 e2 e3 e4
  rw [hg4]
  generalize w1.alloc (.cells #[.string x0, .slice A0 n0 c0, .int .i64 T0, .string b0] 73) = w2 at *
  refine (H1.out w2 (Kd.C_below HC.out HB2.out)).mono ?_
  rintro e w3 ⟨hb, bv1, rfl, hs1⟩
  obtain ⟨A1, n1, c1, rfl⟩ := hs1.form
  have HA3 := Aside0.mk ((hb.block _ (blk_lt HA1.out)).trans HA1.out)
  have HR3 := Aside0.mk ((hb.block _ (blk_lt HR2.out)).trans HR2.out)
  have HS3 := Aside0.mk (HS2.out.below hb)
  have HT3 := Aside0.mk (hs1.lower HB2.out.size)
  have HB3 := Aside0.mk (show Below w.heap.size w w3 from below_then HB2.out HB2.out.size hb)
  clear hb hs1 HA1 HR2 HS2 HB2 HBA hg4
  have r0 : w3.cell? ⟨w.heap.size + 1, 0, none⟩ = some (.string ⟨#[]⟩) := by rw [cell_of_row _ _ _ _ _ _ HR3.out]; rfl
  have r1 : w3.cell? ⟨w.heap.size + 1, 1, none⟩ = some (.slice none 0 0) := by rw [cell_of_row _ _ _ _ _ _ HR3.out]; rfl
  have r2 : w3.cell? ⟨w.heap.size + 1, 2, none⟩ = some (.int .i64 0) := by rw [cell_of_row _ _ _ _ _ _ HR3.out]; rfl
  have r3 : w3.cell? ⟨w.heap.size + 1, 3, none⟩ = some (.string ⟨#[]⟩) := by rw [cell_of_row _ _ _ _ _ _ HR3.out]; rfl
  have rf0 := blk_thaw HR3.out 0
  have rf1 := blk_thaw HR3.out 1
  have rf2 := blk_thaw HR3.out 2
  have rf3 := blk_thaw HR3.out 3
  have a0 : w3.cell? ⟨g4, 0, none⟩ = some (.string x0) := by rw [cell_of_row _ _ _ _ _ _ HA3.out]; rfl
  have a1 : w3.cell? ⟨g4, 1, none⟩ = some (.slice A0 n0 c0) := by rw [cell_of_row _ _ _ _ _ _ HA3.out]; rfl
  have a2 : w3.cell? ⟨g4, 2, none⟩ = some (.int .i64 T0) := by rw [cell_of_row _ _ _ _ _ _ HA3.out]; rfl
  have a3 : w3.cell? ⟨g4, 3, none⟩ = some (.string b0) := by rw [cell_of_row _ _ _ _ _ _ HA3.out]; rfl
  have ha3 := HA3.out
  have hBN := below_alloc (Below.refl w3.heap.size w3) (.cells #[.string x1, .slice A1 n1 c1, .int .i64 T1, .string b1] 73)
  have HRW := Aside0.mk ((hBN.block _ (blk_lt HR3.out)).trans HR3.out)
  have HBW := Aside0.mk (below_then HB3.out HB3.out.size hBN)
  have HSW := Aside0.mk (HS3.out.below hBN)
  have HTW := Aside0.mk (HT3.out.below hBN)
  clear hBN
  have hbN := below_alloc (Below.refl w3.heap.size w3) (.cells #[.string x1, .slice A1 n1 c1, .int .i64 T1, .string b1] 73)
  have s0 := pw_cell_below hbN a0
  have s1 := pw_cell_below hbN a1
  have s2 := pw_cell_below hbN a2
  have s3 := pw_cell_below hbN a3
  have t0 := pw_cell_below hbN r0
  have t1 := pw_cell_below hbN r1
  have t2 := pw_cell_below hbN r2
  have t3 := pw_cell_below hbN r3
  have tf0 := blk_thaw HRW.out 0
  have tf1 := blk_thaw HRW.out 1
  have tf2 := blk_thaw HRW.out 2
  have tf3 := blk_thaw HRW.out 3
  clear a0 a1 a2 a3 r0 r1 r2 r3 rf0 rf1 rf2 rf3 ha3 hbN
  have hsplit : k1 = false ∨ (k1 = true ∧ k0 = false) ∨ (k1 = true ∧ k0 = true ∧ decide (T0 < T1) = true) ∨ (k1 = true ∧ k0 = true ∧ decide (T0 < T1) = false) := by
    cases k1 <;> cases k0 <;> cases decide (T0 < T1) <;> simp
  rcases hsplit with rfl | ⟨rfl, rfl⟩ | ⟨rfl, rfl, p1⟩ | ⟨rfl, rfl, p1⟩
  · go_wp2_with (fail)
    have hz := row4 (a' := .string x0) (b' := .slice A0 n0 c0) (c' := .int .i64 T0) (d' := .string b0) HRW.out
    refine bodyPost_ret (results_ct rfl _ _ (w.heap.size + 1) 73 #[.string x0, .slice A0 n0 c0, .int .i64 T0, .string b0] (0, 0) _ rfl hz Try.underlying73 rfl (by kernel_rfl)) rfl ?_
    obtain ⟨q, hq, rfl, rfl, rfl, rfl⟩ : ∃ q : StoR, better (better (0, [], []) o0) o1 = q ∧ x0 = q.2.2.headD ⟨#[]⟩ ∧ T0 = q.1 ∧ b0 = txt q.2.1 ∧ l0 = q.2.2.tail := by
      rcases HK1.out with ⟨_, _, _, _, _, ho⟩ | ⟨h, _⟩
      · rcases HK0.out with ⟨_, h1, h2, h3, h4, ho0⟩ | ⟨_, p, ho0, h1, h2, h3, h4⟩
        · exact ⟨(0, [], []), by rw [ho, ho0]; rfl, h1, h2, h3, h4⟩
        · exact ⟨p, by rw [ho, ho0, better_zero (HP0.out p ho0).1]; rfl, h1, h2, h3, h4⟩
      · cases h
    rw [HBE.out, hq]
    exact ⟨below_setRc (below_setRc (below_setRc (below_setRc HBW.out (Nat.le_succ _)) (Nat.le_succ _)) (Nat.le_succ _)) (Nat.le_succ _), _, rfl, _, rfl, HSW.out.keep (fun g cs _ hg => keep4 HRW.out g cs hg)⟩
  · go_wp2_with (fail)
    have hz := row4 (a' := .string x1) (b' := .slice A1 n1 c1) (c' := .int .i64 T1) (d' := .string b1) HRW.out
    refine bodyPost_ret (results_ct rfl _ _ (w.heap.size + 1) 73 #[.string x1, .slice A1 n1 c1, .int .i64 T1, .string b1] (0, 0) _ rfl hz Try.underlying73 rfl (by kernel_rfl)) rfl ?_
    obtain ⟨q, hq, rfl, rfl, rfl, rfl⟩ : ∃ q : StoR, better (better (0, [], []) o0) o1 = q ∧ x1 = q.2.2.headD ⟨#[]⟩ ∧ T1 = q.1 ∧ b1 = txt q.2.1 ∧ l1 = q.2.2.tail := by
      rcases HK1.out with ⟨h, _⟩ | ⟨_, p, ho, h1, h2, h3, h4⟩
      · cases h
      · rcases HK0.out with ⟨_, _, _, _, _, ho0⟩ | ⟨h, _⟩
        · exact ⟨p, by rw [ho, ho0, better_none, better_zero (HP1.out p ho).1], h1, h2, h3, h4⟩
        · cases h
    rw [HBE.out, hq]
    exact ⟨below_setRc (below_setRc (below_setRc (below_setRc HBW.out (Nat.le_succ _)) (Nat.le_succ _)) (Nat.le_succ _)) (Nat.le_succ _), _, rfl, _, rfl, HTW.out.keep (fun g cs _ hg => keep4 HRW.out g cs hg)⟩
  · go_wp2_with (fail)
    have hz := row4 (a' := .string x1) (b' := .slice A1 n1 c1) (c' := .int .i64 T1) (d' := .string b1) HRW.out
    refine bodyPost_ret (results_ct rfl _ _ (w.heap.size + 1) 73 #[.string x1, .slice A1 n1 c1, .int .i64 T1, .string b1] (0, 0) _ rfl hz Try.underlying73 rfl (by kernel_rfl)) rfl ?_
    obtain ⟨q, hq, rfl, rfl, rfl, rfl⟩ : ∃ q : StoR, better (better (0, [], []) o0) o1 = q ∧ x1 = q.2.2.headD ⟨#[]⟩ ∧ T1 = q.1 ∧ b1 = txt q.2.1 ∧ l1 = q.2.2.tail := by
      rcases HK1.out with ⟨h, _⟩ | ⟨_, p, ho, h1, h2, h3, h4⟩
      · cases h
      · rcases HK0.out with ⟨h, _⟩ | ⟨_, p0, ho0, g1, g2, g3, g4⟩
        · cases h
        · exact ⟨p, by rw [ho, ho0, better_zero (HP0.out p0 ho0).1, better_lt (by rw [← g2, ← h2]; exact of_decide_eq_true p1)], h1, h2, h3, h4⟩
    rw [HBE.out, hq]
    exact ⟨below_setRc (below_setRc (below_setRc (below_setRc HBW.out (Nat.le_succ _)) (Nat.le_succ _)) (Nat.le_succ _)) (Nat.le_succ _), _, rfl, _, rfl, HTW.out.keep (fun g cs _ hg => keep4 HRW.out g cs hg)⟩
  · go_wp2_with (fail)
    have hz := row4 (a' := .string x0) (b' := .slice A0 n0 c0) (c' := .int .i64 T0) (d' := .string b0) HRW.out
    refine bodyPost_ret (results_ct rfl _ _ (w.heap.size + 1) 73 #[.string x0, .slice A0 n0 c0, .int .i64 T0, .string b0] (0, 0) _ rfl hz Try.underlying73 rfl (by kernel_rfl)) rfl ?_
    obtain ⟨q, hq, rfl, rfl, rfl, rfl⟩ : ∃ q : StoR, better (better (0, [], []) o0) o1 = q ∧ x0 = q.2.2.headD ⟨#[]⟩ ∧ T0 = q.1 ∧ b0 = txt q.2.1 ∧ l0 = q.2.2.tail := by
      rcases HK1.out with ⟨h, _⟩ | ⟨_, p, ho, h1, h2, h3, h4⟩
      · cases h
      · rcases HK0.out with ⟨h, _⟩ | ⟨_, p0, ho0, g1, g2, g3, g4⟩
        · cases h
        · exact ⟨p0, by rw [ho, ho0, better_zero (HP0.out p0 ho0).1, better_ge (by rw [← g2, ← h2]; exact of_decide_eq_false p1)], g1, g2, g3, g4⟩
    rw [HBE.out, hq]
    exact ⟨below_setRc (below_setRc (below_setRc (below_setRc HBW.out (Nat.le_succ _)) (Nat.le_succ _)) (Nat.le_succ _)) (Nat.le_succ _), _, rfl, _, rfl, HSW.out.keep (fun g cs _ hg => keep4 HRW.out g cs hg)⟩
end Go.Proofs.Ytbkbganflnemeaa.Pr
end

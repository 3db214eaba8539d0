/- The walks of sha's small functions: start, text, Begin, constants, big, right. -/
-- HAND samphire/sha.Begin sha_Begin 0 1
import Derived.Test.YtbmpcdpcdljibaaProg
import Derived.WalkKit
import Derived.KernelRfl
import Derived.Deep.LoopGhost
import Derived.Laws.BytesArg
import Derived.Test.YtbmpcdpcdljibaaHShaS
namespace Go.Proofs.Ytbmpcdpcdljibaa.Pr
open Go.RowKit Go.Proofs.YtbmpcdpcdljibaaW.PrintWords
set_option maxHeartbeats 400000
set_option linter.unusedVariables false
set_option linter.unusedSimpArgs false
theorem sha_start.calls (w : World) : Calls Try.prog 39 #[] w fun e w' => e = .returned (.agg #[.int .u32 (St0.a : Int), .int .u32 (St0.b : Int), .int .u32 (St0.c : Int), .int .u32 (St0.d : Int), .int .u32 (St0.e : Int), .int .u32 (St0.f : Int), .int .u32 (St0.g : Int), .int .u32 (St0.h : Int)]) ∧ Below w.heap.size w w' := by
  go_enter Try.func39, Try.ntmps39
  go_wp2
  exact bodyPost_ret (v := .agg #[.int .u32 (St0.a : Int), .int .u32 (St0.b : Int), .int .u32 (St0.c : Int), .int .u32 (St0.d : Int), .int .u32 (St0.e : Int), .int .u32 (St0.f : Int), .int .u32 (St0.g : Int), .int .u32 (St0.h : Int)]) (by simp [results, Try.results39, go_sem, St0]) rfl ⟨rfl, (Below.refl _ _).alloc (Nat.le_refl _) _⟩

def u8s (l : List Nat) : Array Value := (l.map fun (n : Nat) => Value.int .u8 (n : Int)).toArray
theorem u8s_size (l : List Nat) : (u8s l).size = l.length := by simp [u8s]
theorem u8s_get (l : List Nat) (i : Nat) (h : i < l.length) : (u8s l)[i]? = some (.int .u8 (l.getD i 0 : Nat)) := by
  simp [u8s, h]
theorem u8s_set (l : List Nat) (i v : Nat) : (u8s l).setIfInBounds i (.int .u8 (v : Int)) = u8s (l.set i v) := by
  simp [u8s]
def outAt (s : List Nat) (k : Nat) : List Nat := (s.take k).flatMap by4 ++ List.replicate (32 - 4 * k) 0
theorem by4_length (x : Nat) : (by4 x).length = 4 := rfl
theorem flat4_length (l : List Nat) : (l.flatMap by4).length = 4 * l.length := by
  induction l with
  | nil => rfl
  | cons x l ih => rw [List.flatMap_cons, List.length_append, by4_length, ih, List.length_cons]; omega
theorem outAt_length (s : List Nat) (hs : s.length = 8) (k : Nat) (hk : k ≤ 8) : (outAt s k).length = 32 := by
  unfold outAt
  rw [List.length_append, flat4_length, List.length_take, List.length_replicate]
  omega
theorem outAt_get (s : List Nat) (hs : s.length = 8) (k j : Nat) (hk : k < 8) (hj : j < 4) : ∃ v : Nat, (u8s (outAt s k))[4 * k + j]? = some (.int .u8 (v : Int)) :=
  ⟨_, u8s_get _ _ (by rw [outAt_length s hs k (by omega)]; omega)⟩
theorem outAt_set (s : List Nat) (hs : s.length = 8) (k x : Nat) (hk : k < 8) (hx : s.getD k 0 = x) :
    ((((outAt s k).set (4 * k) (x / 16777216 % 256)).set (4 * k + 1) (x / 65536 % 256)).set (4 * k + 2) (x / 256 % 256)).set (4 * k + 3) (x % 256) = outAt s (k + 1) := by
  have hT : (s.take k).length = k := by rw [List.length_take]; omega
  have hF : ((s.take k).flatMap by4).length = 4 * k := by rw [flat4_length, hT]
  have hn : s.take (k + 1) = s.take k ++ [x] := by
    rw [List.take_succ_eq_append_getElem (by omega), ← hx]
    simp [show k < s.length by omega]
  have hr : List.replicate (32 - 4 * k) 0 = 0 :: 0 :: 0 :: 0 :: List.replicate (32 - 4 * (k + 1)) 0 := by
    rw [show 32 - 4 * k = (32 - 4 * (k + 1)) + 1 + 1 + 1 + 1 by omega]; rfl
  unfold outAt
  rw [hn, List.flatMap_append, hr]
  generalize (s.take k).flatMap by4 = F at hF
  rw [List.set_append_right _ _ (by omega), List.set_append_right _ _ (by omega), List.set_append_right _ _ (by omega), List.set_append_right _ _ (by omega)]
  rw [show 4 * k - F.length = 0 by omega, show 4 * k + 1 - F.length = 1 by omega, show 4 * k + 2 - F.length = 2 by omega, show 4 * k + 3 - F.length = 3 by omega]
  simp [by4]
theorem str_nats (l : List Nat) : strOfNums (l.map fun (n : Nat) => (n : Int)) = txt l := by
  unfold strOfNums txt
  rw [List.map_map]
  rfl
/-- An array of bytes, cut whole, as a text. -/
theorem conv_u8s (w : World) (src dst e T g : Nat) (l : List Nat) (n : Nat) (hs : Try.prog.underlying src = some (.slice e)) (he : Try.prog.underlying e = some (.int .u8)) (hd : Try.prog.underlying dst = some .string)
    (hg : w.heap[g]? = some (.cells (u8s l) T (0, 0))) (hn : l.length = n) (c : Nat) : (convert src dst (.slice (some ⟨g, 0, none⟩) n c)).run Try.prog w = .ok (.string (txt l)) w := by
  rw [← str_nats]
  refine run_convert_bytes_arg w src e hs he g 0 n c _ (by simpa using hn) (fun i hi => ?_) dst hd
  rw [Nat.zero_add, cell_of_row w g i _ _ _ hg, u8s_get l i (by omega)]
  simp [show i < l.length by omega]
theorem index_row (l : List Value) (t e : Nat) (n : Nat) (hu : Try.prog.underlying t = some (.array n e)) (hi : (Try.prog.info? e).map (·.size) = some 1) (hc : ∀ v ∈ l, v.cells = #[v] ∧ ∀ cs, v ≠ .agg cs) (k : Nat) (v : Value) (hk : l[k]? = some v) (hn : l.length = n)
    (hb : ∃ d, Try.prog.underlying e = some d ∧ (match d with | .struct _ | .array _ _ => false | _ => true) = true) (w : World) : (Instr.index t (.agg l.toArray) (.int .i64 (k : Int))).run Try.prog w = .ok v w := by
  have hkl : k < l.length := by
    rcases Nat.lt_or_ge k l.length with h | h
    · exact h
    · rw [List.getElem?_eq_none h] at hk; cases hk
  obtain ⟨d, hd, hd2⟩ := hb
  cases hq : Try.prog.info? e with
  | none => simp [hq] at hi
  | some i =>
    have hs : i.size = 1 := by simpa [hq] using hi
    have hagg : (isAgg e).run Try.prog w = .ok false w := by
      unfold isAgg
      rw [Sem.run_bind, run_underlying hd w]
      cases d <;> simp_all
    simp only [Instr.index, asIntOf, Sem.run_bind, Sem.run_pure, Result.andThen_ok, run_underlying hu w]
    rw [if_pos ⟨by omega, by omega⟩]
    have hso : (sizeOf e).run Try.prog w = .ok 1 w := by simp [sizeOf, typeInfo, hq, hs]
    simp only [hso, Result.andThen_ok, part, Sem.run_bind, Sem.run_pure, hagg]
    simp [hk]

set_option maxRecDepth 100000 in
theorem sums_text.calls (a b c d e f g h : Nat) (w : World) : Calls Try.prog 40 #[.agg #[.int .u32 a, .int .u32 b, .int .u32 c, .int .u32 d, .int .u32 e, .int .u32 f, .int .u32 g, .int .u32 h]] w fun E w' => E = .returned (.string (txt (St.mk a b c d e f g h).bytes)) ∧ Below w.heap.size w w' := by
  have hi : ∀ (k : Nat) w, k < 8 → (Instr.index 45 (.agg #[.int .u32 a, .int .u32 b, .int .u32 c, .int .u32 d, .int .u32 e, .int .u32 f, .int .u32 g, .int .u32 h]) (.int .i64 (k : Int))).run Try.prog w = .ok (.int .u32 (([a, b, c, d, e, f, g, h] : List Nat).getD k 0 : Nat)) w := by
    intro k w hk
    refine index_row [.int .u32 a, .int .u32 b, .int .u32 c, .int .u32 d, .int .u32 e, .int .u32 f, .int .u32 g, .int .u32 h] 45 43 8 Try.underlying45 (by kernel_rfl) ?_ k _ ?_ rfl ⟨_, Try.underlying43, rfl⟩ w
    · simp [Value.cells]
    · rcases k with _ | _ | _ | _ | _ | _ | _ | _ | k <;> first | rfl | omega
  have hcv : ∀ W : World, W.heap[w.heap.size + 1]? = some (.cells (u8s (St.mk a b c d e f g h).bytes) 71 (0, 0)) → (convert 32 9 (.slice (some ⟨w.heap.size + 1, 0, none⟩) 32 32)).run Try.prog W = .ok (.string (txt (St.mk a b c d e f g h).bytes)) W :=
    fun W hW => conv_u8s W 32 9 5 71 _ _ 32 Try.underlying32 Try.underlying5 Try.underlying9 hW rfl 32
  have hcv1 := Aside0.mk hcv
  clear hcv
  go_enter Try.func40, Try.ntmps40
  go_wp2
  go_loopw [7] (fun i wr => ∃ k : Nat, k ≤ 8 ∧ i = .int .i64 k ∧ wr = (w.alloc (.cells #[.int .u32 a, .int .u32 b, .int .u32 c, .int .u32 d, .int .u32 e, .int .u32 f, .int .u32 g, .int .u32 h] 45)).alloc (.cells (u8s (outAt [a, b, c, d, e, f, g, h] k)) 71)) (fun i _ => 8 - (intOf i).toNat)
  case atStart => exact ⟨0, by omega, rfl, rfl⟩
  case round =>
    obtain ⟨k, hk, rfl, rfl⟩ := hrel
    by_cases hlt : k < 8
    · have hi' := hi k
      clear hi
      have hj : ∀ w, (Instr.index 45 (.agg #[.int .u32 a, .int .u32 b, .int .u32 c, .int .u32 d, .int .u32 e, .int .u32 f, .int .u32 g, .int .u32 h]) (.int .i64 (k : Int))).run Try.prog w = .ok (.int .u32 (([a, b, c, d, e, f, g, h] : List Nat).getD k 0 : Nat)) w := fun w => hi' w hlt
      clear hi'
      generalize hx : (([a, b, c, d, e, f, g, h] : List Nat).getD k 0 : Nat) = x at hj
      have Hx := Aside0.mk hx
      clear hx
      have hs : ([a, b, c, d, e, f, g, h] : List Nat).length = 8 := rfl
      obtain ⟨v0, hv0⟩ := outAt_get [a, b, c, d, e, f, g, h] hs k 0 hlt (by omega)
      obtain ⟨v1, hv1⟩ := outAt_get [a, b, c, d, e, f, g, h] hs k 1 hlt (by omega)
      obtain ⟨v2, hv2⟩ := outAt_get [a, b, c, d, e, f, g, h] hs k 2 hlt (by omega)
      obtain ⟨v3, hv3⟩ := outAt_get [a, b, c, d, e, f, g, h] hs k 3 hlt (by omega)
      rw [Nat.add_zero] at hv0
      clear hs
      go_wp2
      refine ⟨⟨k + 1, by omega, by go_num, ?_⟩, by simp [intOf]; omega⟩
      have e := outAt_set [a, b, c, d, e, f, g, h] rfl k x hlt Hx.out
      rw [← e, ← u8s_set, ← u8s_set, ← u8s_set, ← u8s_set]
      rfl
    · have hk8 : k = 8 := by omega
      subst hk8
      clear hi hlt
      have hcv := hcv1.out ((w.alloc (.cells #[.int .u32 a, .int .u32 b, .int .u32 c, .int .u32 d, .int .u32 e, .int .u32 f, .int .u32 g, .int .u32 h] 45)).alloc (.cells (u8s (outAt [a, b, c, d, e, f, g, h] 8)) 71)) (by rw [show outAt [a, b, c, d, e, f, g, h] 8 = (St.mk a b c d e f g h).bytes by simp [outAt, St.bytes, St.list]]; exact heap_alloc2_new _ _ _)
      go_wp2
      go_ret
      exact ⟨rfl, ((Below.refl _ _).alloc (Nat.le_refl _) _).alloc (by simp) _⟩

def sha_Begin.f : Option ByteArray := some (txt St0.bytes)
theorem sha_Begin.calls (r : ByteArray) (w : World) (h : sha_Begin.f = some r) : Calls Try.prog 17 #[] w fun e w' => e = .returned (.string r) ∧ Below w.heap.size w w' := by
  obtain rfl := Option.some.inj h
  clear h
  go_enter Try.func17, Try.ntmps17
  go_wp2_with (first | (go_at_call 39; refine (sha_start.calls _).mono ?_; rintro e w1 ⟨rfl, hb1⟩) | (go_at_call 40; refine (sums_text.calls _ _ _ _ _ _ _ _ _).mono ?_; rintro e w2 ⟨rfl, hb2⟩))
  go_ret
  exact ⟨rfl, below_then hb1 hb1.size hb2⟩
end Go.Proofs.Ytbmpcdpcdljibaa.Pr

/- SHA-256 in plain Lean: numbers and lists alone; no program in sight. -/
-- HAND samphire/sha.Begin sha_Begin 0 1
-- HAND samphire/samphireref02.right samphireref02_right 0 0
import Derived.Test.YtmablneefndedaaWWords
import Derived.Test.YtmablneefndedaaHTxtA
import Derived.Test.YtmablneefndedaaProg
import Derived.WalkKit
import Derived.KernelRfl
import Derived.Deep.LoopGhost
import Derived.Laws.BytesArg
import Derived.Laws.BitsLemmas
import Derived.BigQuiet
namespace Go.Proofs.Ytmablneefndedaa.Pr
open Go.Proofs.YtmablneefndedaaW.PrintWords
set_option linter.unusedVariables false
set_option linter.unusedSimpArgs false

/-- The numbers of words of 32 bits, as the cells of an array. -/
def u32s (l : List Nat) : Array Value := (l.map fun (n : Nat) => Value.int .u32 (n : Int)).toArray
theorem u32s_size (l : List Nat) : (u32s l).size = l.length := by simp [u32s]
theorem u32s_get (l : List Nat) (i : Nat) (h : i < l.length) : (u32s l)[i]? = some (.int .u32 (l.getD i 0 : Nat)) := by
  simp [u32s, h]
theorem u32s_set (l : List Nat) (i v : Nat) : (u32s l).setIfInBounds i (.int .u32 (v : Int)) = u32s (l.set i v) := by
  simp [u32s]

def rotr (x n : Nat) : Nat := (x >>> n) ||| ((x <<< (32 - n)) % 4294967296)
def be4 (l : List Nat) (i : Nat) : Nat := l.getD i 0 * 16777216 + l.getD (i + 1) 0 * 65536 + l.getD (i + 2) 0 * 256 + l.getD (i + 3) 0
def sg0 (x : Nat) : Nat := rotr x 7 ^^^ rotr x 18 ^^^ (x >>> 3)
def sg1 (x : Nat) : Nat := rotr x 17 ^^^ rotr x 19 ^^^ (x >>> 10)
def bs0 (x : Nat) : Nat := rotr x 2 ^^^ rotr x 13 ^^^ rotr x 22
def bs1 (x : Nat) : Nat := rotr x 6 ^^^ rotr x 11 ^^^ rotr x 25
def chs (e f g : Nat) : Nat := (e &&& f) ^^^ ((4294967295 - e) &&& g)
def maj (a b c : Nat) : Nat := (a &&& b) ^^^ (a &&& c) ^^^ (b &&& c)
/-- The word number k of the schedule, of those ahead. -/
def wordAt (b w : List Nat) (k : Nat) : Nat :=
  if k < 16 then be4 b (4 * k) else (w.getD (k - 16) 0 + sg0 (w.getD (k - 15) 0) + w.getD (k - 7) 0 + sg1 (w.getD (k - 2) 0)) % 4294967296
def sched (b : List Nat) : Nat → List Nat
  | 0 => []
  | k + 1 => sched b k ++ [wordAt b (sched b k) k]
theorem sched_length (b : List Nat) (k : Nat) : (sched b k).length = k := by
  induction k with
  | zero => rfl
  | succ k ih => simp [sched, ih]
def shaK : List Nat := [0x428a2f98, 0x71374491, 0xb5c0fbcf, 0xe9b5dba5, 0x3956c25b, 0x59f111f1, 0x923f82a4, 0xab1c5ed5, 0xd807aa98, 0x12835b01, 0x243185be, 0x550c7dc3, 0x72be5d74, 0x80deb1fe, 0x9bdc06a7, 0xc19bf174, 0xe49b69c1, 0xefbe4786, 0x0fc19dc6, 0x240ca1cc, 0x2de92c6f, 0x4a7484aa, 0x5cb0a9dc, 0x76f988da, 0x983e5152, 0xa831c66d, 0xb00327c8, 0xbf597fc7, 0xc6e00bf3, 0xd5a79147, 0x06ca6351, 0x14292967, 0x27b70a85, 0x2e1b2138, 0x4d2c6dfc, 0x53380d13, 0x650a7354, 0x766a0abb, 0x81c2c92e, 0x92722c85, 0xa2bfe8a1, 0xa81a664b, 0xc24b8b70, 0xc76c51a3, 0xd192e819, 0xd6990624, 0xf40e3585, 0x106aa070, 0x19a4c116, 0x1e376c08, 0x2748774c, 0x34b0bcb5, 0x391c0cb3, 0x4ed8aa4a, 0x5b9cca4f, 0x682e6ff3, 0x748f82ee, 0x78a5636f, 0x84c87814, 0x8cc70208, 0x90befffa, 0xa4506ceb, 0xbef9a3f7, 0xc67178f2]
theorem shaK_length : shaK.length = 64 := rfl
def shaH : List Nat := [0x6a09e667, 0xbb67ae85, 0x3c6ef372, 0xa54ff53a, 0x510e527f, 0x9b05688c, 0x1f83d9ab, 0x5be0cd19]
/-- The eight words of a state. -/
structure St where
  (a b c d e f g h : Nat)
def St.list (s : St) : List Nat := [s.a, s.b, s.c, s.d, s.e, s.f, s.g, s.h]
def St.ok (s : St) : Prop := s.a < 4294967296 ∧ s.b < 4294967296 ∧ s.c < 4294967296 ∧ s.d < 4294967296 ∧ s.e < 4294967296 ∧ s.f < 4294967296 ∧ s.g < 4294967296 ∧ s.h < 4294967296
def t1 (s : St) (k w : Nat) : Nat := (s.h + bs1 s.e + chs s.e s.f s.g + k + w) % 4294967296
def t2 (s : St) : Nat := (bs0 s.a + maj s.a s.b s.c) % 4294967296
def rnd (s : St) (k w : Nat) : St := ⟨(t1 s k w + t2 s) % 4294967296, s.a, s.b, s.c, (s.d + t1 s k w) % 4294967296, s.e, s.f, s.g⟩
/-- The state behind so many rounds. -/
def rds (w : List Nat) (s : St) : Nat → St
  | 0 => s
  | k + 1 => rnd (rds w s k) (shaK.getD k 0) (w.getD k 0)
def St.add (s t : St) : St := ⟨(s.a + t.a) % 4294967296, (s.b + t.b) % 4294967296, (s.c + t.c) % 4294967296, (s.d + t.d) % 4294967296, (s.e + t.e) % 4294967296, (s.f + t.f) % 4294967296, (s.g + t.g) % 4294967296, (s.h + t.h) % 4294967296⟩
/-- The state behind a block of 64 bytes. -/
def stp (s : St) (b : List Nat) : St := s.add (rds (sched b 64) s 64)
theorem rnd_ok {s : St} (h : s.ok) (k w : Nat) : (rnd s k w).ok := by
  obtain ⟨h1, h2, h3, h4, h5, h6, h7, h8⟩ := h
  exact ⟨Nat.mod_lt _ (by decide), h1, h2, h3, Nat.mod_lt _ (by decide), h5, h6, h7⟩
theorem rds_ok {w : List Nat} {s : St} (h : s.ok) : ∀ k, (rds w s k).ok
  | 0 => h
  | k + 1 => rnd_ok (rds_ok h k) _ _
theorem St.add_ok (s t : St) : (s.add t).ok := ⟨Nat.mod_lt _ (by decide), Nat.mod_lt _ (by decide), Nat.mod_lt _ (by decide), Nat.mod_lt _ (by decide), Nat.mod_lt _ (by decide), Nat.mod_lt _ (by decide), Nat.mod_lt _ (by decide), Nat.mod_lt _ (by decide)⟩
/-- The four bytes of a word, the highest first. -/
def by4 (x : Nat) : List Nat := [x / 16777216 % 256, x / 65536 % 256, x / 256 % 256, x % 256]
def St.bytes (s : St) : List Nat := s.list.flatMap by4
def St0 : St := ⟨0x6a09e667, 0xbb67ae85, 0x3c6ef372, 0xa54ff53a, 0x510e527f, 0x9b05688c, 0x1f83d9ab, 0x5be0cd19⟩
theorem St0_ok : St0.ok := by unfold St.ok St0; decide
/-- The state that a text of 32 bytes is. -/
def stOf (l : List Nat) : St := ⟨be4 l 0, be4 l 4, be4 l 8, be4 l 12, be4 l 16, be4 l 20, be4 l 24, be4 l 28⟩
/-- All blocks. -/
def blks : Nat → St → List Nat → St
  | 0, s, _ => s
  | n + 1, s, l => blks n (stp s (l.take 64)) (l.drop 64)
/-- What stands behind a text of so many bytes. -/
def padL (n : Nat) : List Nat := 128 :: (List.replicate ((119 - n % 64) % 64) 0 ++ by4 (n / 536870912) ++ by4 (8 * n))
def sumL (l : List Nat) : List Nat := let p := l ++ padL l.length; (blks (p.length / 64) St0 p).bytes
end Go.Proofs.Ytmablneefndedaa.Pr

namespace Go.Proofs.Ytmablneefndedaa.Pr
open Go.RowKit Go.Proofs.YtmablneefndedaaW.PrintWords
set_option maxHeartbeats 400000
set_option linter.unusedVariables false
set_option linter.unusedSimpArgs false
theorem sha_start.calls (w : World) : Calls Try.prog 125 #[] w fun e w' => e = .returned (.agg #[.int .u32 (St0.a : Int), .int .u32 (St0.b : Int), .int .u32 (St0.c : Int), .int .u32 (St0.d : Int), .int .u32 (St0.e : Int), .int .u32 (St0.f : Int), .int .u32 (St0.g : Int), .int .u32 (St0.h : Int)]) ∧ Below w.heap.size w w' := by
  go_enter Try.func125, Try.ntmps125
  go_wp2
  exact bodyPost_ret (v := .agg #[.int .u32 (St0.a : Int), .int .u32 (St0.b : Int), .int .u32 (St0.c : Int), .int .u32 (St0.d : Int), .int .u32 (St0.e : Int), .int .u32 (St0.f : Int), .int .u32 (St0.g : Int), .int .u32 (St0.h : Int)]) (by simp [results, Try.results125, go_sem, St0]) rfl ⟨rfl, (Below.refl _ _).alloc (Nat.le_refl _) _⟩

def u8s (l : List Nat) : Array Value := (l.map fun (n : Nat) => Value.int .u8 (n : Int)).toArray
theorem u8s_size (l : List Nat) : (u8s l).size = l.length := by simp [u8s]
theorem u8s_get (l : List Nat) (i : Nat) (h : i < l.length) : (u8s l)[i]? = some (.int .u8 (l.getD i 0 : Nat)) := by
  simp [u8s, h]
theorem u8s_set (l : List Nat) (i v : Nat) : (u8s l).setIfInBounds i (.int .u8 (v : Int)) = u8s (l.set i v) := by
  simp [u8s]
def outAt (s : List Nat) (k : Nat) : List Nat := (s.take k).flatMap by4 ++ List.replicate (32 - 4 * k) 0
theorem by4_length (x : Nat) : (by4 x).length = 4 := rfl
theorem flat4_length (l : List Nat) : (l.flatMap by4).length = 4 * l.length := by
  induction l with
  | nil => rfl
  | cons x l ih => rw [List.flatMap_cons, List.length_append, by4_length, ih, List.length_cons]; omega
theorem outAt_length (s : List Nat) (hs : s.length = 8) (k : Nat) (hk : k ≤ 8) : (outAt s k).length = 32 := by
  unfold outAt
  rw [List.length_append, flat4_length, List.length_take, List.length_replicate]
  omega
theorem outAt_get (s : List Nat) (hs : s.length = 8) (k j : Nat) (hk : k < 8) (hj : j < 4) : ∃ v : Nat, (u8s (outAt s k))[4 * k + j]? = some (.int .u8 (v : Int)) :=
  ⟨_, u8s_get _ _ (by rw [outAt_length s hs k (by omega)]; omega)⟩
theorem outAt_set (s : List Nat) (hs : s.length = 8) (k x : Nat) (hk : k < 8) (hx : s.getD k 0 = x) :
    ((((outAt s k).set (4 * k) (x / 16777216 % 256)).set (4 * k + 1) (x / 65536 % 256)).set (4 * k + 2) (x / 256 % 256)).set (4 * k + 3) (x % 256) = outAt s (k + 1) := by
  have hT : (s.take k).length = k := by rw [List.length_take]; omega
  have hF : ((s.take k).flatMap by4).length = 4 * k := by rw [flat4_length, hT]
  have hn : s.take (k + 1) = s.take k ++ [x] := by
    rw [List.take_succ_eq_append_getElem (by omega), ← hx]
    simp [show k < s.length by omega]
  have hr : List.replicate (32 - 4 * k) 0 = 0 :: 0 :: 0 :: 0 :: List.replicate (32 - 4 * (k + 1)) 0 := by
    rw [show 32 - 4 * k = (32 - 4 * (k + 1)) + 1 + 1 + 1 + 1 by omega]; rfl
  unfold outAt
  rw [hn, List.flatMap_append, hr]
  generalize (s.take k).flatMap by4 = F at hF
  rw [List.set_append_right _ _ (by omega), List.set_append_right _ _ (by omega), List.set_append_right _ _ (by omega), List.set_append_right _ _ (by omega)]
  rw [show 4 * k - F.length = 0 by omega, show 4 * k + 1 - F.length = 1 by omega, show 4 * k + 2 - F.length = 2 by omega, show 4 * k + 3 - F.length = 3 by omega]
  simp [by4]
/-- An array of bytes, cut whole, as a text. -/
theorem conv_u8s (w : World) (src dst e T g : Nat) (l : List Nat) (n : Nat) (hs : Try.prog.underlying src = some (.slice e)) (he : Try.prog.underlying e = some (.int .u8)) (hd : Try.prog.underlying dst = some .string)
    (hg : w.heap[g]? = some (.cells (u8s l) T (0, 0))) (hn : l.length = n) (c : Nat) : (convert src dst (.slice (some ⟨g, 0, none⟩) n c)).run Try.prog w = .ok (.string (txt l)) w := by
  rw [← str_nats]
  refine run_convert_bytes_arg w src e hs he g 0 n c _ (by simpa using hn) (fun i hi => ?_) dst hd
  rw [Nat.zero_add, cell_of_row w g i _ _ _ hg, u8s_get l i (by omega)]
  simp [show i < l.length by omega]
theorem index_row (l : List Value) (t e : Nat) (n : Nat) (hu : Try.prog.underlying t = some (.array n e)) (hi : (Try.prog.info? e).map (·.size) = some 1) (hc : ∀ v ∈ l, v.cells = #[v] ∧ ∀ cs, v ≠ .agg cs) (k : Nat) (v : Value) (hk : l[k]? = some v) (hn : l.length = n)
    (hb : ∃ d, Try.prog.underlying e = some d ∧ (match d with | .struct _ | .array _ _ => false | _ => true) = true) (w : World) : (Instr.index t (.agg l.toArray) (.int .i64 (k : Int))).run Try.prog w = .ok v w := by
  have hkl : k < l.length := by
    rcases Nat.lt_or_ge k l.length with h | h
    · exact h
    · rw [List.getElem?_eq_none h] at hk; cases hk
  obtain ⟨d, hd, hd2⟩ := hb
  cases hq : Try.prog.info? e with
  | none => simp [hq] at hi
  | some i =>
    have hs : i.size = 1 := by simpa [hq] using hi
    have hagg : (isAgg e).run Try.prog w = .ok false w := by
      unfold isAgg
      rw [Sem.run_bind, run_underlying hd w]
      cases d <;> simp_all
    simp only [Instr.index, asIntOf, Sem.run_bind, Sem.run_pure, Result.andThen_ok, run_underlying hu w]
    rw [if_pos ⟨by omega, by omega⟩]
    have hso : (sizeOf e).run Try.prog w = .ok 1 w := by simp [sizeOf, typeInfo, hq, hs]
    simp only [hso, Result.andThen_ok, part, Sem.run_bind, Sem.run_pure, hagg]
    simp [hk]

set_option maxRecDepth 100000 in
theorem sums_text.calls (a b c d e f g h : Nat) (w : World) : Calls Try.prog 127 #[.agg #[.int .u32 a, .int .u32 b, .int .u32 c, .int .u32 d, .int .u32 e, .int .u32 f, .int .u32 g, .int .u32 h]] w fun E w' => E = .returned (.string (txt (St.mk a b c d e f g h).bytes)) ∧ Below w.heap.size w w' := by
  have hi : ∀ (k : Nat) w, k < 8 → (Instr.index 126 (.agg #[.int .u32 a, .int .u32 b, .int .u32 c, .int .u32 d, .int .u32 e, .int .u32 f, .int .u32 g, .int .u32 h]) (.int .i64 (k : Int))).run Try.prog w = .ok (.int .u32 (([a, b, c, d, e, f, g, h] : List Nat).getD k 0 : Nat)) w := by
    intro k w hk
    refine index_row [.int .u32 a, .int .u32 b, .int .u32 c, .int .u32 d, .int .u32 e, .int .u32 f, .int .u32 g, .int .u32 h] 126 77 8 Try.underlying126 (by kernel_rfl) ?_ k _ ?_ rfl ⟨_, Try.underlying77, rfl⟩ w
    · simp [Value.cells]
    · rcases k with _ | _ | _ | _ | _ | _ | _ | _ | k <;> first | rfl | omega
  have hcv : ∀ W : World, W.heap[w.heap.size + 1]? = some (.cells (u8s (St.mk a b c d e f g h).bytes) 131 (0, 0)) → (convert 28 9 (.slice (some ⟨w.heap.size + 1, 0, none⟩) 32 32)).run Try.prog W = .ok (.string (txt (St.mk a b c d e f g h).bytes)) W :=
    fun W hW => conv_u8s W 28 9 5 131 _ _ 32 Try.underlying28 Try.underlying5 Try.underlying9 hW rfl 32
  have hcv1 := Aside0.mk hcv
  clear hcv
  go_enter Try.func127, Try.ntmps127
  go_wp2
  go_loopw [7] (fun i wr => ∃ k : Nat, k ≤ 8 ∧ i = .int .i64 k ∧ wr = (w.alloc (.cells #[.int .u32 a, .int .u32 b, .int .u32 c, .int .u32 d, .int .u32 e, .int .u32 f, .int .u32 g, .int .u32 h] 126)).alloc (.cells (u8s (outAt [a, b, c, d, e, f, g, h] k)) 131)) (fun i _ => 8 - (intOf i).toNat)
  case atStart => exact ⟨0, by omega, rfl, rfl⟩
  case round =>
    obtain ⟨k, hk, rfl, rfl⟩ := hrel
    by_cases hlt : k < 8
    · have hi' := hi k
      clear hi
      have hj : ∀ w, (Instr.index 126 (.agg #[.int .u32 a, .int .u32 b, .int .u32 c, .int .u32 d, .int .u32 e, .int .u32 f, .int .u32 g, .int .u32 h]) (.int .i64 (k : Int))).run Try.prog w = .ok (.int .u32 (([a, b, c, d, e, f, g, h] : List Nat).getD k 0 : Nat)) w := fun w => hi' w hlt
      clear hi'
      generalize hx : (([a, b, c, d, e, f, g, h] : List Nat).getD k 0 : Nat) = x at hj
      have Hx := Aside0.mk hx
      clear hx
      have hs : ([a, b, c, d, e, f, g, h] : List Nat).length = 8 := rfl
      obtain ⟨v0, hv0⟩ := outAt_get [a, b, c, d, e, f, g, h] hs k 0 hlt (by omega)
      obtain ⟨v1, hv1⟩ := outAt_get [a, b, c, d, e, f, g, h] hs k 1 hlt (by omega)
      obtain ⟨v2, hv2⟩ := outAt_get [a, b, c, d, e, f, g, h] hs k 2 hlt (by omega)
      obtain ⟨v3, hv3⟩ := outAt_get [a, b, c, d, e, f, g, h] hs k 3 hlt (by omega)
      rw [Nat.add_zero] at hv0
      clear hs
      go_wp2
      refine ⟨⟨k + 1, by omega, by go_num, ?_⟩, by simp [intOf]; omega⟩
      have e := outAt_set [a, b, c, d, e, f, g, h] rfl k x hlt Hx.out
      rw [← e, ← u8s_set, ← u8s_set, ← u8s_set, ← u8s_set]
      rfl
    · have hk8 : k = 8 := by omega
      subst hk8
      clear hi hlt
      have hcv := hcv1.out ((w.alloc (.cells #[.int .u32 a, .int .u32 b, .int .u32 c, .int .u32 d, .int .u32 e, .int .u32 f, .int .u32 g, .int .u32 h] 126)).alloc (.cells (u8s (outAt [a, b, c, d, e, f, g, h] 8)) 131)) (by rw [show outAt [a, b, c, d, e, f, g, h] 8 = (St.mk a b c d e f g h).bytes by simp [outAt, St.bytes, St.list]]; exact heap_alloc2_new _ _ _)
      go_wp2
      go_ret
      exact ⟨rfl, ((Below.refl _ _).alloc (Nat.le_refl _) _).alloc (by simp) _⟩

end Go.Proofs.Ytmablneefndedaa.Pr

namespace Go.Proofs.Ytmablneefndedaa.Pr
open Go.RowKit Go.Proofs.YtmablneefndedaaW.PrintWords
set_option maxHeartbeats 400000
set_option linter.unusedVariables false
set_option linter.unusedSimpArgs false
theorem wraps_u32 (n : Int) (h₀ : 0 ≤ n) (h₁ : n < 2 ^ 32) : IntKind.u32.wrap n = n := by rw [IntKind.wrap_u32]; omega
theorem or32 (a b : Nat) (ha : a < 4294967296) (hb : b < 4294967296) : bits .or .u32 (a : Int) (b : Int) = ((a ||| b : Nat) : Int) :=
  (bits_nat .u32 32 (by decide) wraps_u32 a b (by simpa using ha) (by simpa using hb)).2
theorem and32 (a b : Nat) (ha : a < 4294967296) (hb : b < 4294967296) : bits .and .u32 (a : Int) (b : Int) = ((a &&& b : Nat) : Int) :=
  (bits_nat .u32 32 (by decide) wraps_u32 a b (by simpa using ha) (by simpa using hb)).1
theorem xor32 (a b : Nat) (ha : a < 4294967296) (hb : b < 4294967296) : bits .xor .u32 (a : Int) (b : Int) = ((a ^^^ b : Nat) : Int) := by
  have ha' : a % 2 ^ 32 = a := Nat.mod_eq_of_lt (by simpa using ha)
  have hb' : b % 2 ^ 32 = b := Nat.mod_eq_of_lt (by simpa using hb)
  have hx : a ^^^ b < 2 ^ 32 := Nat.xor_lt_two_pow (by simpa using ha) (by simpa using hb)
  have e : bits .xor .u32 (a : Int) (b : Int) = IntKind.u32.wrap ((a ^^^ b : Nat) : Int) := by
    simp only [bits, BitVec.ofInt_natCast, BitVec.toNat_xor, BitVec.toNat_ofNat]
    rw [show (IntKind.u32.bits) = 32 from rfl, ha', hb']
  rw [e]
  exact wraps_u32 _ (Int.natCast_nonneg _) (by exact_mod_cast hx)
theorem rotr_lt (x n : Nat) (hx : x < 4294967296) : rotr x n < 4294967296 := by
  unfold rotr
  have h1 : x >>> n < 2 ^ 32 := by rw [Nat.shiftRight_eq_div_pow]; exact Nat.lt_of_le_of_lt (Nat.div_le_self _ _) (by simpa using hx)
  exact Nat.or_lt_two_pow h1 (Nat.mod_lt _ (by decide))
theorem rot_or (x n p q : Nat) (hx : x < 4294967296) (hq : 2 ^ n = q) (hp : 2 ^ (32 - n) = p) : bits .or .u32 ((x : Int) * (p : Int) % 4294967296) ((x : Int) / (q : Int)) = ((rotr x n : Nat) : Int) := by
  have e1 : ((x : Int) * (p : Int) % 4294967296) = ((x * p % 4294967296 : Nat) : Int) := by simp
  have e2 : ((x : Int) / (q : Int)) = ((x / q : Nat) : Int) := by simp
  rw [e1, e2, or32 _ _ (Nat.mod_lt _ (by decide)) (Nat.lt_of_le_of_lt (Nat.div_le_self _ _) hx)]
  unfold rotr
  rw [Nat.shiftRight_eq_div_pow, Nat.shiftLeft_eq, hq, hp, Nat.or_comm]
theorem right_2 (x : Nat) (w : World) (hx : x < 4294967296) : Calls Try.prog 133 #[.int .u32 x, .int .i64 2] w fun e w' => e = .returned (.int .u32 (rotr x 2 : Nat)) ∧ w' = w := by
  have h1 : bits .and .u64 (IntKind.u64.wrap (-2)) 31 = 30 := by kernel_rfl
  have h2 : IntKind.u64.wrap (32 - 30) = 2 := by kernel_rfl
  go_enter Try.func133, Try.ntmps133
  go_wp2
  go_ret
  exact ⟨congrArg (fun z => Ending.returned (Value.int .u32 z)) (rot_or x 2 1073741824 4 hx (by decide) (by decide)), rfl⟩
theorem right_6 (x : Nat) (w : World) (hx : x < 4294967296) : Calls Try.prog 133 #[.int .u32 x, .int .i64 6] w fun e w' => e = .returned (.int .u32 (rotr x 6 : Nat)) ∧ w' = w := by
  have h1 : bits .and .u64 (IntKind.u64.wrap (-6)) 31 = 26 := by kernel_rfl
  have h2 : IntKind.u64.wrap (32 - 26) = 6 := by kernel_rfl
  go_enter Try.func133, Try.ntmps133
  go_wp2
  go_ret
  exact ⟨congrArg (fun z => Ending.returned (Value.int .u32 z)) (rot_or x 6 67108864 64 hx (by decide) (by decide)), rfl⟩
theorem right_7 (x : Nat) (w : World) (hx : x < 4294967296) : Calls Try.prog 133 #[.int .u32 x, .int .i64 7] w fun e w' => e = .returned (.int .u32 (rotr x 7 : Nat)) ∧ w' = w := by
  have h1 : bits .and .u64 (IntKind.u64.wrap (-7)) 31 = 25 := by kernel_rfl
  have h2 : IntKind.u64.wrap (32 - 25) = 7 := by kernel_rfl
  go_enter Try.func133, Try.ntmps133
  go_wp2
  go_ret
  exact ⟨congrArg (fun z => Ending.returned (Value.int .u32 z)) (rot_or x 7 33554432 128 hx (by decide) (by decide)), rfl⟩
theorem right_11 (x : Nat) (w : World) (hx : x < 4294967296) : Calls Try.prog 133 #[.int .u32 x, .int .i64 11] w fun e w' => e = .returned (.int .u32 (rotr x 11 : Nat)) ∧ w' = w := by
  have h1 : bits .and .u64 (IntKind.u64.wrap (-11)) 31 = 21 := by kernel_rfl
  have h2 : IntKind.u64.wrap (32 - 21) = 11 := by kernel_rfl
  go_enter Try.func133, Try.ntmps133
  go_wp2
  go_ret
  exact ⟨congrArg (fun z => Ending.returned (Value.int .u32 z)) (rot_or x 11 2097152 2048 hx (by decide) (by decide)), rfl⟩
theorem right_13 (x : Nat) (w : World) (hx : x < 4294967296) : Calls Try.prog 133 #[.int .u32 x, .int .i64 13] w fun e w' => e = .returned (.int .u32 (rotr x 13 : Nat)) ∧ w' = w := by
  have h1 : bits .and .u64 (IntKind.u64.wrap (-13)) 31 = 19 := by kernel_rfl
  have h2 : IntKind.u64.wrap (32 - 19) = 13 := by kernel_rfl
  go_enter Try.func133, Try.ntmps133
  go_wp2
  go_ret
  exact ⟨congrArg (fun z => Ending.returned (Value.int .u32 z)) (rot_or x 13 524288 8192 hx (by decide) (by decide)), rfl⟩
theorem right_17 (x : Nat) (w : World) (hx : x < 4294967296) : Calls Try.prog 133 #[.int .u32 x, .int .i64 17] w fun e w' => e = .returned (.int .u32 (rotr x 17 : Nat)) ∧ w' = w := by
  have h1 : bits .and .u64 (IntKind.u64.wrap (-17)) 31 = 15 := by kernel_rfl
  have h2 : IntKind.u64.wrap (32 - 15) = 17 := by kernel_rfl
  go_enter Try.func133, Try.ntmps133
  go_wp2
  go_ret
  exact ⟨congrArg (fun z => Ending.returned (Value.int .u32 z)) (rot_or x 17 32768 131072 hx (by decide) (by decide)), rfl⟩
theorem right_18 (x : Nat) (w : World) (hx : x < 4294967296) : Calls Try.prog 133 #[.int .u32 x, .int .i64 18] w fun e w' => e = .returned (.int .u32 (rotr x 18 : Nat)) ∧ w' = w := by
  have h1 : bits .and .u64 (IntKind.u64.wrap (-18)) 31 = 14 := by kernel_rfl
  have h2 : IntKind.u64.wrap (32 - 14) = 18 := by kernel_rfl
  go_enter Try.func133, Try.ntmps133
  go_wp2
  go_ret
  exact ⟨congrArg (fun z => Ending.returned (Value.int .u32 z)) (rot_or x 18 16384 262144 hx (by decide) (by decide)), rfl⟩
theorem right_19 (x : Nat) (w : World) (hx : x < 4294967296) : Calls Try.prog 133 #[.int .u32 x, .int .i64 19] w fun e w' => e = .returned (.int .u32 (rotr x 19 : Nat)) ∧ w' = w := by
  have h1 : bits .and .u64 (IntKind.u64.wrap (-19)) 31 = 13 := by kernel_rfl
  have h2 : IntKind.u64.wrap (32 - 13) = 19 := by kernel_rfl
  go_enter Try.func133, Try.ntmps133
  go_wp2
  go_ret
  exact ⟨congrArg (fun z => Ending.returned (Value.int .u32 z)) (rot_or x 19 8192 524288 hx (by decide) (by decide)), rfl⟩
theorem right_22 (x : Nat) (w : World) (hx : x < 4294967296) : Calls Try.prog 133 #[.int .u32 x, .int .i64 22] w fun e w' => e = .returned (.int .u32 (rotr x 22 : Nat)) ∧ w' = w := by
  have h1 : bits .and .u64 (IntKind.u64.wrap (-22)) 31 = 10 := by kernel_rfl
  have h2 : IntKind.u64.wrap (32 - 10) = 22 := by kernel_rfl
  go_enter Try.func133, Try.ntmps133
  go_wp2
  go_ret
  exact ⟨congrArg (fun z => Ending.returned (Value.int .u32 z)) (rot_or x 22 1024 4194304 hx (by decide) (by decide)), rfl⟩
theorem right_25 (x : Nat) (w : World) (hx : x < 4294967296) : Calls Try.prog 133 #[.int .u32 x, .int .i64 25] w fun e w' => e = .returned (.int .u32 (rotr x 25 : Nat)) ∧ w' = w := by
  have h1 : bits .and .u64 (IntKind.u64.wrap (-25)) 31 = 7 := by kernel_rfl
  have h2 : IntKind.u64.wrap (32 - 7) = 25 := by kernel_rfl
  go_enter Try.func133, Try.ntmps133
  go_wp2
  go_ret
  exact ⟨congrArg (fun z => Ending.returned (Value.int .u32 z)) (rot_or x 25 128 33554432 hx (by decide) (by decide)), rfl⟩
end Go.Proofs.Ytmablneefndedaa.Pr

namespace Go.Proofs.Ytmablneefndedaa.Pr
open Go.RowKit Go.Proofs.YtmablneefndedaaW.PrintWords
set_option maxHeartbeats 1000000
set_option linter.unusedVariables false
set_option linter.unusedSimpArgs false
theorem wraps_i62 (n : Int) (h₀ : 0 ≤ n) (h₁ : n < 2 ^ 62) : IntKind.i64.wrap n = n := by rw [IntKind.wrap_i64]; omega
theorem or62 (a b : Nat) (ha : a < 4611686018427387904) (hb : b < 4611686018427387904) : bits .or .i64 (a : Int) (b : Int) = ((a ||| b : Nat) : Int) :=
  (bits_nat .i64 62 (by decide) wraps_i62 a b (by simpa using ha) (by simpa using hb)).2
theorem and62 (a b : Nat) (ha : a < 4611686018427387904) (hb : b < 4611686018427387904) : bits .and .i64 (a : Int) (b : Int) = ((a &&& b : Nat) : Int) :=
  (bits_nat .i64 62 (by decide) wraps_i62 a b (by simpa using ha) (by simpa using hb)).1
theorem xor62 (a b : Nat) (ha : a < 4611686018427387904) (hb : b < 4611686018427387904) : bits .xor .i64 (a : Int) (b : Int) = ((a ^^^ b : Nat) : Int) := by
  have ha' : a % 2 ^ 64 = a := Nat.mod_eq_of_lt (by have : (4611686018427387904 : Nat) < 2 ^ 64 := by decide
                                                    omega)
  have hb' : b % 2 ^ 64 = b := Nat.mod_eq_of_lt (by have : (4611686018427387904 : Nat) < 2 ^ 64 := by decide
                                                    omega)
  have hx : a ^^^ b < 2 ^ 62 := Nat.xor_lt_two_pow (by simpa using ha) (by simpa using hb)
  have e : bits .xor .i64 (a : Int) (b : Int) = IntKind.i64.wrap ((a ^^^ b : Nat) : Int) := by
    simp only [bits, BitVec.ofInt_natCast, BitVec.toNat_xor, BitVec.toNat_ofNat]
    rw [show (IntKind.i64.bits) = 64 from rfl, ha', hb']
  rw [e]
  exact wraps_i62 _ (Int.natCast_nonneg _) (by exact_mod_cast hx)
theorem mask62 (a : Nat) (ha : a < 4611686018427387904) : bits .and .i64 (a : Int) 4294967295 = ((a % 4294967296 : Nat) : Int) := by
  have := and62 a 4294967295 ha (by decide)
  rw [show ((4294967295 : Nat) : Int) = 4294967295 from rfl] at this
  rw [this, show (4294967295 : Nat) = 2 ^ 32 - 1 from rfl, Nat.and_two_pow_sub_one_eq_mod]
theorem word_any (a : Nat) (w : World) (ha : a < 4611686018427387904) : Calls Try.prog 114 #[.int .i64 a] w fun e w' => e = .returned (.int .i64 (a % 4294967296 : Nat)) ∧ w' = w := by
  have h := mask62 a ha
  have H := Aside0.mk h
  clear h
  go_enter Try.func114, Try.ntmps114
  go_wp2
  go_ret
  exact ⟨congrArg (fun z => Ending.returned (Value.int .i64 z)) H.out, rfl⟩
theorem rot_or62 (x n p q : Nat) (hx : x < 4294967296) (hp4 : p ≤ 1073741824) (hq : 2 ^ n = q) (hp : 2 ^ (32 - n) = p) : (x * p ||| x / q) % 4294967296 = rotr x n := by
  unfold rotr
  rw [Nat.shiftRight_eq_div_pow, Nat.shiftLeft_eq, hq, hp, Nat.or_comm (x / q), show (4294967296 : Nat) = 2 ^ 32 from rfl, Nat.or_mod_two_pow]
  rw [Nat.mod_eq_of_lt (a := x / q) (Nat.lt_of_le_of_lt (Nat.div_le_self _ _) hx)]
set_option maxRecDepth 100000
theorem rright_2 (x : Nat) (w : World) (hx : x < 4294967296) : Calls Try.prog 130 #[.int .i64 x, .int .i64 2] w fun e w' => e = .returned (.int .i64 (rotr x 2 : Nat)) ∧ Drawn0 w w' := by
  have h1 : bits .and .i64 30 31 = 30 := by kernel_rfl
  have h3 : bits .or .i64 ((x : Int) * 1073741824) ((x : Int) / 4) = ((x * 1073741824 ||| x / 4 : Nat) : Int) := by
    have := or62 (x * 1073741824) (x / 4) (by omega) (by omega)
    rw [← this]; simp
  have hlt : x * 1073741824 ||| x / 4 < 4611686018427387904 := by
    have h4 : x * 1073741824 < 2 ^ 62 := by omega
    have h5 : x / 4 < 2 ^ 62 := by omega
    exact Nat.or_lt_two_pow h4 h5
  have hm : x % 4294967296 = x := Nat.mod_eq_of_lt hx
  have hm2 : (x : Int) % 4294967296 = x := by omega
  have HLT := Aside0.mk hlt
  clear hlt
  go_enter Try.func130, Try.ntmps130
  go_wp2
  go_quiet ((first | (go_at_call 114; exact Calls.quiet_of_same (word_any x _ (by omega))) | (go_at_call 114; exact Calls.quiet_of_same (word_any (x * 1073741824 ||| x / 4) _ HLT.out))))
  go_wp2
  go_ret
  exact ⟨by first | exact congrArg (fun z => Ending.returned (Value.int .i64 z)) (congrArg (Nat.cast (R := Int)) (rot_or62 x 2 1073741824 4 hx (by decide) (by decide) (by decide))) | (rw [← rot_or62 x 2 1073741824 4 hx (by decide) (by decide) (by decide)]; simp), ⟨⟨_, rfl⟩⟩⟩
theorem rright_6 (x : Nat) (w : World) (hx : x < 4294967296) : Calls Try.prog 130 #[.int .i64 x, .int .i64 6] w fun e w' => e = .returned (.int .i64 (rotr x 6 : Nat)) ∧ Drawn0 w w' := by
  have h1 : bits .and .i64 26 31 = 26 := by kernel_rfl
  have h3 : bits .or .i64 ((x : Int) * 67108864) ((x : Int) / 64) = ((x * 67108864 ||| x / 64 : Nat) : Int) := by
    have := or62 (x * 67108864) (x / 64) (by omega) (by omega)
    rw [← this]; simp
  have hlt : x * 67108864 ||| x / 64 < 4611686018427387904 := by
    have h4 : x * 67108864 < 2 ^ 62 := by omega
    have h5 : x / 64 < 2 ^ 62 := by omega
    exact Nat.or_lt_two_pow h4 h5
  have hm : x % 4294967296 = x := Nat.mod_eq_of_lt hx
  have hm2 : (x : Int) % 4294967296 = x := by omega
  have HLT := Aside0.mk hlt
  clear hlt
  go_enter Try.func130, Try.ntmps130
  go_wp2
  go_quiet ((first | (go_at_call 114; exact Calls.quiet_of_same (word_any x _ (by omega))) | (go_at_call 114; exact Calls.quiet_of_same (word_any (x * 67108864 ||| x / 64) _ HLT.out))))
  go_wp2
  go_ret
  exact ⟨by first | exact congrArg (fun z => Ending.returned (Value.int .i64 z)) (congrArg (Nat.cast (R := Int)) (rot_or62 x 6 67108864 64 hx (by decide) (by decide) (by decide))) | (rw [← rot_or62 x 6 67108864 64 hx (by decide) (by decide) (by decide)]; simp), ⟨⟨_, rfl⟩⟩⟩
theorem rright_7 (x : Nat) (w : World) (hx : x < 4294967296) : Calls Try.prog 130 #[.int .i64 x, .int .i64 7] w fun e w' => e = .returned (.int .i64 (rotr x 7 : Nat)) ∧ Drawn0 w w' := by
  have h1 : bits .and .i64 25 31 = 25 := by kernel_rfl
  have h3 : bits .or .i64 ((x : Int) * 33554432) ((x : Int) / 128) = ((x * 33554432 ||| x / 128 : Nat) : Int) := by
    have := or62 (x * 33554432) (x / 128) (by omega) (by omega)
    rw [← this]; simp
  have hlt : x * 33554432 ||| x / 128 < 4611686018427387904 := by
    have h4 : x * 33554432 < 2 ^ 62 := by omega
    have h5 : x / 128 < 2 ^ 62 := by omega
    exact Nat.or_lt_two_pow h4 h5
  have hm : x % 4294967296 = x := Nat.mod_eq_of_lt hx
  have hm2 : (x : Int) % 4294967296 = x := by omega
  have HLT := Aside0.mk hlt
  clear hlt
  go_enter Try.func130, Try.ntmps130
  go_wp2
  go_quiet ((first | (go_at_call 114; exact Calls.quiet_of_same (word_any x _ (by omega))) | (go_at_call 114; exact Calls.quiet_of_same (word_any (x * 33554432 ||| x / 128) _ HLT.out))))
  go_wp2
  go_ret
  exact ⟨by first | exact congrArg (fun z => Ending.returned (Value.int .i64 z)) (congrArg (Nat.cast (R := Int)) (rot_or62 x 7 33554432 128 hx (by decide) (by decide) (by decide))) | (rw [← rot_or62 x 7 33554432 128 hx (by decide) (by decide) (by decide)]; simp), ⟨⟨_, rfl⟩⟩⟩
theorem rright_11 (x : Nat) (w : World) (hx : x < 4294967296) : Calls Try.prog 130 #[.int .i64 x, .int .i64 11] w fun e w' => e = .returned (.int .i64 (rotr x 11 : Nat)) ∧ Drawn0 w w' := by
  have h1 : bits .and .i64 21 31 = 21 := by kernel_rfl
  have h3 : bits .or .i64 ((x : Int) * 2097152) ((x : Int) / 2048) = ((x * 2097152 ||| x / 2048 : Nat) : Int) := by
    have := or62 (x * 2097152) (x / 2048) (by omega) (by omega)
    rw [← this]; simp
  have hlt : x * 2097152 ||| x / 2048 < 4611686018427387904 := by
    have h4 : x * 2097152 < 2 ^ 62 := by omega
    have h5 : x / 2048 < 2 ^ 62 := by omega
    exact Nat.or_lt_two_pow h4 h5
  have hm : x % 4294967296 = x := Nat.mod_eq_of_lt hx
  have hm2 : (x : Int) % 4294967296 = x := by omega
  have HLT := Aside0.mk hlt
  clear hlt
  go_enter Try.func130, Try.ntmps130
  go_wp2
  go_quiet ((first | (go_at_call 114; exact Calls.quiet_of_same (word_any x _ (by omega))) | (go_at_call 114; exact Calls.quiet_of_same (word_any (x * 2097152 ||| x / 2048) _ HLT.out))))
  go_wp2
  go_ret
  exact ⟨by first | exact congrArg (fun z => Ending.returned (Value.int .i64 z)) (congrArg (Nat.cast (R := Int)) (rot_or62 x 11 2097152 2048 hx (by decide) (by decide) (by decide))) | (rw [← rot_or62 x 11 2097152 2048 hx (by decide) (by decide) (by decide)]; simp), ⟨⟨_, rfl⟩⟩⟩
theorem rright_13 (x : Nat) (w : World) (hx : x < 4294967296) : Calls Try.prog 130 #[.int .i64 x, .int .i64 13] w fun e w' => e = .returned (.int .i64 (rotr x 13 : Nat)) ∧ Drawn0 w w' := by
  have h1 : bits .and .i64 19 31 = 19 := by kernel_rfl
  have h3 : bits .or .i64 ((x : Int) * 524288) ((x : Int) / 8192) = ((x * 524288 ||| x / 8192 : Nat) : Int) := by
    have := or62 (x * 524288) (x / 8192) (by omega) (by omega)
    rw [← this]; simp
  have hlt : x * 524288 ||| x / 8192 < 4611686018427387904 := by
    have h4 : x * 524288 < 2 ^ 62 := by omega
    have h5 : x / 8192 < 2 ^ 62 := by omega
    exact Nat.or_lt_two_pow h4 h5
  have hm : x % 4294967296 = x := Nat.mod_eq_of_lt hx
  have hm2 : (x : Int) % 4294967296 = x := by omega
  have HLT := Aside0.mk hlt
  clear hlt
  go_enter Try.func130, Try.ntmps130
  go_wp2
  go_quiet ((first | (go_at_call 114; exact Calls.quiet_of_same (word_any x _ (by omega))) | (go_at_call 114; exact Calls.quiet_of_same (word_any (x * 524288 ||| x / 8192) _ HLT.out))))
  go_wp2
  go_ret
  exact ⟨by first | exact congrArg (fun z => Ending.returned (Value.int .i64 z)) (congrArg (Nat.cast (R := Int)) (rot_or62 x 13 524288 8192 hx (by decide) (by decide) (by decide))) | (rw [← rot_or62 x 13 524288 8192 hx (by decide) (by decide) (by decide)]; simp), ⟨⟨_, rfl⟩⟩⟩
theorem rright_17 (x : Nat) (w : World) (hx : x < 4294967296) : Calls Try.prog 130 #[.int .i64 x, .int .i64 17] w fun e w' => e = .returned (.int .i64 (rotr x 17 : Nat)) ∧ Drawn0 w w' := by
  have h1 : bits .and .i64 15 31 = 15 := by kernel_rfl
  have h3 : bits .or .i64 ((x : Int) * 32768) ((x : Int) / 131072) = ((x * 32768 ||| x / 131072 : Nat) : Int) := by
    have := or62 (x * 32768) (x / 131072) (by omega) (by omega)
    rw [← this]; simp
  have hlt : x * 32768 ||| x / 131072 < 4611686018427387904 := by
    have h4 : x * 32768 < 2 ^ 62 := by omega
    have h5 : x / 131072 < 2 ^ 62 := by omega
    exact Nat.or_lt_two_pow h4 h5
  have hm : x % 4294967296 = x := Nat.mod_eq_of_lt hx
  have hm2 : (x : Int) % 4294967296 = x := by omega
  have HLT := Aside0.mk hlt
  clear hlt
  go_enter Try.func130, Try.ntmps130
  go_wp2
  go_quiet ((first | (go_at_call 114; exact Calls.quiet_of_same (word_any x _ (by omega))) | (go_at_call 114; exact Calls.quiet_of_same (word_any (x * 32768 ||| x / 131072) _ HLT.out))))
  go_wp2
  go_ret
  exact ⟨by first | exact congrArg (fun z => Ending.returned (Value.int .i64 z)) (congrArg (Nat.cast (R := Int)) (rot_or62 x 17 32768 131072 hx (by decide) (by decide) (by decide))) | (rw [← rot_or62 x 17 32768 131072 hx (by decide) (by decide) (by decide)]; simp), ⟨⟨_, rfl⟩⟩⟩
theorem rright_18 (x : Nat) (w : World) (hx : x < 4294967296) : Calls Try.prog 130 #[.int .i64 x, .int .i64 18] w fun e w' => e = .returned (.int .i64 (rotr x 18 : Nat)) ∧ Drawn0 w w' := by
  have h1 : bits .and .i64 14 31 = 14 := by kernel_rfl
  have h3 : bits .or .i64 ((x : Int) * 16384) ((x : Int) / 262144) = ((x * 16384 ||| x / 262144 : Nat) : Int) := by
    have := or62 (x * 16384) (x / 262144) (by omega) (by omega)
    rw [← this]; simp
  have hlt : x * 16384 ||| x / 262144 < 4611686018427387904 := by
    have h4 : x * 16384 < 2 ^ 62 := by omega
    have h5 : x / 262144 < 2 ^ 62 := by omega
    exact Nat.or_lt_two_pow h4 h5
  have hm : x % 4294967296 = x := Nat.mod_eq_of_lt hx
  have hm2 : (x : Int) % 4294967296 = x := by omega
  have HLT := Aside0.mk hlt
  clear hlt
  go_enter Try.func130, Try.ntmps130
  go_wp2
  go_quiet ((first | (go_at_call 114; exact Calls.quiet_of_same (word_any x _ (by omega))) | (go_at_call 114; exact Calls.quiet_of_same (word_any (x * 16384 ||| x / 262144) _ HLT.out))))
  go_wp2
  go_ret
  exact ⟨by first | exact congrArg (fun z => Ending.returned (Value.int .i64 z)) (congrArg (Nat.cast (R := Int)) (rot_or62 x 18 16384 262144 hx (by decide) (by decide) (by decide))) | (rw [← rot_or62 x 18 16384 262144 hx (by decide) (by decide) (by decide)]; simp), ⟨⟨_, rfl⟩⟩⟩
theorem rright_19 (x : Nat) (w : World) (hx : x < 4294967296) : Calls Try.prog 130 #[.int .i64 x, .int .i64 19] w fun e w' => e = .returned (.int .i64 (rotr x 19 : Nat)) ∧ Drawn0 w w' := by
  have h1 : bits .and .i64 13 31 = 13 := by kernel_rfl
  have h3 : bits .or .i64 ((x : Int) * 8192) ((x : Int) / 524288) = ((x * 8192 ||| x / 524288 : Nat) : Int) := by
    have := or62 (x * 8192) (x / 524288) (by omega) (by omega)
    rw [← this]; simp
  have hlt : x * 8192 ||| x / 524288 < 4611686018427387904 := by
    have h4 : x * 8192 < 2 ^ 62 := by omega
    have h5 : x / 524288 < 2 ^ 62 := by omega
    exact Nat.or_lt_two_pow h4 h5
  have hm : x % 4294967296 = x := Nat.mod_eq_of_lt hx
  have hm2 : (x : Int) % 4294967296 = x := by omega
  have HLT := Aside0.mk hlt
  clear hlt
  go_enter Try.func130, Try.ntmps130
  go_wp2
  go_quiet ((first | (go_at_call 114; exact Calls.quiet_of_same (word_any x _ (by omega))) | (go_at_call 114; exact Calls.quiet_of_same (word_any (x * 8192 ||| x / 524288) _ HLT.out))))
  go_wp2
  go_ret
  exact ⟨by first | exact congrArg (fun z => Ending.returned (Value.int .i64 z)) (congrArg (Nat.cast (R := Int)) (rot_or62 x 19 8192 524288 hx (by decide) (by decide) (by decide))) | (rw [← rot_or62 x 19 8192 524288 hx (by decide) (by decide) (by decide)]; simp), ⟨⟨_, rfl⟩⟩⟩
theorem rright_22 (x : Nat) (w : World) (hx : x < 4294967296) : Calls Try.prog 130 #[.int .i64 x, .int .i64 22] w fun e w' => e = .returned (.int .i64 (rotr x 22 : Nat)) ∧ Drawn0 w w' := by
  have h1 : bits .and .i64 10 31 = 10 := by kernel_rfl
  have h3 : bits .or .i64 ((x : Int) * 1024) ((x : Int) / 4194304) = ((x * 1024 ||| x / 4194304 : Nat) : Int) := by
    have := or62 (x * 1024) (x / 4194304) (by omega) (by omega)
    rw [← this]; simp
  have hlt : x * 1024 ||| x / 4194304 < 4611686018427387904 := by
    have h4 : x * 1024 < 2 ^ 62 := by omega
    have h5 : x / 4194304 < 2 ^ 62 := by omega
    exact Nat.or_lt_two_pow h4 h5
  have hm : x % 4294967296 = x := Nat.mod_eq_of_lt hx
  have hm2 : (x : Int) % 4294967296 = x := by omega
  have HLT := Aside0.mk hlt
  clear hlt
  go_enter Try.func130, Try.ntmps130
  go_wp2
  go_quiet ((first | (go_at_call 114; exact Calls.quiet_of_same (word_any x _ (by omega))) | (go_at_call 114; exact Calls.quiet_of_same (word_any (x * 1024 ||| x / 4194304) _ HLT.out))))
  go_wp2
  go_ret
  exact ⟨by first | exact congrArg (fun z => Ending.returned (Value.int .i64 z)) (congrArg (Nat.cast (R := Int)) (rot_or62 x 22 1024 4194304 hx (by decide) (by decide) (by decide))) | (rw [← rot_or62 x 22 1024 4194304 hx (by decide) (by decide) (by decide)]; simp), ⟨⟨_, rfl⟩⟩⟩
theorem rright_25 (x : Nat) (w : World) (hx : x < 4294967296) : Calls Try.prog 130 #[.int .i64 x, .int .i64 25] w fun e w' => e = .returned (.int .i64 (rotr x 25 : Nat)) ∧ Drawn0 w w' := by
  have h1 : bits .and .i64 7 31 = 7 := by kernel_rfl
  have h3 : bits .or .i64 ((x : Int) * 128) ((x : Int) / 33554432) = ((x * 128 ||| x / 33554432 : Nat) : Int) := by
    have := or62 (x * 128) (x / 33554432) (by omega) (by omega)
    rw [← this]; simp
  have hlt : x * 128 ||| x / 33554432 < 4611686018427387904 := by
    have h4 : x * 128 < 2 ^ 62 := by omega
    have h5 : x / 33554432 < 2 ^ 62 := by omega
    exact Nat.or_lt_two_pow h4 h5
  have hm : x % 4294967296 = x := Nat.mod_eq_of_lt hx
  have hm2 : (x : Int) % 4294967296 = x := by omega
  have HLT := Aside0.mk hlt
  clear hlt
  go_enter Try.func130, Try.ntmps130
  go_wp2
  go_quiet ((first | (go_at_call 114; exact Calls.quiet_of_same (word_any x _ (by omega))) | (go_at_call 114; exact Calls.quiet_of_same (word_any (x * 128 ||| x / 33554432) _ HLT.out))))
  go_wp2
  go_ret
  exact ⟨by first | exact congrArg (fun z => Ending.returned (Value.int .i64 z)) (congrArg (Nat.cast (R := Int)) (rot_or62 x 25 128 33554432 hx (by decide) (by decide) (by decide))) | (rw [← rot_or62 x 25 128 33554432 hx (by decide) (by decide) (by decide)]; simp), ⟨⟨_, rfl⟩⟩⟩
def rrOk (n : Int) : Bool := [2, 6, 7, 11, 13, 17, 18, 19, 22, 25].contains n
def samphireref02_right.f (a0 a1 : Int) : Option Int := if 0 ≤ a0 ∧ a0 < 4294967296 ∧ rrOk a1 = true then some ((rotr a0.toNat a1.toNat : Nat) : Int) else none
theorem samphireref02_right.at_ (x : Nat) (n : Nat) (hx : x < 4294967296) (hn : rrOk n = true) : samphireref02_right.f x n = some ((rotr x n : Nat) : Int) := by
  unfold samphireref02_right.f
  rw [if_pos ⟨by omega, by omega, hn⟩]
  simp
theorem samphireref02_right.calls (a0 : Int) (a1 : Int) (r : Int) (w : World) (h : samphireref02_right.f a0 a1 = some r) :
    Calls Try.prog 130 #[.int .i64 a0, .int .i64 a1] w fun e w' => e = .returned (.int .i64 r) ∧ Drawn0 w w' := by
  unfold samphireref02_right.f at h
  by_cases hc : 0 ≤ a0 ∧ a0 < 4294967296 ∧ rrOk a1 = true
  · rw [if_pos hc] at h
    obtain rfl := Option.some.inj h
    obtain ⟨h0, h1, h2⟩ := hc
    obtain ⟨x, rfl⟩ := Int.eq_ofNat_of_zero_le h0
    have hx : x < 4294967296 := by omega
    have h3 : a1 ∈ ([2, 6, 7, 11, 13, 17, 18, 19, 22, 25] : List Int) := by
      unfold rrOk at h2
      exact List.contains_iff_mem.1 h2
    clear h h1 h2
    simp only [List.mem_cons, List.not_mem_nil, or_false] at h3
    rw [Int.toNat_natCast]
    rcases h3 with rfl | rfl | rfl | rfl | rfl | rfl | rfl | rfl | rfl | rfl
    · exact rright_2 x w hx
    · exact rright_6 x w hx
    · exact rright_7 x w hx
    · exact rright_11 x w hx
    · exact rright_13 x w hx
    · exact rright_17 x w hx
    · exact rright_18 x w hx
    · exact rright_19 x w hx
    · exact rright_22 x w hx
    · exact rright_25 x w hx
  · rw [if_neg hc] at h
    cases h
end Go.Proofs.Ytmablneefndedaa.Pr

/- SHA-256 in plain Lean: numbers and lists alone; no program in sight. -/
import Derived.Test.YtbmpcdpcdljibaaWWords
namespace Go.Proofs.Ytbmpcdpcdljibaa.Pr
open Go.Proofs.YtbmpcdpcdljibaaW.PrintWords
set_option linter.unusedVariables false
set_option linter.unusedSimpArgs false

/-- The numbers of words of 32 bits, as the cells of an array. -/
def u32s (l : List Nat) : Array Value := (l.map fun (n : Nat) => Value.int .u32 (n : Int)).toArray
theorem u32s_size (l : List Nat) : (u32s l).size = l.length := by simp [u32s]
theorem u32s_get (l : List Nat) (i : Nat) (h : i < l.length) : (u32s l)[i]? = some (.int .u32 (l.getD i 0 : Nat)) := by
  simp [u32s, h]
theorem u32s_set (l : List Nat) (i v : Nat) : (u32s l).setIfInBounds i (.int .u32 (v : Int)) = u32s (l.set i v) := by
  simp [u32s]

def rotr (x n : Nat) : Nat := (x >>> n) ||| ((x <<< (32 - n)) % 4294967296)
def be4 (l : List Nat) (i : Nat) : Nat := l.getD i 0 * 16777216 + l.getD (i + 1) 0 * 65536 + l.getD (i + 2) 0 * 256 + l.getD (i + 3) 0
def sg0 (x : Nat) : Nat := rotr x 7 ^^^ rotr x 18 ^^^ (x >>> 3)
def sg1 (x : Nat) : Nat := rotr x 17 ^^^ rotr x 19 ^^^ (x >>> 10)
def bs0 (x : Nat) : Nat := rotr x 2 ^^^ rotr x 13 ^^^ rotr x 22
def bs1 (x : Nat) : Nat := rotr x 6 ^^^ rotr x 11 ^^^ rotr x 25
def chs (e f g : Nat) : Nat := (e &&& f) ^^^ ((4294967295 - e) &&& g)
def maj (a b c : Nat) : Nat := (a &&& b) ^^^ (a &&& c) ^^^ (b &&& c)
/-- The word number k of the schedule, of those ahead. -/
def wordAt (b w : List Nat) (k : Nat) : Nat :=
  if k < 16 then be4 b (4 * k) else (w.getD (k - 16) 0 + sg0 (w.getD (k - 15) 0) + w.getD (k - 7) 0 + sg1 (w.getD (k - 2) 0)) % 4294967296
def sched (b : List Nat) : Nat → List Nat
  | 0 => []
  | k + 1 => sched b k ++ [wordAt b (sched b k) k]
theorem sched_length (b : List Nat) (k : Nat) : (sched b k).length = k := by
  induction k with
  | zero => rfl
  | succ k ih => simp [sched, ih]
def shaK : List Nat := [0x428a2f98, 0x71374491, 0xb5c0fbcf, 0xe9b5dba5, 0x3956c25b, 0x59f111f1, 0x923f82a4, 0xab1c5ed5, 0xd807aa98, 0x12835b01, 0x243185be, 0x550c7dc3, 0x72be5d74, 0x80deb1fe, 0x9bdc06a7, 0xc19bf174, 0xe49b69c1, 0xefbe4786, 0x0fc19dc6, 0x240ca1cc, 0x2de92c6f, 0x4a7484aa, 0x5cb0a9dc, 0x76f988da, 0x983e5152, 0xa831c66d, 0xb00327c8, 0xbf597fc7, 0xc6e00bf3, 0xd5a79147, 0x06ca6351, 0x14292967, 0x27b70a85, 0x2e1b2138, 0x4d2c6dfc, 0x53380d13, 0x650a7354, 0x766a0abb, 0x81c2c92e, 0x92722c85, 0xa2bfe8a1, 0xa81a664b, 0xc24b8b70, 0xc76c51a3, 0xd192e819, 0xd6990624, 0xf40e3585, 0x106aa070, 0x19a4c116, 0x1e376c08, 0x2748774c, 0x34b0bcb5, 0x391c0cb3, 0x4ed8aa4a, 0x5b9cca4f, 0x682e6ff3, 0x748f82ee, 0x78a5636f, 0x84c87814, 0x8cc70208, 0x90befffa, 0xa4506ceb, 0xbef9a3f7, 0xc67178f2]
theorem shaK_length : shaK.length = 64 := rfl
def shaH : List Nat := [0x6a09e667, 0xbb67ae85, 0x3c6ef372, 0xa54ff53a, 0x510e527f, 0x9b05688c, 0x1f83d9ab, 0x5be0cd19]
/-- The eight words of a state. -/
structure St where
  (a b c d e f g h : Nat)
def St.list (s : St) : List Nat := [s.a, s.b, s.c, s.d, s.e, s.f, s.g, s.h]
def St.ok (s : St) : Prop := s.a < 4294967296 ∧ s.b < 4294967296 ∧ s.c < 4294967296 ∧ s.d < 4294967296 ∧ s.e < 4294967296 ∧ s.f < 4294967296 ∧ s.g < 4294967296 ∧ s.h < 4294967296
def t1 (s : St) (k w : Nat) : Nat := (s.h + bs1 s.e + chs s.e s.f s.g + k + w) % 4294967296
def t2 (s : St) : Nat := (bs0 s.a + maj s.a s.b s.c) % 4294967296
def rnd (s : St) (k w : Nat) : St := ⟨(t1 s k w + t2 s) % 4294967296, s.a, s.b, s.c, (s.d + t1 s k w) % 4294967296, s.e, s.f, s.g⟩
/-- The state behind so many rounds. -/
def rds (w : List Nat) (s : St) : Nat → St
  | 0 => s
  | k + 1 => rnd (rds w s k) (shaK.getD k 0) (w.getD k 0)
def St.add (s t : St) : St := ⟨(s.a + t.a) % 4294967296, (s.b + t.b) % 4294967296, (s.c + t.c) % 4294967296, (s.d + t.d) % 4294967296, (s.e + t.e) % 4294967296, (s.f + t.f) % 4294967296, (s.g + t.g) % 4294967296, (s.h + t.h) % 4294967296⟩
/-- The state behind a block of 64 bytes. -/
def stp (s : St) (b : List Nat) : St := s.add (rds (sched b 64) s 64)
theorem rnd_ok {s : St} (h : s.ok) (k w : Nat) : (rnd s k w).ok := by
  obtain ⟨h1, h2, h3, h4, h5, h6, h7, h8⟩ := h
  exact ⟨Nat.mod_lt _ (by decide), h1, h2, h3, Nat.mod_lt _ (by decide), h5, h6, h7⟩
theorem rds_ok {w : List Nat} {s : St} (h : s.ok) : ∀ k, (rds w s k).ok
  | 0 => h
  | k + 1 => rnd_ok (rds_ok h k) _ _
theorem St.add_ok (s t : St) : (s.add t).ok := ⟨Nat.mod_lt _ (by decide), Nat.mod_lt _ (by decide), Nat.mod_lt _ (by decide), Nat.mod_lt _ (by decide), Nat.mod_lt _ (by decide), Nat.mod_lt _ (by decide), Nat.mod_lt _ (by decide), Nat.mod_lt _ (by decide)⟩
/-- The four bytes of a word, the highest first. -/
def by4 (x : Nat) : List Nat := [x / 16777216 % 256, x / 65536 % 256, x / 256 % 256, x % 256]
def St.bytes (s : St) : List Nat := s.list.flatMap by4
/-- A text's bytes, as numbers; and back. -/
def bys (s : ByteArray) : List Nat := s.data.toList.map UInt8.toNat
def txt (l : List Nat) : ByteArray := ⟨(l.map fun n => UInt8.ofNat n).toArray⟩
theorem bys_length (s : ByteArray) : (bys s).length = s.size := by rw [bys, List.length_map, data_length]
theorem txt_size (l : List Nat) : (txt l).size = l.length := by simp [txt, ByteArray.size]
def St0 : St := ⟨0x6a09e667, 0xbb67ae85, 0x3c6ef372, 0xa54ff53a, 0x510e527f, 0x9b05688c, 0x1f83d9ab, 0x5be0cd19⟩
theorem St0_ok : St0.ok := by unfold St.ok St0; decide
/-- The state that a text of 32 bytes is. -/
def stOf (l : List Nat) : St := ⟨be4 l 0, be4 l 4, be4 l 8, be4 l 12, be4 l 16, be4 l 20, be4 l 24, be4 l 28⟩
/-- All blocks. -/
def blks : Nat → St → List Nat → St
  | 0, s, _ => s
  | n + 1, s, l => blks n (stp s (l.take 64)) (l.drop 64)
/-- What stands behind a text of so many bytes. -/
def padL (n : Nat) : List Nat := 128 :: (List.replicate ((119 - n % 64) % 64) 0 ++ by4 (n / 536870912) ++ by4 (8 * n))
def sumL (l : List Nat) : List Nat := let p := l ++ padL l.length; (blks (p.length / 64) St0 p).bytes
theorem bys_txt {l : List Nat} (h : ∀ n ∈ l, n < 256) : bys (txt l) = l := by
  unfold bys txt
  rw [List.toList_toArray, List.map_map]
  conv => rhs; rw [← List.map_id l]
  exact List.map_congr_left fun n hn => by simpa using h n hn
end Go.Proofs.Ytbmpcdpcdljibaa.Pr

/- Shared words. -/
import Derived.Test.YtmablneefndedaaHShelf
import Derived.Test.YtmablneefndedaaHShaB
import Derived.Test.YtmablneefndedaaHWordA
namespace Go.Proofs.Ytmablneefndedaa.Pr
open Go.RowKit Go.Deep Go.Proofs.YtmablneefndedaaW.PrintWords Go.Proofs.YtmablneefndedaaW.PrintLast Go.Proofs.YtmablneefndedaaW.PrintMore
set_option maxHeartbeats 1000000
set_option linter.unusedVariables false
set_option linter.unusedSimpArgs false
theorem txt_repeat (n : Nat) : (⟨(Lib.repeatL (⟨#[0]⟩ : ByteArray).data.toList n).toArray⟩ : ByteArray) = txt (List.replicate n 0) := by
  have h := Lib.repeatL_replicate 0 1 n
  rw [show ((⟨#[0]⟩ : ByteArray).data.toList) = List.replicate 1 0 from rfl, h, Nat.mul_one]
  simp [txt]
/-- The row of a conversion, with numbers in its first cells. -/
def BAt (g : Nat) (l : List Nat) (rest : Array Value) (w : World) : Prop := w.heap[g]? = some (.cells (u8s l ++ rest) 5 ((u8s l ++ rest).size, (u8s l ++ rest).size + 1))
theorem u8s_bys (s : ByteArray) : (s.data.map fun b => Value.int .u8 b.toNat) = u8s (bys s) := by
  unfold u8s bys
  apply Array.ext'
  simp
theorem bytes_row (w : World) (s : ByteArray) : ∃ rest, BAt w.heap.size (bys s) rest (Lib.bytesWorld w 5 s) := by
  refine ⟨Array.replicate (grownCap w s.size 0 5 - s.size) (.int .u8 0), ?_⟩
  unfold BAt
  rw [← u8s_bys]
  exact Lib.bytesWorld_at_new w 5 s
theorem BAt.lt {g : Nat} {l : List Nat} {rest : Array Value} {w : World} {k x : Nat} (hx : l[k]? = some x) : k < (u8s l ++ rest).size := by
  have hk : k < l.length := (List.getElem?_eq_some_iff.1 hx).1
  rw [Array.size_append, u8s_size]
  omega
theorem BAt.cell {g : Nat} {l : List Nat} {rest : Array Value} {w : World} (h : BAt g l rest w) {k x : Nat} (hx : l[k]? = some x) : w.cell? ⟨g, k, none⟩ = some (.int .u8 (x : Int)) := by
  have hk : k < l.length := (List.getElem?_eq_some_iff.1 hx).1
  rw [cell_of_row w g k _ _ _ h, Array.getElem?_append_left (by rw [u8s_size]; exact hk)]
  simp [u8s, hx]
theorem BAt.frozen {g : Nat} {l : List Nat} {rest : Array Value} {w : World} (h : BAt g l rest w) {k x : Nat} (hx : l[k]? = some x) : w.frozen? ⟨g, k, none⟩ = false := by
  have hk : k < (u8s l ++ rest).size := BAt.lt (g := g) (w := w) hx
  have h' : w.heap[g]? = _ := h
  generalize (u8s l ++ rest) = cs at h' hk
  simp [World.frozen?, h']
  omega
theorem BAt.store {g : Nat} {l : List Nat} {rest : Array Value} {w : World} (h : BAt g l rest w) (k x : Nat) (hk : k < l.length) : BAt g (l.set k x) rest (w.setCell ⟨g, k, none⟩ (.int .u8 (x : Int))) := by
  unfold BAt at h ⊢
  rw [setCell_eq_setRow w g k _ _ _ _ h, setRow_heap w g _ _ _ _ h]
  have hk2 : k < l.length + rest.size := by omega
  have e : u8s (l.set k x) ++ rest = (u8s l ++ rest).setIfInBounds k (.int .u8 (x : Int)) := by
    rw [← u8s_set]
    apply Array.ext'
    simp [Array.setIfInBounds, u8s, hk, List.set_append_left, hk2]
  have e2 : (u8s (l.set k x)).size = (u8s l).size := by simp [u8s]
  rw [← e, Array.size_append, Array.size_append, e2]
theorem conv_bat (W : World) (g : Nat) (l : List Nat) (rest : Array Value) (h : BAt g l rest W) (n : Nat) (hn : l.length = n) (c : Nat) :
    (convert 28 9 (.slice (some ⟨g, 0, none⟩) n c)).run Try.prog W = .ok (.string (txt l)) W := by
  rw [← str_nats]
  refine run_convert_bytes_arg W 28 5 Try.underlying28 Try.underlying5 g 0 n c _ (by simpa using hn) (fun i hi => ?_) 9 Try.underlying9
  rw [Nat.zero_add, BAt.cell h (List.getElem?_eq_getElem (by omega))]
  simp [show i < l.length by omega]
theorem wrapN (x : Int) (h0 : 0 ≤ x) (h1 : x < 4611686018427387904) : wrap64 x = x := by unfold wrap64; omega
theorem or_zero {a b : Nat} : a ||| b = 0 ↔ a = 0 ∧ b = 0 := Nat.or_eq_zero_iff
theorem xor_zero {a b : Nat} : a ^^^ b = 0 ↔ a = b := by
  constructor
  · intro h
    have h2 : a ^^^ b ^^^ b = 0 ^^^ b := by rw [h]
    rwa [Nat.xor_assoc, Nat.xor_self, Nat.xor_zero, Nat.zero_xor] at h2
  · rintro rfl
    exact Nat.xor_self a
theorem isBuilder_below {T e : TypeId} {B b : Nat} {bs : List Value} {w w' : World} (h : Lib.IsBuilder T e B b bs w) (hb : Below w.heap.size w w') : Lib.IsBuilder T e B b bs w' := by
  rcases h with ⟨h1, v, h2, h3, h4⟩ | ⟨h1, v, h2, h3, h4⟩
  · exact .inl ⟨h1, v, blk_below h2 hb, pw_own_below h3 hb, h4⟩
  · exact .inr ⟨h1, v, blk_below h2 hb, pw_own_below h3 hb, h4⟩
end Go.Proofs.Ytmablneefndedaa.Pr

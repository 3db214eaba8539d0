/- Texts as lists of numbers. -/
import Derived.Test.YtmablneefndedaaWWords
import Derived.Test.YtmablneefndedaaWLast
import Derived.Test.YtmablneefndedaaProg
namespace Go.Proofs.Ytmablneefndedaa.Pr
open Go.RowKit Go.Proofs.YtmablneefndedaaW.PrintWords Go.Proofs.YtmablneefndedaaW.PrintLast
set_option linter.unusedVariables false
set_option linter.unusedSimpArgs false
/-- A text's bytes, as numbers; and back. -/
def bys (s : ByteArray) : List Nat := s.data.toList.map UInt8.toNat
def txt (l : List Nat) : ByteArray := ⟨(l.map fun n => UInt8.ofNat n).toArray⟩
theorem bys_length (s : ByteArray) : (bys s).length = s.size := by rw [bys, List.length_map, data_length]
theorem txt_size (l : List Nat) : (txt l).size = l.length := by simp [txt, ByteArray.size]
theorem bys_txt {l : List Nat} (h : ∀ n ∈ l, n < 256) : bys (txt l) = l := by
  unfold bys txt
  rw [List.toList_toArray, List.map_map]
  conv => rhs; rw [← List.map_id l]
  exact List.map_congr_left fun n hn => by simpa using h n hn
theorem str_nats (l : List Nat) : strOfNums (l.map fun (n : Nat) => (n : Int)) = txt l := by
  unfold strOfNums txt
  rw [List.map_map]
  rfl
theorem bys_extract (s : ByteArray) (i j : Nat) : bys (s.extract i j) = ((bys s).drop i).take (j - i) := by
  unfold bys
  rw [ByteArray.data_extract, Array.toList_extract, List.extract_eq_take_drop, List.map_take, List.map_drop]
theorem txt_append (a b : List Nat) : txt (a ++ b) = txt a ++ txt b := by
  apply ByteArray.ext
  simp [txt, ByteArray.data_append]
theorem bys_append (a b : ByteArray) : bys (a ++ b) = bys a ++ bys b := by
  simp [bys, ByteArray.data_append]
theorem txt_toList (l : List Nat) : (txt l).toList = l.map fun n => UInt8.ofNat n := by rw [ByteArray.toList_eq]; rfl
theorem txt_extract (l : List Nat) (i j : Nat) : (txt l).extract i j = txt ((l.drop i).take (j - i)) := by
  unfold txt
  apply ByteArray.ext
  simp [ByteArray.data_extract, List.map_take, List.map_drop]
theorem bys_lt' (s : ByteArray) : ∀ x ∈ bys s, x < 256 := by
  intro x hx
  unfold bys at hx
  rw [List.mem_map] at hx
  obtain ⟨c, _, rfl⟩ := hx
  exact c.toNat_lt
theorem bys_inj {x y : ByteArray} (h : bys x = bys y) : x = y := by
  apply ByteArray.ext
  apply Array.ext'
  exact (List.map_inj_right (fun a b h => UInt8.toNat_inj.1 h)).1 h
theorem txt_bys (s : ByteArray) : txt (bys s) = s := bys_inj (bys_txt (bys_lt' s))
end Go.Proofs.Ytmablneefndedaa.Pr

/- Joined texts (pack.py): what the statement's proof needs, part a6. No condition. -/
import Derived.Below
import Derived.Deep.Draws
import Derived.Deep.AppendLies
import Derived.Maps.AppendAt
import Derived.OwnWalk
import Derived.Laws.BytesArg
import Derived.Laws.MakeOwn
import Derived.Laws.OwnMore
import Derived.Deep.OwnRows
import Derived.Tactics
import Derived.Lib.ConvBytes
import Derived.Laws.Slices
import Derived.WalkKit
import Derived.KernelRfl
import Derived.RowKit3
import Derived.Deep.LoopGhost
import Derived.Deep.QuietTactic
import Derived.BigQuiet
import Derived.WideLaws
import Derived.Deep.DeepCutAuto
import Derived.Deep.CutBlock
import Derived.Deep.RegionHeld3
import Derived.Laws.Rows
import Derived.Lib.AppendStr
import Derived.ArgAppend
import Derived.Laws.IdiomCopy
import Derived.RowKit
import Derived.OrdersHeld
import Derived.Laws.BitsLemmas
import Derived.Laws.StructEq
import Derived.Test.YtbkbganflnemeaaProg
import Derived.Shelf.Strings.Builder1
import Derived.Shelf.Strings.Builder2
import Derived.Shelf.Strings.OnBuilder
import Derived.Shelf.Strings.BuilderF
import Derived.Shelf.Strings.Prefix
import Derived.Shelf.Bits.Mul64
import Derived.Shelf.Strings.Repeat
import Derived.Deep.RegionLaw
import Derived.StillTailTactics
import Derived.Deep.Light
import Derived.Deep.RegionHeldLaw
import Derived.Deep.DrawnRows
import Derived.IntWalk
import Derived.Deep.WholeRow
import Derived.Laws.CopyOwn
import Derived.Test.YtbkbganflnemeaaRows
import Derived.ProofKit
import Derived.OpenShut
import Derived.ShutString
import Derived.ChangeOld
import Derived.SizedLaws
import Derived.ChangeKeysEq
import Derived.Test.YtbkbganflnemeaaZKa1
import Derived.Test.YtbkbganflnemeaaZKa2
import Derived.Test.YtbkbganflnemeaaZKa3
import Derived.Test.YtbkbganflnemeaaZKa4
import Derived.Test.YtbkbganflnemeaaZKa5
section
namespace Go.Proofs.Ytbkbganflnemeaa.Pr
open Go.RowKit Go.Proofs.YtbkbganflnemeaaW.PrintWords Go.Proofs.YtbkbganflnemeaaW.PrintLast
set_option maxHeartbeats 1000000
set_option linter.unusedVariables false
set_option linter.unusedSimpArgs false
theorem joinB_1 (a s : ByteArray) : joinB [a] s = a := by
  unfold joinB
  rw [List.map_cons, List.map_nil, Lib.join_one]
theorem joinB_2 (a b : ByteArray) : joinB [a, b] ⟨#[]⟩ = a ++ b := by
  apply ByteArray.ext
  apply Array.ext'
  simp [joinB, Lib.join, List.intercalate, ByteArray.data_append]
theorem joinB_3 (a b c : ByteArray) : joinB [a, b, c] ⟨#[]⟩ = a ++ b ++ c := by
  apply ByteArray.ext
  apply Array.ext'
  simp [joinB, Lib.join, List.intercalate, ByteArray.data_append]
def memB (n : Int) : Bool := decide (1 ≤ n ∧ n ≤ 6)
def epB (n : Int) : Bool := decide (1 ≤ n ∧ n ≤ 1099511627775)
theorem member_f (n : Int) : keys_member.f n = some (memB n) := by
  unfold keys_member.f memB
  split
  · congr 1; rw [decide_eq_decide]; omega
  · rw [decide_eq_false (by omega)]
theorem epoch_f (n : Int) : keys_epoch.f n = some (epB n) := by
  unfold keys_epoch.f epB
  split
  · congr 1; rw [decide_eq_decide]; omega
  · rw [decide_eq_false (by omega)]
def oneN (n : Int) : Nat := (n % 256).toNat
theorem one_str (n : Int) : strOfNums [n % 256] = txt [oneN n] := by
  rw [← str_nats]
  congr 1
  simp only [List.map_cons, List.map_nil, List.cons.injEq, and_true]
  unfold oneN
  omega
theorem oneN_lt (n : Int) : oneN n < 256 := by unfold oneN; omega
theorem keys_one_f (n : Int) : keys_one.f n = some (txt [oneN n]) := by unfold keys_one.f; rw [one_str]
theorem purpose_f (l : List ByteArray) (h0 : l.length ≤ 1000000) (h1 : (joinB l ⟨#[]⟩).size ≤ 1000000000000) : keys_purpose.f l = some (joinB l ⟨#[]⟩) := by
  unfold keys_purpose.f strings_Join.f
  rw [if_pos ⟨h0, h1⟩, Option.bind_some]
def hkT (key p : ByteArray) : ByteArray := txt ((expL (bys key) (bys p) 1).take 32)
theorem hkT_size (key p : ByteArray) : (hkT key p).size = 32 := by
  unfold hkT
  rw [txt_size, List.length_take, expL_length]
  rfl
theorem expand_32 (key p : ByteArray) (h0 : key.size ≤ 1000000000) (h1 : p.size ≤ 1000000000) : hkdf_Expand.f key p 32 = some (hkT key p, 0) := hkdf_Expand_f key p h0 h1 32 (by decide)
def ofF (key : ByteArray) (ok : Bool) (p : ByteArray) : ByteArray × Int := if ok = true ∧ key.size = 32 then (hkT key p, 0) else (⟨#[]⟩, 1)
theorem of_f (k : Nat) (key : ByteArray) (ok : Bool) (l : List ByteArray) (p : ByteArray) (hp : joinB l ⟨#[]⟩ = p) (h0 : l.length ≤ 1000000) (h1 : p.size ≤ 1000000000) : keys_of.f (k + 1) key ok l = some (ofF key ok p) := by
  subst hp
  unfold keys_of.f ofF
  by_cases ho : ok = true
  · rw [if_pos ho]
    by_cases hk : key.size = 32
    · rw [if_pos ⟨ho, hk⟩, keys_of.j0, if_neg (by simp; omega), purpose_f l h0 (by omega), Option.bind_some, expand_32 _ _ (by omega) h1, Option.bind_some]
    · rw [if_neg (fun h => hk h.2), keys_of.j0, if_pos (by simp; omega)]
  · rw [if_neg ho, if_neg (fun h => ho h.1), keys_of.j0, if_pos rfl]
def nonceL (who n : Int) : List Nat := oneN who :: 0 :: 0 :: 0 :: 0 :: 0 :: byN n 6
theorem nonceL_lt (who n : Int) : ∀ x ∈ nonceL who n, x < 256 := by
  intro x hx
  simp only [nonceL, List.mem_cons] at hx
  rcases hx with rfl | rfl | rfl | rfl | rfl | rfl | hx
  · exact oneN_lt who
  · decide
  · decide
  · decide
  · decide
  · decide
  · unfold byN at hx
    have hn := List.mem_of_mem_drop hx
    unfold roomL at hn
    rw [List.mem_map] at hn
    obtain ⟨i, _, rfl⟩ := hn
    split <;> omega
theorem nonceL_length (who n : Int) : (nonceL who n).length = 12 := by
  simp only [nonceL, List.length_cons, byN_length n 6 (by decide)]
def nonceF (who n : Int) : ByteArray × Int := if who < 0 ∨ 6 < who ∨ n < 0 then (⟨#[]⟩, 1) else if 1099511627775 < n then (⟨#[]⟩, 150) else (txt (nonceL who n), 0)
theorem nonce_f (k : Nat) (who n : Int) : keys_Nonce.f (k + 1) who n = some (nonceF who n) := by
  have key : ∀ (d : Bool), d = decide (who < 0 ∨ 6 < who ∨ n < 0) → keys_Nonce.j0 (k + 1) who n d = some (nonceF who n) := by
    intro d hd
    subst hd
    unfold nonceF
    rw [keys_Nonce.j0]
    by_cases hc : who < 0 ∨ 6 < who ∨ n < 0
    · rw [if_pos hc, if_pos (decide_eq_true hc)]
    · rw [if_neg hc, if_neg (by rw [decide_eq_false hc]; decide)]
      by_cases hs : n > 1099511627775
      · rw [if_pos hs, if_pos (by omega)]
      · have e0 : strings_Repeat.f (⟨#[0]⟩ : ByteArray) 5 = some (txt (List.replicate 5 0)) := by
          unfold strings_Repeat.f
          rw [if_pos (by decide), show (5 : Int).toNat = 5 from rfl, txt_repeat]
        have e1 : numT n = txt (byN n 6) := if_pos (by unfold timeB; exact decide_eq_true (by omega))
        have e2 : joinB [txt [oneN who], txt (List.replicate 5 0), txt (byN n 6)] ⟨#[]⟩ = txt (nonceL who n) := by
          rw [joinB_3, ← txt_append, ← txt_append]
          rfl
        rw [if_neg hs, if_neg (by omega), keys_one_f, Option.bind_some, e0, Option.bind_some, keys_number.f, Option.bind_some, e1, purpose_f _ (by simp) (by rw [e2, txt_size, nonceL_length]; decide), e2, Option.bind_some]
  unfold keys_Nonce.f
  by_cases h0 : who = 0
  · rw [if_pos h0]
    exact key _ (by rw [decide_eq_decide]; omega)
  · rw [if_neg h0, member_f, Option.bind_some]
    by_cases hm : memB who = true
    · rw [if_pos hm]
      have := of_decide_eq_true hm
      exact key _ (by rw [decide_eq_decide]; omega)
    · rw [if_neg hm]
      have hm2 : ¬ (1 ≤ who ∧ who ≤ 6) := fun h => hm (decide_eq_true h)
      exact key _ (by rw [decide_eq_true (by omega)])
def wrapB : ByteArray := ⟨#[119, 114, 97, 112]⟩
def wrapF (own : ByteArray) (who n : Int) (key : ByteArray) : ByteArray × Int :=
  if memB who = true ∧ epB n = true ∧ key.size = 32 ∧ own.size = 32 then sealF (hkT own wrapB) (txt (nonceL who n)) wrapB key else (⟨#[]⟩, 1)
theorem nonce_ok (who n : Int) (h0 : memB who = true) (h1 : epB n = true) : nonceF who n = (txt (nonceL who n), 0) := by
  have := of_decide_eq_true h0
  have := of_decide_eq_true h1
  unfold nonceF
  rw [if_neg (by omega), if_neg (by omega)]
theorem wrap_f (k : Nat) (own : ByteArray) (who n : Int) (key : ByteArray) (hk : key.size ≤ 1000000000000000) : keys_Wrap.f (k + 2) own who n key = some (wrapF own who n key) := by
  have hj : joinB [(⟨#[119, 114, 97, 112]⟩ : ByteArray)] ⟨#[]⟩ = wrapB := joinB_1 _ _
  have hof : ∀ ok, keys_of.f (k + 2) own ok [(⟨#[119, 114, 97, 112]⟩ : ByteArray)] = some (ofF own ok wrapB) := fun ok => of_f (k + 1) own ok _ wrapB hj (by decide) (by decide)
  have hno : keys_Wrap.j0 (k + 2) who n key (ofF own false wrapB).1 (ofF own false wrapB).2 = some (⟨#[]⟩, 1) := by
    rw [show ofF own false wrapB = (⟨#[]⟩, 1) from if_neg (fun h => by cases h.1), keys_Wrap.j0, if_neg (by decide)]
  unfold keys_Wrap.f wrapF
  rw [member_f, Option.bind_some]
  by_cases hm : memB who = true
  · rw [if_pos hm, epoch_f, Option.bind_some]
    by_cases he : epB n = true
    · rw [if_pos he, hof, Option.bind_some]
      by_cases hs : key.size = 32 ∧ own.size = 32
      · rw [if_pos ⟨hm, he, hs.1, hs.2⟩, show ((key.size : Int) == 32) = true by simp; omega, show ofF own true wrapB = (hkT own wrapB, 0) from if_pos ⟨rfl, hs.2⟩, keys_Wrap.j0, if_pos rfl, nonce_f, Option.bind_some,
          nonce_ok who n hm he, aead_Seal_f _ _ _ _ (by decide) hk, Option.bind_some]
        rfl
      · rw [if_neg (fun h => hs h.2.2)]
        have e : ofF own ((key.size : Int) == 32) wrapB = (⟨#[]⟩, 1) := by
          unfold ofF
          rw [if_neg (by intro h; apply hs; refine ⟨?_, h.2⟩; have := h.1; simp at this; omega)]
        rw [e, keys_Wrap.j0, if_neg (by decide)]
    · rw [if_neg he, hof, Option.bind_some, hno, if_neg (fun h => he h.2.1)]
  · rw [if_neg hm, hof, Option.bind_some, hno, if_neg (fun h => hm h.1)]
def unwrapF (own : ByteArray) (who n : Int) (s : ByteArray) : ByteArray × Int :=
  if memB who = true ∧ epB n = true ∧ own.size = 32 then
    (if (openF (hkT own wrapB) (txt (nonceL who n)) wrapB s).2 = 0 ∧ (openF (hkT own wrapB) (txt (nonceL who n)) wrapB s).1.size ≠ 32 then (⟨#[]⟩, 70) else openF (hkT own wrapB) (txt (nonceL who n)) wrapB s)
  else (⟨#[]⟩, 1)
theorem unwrap_f (k : Nat) (own : ByteArray) (who n : Int) (s : ByteArray) (hk : s.size ≤ 1000000000000000) : keys_Unwrap.f (k + 2) own who n s = some (unwrapF own who n s) := by
  have hj : joinB [(⟨#[119, 114, 97, 112]⟩ : ByteArray)] ⟨#[]⟩ = wrapB := joinB_1 _ _
  have hof : ∀ ok, keys_of.f (k + 2) own ok [(⟨#[119, 114, 97, 112]⟩ : ByteArray)] = some (ofF own ok wrapB) := fun ok => of_f (k + 1) own ok _ wrapB hj (by decide) (by decide)
  have hno : keys_Unwrap.j0 (k + 2) who n s (ofF own false wrapB).1 (ofF own false wrapB).2 = some (⟨#[]⟩, 1) := by
    rw [show ofF own false wrapB = (⟨#[]⟩, 1) from if_neg (fun h => by cases h.1), keys_Unwrap.j0, if_neg (by decide)]
  unfold keys_Unwrap.f unwrapF
  rw [member_f, Option.bind_some]
  by_cases hm : memB who = true
  · rw [if_pos hm, epoch_f, Option.bind_some]
    by_cases he : epB n = true
    · rw [he, hof, Option.bind_some]
      by_cases hs : own.size = 32
      · rw [if_pos ⟨hm, rfl, hs⟩, show ofF own true wrapB = (hkT own wrapB, 0) from if_pos ⟨rfl, hs⟩, keys_Unwrap.j0, if_pos rfl, nonce_f, Option.bind_some, nonce_ok who n hm he, aead_Open_f _ _ _ _ (by decide) hk, Option.bind_some]
        show (if (openF (hkT own wrapB) (txt (nonceL who n)) wrapB s).2 = 0 then (if ((openF (hkT own wrapB) (txt (nonceL who n)) wrapB s).1.size : Int) = 32 then _ else _) else _) = _
        by_cases hz : (openF (hkT own wrapB) (txt (nonceL who n)) wrapB s).2 = 0
        · rw [if_pos hz]
          by_cases h32 : (openF (hkT own wrapB) (txt (nonceL who n)) wrapB s).1.size = 32
          · rw [if_pos (by omega), if_neg (fun h => h.2 h32)]
            rfl
          · rw [if_neg (by omega), if_pos ⟨hz, h32⟩]
        · rw [if_neg hz, if_neg (fun h => hz h.1)]
          rfl
      · rw [if_neg (fun h => hs h.2.2), show ofF own true wrapB = (⟨#[]⟩, 1) from if_neg (fun h => hs h.2), keys_Unwrap.j0, if_neg (by decide)]
    · rw [show epB n = false from Bool.eq_false_iff.mpr he, hof, Option.bind_some, hno, if_neg (fun h => by cases h.2.1)]
  · rw [if_neg hm, hof, Option.bind_some, hno, if_neg (fun h => hm h.1)]
theorem unwrap_wrap (own : ByteArray) (who n : Int) (key : ByteArray) (hm : memB who = true) (he : epB n = true) (hk : key.size = 32) (ho : own.size = 32) :
    unwrapF own who n (wrapF own who n key).1 = (key, 0) ∧ (wrapF own who n key).2 = 0 ∧ (wrapF own who n key).1.size = 48 := by
  have hok : aeadOK (hkT own wrapB) (txt (nonceL who n)) wrapB.size key.size := ⟨hkT_size _ _, by rw [txt_size, nonceL_length], by decide, by rw [hk]; decide⟩
  obtain ⟨h1, h2, h3, _⟩ := open_seal _ _ _ _ hok
  have e : wrapF own who n key = sealF (hkT own wrapB) (txt (nonceL who n)) wrapB key := if_pos ⟨hm, he, hk, ho⟩
  rw [e]
  refine ⟨?_, h2, by rw [h3, hk]⟩
  unfold unwrapF
  rw [if_pos ⟨hm, he, ho⟩, h1, if_neg (fun h => h.2 hk)]
theorem keys_light_f (a b : ByteArray) : samphirelaw15_light.f a b = some (decide (a.size ≤ 256 ∧ b.size ≤ 256)) := by
  unfold samphirelaw15_light.f
  by_cases h1 : a.size ≤ 256
  · rw [if_pos (by omega)]
    congr 1
    rw [decide_eq_decide]
    omega
  · rw [if_neg (by omega), decide_eq_false (by omega)]
end Go.Proofs.Ytbkbganflnemeaa.Pr
end

section
namespace Go.Proofs.Ytbkbganflnemeaa.Pr
open Go.RowKit Go.Proofs.YtbkbganflnemeaaW.PrintWords Go.Proofs.YtbkbganflnemeaaW.PrintLast
set_option maxHeartbeats 1000000
set_option linter.unusedVariables false
set_option linter.unusedSimpArgs false
def wkK : List Nat := [75, 91, 163, 229, 67, 78, 242, 5, 168, 137, 68, 87, 254, 212, 140, 39, 65, 160, 215, 138, 231, 225, 156, 208, 130, 159, 46, 252, 29, 110, 109, 80]
theorem wk_key : (expL (List.replicate 32 0) [119, 114, 97, 112] 1).take 32 = wkK := by decide +kernel
def wkT : List Nat := [48, 49, 50, 51, 52, 53, 54, 55, 56, 57, 97, 98, 99, 100, 101, 102, 48, 49, 50, 51, 52, 53, 54, 55, 56, 57, 97, 98, 99, 100, 101, 102]
def wkC : List Nat := streamL wkK [2, 0, 0, 0, 0, 0, 0, 0, 0, 0, 0, 7] 1 wkT
theorem wk_tell : tagL wkK [2, 0, 0, 0, 0, 0, 0, 0, 0, 0, 0, 8] [119, 114, 97, 112] wkC ≠ tagL wkK [2, 0, 0, 0, 0, 0, 0, 0, 0, 0, 0, 7] [119, 114, 97, 112] wkC := by decide +kernel
theorem keys_awake_f (k : Nat) : samphirelaw15_awake.f (k + 2) = some true := by
  have hz : strOfNums (List.replicate 32 0) = txt (List.replicate 32 0) := noughts_str 32
  have hzs : (txt (List.replicate 32 0)).size = 32 := by rw [txt_size, List.length_replicate]
  have hb : bys (txt (List.replicate 32 0)) = List.replicate 32 0 := bys_noughts 32
  unfold samphirelaw15_awake.f
  rw [if_pos (by decide), Option.bind_some, hz]
  generalize hT : (⟨#[48, 49, 50, 51, 52, 53, 54, 55, 56, 57, 97, 98, 99, 100, 101, 102, 48, 49, 50, 51, 52, 53, 54, 55, 56, 57, 97, 98, 99, 100, 101, 102]⟩ : ByteArray) = T at *
  have hTs : T.size = 32 := by rw [← hT]; rfl
  have hTb : bys T = wkT := by rw [← hT]; rfl
  have hTl : T.toList = ([48, 49, 50, 51, 52, 53, 54, 55, 56, 57, 97, 98, 99, 100, 101, 102, 48, 49, 50, 51, 52, 53, 54, 55, 56, 57, 97, 98, 99, 100, 101, 102] : List UInt8) := by rw [← hT, ByteArray.toList_eq]
  have hK : hkT (txt (List.replicate 32 0)) wrapB = txt wkK := by
    unfold hkT
    rw [hb, show bys wrapB = [119, 114, 97, 112] from rfl, wk_key]
  have hKb : bys (txt wkK) = wkK := bys_txt (by decide)
  have n7 : nonceL 2 7 = [2, 0, 0, 0, 0, 0, 0, 0, 0, 0, 0, 7] := by decide +kernel
  have n8 : nonceL 2 8 = [2, 0, 0, 0, 0, 0, 0, 0, 0, 0, 0, 8] := by decide +kernel
  have b7 : bys (txt [2, 0, 0, 0, 0, 0, 0, 0, 0, 0, 0, 7]) = [2, 0, 0, 0, 0, 0, 0, 0, 0, 0, 0, 7] := bys_txt (by decide)
  have b8 : bys (txt [2, 0, 0, 0, 0, 0, 0, 0, 0, 0, 0, 8]) = [2, 0, 0, 0, 0, 0, 0, 0, 0, 0, 0, 8] := bys_txt (by decide)
  generalize hZ : txt (List.replicate 32 0) = Z at *
  have hm : memB 2 = true := rfl
  have h7 : epB 7 = true := rfl
  have h8 : epB 8 = true := rfl
  obtain ⟨u1, u2, u3⟩ := unwrap_wrap Z 2 7 T hm h7 hTs hzs
  have hok : aeadOK (txt wkK) (txt [2, 0, 0, 0, 0, 0, 0, 0, 0, 0, 0, 7]) wrapB.size T.size := ⟨rfl, rfl, by decide, by rw [hTs]; decide⟩
  have hw : wrapF Z 2 7 T = sealF (txt wkK) (txt [2, 0, 0, 0, 0, 0, 0, 0, 0, 0, 0, 7]) wrapB T := by
    unfold wrapF
    rw [if_pos ⟨hm, h7, hTs, hzs⟩, hK, n7]
  obtain ⟨_, _, _, o4⟩ := open_seal _ _ _ _ hok
  rw [← hw, hKb, b7, hTb] at o4
  have h70 : unwrapF Z 2 8 (wrapF Z 2 7 T).1 = (⟨#[]⟩, 70) := by
    have ho : openF (txt wkK) (txt [2, 0, 0, 0, 0, 0, 0, 0, 0, 0, 0, 8]) wrapB (wrapF Z 2 7 T).1 = (⟨#[]⟩, 70) := by
      unfold openF
      rw [u3, if_pos ⟨rfl, rfl, by decide, by decide⟩, if_neg (by decide), if_neg]
      have o5 : bys (wrapF Z 2 7 T).1 = wkC ++ tagL wkK [2, 0, 0, 0, 0, 0, 0, 0, 0, 0, 0, 7] [119, 114, 97, 112] wkC := o4
      have hl : wkC.length = 48 - 16 := by unfold wkC; rw [streamL_length]; rfl
      rw [o5, hKb, b8, show bys wrapB = [119, 114, 97, 112] from rfl, List.take_left' hl, List.drop_left' hl]
      exact wk_tell
    unfold unwrapF
    rw [if_pos ⟨hm, h8, hzs⟩, hK, n8, ho, if_neg (fun h => absurd h.1 (by decide))]
  have hn : nonceF 2 258 = (txt (nonceL 2 258), 0) := nonce_ok 2 258 rfl rfl
  have hn2 : (txt (nonceL 2 258)).toList = ([2, 0, 0, 0, 0, 0, 0, 0, 0, 0, 1, 2] : List UInt8) := by
    rw [show nonceL 2 258 = [2, 0, 0, 0, 0, 0, 0, 0, 0, 0, 1, 2] by decide +kernel, txt_toList]
    rfl
  rw [wrap_f _ _ _ _ _ (by omega), Option.bind_some, unwrap_f _ _ _ _ _ (by omega), Option.bind_some, unwrap_f _ _ _ _ _ (by omega), Option.bind_some, nonce_f, Option.bind_some, u1, u2, u3, h70, hn, if_pos rfl, if_pos rfl, if_pos hTl, if_pos rfl, if_pos (show ((48 : Nat) : Int) = 48 from rfl), if_pos hn2]
  rfl
end Go.Proofs.Ytbkbganflnemeaa.Pr
end

section
namespace Go.Proofs.Ytbkbganflnemeaa.Pr
open Go.RowKit Go.Deep Go.Proofs.YtbkbganflnemeaaW.PrintWords Go.Proofs.YtbkbganflnemeaaW.PrintLast Go.Proofs.YtbkbganflnemeaaW.PrintMore
set_option maxHeartbeats 1000000
set_option linter.unusedVariables false
set_option linter.unusedSimpArgs false
theorem and_255c (n : Int) : bits .and .i64 n 255 = n % 256 := by
  have h127 : (BitVec.ofInt 64 255).toNat = 2 ^ 8 - 1 := by decide
  have key : (BitVec.ofInt 64 n &&& BitVec.ofInt 64 255).toNat = (n % ((2 ^ 64 : Nat) : Int)).toNat % 2 ^ 8 := by
    rw [BitVec.toNat_and, BitVec.toNat_ofInt, h127, Nat.and_two_pow_sub_one_eq_mod]
  show IntKind.i64.wrap ((BitVec.ofInt 64 n &&& BitVec.ofInt 64 255).toNat : Nat) = n % 256
  rw [key, IntKind.wrap_i64]
  omega
theorem wrapNc {x : Int} (n : Nat) (h : x = n) (hn : n ≤ 1000000000000) : wrap64 x = n := by
  subst h
  unfold wrap64
  omega
theorem big_part (x : Int) (j : Nat) (hj : j ≤ 7) : (bits .and .i64 (shr .i64 x (wrap64 (8 * (j : Int)))) 255) % 256 = ((x / 2 ^ (8 * j) % 256).toNat : Int) := by
  rw [wrapNc (x := 8 * (j : Int)) (8 * j) (by omega) (by omega), and_255c, shr, Int.toNat_natCast]
  have : min (8 * j) IntKind.i64.bits = 8 * j := Nat.min_eq_left (by show 8 * j ≤ 64; omega)
  rw [this]
  omega
def downN (x : Int) : Nat → List Nat
  | 0 => []
  | j + 1 => (x / 2 ^ (8 * j) % 256).toNat :: downN x j
theorem big_loop (x : Int) : ∀ (j k : Nat) (acc : List Nat), j ≤ 8 → j < k → acc.length + j ≤ 100 →
    samphireref09_big.l0 k x (acc.map fun (n : Nat) => (n : Int)) ((j : Int) - 1) = some (txt (acc ++ downN x j))
  | 0, k, acc, _, hk, _ => by
    obtain ⟨k, rfl⟩ : ∃ m, k = m + 1 := ⟨k - 1, by omega⟩
    simp only [samphireref09_big.l0]
    rw [if_neg (by omega), str_nats]
    simp [downN]
  | j + 1, k, acc, hj, hk, hl => by
    obtain ⟨k, rfl⟩ : ∃ m, k = m + 1 := ⟨k - 1, by omega⟩
    have e : ((j + 1 : Nat) : Int) - 1 = (j : Int) := by omega
    rw [e]
    simp only [samphireref09_big.l0]
    rw [if_pos (by omega), if_pos (by rw [wrapNc (x := 8 * (j : Int)) (8 * j) (by omega) (by omega)]; omega), if_pos (by rw [List.length_map]; omega), big_part x j (by omega)]
    have e2 : wrap64 ((j : Int) - 1) = (j : Int) - 1 := by unfold wrap64; omega
    have e3 : (acc.map fun (n : Nat) => (n : Int)) ++ [((x / 2 ^ (8 * j) % 256).toNat : Int)] = ((acc ++ [(x / 2 ^ (8 * j) % 256).toNat]).map fun (n : Nat) => (n : Int)) := by simp
    rw [e2, e3, big_loop x j k _ (by omega) (by omega) (by rw [List.length_append, List.length_singleton]; omega), List.append_assoc]
    rfl
theorem downN_byN (x : Int) : downN x 1 = byN x 1 ∧ downN x 2 = byN x 2 ∧ downN x 6 = byN x 6 := by
  refine ⟨?_, ?_, ?_⟩ <;> simp [downN, byN, roomL, List.range, List.range.loop]
theorem big_f (x : Int) (m k : Nat) (hm : m ≤ 8) (hk : m < k) : samphireref09_big.f k x (m : Int) = some (txt (downN x m)) := by
  unfold samphireref09_big.f
  rw [show wrap64 ((m : Int) - 1) = (m : Int) - 1 from by unfold wrap64; omega]
  have := big_loop x m k [] hm hk (by simp; omega)
  simpa using this
def refStep (S : ByteArray) (b : Bool) (ok : Bool) (M : List Nat) : ByteArray × Bool := if ok = false ∨ b = true ∨ 65536 < S.size + M.length then (S, true) else (S ++ txt M, false)
theorem with_step (S : ByteArray) (b ok : Bool) (M : List Nat) (hS : S.size ≤ 1000000000000000) (hM : M.length ≤ 1000000) : samphireref09_with.f S b (txt M) ok = some (refStep S b ok M) := by
  unfold samphireref09_with.f refStep
  rw [if_pos ⟨hS, by rw [txt_size]; omega⟩, txt_size]
theorem ref_Num (S : ByteArray) (b : Bool) (n : Int) (hS : S.size ≤ 1000000000000000) : samphireref09_Num.f 10 S b n = some (refStep S b (timeB n) (byN n 6)) := by
  unfold samphireref09_Num.f
  rw [show (6 : Int) = ((6 : Nat) : Int) from rfl, big_f n 6 10 (by decide) (by decide), (downN_byN n).2.2, Option.bind_some]
  unfold timeB
  split
  · rw [with_step S b _ _ hS (by rw [byN_length _ _ (by decide)]; decide), Option.bind_some, show decide (n ≤ 1099511627775) = decide (0 ≤ n ∧ n ≤ 1099511627775) from by simp only [decide_eq_decide]; omega]
  · rw [decide_eq_false (by omega), with_step S b _ _ hS (by rw [byN_length _ _ (by decide)]; decide), Option.bind_some]
end Go.Proofs.Ytbkbganflnemeaa.Pr
end

section
namespace Go.Proofs.Ytbkbganflnemeaa.Pr
open Go.RowKit Go.Proofs.YtbkbganflnemeaaW.PrintWords Go.Proofs.YtbkbganflnemeaaW.PrintLast
set_option maxHeartbeats 1000000
set_option linter.unusedVariables false
set_option linter.unusedSimpArgs false
theorem numT_size (n : Int) : (numT n).size ≤ 6 := by
  unfold numT
  split
  · rw [txt_size, byN_length _ _ (by decide)]; decide
  · decide
theorem rnum_f (k : Nat) (n : Int) : samphireref15_number.f (k + 10) n = some (numT n) := by
  have h : samphireref09_Num.f (k + 10) (⟨#[]⟩ : ByteArray) false n = some (refStep ⟨#[]⟩ false (timeB n) (byN n 6)) := by
    induction k with
    | zero => exact ref_Num _ _ _ (by decide)
    | succ k ih => exact samphireref09_Num.mono _ _ _ _ _ ih
  unfold samphireref15_number.f
  rw [h, Option.bind_some]
  unfold refStep numT
  cases ht : timeB n with
  | true =>
    rw [if_neg (by rintro (h | h | h); cases h; cases h; rw [byN_length _ _ (by decide)] at h; revert h; decide), if_pos rfl]
    have e : (⟨#[]⟩ : ByteArray) ++ txt (byN n 6) = txt (byN n 6) := by
      rw [show (⟨#[]⟩ : ByteArray) = txt [] from rfl, ← txt_append]
      rfl
    rw [e]
    rfl
  | false =>
    rw [if_pos (.inl rfl), if_neg (by decide)]
    rfl
theorem ref_32 (k : Nat) (key p : ByteArray) (h0 : key.size ≤ 1000000000) (h1 : p.size ≤ 1000000000) : samphireref04_Expand.f (k + 69) key p 32 = some (hkT key p, 0) := by
  induction k with
  | zero => exact ref_Expand_f key p h0 h1 32 (by decide)
  | succ k ih => exact samphireref04_Expand.mono _ _ _ _ _ ih
end Go.Proofs.Ytbkbganflnemeaa.Pr
end

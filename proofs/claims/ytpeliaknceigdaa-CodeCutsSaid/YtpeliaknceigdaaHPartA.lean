/- samphirelaw09's few in plain words. -/
import Derived.Test.YtpeliaknceigdaaPrxf9
import Derived.Test.YtpeliaknceigdaaHRowA
import Derived.Test.YtpeliaknceigdaaPrx0
namespace Go.Proofs.Ytpeliaknceigdaa.Pr
open Go.RowKit Go.Deep Go.Proofs.YtpeliaknceigdaaW.PrintWords Go.Proofs.YtpeliaknceigdaaW.PrintLast Go.Proofs.YtpeliaknceigdaaW.PrintMore
set_option maxHeartbeats 1000000
set_option linter.unusedVariables false
set_option linter.unusedSimpArgs false
theorem few_loop (l : List S31) (hm : l.length ≤ 9223372036854775807) : ∀ (d k j : Nat), j ≤ l.length → l.length - j = d → 2 * d + 1 < k → ∃ b, samphirelaw09_few.l0 k l (j : Int) = some b ∧ (b = true → l.length ≤ 40 ∧ ∀ i x, j ≤ i → l[i]? = some x → x.f3.size ≤ 131072)
  | d, k, j, hj, hd, hk => by
    obtain ⟨k, rfl⟩ : ∃ m, k = m + 2 := ⟨k - 2, by omega⟩
    have hend : ∀ j : Nat, 40 ≤ j ∨ l.length ≤ j → ∃ b, samphirelaw09_few.j1 (k + 1) l (j : Int) false = some b ∧ (b = true → l.length ≤ 40 ∧ ∀ i x, j ≤ i → l[i]? = some x → x.f3.size ≤ 131072) := by
      intro j hj
      simp only [samphirelaw09_few.j1]
      rw [if_neg (by decide)]
      refine ⟨_, rfl, fun h => ?_⟩
      have hl := of_decide_eq_true h
      refine ⟨by omega, fun i x hi hx => ?_⟩
      have := (List.getElem?_eq_some_iff.1 hx).1
      omega
    simp only [samphirelaw09_few.l0]
    by_cases hlt : j < l.length
    · rw [if_pos (by omega)]
      by_cases h40 : j < 40
      · rw [decide_eq_true (by omega : (j : Int) < 40)]
        simp only [samphirelaw09_few.j1]
        rw [if_pos trivial, if_pos (by omega), if_pos (by omega)]
        have hrd : rd_T31 l (j : Int) = l[j] := by simp [rd_T31, hlt]
        rw [hrd]
        obtain ⟨b, hb, hbt⟩ := few_loop l hm (d - 1) k (j + 1) (by omega) (by omega) (by omega)
        have hw : wrap64 ((j : Int) + 1) = ((j + 1 : Nat) : Int) := by unfold wrap64; omega
        rw [hw, hb]
        have good : (l[j].f3.size : Int) ≤ 131072 → (b = true → l.length ≤ 40 ∧ ∀ i x, j ≤ i → l[i]? = some x → x.f3.size ≤ 131072) := by
          intro hs ht
          obtain ⟨h1, h2⟩ := hbt ht
          refine ⟨h1, fun i x hi hx => ?_⟩
          by_cases e : i = j
          · subst e
            rw [List.getElem?_eq_getElem hlt] at hx
            have := Option.some.inj hx
            subst this
            omega
          · exact h2 i x (by omega) hx
        by_cases a1 : (l[j].f3.size : Int) > 512
        · rw [if_pos a1]
          by_cases a2 : (l[j].f3.size : Int) ≤ 32768
          · rw [if_pos a2]; exact ⟨false, rfl, fun h => by cases h⟩
          · rw [if_neg a2]
            by_cases a3 : (l[j].f3.size : Int) > 131072
            · rw [if_pos a3]; exact ⟨false, rfl, fun h => by cases h⟩
            · rw [if_neg a3]; exact ⟨b, rfl, good (by omega)⟩
        · rw [if_neg a1]
          by_cases a3 : (l[j].f3.size : Int) > 131072
          · rw [if_pos a3]; exact ⟨false, rfl, fun h => by cases h⟩
          · rw [if_neg a3]; exact ⟨b, rfl, good (by omega)⟩
      · rw [decide_eq_false (by omega : ¬ (j : Int) < 40)]
        exact hend j (.inl (by omega))
    · rw [if_neg (by omega)]
      exact hend j (.inr (by omega))
  termination_by d => d
  decreasing_by omega
section
open Go.RowKit Go.Proofs.YtpeliaknceigdaaW.PrintWords Go.Proofs.YtpeliaknceigdaaW.PrintLast Go.Proofs.YtpeliaknceigdaaW.PrintMore
def PartQ (y : S31) : Prop := (Lit.int .i64 y.f0).wf = true ∧ (Lit.int .i64 y.f1).wf = true ∧ (Lit.int .i64 y.f2).wf = true ∧ y.f3.size ≤ maxLen
theorem rd_part : Rd Try.prog 31 k31 PartQ :=
  Rd.iso (Rd.struct Try.underlying31 (by kernel_rfl) (RdS.cons _ rfl rfl (Rd.int Try.underlying3 (by kernel_rfl)) (RdS.cons _ rfl rfl (Rd.int Try.underlying3 (by kernel_rfl)) (RdS.cons _ rfl rfl (Rd.int Try.underlying3 (by kernel_rfl)) (RdS.last _ rfl rfl (Rd.string Try.underlying9 (by kernel_rfl)) rfl)))))
    (fun x : S31 => (x.f0, x.f1, x.f2, x.f3)) (fun a => ⟨a.1, a.2.1, a.2.2.1, a.2.2.2⟩) (fun _ => rfl)
end
end Go.Proofs.Ytpeliaknceigdaa.Pr

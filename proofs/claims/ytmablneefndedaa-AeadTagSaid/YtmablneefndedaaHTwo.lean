/- An array of two whole numbers as an argument: opened and shut. -/
import Derived.Test.YtmablneefndedaaRows
import Derived.WalkKit
import Derived.ProofKit
import Derived.OpenShut
import Derived.ShutString
import Derived.ChangeOld
namespace Go.Proofs.Ytmablneefndedaa.Pr
open Go.ChangeShapes Go.WideShapes Go.ChangeAt Go.RowKit
section
variable {H : Type} {enc : TypeId × Value → H} {P : Program} {w : World} {base : Nat} {spare : Nat → Bool} {held : Bool}
theorem okWide_array {r : Reach} {b0 : Nat} {t n e : Nat} {v : Value} (ht : P.underlying t = some (.array n e)) (h : Value.okWide P w r b0 t v) : ∃ cs, v = .agg cs ∧ cs.size = P.cellsOf t := by
  simp only [Value.okWide, ht] at h
  obtain ⟨cs, h1, h2, _⟩ := h
  exact ⟨cs, h1, h2⟩
theorem open_two {r : Reach} {b0 : Nat} {t e : TypeId} {k : IntKind} {v : Value} {d : DataW H} {ps : List MemPlace} (ht : P.underlying t = some (.array 2 e)) (he : P.underlying e = some (.int k)) (hc : P.cellsOf e = 1) (hct : P.cellsOf t = 2)
    (hval : Value.okWide P w r b0 t v) (hd : DataW.Trod enc P w base spare held t v d ps) :
    ∃ x y, v = .agg #[.int k x, .int k y] ∧ d = .agg [.lit (.int k x), .lit (.int k y)] ∧ ps = [] ∧ (Lit.int k x).wf = true ∧ (Lit.int k y).wf = true := by
  obtain ⟨cs, rfl, hsz⟩ := okWide_array ht hval
  obtain ⟨fuel, hf⟩ := hd
  rw [Value.cells] at hf
  obtain ⟨xs, m, _, hx, hl, hxs, hp⟩ := DataW.trod_array ht hf
  obtain ⟨l⟩ := cs
  rw [hct] at hl
  match l, hl with
  | [c0, c1], _ =>
    match xs, hxs with
    | [x0, x1], _ =>
      have h0 := hp 0 (by decide)
      have h1 := hp 1 (by decide)
      simp [hc] at h0 h1
      obtain ⟨n0, e0, rfl, w0⟩ := DataW.trod_int he h0
      obtain ⟨n1, e1, rfl, w1⟩ := DataW.trod_int he h1
      simp at e0 e1 hx
      subst e0 e1
      exact ⟨n0, n1, rfl, hx.1, hx.2, w0, w1⟩
theorem shut_two {t e : TypeId} {k : IntKind} {x y : Int} (ht : P.underlying t = some (.array 2 e)) (he : P.underlying e = some (.int k)) (hc : P.cellsOf e = 1) (hct : P.cellsOf t = 2) (hx : (Lit.int k x).wf = true) (hy : (Lit.int k y).wf = true) :
    DataW.Trod enc P w base spare held t (.agg #[.int k x, .int k y]) (.agg [.lit (.int k x), .lit (.int k y)]) [] := by
  refine ⟨2, ?_⟩
  rw [Value.cells]
  unfold DataW.trod
  simp [ht, hct, hc, DataW.trod, he, hx, hy, List.range, List.range.loop]
end
end Go.Proofs.Ytmablneefndedaa.Pr

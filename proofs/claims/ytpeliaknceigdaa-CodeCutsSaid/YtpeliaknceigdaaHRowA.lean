/- Arguments as they are read: from a datum's reading to a kind of PrintWords (numbers, bools, texts, structures, rows). -/
import Derived.Test.YtpeliaknceigdaaWWords
import Derived.Test.YtpeliaknceigdaaWLast
import Derived.Test.YtpeliaknceigdaaWMore
import Derived.Deep.Slices
import Derived.ChangeArms
import Derived.OpenShut
namespace Go.Proofs.Ytpeliaknceigdaa.Pr
open Go.ChangeShapes Go.WideShapes Go.Deep Go.RowKit Go.Proofs.YtpeliaknceigdaaW.PrintWords Go.Proofs.YtpeliaknceigdaaW.PrintLast Go.Proofs.YtpeliaknceigdaaW.PrintMore
set_option linter.unusedVariables false
set_option linter.unusedSimpArgs false
/-- Whatever reads at type t is of the kind k, and Q holds of it. -/
structure Rd {α : Type} (P : Program) (t : TypeId) (k : Kd α) (Q : α → Prop) : Prop where
  sz : P.cellsOf t = k.sz
  rd : ∀ {H : Type} (enc : TypeId × Value → H) (w : World) (base : Nat) (spare : Nat → Bool) (held : Bool) (fuel : Nat) (cs : List Value) (x : DataW H × List MemPlace), DataW.trod enc P w base spare held fuel t cs = some x → ∃ y, k.K w y cs ∧ Q y
variable {P : Program}
theorem Rd.int {t : TypeId} {k : IntKind} (ht : P.underlying t = some (.int k)) (hc : P.cellsOf t = 1) : Rd P t (Kd.int k) (fun y => (Lit.int k y).wf = true) :=
  ⟨hc, fun enc w base spare held fuel cs x h => by
    obtain ⟨n, rfl, _, hw⟩ := DataW.trod_int ht h
    exact ⟨n, rfl, hw⟩⟩
theorem Rd.bool {t : TypeId} (ht : P.underlying t = some .bool) (hc : P.cellsOf t = 1) : Rd P t Kd.bool (fun _ => True) :=
  ⟨hc, fun enc w base spare held fuel cs x h => by
    obtain ⟨b, rfl, _⟩ := DataW.trod_bool ht h
    exact ⟨b, rfl, trivial⟩⟩
theorem Rd.string {t : TypeId} (ht : P.underlying t = some .string) (hc : P.cellsOf t = 1) : Rd P t Kd.string (fun y => y.size ≤ maxLen) :=
  ⟨hc, fun enc w base spare held fuel cs x h => by
    obtain ⟨s, rfl, _, hs⟩ := DataW.trod_string ht h
    exact ⟨s, rfl, hs⟩⟩
theorem Rd.iso {α β : Type} {t : TypeId} {d : Kd α} {Q : α → Prop} (h : Rd P t d Q) (f : β → α) (g : α → β) (hg : ∀ a, f (g a) = a) : Rd P t (Kd.iso d f) (fun y => Q (f y)) :=
  ⟨h.sz, fun enc w base spare held fuel cs x hx => by
    obtain ⟨y, hk, hq⟩ := h.rd enc w base spare held fuel cs x hx
    refine ⟨g y, ?_, by rw [hg]; exact hq⟩
    show d.K w (f (g y)) cs
    rw [hg]
    exact hk⟩
theorem Rd.imp {α : Type} {t : TypeId} {d : Kd α} {Q Q' : α → Prop} (h : Rd P t d Q) (hq : ∀ y, Q y → Q' y) : Rd P t d Q' :=
  ⟨h.sz, fun enc w base spare held fuel cs x hx => by
    obtain ⟨y, hk, h2⟩ := h.rd enc w base spare held fuel cs x hx
    exact ⟨y, hk, hq y h2⟩⟩
/-- The fields from number i on, whose cells begin at off (all in all: tot cells), are of the kind k. -/
structure RdS {β : Type} (P : Program) (fs : Array Field) (tot i off : Nat) (k : Kd β) (Q : β → Prop) : Prop where
  sz : off + k.sz = tot
  rd : ∀ {H : Type} (enc : TypeId × Value → H) (w : World) (base : Nat) (spare : Nat → Bool) (held : Bool) (n : Nat) (cs : List Value) (xs : List (DataW H × List MemPlace)), cs.length = tot → xs.length = fs.size →
    (∀ (j : Nat) (f : Field), fs[j]? = some f → DataW.trod enc P w base spare held n f.type ((cs.drop f.offset).take (P.cellsOf f.type)) = xs[j]?) → ∃ y, k.K w y (cs.drop off) ∧ Q y
theorem RdS.last {β : Type} {fs : Array Field} {tot i off : Nat} {k : Kd β} {Q : β → Prop} (f : Field) (hf : fs[i]? = some f) (ho : f.offset = off) (h : Rd P f.type k Q) (hs : off + k.sz = tot) : RdS P fs tot i off k Q :=
  ⟨hs, fun enc w base spare held n cs xs hc hx hr => by
    have h1 := hr i f hf
    have hi : i < xs.length := by rw [hx]; exact (Array.getElem?_eq_some_iff.1 hf).1
    rw [List.getElem?_eq_getElem hi, ho, h.sz, List.take_of_length_le (by rw [List.length_drop]; omega)] at h1
    exact h.rd enc w base spare held n _ _ h1⟩
theorem RdS.cons {α β : Type} {fs : Array Field} {tot i off : Nat} {a : Kd α} {b : Kd β} {Qa : α → Prop} {Qb : β → Prop} (f : Field) (hf : fs[i]? = some f) (ho : f.offset = off) (ha : Rd P f.type a Qa) (hb : RdS P fs tot (i + 1) (off + a.sz) b Qb) :
    RdS P fs tot i off (Kd.pair a b) (fun y => Qa y.1 ∧ Qb y.2) :=
  ⟨by have := hb.sz; show off + (a.sz + b.sz) = tot; omega, fun enc w base spare held n cs xs hc hx hr => by
    have h1 := hr i f hf
    have hi : i < xs.length := by rw [hx]; exact (Array.getElem?_eq_some_iff.1 hf).1
    rw [List.getElem?_eq_getElem hi, ho, ha.sz] at h1
    obtain ⟨y1, k1, q1⟩ := ha.rd enc w base spare held n _ _ h1
    obtain ⟨y2, k2, q2⟩ := hb.rd enc w base spare held n cs xs hc hx hr
    refine ⟨(y1, y2), ⟨(cs.drop off).take a.sz, cs.drop (off + a.sz), ?_, k1, k2⟩, q1, q2⟩
    rw [← List.drop_drop, List.take_append_drop]⟩
theorem Rd.struct {β : Type} {t : TypeId} {fs : Array Field} {k : Kd β} {Q : β → Prop} (ht : P.underlying t = some (.struct fs)) (hc : P.cellsOf t = k.sz) (h : RdS P fs k.sz 0 0 k Q) : Rd P t k Q :=
  ⟨hc, fun enc w base spare held fuel cs x hx => by
    obtain ⟨xs, n, _, _, hl, hxs, hr⟩ := DataW.trod_struct ht hx
    have := h.rd enc w base spare held n cs xs (by rw [hl, hc]) hxs hr
    simpa using this⟩
theorem list_of {α : Type} {R : Nat → α → Prop} : ∀ (n : Nat), (∀ i, i < n → ∃ y, R i y) → ∃ ys : List α, ys.length = n ∧ ∀ i y, ys[i]? = some y → R i y
  | 0, _ => ⟨[], rfl, fun i y h => by simp at h⟩
  | n + 1, h => by
    obtain ⟨ys, hl, hr⟩ := list_of n (fun i hi => h i (by omega))
    obtain ⟨y, hy⟩ := h n (by omega)
    refine ⟨ys ++ [y], by rw [List.length_append, hl]; rfl, fun i z hz => ?_⟩
    by_cases hi : i < n
    · rw [List.getElem?_append_left (by omega)] at hz
      exact hr i z hz
    · have hi2 : i = n := by
        have := (List.getElem?_eq_some_iff.1 hz).1
        rw [List.length_append, List.length_singleton] at this
        omega
      subst hi2
      rw [List.getElem?_append_right (by omega), hl, Nat.sub_self] at hz
      have : y = z := by simpa using hz
      subst this
      exact hy
theorem Rd.slice {α : Type} {t e : TypeId} {k : Kd α} {Q : α → Prop} (ht : P.underlying t = some (.slice e)) (hc : P.cellsOf t = 1) (h : Rd P e k Q) : Rd P t (Kd.slice e k) (fun ys => (∀ y ∈ ys, Q y) ∧ ys.length ≤ maxLen) :=
  ⟨hc, fun enc w base spare held fuel cs x hx => by
    rcases open_slice ht hx with ⟨rfl, _⟩ | ⟨a, len, cap, m, n, D, Pl, rfl, _, hlc, hcm, hm, _, hi⟩
    · exact ⟨[], ⟨none, 0, rfl, Nat.le_refl _, Kd.C_nil k w⟩, fun y hy => by simp at hy, Nat.zero_le _⟩
    · have hlm : len ≤ m := by rw [hm]; split <;> omega
      obtain ⟨ys, hl, hr⟩ := list_of (R := fun i y => ∃ cs', w.cells? base (a.add (i * P.cellsOf e)) (P.cellsOf e) = some cs' ∧ k.K w y cs' ∧ Q y) len (fun i hil => by
        obtain ⟨cs', hcs, htr⟩ := hi i (by omega)
        obtain ⟨y, hk, hq⟩ := h.rd enc w base spare held n cs' _ htr
        exact ⟨y, cs', hcs, hk, hq⟩)
      refine ⟨ys, ⟨some a, cap, by rw [hl], by omega, ?_⟩, fun y hy => ?_, by omega⟩
      · refine ⟨rfl, by unfold maxLen at hcm; omega, fun _ => ⟨a, rfl, fun j p hp => ?_⟩⟩
        obtain ⟨cs', hcs, hk, _⟩ := hr j p hp
        obtain ⟨_, hcl, hat⟩ := World.cells?_some hcs
        refine ⟨cs', k.K_len hk, hk, fun i u hu => ?_⟩
        have hi2 : i < P.cellsOf e := by
          have := (List.getElem?_eq_some_iff.1 hu).1
          omega
        have := hat i hi2
        rw [Go.Deep.add_add, h.sz] at this
        rw [this]
        exact hu
      · obtain ⟨i, hi2, rfl⟩ := List.getElem_of_mem hy
        obtain ⟨_, _, _, hq⟩ := hr i _ (List.getElem?_eq_getElem hi2)
        exact hq⟩
end Go.Proofs.Ytpeliaknceigdaa.Pr

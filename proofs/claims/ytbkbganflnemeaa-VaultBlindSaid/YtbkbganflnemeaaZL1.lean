/- Joined texts (pack.py): what the statement's proof needs, part 1. No condition. -/
import Derived.Below
import Derived.Deep.Draws
import Derived.Deep.AppendLies
import Derived.Maps.AppendAt
import Derived.OwnWalk
import Derived.Laws.BytesArg
import Derived.Laws.MakeOwn
import Derived.Laws.OwnMore
import Derived.Deep.OwnRows
import Derived.Tactics
import Derived.Lib.ConvBytes
import Derived.Laws.Slices
import Derived.WalkKit
import Derived.KernelRfl
import Derived.RowKit3
import Derived.Deep.LoopGhost
import Derived.Deep.QuietTactic
import Derived.BigQuiet
import Derived.WideLaws
import Derived.Deep.DeepCutAuto
import Derived.Deep.CutBlock
import Derived.Deep.RegionHeld3
import Derived.Laws.Rows
import Derived.Lib.AppendStr
import Derived.ArgAppend
import Derived.Laws.IdiomCopy
import Derived.RowKit
import Derived.OrdersHeld
import Derived.Laws.BitsLemmas
import Derived.Laws.StructEq
import Derived.Test.YtbkbganflnemeaaRows
import Derived.ProofKit
import Derived.OpenShut
import Derived.ShutString
import Derived.ChangeOld
import Derived.Shelf.Strings.Builder1
import Derived.Shelf.Strings.Builder2
import Derived.Shelf.Strings.OnBuilder
import Derived.Shelf.Strings.BuilderF
import Derived.Shelf.Strings.Prefix
import Derived.Shelf.Bits.Mul64
import Derived.Shelf.Strings.Repeat
import Derived.Test.YtbkbganflnemeaaProg
import Derived.Deep.RegionLaw
import Derived.StillTailTactics
import Derived.Deep.Light
import Derived.Deep.RegionHeldLaw
import Derived.Deep.DrawnRows
import Derived.IntWalk
import Derived.Deep.WholeRow
import Derived.Laws.CopyOwn
import Derived.Maps.OwnSet
import Derived.Deep.Slices
import Derived.ChangeArms
import Derived.SizedLaws
import Derived.Carry
set_option linter.unusedVariables false
set_option linter.unusedSimpArgs false
section
namespace Go.Proofs.YtbkbganflnemeaaW.PrintWords
open Go.RowKit
structure Aside0 (p : Prop) : Prop where mk :: (out : p)
structure Drawn0 (w w' : World) : Prop where mk :: (out : ∃ n, w' = w.drewN n)
theorem Drawn0.refl (w : World) : Drawn0 w w := ⟨⟨0, rfl⟩⟩
theorem Drawn0.step {w w' : World} (h : Drawn0 w w') (n : Nat) : Drawn0 w (w'.drewN n) := by
 obtain ⟨m, rfl⟩ := h
 exact ⟨⟨m + n, World.drewN_drewN ..⟩⟩
theorem Drawn0.grown {w w' : World} (h : Drawn0 w w') : Grown w w' := by
 obtain ⟨n, rfl⟩ := h
 induction n with
 | zero => exact Grown.refl _
 | succ n ih => rw [← World.drew_drewN]; exact Grown.drew ih
def rd (xs : List Int) (i : Int) : Int := xs.getD i.toNat 0
def bt (s : ByteArray) (i : Int) : Int := if h : i.toNat < s.size then ((s[i.toNat]'h).toNat : Int) else 0
theorem bt_at (s : ByteArray) (i : Int) : ∀ h : i.toNat < s.size, ((s[i.toNat]'h).toNat : Int) = bt s i := fun h => by simp [bt, h]
def nums (k : IntKind) (xs : List Int) : List Value := xs.map fun x => .int k x
theorem nums_length (k : IntKind) (xs : List Int) : (nums k xs).length = xs.length := by simp [nums]
theorem nums_append (k : IntKind) (xs ys : List Int) : nums k (xs ++ ys) = nums k xs ++ nums k ys := by simp [nums]
theorem below_alloc {w W : World} (h : Below w.heap.size w W) (o : Obj) : Below w.heap.size w (W.alloc o) := h.alloc h.size o
theorem below_drew {B : Nat} {w W : World} (h : Below B w W) : Below B w W.drew := ⟨h.os, h.tape, h.output, h.size, h.block⟩
theorem pw_below_drewN {B : Nat} {w W : World} (h : Below B w W) (n : Nat) : Below B w (W.drewN n) := ⟨h.os, h.tape, h.output, h.size, h.block⟩
theorem below_then {B : Nat} {w w1 w2 : World} (h : Below B w w1) (hB : B ≤ w1.heap.size) (k : Below w1.heap.size w1 w2) : Below B w w2 :=
 h.trans ⟨k.os, k.tape, k.output, k.size, fun i hi => k.block i (Nat.lt_of_lt_of_le hi hB)⟩
theorem pw_below_grown {B : Nat} {w w1 : World} (h : Below B w w1) (row : Option Nat) (hB : B ≤ w1.heap.size) {w2 : World} (hg : w1.grownBy w2 row) (hr : ∀ k, row = some k → B ≤ k) : Below B w w2 := h.grown hg hB hr
theorem grown_of_below {w w1 : World} (h : Below w.heap.size w w1) (row : Option Nat) : w.grownBy w1 row := ⟨h.os, h.tape, h.output, h.size, fun i hi _ => h.block i hi⟩
theorem pw_cell_below {w w1 : World} (h : Below w.heap.size w w1) {a : Addr} {v : Value} (hc : w.cell? a = some v) : w1.cell? a = some v := (h.cell (World.block_lt_of_cell? w a hc)).trans hc
theorem add_plain (g j : Nat) : (⟨g, 0, none⟩ : Addr).add j = ⟨g, j, none⟩ := by unfold Addr.add; split <;> simp_all
def ReadsInt (w : World) (k : IntKind) (A : Option Addr) (n : Nat) (xs : List Int) : Prop :=
 xs.length = n ∧ n ≤ 9223372036854775807 ∧ (0 < n → ∃ ad, A = some ad ∧ ∀ j, j < n → w.cell? (ad.add j) = some (.int k (xs.getD j 0)))
theorem ReadsInt.at_ {w : World} {k : IntKind} {A : Option Addr} {n : Nat} {xs : List Int} (h : ReadsInt w k A n xs) (i : Int) (h0 : 0 ≤ i) (h1 : i < n) : ∃ ad, A = some ad ∧ w.cell? (ad.add i.toNat) = some (.int k (rd xs i)) := by
 obtain ⟨ad, e, hc⟩ := h.2.2 (by omega)
 exact ⟨ad, e, hc _ (by omega)⟩
theorem own_base {w : World} {base : Nat} {e : TypeId} {size n : Nat} {v : Value} {xs : List Value} (h : w.ownsRow base e size v n xs) (k : Nat) (hk : v.ownBlock = some k) : base ≤ k := by
 rcases h.2 with ⟨rfl, _⟩ | ⟨g, cap, cur, rfl, hb, _⟩
 ·simp [Value.ownBlock] at hk
 ·have : g = k := by simpa [Value.ownBlock] using hk
  omega
theorem own_lt {w : World} {base : Nat} {e : TypeId} {size n : Nat} {v : Value} {xs : List Value} (h : w.ownsRow base e size v n xs) (k : Nat) (hk : v.ownBlock = some k) : k < w.heap.size := by
 rcases h.2 with ⟨rfl, _⟩ | ⟨g, cap, cur, rfl, hb, hh, _⟩
 ·simp [Value.ownBlock] at hk
 ·have : g = k := by simpa [Value.ownBlock] using hk
  subst this
  exact (Array.getElem?_eq_some_iff.1 hh).1
theorem pw_own_below {w w1 : World} {base : Nat} {e : TypeId} {size n : Nat} {v : Value} {xs : List Value} (h : w.ownsRow base e size v n xs) (hb : Below w.heap.size w w1) : w1.ownsRow base e size v n xs :=
 h.kept (grown_of_below hb none) (by cases v.ownBlock <;> simp)
theorem own_reads {w : World} {base n : Nat} {e : TypeId} {k : IntKind} {v : Value} {xs : List Int} (h : w.ownsRow base e 1 v n (nums k xs)) : ∃ A c, v = .slice A n c ∧ ReadsInt w k A n xs := by
 have hl : xs.length = n := by have := h.1; simp [nums] at this; exact this
 rcases Nat.eq_zero_or_pos n with h0 | h0
 ·rcases h.2 with ⟨rfl, rfl⟩ | ⟨g, cap, cur, rfl, _⟩
  ·exact ⟨none, 0, rfl, hl, by omega, fun hp => absurd hp (by omega)⟩
  ·exact ⟨_, cap, rfl, hl, by omega, fun hp => absurd hp (by omega)⟩
 ·obtain ⟨g, cap, rfl, _, _⟩ := h.form h0
  have hm : n ≤ 9223372036854775807 := by
   rcases h.2 with ⟨_, h1⟩ | ⟨g', cap', cur, he, _, _, h1, h2, _⟩
   ·omega
   ·simp only [maxLen] at h2
    omega
  refine ⟨_, cap, rfl, hl, hm, fun _ => ⟨_, rfl, fun j hj => h.cells (g := g) rfl j _ ?_⟩⟩
  simp [nums, List.getElem?_eq_getElem (show j < xs.length by omega), List.getD_eq_getElem?_getD]
theorem own_string {P : Program} {w : World} {base n : Nat} {e' src dst e : TypeId} {v : Value} {xs : List Int} (hs : P.underlying src = some (.slice e)) (he : P.underlying e = some (.int .u8)) (hd : P.underlying dst = some .string)
  (h : w.ownsRow base e' 1 v n (nums .u8 xs)) : (convert src dst v).run P w = .ok (.string (strOfNums xs)) w := by
 have hl : xs.length = n := by have := h.1; simp [nums] at this; exact this
 rcases h.2 with ⟨rfl, rfl⟩ | ⟨g, cap, cur, rfl, _⟩
 ·obtain rfl : xs = [] := List.eq_nil_of_length_eq_zero hl
  exact run_convert_bytes_nil w src e hs he 0 0 dst hd
 ·refine run_convert_bytes_arg w src e hs he g 0 n cap xs hl (fun i hi => ?_) dst hd
  have hc := h.cells (g := g) rfl i (.int .u8 (xs.getD i 0)) (by simp [nums, List.getElem?_eq_getElem (show i < xs.length by omega), List.getD_eq_getElem?_getD])
  have ha : (⟨g, 0, none⟩ : Addr).add i = ⟨g, 0 + i, none⟩ := by unfold Addr.add; split <;> simp_all
  rwa [ha] at hc
section
variable {P : Program} {ops : Array Oper} {rest : List Oper} {o : Oper} {a : Act} {Q : Exit → Act → World → Prop}
end
section
variable {P : Program}
end
theorem own_lit (W : World) (base : Nat) (e : TypeId) (k : IntKind) (xs : List Int) (hb : base ≤ W.heap.size) (hm : xs.length ≤ 9223372036854775807) :
  (W.alloc (.cells (nums k xs).toArray e)).ownsRow base e 1 (.slice (some ⟨W.heap.size, 0, none⟩) xs.length xs.length) xs.length (nums k xs) := by
 have h := World.ownsRow_lit (base := base) (e := e) (size := 1) W (nums k xs).toArray xs.length hb (by simpa [maxLen] using hm) (by simp [nums])
 simpa using h
section
variable {P : Program} {ops : Array Oper} {rest : List Oper} {o : Oper} {a : Act} {Q : Exit → Act → World → Prop}
end
theorem data_length (s : ByteArray) : s.data.toList.length = s.size := by rw [Array.length_toList]; rfl
theorem print_bytes {P : Program} (src dst e : TypeId) {u : TypeDesc} (hs : P.underlying src = some u) (hd : P.underlying dst = some (.slice e)) (he : P.underlying e = some (.int .u8)) (s : ByteArray) (W : World) :
  (convert src dst (.string s)).run P W = .ok (.slice (some ⟨W.heap.size, 0, none⟩) s.size (grownCap W s.size 0 e)) (Lib.bytesWorld W e s) := Lib.run_convert_string_bytes W src dst e s hs hd he
theorem bytes_below {B : Nat} {w W : World} (h : Below B w W) (hB : B ≤ W.heap.size) (e : TypeId) (s : ByteArray) : Below B w (Lib.bytesWorld W e s) :=
 h.trans ⟨rfl, rfl, rfl, by rw [Lib.bytesWorld_size]; omega, fun i hi => Lib.bytesWorld_at_old W e s i (by omega)⟩
def Reps {α : Type} (R : α → List Value → Prop) (size : Nat) (ps : List α) (cs : List Value) : Prop :=
 cs.length = ps.length * size ∧ ∀ j p, ps[j]? = some p → R p ((cs.drop (j * size)).take size)
theorem Reps.imp_ {α : Type} {R R' : α → List Value → Prop} {size : Nat} {ps : List α} {cs : List Value} (h : Reps R size ps cs) (hR : ∀ p c, R p c → R' p c) : Reps R' size ps cs := ⟨h.1, fun j p hj => hR _ _ (h.2 j p hj)⟩
def ReadsRow {α : Type} (R : α → List Value → Prop) (size : Nat) (w : World) (A : Option Addr) (n : Nat) (ps : List α) : Prop :=
 ps.length = n ∧ n ≤ 9223372036854775807 ∧ (0 < n → ∃ ad, A = some ad ∧ ∀ j p, ps[j]? = some p → ∃ c, c.length = size ∧ R p c ∧ ∀ i u, c[i]? = some u → w.cell? (ad.add (j * size + i)) = some u)
theorem ReadsRow.imp_ {α : Type} {R R' : α → List Value → Prop} {size : Nat} {w w1 : World} {A : Option Addr} {n : Nat} {ps : List α} (h : ReadsRow R size w A n ps) (hb : Below w.heap.size w w1) (hR : ∀ p c, R p c → R' p c) : ReadsRow R' size w1 A n ps :=
  ⟨h.1, h.2.1, fun hn => by
    obtain ⟨ad, e, hc⟩ := h.2.2 hn
    refine ⟨ad, e, fun j p hj => ?_⟩
    obtain ⟨c, hs, hr, hcell⟩ := hc j p hj
    exact ⟨c, hs, hR _ _ hr, fun i u hu => pw_cell_below hb (hcell i u hu)⟩⟩
theorem own_reads_row {α : Type} {R : α → List Value → Prop} {w : World} {base n size : Nat} {e : TypeId} {v : Value} {ps : List α} {cs : List Value} (h : w.ownsRow base e size v n cs) (hR : Reps R size ps cs) (hn : ps.length = n) :
  ∃ A c, v = .slice A n c ∧ ReadsRow R size w A n ps := by
 rcases Nat.eq_zero_or_pos n with h0 | h0
 ·rcases h.2 with ⟨rfl, rfl⟩ | ⟨g, cap, cur, rfl, _⟩
  ·exact ⟨none, 0, rfl, hn, by omega, fun hp => absurd hp (by omega)⟩
  ·exact ⟨_, cap, rfl, hn, by omega, fun hp => absurd hp (by omega)⟩
 ·obtain ⟨g, cap, rfl, _, _⟩ := h.form h0
  have hm : n ≤ 9223372036854775807 := by
   rcases h.2 with ⟨_, h1⟩ | ⟨g', cap', cur, he, _, _, h1, h2, _⟩
   ·omega
   ·simp only [maxLen] at h2
    omega
  refine ⟨_, cap, rfl, hn, hm, fun _ => ⟨_, rfl, fun j p hj => ⟨(cs.drop (j * size)).take size, ?_, hR.2 j p hj, fun i u hu => ?_⟩⟩⟩
  ·have hjl := (List.getElem?_eq_some_iff.1 hj).1
   have h1 : j * size + size ≤ cs.length := by rw [hR.1, ← Nat.succ_mul]; exact Nat.mul_le_mul_right _ hjl
   rw [List.length_take, List.length_drop]
   omega
  ·refine h.cells (g := g) rfl _ u ?_
   rw [List.getElem?_take] at hu
   split at hu
   ·rw [List.getElem?_drop] at hu
    exact hu
   ·cases hu
section
variable {P : Program} {ops : Array Oper} {rest : List Oper} {o : Oper} {a : Act} {Q : Exit → Act → World → Prop}
end
theorem blk_set {w : World} {g : Nat} {t : TypeId} {cs : Array Value} (h : w.heap[g]? = some (.cells cs t (0, 0))) (i : Nat) (u : Value) : (w.setCell ⟨g, i, none⟩ u).heap[g]? = some (.cells (cs.setIfInBounds i u) t (0, 0)) := by
 simp [World.setCell, Array.getElem?_modify, h]
theorem blk_lt {w : World} {g : Nat} {o : Obj} (h : w.heap[g]? = some o) : g < w.heap.size := (Array.getElem?_eq_some_iff.1 h).1
theorem blk_cell {w : World} {g : Nat} {t : TypeId} {cs : Array Value} (h : w.heap[g]? = some (.cells cs t (0, 0))) (i : Nat) : w.cell? ⟨g, i, none⟩ = cs[i]? := cell_of_row w g i cs t (0, 0) h
theorem blk_frozen {w : World} {g : Nat} {t : TypeId} {cs : Array Value} (h : w.heap[g]? = some (.cells cs t (0, 0))) (i : Nat) : w.frozen? ⟨g, i, none⟩ = false := by simp [World.frozen?, h]
theorem blk_grown {w w1 : World} {g : Nat} {o : Obj} {row : Option Nat} (h : w.heap[g]? = some o) (hg : w.grownBy w1 row) (hne : some g ≠ row) : w1.heap[g]? = some o := (hg.block g (blk_lt h) hne).trans h
section
variable {P : Program} {ops : Array Oper} {o : Oper} {a : Act} {Q : Exit → Act → World → Prop} {K : Act → World → Prop}
end
theorem own_weaken {w : World} {base base' : Nat} {e : TypeId} {size n : Nat} {v : Value} {xs : List Value} (h : w.ownsRow base e size v n xs) (hb : base' ≤ base) : w.ownsRow base' e size v n xs := by
 obtain ⟨h1, h2⟩ := h
 refine ⟨h1, ?_⟩
 rcases h2 with h2 | ⟨g, cap, cur, rfl, hg, r⟩
 ·exact .inl h2
 ·exact .inr ⟨g, cap, cur, rfl, Nat.le_trans hb hg, r⟩
section
variable {α : Type} {enc : α → Value} {d : α}
def encs (enc : α → Value) (xs : List α) : List Value := xs.map enc
def rdOf (d : α) (xs : List α) (i : Int) : α := xs.getD i.toNat d
theorem encs_length (xs : List α) : (encs enc xs).length = xs.length := by simp [encs]
def ReadsOf (enc : α → Value) (d : α) (w : World) (A : Option Addr) (n : Nat) (xs : List α) : Prop :=
 xs.length = n ∧ n ≤ 9223372036854775807 ∧ (0 < n → ∃ ad, A = some ad ∧ ∀ j, j < n → w.cell? (ad.add j) = some (enc (xs.getD j d)))
theorem ReadsOf.at_ {w : World} {A : Option Addr} {n : Nat} {xs : List α} (h : ReadsOf enc d w A n xs) (i : Int) (h0 : 0 ≤ i) (h1 : i < n) : ∃ ad, A = some ad ∧ w.cell? (ad.add i.toNat) = some (enc (rdOf d xs i)) := by
 obtain ⟨ad, e, hc⟩ := h.2.2 (by omega)
 exact ⟨ad, e, hc _ (by omega)⟩
theorem ReadsOf.below {w w1 : World} {A : Option Addr} {n : Nat} {xs : List α} (h : ReadsOf enc d w A n xs) (hb : Below w.heap.size w w1) : ReadsOf enc d w1 A n xs :=
  ⟨h.1, h.2.1, fun hn => by
    obtain ⟨ad, e, hc⟩ := h.2.2 hn
    exact ⟨ad, e, fun j hj => pw_cell_below hb (hc j hj)⟩⟩
end
section
variable {α : Type} {P : Program} {ops : Array Oper} {rest : List Oper} {o : Oper} {a : Act} {Q : Exit → Act → World → Prop}
end
theorem blk_alloc {w : World} {g : Nat} {o : Obj} (h : w.heap[g]? = some o) (o' : Obj) : (w.alloc o').heap[g]? = some o := (Below.heap_alloc w o' g (blk_lt h)).trans h
theorem blk_drewN {w : World} {g : Nat} {o : Obj} (h : w.heap[g]? = some o) (n : Nat) : (w.drewN n).heap[g]? = some o := h
theorem blk_below {w w1 : World} {g : Nat} {o : Obj} (h : w.heap[g]? = some o) (hb : Below w.heap.size w w1) : w1.heap[g]? = some o := (hb.block g (blk_lt h)).trans h
theorem blk_new (w : World) (o : Obj) : (w.alloc o).heap[w.heap.size]? = some o := heap_alloc_new w o
section
variable {P : Program}
end
theorem own_le {w : World} {base n m c size : Nat} {e : TypeId} {A : Option Addr} {xs : List Value} (h : w.ownsRow base e size (.slice A m c) n xs) : m ≤ c := by
 rcases h.2 with ⟨he, _⟩ | ⟨g, cap, cur, he, _, _, hnc, _⟩
 ·injection he with _ h2 h3
  omega
 ·injection he with _ h2 h3
  omega
def OwnRow {α : Type} (R : α → List Value → Prop) (e : TypeId) (size : Nat) (w : World) (base : Nat) (v : Value) (ps : List α) : Prop :=
 ∃ inner, w.ownsRow base e size v ps.length inner ∧ Reps R size ps inner
section
variable {α : Type} {R R' : α → List Value → Prop} {e : TypeId} {size : Nat} {w w1 : World} {base : Nat} {v : Value} {ps : List α}
theorem OwnRow.imp_ (h : OwnRow R e size w base v ps) (hR : ∀ p c, R p c → R' p c) : OwnRow R' e size w base v ps := by
 obtain ⟨inner, ho, hr⟩ := h
 exact ⟨inner, ho, hr.imp_ hR⟩
theorem OwnRow.reads (h : OwnRow R e size w base v ps) : ∃ A c, v = .slice A ps.length c ∧ ps.length ≤ c ∧ ReadsRow R size w A ps.length ps := by
 obtain ⟨inner, ho, hr⟩ := h
 obtain ⟨A, c, rfl, hrow⟩ := own_reads_row ho hr rfl
 exact ⟨A, c, rfl, own_le ho, hrow⟩
end
section
variable {P : Program} {ops : Array Oper} {rest : List Oper} {o : Oper} {a : Act} {Q : Exit → Act → World → Prop} {α : Type} {R : α → List Value → Prop}
end
section
variable {P : Program} {ops : Array Oper} {o : Oper} {a : Act} {Q : Exit → Act → World → Prop} {K : Act → World → Prop} {α : Type} {R : α → List Value → Prop}
end
section
variable {α : Type} {P : Program}
end
section
variable {P : Program} {ops : Array Oper} {rest : List Oper} {o : Oper} {a : Act} {Q : Exit → Act → World → Prop}
end
structure Kd (α : Type) where
 sz : Nat
 E : List Nat
 K : World → α → List Value → Prop
 M : World → Nat → (Nat → Prop) → α → List Value → Prop
 K_len : ∀ {w x cs}, K w x cs → cs.length = sz
 K_one : ∀ {w x cs}, K w x cs → ∀ u ∈ cs, u.oneCell' = true
 K_below : ∀ {w w1 : World} {x cs}, Below w.heap.size w w1 → K w x cs → K w1 x cs
 K_of_M : ∀ {w base ok x cs}, M w base ok x cs → K w x cs
 M_mono : ∀ {w base ok ok' x cs}, (∀ k, ok k → ok' k) → M w base ok x cs → M w base ok' x cs
 M_bound : ∀ {w : World} {base ok x cs}, M w base ok x cs → M w base (fun k => ok k ∧ base ≤ k ∧ k < w.heap.size ∧ ∃ q, q ∈ E ∧ ∃ cells, w.heap[k]? = some (.cells cells q (0, 0))) x cs
 M_move : ∀ {w w1 : World} {base ok x cs}, (∀ k, ok k → w1.heap[k]? = w.heap[k]?) → M w base ok x cs → M w1 base ok x cs
 M_lower : ∀ {w base base' ok x cs}, base' ≤ base → M w base ok x cs → M w base' ok x cs
theorem own_move {w w1 : World} {base : Nat} {e : TypeId} {size n : Nat} {v : Value} {xs : List Value} (h : w.ownsRow base e size v n xs) (hm : ∀ k, v.ownBlock = some k → w1.heap[k]? = w.heap[k]?) : w1.ownsRow base e size v n xs := by
 obtain ⟨h1, h2⟩ := h
 refine ⟨h1, ?_⟩
 rcases h2 with h2 | ⟨g, cap, cur, rfl, hg, hh, r⟩
 ·exact .inl h2
 ·exact .inr ⟨g, cap, cur, rfl, hg, (hm g (by simp [Value.ownBlock])).trans hh, r⟩
theorem own_typed {w : World} {base : Nat} {e : TypeId} {size n : Nat} {v : Value} {xs : List Value} (h : w.ownsRow base e size v n xs) (k : Nat) (hk : v.ownBlock = some k) : ∃ cells, w.heap[k]? = some (.cells cells e (0, 0)) := by
 rcases h.2 with ⟨rfl, _⟩ | ⟨g, cap, cur, rfl, hg, hh, r⟩
 ·simp [Value.ownBlock] at hk
 ·have : g = k := by simpa [Value.ownBlock] using hk
  subst this
  exact ⟨cur, hh⟩
namespace Kd
def C {α : Type} (d : Kd α) (w : World) (A : Option Addr) (n : Nat) (xs : List α) : Prop := ReadsRow (d.K w) d.sz w A n xs
def R {α : Type} (d : Kd α) (e : Nat) (w : World) (base : Nat) (ok : Nat → Prop) (v : Value) (xs : List α) : Prop :=
 (∀ k, v.ownBlock = some k → ok k) ∧ OwnRow (d.M w base (fun k => ok k ∧ some k ≠ v.ownBlock)) e d.sz w base v xs
section
variable {α : Type} {d : Kd α} {e : Nat} {w w1 : World} {base : Nat} {ok ok' : Nat → Prop} {v : Value} {xs : List α}
theorem C_below {A : Option Addr} {n : Nat} (h : d.C w A n xs) (hb : Below w.heap.size w w1) : d.C w1 A n xs := ReadsRow.imp_ h hb (fun _ _ hp => d.K_below hb hp)
theorem R_mono (h : d.R e w base ok v xs) (hok : ∀ k, ok k → ok' k) : d.R e w base ok' v xs := ⟨fun k hk => hok k (h.1 k hk), h.2.imp_ (fun _ _ hp => d.M_mono (fun k hk => ⟨hok k hk.1, hk.2⟩) hp)⟩
theorem R_bound (h : d.R e w base ok v xs) : d.R e w base (fun k => ok k ∧ base ≤ k ∧ k < w.heap.size ∧ ∃ q, q ∈ e :: d.E ∧ ∃ cells, w.heap[k]? = some (.cells cells q (0, 0))) v xs := by
 obtain ⟨h0, inner, ho, hr⟩ := h
 refine ⟨fun k hk => ?_, inner, ho, hr.imp_ (fun _ _ hp => d.M_mono (fun k hk => ?_) (d.M_bound hp))⟩
 ·obtain ⟨cells, hc⟩ := own_typed ho k hk
  exact ⟨h0 k hk, own_base ho k hk, own_lt ho k hk, e, List.mem_cons_self, cells, hc⟩
 ·obtain ⟨⟨h1, h2⟩, h3, h4, q, hq, hc⟩ := hk
  exact ⟨⟨h1, h3, h4, q, List.mem_cons_of_mem _ hq, hc⟩, h2⟩
theorem R_move (h : d.R e w base ok v xs) (hm : ∀ k, ok k → w1.heap[k]? = w.heap[k]?) : d.R e w1 base ok v xs := by
 obtain ⟨h0, inner, ho, hr⟩ := h
 exact ⟨h0, inner, own_move ho (fun k hk => hm k (h0 k hk)), hr.imp_ (fun _ _ hp => d.M_move (fun k hk => hm k hk.1) hp)⟩
theorem R_lower {base' : Nat} (h : d.R e w base ok v xs) (hb : base' ≤ base) : d.R e w base' ok v xs := by
 obtain ⟨h0, inner, ho, hr⟩ := h
 exact ⟨h0, inner, own_weaken ho hb, hr.imp_ (fun _ _ hp => d.M_lower hb hp)⟩
theorem R_step (h : d.R e w base ok v xs) (hm : ∀ k, ok k → k < w.heap.size → w1.heap[k]? = w.heap[k]?) : d.R e w1 base ok v xs :=
 R_mono (R_move (R_bound h) (fun k hk => hm k hk.1 hk.2.2.1)) (fun _ hk => hk.1)
theorem M_step {x : α} {cs : List Value} (h : d.M w base ok x cs) (hm : ∀ k, ok k → k < w.heap.size → w1.heap[k]? = w.heap[k]?) : d.M w1 base ok x cs :=
 d.M_mono (fun _ hk => hk.1) (d.M_move (fun k hk => hm k hk.1 hk.2.2.1) (d.M_bound h))
theorem R_below (h : d.R e w base ok v xs) (hb : Below w.heap.size w w1) : d.R e w1 base ok v xs := R_step h (fun k _ hk => hb.block k hk)
theorem M_below {x : α} {cs : List Value} (h : d.M w base ok x cs) (hb : Below w.heap.size w w1) : d.M w1 base ok x cs := M_step h (fun k _ hk => hb.block k hk)
theorem R_reads (h : d.R e w base ok v xs) : ∃ A c, v = .slice A xs.length c ∧ xs.length ≤ c ∧ d.C w A xs.length xs := by
 obtain ⟨A, c, he, hl, hr⟩ := OwnRow.reads h.2
 exact ⟨A, c, he, hl, hr.imp_ (Below.refl _ _) (fun _ _ hp => d.K_of_M hp)⟩
theorem R_own (h : d.R e w base ok v xs) : ∃ inner, w.ownsRow base e d.sz v xs.length inner := by
 obtain ⟨_, inner, ho, _⟩ := h
 exact ⟨inner, ho⟩
end
def scalar {α : Type} (enc : α → Value) (h1 : ∀ x, (enc x).oneCell' = true) : Kd α where
 sz := 1
 E := []
 K := fun _ x cs => cs = [enc x]
 M := fun _ _ _ x cs => cs = [enc x]
 K_len := fun h => by rw [h]; rfl
 K_one := fun h u hu => by
  rw [h] at hu
  rw [List.mem_singleton.1 hu]
  exact h1 _
 K_below := fun _ h => h
 K_of_M := fun h => h
 M_mono := fun _ h => h
 M_bound := fun h => h
 M_move := fun _ h => h
 M_lower := fun _ h => h
def int (k : IntKind) : Kd Int := scalar (Value.int k) (fun _ => rfl)
def string : Kd ByteArray := scalar Value.string (fun _ => rfl)
def slice {α : Type} (e : Nat) (d : Kd α) : Kd (List α) where
 sz := 1
 E := e :: d.E
 K := fun w xs cs => ∃ A c, cs = [.slice A xs.length c] ∧ xs.length ≤ c ∧ d.C w A xs.length xs
 M := fun w base ok xs cs => ∃ v, cs = [v] ∧ d.R e w base ok v xs
 K_len := by
  rintro w x cs ⟨A, c, rfl, _⟩
  rfl
 K_one := by
  rintro w x cs ⟨A, c, rfl, _⟩ u hu
  rw [List.mem_singleton.1 hu]
  rfl
 K_below := by
  rintro w w1 x cs hb ⟨A, c, rfl, hl, hr⟩
  exact ⟨A, c, rfl, hl, C_below hr hb⟩
 K_of_M := by
  rintro w base ok x cs ⟨v, rfl, h⟩
  obtain ⟨A, c, rfl, hl, hr⟩ := R_reads h
  exact ⟨A, c, rfl, hl, hr⟩
 M_mono := by
  rintro w base ok ok' x cs hok ⟨v, rfl, h⟩
  exact ⟨v, rfl, R_mono h hok⟩
 M_bound := by
  rintro w base ok x cs ⟨v, rfl, h⟩
  exact ⟨v, rfl, R_bound h⟩
 M_move := by
  rintro w w1 base ok x cs hm ⟨v, rfl, h⟩
  exact ⟨v, rfl, R_move h hm⟩
 M_lower := by
  rintro w base base' ok x cs hb ⟨v, rfl, h⟩
  exact ⟨v, rfl, R_lower h hb⟩
def pair {α β : Type} (a : Kd α) (b : Kd β) : Kd (α × β) where
 sz := a.sz + b.sz
 E := a.E ++ b.E
 K := fun w x cs => ∃ c0 c1, cs = c0 ++ c1 ∧ a.K w x.1 c0 ∧ b.K w x.2 c1
 M := fun w base ok x cs => ∃ c0 c1, cs = c0 ++ c1 ∧ a.M w base ok x.1 c0 ∧ b.M w base ok x.2 c1
 K_len := by
  rintro w x cs ⟨c0, c1, rfl, h0, h1⟩
  rw [List.length_append, a.K_len h0, b.K_len h1]
 K_one := by
  rintro w x cs ⟨c0, c1, rfl, h0, h1⟩ u hu
  rcases List.mem_append.1 hu with hu | hu
  ·exact a.K_one h0 u hu
  ·exact b.K_one h1 u hu
 K_below := by
  rintro w w1 x cs hb ⟨c0, c1, rfl, h0, h1⟩
  exact ⟨c0, c1, rfl, a.K_below hb h0, b.K_below hb h1⟩
 K_of_M := by
  rintro w base ok x cs ⟨c0, c1, rfl, h0, h1⟩
  exact ⟨c0, c1, rfl, a.K_of_M h0, b.K_of_M h1⟩
 M_mono := by
  rintro w base ok ok' x cs hok ⟨c0, c1, rfl, h0, h1⟩
  exact ⟨c0, c1, rfl, a.M_mono hok h0, b.M_mono hok h1⟩
 M_bound := by
  rintro w base ok x cs ⟨c0, c1, rfl, h0, h1⟩
  refine ⟨c0, c1, rfl, a.M_mono ?_ (a.M_bound h0), b.M_mono ?_ (b.M_bound h1)⟩
  ·rintro k ⟨h2, h3, h4, q, hq, hc⟩
   exact ⟨h2, h3, h4, q, List.mem_append_left _ hq, hc⟩
  ·rintro k ⟨h2, h3, h4, q, hq, hc⟩
   exact ⟨h2, h3, h4, q, List.mem_append_right _ hq, hc⟩
 M_move := by
  rintro w w1 base ok x cs hm ⟨c0, c1, rfl, h0, h1⟩
  exact ⟨c0, c1, rfl, a.M_move hm h0, b.M_move hm h1⟩
 M_lower := by
  rintro w base base' ok x cs hb ⟨c0, c1, rfl, h0, h1⟩
  exact ⟨c0, c1, rfl, a.M_lower hb h0, b.M_lower hb h1⟩
def bot {α : Type} (sz : Nat) (E : List Nat) : Kd α where
 sz := sz
 E := E
 K := fun _ _ _ => False
 M := fun _ _ _ _ _ => False
 K_len := fun h => h.elim
 K_one := fun h => h.elim
 K_below := fun _ h => h
 K_of_M := fun h => h
 M_mono := fun _ h => h
 M_bound := fun h => h
 M_move := fun _ h => h
 M_lower := fun _ h => h
def upto {α : Type} (F : Kd α → Kd α) (sz : Nat) (E : List Nat) : Nat → Kd α
 | 0 => bot sz E
 | n + 1 => F (upto F sz E n)
section
variable {P : Program} {ops : Array Oper} {rest : List Oper} {o : Oper} {a : Act} {Q : Exit → Act → World → Prop} {α : Type}
end
section
variable {P : Program} {ops : Array Oper} {o : Oper} {a : Act} {Q : Exit → Act → World → Prop} {Kc : Act → World → Prop} {α : Type}
end
theorem own_of_R {α : Type} {enc : α → Value} {h1 : ∀ x, (enc x).oneCell' = true} {e : Nat} {w : World} {base : Nat} {ok : Nat → Prop} {v : Value} {xs : List α} (h : (scalar enc h1).R e w base ok v xs) : w.ownsRow base e 1 v xs.length (encs enc xs) := by
 obtain ⟨_, inner, ho, hr⟩ := h
 have : inner = encs enc xs := by
  apply List.ext_getElem?
  intro j
  rcases Nat.lt_or_ge j xs.length with hj | hj
  ·have h2 := hr.2 j _ (List.getElem?_eq_getElem hj)
   have hl : j < inner.length := by have := hr.1; simp [scalar] at this; omega
   have h3 : (inner.drop (j * 1)).take 1 = [enc xs[j]] := h2
   rw [Nat.mul_one, List.drop_eq_getElem_cons hl] at h3
   have h4 : inner[j] = enc xs[j] := by
    have h5 := congrArg List.head? h3
    rw [List.take_succ_cons] at h5
    exact Option.some.inj h5
   rw [List.getElem?_eq_getElem hl, h4]
   simp [encs, List.getElem?_eq_getElem hj]
  ·have h3 : inner.length = xs.length := by have := hr.1; simp [scalar] at this; omega
   rw [List.getElem?_eq_none (by omega), List.getElem?_eq_none (by rw [encs_length]; omega)]
 rw [← this]
 exact ho
theorem C_of_reads {α : Type} {enc : α → Value} {d : α} {h1 : ∀ x, (enc x).oneCell' = true} {w : World} {A : Option Addr} {n : Nat} {xs : List α} (h : ReadsOf enc d w A n xs) : (scalar enc h1).C w A n xs := by
  refine ⟨h.1, h.2.1, fun hn => ?_⟩
  obtain ⟨ad, e, hc⟩ := h.2.2 hn
  refine ⟨ad, e, fun j p hj => ⟨[enc p], rfl, rfl, fun i u hu => ?_⟩⟩
  obtain ⟨hl, hp⟩ := List.getElem?_eq_some_iff.1 hj
  have h2 := hc j (by have := h.1; omega)
  rw [List.getD_eq_getElem?_getD, hj] at h2
  cases i with
  | zero =>
    have : enc p = u := by simpa using hu
    subst this
    simpa [scalar] using h2
  | succ i => simp at hu
theorem reads_of_C {α : Type} {enc : α → Value} {d : α} {h1 : ∀ x, (enc x).oneCell' = true} {w : World} {A : Option Addr} {n : Nat} {xs : List α} (h : (scalar enc h1).C w A n xs) : ReadsOf enc d w A n xs := by
 refine ⟨h.1, h.2.1, fun hn => ?_⟩
 obtain ⟨ad, e, hc⟩ := h.2.2 hn
 refine ⟨ad, e, fun j hj => ?_⟩
 have hl : j < xs.length := by have := h.1; omega
 obtain ⟨c, _, hK, hcell⟩ := hc j _ (List.getElem?_eq_getElem hl)
 have hK' : c = [enc xs[j]] := hK
 subst hK'
 have := hcell 0 _ rfl
 simpa [scalar, List.getD_eq_getElem?_getD, List.getElem?_eq_getElem hl] using this
end Kd
namespace Kd
section
variable {α : Type} {F : Kd α → Kd α} {sz : Nat} {E : List Nat} {hs : ∀ n, (upto F sz E n).sz = sz} {hE : ∀ n q, q ∈ (upto F sz E n).E → q ∈ E}
end
end Kd
namespace Kd
end Kd
namespace Kd
section
variable {α β : Type} {d : Kd α} {d' : Kd β} {e e' : Nat} {w w1 W : World} {base b b' : Nat} {ok ok' okv oku : Nat → Prop} {v u : Value} {xs : List α} {ys : List β}
theorem R_drew (h : d.R e w base ok v xs) : d.R e w.drew base ok v xs := R_below h (below_drew (Below.refl _ _))
theorem R_drewN (h : d.R e w base ok v xs) (m : Nat) : d.R e (w.drewN m) base ok v xs := R_below h (pw_below_drewN (Below.refl _ _) m)
theorem C_drew {A : Option Addr} {n : Nat} (h : d.C w A n xs) : d.C w.drew A n xs := C_below h (below_drew (Below.refl _ _))
theorem C_nil (d : Kd α) (w : World) : d.C w none ([] : List α).length [] := ⟨rfl, by simp, fun h => absurd h (Nat.lt_irrefl 0)⟩
theorem R_lt (h : d.R e w base ok v xs) : ∀ k, v.ownBlock = some k → k < w.heap.size := by
 obtain ⟨inner, ho⟩ := R_own h
 exact own_lt ho
theorem R_base (h : d.R e w base ok v xs) : ∀ k, v.ownBlock = some k → base ≤ k := by
 obtain ⟨inner, ho⟩ := R_own h
 exact own_base ho
end
section
variable {w W : World} {A : Option Addr} {n : Nat}
variable {α : Type} {enc : α → Value} {h1 : ∀ x, (enc x).oneCell' = true} {e base g cap : Nat} {ok : Nat → Prop} {xs : List α}
end
section
variable {P : Program} {ops : Array Oper} {rest : List Oper} {o : Oper} {a : Act} {Q : Exit → Act → World → Prop}
variable {α : Type}
theorem reps_made {α : Type} {R : α → List Value → Prop} {z : Value} {size : Nat} {z0 : α} (hz : z.cells.size = size) (hs : 0 < size) (h0 : R z0 z.cells.toList) (m : Nat) : Reps R size (List.replicate m z0) (madeCells z.cells (m * size)).toList := by
 refine ⟨by simp [size_madeCells], fun j p hj => ?_⟩
 obtain ⟨hjl, hp⟩ := List.getElem?_eq_some_iff.1 hj
 have hjm : j < m := by simpa using hjl
 have hp' : z0 = p := by simpa using hp
 subst hp'
 have hle : j * size + size ≤ m * size := by rw [← Nat.succ_mul]; exact Nat.mul_le_mul_right _ hjm
 have : ((madeCells z.cells (m * size)).toList.drop (j * size)).take size = z.cells.toList := by
  apply List.ext_getElem
  ·simp [size_madeCells, hz]
   omega
  ·intro i h1 h2
   have hi : i < size := by rw [Array.length_toList, hz] at h2; exact h2
   have hmod : (j * size + i) % size = i := by
    rw [Nat.mul_comm, Nat.mul_add_mod]
    exact Nat.mod_eq_of_lt hi
   simp [madeCells, hz, hmod]
   rw [getElem!_pos z.cells i (by omega)]
 rw [this]
 exact h0
end
end Kd
section
variable {P : Program}
end
def QRow (w : World) (base : Nat) (e : TypeId) (size : Nat) (v : Value) (n : Nat) (xs : List Value) : Prop :=
  xs.length = n * size ∧
  ((n = 0 ∧ ∃ A, v = .slice A 0 0 ∧ ∀ a, A = some a → base ≤ a.block ∧ ∃ cur, w.heap[a.block]? = some (.cells cur e (0, 0))) ∨
   ∃ g off cap cur, v = .slice (some ⟨g, off * size, none⟩) n cap ∧ base ≤ g ∧ w.heap[g]? = some (.cells cur e (0, 0)) ∧ n ≤ cap ∧ off + cap ≤ maxLen ∧ cur.size = (off + cap) * size ∧ (cur.toList.drop (off * size)).take (n * size) = xs)
section
variable {w w1 : World} {base n size : Nat} {e : TypeId} {v : Value} {xs : List Value}
end
section
variable {P : Program}
end
namespace Kd
def Q {α : Type} (d : Kd α) (e : Nat) (w : World) (base : Nat) (ok : Nat → Prop) (v : Value) (xs : List α) : Prop :=
 (∀ k, v.ownBlock = some k → ok k) ∧ ∃ inner, QRow w base e d.sz v xs.length inner ∧ Reps (d.M w base (fun k => ok k ∧ some k ≠ v.ownBlock)) d.sz xs inner
section
variable {α : Type} {d : Kd α} {e : Nat} {w w1 W : World} {base : Nat} {ok ok' : Nat → Prop} {v : Value} {xs : List α}
end
section
variable {P : Program} {ops : Array Oper} {rest : List Oper} {o : Oper} {a : Act} {Q' : Exit → Act → World → Prop} {Kc : Act → World → Prop} {α : Type}
end
end Kd
namespace Kd
section
variable {α : Type} {d : Kd α} {e e' : Nat} {w w1 W : World} {base : Nat} {ok : Nat → Prop} {u v : Value} {xs : List α}
theorem R_elder' (hu : d.R e W base ok u xs) (hbase : ∀ k, v.ownBlock = some k → W.heap.size ≤ k) (hb : Below W.heap.size W w1) : d.R e w1 base (fun k => ok k ∧ some k ≠ v.ownBlock) u xs :=
 R_mono (R_move (R_bound hu) (fun k hk => hb.block k hk.2.2.1)) (fun k hk => ⟨hk.1, fun he => by have := hbase k he.symm; have := hk.2.2.1; omega⟩)
theorem R_new' (h : d.R e w1 W.heap.size ok v xs) (hlt : ∀ k, u.ownBlock = some k → k < W.heap.size) : d.R e w1 W.heap.size (fun k => ok k ∧ some k ≠ u.ownBlock) v xs :=
 R_mono (R_bound h) (fun k hk => ⟨hk.1, fun he => by have := hlt k he.symm; have := hk.2.1; omega⟩)
end
end Kd
namespace Kd
section
variable {α : Type} {d : Kd α} {e base g n cap : Nat} {ok okp : Nat → Prop} {W : World} {xs : List α}
end
end Kd
namespace Kd
section
variable {α : Type} {F : Kd α → Kd α} {sz : Nat} {E : List Nat} {hs : ∀ n, (upto F sz E n).sz = sz} {hE : ∀ n q, q ∈ (upto F sz E n).E → q ∈ E}
end
end Kd
namespace Kd
section
variable {P : Program} {ops : Array Oper} {rest : List Oper} {o : Oper} {a : Act} {Q : Exit → Act → World → Prop} {α : Type}
end
end Kd
namespace Kd
section
variable {P : Program} {ops : Array Oper} {rest : List Oper} {o : Oper} {a : Act} {Q : Exit → Act → World → Prop} {α : Type}
end
end Kd
namespace Kd
section
variable {α : Type} {k : Kd α} {w : World} {A : Option Addr} {xs : List α} {m c : Nat}
end
end Kd
section
variable {P : Program}
end
theorem below_size {w W : World} (h : Below w.heap.size w W) : w.heap.size ≤ W.heap.size := h.size
theorem below_step {w W w2 : World} (h : Below w.heap.size w W) (k : Below W.heap.size W w2) : Below w.heap.size w w2 := below_then h h.size k
theorem own_reads' {W : World} {base n c : Nat} {e : TypeId} {k : IntKind} {A : Option Addr} {xs : List Int} (h : W.ownsRow base e 1 (.slice A n c) n (nums k xs)) : ReadsInt W k A n xs := by
 obtain ⟨A', c', he, hr⟩ := own_reads h
 injection he with hA
 rw [hA]; exact hr
theorem blk_put {w : World} {g : Nat} {t : TypeId} {cs cs' : Array Value} (h : w.heap[g]? = some (.cells cs t (0, 0))) (i : Nat) (u : Value) (e : cs.setIfInBounds i u = cs') : (w.setCell ⟨g, i, none⟩ u).heap[g]? = some (.cells cs' t (0, 0)) := e ▸ blk_set h i u
theorem below_drew1 {base : Nat} {w W : World} (h : Below base w W) : Below base w W.drew := h.drew
namespace Kd
section
variable {α β : Type} {d : Kd α} {d' : Kd β} {e e' base base' n : Nat} {ok ok' : Nat → Prop} {w W w1 W1 : World} {v u : Value} {xs : List α} {ys : List β} {A : Option Addr} {c : Nat}
end
section
variable {α : Type} {enc : α → Value} {h1 : ∀ x, (enc x).oneCell' = true} {w W : World} {A : Option Addr} {n g : Nat} {xs : List α}
end
end Kd
namespace Kd
section
variable {α : Type} {d : Kd α} {e base g : Nat} {ok : Nat → Prop} {w w1 : World} {v : Value} {xs : List α} {o : Obj}
end
end Kd
section
variable {P : Program} {ops : Array Oper} {rest : List Oper} {o : Oper} {a : Act} {Q : Exit → Act → World → Prop}
end
namespace Kd
section
variable {α : Type} {enc : α → Value} {h1 : ∀ x, (enc x).oneCell' = true} {e base g n cap : Nat} {ok : Nat → Prop} {W : World} {xs : List α}
end
end Kd
section
variable {P : Program} {ops : Array Oper} {rest : List Oper} {o : Oper} {a : Act} {Q : Exit → Act → World → Prop}
end
namespace Kd
section
variable {α : Type} {enc : α → Value} {h1 : ∀ x, (enc x).oneCell' = true} {e base g n cap : Nat} {ok : Nat → Prop} {W : World} {xs : List α}
end
end Kd
section
variable {P : Program} {ops : Array Oper} {rest : List Oper} {o : Oper} {a : Act} {Q : Exit → Act → World → Prop} {W : World}
end
section
variable {P : Program} {ops : Array Oper} {o : Oper} {a : Act} {Q : Exit → Act → World → Prop} {Kc : Act → World → Prop}
theorem event_step {W w1 : World} {v : Value} (hw : Region.wanted o (yielded ops a.tmps) = true) (hrun : (execOp a.eval o).run P W = .ok (.value v) w1) (h : Kc (a.put o.dst v) w1) : if Region.wanted o (yielded ops a.tmps) = true then Oper.wp P o a W Kc Q else Kc (a.put o.dst undef) W := by
 rw [if_pos hw]
 unfold Oper.wp
 rw [hrun]
 exact h
namespace Kd
variable {α : Type}
theorem R_lit_step (d : Kd α) {w0 W : World} (base e : Nat) (hw : Region.wanted o (yielded ops a.tmps) = true) {N : Tmp} (_hd : o.dst = some N) {xs : List α} {inner : List Value} {ok okp : Nat → Prop}
  (hrun : (execOp a.eval o).run P W = .ok (.value (.slice (some ⟨W.heap.size, 0, none⟩) xs.length xs.length)) (W.alloc (.cells inner.toArray e)))
  (hrep : Reps (d.M W base okp) d.sz xs inner) (hok : ∀ k, okp k → ok k) (hfresh : ok W.heap.size) (HB : Below base w0 W) (hbase : base ≤ W.heap.size) (hm : xs.length ≤ 9223372036854775807)
  (h : ∀ v1 w1, d.R e w1 base ok v1 xs → Below base w0 w1 → W.grownBy w1 none → (∃ b, v1.ownBlock = some b ∧ W.heap.size ≤ b) → Kc (a.put o.dst v1) w1) : if Region.wanted o (yielded ops a.tmps) = true then Oper.wp P o a W Kc Q else Kc (a.put o.dst undef) W := by
 refine event_step hw hrun (h _ _ ⟨fun k hk => ?_, inner, ?_, ?_⟩ (HB.alloc hbase _) (World.grownBy_alloc W _ none) ⟨W.heap.size, by simp [Value.ownBlock], Nat.le_refl _⟩)
 ·have : W.heap.size = k := by simpa [Value.ownBlock] using hk
  subst this
  exact hfresh
 ·have h2 := World.ownsRow_lit (base := base) (e := e) (size := d.sz) W inner.toArray xs.length hbase (by simpa [maxLen] using hm) (by simpa using hrep.1)
  simpa using h2
 ·refine hrep.imp_ (fun p c hp => d.M_mono (fun k hk => ⟨hok k hk.1, fun he => ?_⟩) (M_below (d.M_bound hp) (below_alloc (Below.refl _ _) _)))
  have h3 : k = W.heap.size := by simpa [Value.ownBlock] using he
  have := hk.2.2.1
  omega
theorem R_make_step (d : Kd α) {w0 W : World} (base e : Nat) (hw : Region.wanted o (yielded ops a.tmps) = true) {N : Tmp} (hd : o.dst = some N) (t : TypeId) (x y : Operand) (ho : o.op = .makeSlice t x y) (n : Int) (hx : a.eval x = .int .i64 n) (hy : a.eval y = .int .i64 n)
    (ht : P.underlying t = some (.slice e)) (z : Value) (bytes : Nat) (hinfo : (P.info? e).map (fun i => (i.zero, i.size, i.bytes)) = some (some z, d.sz, bytes)) (hz : z.cells.size = d.sz) (hs0 : 0 < d.sz) (hb0 : 0 < bytes)
    (z0 : α) {ok okp : Nat → Prop} (hzero : d.M W base okp z0 z.cells.toList) (hok : ∀ k, okp k → ok k) (hfresh : ok W.heap.size) (h0 : 0 ≤ n) (hl : n.toNat * bytes ≤ 281474976710656) (HB : Below base w0 W) (hbase : base ≤ W.heap.size)
    (h : ∀ v1 w1, d.R e w1 base ok v1 (List.replicate n.toNat z0) → Below base w0 w1 → W.grownBy w1 none → (∃ b, v1.ownBlock = some b ∧ W.heap.size ≤ b) → Kc (a.put o.dst v1) w1) : if Region.wanted o (yielded ops a.tmps) = true then Oper.wp P o a W Kc Q else Kc (a.put o.dst undef) W := by
  obtain ⟨m, rfl⟩ := Int.eq_ofNat_of_zero_le h0
  simp only [Int.toNat_natCast] at hl h
  obtain ⟨i0, hi, hzz⟩ := Option.map_eq_some_iff.1 hinfo
  simp only [Prod.mk.injEq] at hzz
  obtain ⟨hz0, hz1, hz2⟩ := hzz
  have hm : m ≤ 281474976710656 := Nat.le_trans (Nat.le_mul_of_pos_right _ hb0) hl
  have hr := run_make (P := P) W t e i0 z ht hi hz0 .i64 .i64 (m : Int) (m : Int) (by omega) (by omega)
    (by
      have h3 : ((i0.bytes * m : Nat) : Int) ≤ 281474976710656 := by rw [hz2, Nat.mul_comm]; omega
      rwa [Int.natCast_mul] at h3) (by omega)
  simp only [Int.toNat_natCast] at hr
  rw [hz1] at hr
  refine R_lit_step d base e hw hd (xs := List.replicate m z0) (inner := (madeCells z.cells (m * d.sz)).toList) (okp := okp) (ok := ok) ?_ (reps_made hz hs0 hzero m) hok hfresh HB hbase (by simp; omega) h
  simp [execOp, ho, hx, hy, hr]
end Kd
end
section
variable {P : Program} {tmps : Array Value} {w : World}
end
namespace Kd
section
variable {P : Program} {α : Type}
end
section
variable {P : Program} {ops : Array Oper} {rest : List Oper} {o : Oper} {a : Act} {Q : Exit → Act → World → Prop} {Kc : Act → World → Prop} {α : Type}
end
end Kd
end Go.Proofs.YtbkbganflnemeaaW.PrintWords
end

section
namespace Go.Proofs.YtbkbganflnemeaaW.PrintLast
section
variable {P : Program} {ops : Array Oper} {Q : Exit → Act → World → Prop} {md : Region.Mode} {S : World → Prop} {ds : List Nat}
def Region.reachB (md : Region.Mode) (ops : Array Oper) (i : Nat) : Nat → Nat → Bool
  | 0, _ => false
  | fuel + 1, d => match ops[d]? with
    | some o => o.after.any fun e => Region.binds md e && (e.on == i || Region.reachB md ops i fuel e.on)
    | none => false
def Region.closedB (md : Region.Mode) (ops : Array Oper) (listed : Array Bool) : Bool :=
  (List.range ops.size).all fun j => !listed.getD j false || match ops[j]? with
    | some o => o.after.all fun e => !Region.binds md e || listed.getD e.on false
    | none => true
def Region.lastB (md : Region.Mode) (ops : Array Oper) (listed : Array Bool) (ds : List Nat) (i : Nat) : Bool :=
 ds.all fun d => listed.getD d true || Region.reachB md ops i ops.size d
def ListedClosed (md : Region.Mode) (ops : Array Oper) (listed : Array Bool) : Prop :=
 ∀ j oj, ops[j]? = some oj → listed.getD j false = true → ∀ e ∈ oj.after, Region.binds md e = true → listed.getD e.on false = true
theorem Region.closedB_spec {listed : Array Bool} (h : Region.closedB md ops listed = true) : ListedClosed md ops listed := by
 intro j oj hj hl e he hb
 have hlt : j < ops.size := (Array.getElem?_eq_some_iff.1 hj).1
 have h1 := List.all_eq_true.1 h j (List.mem_range.2 hlt)
 simp only [hl, hj, Bool.not_true, Bool.false_or] at h1
 have h2 := Array.all_eq_true_iff_forall_mem.1 h1 e he
 simpa [hb] using h2
theorem ListedClosed.set {listed : Array Bool} {i : Nat} (h : ListedClosed md ops listed) (hi : i ∈ Region.ready md ops listed) : ListedClosed md ops (listed.setIfInBounds i true) := by
 obtain ⟨_, oi, hoi, hall⟩ := mem_ready.1 hi
 intro j oj hj hl e he hb
 by_cases hij : i = j
 ·subst hij
  have : oj = oi := Option.some.inj (hj.symm.trans hoi)
  subst this
  exact getD_set_true (hall e he hb)
 ·rw [getD_set_ne false hij] at hl
  exact getD_set_true (h j oj hj hl e he hb)
theorem Region.reach_listed {listed : Array Bool} {i : Nat} (hc : ListedClosed md ops listed) : ∀ (fuel d : Nat), Region.reachB md ops i fuel d = true → listed.getD d false = true → listed.getD i false = true
  | 0, _, h, _ => by simp [Region.reachB] at h
  | fuel + 1, d, h, hl => by
    unfold Region.reachB at h
    cases ho : ops[d]? with
    | none => rw [ho] at h; simp at h
    | some o =>
      rw [ho] at h
      obtain ⟨e, he, h1⟩ := Array.any_eq_true'.1 h
      simp only [Bool.and_eq_true, Bool.or_eq_true, beq_iff_eq] at h1
      have hle := hc d o ho hl e he h1.1
      rcases h1.2 with h2 | h2
      · rw [← h2]; exact hle
      · exact Region.reach_listed hc fuel e.on h2 hle
theorem Region.reach_not_ready {listed : Array Bool} {i d fuel : Nat} (hc : ListedClosed md ops listed) (hr : Region.reachB md ops i fuel d = true) (hun : listed.getD i true = false) : d ∉ Region.ready md ops listed := by
  intro hd
  obtain ⟨_, o, ho, hall⟩ := mem_ready.1 hd
  have hi : listed.getD i false = true := by
    cases fuel with
    | zero => simp [Region.reachB] at hr
    | succ n =>
      unfold Region.reachB at hr
      rw [ho] at hr
      obtain ⟨e, he, h1⟩ := Array.any_eq_true'.1 hr
      simp only [Bool.and_eq_true, Bool.or_eq_true, beq_iff_eq] at h1
      have hle := hall e he h1.1
      rcases h1.2 with h2 | h2
      · rw [← h2]; exact hle
      · exact Region.reach_listed hc n e.on h2 hle
  rcases Nat.lt_or_ge i listed.size with h' | h'
  · simp [h'] at hun hi
    rw [hun] at hi
    cases hi
  · simp [Array.getElem?_eq_none h'] at hun
def wpAnyLast (P : Program) (md : Region.Mode) (ops : Array Oper) (Q : Exit → Act → World → Prop) (S : World → Prop) (ds : List Nat) : Nat → Array Bool → Act → World → Prop
  | 0, listed, a, w => Region.ready md ops listed = [] ∧ Q .normal a w
  | fuel + 1, listed, a, w =>
    (Region.ready md ops listed = [] → Q .normal a w) ∧
    ∀ i ∈ Region.ready md ops listed, wpOp P ops Q i (fun a' w' => (i ∉ ds → S w → S w') ∧ wpAnyLast P md ops Q S ds fuel (listed.setIfInBounds i true) a' w') a w
theorem wpAny_of_last : ∀ (fuel : Nat) (listed : Array Bool) (a : Act) (w : World), wpAnyLast P md ops Q S ds fuel listed a w → wpAny P md ops Q fuel listed a w
 | 0, _, _, _, h => h
 | fuel + 1, _, _, _, h => ⟨h.1, fun i hi => wpOp_mono (fun a' w' h' => wpAny_of_last fuel _ a' w' h'.2) (h.2 i hi)⟩
theorem wpAnyLast_first {i : Nat} {oi : Oper} {v : Value} (hi : ops[i]? = some oi) (hsel : ∀ (j : Nat) (o : Oper) cs b, ops[j]? = some o → o.op ≠ .select cs b)
    (hQ : ∀ c a w, Q (.panic c) (a.put oi.dst v) w → Q (.panic c) a w) (n : Nat) :
    ∀ (fuel : Nat) (listed : Array Bool) (a : Act) (w : World),
      (∀ j oj, ops[j]? = some oj → j ≠ i → listed.getD j true = false → (∀ e ∈ oj.after, Region.binds md e = true → e.on ≠ i) → oi.apart ops oj = true) →
      ListedClosed md ops listed → (∀ d ∈ ds, listed.getD d true = false → Region.reachB md ops i n d = true) →
      i ∈ Region.ready md ops listed → YieldsIf P ops S oi v a → S w →
      wpAnyLast P md ops Q S ds fuel (listed.setIfInBounds i true) (a.put oi.dst v) w → wpAnyLast P md ops Q S ds (fuel + 1) listed a w := by
  intro fuel
  induction fuel with
  | zero =>
    intro listed a w _ _ _ hr hy hS H
    refine ⟨fun h => (by rw [h] at hr; cases hr), fun j hj => ?_⟩
    by_cases hji : j = i
    · subst hji; exact hy.wpOp hi hS ⟨fun _ h => h, H⟩
    · have := ready_mono hj hji
      rw [H.1] at this
      cases this
  | succ fuel ih =>
    intro listed a w hfree hc hd hr hy hS H
    refine ⟨fun h => (by rw [h] at hr; cases hr), fun j hj => ?_⟩
    by_cases hji : j = i
    · subst hji; exact hy.wpOp hi hS ⟨fun _ h => h, H⟩
    · have h1 := H.2 j (ready_mono hj hji)
      obtain ⟨hjun, oj, hoj, hall⟩ := mem_ready.1 hj
      have hiun := (mem_ready.1 hr).1
      have hnot : ∀ e ∈ oj.after, Region.binds md e = true → e.on ≠ i := fun e he hb heq => by
        have h1 := hall e he hb
        rw [heq] at h1
        rcases Nat.lt_or_ge i listed.size with h' | h'
        · simp [h'] at hiun h1; rw [hiun] at h1; cases h1
        · simp [Array.getElem?_eq_none h'] at h1
      have hjd : j ∉ ds := fun hm => Region.reach_not_ready hc (hd j hm hjun) hiun hj
      have h2 := wpOp_putIf hoj (hfree j oj hoj hji hjun hnot) (fun cs b => hsel i oi cs b hi) (fun cs b => hsel j oj cs b hoj) hQ hy h1
      have hfree' : ∀ k ok, ops[k]? = some ok → k ≠ i → (listed.setIfInBounds j true).getD k true = false →
          (∀ e ∈ ok.after, Region.binds md e = true → e.on ≠ i) → oi.apart ops ok = true := fun k ok hk hki hun hno => by
        refine hfree k ok hk hki ?_ hno
        by_cases hjk : j = k
        · subst hjk; exact hjun
        · rw [getD_set_ne true hjk] at hun; exact hun
      have hd' : ∀ d ∈ ds, (listed.setIfInBounds j true).getD d true = false → Region.reachB md ops i n d = true := fun d hm hun => by
        refine hd d hm ?_
        by_cases hjk : j = d
        · subst hjk; exact hjun
        · rw [getD_set_ne true hjk] at hun; exact hun
      refine wpOp_mono (fun a' w' h3 => ⟨h3.2.1, ih (listed.setIfInBounds j true) a' w' hfree' (hc.set hj) hd' (ready_mono hr (Ne.symm hji)) h3.1 (h3.2.1 hjd hS) ?_⟩) h2
      rw [Array.setIfInBounds_comm _ _ hji]
      exact h3.2.2
theorem wpAnyLast_any {i : Nat} {oi : Oper} {v : Value} (hi : ops[i]? = some oi) (hsel : ∀ (j : Nat) (o : Oper) cs b, ops[j]? = some o → o.op ≠ .select cs b)
    (hQ : ∀ c a w, Q (.panic c) (a.put oi.dst v) w → Q (.panic c) a w) :
    ∀ (fuel : Nat) (listed : Array Bool) (a : Act) (w : World),
      (∀ j oj, ops[j]? = some oj → j ≠ i → listed.getD j true = false → (∀ e ∈ oj.after, Region.binds md e = true → e.on ≠ i) → oi.apart ops oj = true) →
      i ∈ Region.ready md ops listed → Yields P ops oi v a →
      wpAnyLast P md ops Q S ds fuel (listed.setIfInBounds i true) (a.put oi.dst v) w → wpAnyLast P md ops Q S ds (fuel + 1) listed a w := by
  intro fuel
  induction fuel with
  | zero =>
    intro listed a w _ hr hy H
    refine ⟨fun h => (by rw [h] at hr; cases hr), fun j hj => ?_⟩
    by_cases hji : j = i
    · subst hji; exact (hy.yieldsIf (S := fun _ => True)).wpOp hi trivial ⟨fun _ h => h, H⟩
    · have := ready_mono hj hji
      rw [H.1] at this
      cases this
  | succ fuel ih =>
    intro listed a w hfree hr hy H
    refine ⟨fun h => (by rw [h] at hr; cases hr), fun j hj => ?_⟩
    by_cases hji : j = i
    · subst hji; exact (hy.yieldsIf (S := fun _ => True)).wpOp hi trivial ⟨fun _ h => h, H⟩
    · have h1 := H.2 j (ready_mono hj hji)
      obtain ⟨hjun, oj, hoj, hall⟩ := mem_ready.1 hj
      have hiun := (mem_ready.1 hr).1
      have hnot : ∀ e ∈ oj.after, Region.binds md e = true → e.on ≠ i := fun e he hb heq => by
        have h1 := hall e he hb
        rw [heq] at h1
        rcases Nat.lt_or_ge i listed.size with h' | h'
        · simp [h'] at hiun h1; rw [hiun] at h1; cases h1
        · simp [Array.getElem?_eq_none h'] at h1
      have h2 := wpOp_put hoj (hfree j oj hoj hji hjun hnot) (fun cs b => hsel i oi cs b hi) (fun cs b => hsel j oj cs b hoj) hQ hy h1
      have hfree' : ∀ k ok, ops[k]? = some ok → k ≠ i → (listed.setIfInBounds j true).getD k true = false →
          (∀ e ∈ ok.after, Region.binds md e = true → e.on ≠ i) → oi.apart ops ok = true := fun k ok hk hki hun hno => by
        refine hfree k ok hk hki ?_ hno
        by_cases hjk : j = k
        · subst hjk; exact hjun
        · rw [getD_set_ne true hjk] at hun; exact hun
      refine wpOp_mono (fun a' w' h3 => ⟨h3.2.1, ih (listed.setIfInBounds j true) a' w' hfree' (ready_mono hr (Ne.symm hji)) h3.1 ?_⟩) h2
      rw [Array.setIfInBounds_comm _ _ hji]
      exact h3.2.2
theorem wpAnyLast_take {i : Nat} {oi : Oper} {v : Value} {fuel : Nat} {listed : Array Bool} {a : Act} {w : World} (hi : ops[i]? = some oi)
  (hs : Region.noSelect ops = true) (hf : Region.free md ops listed i = true) (hr : (Region.ready md ops listed).contains i = true)
  (hc : Region.closedB md ops listed = true) (hl : Region.lastB md ops listed ds i = true)
  (hQ : ∀ c a w, Q (.panic c) (a.put oi.dst v) w → Q (.panic c) a w) (hy : YieldsIf P ops S oi v a) (hS : S w)
  (h : wpAnyLast P md ops Q S ds fuel (listed.setIfInBounds i true) (a.put oi.dst v) w) : wpAnyLast P md ops Q S ds (fuel + 1) listed a w :=
 wpAnyLast_first hi (Region.noSelect_spec hs) hQ ops.size fuel listed a w (Region.free_spec hi hf) (Region.closedB_spec hc)
  (fun d hm hun => by have := List.all_eq_true.1 hl d hm; rw [hun] at this; simpa using this) (by simpa using hr) hy hS h
theorem wpAnyLast_all {rs : List Nat} {fuel : Nat} {listed : Array Bool} {a : Act} {w : World} (hr : Region.ready md ops listed = rs) (hne : rs ≠ [])
  (h : ∀ i ∈ rs, wpOp P ops Q i (fun a' w' => (i ∉ ds → S w → S w') ∧ wpAnyLast P md ops Q S ds fuel (listed.setIfInBounds i true) a' w') a w) : wpAnyLast P md ops Q S ds (fuel + 1) listed a w :=
 ⟨fun h0 => absurd (hr ▸ h0) hne, hr ▸ h⟩
theorem wpAnyLast_done {listed : Array Bool} {a : Act} {w : World} (hr : Region.ready md ops listed = []) (h : Q .normal a w) :
  ∀ fuel, wpAnyLast P md ops Q S ds fuel listed a w
 | 0 => ⟨hr, h⟩
 | _ + 1 => ⟨fun _ => h, by rw [hr]; simp⟩
theorem wp_region_last {id : Nat} {a : Act} {w : World} (hm : P.follows .mixedOrders = true)
  (h : wpAnyLast P .any ops Q S ds ops.size (Array.replicate ops.size false) a { w with drawn := w.drawn + 1 }) : (Code.region id ops true).wp P Q a w :=
 wp_region_any hm (wpAny_of_last _ _ _ _ h)
end
section
variable {P : Program} {ops : Array Oper} {Q : Exit → Act → World → Prop} {md : Region.Mode} {S : World → Prop} {ds : List Nat}
def AllReadyL (P : Program) (md : Region.Mode) (ops : Array Oper) (Q : Exit → Act → World → Prop) (S : World → Prop) (ds : List Nat) (fuel : Nat) (listed : Array Bool) (a : Act) (w : World) (rs : List Nat) : Prop :=
 ∀ i ∈ rs, wpOp P ops Q i (fun a' w' => (i ∉ ds → S w → S w') ∧ wpAnyLast P md ops Q S ds fuel (listed.setIfInBounds i true) a' w') a w
theorem AllReadyL.nil {fuel : Nat} {listed : Array Bool} {a : Act} {w : World} : AllReadyL P md ops Q S ds fuel listed a w [] := fun _ h => by cases h
theorem AllReadyL.cons {fuel : Nat} {listed : Array Bool} {a : Act} {w : World} {i : Nat} {o : Oper} {rs : List Nat} (ho : ops[i]? = some o) (hd : i ∉ ds)
  (h : ∀ K' : Act → World → Prop, Shut (∀ a w, S w → (S w → wpAnyLast P md ops Q S ds fuel (listed.setIfInBounds i true) a w) → K' a w) → if Region.wanted o (yielded ops a.tmps) = true then Oper.wp P o a w K' Q else K' (a.put o.dst undef) w)
  (hs : AllReadyL P md ops Q S ds fuel listed a w rs) : AllReadyL P md ops Q S ds fuel listed a w (i :: rs) := fun j hj => by
 rcases List.mem_cons.1 hj with rfl | hj
 ·exact wpOp_step ho (fun K' hK => h K' (fun a w hS hW => hK a w ⟨fun _ _ => hS, hW hS⟩))
 ·exact hs j hj
theorem AllReadyL.cons_last {fuel : Nat} {listed : Array Bool} {a : Act} {w : World} {i : Nat} {o : Oper} {rs : List Nat} (ho : ops[i]? = some o) (hd : i ∈ ds)
  (h : ∀ K' : Act → World → Prop, Shut (∀ a w, wpAnyLast P md ops Q S ds fuel (listed.setIfInBounds i true) a w → K' a w) → if Region.wanted o (yielded ops a.tmps) = true then Oper.wp P o a w K' Q else K' (a.put o.dst undef) w)
  (hs : AllReadyL P md ops Q S ds fuel listed a w rs) : AllReadyL P md ops Q S ds fuel listed a w (i :: rs) := fun j hj => by
 rcases List.mem_cons.1 hj with rfl | hj
 ·exact wpOp_step ho (fun K' hK => h K' (fun a w hW => hK a w ⟨fun hn => absurd hd hn, hW⟩))
 ·exact hs j hj
theorem wpAnyLast_ready {rs : List Nat} {fuel : Nat} {listed : Array Bool} {a : Act} {w : World} (hr : Region.ready md ops listed = rs) (hne : rs ≠ [])
  (h : AllReadyL P md ops Q S ds fuel listed a w rs) : wpAnyLast P md ops Q S ds (fuel + 1) listed a w := wpAnyLast_all hr hne h
theorem start_ {id n : Nat} {a : Act} {w : World} (l : Array Bool) (hm : P.follows .mixedOrders = true) (hn : ops.size = n) (hl : Array.replicate n false = l) (hS : S w.drew)
  (h : S w.drew → wpAnyLast P .any ops Q S ds n l a w.drew) : (Code.region id ops true).wp P Q a w := by
 subst hn
 subst hl
 exact wp_region_last hm (h hS)
def takeB (md : Region.Mode) (ops : Array Oper) (ds : List Nat) (l l' : Array Bool) (i : Nat) : Bool :=
 Region.noSelect ops && Region.free md ops l i && (Region.ready md ops l).contains i && Region.closedB md ops l && Region.lastB md ops l ds i && (l.setIfInBounds i true == l')
theorem take_ {i : Nat} {N : Option Tmp} {oi : Oper} {v : Value} {fuel : Nat} {l : Array Bool} {a : Act} {w : World} (l' : Array Bool) (hi : ops[i]? = some oi) (hN : oi.dst = N) (hc : takeB md ops ds l l' i = true)
  (hQ : ∀ c a w, Q (.panic c) (a.put oi.dst v) w → Q (.panic c) a w) (hy : YieldsIf P ops S oi v a) (hS : S w) {a' : Act} (ha : a.put N v = a')
  (h : wpAnyLast P md ops Q S ds fuel l' a' w) : wpAnyLast P md ops Q S ds (fuel + 1) l a w := by
 subst ha
 subst hN
 simp only [takeB, Bool.and_eq_true, beq_iff_eq] at hc
 obtain ⟨⟨⟨⟨⟨h1, h2⟩, h3⟩, h4⟩, h5⟩, h6⟩ := hc
 subst h6
 exact wpAnyLast_take hi h1 h2 h3 h4 h5 hQ hy hS h
def anyB (md : Region.Mode) (ops : Array Oper) (l l' : Array Bool) (i : Nat) : Bool :=
 Region.noSelect ops && Region.free md ops l i && (Region.ready md ops l).contains i && (l.setIfInBounds i true == l')
theorem pure_ {i : Nat} {N : Option Tmp} {oi : Oper} {v : Value} {fuel : Nat} {l : Array Bool} {a : Act} {w : World} (l' : Array Bool) (hi : ops[i]? = some oi) (hN : oi.dst = N) (hc : anyB md ops l l' i = true)
  (hQ : ∀ c a w, Q (.panic c) (a.put oi.dst v) w → Q (.panic c) a w) (hy : Yields P ops oi v a) {a' : Act} (ha : a.put N v = a')
  (h : wpAnyLast P md ops Q S ds fuel l' a' w) : wpAnyLast P md ops Q S ds (fuel + 1) l a w := by
 subst ha
 subst hN
 simp only [anyB, Bool.and_eq_true, beq_iff_eq] at hc
 obtain ⟨⟨⟨h1, h2⟩, h3⟩, h6⟩ := hc
 subst h6
 exact wpAnyLast_any hi (Region.noSelect_spec h1) hQ fuel l a w (Region.free_spec hi h2) (by simpa using h3) hy h
def readyB (md : Region.Mode) (ops : Array Oper) (l l' : Array Bool) (i : Nat) : Bool := (Region.ready md ops l == [i]) && (l.setIfInBounds i true == l')
theorem one_ {i : Nat} {N : Option Tmp} {oi : Oper} {fuel : Nat} {l : Array Bool} {a : Act} {w : World} (l' : Array Bool) (hi : ops[i]? = some oi) (hN : oi.dst = N) (hc : readyB md ops l l' i = true) (hd : i ∉ ds)
  (h : ∀ K : Act → World → Prop, Shut (∀ a' w', S w' → (S w' → wpAnyLast P md ops Q S ds fuel l' a' w') → K a' w') → if Region.wanted oi (yielded ops a.tmps) = true then Oper.wp P oi a w K Q else K (a.put N undef) w) :
  wpAnyLast P md ops Q S ds (fuel + 1) l a w := by
 subst hN
 simp only [readyB, Bool.and_eq_true, beq_iff_eq] at hc
 obtain ⟨h1, h2⟩ := hc
 subst h2
 exact wpAnyLast_ready h1 (by simp) (AllReadyL.cons hi hd (fun K hK => h K hK) AllReadyL.nil)
theorem last_ {i : Nat} {N : Option Tmp} {oi : Oper} {fuel : Nat} {l : Array Bool} {a : Act} {w : World} (l' : Array Bool) (hi : ops[i]? = some oi) (hN : oi.dst = N) (hc : readyB md ops l l' i = true) (hd : i ∈ ds)
  (h : ∀ K : Act → World → Prop, Shut (∀ a' w', wpAnyLast P md ops Q S ds fuel l' a' w' → K a' w') → if Region.wanted oi (yielded ops a.tmps) = true then Oper.wp P oi a w K Q else K (a.put N undef) w) :
  wpAnyLast P md ops Q S ds (fuel + 1) l a w := by
 subst hN
 simp only [readyB, Bool.and_eq_true, beq_iff_eq] at hc
 obtain ⟨h1, h2⟩ := hc
 subst h2
 exact wpAnyLast_ready h1 (by simp) (AllReadyL.cons_last hi hd (fun K hK => h K hK) AllReadyL.nil)
theorem done_ {l : Array Bool} {a : Act} {w : World} {n : Nat} (hr : (Region.ready md ops l == []) = true) (h : Q .normal a w) : wpAnyLast P md ops Q S ds n l a w := wpAnyLast_done (by simpa using hr) h n
theorem two_ {i j : Nat} {Ni Nj : Option Tmp} {oi oj : Oper} {fuel : Nat} {l : Array Bool} {a : Act} {w : World} (li lj : Array Bool) (hi : ops[i]? = some oi) (hj : ops[j]? = some oj) (hNi : oi.dst = Ni) (hNj : oj.dst = Nj)
  (hc : (Region.ready md ops l == [i, j] && l.setIfInBounds i true == li && l.setIfInBounds j true == lj) = true) (hdi : i ∉ ds) (hdj : j ∉ ds)
  (h1 : ∀ K : Act → World → Prop, Shut (∀ a' w', S w' → (S w' → wpAnyLast P md ops Q S ds fuel li a' w') → K a' w') → if Region.wanted oi (yielded ops a.tmps) = true then Oper.wp P oi a w K Q else K (a.put Ni undef) w)
  (h2 : ∀ K : Act → World → Prop, Shut (∀ a' w', S w' → (S w' → wpAnyLast P md ops Q S ds fuel lj a' w') → K a' w') → if Region.wanted oj (yielded ops a.tmps) = true then Oper.wp P oj a w K Q else K (a.put Nj undef) w) :
  wpAnyLast P md ops Q S ds (fuel + 1) l a w := by
 subst hNi
 subst hNj
 simp only [Bool.and_eq_true, beq_iff_eq] at hc
 obtain ⟨⟨h3, h4⟩, h5⟩ := hc
 subst h4
 subst h5
 exact wpAnyLast_ready h3 (by simp) (AllReadyL.cons hi hdi (fun K hK => h1 K hK) (AllReadyL.cons hj hdj (fun K hK => h2 K hK) AllReadyL.nil))
def putAll : Act → List (Tmp × Value) → Act
 | a, [] => a
 | a, (n, v) :: r => putAll (a.put (some n) v) r
theorem join_ {σ : Type} {fuel : Nat} {l : Array Bool} {a : Act} {w : World} (fuel' : Nat) (l' : Array Bool) (ns : σ → List (Tmp × Value)) (F : σ → World → Prop)
  (hcont : ∀ s w', F s w' → wpAnyLast P md ops Q S ds fuel' l' (putAll a (ns s)) w')
  (h : (∀ s w', F s w' → wpAnyLast P md ops Q S ds fuel' l' (putAll a (ns s)) w') → wpAnyLast P md ops Q S ds fuel l a w) : wpAnyLast P md ops Q S ds fuel l a w := h hcont
theorem norm_ {fuel : Nat} {l : Array Bool} {a a' : Act} {w : World} (ha : a = a') (h : wpAnyLast P md ops Q S ds fuel l a' w) : wpAnyLast P md ops Q S ds fuel l a w := by
 subst ha
 exact h
theorem enters_ {f : FuncId} {fn : Func} (hf : P.funcs[f]? = some fn) (hname : (fn.name == "runtime.NumGoroutine") = false) (hb : fn.body.isSome = true) (args : Array Value) (w : World) : (callFunc f args).run P w = .ok (.enter f args) w := by
 have h1 : fn.name ≠ "runtime.NumGoroutine" := by simpa using hname
 obtain ⟨c, hc⟩ := Option.isSome_iff_exists.1 hb
 simp [callFunc, hf, h1, hc]
theorem goesL_ {rest : List Oper} {oi : Oper} {a : Act} {w : World} (N : Option Tmp) (hd : oi.dst = N) (hg : oi.guard = none) {f : FuncId} {fn : Func} {as_ : Array Operand} {ts : Array TypeId} (hf : P.funcs[f]? = some fn) (hname : (fn.name == "runtime.NumGoroutine") = false) (hb : fn.body.isSome = true) (args : Array Value)
  (hop : oi.op = .call { callee := .value (.func f), args := as_, argTypes := ts }) (hargs : as_.map a.eval = args)
  (h : Calls P f args w fun e w' => ∃ v, e = .returned v ∧ wpList P ops Q rest (a.put N v) w') : wpList P ops Q (oi :: rest) a w := by
 refine wpList_plain hg fun K hK => ?_
 have he := enters_ hf hname hb args w
 have hrun : (execOp a.eval oi).run P w = .ok (.enter f args) w := by
  unfold execOp
  simp [hop, resolve, Deferred.ofValue, invoke, Act.eval, hargs, he]
 unfold Oper.wp
 rw [hrun, Oper.upon_enter]
 refine h.mono fun e w'' hh => ?_
 obtain ⟨v, rfl, hk⟩ := hh
 subst hd
 exact hK _ _ hk
theorem value_ {oi : Oper} {N : Option Tmp} {a : Act} {w w1 : World} {v : Value} {K : Act → World → Prop} (hw : Region.wanted oi (yielded ops a.tmps) = true) (hN : oi.dst = N) (hrun : (execOp a.eval oi).run P w = .ok (.value v) w1)
  (h : K (a.put N v) w1) : if Region.wanted oi (yielded ops a.tmps) = true then Oper.wp P oi a w K Q else K (a.put N undef) w := by
 rw [if_pos hw]
 subst hN
 unfold Oper.wp
 rw [hrun]
 exact h
theorem skip_ {oi : Oper} {a : Act} {w w1 : World} {K : Act → World → Prop} (hw : Region.wanted oi (yielded ops a.tmps) = true) (hN : oi.dst = none) (hrun : (execOp a.eval oi).run P w = .ok .skip w1)
  (h : K a w1) : if Region.wanted oi (yielded ops a.tmps) = true then Oper.wp P oi a w K Q else K (a.put none undef) w := by
 rw [if_pos hw]
 unfold Oper.wp
 rw [hrun]
 show K (a.put oi.dst undef) w1
 rw [hN]
 exact h
theorem i64_w (n : Int) : IntKind.i64.wrap n = Go.RowKit.wrap64 n := by unfold Go.RowKit.wrap64; exact IntKind.wrap_i64 n
theorem i32_w (n : Int) : IntKind.i32.wrap n = Go.RowKit.wrap32 n := by unfold Go.RowKit.wrap32; exact IntKind.wrap_i32 n
end
end Go.Proofs.YtbkbganflnemeaaW.PrintLast
end

section
namespace Go.Proofs.YtbkbganflnemeaaW.PrintWords
open Go.RowKit
namespace Kd
def tag {α : Type} (f : Nat → Nat) (d : Kd α) : Kd (α × Nat) where
 sz := d.sz
 E := d.E
 K := fun w x cs => d.K w x.1 cs
 M := fun w base ok x cs => d.M w base (fun k => ok k ∧ f k = x.2) x.1 cs
 K_len := fun h => d.K_len h
 K_one := fun h => d.K_one h
 K_below := fun hb h => d.K_below hb h
 K_of_M := fun h => d.K_of_M h
 M_mono := fun hok h => d.M_mono (fun k hk => ⟨hok k hk.1, hk.2⟩) h
 M_bound := fun h => d.M_mono (fun _ hk => ⟨⟨hk.1.1, hk.2⟩, hk.1.2⟩) (d.M_bound h)
 M_move := fun hm h => d.M_move (fun k hk => hm k hk.1) h
 M_lower := fun hb h => d.M_lower hb h
def raw (sz : Nat) : Kd (List Value) where
 sz := sz
 E := []
 K := fun _ x cs => cs = x ∧ cs.length = sz ∧ ∀ u ∈ cs, u.oneCell' = true
 M := fun _ _ _ x cs => cs = x ∧ cs.length = sz ∧ ∀ u ∈ cs, u.oneCell' = true
 K_len := fun h => h.2.1
 K_one := fun h => h.2.2
 K_below := fun _ h => h
 K_of_M := fun h => h
 M_mono := fun _ h => h
 M_bound := fun h => h
 M_move := fun _ h => h
 M_lower := fun _ h => h
def S {α : Type} (d : Kd α) (e : Nat) (w : World) (base : Nat) (ok : Nat → Prop) (v : Value) (xs : List α) : Prop := ∃ f, (tag f d).R e w base ok v xs.zipIdx
section
variable {α β : Type} {d : Kd α} {d' : Kd β} {e e' : Nat} {w w1 W : World} {base b : Nat} {ok ok' okv oku : Nat → Prop} {u v : Value} {xs : List α} {ys : List β}
end
section
variable {α β : Type} {d : Kd α} {d' : Kd β} {e e' g : Nat} {w w1 W : World} {base b : Nat} {ok ok' okv oku : Nat → Prop} {u v : Value} {xs : List α} {ys : List β}
end
section
open Classical in
variable {P : Program} {ops : Array Oper} {rest : List Oper} {o : Oper} {a : Act} {Q : Exit → Act → World → Prop} {Kc : Act → World → Prop} {α : Type}
end
def gap {α : Type} (f : Nat → Nat) (d : Kd α) (i : Nat) (c : List Value) : Kd (α × Nat) where
 sz := d.sz
 E := d.E
 K := fun w x cs => (x.2 = i → cs = c ∧ cs.length = d.sz ∧ ∀ u ∈ cs, u.oneCell' = true) ∧ (x.2 ≠ i → d.K w x.1 cs)
 M := fun w base ok x cs => (x.2 = i → cs = c ∧ cs.length = d.sz ∧ ∀ u ∈ cs, u.oneCell' = true) ∧ (x.2 ≠ i → d.M w base (fun k => ok k ∧ f k = x.2) x.1 cs)
 K_len := fun {w x cs} h => by
  by_cases hx : x.2 = i
  ·exact (h.1 hx).2.1
  ·exact d.K_len (h.2 hx)
 K_one := fun {w x cs} h => by
  by_cases hx : x.2 = i
  ·exact (h.1 hx).2.2
  ·exact d.K_one (h.2 hx)
 K_below := fun hb h => ⟨h.1, fun hx => d.K_below hb (h.2 hx)⟩
 K_of_M := fun h => ⟨h.1, fun hx => d.K_of_M (h.2 hx)⟩
 M_mono := fun hok h => ⟨h.1, fun hx => d.M_mono (fun k hk => ⟨hok k hk.1, hk.2⟩) (h.2 hx)⟩
 M_bound := fun h => ⟨h.1, fun hx => d.M_mono (fun _ hk => ⟨⟨hk.1.1, hk.2⟩, hk.1.2⟩) (d.M_bound (h.2 hx))⟩
 M_move := fun hm h => ⟨h.1, fun hx => d.M_move (fun k hk => hm k hk.1) (h.2 hx)⟩
 M_lower := fun hb h => ⟨h.1, fun hx => d.M_lower hb (h.2 hx)⟩
def H {α : Type} (d : Kd α) (e : Nat) (w : World) (base : Nat) (ok : Nat → Prop) (v : Value) (xs : List α) (i : Int) (oki : Nat → Prop) (c : List Value) : Prop :=
 (∀ k, oki k → ok k) ∧ ∃ f, (gap f d i.toNat c).R e w base (fun k => ok k ∧ ¬ oki k) v xs.zipIdx
section
variable {α β : Type} {d : Kd α} {e e' g n cap : Nat} {w w1 W : World} {base : Nat} {ok ok' oki okp : Nat → Prop} {u v : Value} {xs : List α} {i : Int} {c : List Value}
open Classical in
end
section
variable {P : Program} {ops : Array Oper} {rest : List Oper} {o : Oper} {a : Act} {Q : Exit → Act → World → Prop} {α : Type}
end
end Kd
end Go.Proofs.YtbkbganflnemeaaW.PrintWords
end

section
namespace Go.Proofs.YtbkbganflnemeaaW.PrintWords
open Go.RowKit
def Foot (P : World → Prop) (W : World) (ok : Nat → Prop) : Prop := ∀ W' : World, (∀ k, ok k → k < W.heap.size → W'.heap[k]? = W.heap[k]?) → P W'
namespace Foot
variable {P Q : World → Prop} {W W1 : World} {ok ok' : Nat → Prop}
theorem mono (h : Foot P W ok) (hok : ∀ k, ok k → ok' k) : Foot P W ok' := fun W' hW => h W' (fun k hk hlt => hW k (hok k hk) hlt)
theorem bound (h : Foot P W ok) : Foot P W (fun k => ok k ∧ k < W.heap.size) := fun W' hW => h W' (fun k hk hlt => hW k ⟨hk, hlt⟩ hlt)
end Foot
namespace Kd
def F {α : Type} (d : Kd α) (W : World) (ok : Nat → Prop) (A : Option Addr) (n : Nat) (xs : List α) : Prop := Foot (fun W => d.C W A n xs) W ok
def FK {α : Type} (d : Kd α) (W : World) (ok : Nat → Prop) (x : α) (c : List Value) : Prop := Foot (fun W => d.K W x c) W ok
section
variable {α β : Type} {d : Kd α} {e base n n' cc g N : Nat} {ok ok' okp S : Nat → Prop} {w w0 w1 W W1 : World} {A A' : Option Addr} {u v v1 : Value} {xs : List α} {xs' : List β} {d' : Kd β} {x : α} {c : List Value}
end
end Kd
end Go.Proofs.YtbkbganflnemeaaW.PrintWords
end

section
namespace Go.Proofs.YtbkbganflnemeaaW.PrintWords
open Go.RowKit
namespace Kd
section
variable {α : Type} {d : Kd α} {e base n cc g : Nat} {ok ok' okp S : Nat → Prop} {w w1 W W1 : World} {A : Option Addr} {u v v1 : Value} {xs : List α} {x : α} {c : List Value}
def N {α : Type} (d : Kd α) (e : Nat) (w : World) (base : Nat) (ok : Nat → Prop) (v : Value) (xs : List α) : Prop :=
 (∀ k, v.ownBlock = some k → ok k) ∧ ∃ rows : List (List Value), rows.length = xs.length ∧ (raw d.sz).R e w base (fun k => some k = v.ownBlock) v rows ∧ ∀ (j : Nat) (x : α) (c : List Value), xs[j]? = some x → rows[j]? = some c → FK d w (fun k => ok k ∧ some k ≠ v.ownBlock) x c
end
end Kd
end Go.Proofs.YtbkbganflnemeaaW.PrintWords
end

section
namespace Go.Proofs.YtbkbganflnemeaaW.PrintMore
open Go.RowKit Go.Proofs.YtbkbganflnemeaaW.PrintWords
namespace Kd
open Go.Proofs.YtbkbganflnemeaaW.PrintWords.Kd
end Kd
namespace Kd
open Go.Proofs.YtbkbganflnemeaaW.PrintWords.Kd
section
variable {α : Type} {d : Kd α} {e base g N : Nat} {ok : Nat → Prop} {W w1 : World} {u v : Value} {xs : List α}
end
end Kd
theorem max2_int (k k' : IntKind) (x y : Int) : Builtin.max2 (.int k x) (.int k' y) = pure (.int k (if x < y then y else x)) := by simp only [Builtin.max2, gt_iff_lt]
theorem min2_int (k k' : IntKind) (x y : Int) : Builtin.min2 (.int k x) (.int k' y) = pure (.int k (if y < x then y else x)) := by simp only [Builtin.min2]
theorem max_two (ats : Array TypeId) (ty : TypeId) (a b : Value) : Builtin.max_ ats ty #[a, b] = (Builtin.max2 a b >>= fun s => pure s) := by simp only [Builtin.max_, List.foldlM_cons, List.foldlM_nil]
theorem min_two (ats : Array TypeId) (ty : TypeId) (a b : Value) : Builtin.min_ ats ty #[a, b] = (Builtin.min2 a b >>= fun s => pure s) := by simp only [Builtin.min_, List.foldlM_cons, List.foldlM_nil]
theorem max_three (ats : Array TypeId) (ty : TypeId) (a b c : Value) : Builtin.max_ ats ty #[a, b, c] = (Builtin.max2 a b >>= fun s => Builtin.max2 s c >>= fun s => pure s) := by simp only [Builtin.max_, List.foldlM_cons, List.foldlM_nil]
theorem min_three (ats : Array TypeId) (ty : TypeId) (a b c : Value) : Builtin.min_ ats ty #[a, b, c] = (Builtin.min2 a b >>= fun s => Builtin.min2 s c >>= fun s => pure s) := by simp only [Builtin.min_, List.foldlM_cons, List.foldlM_nil]
theorem max_four (ats : Array TypeId) (ty : TypeId) (a b c d : Value) : Builtin.max_ ats ty #[a, b, c, d] = (Builtin.max2 a b >>= fun s => Builtin.max2 s c >>= fun s => Builtin.max2 s d >>= fun s => pure s) := by simp only [Builtin.max_, List.foldlM_cons, List.foldlM_nil]
theorem min_four (ats : Array TypeId) (ty : TypeId) (a b c d : Value) : Builtin.min_ ats ty #[a, b, c, d] = (Builtin.min2 a b >>= fun s => Builtin.min2 s c >>= fun s => Builtin.min2 s d >>= fun s => pure s) := by simp only [Builtin.min_, List.foldlM_cons, List.foldlM_nil]
end Go.Proofs.YtbkbganflnemeaaW.PrintMore
namespace Go.Proofs.YtbkbganflnemeaaW.PrintWords
open Go.RowKit
section
variable {P : Program} {ops : Array Oper} {rest : List Oper} {o : Oper} {a : Act} {Q : Exit → Act → World → Prop} {W : World}
theorem gate_callee {f : FuncId} {as_ : Array Operand} {ts : Array TypeId} (_ho : o.op = .call { callee := .value (.func f), args := as_, argTypes := ts }) (h : wpList P ops Q (o :: rest) a W) : wpList P ops Q (o :: rest) a W := h
end
namespace Kd
section
variable {α : Type} {d : Kd α} {e base : Nat} {ok : Nat → Prop} {W w1 : World} {v : Value} {xs : List α}
end
section
variable {α : Type} {d : Kd α} {e base g n cap : Nat} {ok oki okp : Nat → Prop} {W : World} {xs : List α} {i : Int} {c : List Value}
end
section
variable {α : Type} {d : Kd α} {e base b b' g N : Nat} {ok ok1 : Nat → Prop} {W W2 w1 : World} {u v : Value} {xs ys : List α} {S : Nat → Prop}
end
end Kd
end Go.Proofs.YtbkbganflnemeaaW.PrintWords
namespace Go.Proofs.YtbkbganflnemeaaW.PrintWords
open Go.RowKit
namespace Kd
section
variable {α β : Type} {d : Kd α} {e base base' n m c g N' lo hi : Nat} {ok ok' S : Nat → Prop} {w W w1 : World} {A : Option Addr} {ad : Addr} {u v v1 : Value} {xs : List α}
end
end Kd
end Go.Proofs.YtbkbganflnemeaaW.PrintWords
end

section
namespace Go.Proofs.Ytbkbganflnemeaa.Pr
open Go.RowKit Go.Proofs.YtbkbganflnemeaaW.PrintWords Go.Proofs.YtbkbganflnemeaaW.PrintLast
theorem hb_ {p : Prop} (h : p := by repeat (first | (with_reducible first | exact HB.out | apply below_alloc | apply pw_below_drewN | apply below_drew1) | exact HB.out)) : p := h
theorem rz_ {p : Prop} (h : p := by first | rfl | (simp; done) | (simp [*]; done)) : p := h
theorem as_' {p : Prop} (h : p := by first | (with_reducible assumption) | assumption) : p := h
theorem ew_ {p : Prop} (h : p := by first | rfl | (simp [errW_none, errW_some] <;> rfl) | (simp [*, errW_none, errW_some] <;> rfl)) : p := h
theorem dz_ {p : Prop} (h : p := by repeat (first | exact Drawn0.refl _ | apply Drawn0.step)) : p := h
theorem ra_ {p q : Prop} (h : q) (f : q → p := by intro h_; (with_reducible repeat (first | apply Kd.R_alloc | apply Kd.R_drewN | apply Kd.R_drew)); exact h_) : p := f h
theorem pu_ {p : Prop} (h : p := by first | (simp only [putAll, Act.put, List.setIfInBounds_toArray, List.set_cons_zero, List.set_cons_succ]; done) | (simp only [putAll, Act.put, List.setIfInBounds_toArray, List.set_cons_zero, List.set_cons_succ]; rfl)) : p := h
theorem sa_ {p : Prop} (h : p := by (simp only [Act.put, List.setIfInBounds_toArray, List.set_cons_zero, List.set_cons_succ, i64_w, i32_w]; rfl)) : p := h
theorem sb_ {p : Prop} (h : p := by (simp only [putAll, Act.put, List.setIfInBounds_toArray, List.set_cons_zero, List.set_cons_succ]; rfl)) : p := h
theorem ca_ {p q : Prop} (h : q) (f : q → p := by intro h_; repeat (first | exact h_ | (with_reducible refine Kd.C_alloc ?_ _) | (with_reducible refine Kd.C_drewN ?_ _) | (with_reducible refine Kd.C_drew ?_))) : p := f h
theorem gl_ {P : Program} {ops : Array Oper} {Q : Exit → Act → World → Prop} {rest : List Oper} {oi : Oper} {a : Act} {w : World} (n : Nat) {f : FuncId} {fn : Func} {as_ : Array Operand} {ts : Array TypeId} (hf : P.funcs[f]? = some fn) (args : Array Value)
    (h : Calls P f args w fun e w' => ∃ v, e = .returned v ∧ wpList P ops Q rest (a.put (some n) v) w') (hd : oi.dst = some n := by rfl) (hg : oi.guard = none := by rfl) (hname : (fn.name == "runtime.NumGoroutine") = false := by kernel_rfl) (hb : fn.body.isSome = true := by rfl)
    (hop : oi.op = .call { callee := .value (.func f), args := as_, argTypes := ts } := by rfl) (hargs : as_.map a.eval = args := by ((try simp only [List.map_toArray, List.map_cons, List.map_nil]); first | done | rfl | (simp only [List.length_drop, List.length_take]; rfl))) : wpList P ops Q (oi :: rest) a w := goesL_ (some n) hd hg hf hname hb args hop hargs h
theorem pz_ {P : Program} {ops : Array Oper} {Q : Exit → Act → World → Prop} {md : Region.Mode} {S : World → Prop} {ds : List Nat} {oi : Oper} {v : Value} {fuel : Nat} {l : Array Bool} {a : Act} {w : World} {a' : Act} (i n : Nat)
    (hi : ops[i]? = some oi) (hN : oi.dst = some n) (hc : anyB md ops l (l.setIfInBounds i true) i = true)
    (h : wpAnyLast P md ops Q S ds fuel (l.setIfInBounds i true) a' w) (hQ : ∀ c a w, Q (.panic c) (a.put oi.dst v) w → Q (.panic c) a w := by exact fun _ _ _ h => h)
    (hy : Yields P ops oi v a := by (refine Or.inl ⟨by rfl, ?_⟩; intro w'; go_simp; with_reducible rfl))
    (ha : a.put (some n) v = a' := by (simp only [Act.put, List.setIfInBounds_toArray, List.set_cons_zero, List.set_cons_succ, i64_w, i32_w]; rfl)) : wpAnyLast P md ops Q S ds (fuel + 1) l a w := pure_ _ hi hN hc hQ hy ha h
end Go.Proofs.Ytbkbganflnemeaa.Pr
end
section
namespace Go.Proofs.Ytbkbganflnemeaa.Pr
open Go.ChangeShapes Go.WideShapes Go.ChangeAt Go.RowKit
section
variable {H : Type} {enc : TypeId × Value → H} {P : Program} {w : World} {base : Nat} {spare : Nat → Bool} {held : Bool}
theorem okWide_array {r : Reach} {b0 : Nat} {t n e : Nat} {v : Value} (ht : P.underlying t = some (.array n e)) (h : Value.okWide P w r b0 t v) : ∃ cs, v = .agg cs ∧ cs.size = P.cellsOf t := by
 simp only [Value.okWide, ht] at h
 obtain ⟨cs, h1, h2, _⟩ := h
 exact ⟨cs, h1, h2⟩
theorem open_two_str {r : Reach} {b0 : Nat} {t e : TypeId} {v : Value} {d : DataW H} {ps : List MemPlace} (ht : P.underlying t = some (.array 2 e)) (he : P.underlying e = some .string) (hc : P.cellsOf e = 1) (hct : P.cellsOf t = 2)
    (hval : Value.okWide P w r b0 t v) (hd : DataW.Trod enc P w base spare held t v d ps) :
    ∃ x y : ByteArray, v = .agg #[.string x, .string y] ∧ d = .agg [.lit (.string x.data.toList), .lit (.string y.data.toList)] ∧ ps = [] ∧ x.size ≤ maxLen ∧ y.size ≤ maxLen := by
  obtain ⟨cs, rfl, hsz⟩ := okWide_array ht hval
  obtain ⟨fuel, hf⟩ := hd
  rw [Value.cells] at hf
  obtain ⟨xs, m, _, hx, hl, hxs, hp⟩ := DataW.trod_array ht hf
  obtain ⟨l⟩ := cs
  rw [hct] at hl
  match l, hl with
  | [c0, c1], _ =>
    match xs, hxs with
    | [x0, x1], _ =>
      have h0 := hp 0 (by decide)
      have h1 := hp 1 (by decide)
      simp [hc] at h0 h1
      obtain ⟨n0, e0, rfl, w0⟩ := DataW.trod_string he h0
      obtain ⟨n1, e1, rfl, w1⟩ := DataW.trod_string he h1
      simp at e0 e1 hx
      subst e0 e1
      exact ⟨n0, n1, rfl, hx.1, hx.2, w0, w1⟩
theorem shut_two_str {t e : TypeId} {x y : ByteArray} (ht : P.underlying t = some (.array 2 e)) (he : P.underlying e = some .string) (hc : P.cellsOf e = 1) (hct : P.cellsOf t = 2) (hx : x.size ≤ maxLen) (hy : y.size ≤ maxLen) :
  DataW.Trod enc P w base spare held t (.agg #[.string x, .string y]) (.agg [.lit (.string x.data.toList), .lit (.string y.data.toList)]) [] := by
 refine ⟨2, ?_⟩
 rw [Value.cells]
 unfold DataW.trod
 simp [ht, hct, hc, DataW.trod, he, hx, hy, List.range, List.range.loop]
end
end Go.Proofs.Ytbkbganflnemeaa.Pr
end

section
namespace Go.Proofs
open Go.Shelf
def Try.lays170_ren : Go.Shelf.Ren := ⟨fun | 170 => 85 | n => n, fun | 70 => 113 | 3 => 3 | 0 => 0 | 72 => 115 | 37 => 68 | 5 => 5 | n => n, fun | n => n⟩
theorem Try.lays170 : Go.Proofs.Lays.n170 Try.prog Try.lays170_ren := {
 mixed := by kernel_rfl
 f170 := Try.func85.trans (congrArg some (by kernel_rfl))
 t0 := Try.underlying0
 a0 := Try.isAgg0
 z0 := Try.sizeOf0
 v0 := Try.zeroValue0
 t3 := Try.underlying3
 a3 := Try.isAgg3
 z3 := Try.sizeOf3
 v3 := Try.zeroValue3
 t37 := Try.underlying68
 a37 := Try.isAgg68
 z37 := Try.sizeOf68
 v37 := Try.zeroValue68
 t70 := Try.underlying113
 a70 := Try.isAgg113
 z70 := Try.sizeOf113
 v70 := Try.zeroValue113
 t72 := Try.underlying115
 a72 := Try.isAgg115
 z72 := Try.sizeOf115
 v72 := Try.zeroValue115 }
open Go.RowKit in
theorem Try.Builder_Len (B b : Nat) (bs : List Value) (w : World) (h : Lib.IsBuilder 115 5 B b bs w) :
  Calls Try.prog 85 #[.pointer (some ⟨b, 0, none⟩)] w fun e w' => e = .returned (.int .i64 bs.length) ∧ w' = w := Any.Builder_Len Try.lays170 B b bs w h
def Try.lays169_ren : Go.Shelf.Ren := ⟨fun | 169 => 86 | n => n, fun | 70 => 113 | 9 => 9 | 0 => 0 | 72 => 115 | 37 => 68 | 127 => 146 | 3 => 3 | 5 => 5 | n => n, fun | n => n⟩
theorem Try.lays169 : Go.Proofs.Lays.n169 Try.prog Try.lays169_ren := {
 mixed := by kernel_rfl
 f169 := Try.func86.trans (congrArg some (by kernel_rfl))
 t0 := Try.underlying0
 a0 := Try.isAgg0
 z0 := Try.sizeOf0
 v0 := Try.zeroValue0
 t3 := Try.underlying3
 a3 := Try.isAgg3
 z3 := Try.sizeOf3
 v3 := Try.zeroValue3
 t9 := Try.underlying9
 a9 := Try.isAgg9
 z9 := Try.sizeOf9
 v9 := Try.zeroValue9
 t37 := Try.underlying68
 a37 := Try.isAgg68
 z37 := Try.sizeOf68
 v37 := Try.zeroValue68
 t70 := Try.underlying113
 a70 := Try.isAgg113
 z70 := Try.sizeOf113
 v70 := Try.zeroValue113
 t72 := Try.underlying115
 a72 := Try.isAgg115
 z72 := Try.sizeOf115
 v72 := Try.zeroValue115
 t127 := Try.underlying146
 a127 := Try.isAgg146
 z127 := Try.sizeOf146
 v127 := Try.zeroValue146 }
theorem Try.Builder_Extra_169 : Builder.Extra Try.prog Try.lays169_ren := {
 sizeBuilder := by kernel_rfl
 liesBuilder := by kernel_rfl
 t5 := Try.underlying5
 a5 := Try.isAgg5
 z5 := Try.sizeOf5
 v5 := Try.zeroValue5
 infoByte := by kernel_rfl
 cellsByte := by kernel_rfl
 sizeByte := by kernel_rfl
 neB5 := by decide }
open Go.RowKit in
open Go.RowKit in
open Go.RowKit in
theorem Try.Builder_String_any (B b : Nat) (l : List UInt8) (w : World) (h : Lib.IsBuilder 115 5 B b (Lib.byteCells l) w) (hBw : B ≤ w.heap.size) :
  Calls Try.prog 86 #[.pointer (some ⟨b, 0, none⟩)] w fun e w' => e = .returned (.string ⟨l.toArray⟩) ∧ Below B w w' := Any.Builder_String_any Try.lays169 Try.Builder_Extra_169 B b l w h hBw
open Go.RowKit in
open Go.RowKit in
open Go.RowKit in
open Go.RowKit in
open Go.RowKit in
open Go.RowKit in
open Go.RowKit in
open Go.RowKit in
open Go.RowKit Go.Lib in
open Go.RowKit Go.Lib in
open Go.RowKit Go.Lib in
def Try.lays105_ren : Go.Shelf.Ren := ⟨fun | 105 => 51 | 212 => 81 | 99 => 82 | 165 => 83 | 166 => 84 | 170 => 85 | 169 => 86 | 263 => 115 | 264 => 116 | 206 => 117 | 240 => 118 | 241 => 119 | 276 => 143 | 277 => 144 | n => n, fun | 9 => 9 | 3 => 3 | 4 => 4 | 20 => 20 | 0 => 0 | 46 => 77 | 109 => 111 | 5 => 5 | 72 => 115 | 76 => 119 | 51 => 140 | 146 => 141 | 53 => 143 | 148 => 144 | 70 => 113 | 37 => 68 | 75 => 118 | 127 => 146 | 164 => 176 | 80 => 54 | n => n, fun | n => n⟩
theorem Try.lays105 : Go.Proofs.Lays.n105 Try.prog Try.lays105_ren := {
 mixed := by kernel_rfl
 f99 := Try.func82.trans (congrArg some (by kernel_rfl))
 f105 := Try.func51.trans (congrArg some (by kernel_rfl))
 f165 := Try.func83.trans (congrArg some (by kernel_rfl))
 f166 := Try.func84.trans (congrArg some (by kernel_rfl))
 f169 := Try.func86.trans (congrArg some (by kernel_rfl))
 f170 := Try.func85.trans (congrArg some (by kernel_rfl))
 f206 := Try.func117.trans (congrArg some (by kernel_rfl))
 f212 := Try.func81.trans (congrArg some (by kernel_rfl))
 f240 := Try.func118.trans (congrArg some (by kernel_rfl))
 f241 := Try.func119.trans (congrArg some (by kernel_rfl))
 f263 := Try.func115.trans (congrArg some (by kernel_rfl))
 f264 := Try.func116.trans (congrArg some (by kernel_rfl))
 f276 := Try.func143.trans (congrArg some (by kernel_rfl))
 f277 := Try.func144.trans (congrArg some (by kernel_rfl))
 t0 := Try.underlying0
 a0 := Try.isAgg0
 z0 := Try.sizeOf0
 v0 := Try.zeroValue0
 t3 := Try.underlying3
 a3 := Try.isAgg3
 z3 := Try.sizeOf3
 v3 := Try.zeroValue3
 t4 := Try.underlying4
 a4 := Try.isAgg4
 z4 := Try.sizeOf4
 v4 := Try.zeroValue4
 t5 := Try.underlying5
 a5 := Try.isAgg5
 z5 := Try.sizeOf5
 v5 := Try.zeroValue5
 t9 := Try.underlying9
 a9 := Try.isAgg9
 z9 := Try.sizeOf9
 v9 := Try.zeroValue9
 t20 := Try.underlying20
 a20 := Try.isAgg20
 z20 := Try.sizeOf20
 v20 := Try.zeroValue20
 t37 := Try.underlying68
 a37 := Try.isAgg68
 z37 := Try.sizeOf68
 v37 := Try.zeroValue68
 t46 := Try.underlying77
 a46 := Try.isAgg77
 z46 := Try.sizeOf77
 v46 := Try.zeroValue77
 t51 := Try.underlying140
 a51 := Try.isAgg140
 z51 := Try.sizeOf140
 v51 := Try.zeroValue140
 t53 := Try.underlying143
 a53 := Try.isAgg143
 z53 := Try.sizeOf143
 v53 := Try.zeroValue143
 t70 := Try.underlying113
 a70 := Try.isAgg113
 z70 := Try.sizeOf113
 v70 := Try.zeroValue113
 t72 := Try.underlying115
 a72 := Try.isAgg115
 z72 := Try.sizeOf115
 v72 := Try.zeroValue115
 t75 := Try.underlying118
 a75 := Try.isAgg118
 z75 := Try.sizeOf118
 v75 := Try.zeroValue118
 t76 := Try.underlying119
 a76 := Try.isAgg119
 z76 := Try.sizeOf119
 v76 := Try.zeroValue119
 t109 := Try.underlying111
 a109 := Try.isAgg111
 z109 := Try.sizeOf111
 v109 := Try.zeroValue111
 t127 := Try.underlying146
 a127 := Try.isAgg146
 z127 := Try.sizeOf146
 v127 := Try.zeroValue146
 t146 := Try.underlying141
 a146 := Try.isAgg141
 z146 := Try.sizeOf141
 v146 := Try.zeroValue141
 t148 := Try.underlying144
 a148 := Try.isAgg144
 z148 := Try.sizeOf144
 v148 := Try.zeroValue144
 t164 := Try.underlying176
 a164 := Try.isAgg176
 z164 := Try.sizeOf176
 v164 := Try.zeroValue176 }
theorem Try.Builder_Extra_105 : Builder.Extra Try.prog Try.lays105_ren := {
 sizeBuilder := by kernel_rfl
 liesBuilder := by kernel_rfl
 t5 := Try.underlying5
 a5 := Try.isAgg5
 z5 := Try.sizeOf5
 v5 := Try.zeroValue5
 infoByte := by kernel_rfl
 cellsByte := by kernel_rfl
 sizeByte := by kernel_rfl
 neB5 := by decide }
open Go.RowKit Go.Lib in
open Go.RowKit Go.Lib in
open Go.RowKit Go.Lib in
open Go.RowKit Go.Lib in
open Go.RowKit Go.Lib in
theorem Try.strings_Repeat (s : ByteArray) (c : Nat) (w : World) (hc : c ≤ 9223372036854775807) (hlen : s.size * c ≤ 140737488355328) :
  Calls Try.prog 51 #[.string s, .int .i64 c] w fun e w' => e = .returned (.string ⟨(Lib.repeatL s.data.toList c).toArray⟩) ∧ Below w.heap.size w w' := Any.strings_Repeat Try.lays105 Try.Builder_Extra_105 s c w hc hlen
theorem Try.lays240 : Go.Proofs.Lays.n240 Try.prog Try.lays105_ren := {
 mixed := Try.lays105.mixed
 f240 := Try.lays105.f240
 f276 := Try.lays105.f276
 t0 := Try.lays105.t0
 a0 := Try.lays105.a0
 z0 := Try.lays105.z0
 v0 := Try.lays105.v0
 t4 := Try.lays105.t4
 a4 := Try.lays105.a4
 z4 := Try.lays105.z4
 v4 := Try.lays105.v4
 t9 := Try.lays105.t9
 a9 := Try.lays105.a9
 z9 := Try.lays105.z9
 v9 := Try.lays105.v9
 t20 := Try.lays105.t20
 a20 := Try.lays105.a20
 z20 := Try.lays105.z20
 v20 := Try.lays105.v20
 t70 := Try.lays105.t70
 a70 := Try.lays105.a70
 z70 := Try.lays105.z70
 v70 := Try.lays105.v70
 t72 := Try.lays105.t72
 a72 := Try.lays105.a72
 z72 := Try.lays105.z72
 v72 := Try.lays105.v72
 t164 := Try.lays105.t164
 a164 := Try.lays105.a164
 z164 := Try.lays105.z164
 v164 := Try.lays105.v164 }
theorem Try.lays166 : Go.Proofs.Lays.n166 Try.prog Try.lays105_ren := {
 mixed := Try.lays105.mixed
 f166 := Try.lays105.f166
 f240 := Try.lays105.f240
 f276 := Try.lays105.f276
 t0 := Try.lays105.t0
 a0 := Try.lays105.a0
 z0 := Try.lays105.z0
 v0 := Try.lays105.v0
 t3 := Try.lays105.t3
 a3 := Try.lays105.a3
 z3 := Try.lays105.z3
 v3 := Try.lays105.v3
 t4 := Try.lays105.t4
 a4 := Try.lays105.a4
 z4 := Try.lays105.z4
 v4 := Try.lays105.v4
 t9 := Try.lays105.t9
 a9 := Try.lays105.a9
 z9 := Try.lays105.z9
 v9 := Try.lays105.v9
 t20 := Try.lays105.t20
 a20 := Try.lays105.a20
 z20 := Try.lays105.z20
 v20 := Try.lays105.v20
 t37 := Try.lays105.t37
 a37 := Try.lays105.a37
 z37 := Try.lays105.z37
 v37 := Try.lays105.v37
 t70 := Try.lays105.t70
 a70 := Try.lays105.a70
 z70 := Try.lays105.z70
 v70 := Try.lays105.v70
 t72 := Try.lays105.t72
 a72 := Try.lays105.a72
 z72 := Try.lays105.z72
 v72 := Try.lays105.v72
 t75 := Try.lays105.t75
 a75 := Try.lays105.a75
 z75 := Try.lays105.z75
 v75 := Try.lays105.v75
 t164 := Try.lays105.t164
 a164 := Try.lays105.a164
 z164 := Try.lays105.z164
 v164 := Try.lays105.v164 }
theorem Try.Builder_X72_240 : Builder.X72 Try.prog Try.lays105_ren := {
 sizeBuilder := by kernel_rfl
 liesBuilder := by kernel_rfl }
theorem Try.Builder_Extra_166 : Builder.Extra Try.prog Try.lays105_ren := {
 sizeBuilder := by kernel_rfl
 liesBuilder := by kernel_rfl
 t5 := Try.underlying5
 a5 := Try.isAgg5
 z5 := Try.sizeOf5
 v5 := Try.zeroValue5
 infoByte := by kernel_rfl
 cellsByte := by kernel_rfl
 sizeByte := by kernel_rfl
 neB5 := by decide }
open Go.RowKit Go.Lib in
theorem Try.Builder_WriteString (B b : Nat) (bs : List Value) (s : ByteArray) (w : World) (h : Lib.IsBuilder 115 5 B b bs w) (hlen : bs.length + s.size ≤ 140737488355328) (hBw : B ≤ w.heap.size) :
  Calls Try.prog 84 #[.pointer (some ⟨b, 0, none⟩), .string s] w fun e w' => e = .returned (.tuple #[.int .i64 s.size, .nilIface]) ∧ (Lib.BuilderAt 115 5 B b (.pointer (some ⟨b, 0, none⟩)) (bs ++ Lib.strCells s) w' ∧ Below B w w') := Any.Builder_WriteString Try.lays166 Try.Builder_Extra_166 B b bs s w h hlen hBw
end Go.Proofs
end

section
namespace Go.Proofs.Ytbkbganflnemeaa.Pr
open Go.RowKit Go.Proofs.YtbkbganflnemeaaW.PrintWords Go.Proofs.YtbkbganflnemeaaW.PrintLast
def bys (s : ByteArray) : List Nat := s.data.toList.map UInt8.toNat
def txt (l : List Nat) : ByteArray := ⟨(l.map fun n => UInt8.ofNat n).toArray⟩
theorem bys_length (s : ByteArray) : (bys s).length = s.size := by rw [bys, List.length_map, data_length]
theorem txt_size (l : List Nat) : (txt l).size = l.length := by simp [txt, ByteArray.size]
theorem bys_txt {l : List Nat} (h : ∀ n ∈ l, n < 256) : bys (txt l) = l := by
 unfold bys txt
 rw [List.toList_toArray, List.map_map]
 conv => rhs; rw [← List.map_id l]
 exact List.map_congr_left fun n hn => by simpa using h n hn
theorem str_nats (l : List Nat) : strOfNums (l.map fun (n : Nat) => (n : Int)) = txt l := by
 unfold strOfNums txt
 rw [List.map_map]
 rfl
theorem bys_extract (s : ByteArray) (i j : Nat) : bys (s.extract i j) = ((bys s).drop i).take (j - i) := by
 unfold bys
 rw [ByteArray.data_extract, Array.toList_extract, List.extract_eq_take_drop, List.map_take, List.map_drop]
theorem txt_append (a b : List Nat) : txt (a ++ b) = txt a ++ txt b := by
 apply ByteArray.ext
 simp [txt, ByteArray.data_append]
theorem bys_append (a b : ByteArray) : bys (a ++ b) = bys a ++ bys b := by
 simp [bys, ByteArray.data_append]
theorem txt_extract (l : List Nat) (i j : Nat) : (txt l).extract i j = txt ((l.drop i).take (j - i)) := by
 unfold txt
 apply ByteArray.ext
 simp [ByteArray.data_extract, List.map_take, List.map_drop]
theorem bys_lt' (s : ByteArray) : ∀ x ∈ bys s, x < 256 := by
 intro x hx
 unfold bys at hx
 rw [List.mem_map] at hx
 obtain ⟨c, _, rfl⟩ := hx
 exact c.toNat_lt
theorem bys_inj {x y : ByteArray} (h : bys x = bys y) : x = y := by
 apply ByteArray.ext
 apply Array.ext'
 exact (List.map_inj_right (fun a b h => UInt8.toNat_inj.1 h)).1 h
theorem txt_bys (s : ByteArray) : txt (bys s) = s := bys_inj (bys_txt (bys_lt' s))
end Go.Proofs.Ytbkbganflnemeaa.Pr
end

section
namespace Go.Proofs.Ytbkbganflnemeaa.Pr
open Go.RowKit Go.Proofs.YtbkbganflnemeaaW.PrintWords Go.Proofs.YtbkbganflnemeaaW.PrintLast Go.Proofs.YtbkbganflnemeaaW.PrintMore
attribute [local go_sem] max2_int min2_int max_two min_two max_three min_three max_four min_four
def errW : Option Int → Value
 | none => .nilIface
 | some c => .iface 0 (.int .i64 c)
theorem errW_none : errW none = .nilIface := rfl
theorem errW_some (c : Int) : errW (some c) = .iface 0 (.int .i64 c) := rfl
theorem info5 : (Try.prog.info? 5).map (fun i => (i.zero, i.size, i.bytes)) = some (some (.int .u8 0), 1, 1) := by kernel_rfl
end Go.Proofs.Ytbkbganflnemeaa.Pr
end

section
namespace Go.Proofs.Ytbkbganflnemeaa.Pr
open Go.RowKit Go.Deep Go.Proofs.YtbkbganflnemeaaW.PrintWords Go.Proofs.YtbkbganflnemeaaW.PrintLast Go.Proofs.YtbkbganflnemeaaW.PrintMore
set_option maxHeartbeats 1000000
section
variable {w w' w1 w2 : World} {g : Nat} {cs : Array Value} {t : TypeId} {z : Nat × Nat} {B : Nat} {mk bad : Bool} {L : List Nat}
theorem blk_thaw {fr : World} (h : fr.heap[g]? = some (.cells cs t (0, 0))) (i : Nat) : fr.frozen? ⟨g, i, none⟩ = false := by simp [World.frozen?, h]
end
section
open Go.RowKit Go.Deep Go.Proofs.YtbkbganflnemeaaW.PrintWords Go.Proofs.YtbkbganflnemeaaW.PrintLast Go.Proofs.YtbkbganflnemeaaW.PrintMore
set_option maxHeartbeats 1000000
attribute [local go_sem ↓] Go.wp_at_zero Go.wp_at_succ
end
section
open Go.RowKit Go.Deep Go.Proofs.YtbkbganflnemeaaW.PrintWords Go.Proofs.YtbkbganflnemeaaW.PrintLast Go.Proofs.YtbkbganflnemeaaW.PrintMore
set_option maxHeartbeats 1000000
attribute [local go_sem ↓] Go.wp_at_zero Go.wp_at_succ
section
open Go.RowKit Go.Deep Go.Proofs.YtbkbganflnemeaaW.PrintWords Go.Proofs.YtbkbganflnemeaaW.PrintLast Go.Proofs.YtbkbganflnemeaaW.PrintMore
set_option maxHeartbeats 1000000
attribute [local go_sem ↓] Go.wp_at_zero Go.wp_at_succ
end
end
end Go.Proofs.Ytbkbganflnemeaa.Pr
end

section
namespace Go.Proofs.Ytbkbganflnemeaa.Pr
open Go.Proofs.YtbkbganflnemeaaW.PrintWords
def u32s (l : List Nat) : Array Value := (l.map fun (n : Nat) => Value.int .u32 (n : Int)).toArray
theorem u32s_get (l : List Nat) (i : Nat) (h : i < l.length) : (u32s l)[i]? = some (.int .u32 (l.getD i 0 : Nat)) := by
 simp [u32s, h]
theorem u32s_set (l : List Nat) (i v : Nat) : (u32s l).setIfInBounds i (.int .u32 (v : Int)) = u32s (l.set i v) := by
 simp [u32s]
def rotr (x n : Nat) : Nat := (x >>> n) ||| ((x <<< (32 - n)) % 4294967296)
def be4 (l : List Nat) (i : Nat) : Nat := l.getD i 0 * 16777216 + l.getD (i + 1) 0 * 65536 + l.getD (i + 2) 0 * 256 + l.getD (i + 3) 0
def sg0 (x : Nat) : Nat := rotr x 7 ^^^ rotr x 18 ^^^ (x >>> 3)
def sg1 (x : Nat) : Nat := rotr x 17 ^^^ rotr x 19 ^^^ (x >>> 10)
def bs0 (x : Nat) : Nat := rotr x 2 ^^^ rotr x 13 ^^^ rotr x 22
def bs1 (x : Nat) : Nat := rotr x 6 ^^^ rotr x 11 ^^^ rotr x 25
def chs (e f g : Nat) : Nat := (e &&& f) ^^^ ((4294967295 - e) &&& g)
def maj (a b c : Nat) : Nat := (a &&& b) ^^^ (a &&& c) ^^^ (b &&& c)
def wordAt (b w : List Nat) (k : Nat) : Nat :=
 if k < 16 then be4 b (4 * k) else (w.getD (k - 16) 0 + sg0 (w.getD (k - 15) 0) + w.getD (k - 7) 0 + sg1 (w.getD (k - 2) 0)) % 4294967296
def sched (b : List Nat) : Nat → List Nat
 | 0 => []
 | k + 1 => sched b k ++ [wordAt b (sched b k) k]
theorem sched_length (b : List Nat) (k : Nat) : (sched b k).length = k := by
 induction k with
 | zero => rfl
 | succ k ih => simp [sched, ih]
def shaK : List Nat := [0x428a2f98, 0x71374491, 0xb5c0fbcf, 0xe9b5dba5, 0x3956c25b, 0x59f111f1, 0x923f82a4, 0xab1c5ed5, 0xd807aa98, 0x12835b01, 0x243185be, 0x550c7dc3, 0x72be5d74, 0x80deb1fe, 0x9bdc06a7, 0xc19bf174, 0xe49b69c1, 0xefbe4786, 0x0fc19dc6, 0x240ca1cc, 0x2de92c6f, 0x4a7484aa, 0x5cb0a9dc, 0x76f988da, 0x983e5152, 0xa831c66d, 0xb00327c8, 0xbf597fc7, 0xc6e00bf3, 0xd5a79147, 0x06ca6351, 0x14292967, 0x27b70a85, 0x2e1b2138, 0x4d2c6dfc, 0x53380d13, 0x650a7354, 0x766a0abb, 0x81c2c92e, 0x92722c85, 0xa2bfe8a1, 0xa81a664b, 0xc24b8b70, 0xc76c51a3, 0xd192e819, 0xd6990624, 0xf40e3585, 0x106aa070, 0x19a4c116, 0x1e376c08, 0x2748774c, 0x34b0bcb5, 0x391c0cb3, 0x4ed8aa4a, 0x5b9cca4f, 0x682e6ff3, 0x748f82ee, 0x78a5636f, 0x84c87814, 0x8cc70208, 0x90befffa, 0xa4506ceb, 0xbef9a3f7, 0xc67178f2]
theorem shaK_length : shaK.length = 64 := rfl
structure St where
 (a b c d e f g h : Nat)
def St.list (s : St) : List Nat := [s.a, s.b, s.c, s.d, s.e, s.f, s.g, s.h]
def St.ok (s : St) : Prop := s.a < 4294967296 ∧ s.b < 4294967296 ∧ s.c < 4294967296 ∧ s.d < 4294967296 ∧ s.e < 4294967296 ∧ s.f < 4294967296 ∧ s.g < 4294967296 ∧ s.h < 4294967296
def t1 (s : St) (k w : Nat) : Nat := (s.h + bs1 s.e + chs s.e s.f s.g + k + w) % 4294967296
def t2 (s : St) : Nat := (bs0 s.a + maj s.a s.b s.c) % 4294967296
def rnd (s : St) (k w : Nat) : St := ⟨(t1 s k w + t2 s) % 4294967296, s.a, s.b, s.c, (s.d + t1 s k w) % 4294967296, s.e, s.f, s.g⟩
def rds (w : List Nat) (s : St) : Nat → St
 | 0 => s
 | k + 1 => rnd (rds w s k) (shaK.getD k 0) (w.getD k 0)
def St.add (s t : St) : St := ⟨(s.a + t.a) % 4294967296, (s.b + t.b) % 4294967296, (s.c + t.c) % 4294967296, (s.d + t.d) % 4294967296, (s.e + t.e) % 4294967296, (s.f + t.f) % 4294967296, (s.g + t.g) % 4294967296, (s.h + t.h) % 4294967296⟩
def stp (s : St) (b : List Nat) : St := s.add (rds (sched b 64) s 64)
theorem rnd_ok {s : St} (h : s.ok) (k w : Nat) : (rnd s k w).ok := by
 obtain ⟨h1, h2, h3, h4, h5, h6, h7, h8⟩ := h
 exact ⟨Nat.mod_lt _ (by decide), h1, h2, h3, Nat.mod_lt _ (by decide), h5, h6, h7⟩
theorem rds_ok {w : List Nat} {s : St} (h : s.ok) : ∀ k, (rds w s k).ok
 | 0 => h
 | k + 1 => rnd_ok (rds_ok h k) _ _
theorem St.add_ok (s t : St) : (s.add t).ok := ⟨Nat.mod_lt _ (by decide), Nat.mod_lt _ (by decide), Nat.mod_lt _ (by decide), Nat.mod_lt _ (by decide), Nat.mod_lt _ (by decide), Nat.mod_lt _ (by decide), Nat.mod_lt _ (by decide), Nat.mod_lt _ (by decide)⟩
def by4 (x : Nat) : List Nat := [x / 16777216 % 256, x / 65536 % 256, x / 256 % 256, x % 256]
def St.bytes (s : St) : List Nat := s.list.flatMap by4
def St0 : St := ⟨0x6a09e667, 0xbb67ae85, 0x3c6ef372, 0xa54ff53a, 0x510e527f, 0x9b05688c, 0x1f83d9ab, 0x5be0cd19⟩
theorem St0_ok : St0.ok := by unfold St.ok St0; decide
def blks : Nat → St → List Nat → St
 | 0, s, _ => s
 | n + 1, s, l => blks n (stp s (l.take 64)) (l.drop 64)
def padL (n : Nat) : List Nat := 128 :: (List.replicate ((119 - n % 64) % 64) 0 ++ by4 (n / 536870912) ++ by4 (8 * n))
def sumL (l : List Nat) : List Nat := let p := l ++ padL l.length; (blks (p.length / 64) St0 p).bytes
end Go.Proofs.Ytbkbganflnemeaa.Pr
namespace Go.Proofs.Ytbkbganflnemeaa.Pr
open Go.RowKit Go.Proofs.YtbkbganflnemeaaW.PrintWords
set_option maxHeartbeats 400000
theorem sha_start.calls (w : World) : Calls Try.prog 155 #[] w fun e w' => e = .returned (.agg #[.int .u32 (St0.a : Int), .int .u32 (St0.b : Int), .int .u32 (St0.c : Int), .int .u32 (St0.d : Int), .int .u32 (St0.e : Int), .int .u32 (St0.f : Int), .int .u32 (St0.g : Int), .int .u32 (St0.h : Int)]) ∧ Below w.heap.size w w' := by
 go_enter Try.func155, Try.ntmps155
 go_wp2
 exact bodyPost_ret (v := .agg #[.int .u32 (St0.a : Int), .int .u32 (St0.b : Int), .int .u32 (St0.c : Int), .int .u32 (St0.d : Int), .int .u32 (St0.e : Int), .int .u32 (St0.f : Int), .int .u32 (St0.g : Int), .int .u32 (St0.h : Int)]) (by simp [results, Try.results155, go_sem, St0]) rfl ⟨rfl, (Below.refl _ _).alloc (Nat.le_refl _) _⟩
def u8s (l : List Nat) : Array Value := (l.map fun (n : Nat) => Value.int .u8 (n : Int)).toArray
theorem u8s_size (l : List Nat) : (u8s l).size = l.length := by simp [u8s]
theorem u8s_get (l : List Nat) (i : Nat) (h : i < l.length) : (u8s l)[i]? = some (.int .u8 (l.getD i 0 : Nat)) := by
 simp [u8s, h]
theorem u8s_set (l : List Nat) (i v : Nat) : (u8s l).setIfInBounds i (.int .u8 (v : Int)) = u8s (l.set i v) := by
 simp [u8s]
def outAt (s : List Nat) (k : Nat) : List Nat := (s.take k).flatMap by4 ++ List.replicate (32 - 4 * k) 0
theorem by4_length (x : Nat) : (by4 x).length = 4 := rfl
theorem flat4_length (l : List Nat) : (l.flatMap by4).length = 4 * l.length := by
 induction l with
 | nil => rfl
 | cons x l ih => rw [List.flatMap_cons, List.length_append, by4_length, ih, List.length_cons]; omega
theorem outAt_length (s : List Nat) (hs : s.length = 8) (k : Nat) (hk : k ≤ 8) : (outAt s k).length = 32 := by
 unfold outAt
 rw [List.length_append, flat4_length, List.length_take, List.length_replicate]
 omega
theorem outAt_get (s : List Nat) (hs : s.length = 8) (k j : Nat) (hk : k < 8) (hj : j < 4) : ∃ v : Nat, (u8s (outAt s k))[4 * k + j]? = some (.int .u8 (v : Int)) :=
 ⟨_, u8s_get _ _ (by rw [outAt_length s hs k (by omega)]; omega)⟩
theorem outAt_set (s : List Nat) (hs : s.length = 8) (k x : Nat) (hk : k < 8) (hx : s.getD k 0 = x) :
  ((((outAt s k).set (4 * k) (x / 16777216 % 256)).set (4 * k + 1) (x / 65536 % 256)).set (4 * k + 2) (x / 256 % 256)).set (4 * k + 3) (x % 256) = outAt s (k + 1) := by
 have hT : (s.take k).length = k := by rw [List.length_take]; omega
 have hF : ((s.take k).flatMap by4).length = 4 * k := by rw [flat4_length, hT]
 have hn : s.take (k + 1) = s.take k ++ [x] := by
  rw [List.take_succ_eq_append_getElem (by omega), ← hx]
  simp [show k < s.length by omega]
 have hr : List.replicate (32 - 4 * k) 0 = 0 :: 0 :: 0 :: 0 :: List.replicate (32 - 4 * (k + 1)) 0 := by
  rw [show 32 - 4 * k = (32 - 4 * (k + 1)) + 1 + 1 + 1 + 1 by omega]; rfl
 unfold outAt
 rw [hn, List.flatMap_append, hr]
 generalize (s.take k).flatMap by4 = F at hF
 rw [List.set_append_right _ _ (by omega), List.set_append_right _ _ (by omega), List.set_append_right _ _ (by omega), List.set_append_right _ _ (by omega)]
 rw [show 4 * k - F.length = 0 by omega, show 4 * k + 1 - F.length = 1 by omega, show 4 * k + 2 - F.length = 2 by omega, show 4 * k + 3 - F.length = 3 by omega]
 simp [by4]
theorem conv_u8s (w : World) (src dst e T g : Nat) (l : List Nat) (n : Nat) (hs : Try.prog.underlying src = some (.slice e)) (he : Try.prog.underlying e = some (.int .u8)) (hd : Try.prog.underlying dst = some .string)
  (hg : w.heap[g]? = some (.cells (u8s l) T (0, 0))) (hn : l.length = n) (c : Nat) : (convert src dst (.slice (some ⟨g, 0, none⟩) n c)).run Try.prog w = .ok (.string (txt l)) w := by
 rw [← str_nats]
 refine run_convert_bytes_arg w src e hs he g 0 n c _ (by simpa using hn) (fun i hi => ?_) dst hd
 rw [Nat.zero_add, cell_of_row w g i _ _ _ hg, u8s_get l i (by omega)]
 simp [show i < l.length by omega]
theorem index_row (l : List Value) (t e : Nat) (n : Nat) (hu : Try.prog.underlying t = some (.array n e)) (hi : (Try.prog.info? e).map (·.size) = some 1) (hc : ∀ v ∈ l, v.cells = #[v] ∧ ∀ cs, v ≠ .agg cs) (k : Nat) (v : Value) (hk : l[k]? = some v) (hn : l.length = n)
    (hb : ∃ d, Try.prog.underlying e = some d ∧ (match d with | .struct _ | .array _ _ => false | _ => true) = true) (w : World) : (Instr.index t (.agg l.toArray) (.int .i64 (k : Int))).run Try.prog w = .ok v w := by
  have hkl : k < l.length := by
    rcases Nat.lt_or_ge k l.length with h | h
    · exact h
    · rw [List.getElem?_eq_none h] at hk; cases hk
  obtain ⟨d, hd, hd2⟩ := hb
  cases hq : Try.prog.info? e with
  | none => simp [hq] at hi
  | some i =>
    have hs : i.size = 1 := by simpa [hq] using hi
    have hagg : (isAgg e).run Try.prog w = .ok false w := by
      unfold isAgg
      rw [Sem.run_bind, run_underlying hd w]
      cases d <;> simp_all
    simp only [Instr.index, asIntOf, Sem.run_bind, Sem.run_pure, Result.andThen_ok, run_underlying hu w]
    rw [if_pos ⟨by omega, by omega⟩]
    have hso : (sizeOf e).run Try.prog w = .ok 1 w := by simp [sizeOf, typeInfo, hq, hs]
    simp only [hso, Result.andThen_ok, part, Sem.run_bind, Sem.run_pure, hagg]
    simp [hk]
set_option maxRecDepth 100000 in
theorem sums_text.calls (a b c d e f g h : Nat) (w : World) : Calls Try.prog 157 #[.agg #[.int .u32 a, .int .u32 b, .int .u32 c, .int .u32 d, .int .u32 e, .int .u32 f, .int .u32 g, .int .u32 h]] w fun E w' => E = .returned (.string (txt (St.mk a b c d e f g h).bytes)) ∧ Below w.heap.size w w' := by
 have hi : ∀ (k : Nat) w, k < 8 → (Instr.index 188 (.agg #[.int .u32 a, .int .u32 b, .int .u32 c, .int .u32 d, .int .u32 e, .int .u32 f, .int .u32 g, .int .u32 h]) (.int .i64 (k : Int))).run Try.prog w = .ok (.int .u32 (([a, b, c, d, e, f, g, h] : List Nat).getD k 0 : Nat)) w := by
  intro k w hk
  refine index_row [.int .u32 a, .int .u32 b, .int .u32 c, .int .u32 d, .int .u32 e, .int .u32 f, .int .u32 g, .int .u32 h] 188 140 8 Try.underlying188 (by kernel_rfl) ?_ k _ ?_ rfl ⟨_, Try.underlying140, rfl⟩ w
  ·simp [Value.cells]
  ·rcases k with _ | _ | _ | _ | _ | _ | _ | _ | k <;> first | rfl | omega
 have hcv : ∀ W : World, W.heap[w.heap.size + 1]? = some (.cells (u8s (St.mk a b c d e f g h).bytes) 202 (0, 0)) → (convert 68 9 (.slice (some ⟨w.heap.size + 1, 0, none⟩) 32 32)).run Try.prog W = .ok (.string (txt (St.mk a b c d e f g h).bytes)) W :=
  fun W hW => conv_u8s W 68 9 5 202 _ _ 32 Try.underlying68 Try.underlying5 Try.underlying9 hW rfl 32
 have hcv1 := Aside0.mk hcv
 clear hcv
 go_enter Try.func157, Try.ntmps157
 go_wp2
 go_loopw [7] (fun i wr => ∃ k : Nat, k ≤ 8 ∧ i = .int .i64 k ∧ wr = (w.alloc (.cells #[.int .u32 a, .int .u32 b, .int .u32 c, .int .u32 d, .int .u32 e, .int .u32 f, .int .u32 g, .int .u32 h] 188)).alloc (.cells (u8s (outAt [a, b, c, d, e, f, g, h] k)) 202)) (fun i _ => 8 - (intOf i).toNat)
 case atStart => exact ⟨0, by omega, rfl, rfl⟩
 case round =>
  obtain ⟨k, hk, rfl, rfl⟩ := hrel
  by_cases hlt : k < 8
  ·have hi' := hi k
   clear hi
   have hj : ∀ w, (Instr.index 188 (.agg #[.int .u32 a, .int .u32 b, .int .u32 c, .int .u32 d, .int .u32 e, .int .u32 f, .int .u32 g, .int .u32 h]) (.int .i64 (k : Int))).run Try.prog w = .ok (.int .u32 (([a, b, c, d, e, f, g, h] : List Nat).getD k 0 : Nat)) w := fun w => hi' w hlt
   clear hi'
   generalize hx : (([a, b, c, d, e, f, g, h] : List Nat).getD k 0 : Nat) = x at hj
   have Hx := Aside0.mk hx
   clear hx
   have hs : ([a, b, c, d, e, f, g, h] : List Nat).length = 8 := rfl
   obtain ⟨v0, hv0⟩ := outAt_get [a, b, c, d, e, f, g, h] hs k 0 hlt (by omega)
   obtain ⟨v1, hv1⟩ := outAt_get [a, b, c, d, e, f, g, h] hs k 1 hlt (by omega)
   obtain ⟨v2, hv2⟩ := outAt_get [a, b, c, d, e, f, g, h] hs k 2 hlt (by omega)
   obtain ⟨v3, hv3⟩ := outAt_get [a, b, c, d, e, f, g, h] hs k 3 hlt (by omega)
   rw [Nat.add_zero] at hv0
   clear hs
   go_wp2
   refine ⟨⟨k + 1, by omega, by go_num, ?_⟩, by simp [intOf]; omega⟩
   have e := outAt_set [a, b, c, d, e, f, g, h] rfl k x hlt Hx.out
   rw [← e, ← u8s_set, ← u8s_set, ← u8s_set, ← u8s_set]
   rfl
  ·have hk8 : k = 8 := by omega
   subst hk8
   clear hi hlt
   have hcv := hcv1.out ((w.alloc (.cells #[.int .u32 a, .int .u32 b, .int .u32 c, .int .u32 d, .int .u32 e, .int .u32 f, .int .u32 g, .int .u32 h] 188)).alloc (.cells (u8s (outAt [a, b, c, d, e, f, g, h] 8)) 202)) (by rw [show outAt [a, b, c, d, e, f, g, h] 8 = (St.mk a b c d e f g h).bytes by simp [outAt, St.bytes, St.list]]; exact heap_alloc2_new _ _ _)
   go_wp2
   go_ret
   exact ⟨rfl, ((Below.refl _ _).alloc (Nat.le_refl _) _).alloc (by simp) _⟩
end Go.Proofs.Ytbkbganflnemeaa.Pr
namespace Go.Proofs.Ytbkbganflnemeaa.Pr
open Go.RowKit Go.Proofs.YtbkbganflnemeaaW.PrintWords
set_option maxHeartbeats 400000
theorem wraps_u32 (n : Int) (h₀ : 0 ≤ n) (h₁ : n < 2 ^ 32) : IntKind.u32.wrap n = n := by rw [IntKind.wrap_u32]; omega
theorem or32 (a b : Nat) (ha : a < 4294967296) (hb : b < 4294967296) : bits .or .u32 (a : Int) (b : Int) = ((a ||| b : Nat) : Int) :=
 (bits_nat .u32 32 (by decide) wraps_u32 a b (by simpa using ha) (by simpa using hb)).2
theorem and32 (a b : Nat) (ha : a < 4294967296) (hb : b < 4294967296) : bits .and .u32 (a : Int) (b : Int) = ((a &&& b : Nat) : Int) :=
 (bits_nat .u32 32 (by decide) wraps_u32 a b (by simpa using ha) (by simpa using hb)).1
theorem xor32 (a b : Nat) (ha : a < 4294967296) (hb : b < 4294967296) : bits .xor .u32 (a : Int) (b : Int) = ((a ^^^ b : Nat) : Int) := by
 have ha' : a % 2 ^ 32 = a := Nat.mod_eq_of_lt (by simpa using ha)
 have hb' : b % 2 ^ 32 = b := Nat.mod_eq_of_lt (by simpa using hb)
 have hx : a ^^^ b < 2 ^ 32 := Nat.xor_lt_two_pow (by simpa using ha) (by simpa using hb)
 have e : bits .xor .u32 (a : Int) (b : Int) = IntKind.u32.wrap ((a ^^^ b : Nat) : Int) := by
  simp only [bits, BitVec.ofInt_natCast, BitVec.toNat_xor, BitVec.toNat_ofNat]
  rw [show (IntKind.u32.bits) = 32 from rfl, ha', hb']
 rw [e]
 exact wraps_u32 _ (Int.natCast_nonneg _) (by exact_mod_cast hx)
theorem rotr_lt (x n : Nat) (hx : x < 4294967296) : rotr x n < 4294967296 := by
 unfold rotr
 have h1 : x >>> n < 2 ^ 32 := by rw [Nat.shiftRight_eq_div_pow]; exact Nat.lt_of_le_of_lt (Nat.div_le_self _ _) (by simpa using hx)
 exact Nat.or_lt_two_pow h1 (Nat.mod_lt _ (by decide))
theorem rot_or (x n p q : Nat) (hx : x < 4294967296) (hq : 2 ^ n = q) (hp : 2 ^ (32 - n) = p) : bits .or .u32 ((x : Int) * (p : Int) % 4294967296) ((x : Int) / (q : Int)) = ((rotr x n : Nat) : Int) := by
 have e1 : ((x : Int) * (p : Int) % 4294967296) = ((x * p % 4294967296 : Nat) : Int) := by simp
 have e2 : ((x : Int) / (q : Int)) = ((x / q : Nat) : Int) := by simp
 rw [e1, e2, or32 _ _ (Nat.mod_lt _ (by decide)) (Nat.lt_of_le_of_lt (Nat.div_le_self _ _) hx)]
 unfold rotr
 rw [Nat.shiftRight_eq_div_pow, Nat.shiftLeft_eq, hq, hp, Nat.or_comm]
theorem right_2 (x : Nat) (w : World) (hx : x < 4294967296) : Calls Try.prog 169 #[.int .u32 x, .int .i64 2] w fun e w' => e = .returned (.int .u32 (rotr x 2 : Nat)) ∧ w' = w := by
 have h1 : bits .and .u64 (IntKind.u64.wrap (-2)) 31 = 30 := by kernel_rfl
 have h2 : IntKind.u64.wrap (32 - 30) = 2 := by kernel_rfl
 go_enter Try.func169, Try.ntmps169
 go_wp2
 go_ret
 exact ⟨congrArg (fun z => Ending.returned (Value.int .u32 z)) (rot_or x 2 1073741824 4 hx (by decide) (by decide)), rfl⟩
theorem right_6 (x : Nat) (w : World) (hx : x < 4294967296) : Calls Try.prog 169 #[.int .u32 x, .int .i64 6] w fun e w' => e = .returned (.int .u32 (rotr x 6 : Nat)) ∧ w' = w := by
 have h1 : bits .and .u64 (IntKind.u64.wrap (-6)) 31 = 26 := by kernel_rfl
 have h2 : IntKind.u64.wrap (32 - 26) = 6 := by kernel_rfl
 go_enter Try.func169, Try.ntmps169
 go_wp2
 go_ret
 exact ⟨congrArg (fun z => Ending.returned (Value.int .u32 z)) (rot_or x 6 67108864 64 hx (by decide) (by decide)), rfl⟩
theorem right_7 (x : Nat) (w : World) (hx : x < 4294967296) : Calls Try.prog 169 #[.int .u32 x, .int .i64 7] w fun e w' => e = .returned (.int .u32 (rotr x 7 : Nat)) ∧ w' = w := by
 have h1 : bits .and .u64 (IntKind.u64.wrap (-7)) 31 = 25 := by kernel_rfl
 have h2 : IntKind.u64.wrap (32 - 25) = 7 := by kernel_rfl
 go_enter Try.func169, Try.ntmps169
 go_wp2
 go_ret
 exact ⟨congrArg (fun z => Ending.returned (Value.int .u32 z)) (rot_or x 7 33554432 128 hx (by decide) (by decide)), rfl⟩
theorem right_11 (x : Nat) (w : World) (hx : x < 4294967296) : Calls Try.prog 169 #[.int .u32 x, .int .i64 11] w fun e w' => e = .returned (.int .u32 (rotr x 11 : Nat)) ∧ w' = w := by
 have h1 : bits .and .u64 (IntKind.u64.wrap (-11)) 31 = 21 := by kernel_rfl
 have h2 : IntKind.u64.wrap (32 - 21) = 11 := by kernel_rfl
 go_enter Try.func169, Try.ntmps169
 go_wp2
 go_ret
 exact ⟨congrArg (fun z => Ending.returned (Value.int .u32 z)) (rot_or x 11 2097152 2048 hx (by decide) (by decide)), rfl⟩
theorem right_13 (x : Nat) (w : World) (hx : x < 4294967296) : Calls Try.prog 169 #[.int .u32 x, .int .i64 13] w fun e w' => e = .returned (.int .u32 (rotr x 13 : Nat)) ∧ w' = w := by
 have h1 : bits .and .u64 (IntKind.u64.wrap (-13)) 31 = 19 := by kernel_rfl
 have h2 : IntKind.u64.wrap (32 - 19) = 13 := by kernel_rfl
 go_enter Try.func169, Try.ntmps169
 go_wp2
 go_ret
 exact ⟨congrArg (fun z => Ending.returned (Value.int .u32 z)) (rot_or x 13 524288 8192 hx (by decide) (by decide)), rfl⟩
theorem right_17 (x : Nat) (w : World) (hx : x < 4294967296) : Calls Try.prog 169 #[.int .u32 x, .int .i64 17] w fun e w' => e = .returned (.int .u32 (rotr x 17 : Nat)) ∧ w' = w := by
 have h1 : bits .and .u64 (IntKind.u64.wrap (-17)) 31 = 15 := by kernel_rfl
 have h2 : IntKind.u64.wrap (32 - 15) = 17 := by kernel_rfl
 go_enter Try.func169, Try.ntmps169
 go_wp2
 go_ret
 exact ⟨congrArg (fun z => Ending.returned (Value.int .u32 z)) (rot_or x 17 32768 131072 hx (by decide) (by decide)), rfl⟩
theorem right_18 (x : Nat) (w : World) (hx : x < 4294967296) : Calls Try.prog 169 #[.int .u32 x, .int .i64 18] w fun e w' => e = .returned (.int .u32 (rotr x 18 : Nat)) ∧ w' = w := by
 have h1 : bits .and .u64 (IntKind.u64.wrap (-18)) 31 = 14 := by kernel_rfl
 have h2 : IntKind.u64.wrap (32 - 14) = 18 := by kernel_rfl
 go_enter Try.func169, Try.ntmps169
 go_wp2
 go_ret
 exact ⟨congrArg (fun z => Ending.returned (Value.int .u32 z)) (rot_or x 18 16384 262144 hx (by decide) (by decide)), rfl⟩
theorem right_19 (x : Nat) (w : World) (hx : x < 4294967296) : Calls Try.prog 169 #[.int .u32 x, .int .i64 19] w fun e w' => e = .returned (.int .u32 (rotr x 19 : Nat)) ∧ w' = w := by
 have h1 : bits .and .u64 (IntKind.u64.wrap (-19)) 31 = 13 := by kernel_rfl
 have h2 : IntKind.u64.wrap (32 - 13) = 19 := by kernel_rfl
 go_enter Try.func169, Try.ntmps169
 go_wp2
 go_ret
 exact ⟨congrArg (fun z => Ending.returned (Value.int .u32 z)) (rot_or x 19 8192 524288 hx (by decide) (by decide)), rfl⟩
theorem right_22 (x : Nat) (w : World) (hx : x < 4294967296) : Calls Try.prog 169 #[.int .u32 x, .int .i64 22] w fun e w' => e = .returned (.int .u32 (rotr x 22 : Nat)) ∧ w' = w := by
 have h1 : bits .and .u64 (IntKind.u64.wrap (-22)) 31 = 10 := by kernel_rfl
 have h2 : IntKind.u64.wrap (32 - 10) = 22 := by kernel_rfl
 go_enter Try.func169, Try.ntmps169
 go_wp2
 go_ret
 exact ⟨congrArg (fun z => Ending.returned (Value.int .u32 z)) (rot_or x 22 1024 4194304 hx (by decide) (by decide)), rfl⟩
theorem right_25 (x : Nat) (w : World) (hx : x < 4294967296) : Calls Try.prog 169 #[.int .u32 x, .int .i64 25] w fun e w' => e = .returned (.int .u32 (rotr x 25 : Nat)) ∧ w' = w := by
 have h1 : bits .and .u64 (IntKind.u64.wrap (-25)) 31 = 7 := by kernel_rfl
 have h2 : IntKind.u64.wrap (32 - 7) = 25 := by kernel_rfl
 go_enter Try.func169, Try.ntmps169
 go_wp2
 go_ret
 exact ⟨congrArg (fun z => Ending.returned (Value.int .u32 z)) (rot_or x 25 128 33554432 hx (by decide) (by decide)), rfl⟩
end Go.Proofs.Ytbkbganflnemeaa.Pr
namespace Go.Proofs.Ytbkbganflnemeaa.Pr
open Go.RowKit Go.Proofs.YtbkbganflnemeaaW.PrintWords
set_option maxHeartbeats 1000000
set_option maxRecDepth 100000
end Go.Proofs.Ytbkbganflnemeaa.Pr
end

section
namespace Go.Proofs.Ytbkbganflnemeaa.Pr
open Go.RowKit Go.Proofs.YtbkbganflnemeaaW.PrintWords Go.Proofs.YtbkbganflnemeaaW.PrintLast Go.Proofs.YtbkbganflnemeaaW.PrintMore
attribute [local go_sem] max2_int min2_int max_two min_two max_three min_three max_four min_four
def sha_big.f (a0 : ByteArray) : Option (Int) := if 0 < (a0.size : Int) then (if 1 < (a0.size : Int) then (if 2 < (a0.size : Int) then (if 3 < (a0.size : Int) then (some (Go.bits .or .u32 (Go.bits .or .u32 (Go.bits .or .u32 ((((bt a0 0) % 4294967296) * 16777216) % 4294967296) ((((bt a0 1) % 4294967296) * 65536) % 4294967296)) ((((bt a0 2) % 4294967296) * 256) % 4294967296)) ((bt a0 3) % 4294967296))) else (none)) else (none)) else (none)) else (none)
set_option maxHeartbeats 8000000 in
set_option maxRecDepth 100000 in
theorem sha_big.calls (a0 : ByteArray) (r : Int) (w : World) (h : sha_big.f a0 = some r) :
  Calls Try.prog 168 #[.string a0] w fun e w' => e = .returned (.int .u32 r) ∧ Drawn0 w w' := by
 have H : (if 0 < (a0.size : Int) then (if 1 < (a0.size : Int) then (if 2 < (a0.size : Int) then (if 3 < (a0.size : Int) then (some (Go.bits .or .u32 (Go.bits .or .u32 (Go.bits .or .u32 ((((bt a0 0) % 4294967296) * 16777216) % 4294967296) ((((bt a0 1) % 4294967296) * 65536) % 4294967296)) ((((bt a0 2) % 4294967296) * 256) % 4294967296)) ((bt a0 3) % 4294967296))) else (none)) else (none)) else (none)) else (none)) = some r := h; clear h; by_cases c2 : 0 < (a0.size : Int)
 ·rw [if_pos c2] at H; have c2b0 : decide (0 < (a0.size : Int)) = true := decide_eq_true c2; have c2b1 : decide (0 < a0.size) = true := decide_eq_true (by omega); clear c2; by_cases c4 : 1 < (a0.size : Int)
  ·rw [if_pos c4] at H; have c4b0 : decide (1 < (a0.size : Int)) = true := decide_eq_true c4; have c4b1 : decide (1 < a0.size) = true := decide_eq_true (by omega); clear c4; by_cases c6 : 2 < (a0.size : Int)
   ·rw [if_pos c6] at H; have c6b0 : decide (2 < (a0.size : Int)) = true := decide_eq_true c6; have c6b1 : decide (2 < a0.size) = true := decide_eq_true (by omega); clear c6; by_cases c8 : 3 < (a0.size : Int)
    ·rw [if_pos c8] at H; have c8b0 : decide (3 < (a0.size : Int)) = true := decide_eq_true c8; have c8b1 : decide (3 < a0.size) = true := decide_eq_true (by omega); clear c8; obtain rfl := Option.some.inj H; have p3 : 0 ≤ (0 : Int) := (by omega); have q3 : 0 < a0.size := (by have : (0 : Int) < (a0.size : Int) := of_decide_eq_true as_'; omega); have hx3 : ∀ h : 0 < a0.size, ((a0[0]'h).toNat : Int) = bt a0 0 := bt_at a0 0; clear p3; have qi3 : (0 < (a0.size : Int)) = True := eq_true (of_decide_eq_true as_'); replace q3 := eq_true q3; have p5 : 0 ≤ (1 : Int) := (by omega); have q5 : 1 < a0.size := (by have : (1 : Int) < (a0.size : Int) := of_decide_eq_true as_'; omega); have hx5 : ∀ h : 1 < a0.size, ((a0[1]'h).toNat : Int) = bt a0 1 := bt_at a0 1; clear p5; have qi5 : (1 < (a0.size : Int)) = True := eq_true (of_decide_eq_true as_'); replace q5 := eq_true q5; have p7 : 0 ≤ (2 : Int) := (by omega); have q7 : 2 < a0.size := (by have : (2 : Int) < (a0.size : Int) := of_decide_eq_true as_'; omega); have hx7 : ∀ h : 2 < a0.size, ((a0[2]'h).toNat : Int) = bt a0 2 := bt_at a0 2; clear p7; have qi7 : (2 < (a0.size : Int)) = True := eq_true (of_decide_eq_true as_'); replace q7 := eq_true q7; have p9 : 0 ≤ (3 : Int) := (by omega); have q9 : 3 < a0.size := (by have : (3 : Int) < (a0.size : Int) := of_decide_eq_true as_'; omega); have hx9 : ∀ h : 3 < a0.size, ((a0[3]'h).toNat : Int) = bt a0 3 := bt_at a0 3; clear p9; have qi9 : (3 < (a0.size : Int)) = True := eq_true (of_decide_eq_true as_'); replace q9 := eq_true q9; go_enter Try.func168, Try.ntmps168
     go_wp2; repeat (go_quiet (fail); try go_wp2)
     go_ret
     exact ⟨rz_, dz_⟩
    ·rw [if_neg c8] at H; exact absurd H (by simp)
   ·rw [if_neg c6] at H; exact absurd H (by simp)
  ·rw [if_neg c4] at H; exact absurd H (by simp)
 ·rw [if_neg c2] at H; exact absurd H (by simp)
end Go.Proofs.Ytbkbganflnemeaa.Pr
end

section
namespace Go.Proofs.Ytbkbganflnemeaa.Pr
open Go.RowKit Go.Proofs.YtbkbganflnemeaaW.PrintWords
set_option maxHeartbeats 400000
theorem bt_nat (s : ByteArray) (i : Nat) (h : i < s.size) : bt s (i : Int) = ((bys s).getD i 0 : Nat) := by
 unfold bt
 rw [dif_pos (by simpa using h)]
 have hl : i < s.data.toList.length := by rw [data_length]; exact h
 simp only [bys, List.getD_eq_getElem?_getD, List.getElem?_map, List.getElem?_eq_getElem hl, Option.map_some, Option.getD_some]
 rfl
theorem bys_lt (s : ByteArray) (i : Nat) : (bys s).getD i 0 < 256 := by
 rw [List.getD_eq_getElem?_getD]
 unfold bys
 rw [List.getElem?_map]
 cases h : s.data.toList[i]? with
 | none => simp
 | some x => simpa using x.toNat_lt
theorem or_be4 (x y z v : Nat) (hx : x < 256) (hy : y < 256) (hz : z < 256) (hv : v < 256) : bits .or .u32 (bits .or .u32 (bits .or .u32 ((((x : Int) % 4294967296) * 16777216) % 4294967296) ((((y : Int) % 4294967296) * 65536) % 4294967296)) ((((z : Int) % 4294967296) * 256) % 4294967296)) ((v : Int) % 4294967296) = ((x * 16777216 + y * 65536 + z * 256 + v : Nat) : Int) := by
 rw [show ((((x : Int) % 4294967296) * 16777216) % 4294967296) = ((x * 16777216 : Nat) : Int) by omega, show ((((y : Int) % 4294967296) * 65536) % 4294967296) = ((y * 65536 : Nat) : Int) by omega,
  show ((((z : Int) % 4294967296) * 256) % 4294967296) = ((z * 256 : Nat) : Int) by omega, show ((v : Int) % 4294967296) = (v : Int) by omega]
 have h1 : x * 16777216 ||| y * 65536 = x * 16777216 + y * 65536 := by
  have := Nat.two_pow_add_eq_or_of_lt (i := 24) (b := y * 65536) (by omega) x
  rw [Nat.mul_comm x]; exact this.symm
 have h2 : (x * 16777216 + y * 65536) ||| z * 256 = x * 16777216 + y * 65536 + z * 256 := by
  have := Nat.two_pow_add_eq_or_of_lt (i := 16) (b := z * 256) (by omega) (x * 256 + y)
  rw [show x * 16777216 + y * 65536 = 2 ^ 16 * (x * 256 + y) by omega]; exact this.symm
 have h3 : (x * 16777216 + y * 65536 + z * 256) ||| v = x * 16777216 + y * 65536 + z * 256 + v := by
  have := Nat.two_pow_add_eq_or_of_lt (i := 8) (b := v) (by omega) (x * 65536 + y * 256 + z)
  rw [show x * 16777216 + y * 65536 + z * 256 = 2 ^ 8 * (x * 65536 + y * 256 + z) by omega]; exact this.symm
 rw [or32 _ _ (by omega) (by omega), h1, or32 _ _ (by omega) (by omega), h2, or32 _ _ (by omega) (by omega), h3]
theorem sha_big_f (s : ByteArray) (hs : 4 ≤ s.size) : sha_big.f s = some (be4 (bys s) 0 : Nat) := by
 unfold sha_big.f
 rw [if_pos (by omega), if_pos (by omega), if_pos (by omega), if_pos (by omega)]
 have h0 := bt_nat s 0 (by omega)
 have h1 := bt_nat s 1 (by omega)
 have h2 := bt_nat s 2 (by omega)
 have h3 := bt_nat s 3 (by omega)
 rw [show bt s 0 = ((bys s).getD 0 0 : Nat) from h0, show bt s 1 = ((bys s).getD 1 0 : Nat) from h1, show bt s 2 = ((bys s).getD 2 0 : Nat) from h2, show bt s 3 = ((bys s).getD 3 0 : Nat) from h3,
  or_be4 _ _ _ _ (bys_lt s 0) (bys_lt s 1) (bys_lt s 2) (bys_lt s 3)]
 rfl
theorem big_calls (s : ByteArray) (w : World) (hs : 4 ≤ s.size) : Calls Try.prog 168 #[.string s] w fun e w' => e = .returned (.int .u32 (be4 (bys s) 0 : Nat)) ∧ ∃ n, w' = w.drewN n :=
 (sha_big.calls s _ w (sha_big_f s hs)).mono fun _ _ h => ⟨h.1, h.2.out⟩
theorem be4_drop (l : List Nat) (i n : Nat) (hn : 4 ≤ n) : be4 ((l.drop i).take n) 0 = be4 l i := by
 unfold be4
 simp only [List.getD_eq_getElem?_getD, List.getElem?_take, List.getElem?_drop, Nat.zero_add, Nat.add_zero]
 rw [if_pos (by omega), if_pos (by omega), if_pos (by omega), if_pos (by omega)]
theorem not32 (e : Nat) (he : e < 4294967296) : bits .xor .u32 IntKind.u32.max (e : Int) = ((4294967295 - e : Nat) : Int) := by
 rw [show IntKind.u32.max = ((4294967295 : Nat) : Int) from rfl, xor32 _ _ (by decide) he]
 congr 1
 apply Nat.eq_of_testBit_eq
 intro i
 have h := Nat.testBit_two_pow_sub_succ (x := e) (n := 32) (by simpa using he) i
 rw [show (4294967295 - e : Nat) = 2 ^ 32 - (e + 1) by omega, h, Nat.testBit_xor, show (4294967295 : Nat) = 2 ^ 32 - 1 from rfl, Nat.testBit_two_pow_sub_one]
 by_cases hi : i < 32
 ·simp [hi]
 ·have : e.testBit i = false := Nat.testBit_lt_two_pow (Nat.lt_of_lt_of_le he (by rw [show (4294967296 : Nat) = 2 ^ 32 from rfl]; exact Nat.pow_le_pow_right (by decide) (by omega)))
  simp [hi, this]
theorem xor_lt32 {a b : Nat} (ha : a < 4294967296) (hb : b < 4294967296) : a ^^^ b < 4294967296 := Nat.xor_lt_two_pow (n := 32) ha hb
theorem and_lt32 {a b : Nat} (hb : b < 4294967296) : a &&& b < 4294967296 := Nat.and_lt_two_pow (n := 32) a hb
theorem bs1_int (e : Nat) (he : e < 4294967296) : bits .xor .u32 (bits .xor .u32 ((rotr e 6 : Nat) : Int) ((rotr e 11 : Nat) : Int)) ((rotr e 25 : Nat) : Int) = ((bs1 e : Nat) : Int) := by
 rw [xor32 _ _ (rotr_lt e 6 he) (rotr_lt e 11 he), xor32 _ _ (xor_lt32 (rotr_lt e 6 he) (rotr_lt e 11 he)) (rotr_lt e 25 he)]
 rfl
theorem bs0_int (e : Nat) (he : e < 4294967296) : bits .xor .u32 (bits .xor .u32 ((rotr e 2 : Nat) : Int) ((rotr e 13 : Nat) : Int)) ((rotr e 22 : Nat) : Int) = ((bs0 e : Nat) : Int) := by
 rw [xor32 _ _ (rotr_lt e 2 he) (rotr_lt e 13 he), xor32 _ _ (xor_lt32 (rotr_lt e 2 he) (rotr_lt e 13 he)) (rotr_lt e 22 he)]
 rfl
theorem sg0_int (x : Nat) (hx : x < 4294967296) : bits .xor .u32 (bits .xor .u32 ((rotr x 7 : Nat) : Int) ((rotr x 18 : Nat) : Int)) ((x : Int) / 8) = ((sg0 x : Nat) : Int) := by
 rw [show ((x : Int) / 8) = ((x / 8 : Nat) : Int) by simp, xor32 _ _ (rotr_lt x 7 hx) (rotr_lt x 18 hx), xor32 _ _ (xor_lt32 (rotr_lt x 7 hx) (rotr_lt x 18 hx)) (by omega)]
 unfold sg0
 rw [Nat.shiftRight_eq_div_pow]
theorem sg1_int (x : Nat) (hx : x < 4294967296) : bits .xor .u32 (bits .xor .u32 ((rotr x 17 : Nat) : Int) ((rotr x 19 : Nat) : Int)) ((x : Int) / 1024) = ((sg1 x : Nat) : Int) := by
 rw [show ((x : Int) / 1024) = ((x / 1024 : Nat) : Int) by simp, xor32 _ _ (rotr_lt x 17 hx) (rotr_lt x 19 hx), xor32 _ _ (xor_lt32 (rotr_lt x 17 hx) (rotr_lt x 19 hx)) (by omega)]
 unfold sg1
 rw [Nat.shiftRight_eq_div_pow]
theorem chs_int (e f g : Nat) (he : e < 4294967296) (hf : f < 4294967296) (hg : g < 4294967296) :
  bits .xor .u32 (bits .and .u32 (e : Int) (f : Int)) (bits .and .u32 (bits .xor .u32 IntKind.u32.max (e : Int)) (g : Int)) = ((chs e f g : Nat) : Int) := by
 rw [not32 e he, and32 _ _ he hf, and32 _ _ (by omega) hg, xor32 _ _ (and_lt32 hf) (and_lt32 hg)]
 rfl
theorem maj_int (a b c : Nat) (ha : a < 4294967296) (hb : b < 4294967296) (hc : c < 4294967296) :
  bits .xor .u32 (bits .xor .u32 (bits .and .u32 (a : Int) (b : Int)) (bits .and .u32 (a : Int) (c : Int))) (bits .and .u32 (b : Int) (c : Int)) = ((maj a b c : Nat) : Int) := by
 rw [and32 _ _ ha hb, and32 _ _ ha hc, and32 _ _ hb hc, xor32 _ _ (and_lt32 hb) (and_lt32 hc), xor32 _ _ (xor_lt32 (and_lt32 hb) (and_lt32 hc)) (and_lt32 hc)]
 rfl
theorem rnd_a (s : St) (hs : s.ok) (k w : Nat) : (((s.h : Int) + bits .xor .u32 (bits .xor .u32 ((rotr s.e 6 : Nat) : Int) ((rotr s.e 11 : Nat) : Int)) ((rotr s.e 25 : Nat) : Int) + bits .xor .u32 (bits .and .u32 (s.e : Int) (s.f : Int)) (bits .and .u32 (bits .xor .u32 IntKind.u32.max (s.e : Int)) (s.g : Int)) + (k : Int) + (w : Int) +
   (bits .xor .u32 (bits .xor .u32 ((rotr s.a 2 : Nat) : Int) ((rotr s.a 13 : Nat) : Int)) ((rotr s.a 22 : Nat) : Int) + bits .xor .u32 (bits .xor .u32 (bits .and .u32 (s.a : Int) (s.b : Int)) (bits .and .u32 (s.a : Int) (s.c : Int))) (bits .and .u32 (s.b : Int) (s.c : Int)))) % 4294967296) = (((rnd s k w).a : Nat) : Int) := by
 obtain ⟨h1, h2, h3, h4, h5, h6, h7, h8⟩ := hs
 rw [bs1_int _ h5, chs_int _ _ _ h5 h6 h7, bs0_int _ h1, maj_int _ _ _ h1 h2 h3]
 simp only [rnd, t1, t2]
 omega
theorem rnd_e (s : St) (hs : s.ok) (k w : Nat) : (((s.d : Int) + ((s.h : Int) + bits .xor .u32 (bits .xor .u32 ((rotr s.e 6 : Nat) : Int) ((rotr s.e 11 : Nat) : Int)) ((rotr s.e 25 : Nat) : Int) + bits .xor .u32 (bits .and .u32 (s.e : Int) (s.f : Int)) (bits .and .u32 (bits .xor .u32 IntKind.u32.max (s.e : Int)) (s.g : Int)) + (k : Int) + (w : Int))) % 4294967296) = (((rnd s k w).e : Nat) : Int) := by
 obtain ⟨h1, h2, h3, h4, h5, h6, h7, h8⟩ := hs
 rw [bs1_int _ h5, chs_int _ _ _ h5 h6 h7]
 simp only [rnd, t1]
 omega
theorem sched_val (x16 x15 x7 x2 : Nat) (h15 : x15 < 4294967296) (h2 : x2 < 4294967296) : (((x16 : Int) + bits .xor .u32 (bits .xor .u32 ((rotr x15 7 : Nat) : Int) ((rotr x15 18 : Nat) : Int)) ((x15 : Int) / 8) + (x7 : Int) + bits .xor .u32 (bits .xor .u32 ((rotr x2 17 : Nat) : Int) ((rotr x2 19 : Nat) : Int)) ((x2 : Int) / 1024)) % 4294967296) = (((x16 + sg0 x15 + x7 + sg1 x2) % 4294967296 : Nat) : Int) := by
 rw [sg0_int _ h15, sg1_int _ h2]
 omega
theorem set8 (V : World) (t : TypeId) (N g : Nat) (x0 x1 x2 x3 x4 x5 x6 x7 y0 y1 y2 y3 y4 y5 y6 y7 : Value) (hg : g = V.heap.size) :
    (((((((((V.alloc (.cells #[x0, x1, x2, x3, x4, x5, x6, x7] t)).drewN N).setCell ⟨g, 0, none⟩ y0).setCell ⟨g, 1, none⟩ y1).setCell ⟨g, 2, none⟩ y2).setCell ⟨g, 3, none⟩ y3).setCell ⟨g, 4, none⟩ y4).setCell ⟨g, 5, none⟩ y5).setCell ⟨g, 6, none⟩ y6).setCell ⟨g, 7, none⟩ y7 =
      (V.alloc (.cells #[y0, y1, y2, y3, y4, y5, y6, y7] t)).drewN N := by
  have h : ∀ (W : World) i v, (W.drewN N).setCell ⟨g, i, none⟩ v = (W.setCell ⟨g, i, none⟩ v).drewN N := fun _ _ _ => rfl
  have e : ∀ c i v, (V.alloc (.cells c t)).setCell ⟨g, i, none⟩ v = V.alloc (.cells (c.setIfInBounds i v) t) := fun c i v => World.setCell_alloc_at c t g i v hg
  simp only [h, e]
  exact congrArg (fun c => (V.alloc (.cells c t)).drewN N) (by simp)
theorem set_last (V : World) (t : TypeId) (N g i : Nat) (l : List Nat) (v : Nat) (hg : g = V.heap.size) : (((V.alloc (.cells (u32s l) t)).drewN N).drew).setCell ⟨g, i, none⟩ (.int .u32 (v : Int)) = (V.alloc (.cells (u32s (l.set i v)) t)).drewN (N + 1) := by
 have h : (((V.alloc (.cells (u32s l) t)).drewN N).drew).setCell ⟨g, i, none⟩ (.int .u32 (v : Int)) = ((V.alloc (.cells (u32s l) t)).setCell ⟨g, i, none⟩ (.int .u32 (v : Int))).drewN (N + 1) := rfl
 rw [h, World.setCell_alloc_at _ _ _ _ _ hg, u32s_set]
theorem setN_last (V : World) (t : TypeId) (N g i : Nat) (l : List Nat) (v : Nat) (hg : g = V.heap.size) : ((V.alloc (.cells (u32s l) t)).drewN N).setCell ⟨g, i, none⟩ (.int .u32 (v : Int)) = (V.alloc (.cells (u32s (l.set i v)) t)).drewN N := by
 have h : ((V.alloc (.cells (u32s l) t)).drewN N).setCell ⟨g, i, none⟩ (.int .u32 (v : Int)) = ((V.alloc (.cells (u32s l) t)).setCell ⟨g, i, none⟩ (.int .u32 (v : Int))).drewN N := rfl
 rw [h, World.setCell_alloc_at _ _ _ _ _ hg, u32s_set]
theorem set_first (w : World) (t : TypeId) (N i : Nat) (l : List Nat) (v : Nat) (B C D : Obj) : (((((w.alloc (.cells (u32s l) t)).alloc B).alloc C).alloc D).drewN N).drew.setCell ⟨w.heap.size, i, none⟩ (.int .u32 (v : Int)) = ((((w.alloc (.cells (u32s (l.set i v)) t)).alloc B).alloc C).alloc D).drewN (N + 1) := by
 have h : (((((w.alloc (.cells (u32s l) t)).alloc B).alloc C).alloc D).drewN N).drew.setCell ⟨w.heap.size, i, none⟩ (.int .u32 (v : Int)) = (((((w.alloc (.cells (u32s l) t)).alloc B).alloc C).alloc D).setCell ⟨w.heap.size, i, none⟩ (.int .u32 (v : Int))).drewN (N + 1) := rfl
 rw [h, World.setCell_alloc_past _ _ _ _ (by simp; omega), World.setCell_alloc_past _ _ _ _ (by simp; omega), World.setCell_alloc_past _ _ _ _ (by simp), World.setCell_alloc_at _ _ _ _ _ rfl, u32s_set]
def hAt (s v : List Nat) (k : Nat) : List Nat := (List.range 8).map fun i => if i < k then (s.getD i 0 + v.getD i 0) % 4294967296 else s.getD i 0
theorem hAt_get (s v : List Nat) (k : Nat) (hk : k < 8) : (u32s (hAt s v k))[k]? = some (.int .u32 (s.getD k 0 : Nat)) := by
 rw [u32s_get _ _ (by simp [hAt]; omega)]
 simp [hAt, hk]
theorem hAt_set (s v : List Nat) (k : Nat) (hk : k < 8) : (hAt s v k).set k ((s.getD k 0 + v.getD k 0) % 4294967296) = hAt s v (k + 1) := by
 apply List.ext_getElem
 ·simp [hAt]
 ·intro i h1 h2
  rw [List.getElem_set]
  simp only [hAt, List.getElem_map, List.getElem_range]
  by_cases e : k = i
  ·subst e; simp
  ·rw [if_neg e]
   by_cases h : i < k
   ·rw [if_pos h, if_pos (by omega)]
   ·rw [if_neg h, if_neg (by omega)]
theorem sched_lt (b : List Nat) (hb : ∀ i, b.getD i 0 < 256) : ∀ k i, (sched b k).getD i 0 < 4294967296
  | 0, i => by simp [sched]
  | k + 1, i => by
    rw [sched, List.getD_eq_getElem?_getD]
    by_cases h : i < k
    · rw [List.getElem?_append_left (by rw [sched_length]; exact h), ← List.getD_eq_getElem?_getD]
      exact sched_lt b hb k i
    · rw [List.getElem?_append_right (by rw [sched_length]; omega), sched_length]
      rcases Nat.eq_zero_or_pos (i - k) with h0 | h0
      · rw [h0]
        simp only [List.getElem?_cons_zero, Option.getD_some, wordAt]
        split
        · unfold be4
          have := hb (4 * k)
          have := hb (4 * k + 1)
          have := hb (4 * k + 2)
          have := hb (4 * k + 3)
          omega
        · exact Nat.mod_lt _ (by decide)
      · rw [List.getElem?_eq_none (by simp; omega)]
        simp
def wAt (b : List Nat) (k : Nat) : List Nat := sched b k ++ List.replicate (64 - k) 0
theorem wAt_length (b : List Nat) (k : Nat) (hk : k ≤ 64) : (wAt b k).length = 64 := by
 unfold wAt; rw [List.length_append, sched_length, List.length_replicate]; omega
theorem wAt_get (b : List Nat) (k i : Nat) (hk : k ≤ 64) (hi : i < k) : (u32s (wAt b k))[i]? = some (.int .u32 ((sched b k).getD i 0 : Nat)) := by
 rw [u32s_get _ _ (by rw [wAt_length b k hk]; omega)]
 unfold wAt
 rw [List.getD_eq_getElem?_getD, List.getElem?_append_left (by rw [sched_length]; exact hi), ← List.getD_eq_getElem?_getD]
theorem wAt_next (b : List Nat) (k : Nat) (hk : k < 64) : (wAt b k).set k (wordAt b (sched b k) k) = wAt b (k + 1) := by
 unfold wAt
 rw [List.set_append_right _ _ (by rw [sched_length]; omega), sched_length, Nat.sub_self, show 64 - k = (64 - (k + 1)) + 1 by omega, List.replicate_succ, List.set_cons_zero]
 simp [sched]
theorem wp_still_tail {P : Program} {id : Nat} {Q : Exit → Act → World → Prop} {a : Act} {w : World} {l : List Oper} (n : Nat) (hm : P.follows .mixedOrders = true) (hB : Region.lexTailB .any l.toArray n = true)
  (h : ∀ W, W = w.drew → wpStill P l.toArray W (fun a' => wpList P l.toArray Q (l.drop n) a' W) (l.take n) a) : (Code.region id l.toArray true).wp P Q a w :=
 wp_region_still_tail n hm hB (h _ rfl)
set_option maxRecDepth 100000 in
set_option maxHeartbeats 8000000 in
theorem sums_step.calls (a b c d e f g hh gc : Nat) (s : ByteArray) (w : World) (hok : (St.mk a b c d e f g hh).ok) (hs : s.size = 64) (hc : w.heap[gc]? = some (.cells (u32s shaK) 185 (0, 0)))
  : Calls Try.prog 156 #[.agg #[.int .u32 a, .int .u32 b, .int .u32 c, .int .u32 d, .int .u32 e, .int .u32 f, .int .u32 g, .int .u32 hh], .pointer (some ⟨gc, 0, none⟩), .string s] w fun E w' => (∃ s' : St, s' = stp (St.mk a b c d e f g hh) (bys s) ∧ E = .returned (.agg #[.int .u32 (s'.a : Int), .int .u32 (s'.b : Int), .int .u32 (s'.c : Int), .int .u32 (s'.d : Int), .int .u32 (s'.e : Int), .int .u32 (s'.f : Int), .int .u32 (s'.g : Int), .int .u32 (s'.h : Int)])) ∧ Below w.heap.size w w' := by
 have hbl := sched_lt (bys s) (bys_lt s)
 have HBL := Aside0.mk hbl
 have HOK := Aside0.mk hok
 clear hbl hok
 go_enter Try.func156, Try.ntmps156
 go_wp2
 go_loopw [18] (fun i wr => ∃ (k n : Nat), k ≤ 64 ∧ i = .int .i64 k ∧ wr = (((w.alloc (.cells #[.int .u32 a, .int .u32 b, .int .u32 c, .int .u32 d, .int .u32 e, .int .u32 f, .int .u32 g, .int .u32 hh] 188)).alloc (.cells (u32s [0,0,0,0,0,0,0,0]) 188)).alloc (.cells (u32s (wAt (bys s) k)) 185)).drewN n) (fun i _ => 64 - (intOf i).toNat)
 case atStart => exact ⟨0, 0, by omega, rfl, rfl⟩
 case round =>
  obtain ⟨k, n, hk, rfl, rfl⟩ := hrel
  by_cases hlt : k < 64
  ·by_cases h16 : k < 16
   ·obtain ⟨v0, hw⟩ : ∃ v : Nat, (u32s (wAt (bys s) k))[k]? = some (.int .u32 (v : Int)) := ⟨_, u32s_get _ _ (by rw [wAt_length _ _ hk]; omega)⟩
    have hle : 4 * k + 4 ≤ s.size := by omega
    have hle2 : 4 * k ≤ 64 := by omega
    go_wp2_with (go_at_call 168; refine (big_calls _ _ ?_).mono ?_)
    ·have e1 : (s.extract (4 * k) 64).size = 64 - 4 * k := by simp [hs]
     omega
    ·rintro e1 w1 ⟨rfl, n1, rfl⟩
     have HB4 := Aside0.mk (show be4 (bys (s.extract (4 * k) 64)) 0 = wordAt (bys s) (sched (bys s) k) k by rw [bys_extract, be4_drop _ _ _ (by omega), wordAt, if_pos h16])
     generalize be4 (bys (s.extract (4 * k) 64)) 0 = xb at *
     go_wp2
     go_light
     refine ⟨⟨k + 1, n + n1, by omega, by go_num, ?_⟩, by simp [intOf]; omega⟩
     rw [setN_last _ _ _ _ _ _ _ (by simp), HB4.out, wAt_next _ _ hlt]
   ·obtain ⟨v0, hw⟩ : ∃ v : Nat, (u32s (wAt (bys s) k))[k]? = some (.int .u32 (v : Int)) := ⟨_, u32s_get _ _ (by rw [wAt_length _ _ hk]; omega)⟩
    have hw2 := wAt_get (bys s) k (k - 2) hk (by omega)
    have hw7 := wAt_get (bys s) k (k - 7) hk (by omega)
    have hw15 := wAt_get (bys s) k (k - 15) hk (by omega)
    have hw16 := wAt_get (bys s) k (k - 16) hk (by omega)
    generalize hx2 : (sched (bys s) k).getD (k - 2) 0 = x2 at hw2
    generalize hx7 : (sched (bys s) k).getD (k - 7) 0 = x7 at hw7
    generalize hx15 : (sched (bys s) k).getD (k - 15) 0 = x15 at hw15
    generalize hx16 : (sched (bys s) k).getD (k - 16) 0 = x16 at hw16
    have HX2 := Aside0.mk hx2
    have HX7 := Aside0.mk hx7
    have HX15 := Aside0.mk hx15
    have HX16 := Aside0.mk hx16
    clear hx2 hx7 hx15 hx16
    have b2 : x2 < 4294967296 := by rw [← HX2.out]; exact HBL.out _ _
    have b15 : x15 < 4294967296 := by rw [← HX15.out]; exact HBL.out _ _
    go_wp2
    go_quiet (fail)
    go_wp2
    refine wp_still_tail 29 (by kernel_rfl) (by kernel_rfl) ?_
    intro W hW
    have g2 : W.cell? ⟨w.heap.size + 1 + 1, k - 2, none⟩ = some (.int .u32 (x2 : Int)) := by rw [hW]; go_simp
    have g7 : W.cell? ⟨w.heap.size + 1 + 1, k - 7, none⟩ = some (.int .u32 (x7 : Int)) := by rw [hW]; go_simp
    have g15 : W.cell? ⟨w.heap.size + 1 + 1, k - 15, none⟩ = some (.int .u32 (x15 : Int)) := by rw [hW]; go_simp
    have g16 : W.cell? ⟨w.heap.size + 1 + 1, k - 16, none⟩ = some (.int .u32 (x16 : Int)) := by rw [hW]; go_simp
    have g0 : W.cell? ⟨w.heap.size + 1 + 1, k, none⟩ = some (.int .u32 (v0 : Int)) := by rw [hW]; go_simp
    have gf : W.frozen? ⟨w.heap.size + 1 + 1, k, none⟩ = false := by rw [hW]; go_simp
    have HW := Aside0.mk hW
    have i16 : IntKind.i64.wrap (↑k - 16) = ↑k - 16 := IntWalk.i64_in _ (by omega)
    have i7 : IntKind.i64.wrap (↑k - 7) = ↑k - 7 := IntWalk.i64_in _ (by omega)
    have n16 : ((k : Int) - 16).toNat = k - 16 := by omega
    have n7 : ((k : Int) - 7).toNat = k - 7 := by omega
    have p16 : 16 ≤ (k : Int) := by omega
    have p7 : 7 ≤ (k : Int) := by omega
    have q16 : (k : Int) - 16 < 64 := by omega
    have q7 : (k : Int) - 7 < 64 := by omega
    clear hw hw2 hw7 hw15 hw16 hW
    simp only [List.take_succ_cons, List.take_zero, List.drop_succ_cons, List.drop_zero]
    repeat still_step
    still_call (right_7 x15 _ b15)
    repeat still_step
    still_call (right_18 x15 _ b15)
    repeat still_step
    still_call (right_17 x2 _ b2)
    repeat still_step
    still_call (right_19 x2 _ b2)
    repeat still_step
    refine wpStill_nil ?_
    go_wp2
    go_light
    refine ⟨⟨k + 1, n + nq + 1, by omega, by go_num, ?_⟩, by simp [intOf]; omega⟩
    have HV : (x16 + sg0 x15 + x7 + sg1 x2) % 4294967296 = wordAt (bys s) (sched (bys s) k) k := by
     unfold wordAt
     rw [if_neg h16, HX16.out, HX15.out, HX7.out, HX2.out]
    rw [sched_val _ _ _ _ b15 b2, HV, HW.out, World.drewN_drewN, set_last _ _ _ _ _ _ _ (by simp), wAt_next _ _ hlt]
  ·have hk64 : k = 64 := by omega
   subst hk64
   clear hlt hk
   have hW64 : wAt (bys s) 64 = sched (bys s) 64 := by simp [wAt]
   rw [hW64]
   clear hW64
   have hLl := sched_length (bys s) 64
   generalize hL : sched (bys s) 64 = L at hLl
   have HL := Aside0.mk hL
   have HLl := Aside0.mk hLl
   clear hL hLl
   have hgc : gc < w.heap.size := blk_lt hc
   have hcc : ∀ i, w.cell? ⟨gc, i, none⟩ = (u32s shaK)[i]? := fun i => blk_cell hc i
   have HC := Aside0.mk hcc
   clear hc hcc
   go_wp2
   go_loopw [69] (fun i wr => ∃ (k m a' b' c' d' e' f' g' h' : Nat), k ≤ 64 ∧ i = .int .i64 k ∧ Aside0 (St.mk a' b' c' d' e' f' g' h' = rds (L) ⟨a, b, c, d, e, f, g, hh⟩ k) ∧ wr = ((((w.alloc (.cells #[.int .u32 a, .int .u32 b, .int .u32 c, .int .u32 d, .int .u32 e, .int .u32 f, .int .u32 g, .int .u32 hh] 188)).alloc (.cells (u32s [0,0,0,0,0,0,0,0]) 188)).alloc (.cells (u32s (L)) 185)).alloc (.cells #[.int .u32 a', .int .u32 b', .int .u32 c', .int .u32 d', .int .u32 e', .int .u32 f', .int .u32 g', .int .u32 h'] 188)).drewN m) (fun i _ => 64 - (intOf i).toNat)
   case atStart => exact ⟨0, n, a, b, c, d, e, f, g, hh, by omega, rfl, ⟨rfl⟩, rfl⟩
   case round =>
    obtain ⟨k, m, a', b', c', d', e', f', g', h', hk, rfl, HS, rfl⟩ := hrel
    by_cases hlt : k < 64
    ·have hkk : w.cell? ⟨gc, k, none⟩ = some (.int .u32 (shaK.getD k 0 : Nat)) := by rw [HC.out, u32s_get _ _ (by rw [shaK_length]; exact hlt)]
     have hww : (u32s (L))[k]? = some (.int .u32 ((L).getD k 0 : Nat)) := u32s_get _ _ (by rw [HLl.out]; exact hlt)
     generalize hxk : shaK.getD k 0 = xk at hkk
     generalize hxw : (L).getD k 0 = xw at hww
     have HXK := Aside0.mk hxk
     have HXW := Aside0.mk hxw
     clear hxk hxw HC
     have g1 : gc < w.heap.size + 1 := by omega
     have g2 : gc < w.heap.size + 1 + 1 := by omega
     have g3 : gc < w.heap.size + 1 + 1 + 1 := by omega
     have hok' : (St.mk a' b' c' d' e' f' g' h').ok := by rw [HS.out]; exact rds_ok HOK.out _
     have la : a' < 4294967296 := hok'.1
     have le : e' < 4294967296 := hok'.2.2.2.2.1
     have HOK' := Aside0.mk hok'
     clear hok'
     go_wp2
     go_quiet (fail)
     revert nq
     intro p1
     go_wp2
     go_quiet ((first | (go_at_call 169; (with_reducible refine (right_6 e' _ le).mono ?_); rintro e w' ⟨rfl, rfl⟩; first | exact ⟨rfl, _, rfl⟩ | exact ⟨rfl, _, World.drewN_drewN _ _ _⟩) | (go_at_call 169; (with_reducible refine (right_11 e' _ le).mono ?_); rintro e w' ⟨rfl, rfl⟩; first | exact ⟨rfl, _, rfl⟩ | exact ⟨rfl, _, World.drewN_drewN _ _ _⟩) | (go_at_call 169; (with_reducible refine (right_25 e' _ le).mono ?_); rintro e w' ⟨rfl, rfl⟩; first | exact ⟨rfl, _, rfl⟩ | exact ⟨rfl, _, World.drewN_drewN _ _ _⟩)))
     revert nq
     intro p2
     go_wp2
     go_quiet ((first | (go_at_call 169; (with_reducible refine (right_2 a' _ la).mono ?_); rintro e w' ⟨rfl, rfl⟩; first | exact ⟨rfl, _, rfl⟩ | exact ⟨rfl, _, World.drewN_drewN _ _ _⟩) | (go_at_call 169; (with_reducible refine (right_13 a' _ la).mono ?_); rintro e w' ⟨rfl, rfl⟩; first | exact ⟨rfl, _, rfl⟩ | exact ⟨rfl, _, World.drewN_drewN _ _ _⟩) | (go_at_call 169; (with_reducible refine (right_22 a' _ la).mono ?_); rintro e w' ⟨rfl, rfl⟩; first | exact ⟨rfl, _, rfl⟩ | exact ⟨rfl, _, World.drewN_drewN _ _ _⟩)))
     revert nq
     intro p3
     go_wp2
     go_roundw
     case rel =>
      go_light
      repeat apply Exists.intro
      refine ⟨⟨k + 1, m + p1 + p2 + p3, (rnd ⟨a', b', c', d', e', f', g', h'⟩ xk xw).a, a', b', c', (rnd ⟨a', b', c', d', e', f', g', h'⟩ xk xw).e, e', f', g', by omega, ?_, ⟨?_⟩, ?_⟩, rfl⟩
      ·go_num
      ·rw [rds, ← HS.out, HXK.out, HXW.out]; rfl
      ·rw [← rnd_a _ HOK'.out, ← rnd_e _ HOK'.out]
       exact set8 _ _ _ _ _ _ _ _ _ _ _ _ _ _ _ _ _ _ _ _ (by simp)
     case measure => simp [intOf]; omega
    ·have hk64 : k = 64 := by omega
     subst hk64
     clear hlt
     go_wp2
     go_loopw [151] (fun i wr => ∃ (k m : Nat), k ≤ 8 ∧ i = .int .i64 k ∧ wr = ((((w.alloc (.cells (u32s (hAt [a, b, c, d, e, f, g, hh] [a', b', c', d', e', f', g', h'] k)) 188)).alloc (.cells (u32s [0,0,0,0,0,0,0,0]) 188)).alloc (.cells (u32s L) 185)).alloc (.cells (u32s [a', b', c', d', e', f', g', h']) 188)).drewN m) (fun i _ => 8 - (intOf i).toNat)
     case atStart => exact ⟨0, m, by omega, rfl, rfl⟩
     case round =>
      obtain ⟨k, m2, hk, rfl, rfl⟩ := hrel
      by_cases hlt : k < 8
      ·have hx := hAt_get [a, b, c, d, e, f, g, hh] [a', b', c', d', e', f', g', h'] k hlt
       have hy : (u32s [a', b', c', d', e', f', g', h'])[k]? = some (.int .u32 (([a', b', c', d', e', f', g', h'] : List Nat).getD k 0 : Nat)) := u32s_get _ _ (by simpa using hlt)
       generalize hxv : ([a, b, c, d, e, f, g, hh] : List Nat).getD k 0 = x at hx
       generalize hyv : ([a', b', c', d', e', f', g', h'] : List Nat).getD k 0 = y at hy
       have HX := Aside0.mk hxv
       have HY := Aside0.mk hyv
       clear hxv hyv
       go_wp2
       refine wp_still_tail 8 (by kernel_rfl) (by kernel_rfl) ?_
       intro W hW
       have g1 : W.cell? ⟨w.heap.size, k, none⟩ = some (.int .u32 (x : Int)) := by rw [hW]; go_simp
       have g2 : W.cell? ⟨w.heap.size + 1 + 1 + 1, k, none⟩ = some (.int .u32 (y : Int)) := by rw [hW]; go_simp
       have gf : W.frozen? ⟨w.heap.size, k, none⟩ = false := by rw [hW]; go_simp
       have HW := Aside0.mk hW
       clear hW hx hy
       simp only [List.take_succ_cons, List.take_zero, List.drop_succ_cons, List.drop_zero]
       repeat still_step
       refine wpStill_nil ?_
       go_wp2
       go_roundw
       case rel =>
        go_light
        repeat apply Exists.intro
        refine ⟨⟨k + 1, m2 + 1, by omega, ?_, ?_⟩, rfl⟩
        ·go_num
        ·rw [show (((x : Int) + (y : Int)) % 4294967296) = (((x + y) % 4294967296 : Nat) : Int) by omega, HW.out, set_first, ← HX.out, ← HY.out, hAt_set _ _ _ hlt]
       case measure => simp [intOf]; omega
      ·have hk8 : k = 8 := by omega
       subst hk8
       clear hlt
       have e1 : u32s (hAt [a, b, c, d, e, f, g, hh] [a', b', c', d', e', f', g', h'] 8) = #[.int .u32 (((St.mk a b c d e f g hh).add ⟨a', b', c', d', e', f', g', h'⟩).a : Int), .int .u32 (((St.mk a b c d e f g hh).add ⟨a', b', c', d', e', f', g', h'⟩).b : Int), .int .u32 (((St.mk a b c d e f g hh).add ⟨a', b', c', d', e', f', g', h'⟩).c : Int), .int .u32 (((St.mk a b c d e f g hh).add ⟨a', b', c', d', e', f', g', h'⟩).d : Int), .int .u32 (((St.mk a b c d e f g hh).add ⟨a', b', c', d', e', f', g', h'⟩).e : Int), .int .u32 (((St.mk a b c d e f g hh).add ⟨a', b', c', d', e', f', g', h'⟩).f : Int), .int .u32 (((St.mk a b c d e f g hh).add ⟨a', b', c', d', e', f', g', h'⟩).g : Int), .int .u32 (((St.mk a b c d e f g hh).add ⟨a', b', c', d', e', f', g', h'⟩).h : Int)] := rfl
       rw [e1]
       have e2 : (St.mk a b c d e f g hh).add ⟨a', b', c', d', e', f', g', h'⟩ = stp ⟨a, b, c, d, e, f, g, hh⟩ (bys s) := by rw [stp, HL.out, ← HS.out]
       generalize (St.mk a b c d e f g hh).add ⟨a', b', c', d', e', f', g', h'⟩ = s' at *
       have E2 := Aside0.mk e2
       clear e1 e2
       have e3 : u32s [0, 0, 0, 0, 0, 0, 0, 0] = #[.int .u32 0, .int .u32 0, .int .u32 0, .int .u32 0, .int .u32 0, .int .u32 0, .int .u32 0, .int .u32 0] := rfl
       rw [e3]
       clear e3
       go_wp2
       refine bodyPost_ret (v := .agg #[.int .u32 (s'.a : Int), .int .u32 (s'.b : Int), .int .u32 (s'.c : Int), .int .u32 (s'.d : Int), .int .u32 (s'.e : Int), .int .u32 (s'.f : Int), .int .u32 (s'.g : Int), .int .u32 (s'.h : Int)]) (by simp [results, Try.results156, go_sem]) rfl ⟨⟨s', E2.out, rfl⟩, ?_⟩
       iterate 8 (refine Below.setCell ?_ (show w.heap.size ≤ w.heap.size + 1 by omega) _)
       exact pw_below_drewN (below_alloc (below_alloc (below_alloc (below_alloc (Below.refl _ _) _) _) _) _) _
end Go.Proofs.Ytbkbganflnemeaa.Pr
namespace Go.Proofs.Ytbkbganflnemeaa.Pr
open Go.RowKit Go.Deep Go.Proofs.YtbkbganflnemeaaW.PrintWords
set_option maxHeartbeats 2000000
theorem u32s_one (l : List Nat) : (u32s l).all (·.oneCell') = true := by
 simp [u32s, Value.oneCell']
set_option maxRecDepth 100000 in
theorem constants.calls (w : World) : Calls Try.prog 154 #[] w fun e w' => e = .returned (.agg (u32s shaK)) ∧ Below w.heap.size w w' := by
 have hinf : (Try.prog.info? 185).map (·.size) = some 64 := by kernel_rfl
 go_enter Try.func154, Try.ntmps154
 go_wp2_with (refine wpList_store_row rfl 185 (.tmp 0) (.tmp 1) rfl _ (u32s shaK) rfl rfl 185 _ (heap_alloc_last _ _) hinf (by rfl) (u32s_one _) ?_; rw [World.setRow_alloc_new])
 exact bodyPost_ret (results_cell_row Try.results154 _ _ w.heap.size 185 (u32s shaK) (0, 0) _ rfl (heap_alloc_last _ _) Try.underlying185 rfl hinf) rfl ⟨rfl, (Below.refl _ _).alloc (Nat.le_refl _) _⟩
theorem cell_row8 {w : World} {g : Nat} {t : TypeId} {x0 x1 x2 x3 x4 x5 x6 x7 : Value} (h : w.heap[g]? = some (.cells #[x0, x1, x2, x3, x4, x5, x6, x7] t (0, 0))) :
  w.cell? ⟨g, 0, none⟩ = some x0 ∧ w.cell? ⟨g, 1, none⟩ = some x1 ∧ w.cell? ⟨g, 2, none⟩ = some x2 ∧ w.cell? ⟨g, 3, none⟩ = some x3 ∧ w.cell? ⟨g, 4, none⟩ = some x4 ∧ w.cell? ⟨g, 5, none⟩ = some x5 ∧ w.cell? ⟨g, 6, none⟩ = some x6 ∧ w.cell? ⟨g, 7, none⟩ = some x7 := by
 have h' := fun i => blk_cell h i
 exact ⟨(h' 0).trans rfl, (h' 1).trans rfl, (h' 2).trans rfl, (h' 3).trans rfl, (h' 4).trans rfl, (h' 5).trans rfl, (h' 6).trans rfl, (h' 7).trans rfl⟩
end Go.Proofs.Ytbkbganflnemeaa.Pr
end

section
namespace Go.Proofs.Ytbkbganflnemeaa.Pr
open Go.RowKit Go.Proofs.YtbkbganflnemeaaW.PrintWords
set_option maxHeartbeats 1000000
theorem wr (x : Int) (h0 : 0 ≤ x) (h1 : x < 4611686018427387904) : wrap64 x = x := by unfold wrap64; omega
def ints (l : List Nat) : List Int := l.map fun (n : Nat) => (n : Int)
theorem ints_append (a b : List Nat) : ints (a ++ b) = ints a ++ ints b := by simp [ints]
theorem str_ints (l : List Nat) : strOfNums (ints l) = txt l := str_nats l
end Go.Proofs.Ytbkbganflnemeaa.Pr
end

section
namespace Go.Proofs.Ytbkbganflnemeaa.Pr
open Go.RowKit Go.Proofs.YtbkbganflnemeaaW.PrintWords Go.Proofs.YtbkbganflnemeaaW.PrintLast Go.Proofs.YtbkbganflnemeaaW.PrintMore
set_option maxHeartbeats 1000000
structure RV (w : World) (g : Nat) (a b c d : Int) (W : World) : Prop where
 grown : w.grownBy W (some g)
 row : W.heap[g]? = some (.cells #[.int .u8 a, .int .u8 b, .int .u8 c, .int .u8 d] 5 (0, 0))
theorem grownBy_set {w W : World} {g : Nat} (h : w.grownBy W (some g)) (i : Nat) (v : Value) : w.grownBy (W.setCell ⟨g, i, none⟩ v) (some g) := by
 refine ⟨h.os, h.tape, h.output, by simpa using h.size, fun k hk hne => ?_⟩
 rw [Below.heap_setCell W ⟨g, i, none⟩ v k (by intro e; exact hne (by rw [e]))]
 exact h.block k hk hne
theorem grownBy_drewN {w W : World} {row : Option Nat} (h : w.grownBy W row) (n : Nat) : w.grownBy (W.drewN n) row := ⟨h.os, h.tape, h.output, h.size, h.block⟩
theorem grownBy_self (w : World) (row : Option Nat) : w.grownBy w row := ⟨rfl, rfl, rfl, Nat.le_refl _, fun _ _ _ => rfl⟩
set_option maxRecDepth 100000 in
theorem reverse4_calls (g : Nat) (a b c d : Int) (w : World) (h : w.heap[g]? = some (.cells #[.int .u8 a, .int .u8 b, .int .u8 c, .int .u8 d] 5 (0, 0))) :
  Calls Try.prog 149 #[.slice (some ⟨g, 0, none⟩) 4 4] w fun e w' => e = .returned (.tuple #[]) ∧ RV w g d c b a w' := by
 have H : Aside0 (RV w g a b c d w) := ⟨⟨grownBy_self _ _, h⟩⟩
 clear h
 go_enter Try.func149, Try.ntmps149
 go_wp2_with (fail)
 go_loopw [2, 3] (fun i j wr => (i = .int .i64 0 ∧ j = .int .i64 3 ∧ Aside0 (RV w g a b c d wr)) ∨ (i = .int .i64 1 ∧ j = .int .i64 2 ∧ Aside0 (RV w g d b c a wr)) ∨ (i = .int .i64 2 ∧ j = .int .i64 1 ∧ Aside0 (RV w g d c b a wr))) (fun i _ _ => 3 - (intOf i).toNat)
 case atStart => exact Or.inl ⟨rfl, rfl, H⟩
 case round =>
  clear H
  rcases hrel with ⟨rfl, rfl, H⟩ | ⟨rfl, rfl, H⟩ | ⟨rfl, rfl, H⟩
  ·have c0 : wr.cell? ⟨g, 0, none⟩ = some (.int .u8 a) := blk_cell H.out.row 0
   have c3 : wr.cell? ⟨g, 3, none⟩ = some (.int .u8 d) := blk_cell H.out.row 3
   have f0 := blk_frozen H.out.row 0
   have f3 := blk_frozen H.out.row 3
   go_wp2_with (fail)
   refine start_ (n := 16) (S := fun w' => w'.cell? ⟨g, 3, none⟩ = some (.int .u8 (d : Int)) ∧ w'.cell? ⟨g, 0, none⟩ = some (.int .u8 (a : Int))) (ds := [13, 15]) #[false, false, false, false, false, false, false, false, false, false, false, false, false, false, false, false] (by kernel_rfl) rfl rfl ⟨(show _ from c3), (show _ from c0)⟩ (fun hHeld => ?_)
   refine pz_ 0 14 rfl rfl (by kernel_rfl) ?_
   refine pz_ 1 15 rfl rfl (by kernel_rfl) ?_
   refine pz_ 2 16 rfl rfl (by kernel_rfl) ?_
   refine pz_ 3 17 rfl rfl (by kernel_rfl) ?_
   refine pz_ 4 18 rfl rfl (by kernel_rfl) ?_
   refine pz_ 5 19 rfl rfl (by kernel_rfl) ?_
   refine pz_ 6 20 rfl rfl (by kernel_rfl) ?_
   refine pz_ 8 22 rfl rfl (by kernel_rfl) ?_
   refine pz_ 9 23 rfl rfl (by kernel_rfl) ?_
   refine pz_ 10 24 rfl rfl (by kernel_rfl) ?_
   refine take_ (i := 7) (N := some 21) (v := ?_) (a' := ?_) #[true, true, true, true, true, true, true, true, true, true, true, false, false, false, false, false] rfl rfl (by kernel_rfl) (fun _ _ _ h => h) (Or.inl ⟨by rfl, ?_⟩) hHeld ?_ ?_
   rotate_left
   ·rintro w' ⟨s0, s1⟩
    go_simp
    with_reducible rfl
   rotate_left
   ·simp only [Act.put, List.setIfInBounds_toArray, List.set_cons_zero, List.set_cons_succ, i64_w, i32_w]
    rfl
   refine take_ (i := 11) (N := some 25) (v := ?_) (a' := ?_) #[true, true, true, true, true, true, true, true, true, true, true, true, false, false, false, false] rfl rfl (by kernel_rfl) (fun _ _ _ h => h) (Or.inl ⟨by rfl, ?_⟩) hHeld ?_ ?_
   rotate_left
   ·rintro w' ⟨s0, s1⟩
    go_simp
    with_reducible rfl
   rotate_left
   ·simp only [Act.put, List.setIfInBounds_toArray, List.set_cons_zero, List.set_cons_succ, i64_w, i32_w]
    rfl
   refine pz_ 12 26 rfl rfl (by kernel_rfl) ?_
   refine last_ (i := 13) (N := none) #[true, true, true, true, true, true, true, true, true, true, true, true, true, true, false, false] rfl rfl (by kernel_rfl) (by decide) (fun K hK => ?_)
   refine skip_ (w1 := ?_) (by rfl) rfl ?_ ?_
   rotate_left
   ·go_simp
    rfl
   refine hK.out _ _ ?_
   clear hK K
   refine pz_ 14 27 rfl rfl (by kernel_rfl) ?_
   refine last_ (i := 15) (N := none) #[true, true, true, true, true, true, true, true, true, true, true, true, true, true, true, true] rfl rfl (by kernel_rfl) (by decide) (fun K hK => ?_)
   refine skip_ (w1 := ?_) (by rfl) rfl ?_ ?_
   rotate_left
   ·go_simp
    rfl
   refine hK.out _ _ ?_
   clear hK K
   refine done_ (by kernel_rfl) ?_
   go_wp2
   refine ⟨Or.inr (Or.inl ⟨rfl, rfl, ⟨⟨grownBy_set (grownBy_set (grownBy_drewN H.out.grown 1) 0 _) 3 _, ?_⟩⟩⟩), by simp [intOf]⟩
   exact blk_put (blk_put (blk_drewN H.out.row 1) 0 _ rfl) 3 _ rfl
  ·have c1 : wr.cell? ⟨g, 1, none⟩ = some (.int .u8 b) := blk_cell H.out.row 1
   have c2 : wr.cell? ⟨g, 2, none⟩ = some (.int .u8 c) := blk_cell H.out.row 2
   have f1 := blk_frozen H.out.row 1
   have f2 := blk_frozen H.out.row 2
   go_wp2_with (fail)
   refine start_ (n := 16) (S := fun w' => w'.cell? ⟨g, 2, none⟩ = some (.int .u8 (c : Int)) ∧ w'.cell? ⟨g, 1, none⟩ = some (.int .u8 (b : Int))) (ds := [13, 15]) #[false, false, false, false, false, false, false, false, false, false, false, false, false, false, false, false] (by kernel_rfl) rfl rfl ⟨(show _ from c2), (show _ from c1)⟩ (fun hHeld => ?_)
   refine pz_ 0 14 rfl rfl (by kernel_rfl) ?_
   refine pz_ 1 15 rfl rfl (by kernel_rfl) ?_
   refine pz_ 2 16 rfl rfl (by kernel_rfl) ?_
   refine pz_ 3 17 rfl rfl (by kernel_rfl) ?_
   refine pz_ 4 18 rfl rfl (by kernel_rfl) ?_
   refine pz_ 5 19 rfl rfl (by kernel_rfl) ?_
   refine pz_ 6 20 rfl rfl (by kernel_rfl) ?_
   refine pz_ 8 22 rfl rfl (by kernel_rfl) ?_
   refine pz_ 9 23 rfl rfl (by kernel_rfl) ?_
   refine pz_ 10 24 rfl rfl (by kernel_rfl) ?_
   refine take_ (i := 7) (N := some 21) (v := ?_) (a' := ?_) #[true, true, true, true, true, true, true, true, true, true, true, false, false, false, false, false] rfl rfl (by kernel_rfl) (fun _ _ _ h => h) (Or.inl ⟨by rfl, ?_⟩) hHeld ?_ ?_
   rotate_left
   ·rintro w' ⟨s0, s1⟩
    go_simp
    with_reducible rfl
   rotate_left
   ·simp only [Act.put, List.setIfInBounds_toArray, List.set_cons_zero, List.set_cons_succ, i64_w, i32_w]
    rfl
   refine take_ (i := 11) (N := some 25) (v := ?_) (a' := ?_) #[true, true, true, true, true, true, true, true, true, true, true, true, false, false, false, false] rfl rfl (by kernel_rfl) (fun _ _ _ h => h) (Or.inl ⟨by rfl, ?_⟩) hHeld ?_ ?_
   rotate_left
   ·rintro w' ⟨s0, s1⟩
    go_simp
    with_reducible rfl
   rotate_left
   ·simp only [Act.put, List.setIfInBounds_toArray, List.set_cons_zero, List.set_cons_succ, i64_w, i32_w]
    rfl
   refine pz_ 12 26 rfl rfl (by kernel_rfl) ?_
   refine last_ (i := 13) (N := none) #[true, true, true, true, true, true, true, true, true, true, true, true, true, true, false, false] rfl rfl (by kernel_rfl) (by decide) (fun K hK => ?_)
   refine skip_ (w1 := ?_) (by rfl) rfl ?_ ?_
   rotate_left
   ·go_simp
    rfl
   refine hK.out _ _ ?_
   clear hK K
   refine pz_ 14 27 rfl rfl (by kernel_rfl) ?_
   refine last_ (i := 15) (N := none) #[true, true, true, true, true, true, true, true, true, true, true, true, true, true, true, true] rfl rfl (by kernel_rfl) (by decide) (fun K hK => ?_)
   refine skip_ (w1 := ?_) (by rfl) rfl ?_ ?_
   rotate_left
   ·go_simp
    rfl
   refine hK.out _ _ ?_
   clear hK K
   refine done_ (by kernel_rfl) ?_
   go_wp2
   refine ⟨Or.inr (Or.inr ⟨rfl, rfl, ⟨⟨grownBy_set (grownBy_set (grownBy_drewN H.out.grown 1) 1 _) 2 _, ?_⟩⟩⟩), by simp [intOf]⟩
   exact blk_put (blk_put (blk_drewN H.out.row 1) 1 _ rfl) 2 _ rfl
  ·go_wp2
   go_end0
   exact ⟨rfl, H.out⟩
def strings_Repeat.f (a0 : ByteArray) (a1 : Int) : Option ByteArray :=
 if 0 ≤ a1 ∧ a1 ≤ 1000000000 ∧ a0.size ≤ 100000 then some ⟨(Lib.repeatL a0.data.toList a1.toNat).toArray⟩ else none
theorem strings_Repeat.calls (a0 : ByteArray) (a1 : Int) (r : ByteArray) (w : World) (h : strings_Repeat.f a0 a1 = some r) :
  Calls Try.prog 51 #[.string a0, .int .i64 a1] w fun e w' => e = .returned (.string r) ∧ Below w.heap.size w w' := by
 unfold strings_Repeat.f at h
 by_cases hc : 0 ≤ a1 ∧ a1 ≤ 1000000000 ∧ a0.size ≤ 100000
 ·rw [if_pos hc] at h
  obtain rfl := Option.some.inj h
  obtain ⟨h0, h1, h2⟩ := hc
  obtain ⟨n, rfl⟩ := Int.eq_ofNat_of_zero_le h0
  have hn : n ≤ 1000000000 := by omega
  have hm : a0.size * n ≤ 100000 * 1000000000 := Nat.mul_le_mul h2 hn
  exact Try.strings_Repeat a0 n w (by omega) (by omega)
 ·rw [if_neg hc] at h
  cases h
theorem copyCheck_exact (B b : Nat) (bs : List Value) (w : World) (h : Lib.IsBuilder 115 5 B b bs w) :
  Calls Try.prog 118 #[.pointer (some ⟨b, 0, none⟩)] w fun e w' => e = .returned (.tuple #[]) ∧ (w' = w ∨ w' = w.setCell ⟨b, 0, none⟩ (.pointer (some ⟨b, 0, none⟩))) ∧ Lib.BuilderAt 115 5 B b (.pointer (some ⟨b, 0, none⟩)) bs w' := by
 rcases h with h | h
 ·refine (Any.Builder_copyCheck_fresh Try.lays240 Try.Builder_X72_240 b w h.cell0 h.shape h.frozen0).mono ?_
  rintro e w' ⟨rfl, rfl⟩
  exact ⟨rfl, .inr rfl, h.used _⟩
 ·refine (Any.Builder_copyCheck_used Try.lays240 Try.Builder_X72_240 b w h.cell0).mono ?_
  rintro e w' ⟨rfl, rfl⟩
  exact ⟨rfl, .inl rfl, h⟩
set_option maxRecDepth 100000 in
theorem builder_write (B b : Nat) (bs : List Value) (g m c : Nat) (news : List Value) (w : World) (h : Lib.IsBuilder 115 5 B b bs w)
  (hl : news.length = m) (hnews : ∀ j u, news[j]? = some u → w.cell? ⟨g, j, none⟩ = some u) (hgb : g ≠ b) (h1 : ∀ u ∈ news, u.oneCell' = true) (hlen : bs.length + m ≤ 140737488355328) (hBw : B ≤ w.heap.size) :
  Calls Try.prog 150 #[.pointer (some ⟨b, 0, none⟩), .slice (some ⟨g, 0, none⟩) m c] w fun e w' => e = .returned (.tuple #[.int .i64 m, .nilIface]) ∧ (Lib.BuilderAt 115 5 B b (.pointer (some ⟨b, 0, none⟩)) (bs ++ news) w' ∧ Below B w w') := by
 obtain ⟨i0, hi, hz0, hz1, hz2⟩ := info_parts Try.Builder_Extra_105.infoByte
 go_enter Try.func150, Try.ntmps150
 go_wp2_with (go_at_call 118; refine (copyCheck_exact B b bs _ h).mono ?_)
 rintro e w1 ⟨rfl, hw1, h1'⟩
 have hb1 : Below B w w1 := by
  rcases hw1 with rfl | rfl
  ·exact Below.refl _ _
  ·exact (Below.refl B w).setCell (p := ⟨b, 0, none⟩) h1'.1 _
 have hnews1 : ∀ j u, news[j]? = some u → w1.cell? ((⟨g, 0, none⟩ : Addr).add j) = some u := by
  intro j u hj
  rw [add_plain]
  rcases hw1 with rfl | rfl
  ·exact hnews j u hj
  ·rw [World.cell?_setCell_other _ _ _ _ (by intro e; injection e with e _ _; exact hgb e.symm)]
   exact hnews j u hj
 clear hw1 hnews
 obtain ⟨hB, v, hbk, hown, hne⟩ := h1'
 have c0 : w1.cell? ⟨b, 0, none⟩ = some (.pointer (some ⟨b, 0, none⟩)) := by rw [Lib.cell_of_heap hbk]; rfl
 have c1 : w1.cell? ⟨b, 1, none⟩ = some v := by rw [Lib.cell_of_heap hbk]; rfl
 go_wp2_with (at_builtin; refine wpList_append_own _ rfl _ _ 68 rfl B 5 i0 (.int .u8 0) 1 1 Try.underlying68 hi hz0 hz1 hz2 rfl (by decide) _ _ _ rfl hown ⟨g, 0, none⟩ m c news rfl (by omega) hnews1 h1 ?c3 ?c4 ?c5 ?_)
 case c3 => unfold maxLen; omega
 case c4 => omega
 case c5 => have := hb1.size; omega
 intro v' w2 hown' hgrow _
 have hlt : b < w1.heap.size := blk_lt hbk
 have hb2 : w2.heap[b]? = some (.cells #[.pointer (some ⟨b, 0, none⟩), v] 115 (0, 0)) := by
  rw [hgrow.block b hlt (fun e => hne e.symm)]
  exact hbk
 have d0 : w2.cell? ⟨b, 0, none⟩ = some (.pointer (some ⟨b, 0, none⟩)) := by rw [Lib.cell_of_heap hb2]; rfl
 have d1 : w2.cell? ⟨b, 1, none⟩ = some v := by rw [Lib.cell_of_heap hb2]; rfl
 have f1 : w2.frozen? ⟨b, 1, none⟩ = false := Lib.frozen_of_heap hb2 1
 obtain ⟨ao, n', cap, rfl⟩ : ∃ ao n' cap, v' = .slice ao n' cap := by
  rcases hown'.2 with ⟨hv, _⟩ | ⟨g, cap, cur, hv, _⟩
  ·exact ⟨_, _, _, hv⟩
  ·exact ⟨_, _, _, hv⟩
 go_wp2
 go_ret2
 refine ⟨rfl, ?_, ?_⟩
 ·exact Lib.BuilderAt.put (T := 115) (e := 5) hB hb2 (bs' := bs ++ news) (by simpa [hl] using hown') (by decide)
 ·exact (hb1.grown hgrow (by have := hb1.size; omega) (fun k hk => (hown.lt k hk).1)).setCell (p := ⟨b, 1, none⟩) hB _
def by4i (x : Int) : List Int := [x / 16777216 % 256, x / 65536 % 256, x / 256 % 256, x % 256]
theorem by4i_length (x : Int) : (by4i x).length = 4 := rfl
theorem flat4i_length (l : List Int) : (l.flatMap by4i).length = 4 * l.length := by
 induction l with
 | nil => rfl
 | cons x l ih => rw [List.flatMap_cons, List.length_append, by4i_length, ih, List.length_cons]; omega
def le4i (x : Int) : List Int := [x % 256, x / 256 % 256, x / 65536 % 256, x / 16777216 % 256]
theorem le4i_length (x : Int) : (le4i x).length = 4 := rfl
theorem flat4r_length (l : List Int) : (l.flatMap le4i).length = 4 * l.length := by
 induction l with
 | nil => rfl
 | cons x l ih => rw [List.flatMap_cons, List.length_append, le4i_length, ih, List.length_cons]; omega
def word_put.f (l0 : List Int) (a1 : Bool) : Option ByteArray := if l0.length ≤ 1000000 then some (strOfNums (l0.flatMap (if a1 then le4i else by4i))) else none
theorem cells_of_nums (xs : List Int) (hx : ∀ x ∈ xs, 0 ≤ x ∧ x < 256) : Lib.byteCells (xs.map fun n => UInt8.ofNat n.toNat) = nums .u8 xs := by
 unfold Lib.byteCells nums
 rw [List.map_map]
 refine List.map_congr_left fun n hn => ?_
 obtain ⟨h0, h1⟩ := hx n hn
 simp
 omega
theorem by4i_range (l : List Int) : ∀ x ∈ l.flatMap by4i, 0 ≤ x ∧ x < 256 := by
 intro x hx
 rw [List.mem_flatMap] at hx
 obtain ⟨y, _, hy⟩ := hx
 simp only [by4i, List.mem_cons, List.not_mem_nil, or_false] at hy
 rcases hy with rfl | rfl | rfl | rfl <;> omega
theorem le4i_range (l : List Int) : ∀ x ∈ l.flatMap le4i, 0 ≤ x ∧ x < 256 := by
 intro x hx
 rw [List.mem_flatMap] at hx
 obtain ⟨y, _, hy⟩ := hx
 simp only [le4i, List.mem_cons, List.not_mem_nil, or_false] at hy
 rcases hy with rfl | rfl | rfl | rfl <;> omega
set_option maxRecDepth 100000 in
theorem word_put.plain (A0 : Option Addr) (c0 : Nat) (l0 : List Int) (w : World) (hr0 : Kd.C (Kd.int .i64) w A0 l0.length l0) (hc0 : l0.length ≤ c0) (hlen : l0.length ≤ 1000000) :
  Calls Try.prog 127 #[.slice A0 l0.length c0, .bool false] w fun e w' => e = .returned (.string (strOfNums (l0.flatMap by4i))) ∧ Below w.heap.size w w' := by
 have hr := Aside0.mk (Kd.reads_of_C (enc := Value.int .i64) (d := (0 : Int)) (h1 := fun _ => rfl) hr0)
 clear hr0
 go_enter Try.func127, Try.ntmps127
 go_wp2
 go_loopw [11] (fun i wr => ∃ k : Nat, k ≤ l0.length ∧ i = .int .i64 k ∧ Aside0 (Lib.IsBuilder 115 5 w.heap.size w.heap.size (nums .u8 ((l0.take k).flatMap by4i)) wr) ∧ Aside0 (Below w.heap.size w wr)) (fun i _ => l0.length - (intOf i).toNat)
 case atStart => exact ⟨0, by omega, rfl, ⟨Lib.fresh_isBuilder _ _ w⟩, ⟨below_alloc (Below.refl _ _) _⟩⟩
 case round =>
  obtain ⟨k, hk, rfl, HI, HB⟩ := hrel
  by_cases hlt : k < l0.length
  ·obtain ⟨ad, hA, hcell⟩ := (hr.out.below HB.out).at_ (k : Int) (by omega) (by omega)
   subst hA
   rw [Int.toNat_natCast] at hcell
   generalize hx : rdOf (0 : Int) l0 (k : Int) = x at hcell
   have HX := Aside0.mk hx
   clear hx
   have hlt1 : w.heap.size < wr.heap.size := by
    rcases HI.out with h | h
    ·exact h.lt
    ·exact h.lt
   have hne : wr.heap.size ≠ w.heap.size := by omega
   have hbw : w.heap.size ≤ wr.heap.size := by omega
   have hlen4 : (nums .u8 ((l0.take k).flatMap by4i)).length ≤ 4000000 := by
    rw [nums_length, flat4i_length, List.length_take]
    omega
   have HI2 : Aside0 (Lib.IsBuilder 115 5 w.heap.size w.heap.size (nums .u8 ((l0.take k).flatMap by4i)) (wr.alloc (.cells #[.int .u8 (x / 16777216 % 256), .int .u8 (x / 65536 % 256), .int .u8 (x / 256 % 256), .int .u8 (x % 256)] 5))) := by
    refine ⟨?_⟩
    rcases HI.out with ⟨h1, v, h2, h3, h4⟩ | ⟨h1, v, h2, h3, h4⟩
    ·exact .inl ⟨h1, v, blk_alloc h2 _, h3.alloc _, h4⟩
    ·exact .inr ⟨h1, v, blk_alloc h2 _, h3.alloc _, h4⟩
   have HE := Aside0.mk hne
   have HL := Aside0.mk hlen4
   clear hne hlen4
   go_wp2_with (go_at_call 150; refine (builder_write w.heap.size w.heap.size (nums .u8 ((l0.take k).flatMap by4i)) wr.heap.size 4 4 (nums .u8 (by4i x)) _ HI2.out rfl (fun j u hj => ?_) HE.out (fun u hu => ?_) (by have := HL.out; omega) (by simp; omega)).mono ?_)
   ·rw [cell_of_row _ _ _ _ _ _ (heap_alloc_new wr _)]
    simpa [nums, by4i] using hj
   ·simp only [nums, by4i, List.map_cons, List.map_nil, List.mem_cons, List.not_mem_nil, or_false] at hu
    rcases hu with rfl | rfl | rfl | rfl <;> rfl
   ·rintro e w2 ⟨rfl, hb2, hbel⟩
    have HB2 := Aside0.mk (show Lib.IsBuilder 115 5 w.heap.size w.heap.size (nums .u8 ((l0.take (k + 1)).flatMap by4i)) w2 from .inr (by
     have e1 : l0.take (k + 1) = l0.take k ++ [x] := by
      rw [List.take_succ_eq_append_getElem hlt, ← HX.out]
      simp [rdOf, hlt]
     rw [e1, List.flatMap_append, nums_append]
     simpa using hb2))
    have HL2 := Aside0.mk (show Below w.heap.size w w2 from (below_alloc HB.out _).trans hbel)
    clear hb2 hbel
    go_wp2
    refine ⟨⟨k + 1, by omega, by go_num, HB2, HL2⟩, by simp [intOf]; omega⟩
  ·obtain rfl : k = l0.length := by omega
   have HI2 := HI.out
   rw [List.take_length, ← cells_of_nums _ (by4i_range l0)] at HI2
   have HI3 := Aside0.mk HI2
   clear HI2 hlt hk
   go_wp2_with (go_at_call 86; refine (Try.Builder_String_any w.heap.size w.heap.size _ _ HI3.out HB.out.size).mono ?_; rintro e w2 ⟨rfl, hb2⟩)
   go_ret
   exact ⟨rfl, HB.out.trans hb2⟩
set_option maxRecDepth 100000 in
theorem word_put.turned (A0 : Option Addr) (c0 : Nat) (l0 : List Int) (w : World) (hr0 : Kd.C (Kd.int .i64) w A0 l0.length l0) (hc0 : l0.length ≤ c0) (hlen : l0.length ≤ 1000000) :
  Calls Try.prog 127 #[.slice A0 l0.length c0, .bool true] w fun e w' => e = .returned (.string (strOfNums (l0.flatMap le4i))) ∧ Below w.heap.size w w' := by
 have hr := Aside0.mk (Kd.reads_of_C (enc := Value.int .i64) (d := (0 : Int)) (h1 := fun _ => rfl) hr0)
 clear hr0
 go_enter Try.func127, Try.ntmps127
 go_wp2
 go_loopw [11] (fun i wr => ∃ k : Nat, k ≤ l0.length ∧ i = .int .i64 k ∧ Aside0 (Lib.IsBuilder 115 5 w.heap.size w.heap.size (nums .u8 ((l0.take k).flatMap le4i)) wr) ∧ Aside0 (Below w.heap.size w wr)) (fun i _ => l0.length - (intOf i).toNat)
 case atStart => exact ⟨0, by omega, rfl, ⟨Lib.fresh_isBuilder _ _ w⟩, ⟨below_alloc (Below.refl _ _) _⟩⟩
 case round =>
  obtain ⟨k, hk, rfl, HI, HB⟩ := hrel
  by_cases hlt : k < l0.length
  ·obtain ⟨ad, hA, hcell⟩ := (hr.out.below HB.out).at_ (k : Int) (by omega) (by omega)
   subst hA
   rw [Int.toNat_natCast] at hcell
   generalize hx : rdOf (0 : Int) l0 (k : Int) = x at hcell
   have HX := Aside0.mk hx
   clear hx
   have hlt1 : w.heap.size < wr.heap.size := by
    rcases HI.out with h | h
    ·exact h.lt
    ·exact h.lt
   have hne : wr.heap.size ≠ w.heap.size := by omega
   have hbw : w.heap.size ≤ wr.heap.size := by omega
   have hlen4 : (nums .u8 ((l0.take k).flatMap le4i)).length ≤ 4000000 := by
    rw [nums_length, flat4r_length, List.length_take]
    omega
   have HI2 : Aside0 (Lib.IsBuilder 115 5 w.heap.size w.heap.size (nums .u8 ((l0.take k).flatMap le4i)) (wr.alloc (.cells #[.int .u8 (x / 16777216 % 256), .int .u8 (x / 65536 % 256), .int .u8 (x / 256 % 256), .int .u8 (x % 256)] 5))) := by
    refine ⟨?_⟩
    rcases HI.out with ⟨h1, v, h2, h3, h4⟩ | ⟨h1, v, h2, h3, h4⟩
    ·exact .inl ⟨h1, v, blk_alloc h2 _, h3.alloc _, h4⟩
    ·exact .inr ⟨h1, v, blk_alloc h2 _, h3.alloc _, h4⟩
   have HE := Aside0.mk hne
   have HL := Aside0.mk hlen4
   clear hne hlen4
   go_wp2_with (go_at_call 149; refine (reverse4_calls wr.heap.size _ _ _ _ _ (heap_alloc_new wr _)).mono ?_)
   rintro e w9 ⟨rfl, hrv⟩
   have hb9 : w.heap.size ≤ w9.heap.size := Nat.le_trans (by simp; omega) hrv.grown.size
   have HI3 : Aside0 (Lib.IsBuilder 115 5 w.heap.size w.heap.size (nums .u8 ((l0.take k).flatMap le4i)) w9) := by
    refine ⟨?_⟩
    have hown : ∀ v : Value, ∀ n, wr.ownsRow w.heap.size 5 1 v n (nums .u8 ((l0.take k).flatMap le4i)) → v.ownBlock ≠ some wr.heap.size := fun v n ho he => absurd ((ho.lt _ he).2) (by omega)
    rcases HI.out with ⟨h1, v, h2, h3, h4⟩ | ⟨h1, v, h2, h3, h4⟩
    ·exact .inl ⟨h1, v, blk_grown (blk_alloc h2 _) hrv.grown (by intro e; injection e with e; omega), (h3.alloc _).kept hrv.grown (.inr (hown v _ h3)), h4⟩
    ·exact .inr ⟨h1, v, blk_grown (blk_alloc h2 _) hrv.grown (by intro e; injection e with e; omega), (h3.alloc _).kept hrv.grown (.inr (hown v _ h3)), h4⟩
   have HB9 : Aside0 (Below w.heap.size w w9) := ⟨pw_below_grown (below_alloc HB.out _) (some wr.heap.size) (by simp; omega) hrv.grown (fun k e => by injection e with e; omega)⟩
   have HRV := Aside0.mk hrv.row
   clear hrv
   go_wp2_with (go_at_call 150; refine (builder_write w.heap.size w.heap.size (nums .u8 ((l0.take k).flatMap le4i)) wr.heap.size 4 4 (nums .u8 (le4i x)) _ HI3.out rfl (fun j u hj => ?_) HE.out (fun u hu => ?_) (by have := HL.out; omega) hb9).mono ?_)
   ·rw [cell_of_row _ _ _ _ _ _ HRV.out]
    simpa [nums, le4i] using hj
   ·simp only [nums, le4i, List.map_cons, List.map_nil, List.mem_cons, List.not_mem_nil, or_false] at hu
    rcases hu with rfl | rfl | rfl | rfl <;> rfl
   ·rintro e w2 ⟨rfl, hb2, hbel⟩
    have HB2 := Aside0.mk (show Lib.IsBuilder 115 5 w.heap.size w.heap.size (nums .u8 ((l0.take (k + 1)).flatMap le4i)) w2 from .inr (by
     have e1 : l0.take (k + 1) = l0.take k ++ [x] := by
      rw [List.take_succ_eq_append_getElem hlt, ← HX.out]
      simp [rdOf, hlt]
     rw [e1, List.flatMap_append, nums_append]
     simpa using hb2))
    have HL2 := Aside0.mk (show Below w.heap.size w w2 from HB9.out.trans hbel)
    clear hb2 hbel
    go_wp2
    refine ⟨⟨k + 1, by omega, by go_num, HB2, HL2⟩, by simp [intOf]; omega⟩
  ·obtain rfl : k = l0.length := by omega
   have HI2 := HI.out
   rw [List.take_length, ← cells_of_nums _ (le4i_range l0)] at HI2
   have HI3 := Aside0.mk HI2
   clear HI2 hlt hk
   go_wp2_with (go_at_call 86; refine (Try.Builder_String_any w.heap.size w.heap.size _ _ HI3.out HB.out.size).mono ?_; rintro e w2 ⟨rfl, hb2⟩)
   go_ret
   exact ⟨rfl, HB.out.trans hb2⟩
theorem word_put.calls (A0 : Option Addr) (c0 : Nat) (l0 : List Int) (a1 : Bool) (r : ByteArray) (w : World) (hr0 : Kd.C (Kd.int .i64) w A0 l0.length l0) (hc0 : l0.length ≤ c0) (h : word_put.f l0 a1 = some r) :
  Calls Try.prog 127 #[.slice A0 l0.length c0, .bool a1] w fun e w' => e = .returned (.string r) ∧ Below w.heap.size w w' := by
 unfold word_put.f at h
 by_cases hc : l0.length ≤ 1000000
 ·rw [if_pos hc] at h
  obtain rfl := Option.some.inj h
  cases a1
  ·exact word_put.plain A0 c0 l0 w hr0 hc0 hc
  ·exact word_put.turned A0 c0 l0 w hr0 hc0 hc
 ·rw [if_neg hc] at h
  cases h
end Go.Proofs.Ytbkbganflnemeaa.Pr
end

section
namespace Go.Proofs.Ytbkbganflnemeaa.Pr
open Go.RowKit Go.Deep Go.Proofs.YtbkbganflnemeaaW.PrintWords Go.Proofs.YtbkbganflnemeaaW.PrintLast Go.Proofs.YtbkbganflnemeaaW.PrintMore
set_option maxHeartbeats 1000000
theorem txt_repeat (n : Nat) : (⟨(Lib.repeatL (⟨#[0]⟩ : ByteArray).data.toList n).toArray⟩ : ByteArray) = txt (List.replicate n 0) := by
 have h := Lib.repeatL_replicate 0 1 n
 rw [show ((⟨#[0]⟩ : ByteArray).data.toList) = List.replicate 1 0 from rfl, h, Nat.mul_one]
 simp [txt]
def BAt (g : Nat) (l : List Nat) (rest : Array Value) (w : World) : Prop := w.heap[g]? = some (.cells (u8s l ++ rest) 5 ((u8s l ++ rest).size, (u8s l ++ rest).size + 1))
theorem u8s_bys (s : ByteArray) : (s.data.map fun b => Value.int .u8 b.toNat) = u8s (bys s) := by
 unfold u8s bys
 apply Array.ext'
 simp
theorem bytes_row (w : World) (s : ByteArray) : ∃ rest, BAt w.heap.size (bys s) rest (Lib.bytesWorld w 5 s) := by
 refine ⟨Array.replicate (grownCap w s.size 0 5 - s.size) (.int .u8 0), ?_⟩
 unfold BAt
 rw [← u8s_bys]
 exact Lib.bytesWorld_at_new w 5 s
theorem BAt.lt {g : Nat} {l : List Nat} {rest : Array Value} {w : World} {k x : Nat} (hx : l[k]? = some x) : k < (u8s l ++ rest).size := by
 have hk : k < l.length := (List.getElem?_eq_some_iff.1 hx).1
 rw [Array.size_append, u8s_size]
 omega
theorem BAt.cell {g : Nat} {l : List Nat} {rest : Array Value} {w : World} (h : BAt g l rest w) {k x : Nat} (hx : l[k]? = some x) : w.cell? ⟨g, k, none⟩ = some (.int .u8 (x : Int)) := by
 have hk : k < l.length := (List.getElem?_eq_some_iff.1 hx).1
 rw [cell_of_row w g k _ _ _ h, Array.getElem?_append_left (by rw [u8s_size]; exact hk)]
 simp [u8s, hx]
theorem BAt.frozen {g : Nat} {l : List Nat} {rest : Array Value} {w : World} (h : BAt g l rest w) {k x : Nat} (hx : l[k]? = some x) : w.frozen? ⟨g, k, none⟩ = false := by
 have hk : k < (u8s l ++ rest).size := BAt.lt (g := g) (w := w) hx
 have h' : w.heap[g]? = _ := h
 generalize (u8s l ++ rest) = cs at h' hk
 simp [World.frozen?, h']
 omega
theorem BAt.store {g : Nat} {l : List Nat} {rest : Array Value} {w : World} (h : BAt g l rest w) (k x : Nat) (hk : k < l.length) : BAt g (l.set k x) rest (w.setCell ⟨g, k, none⟩ (.int .u8 (x : Int))) := by
 unfold BAt at h ⊢
 rw [setCell_eq_setRow w g k _ _ _ _ h, setRow_heap w g _ _ _ _ h]
 have hk2 : k < l.length + rest.size := by omega
 have e : u8s (l.set k x) ++ rest = (u8s l ++ rest).setIfInBounds k (.int .u8 (x : Int)) := by
  rw [← u8s_set]
  apply Array.ext'
  simp [Array.setIfInBounds, u8s, hk, List.set_append_left, hk2]
 have e2 : (u8s (l.set k x)).size = (u8s l).size := by simp [u8s]
 rw [← e, Array.size_append, Array.size_append, e2]
theorem conv_bat (W : World) (g : Nat) (l : List Nat) (rest : Array Value) (h : BAt g l rest W) (n : Nat) (hn : l.length = n) (c : Nat) :
  (convert 68 9 (.slice (some ⟨g, 0, none⟩) n c)).run Try.prog W = .ok (.string (txt l)) W := by
 rw [← str_nats]
 refine run_convert_bytes_arg W 68 5 Try.underlying68 Try.underlying5 g 0 n c _ (by simpa using hn) (fun i hi => ?_) 9 Try.underlying9
 rw [Nat.zero_add, BAt.cell h (List.getElem?_eq_getElem (by omega))]
 simp [show i < l.length by omega]
theorem isBuilder_below {T e : TypeId} {B b : Nat} {bs : List Value} {w w' : World} (h : Lib.IsBuilder T e B b bs w) (hb : Below w.heap.size w w') : Lib.IsBuilder T e B b bs w' := by
 rcases h with ⟨h1, v, h2, h3, h4⟩ | ⟨h1, v, h2, h3, h4⟩
 ·exact .inl ⟨h1, v, blk_below h2 hb, pw_own_below h3 hb, h4⟩
 ·exact .inr ⟨h1, v, blk_below h2 hb, pw_own_below h3 hb, h4⟩
end Go.Proofs.Ytbkbganflnemeaa.Pr
end

section
namespace Go.Proofs.Ytbkbganflnemeaa.Pr
open Go.RowKit Go.Proofs.YtbkbganflnemeaaW.PrintWords Go.Proofs.YtbkbganflnemeaaW.PrintLast Go.Proofs.YtbkbganflnemeaaW.PrintMore
set_option maxHeartbeats 1000000
theorem by4i_nat (n : Nat) : by4i (n : Int) = ints (by4 n) := by
 simp only [by4i, ints, by4, List.map_cons, List.map_nil]
 congr 1
theorem flat4i_ints (l : List Nat) : (ints l).flatMap by4i = ints (l.flatMap by4) := by
  induction l with
  | nil => rfl
  | cons x l ih =>
    have : ints (x :: l) = (x : Int) :: ints l := rfl
    rw [this, List.flatMap_cons, List.flatMap_cons, ints_append, ih, by4i_nat]
theorem word_PutBig_ints (l : List Int) (A0 : Option Addr) (c0 : Nat) (w : World) (hr0 : Kd.C (Kd.int .i64) w A0 l.length l) (hc0 : l.length ≤ c0) (hl : l.length ≤ 1000000) :
  Calls Try.prog 96 #[.slice A0 l.length c0] w fun e w' => e = .returned (.string (strOfNums (l.flatMap by4i))) ∧ Below w.heap.size w w' := by
 have HR := Aside0.mk hr0
 clear hr0
 go_enter Try.func96, Try.ntmps96
 go_wp2_with (go_at_call 127; refine (word_put.plain A0 c0 l _ HR.out hc0 hl).mono ?_; rintro e w' ⟨rfl, hb⟩)
 go_ret
 exact ⟨rfl, hb⟩
theorem lit_reads (W : World) (xs : List Int) (e : TypeId) (hm : xs.length ≤ 1000000) : Kd.C (Kd.int .i64) (W.alloc (.cells (nums .i64 xs).toArray e)) (some ⟨W.heap.size, 0, none⟩) xs.length xs :=
 Kd.C_of_reads (d := (0 : Int)) (h1 := fun _ => rfl) (own_reads' (own_lit W 0 e .i64 xs (Nat.zero_le _) (by omega)))
set_option maxRecDepth 100000 in
theorem sha_Pad.yes (n : Nat) (w : World) (h1 : (n : Int) ≤ 1125899906842624) :
  Calls Try.prog 153 #[.int .i64 n] w fun e w' => e = .returned (.tuple #[.string (txt (padL n)), .int .i64 0]) ∧ Below w.heap.size w w' := by
 have d0 : decide ((n : Int) < 0) = false := by simp
 have d1 : decide (1125899906842624 < (n : Int)) = false := by simpa using h1
 have e2 := Aside0.mk (show [(n : Int) / 536870912, (n : Int) * 8] = ints [n / 536870912, 8 * n] by simp [ints]; omega)
 have hm : (119 - n % 64) % 64 ≤ 64 := by omega
 go_enter Try.func153, Try.ntmps153
 go_wp2_with (fail)
 rw [show (((119 : Int) - (n : Int)) % 64) = (((119 - n % 64) % 64 : Nat) : Int) by omega]
 refine (Try.strings_Repeat (⟨#[0]⟩ : ByteArray) ((119 - n % 64) % 64) _ (by omega) (by show 1 * _ ≤ _; omega)).mono ?_
 rw [txt_repeat]
 rintro e w1 ⟨rfl, hb1⟩
 generalize hT : txt (List.replicate ((119 - n % 64) % 64) 0) = T
 have hTs : T.size ≤ 64 := by rw [← hT, txt_size, List.length_replicate]; exact hm
 have HT := Aside0.mk hT
 clear hT
 have k1 : 1 + T.size ≤ 9223372036854775807 := by omega
 have k2 : decide (1 + T.size ≤ 9223372036854775807) = true := decide_eq_true k1
 have C := word_PutBig_ints [(n : Int) / 536870912, (n : Int) * 8] (some ⟨w1.heap.size, 0, none⟩) 2 _ (lit_reads w1 [(n : Int) / 536870912, (n : Int) * 8] 3 (by simp)) (by simp) (by simp)
 have e3 : strOfNums (([(n : Int) / 536870912, (n : Int) * 8] : List Int).flatMap by4i) = txt (([n / 536870912, 8 * n] : List Nat).flatMap by4) := by rw [e2.out, flat4i_ints, str_ints]
 rw [e3] at C
 clear e3
 generalize hU : txt (([n / 536870912, 8 * n] : List Nat).flatMap by4) = U at C
 have hUs : U.size ≤ 8 := by rw [← hU, txt_size]; simp [by4]
 have HU := Aside0.mk hU
 have HC := Aside0.mk C
 clear hU hm C
 have hs3 : ((⟨#[128]⟩ : ByteArray) ++ T).size = 1 + T.size := by rw [ByteArray.size_append]; rfl
 have k3 : ((⟨#[128]⟩ : ByteArray) ++ T).size + U.size ≤ 9223372036854775807 := by rw [hs3]; omega
 have k5 : 1 + T.size + U.size ≤ 9223372036854775807 := by omega
 clear hs3
 have k4 : decide (((⟨#[128]⟩ : ByteArray) ++ T).size + U.size ≤ 9223372036854775807) = true := decide_eq_true k3
 go_wp2_with (go_at_call 96; refine HC.out.mono ?_; rintro e w2 ⟨rfl, hb2⟩)
 go_ret2
 refine ⟨congrArg (fun z => Ending.returned (Value.tuple #[.string z, .int .i64 0])) ?_, ?_⟩
 ·show ((⟨#[128]⟩ : ByteArray) ++ T) ++ U = txt (padL n)
  rw [← HT.out, ← HU.out]
  have e5 : padL n = ([128] ++ List.replicate ((119 - n % 64) % 64) 0) ++ ([n / 536870912, 8 * n] : List Nat).flatMap by4 := by
   simp [padL]
  rw [e5, txt_append, txt_append]
  rfl
 ·exact below_then (below_alloc hb1 _) (below_alloc hb1 _).size hb2
end Go.Proofs.Ytbkbganflnemeaa.Pr
namespace Go.Proofs.Ytbkbganflnemeaa.Pr
open Go.RowKit Go.Deep Go.Proofs.YtbkbganflnemeaaW.PrintWords Go.Proofs.YtbkbganflnemeaaW.PrintLast Go.Proofs.YtbkbganflnemeaaW.PrintMore
set_option maxHeartbeats 2000000
theorem St.bytes_lt (s : St) : ∀ n ∈ s.bytes, n < 256 := by
 intro n hn
 simp only [St.bytes, St.list, by4, List.flatMap_cons, List.flatMap_nil, List.cons_append, List.nil_append, List.mem_cons, List.not_mem_nil, or_false] at hn
 omega
theorem blks_succ (n : Nat) : ∀ (s : St) (l : List Nat), blks (n + 1) s l = stp (blks n s l) ((l.drop (64 * n)).take 64) := by
  induction n with
  | zero => intro s l; simp [blks]
  | succ n ih =>
    intro s l
    rw [blks, ih, blks, List.drop_drop]
    congr 2
    congr 1
    omega
theorem stp_ok (s : St) (l : List Nat) : (stp s l).ok := St.add_ok _ _
theorem blks_ok (n : Nat) : ∀ (s : St) (l : List Nat), s.ok → (blks n s l).ok := by
 induction n with
 | zero => intro s l h; exact h
 | succ n ih => intro s l h; exact ih _ _ (stp_ok _ _)
theorem padL_lt (n : Nat) : ∀ x ∈ padL n, x < 256 := by
 intro x hx
 simp only [padL, by4, List.mem_cons, List.mem_append, List.mem_replicate, List.not_mem_nil, or_false] at hx
 omega
theorem padL_len (n : Nat) : (padL n).length = 9 + (119 - n % 64) % 64 := by
 simp [padL, by4]
 omega
def allL (a : ByteArray) : List Nat := bys a ++ padL a.size
theorem allL_len (a : ByteArray) : ∃ m, (allL a).length = 64 * m ∧ a.size < 64 * m := by
 refine ⟨(a.size + 9 + (119 - a.size % 64) % 64) / 64, ?_, ?_⟩
 ·rw [allL, List.length_append, bys_length, padL_len]
  omega
 ·omega
def sumF (a0 : ByteArray) : Option ByteArray := if a0.size ≤ 1000000000000 then some (txt (blks ((allL a0).length / 64) St0 (allL a0)).bytes) else none
def sha_Sum.f (a0 : ByteArray) : Option ByteArray := sumF a0
def strLen : Value → Nat | .string s => s.size | _ => 0
def StAt (g : Nat) (s : St) (w : World) : Prop := w.heap[g]? = some (.cells #[.int .u32 (s.a : Int), .int .u32 (s.b : Int), .int .u32 (s.c : Int), .int .u32 (s.d : Int), .int .u32 (s.e : Int), .int .u32 (s.f : Int), .int .u32 (s.g : Int), .int .u32 (s.h : Int)] 188 (0, 0))
def KAt (g : Nat) (w : World) : Prop := w.heap[g]? = some (.cells (u32s shaK) 185 (0, 0))
theorem StAt.store {g : Nat} {s : St} {w : World} (h : StAt g s w) (t : St) : StAt g t (w.setRow g #[.int .u32 (t.a : Int), .int .u32 (t.b : Int), .int .u32 (t.c : Int), .int .u32 (t.d : Int), .int .u32 (t.e : Int), .int .u32 (t.f : Int), .int .u32 (t.g : Int), .int .u32 (t.h : Int)]) :=
 setRow_heap _ _ _ _ _ _ h
theorem below_setRow8 {B g : Nat} {w0 w : World} (hb : Below B w0 w) (hg : B ≤ g) (cs : Array Value) : Below B w0 (w.setRow g cs) :=
 ⟨hb.os, hb.tape, hb.output, by simpa [World.setRow] using hb.size, fun k hk => by rw [setRow_other _ _ _ _ (by omega)]; exact hb.block k hk⟩
theorem KAt.store {g g' : Nat} {w : World} (h : KAt g w) (hg : g ≠ g') (cs : Array Value) : KAt g (w.setRow g' cs) := by
 unfold KAt
 rw [setRow_other _ _ _ _ hg]
 exact h
set_option maxRecDepth 100000 in
theorem shaSum (a0 : ByteArray) (w : World) (hn : a0.size ≤ 1000000000000) :
  Calls Try.prog 138 #[.string a0] w fun e w' => e = .returned (.string (txt (blks ((allL a0).length / 64) St0 (allL a0)).bytes)) ∧ Below w.heap.size w w' := by
 have hinf : (Try.prog.info? 185).map (·.size) = some 64 := by kernel_rfl
 have hinf8 : (Try.prog.info? 188).map (·.size) = some 8 := by kernel_rfl
 have hn1 : (a0.size : Int) ≤ 1125899906842624 := by omega
 obtain ⟨m, hm, hm2⟩ := allL_len a0
 have e0 : (allL a0).length / 64 = m := by omega
 rw [e0]
 clear e0
 have HI := Aside0.mk hinf
 have HI8 := Aside0.mk hinf8
 clear hinf hinf8
 go_enter Try.func138, Try.ntmps138
 go_wp2_with (fail)
 refine (sha_Pad.yes a0.size _ hn1).mono ?_
 rintro e w1 ⟨rfl, hb1⟩
 generalize hT : txt (padL a0.size) = T
 have hTs : T.size ≤ 100 := by rw [← hT, txt_size, padL_len]; omega
 have hTb : bys T = padL a0.size := by rw [← hT, bys_txt (padL_lt _)]
 have HTB := Aside0.mk hTb
 have HM := Aside0.mk hm
 clear hT hm hTb hn1
 go_wp2_with (first | (go_at_call 154; refine (constants.calls _).mono ?_; rintro e w2 ⟨rfl, hb2⟩; have HB2 := Aside0.mk (below_then hb1 hb1.size hb2); clear hb1 hb2) | (refine wpList_store_row rfl 185 (.tmp 5) (.tmp 16) rfl _ (u32s shaK) rfl rfl 185 _ (heap_alloc_last _ _) HI.out (by rfl) (u32s_one _) ?_; rw [World.setRow_alloc_new]) | (go_at_call 155; refine (sha_start.calls _).mono ?_; rintro e w3 ⟨rfl, hb3⟩))
 have HK : KAt w2.heap.size (w3.alloc (.cells #[.int .u32 (St0.a : Int), .int .u32 (St0.b : Int), .int .u32 (St0.c : Int), .int .u32 (St0.d : Int), .int .u32 (St0.e : Int), .int .u32 (St0.f : Int), .int .u32 (St0.g : Int), .int .u32 (St0.h : Int)] 188)) := blk_alloc (blk_below (heap_alloc_last _ _) hb3) _
 have HS0 : StAt w3.heap.size St0 (w3.alloc (.cells #[.int .u32 (St0.a : Int), .int .u32 (St0.b : Int), .int .u32 (St0.c : Int), .int .u32 (St0.d : Int), .int .u32 (St0.e : Int), .int .u32 (St0.f : Int), .int .u32 (St0.g : Int), .int .u32 (St0.h : Int)] 188)) := heap_alloc_last _ _
 have q1 : Below w.heap.size w (w2.alloc (.cells (u32s shaK) 185)) := below_alloc HB2.out _
 have HB4 : Below w.heap.size w (w3.alloc (.cells #[.int .u32 (St0.a : Int), .int .u32 (St0.b : Int), .int .u32 (St0.c : Int), .int .u32 (St0.d : Int), .int .u32 (St0.e : Int), .int .u32 (St0.f : Int), .int .u32 (St0.g : Int), .int .u32 (St0.h : Int)] 188)) := below_alloc (below_then q1 q1.size hb3) _
 have hk1 : w2.heap.size ≠ w3.heap.size := by have := hb3.size; simp at this; omega
 have hk2 : w.heap.size ≤ w3.heap.size := by have := hb3.size; have := q1.size; omega
 have AK := Aside0.mk HK
 have AS := Aside0.mk HS0
 have AB := Aside0.mk HB4
 have A1 := Aside0.mk hk1
 have A2 := Aside0.mk hk2
 clear HK HS0 HB4 q1 hb3 hk1 hk2 HB2
 generalize w3.alloc (.cells #[.int .u32 (St0.a : Int), .int .u32 (St0.b : Int), .int .u32 (St0.c : Int), .int .u32 (St0.d : Int), .int .u32 (St0.e : Int), .int .u32 (St0.f : Int), .int .u32 (St0.g : Int), .int .u32 (St0.h : Int)] 188) = w4 at AK AS AB ⊢
 generalize w2.heap.size = gc at AK A1 ⊢
 generalize w3.heap.size = gh at AS A1 A2 ⊢
 obtain ⟨M, hM⟩ : ∃ M : Nat, (a0.size : Int) / 64 * 64 = (M : Int) := ⟨a0.size / 64 * 64, by omega⟩
 rw [hM]
 have hM2 : M ≤ a0.size := by omega
 have hM3 : a0.size < M + 64 := by omega
 have hM4 : ∃ j, M = 64 * j := ⟨a0.size / 64, by omega⟩
 have HM4 := Aside0.mk hM4
 clear hM hM4
 go_loopw [8] (fun i wr => ∃ (q j : Nat), i = .int .i64 q ∧ q ≤ M ∧ Aside0 (q = 64 * j) ∧ Aside0 (KAt gc wr) ∧ Aside0 (StAt gh (blks j St0 (allL a0)) wr) ∧ Aside0 (Below w.heap.size w wr)) (fun i _ => M - (intOf i).toNat)
 case atStart => exact ⟨0, 0, rfl, by omega, ⟨rfl⟩, AK, AS, AB⟩
 case round =>
  clear AK AS AB
  obtain ⟨q, j, rfl, hq, HJ, HK, HS, HB⟩ := hrel
  by_cases hlt : q < M
  ·have hle : q + 64 ≤ a0.size := by
    obtain ⟨j', hj'⟩ := HM4.out
    have := HJ.out
    omega
   have hx : (a0.extract q (q + 64)).size = 64 := by simp; omega
   have HX := Aside0.mk hx
   clear hx
   generalize hst : blks j St0 (allL a0) = st at HS
   have hok : st.ok := by rw [← hst]; exact blks_ok _ _ _ St0_ok
   have HST := Aside0.mk hst
   have HOK := Aside0.mk hok
   clear hst hok
   obtain ⟨a, b, c, d, e, f, g, h⟩ := st
   have i1 := eq_true (show (q : Int) + 64 ≤ (a0.size : Int) by omega)
   have i2 := eq_true (show (q : Int) ≤ (q : Int) + 64 by omega)
   have i3 := eq_true (show 0 ≤ (q : Int) by omega)
   have i4 : ((q : Int) + 64).toNat = q + 64 := by omega
   have i5 : IntKind.i64.wrap ((q : Int) + 64) = (q : Int) + 64 := IntWalk.i64_in _ (by omega)
   go_wp2_with (fail)
   refine wp_still_tail 6 (by kernel_rfl) (by kernel_rfl) ?_
   intro W hW
   have hcv := cell_row8 (w := W) (g := gh) (t := 188) (by rw [hW]; exact HS.out)
   have HK2 : Aside0 (KAt gc W) := ⟨by rw [hW]; exact HK.out⟩
   have HS2 : Aside0 (StAt gh ⟨a, b, c, d, e, f, g, h⟩ W) := ⟨by rw [hW]; exact HS.out⟩
   have HB2 : Aside0 (Below w.heap.size w W) := ⟨by rw [hW]; exact pw_below_drewN HB.out 1⟩
   clear hW HS HK HB
   simp only [List.take_succ_cons, List.take_zero, List.drop_succ_cons, List.drop_zero]
   repeat still_step
   refine wpStill_nil ?_
   clear hcv
   go_wp2_with (first | (go_at_call 156; refine (sums_step.calls a b c d e f g h gc (a0.extract q (q + 64)) W HOK.out HX.out HK2.out).mono ?_; rintro e5 w5 ⟨⟨s', hs', rfl⟩, hb5⟩; generalize hV : #[Value.int .u32 (s'.a : Int), Value.int .u32 (s'.b : Int), Value.int .u32 (s'.c : Int), Value.int .u32 (s'.d : Int), Value.int .u32 (s'.e : Int), Value.int .u32 (s'.f : Int), Value.int .u32 (s'.g : Int), Value.int .u32 (s'.h : Int)] = V; have HV := Aside0.mk hV; clear hV; have HS5 := Aside0.mk hs'; have HB5 := Aside0.mk hb5; clear hs' hb5) | (refine wpList_store_row rfl 188 (.tmp 6) (.tmp 33) rfl gh V rfl rfl 188 _ (blk_below HS2.out HB5.out) (by rw [← HV.out]; exact HI8.out) (by rw [← HV.out]; rfl) (by rw [← HV.out]; exact u32s_one [s'.a, s'.b, s'.c, s'.d, s'.e, s'.f, s'.g, s'.h]) ?_))
   rw [← HV.out]
   have HK6 : Aside0 (KAt gc (w5.setRow gh #[.int .u32 (s'.a : Int), .int .u32 (s'.b : Int), .int .u32 (s'.c : Int), .int .u32 (s'.d : Int), .int .u32 (s'.e : Int), .int .u32 (s'.f : Int), .int .u32 (s'.g : Int), .int .u32 (s'.h : Int)])) := ⟨KAt.store (blk_below HK2.out HB5.out) A1.out _⟩
   have HS6 : Aside0 (StAt gh s' (w5.setRow gh #[.int .u32 (s'.a : Int), .int .u32 (s'.b : Int), .int .u32 (s'.c : Int), .int .u32 (s'.d : Int), .int .u32 (s'.e : Int), .int .u32 (s'.f : Int), .int .u32 (s'.g : Int), .int .u32 (s'.h : Int)])) := ⟨StAt.store (blk_below HS2.out HB5.out) s'⟩
   have HB6 : Aside0 (Below w.heap.size w (w5.setRow gh #[.int .u32 (s'.a : Int), .int .u32 (s'.b : Int), .int .u32 (s'.c : Int), .int .u32 (s'.d : Int), .int .u32 (s'.e : Int), .int .u32 (s'.f : Int), .int .u32 (s'.g : Int), .int .u32 (s'.h : Int)])) := ⟨below_setRow8 (below_then HB2.out HB2.out.size HB5.out) A2.out _⟩
   generalize w5.setRow gh #[.int .u32 (s'.a : Int), .int .u32 (s'.b : Int), .int .u32 (s'.c : Int), .int .u32 (s'.d : Int), .int .u32 (s'.e : Int), .int .u32 (s'.f : Int), .int .u32 (s'.g : Int), .int .u32 (s'.h : Int)] = w6 at HK6 HS6 HB6 ⊢
   go_wp2
   refine ⟨⟨q + 64, j + 1, by go_num, by obtain ⟨j', hj'⟩ := HM4.out; have := HJ.out; omega, ⟨by have := HJ.out; omega⟩, HK6, ⟨?_⟩, HB6⟩, by simp [intOf]; omega⟩
   have e : blks (j + 1) St0 (allL a0) = s' := by
    rw [blks_succ, HST.out, HS5.out, bys_extract, allL, ← HJ.out, List.drop_append_of_le_length (by rw [bys_length]; omega), List.take_append_of_le_length (by rw [List.length_drop, bys_length]; omega), Nat.add_sub_cancel_left]
   rw [e]
   exact HS6.out
  ·have hqM : q = M := by omega
   subst hqM
   clear hlt hq
   have i1 := eq_true (show (q : Int) ≤ (a0.size : Int) by omega)
   have i3 := eq_true (show 0 ≤ (q : Int) by omega)
   have hsz : (a0.extract q a0.size).size ≤ 64 := by simp; omega
   have k1 : (a0.extract q a0.size).size + T.size ≤ 9223372036854775807 := by omega
   have k3 : (9223372036854775807 < (a0.extract q a0.size).size + T.size) = False := eq_false (Nat.not_lt.2 k1)
   go_wp2_with (fail)
   have HT : Aside0 (bys (a0.extract q a0.size ++ T) = (allL a0).drop (64 * j)) := ⟨by rw [bys_append, HTB.out, bys_extract, allL, ← HJ.out, List.drop_append_of_le_length (by rw [bys_length]; omega), List.take_of_length_le (by rw [List.length_drop, bys_length]; omega)]⟩
   have ht : (a0.extract q a0.size ++ T).size ≤ 200 := by rw [ByteArray.size_append]; omega
   have hjm : 64 * j ≤ 64 * m := by have := HJ.out; omega
   generalize a0.extract q a0.size ++ T = U at HT ht ⊢
   clear k1 k3 hsz i1 i3
   go_loopw [9] (fun t wr => ∃ (j : Nat) (τ : ByteArray), t = .string τ ∧ τ.size ≤ 200 ∧ Aside0 (bys τ = (allL a0).drop (64 * j)) ∧ Aside0 (64 * j ≤ 64 * m) ∧ Aside0 (KAt gc wr) ∧ Aside0 (StAt gh (blks j St0 (allL a0)) wr) ∧ Aside0 (Below w.heap.size w wr)) (fun t _ => strLen t)
   case atStart => exact ⟨j, U, rfl, ht, HT, ⟨hjm⟩, HK, HS, HB⟩
   case round =>
    clear HJ HK HS HB HT
    obtain ⟨j, τ, rfl, hτ, HT, HJ, HK, HS, HB⟩ := hrel
    have hlen : τ.size = 64 * m - 64 * j := by rw [← bys_length, HT.out, List.length_drop, HM.out]
    by_cases hz : τ.size = 0
    ·have hτ0 : τ = ⟨#[]⟩ := by
      obtain ⟨⟨l⟩⟩ := τ
      congr
      cases l with
      | nil => rfl
      | cons x l => simp [ByteArray.size] at hz
     subst hτ0
     have hjm : j = m := by have := HJ.out; rw [hz] at hlen; omega
     clear hτ hlen hz HT
     rw [hjm] at HS
     generalize hst : blks m St0 (allL a0) = st at HS
     have HST := Aside0.mk hst
     clear hst
     obtain ⟨a, b, c, d, e, f, g, h⟩ := st
     have hcv := cell_row8 (w := wr) (g := gh) (t := 188) HS.out
     go_wp2_with (go_at_call 157; refine (sums_text.calls _ _ _ _ _ _ _ _ _).mono ?_; rintro e w7 ⟨rfl, hb7⟩)
     go_ret
     rw [HST.out]
     exact ⟨rfl, below_then HB.out HB.out.size hb7⟩
    ·have hge : 64 ≤ τ.size := by have := HJ.out; omega
     have hx : (τ.extract 0 64).size = 64 := by simp; omega
     have HX := Aside0.mk hx
     have HL := Aside0.mk hlen
     clear hx hlen
     generalize hst : blks j St0 (allL a0) = st at HS
     have hok : st.ok := by rw [← hst]; exact blks_ok _ _ _ St0_ok
     have HST := Aside0.mk hst
     have HOK := Aside0.mk hok
     clear hst hok
     obtain ⟨a, b, c, d, e, f, g, h⟩ := st
     have i1 := eq_true (show (64 : Int) ≤ (τ.size : Int) by omega)
     have i2 : τ.toList.isEmpty = false := by
      rw [ByteArray.toList_eq]
      obtain ⟨⟨l⟩⟩ := τ
      cases l with
      | nil => exact absurd rfl hz
      | cons x l => rfl
     go_wp2_with (fail)
     refine wp_still_tail 3 (by kernel_rfl) (by kernel_rfl) ?_
     intro W hW
     have hcv := cell_row8 (w := W) (g := gh) (t := 188) (by rw [hW]; exact HS.out)
     have HK2 : Aside0 (KAt gc W) := ⟨by rw [hW]; exact HK.out⟩
     have HS2 : Aside0 (StAt gh ⟨a, b, c, d, e, f, g, h⟩ W) := ⟨by rw [hW]; exact HS.out⟩
     have HB2 : Aside0 (Below w.heap.size w W) := ⟨by rw [hW]; exact pw_below_drewN HB.out 1⟩
     clear hW HS HK HB
     simp only [List.take_succ_cons, List.take_zero, List.drop_succ_cons, List.drop_zero]
     repeat still_step
     refine wpStill_nil ?_
     clear hcv
     go_wp2_with (first | (go_at_call 156; refine (sums_step.calls a b c d e f g h gc (τ.extract 0 64) W HOK.out HX.out HK2.out).mono ?_; rintro e5 w5 ⟨⟨s', hs', rfl⟩, hb5⟩; generalize hV : #[Value.int .u32 (s'.a : Int), Value.int .u32 (s'.b : Int), Value.int .u32 (s'.c : Int), Value.int .u32 (s'.d : Int), Value.int .u32 (s'.e : Int), Value.int .u32 (s'.f : Int), Value.int .u32 (s'.g : Int), Value.int .u32 (s'.h : Int)] = V; have HV := Aside0.mk hV; clear hV; have HS5 := Aside0.mk hs'; have HB5 := Aside0.mk hb5; clear hs' hb5) | (refine wpList_store_row rfl 188 (.tmp 6) (.tmp 46) rfl gh V rfl rfl 188 _ (blk_below HS2.out HB5.out) (by rw [← HV.out]; exact HI8.out) (by rw [← HV.out]; rfl) (by rw [← HV.out]; exact u32s_one [s'.a, s'.b, s'.c, s'.d, s'.e, s'.f, s'.g, s'.h]) ?_))
     rw [← HV.out]
     have HK6 : Aside0 (KAt gc (w5.setRow gh #[.int .u32 (s'.a : Int), .int .u32 (s'.b : Int), .int .u32 (s'.c : Int), .int .u32 (s'.d : Int), .int .u32 (s'.e : Int), .int .u32 (s'.f : Int), .int .u32 (s'.g : Int), .int .u32 (s'.h : Int)])) := ⟨KAt.store (blk_below HK2.out HB5.out) A1.out _⟩
     have HS6 : Aside0 (StAt gh s' (w5.setRow gh #[.int .u32 (s'.a : Int), .int .u32 (s'.b : Int), .int .u32 (s'.c : Int), .int .u32 (s'.d : Int), .int .u32 (s'.e : Int), .int .u32 (s'.f : Int), .int .u32 (s'.g : Int), .int .u32 (s'.h : Int)])) := ⟨StAt.store (blk_below HS2.out HB5.out) s'⟩
     have HB6 : Aside0 (Below w.heap.size w (w5.setRow gh #[.int .u32 (s'.a : Int), .int .u32 (s'.b : Int), .int .u32 (s'.c : Int), .int .u32 (s'.d : Int), .int .u32 (s'.e : Int), .int .u32 (s'.f : Int), .int .u32 (s'.g : Int), .int .u32 (s'.h : Int)])) := ⟨below_setRow8 (below_then HB2.out HB2.out.size HB5.out) A2.out _⟩
     generalize w5.setRow gh #[.int .u32 (s'.a : Int), .int .u32 (s'.b : Int), .int .u32 (s'.c : Int), .int .u32 (s'.d : Int), .int .u32 (s'.e : Int), .int .u32 (s'.f : Int), .int .u32 (s'.g : Int), .int .u32 (s'.h : Int)] = w6 at HK6 HS6 HB6 ⊢
     go_wp2
     refine ⟨⟨j + 1, τ.extract 64 τ.size, rfl, by simp; omega, ⟨?_⟩, ⟨by have := HJ.out; have := HL.out; omega⟩, HK6, ⟨?_⟩, HB6⟩, by simp [strLen]; omega⟩
     ·rw [bys_extract, HT.out, List.take_of_length_le (by have := HL.out; simp [HM.out]; omega), List.drop_drop]
      rfl
     ·have e : blks (j + 1) St0 (allL a0) = s' := by
       rw [blks_succ, HST.out, HS5.out, bys_extract, HT.out]
       rfl
      rw [e]
      exact HS6.out
theorem sha_Sum.calls (a0 : ByteArray) (r : ByteArray) (w : World) (h : sha_Sum.f a0 = some r) :
  Calls Try.prog 138 #[.string a0] w fun e w' => e = .returned (.string r) ∧ Below w.heap.size w w' := by
 unfold sha_Sum.f sumF at h
 by_cases hc : a0.size ≤ 1000000000000
 ·rw [if_pos hc] at h
  obtain rfl := Option.some.inj h
  exact shaSum a0 w hc
 ·rw [if_neg hc] at h
  cases h
end Go.Proofs.Ytbkbganflnemeaa.Pr
namespace Go.Proofs.Ytbkbganflnemeaa.Pr
open Go.RowKit Go.Proofs.YtbkbganflnemeaaW.PrintWords Go.Proofs.YtbkbganflnemeaaW.PrintLast
theorem sumL_length (l : List Nat) : (sumL l).length = 32 := rfl
theorem sumL_lt (l : List Nat) : ∀ n ∈ sumL l, n < 256 := St.bytes_lt _
theorem allL_bys (a : ByteArray) : allL a = bys a ++ padL (bys a).length := by rw [allL, bys_length]
def sumT (a : ByteArray) : ByteArray := txt (sumL (bys a))
theorem sumT_size (a : ByteArray) : (sumT a).size = 32 := by rw [sumT, txt_size, sumL_length]
theorem bys_sumT (a : ByteArray) : bys (sumT a) = sumL (bys a) := bys_txt (sumL_lt _)
theorem sumF_eq (a : ByteArray) (h : a.size ≤ 1000000000000) : sumF a = some (sumT a) := by
 unfold sumF
 rw [if_pos h, allL_bys]
 rfl
theorem sha_Sum_f (a : ByteArray) (h : a.size ≤ 1000000000000) : sha_Sum.f a = some (sumT a) := sumF_eq a h
end Go.Proofs.Ytbkbganflnemeaa.Pr
end

section
namespace Go.Proofs.Ytbkbganflnemeaa.Pr
open Go.RowKit Go.Deep Go.Proofs.YtbkbganflnemeaaW.PrintWords Go.Proofs.YtbkbganflnemeaaW.PrintLast Go.Proofs.YtbkbganflnemeaaW.PrintMore
set_option maxHeartbeats 2000000
def key64 (l : List Nat) : List Nat := (if l.length > 64 then sumL l else l) ++ List.replicate (64 - (if l.length > 64 then sumL l else l).length) 0
theorem key64_length (l : List Nat) : (key64 l).length = 64 := by
 unfold key64
 rw [List.length_append, List.length_replicate]
 split
 ·rw [sumL_length]
 ·omega
def hmac_turned.f (a0 : ByteArray) (a1 : Int) : Option ByteArray :=
 if a0.size ≤ 1000000000000 ∧ 0 ≤ a1 ∧ a1 < 256 then some (txt ((key64 (bys a0)).map (· ^^^ a1.toNat))) else none
def mixAt (b : Nat) (L : List Nat) (k : Nat) : List Nat := (L.take k).map (· ^^^ b) ++ L.drop k
theorem mixAt_length (b : Nat) (L : List Nat) (k : Nat) : (mixAt b L k).length = L.length := by
 unfold mixAt
 rw [List.length_append, List.length_map, List.length_take, List.length_drop]
 omega
theorem mixAt_get (b : Nat) (L : List Nat) (k : Nat) (hk : k < L.length) : (mixAt b L k)[k]? = some (L.getD k 0) := by
 unfold mixAt
 rw [List.getElem?_append_right (by rw [List.length_map, List.length_take]; omega), List.length_map, List.length_take, List.getElem?_drop]
 simp [Nat.min_eq_left (Nat.le_of_lt hk), hk]
theorem mixAt_set (b : Nat) (L : List Nat) (k x : Nat) (hk : k < L.length) (hx : L.getD k 0 = x) : (mixAt b L k).set k (x ^^^ b) = mixAt b L (k + 1) := by
 unfold mixAt
 have hx' : L[k] = x := by rw [← hx]; simp [hk]
 rw [List.set_append_right _ _ (by rw [List.length_map, List.length_take]; omega), List.take_succ_eq_append_getElem hk, List.map_append, List.append_assoc, hx', List.length_map, List.length_take, Nat.min_eq_left (Nat.le_of_lt hk), Nat.sub_self, List.drop_eq_getElem_cons hk]
 rfl
theorem mixAt_all (b : Nat) (L : List Nat) (k : Nat) (hk : L.length = k) : mixAt b L k = L.map (· ^^^ b) := by
 unfold mixAt
 rw [← hk, List.take_length, List.drop_length, List.append_nil]
set_option maxRecDepth 100000 in
theorem turnedS (a0 : ByteArray) (by_ : Nat) (hb : by_ < 256) (hn : a0.size ≤ 64) (w : World) :
  Calls Try.prog 145 #[.string a0, .int .u8 by_] w fun e w' => e = .returned (.string (txt ((bys a0 ++ List.replicate (64 - a0.size) 0).map (· ^^^ by_)))) ∧ Below w.heap.size w w' := by
 have c1 : decide (64 < (a0.size : Int)) = false := decide_eq_false (by omega)
 have kb := fun (s : ByteArray) W => print_bytes (P := Try.prog) 9 68 5 Try.underlying9 Try.underlying68 Try.underlying5 s W
 go_enter Try.func145, Try.ntmps145
 go_wp2_with (fail)
 rw [show ((64 : Int) - (a0.size : Int)) = ((64 - a0.size : Nat) : Int) by omega]
 refine (Try.strings_Repeat (⟨#[0]⟩ : ByteArray) (64 - a0.size) _ (by omega) (by show 1 * _ ≤ _; omega)).mono ?_
 rw [txt_repeat]
 rintro e w1 ⟨rfl, hb1⟩
 generalize hT : txt (List.replicate (64 - a0.size) 0) = T
 have hTs : T.size = 64 - a0.size := by rw [← hT, txt_size, List.length_replicate]
 have k1 : a0.size + T.size ≤ 9223372036854775807 := by omega
 have k3 : (9223372036854775807 < a0.size + T.size) = False := eq_false (Nat.not_lt.2 k1)
 have hS : bys (a0 ++ T) = bys a0 ++ List.replicate (64 - a0.size) 0 := by rw [bys_append, ← hT, bys_txt (by intro n hn; rw [List.mem_replicate] at hn; omega)]
 have hSs : (a0 ++ T).size = 64 := by rw [ByteArray.size_append]; omega
 have HS := Aside0.mk hS
 have HSs := Aside0.mk hSs
 clear hS hSs hT
 have kb1 := kb (a0 ++ T)
 clear kb
 go_wp2_with (fail)
 have HROW := bytes_row w1 (a0 ++ T)
 have HBW : Aside0 (Below w.heap.size w (Lib.bytesWorld w1 5 (a0 ++ T))) := ⟨bytes_below hb1 hb1.size _ _⟩
 have HG : Aside0 (w.heap.size ≤ w1.heap.size) := ⟨hb1.size⟩
 clear kb1 hb1 k1 k3
 rw [HS.out] at HROW
 generalize hL : bys a0 ++ List.replicate (64 - a0.size) 0 = L at HROW HS ⊢
 have hLl : L.length = 64 := by rw [← hL, List.length_append, bys_length, List.length_replicate]; omega
 have hLb : ∀ x ∈ L, x < 256 := by
  rw [← HS.out]
  intro x hx
  obtain ⟨i, hi, rfl⟩ := List.getElem_of_mem hx
  have := bys_lt (a0 ++ T) i
  simpa [List.getD_eq_getElem?_getD, List.getElem?_eq_getElem hi] using this
 obtain ⟨rest, HROW⟩ := HROW
 have HLl := Aside0.mk hLl
 have HL := Aside0.mk hL
 have HLb := Aside0.mk hLb
 have HR := Aside0.mk HROW
 clear hL hLl hLb HROW HS HSs
 generalize Lib.bytesWorld w1 5 (a0 ++ T) = w2 at HR HBW ⊢
 generalize grownCap w1 64 0 5 = cp
 generalize w1.heap.size = g at HR HG ⊢
 have hcv := Aside0.mk (fun (W : World) (l : List Nat) (h : BAt g l rest W) (hl : l.length = 64) => conv_bat W g l rest h 64 hl cp)
 go_loopw [19] (fun i wr => ∃ k : Nat, k ≤ 64 ∧ i = .int .i64 k ∧ Aside0 (BAt g (mixAt by_ L k) rest wr) ∧ Aside0 (Below w.heap.size w wr)) (fun i _ => 64 - (intOf i).toNat)
 case atStart => exact ⟨0, by omega, rfl, HR, HBW⟩
 case round =>
  clear HR HBW
  obtain ⟨k, hk, rfl, HR, HB⟩ := hrel
  by_cases hlt : k < 64
  ·have hx0 : (mixAt by_ L k)[k]? = some (L.getD k 0) := mixAt_get by_ L k (by rw [HLl.out]; exact hlt)
   have hxb : L.getD k 0 < 256 := by
    have hk' : k < L.length := by rw [HLl.out]; exact hlt
    rw [List.getD_eq_getElem?_getD, List.getElem?_eq_getElem hk']
    exact HLb.out _ (List.getElem_mem hk')
   have hcell := BAt.cell HR.out hx0
   have hfr := BAt.frozen HR.out hx0
   generalize hx : L.getD k 0 = x at hcell hxb
   have hxor := u8_xor_nat x by_ hxb hb
   have HX := Aside0.mk hx
   clear hx hx0 hcv
   go_wp2
   refine ⟨⟨k + 1, by omega, by go_num, ⟨?_⟩, ⟨?_⟩⟩, by simp [intOf]; omega⟩
   ·have := BAt.store HR.out k (x ^^^ by_) (by rw [mixAt_length, HLl.out]; exact hlt)
    rw [mixAt_set by_ L k x (by rw [HLl.out]; exact hlt) HX.out] at this
    exact this
   ·exact HB.out.setCell (p := ⟨g, k, none⟩) HG.out _
  ·have hk64 : k = 64 := by omega
   subst hk64
   clear hlt hk
   have hm : mixAt by_ L 64 = L.map (· ^^^ by_) := mixAt_all by_ L 64 HLl.out
   have hcv2 := hcv.out wr _ HR.out (by rw [hm, List.length_map, HLl.out])
   rw [hm] at hcv2
   clear hm hcv
   go_wp2
   go_ret
   rw [HL.out]
   exact ⟨rfl, HB.out⟩
set_option maxRecDepth 100000 in
theorem turnedL (a0 : ByteArray) (by_ : Nat) (hb : by_ < 256) (hn0 : 64 < a0.size) (hn1 : a0.size ≤ 1000000000000) (w : World) :
  Calls Try.prog 145 #[.string a0, .int .u8 by_] w fun e w' => e = .returned (.string (txt ((bys (sumT a0) ++ List.replicate (64 - (sumT a0).size) 0).map (· ^^^ by_)))) ∧ Below w.heap.size w w' := by
 have c1 : decide (64 < (a0.size : Int)) = true := decide_eq_true (by omega)
 have kb := fun (s : ByteArray) W => print_bytes (P := Try.prog) 9 68 5 Try.underlying9 Try.underlying68 Try.underlying5 s W
 have hK := sumT_size a0
 generalize hk0 : sumT a0 = K at hK
 have HK := Aside0.mk hk0
 have hn : K.size ≤ 64 := by omega
 clear hk0 hn0 hK
 go_enter Try.func145, Try.ntmps145
 go_wp2_with (go_at_call 138; refine (sha_Sum.calls a0 _ _ (sha_Sum_f a0 hn1)).mono ?_; rw [HK.out]; rintro e w0 ⟨rfl, hb0⟩)
 rw [show ((64 : Int) - (K.size : Int)) = ((64 - K.size : Nat) : Int) by omega]
 refine (Try.strings_Repeat (⟨#[0]⟩ : ByteArray) (64 - K.size) _ (by omega) (by show 1 * _ ≤ _; omega)).mono ?_
 rw [txt_repeat]
 rintro e w1 ⟨rfl, hb1a⟩
 have hb1 : Below w.heap.size w w1 := below_then hb0 hb0.size hb1a
 clear hb0 hb1a
 generalize hT : txt (List.replicate (64 - K.size) 0) = T
 have hTs : T.size = 64 - K.size := by rw [← hT, txt_size, List.length_replicate]
 have k1 : K.size + T.size ≤ 9223372036854775807 := by omega
 have k3 : (9223372036854775807 < K.size + T.size) = False := eq_false (Nat.not_lt.2 k1)
 have hS : bys (K ++ T) = bys K ++ List.replicate (64 - K.size) 0 := by rw [bys_append, ← hT, bys_txt (by intro n hn; rw [List.mem_replicate] at hn; omega)]
 have hSs : (K ++ T).size = 64 := by rw [ByteArray.size_append]; omega
 have HS := Aside0.mk hS
 have HSs := Aside0.mk hSs
 clear hS hSs hT
 have kb1 := kb (K ++ T)
 clear kb
 go_wp2_with (fail)
 have HROW := bytes_row w1 (K ++ T)
 have HBW : Aside0 (Below w.heap.size w (Lib.bytesWorld w1 5 (K ++ T))) := ⟨bytes_below hb1 hb1.size _ _⟩
 have HG : Aside0 (w.heap.size ≤ w1.heap.size) := ⟨hb1.size⟩
 clear kb1 hb1 k1 k3
 rw [HS.out] at HROW
 generalize hL : bys K ++ List.replicate (64 - K.size) 0 = L at HROW HS ⊢
 have hLl : L.length = 64 := by rw [← hL, List.length_append, bys_length, List.length_replicate]; omega
 have hLb : ∀ x ∈ L, x < 256 := by
  rw [← HS.out]
  intro x hx
  obtain ⟨i, hi, rfl⟩ := List.getElem_of_mem hx
  have := bys_lt (K ++ T) i
  simpa [List.getD_eq_getElem?_getD, List.getElem?_eq_getElem hi] using this
 obtain ⟨rest, HROW⟩ := HROW
 have HLl := Aside0.mk hLl
 have HL := Aside0.mk hL
 have HLb := Aside0.mk hLb
 have HR := Aside0.mk HROW
 clear hL hLl hLb HROW HS HSs
 generalize Lib.bytesWorld w1 5 (K ++ T) = w2 at HR HBW ⊢
 generalize grownCap w1 64 0 5 = cp
 generalize w1.heap.size = g at HR HG ⊢
 have hcv := Aside0.mk (fun (W : World) (l : List Nat) (h : BAt g l rest W) (hl : l.length = 64) => conv_bat W g l rest h 64 hl cp)
 go_loopw [19] (fun i wr => ∃ k : Nat, k ≤ 64 ∧ i = .int .i64 k ∧ Aside0 (BAt g (mixAt by_ L k) rest wr) ∧ Aside0 (Below w.heap.size w wr)) (fun i _ => 64 - (intOf i).toNat)
 case atStart => exact ⟨0, by omega, rfl, HR, HBW⟩
 case round =>
  clear HR HBW
  obtain ⟨k, hk, rfl, HR, HB⟩ := hrel
  by_cases hlt : k < 64
  ·have hx0 : (mixAt by_ L k)[k]? = some (L.getD k 0) := mixAt_get by_ L k (by rw [HLl.out]; exact hlt)
   have hxb : L.getD k 0 < 256 := by
    have hk' : k < L.length := by rw [HLl.out]; exact hlt
    rw [List.getD_eq_getElem?_getD, List.getElem?_eq_getElem hk']
    exact HLb.out _ (List.getElem_mem hk')
   have hcell := BAt.cell HR.out hx0
   have hfr := BAt.frozen HR.out hx0
   generalize hx : L.getD k 0 = x at hcell hxb
   have hxor := u8_xor_nat x by_ hxb hb
   have HX := Aside0.mk hx
   clear hx hx0 hcv
   go_wp2
   refine ⟨⟨k + 1, by omega, by go_num, ⟨?_⟩, ⟨?_⟩⟩, by simp [intOf]; omega⟩
   ·have := BAt.store HR.out k (x ^^^ by_) (by rw [mixAt_length, HLl.out]; exact hlt)
    rw [mixAt_set by_ L k x (by rw [HLl.out]; exact hlt) HX.out] at this
    exact this
   ·exact HB.out.setCell (p := ⟨g, k, none⟩) HG.out _
  ·have hk64 : k = 64 := by omega
   subst hk64
   clear hlt hk
   have hm : mixAt by_ L 64 = L.map (· ^^^ by_) := mixAt_all by_ L 64 HLl.out
   have hcv2 := hcv.out wr _ HR.out (by rw [hm, List.length_map, HLl.out])
   rw [hm] at hcv2
   clear hm hcv
   go_wp2
   go_ret
   rw [HL.out]
   exact ⟨rfl, HB.out⟩
theorem hmac_turned.calls (a0 : ByteArray) (a1 : Int) (r : ByteArray) (w : World) (h : hmac_turned.f a0 a1 = some r) :
  Calls Try.prog 145 #[.string a0, .int .u8 a1] w fun e w' => e = .returned (.string r) ∧ Below w.heap.size w w' := by
 unfold hmac_turned.f at h
 by_cases hc : a0.size ≤ 1000000000000 ∧ 0 ≤ a1 ∧ a1 < 256
 ·rw [if_pos hc] at h
  obtain rfl := Option.some.inj h
  obtain ⟨h0, h1, h2⟩ := hc
  obtain ⟨n, rfl⟩ := Int.eq_ofNat_of_zero_le h1
  rw [Int.toNat_natCast]
  by_cases h64 : 64 < a0.size
  ·have e : key64 (bys a0) = bys (sumT a0) ++ List.replicate (64 - (sumT a0).size) 0 := by
    unfold key64
    rw [if_pos (by rw [bys_length]; omega), bys_sumT, sumT_size, sumL_length]
   rw [e]
   exact turnedL a0 n (by omega) h64 h0 w
  ·have e : key64 (bys a0) = bys a0 ++ List.replicate (64 - a0.size) 0 := by
    unfold key64
    rw [if_neg (by rw [bys_length]; omega), bys_length]
   rw [e]
   exact turnedS a0 n (by omega) (by omega) w
 ·rw [if_neg hc] at h
  cases h
end Go.Proofs.Ytbkbganflnemeaa.Pr
end

section
namespace Go.Proofs.Ytbkbganflnemeaa.Pr
open Go.RowKit Go.Proofs.YtbkbganflnemeaaW.PrintWords Go.Proofs.YtbkbganflnemeaaW.PrintLast Go.Proofs.YtbkbganflnemeaaW.PrintMore
attribute [local go_sem] max2_int min2_int max_two min_two max_three min_three max_four min_four
def hmac_Mac.f (a0 : ByteArray) (a1 : ByteArray) : Option (ByteArray) := (hmac_turned.f a0 92).bind fun t225 => ((hmac_turned.f a0 54).bind fun t226 => (if t226.size + a1.size ≤ 9223372036854775807 then ((sha_Sum.f (t226 ++ a1)).bind fun t227 => (if t225.size + t227.size ≤ 9223372036854775807 then ((sha_Sum.f (t225 ++ t227)).bind fun t228 => (some t228)) else (none))) else (none)))
set_option maxHeartbeats 8000000 in
set_option maxRecDepth 100000 in
theorem hmac_Mac.calls (a0 : ByteArray) (a1 : ByteArray) (r : ByteArray) (w : World) (h : hmac_Mac.f a0 a1 = some r) :
  Calls Try.prog 124 #[.string a0, .string a1] w fun e w' => e = .returned (.string r) ∧ Below w.heap.size w w' := by
 have HB := Aside0.mk (Below.refl w.heap.size w); have H : ((hmac_turned.f a0 92).bind fun t225 => ((hmac_turned.f a0 54).bind fun t226 => (if t226.size + a1.size ≤ 9223372036854775807 then ((sha_Sum.f (t226 ++ a1)).bind fun t227 => (if t225.size + t227.size ≤ 9223372036854775807 then ((sha_Sum.f (t225 ++ t227)).bind fun t228 => (some t228)) else (none))) else (none)))) = some r := h; clear h; replace H := Option.bind_eq_some_iff.mp H; obtain ⟨t225, A30, H⟩ := H; have A3 := Aside0.mk A30; clear A30; replace H := Option.bind_eq_some_iff.mp H; obtain ⟨t226, A40, H⟩ := H; have A4 := Aside0.mk A40; clear A40; by_cases c5 : t226.size + a1.size ≤ 9223372036854775807
 ·rw [if_pos c5] at H; have c5b0 := eq_true c5; have c5b1 : decide (t226.size + a1.size ≤ 9223372036854775807) = true := decide_eq_true c5; try have c5b2 : (9223372036854775807 < t226.size + a1.size) = False := eq_false (Nat.not_lt.2 c5)
  replace H := Option.bind_eq_some_iff.mp H; obtain ⟨t227, A60, H⟩ := H; have A6 := Aside0.mk A60; clear A60; by_cases c7 : t225.size + t227.size ≤ 9223372036854775807
  ·rw [if_pos c7] at H; have c7b0 := eq_true c7; have c7b1 : decide (t225.size + t227.size ≤ 9223372036854775807) = true := decide_eq_true c7; try have c7b2 : (9223372036854775807 < t225.size + t227.size) = False := eq_false (Nat.not_lt.2 c7)
   replace H := Option.bind_eq_some_iff.mp H; obtain ⟨t228, A80, H⟩ := H; have A8 := Aside0.mk A80; clear A80; obtain rfl := Option.some.inj H; go_enter Try.func124, Try.ntmps124
   go_wp2_with (first | ((with_reducible refine gate_callee (f := 145) rfl ?_); refine gl_ 6 Try.func145 #[.string a0, .int .u8 92] ?_; (with_reducible refine (hmac_turned.calls a0 92 t225 _ A3.out).mono ?_); rintro e w9 ⟨rfl, hb⟩; refine ⟨_, rfl, ?_⟩; replace HB := Aside0.mk (below_step hb_ hb)) | ((with_reducible refine gate_callee (f := 145) rfl ?_); refine gl_ 8 Try.func145 #[.string a0, .int .u8 54] ?_; (with_reducible refine (hmac_turned.calls a0 54 t226 _ A4.out).mono ?_); rintro e w10 ⟨rfl, hb⟩; refine ⟨_, rfl, ?_⟩; replace HB := Aside0.mk (below_step hb_ hb)) | ((with_reducible refine gate_callee (f := 138) rfl ?_); refine gl_ 11 Try.func138 #[.string (t226 ++ a1)] ?_; (with_reducible refine (sha_Sum.calls (t226 ++ a1) t227 _ A6.out).mono ?_); rintro e w11 ⟨rfl, hb⟩; refine ⟨_, rfl, ?_⟩; replace HB := Aside0.mk (below_step hb_ hb)) | ((with_reducible refine gate_callee (f := 138) rfl ?_); refine gl_ 13 Try.func138 #[.string (t225 ++ t227)] ?_; (with_reducible refine (sha_Sum.calls (t225 ++ t227) t228 _ A8.out).mono ?_); rintro e w12 ⟨rfl, hb⟩; refine ⟨_, rfl, ?_⟩; replace HB := Aside0.mk (below_step hb_ hb)))
   go_ret
   exact ⟨ew_, hb_⟩
  ·rw [if_neg c7] at H; exact absurd H (by simp)
 ·rw [if_neg c5] at H; exact absurd H (by simp)
end Go.Proofs.Ytbkbganflnemeaa.Pr
end

section
namespace Go.Proofs.Ytbkbganflnemeaa.Pr
open Go.RowKit Go.Proofs.YtbkbganflnemeaaW.PrintWords Go.Proofs.YtbkbganflnemeaaW.PrintLast
def macL (k s : List Nat) : List Nat := sumL ((key64 k).map (· ^^^ 92) ++ sumL ((key64 k).map (· ^^^ 54) ++ s))
def macT (k s : ByteArray) : ByteArray := txt (macL (bys k) (bys s))
theorem macT_size (k s : ByteArray) : (macT k s).size = 32 := by rw [macT, txt_size, macL, sumL_length]
theorem key64_lt (l : List Nat) (hl : ∀ x ∈ l, x < 256) : ∀ x ∈ key64 l, x < 256 := by
 intro x hx
 unfold key64 at hx
 rw [List.mem_append] at hx
 rcases hx with hx | hx
 ·split at hx
  ·exact sumL_lt _ x hx
  ·exact hl x hx
 ·rw [List.mem_replicate] at hx
  omega
theorem turn_lt (l : List Nat) (hl : ∀ x ∈ l, x < 256) (b : Nat) (hb : b < 256) : ∀ x ∈ (key64 l).map (· ^^^ b), x < 256 := by
 intro x hx
 rw [List.mem_map] at hx
 obtain ⟨y, hy, rfl⟩ := hx
 exact Nat.xor_lt_two_pow (n := 8) (key64_lt l hl y hy) hb
theorem hmac_turned_f (a : ByteArray) (h : a.size ≤ 1000000000000) (b : Nat) (hb : b < 256) : hmac_turned.f a (b : Int) = some (txt ((key64 (bys a)).map (· ^^^ b))) := by
 unfold hmac_turned.f
 rw [if_pos ⟨h, by omega, by omega⟩, Int.toNat_natCast]
theorem two_sums (k s T1 T2 : ByteArray) (h1 : T1 = txt ((key64 (bys k)).map (· ^^^ 92))) (h2 : T2 = txt ((key64 (bys k)).map (· ^^^ 54))) : sumT (T1 ++ sumT (T2 ++ s)) = macT k s := by
 subst h1
 subst h2
 unfold sumT macT macL
 rw [bys_append, bys_append, bys_txt (turn_lt _ (bys_lt' k) 92 (by decide)), bys_txt (turn_lt _ (bys_lt' k) 54 (by decide)), bys_txt (sumL_lt _)]
theorem turn_size (l : List Nat) (b : Nat) : (txt ((key64 l).map (· ^^^ b))).size = 64 := by rw [txt_size, List.length_map, key64_length]
theorem hmac_Mac_f (k s : ByteArray) (hk : k.size ≤ 100000000000) (hs : s.size ≤ 100000000000) : hmac_Mac.f k s = some (macT k s) := by
 unfold hmac_Mac.f
 rw [show (92 : Int) = ((92 : Nat) : Int) from rfl, show (54 : Int) = ((54 : Nat) : Int) from rfl, hmac_turned_f k (by omega) 92 (by decide), hmac_turned_f k (by omega) 54 (by decide), Option.bind_some, Option.bind_some]
 rw [if_pos (by rw [turn_size]; omega), sha_Sum_f _ (by rw [ByteArray.size_append, turn_size]; omega), Option.bind_some, if_pos (by rw [turn_size, sumT_size]; omega), sha_Sum_f _ (by rw [ByteArray.size_append, turn_size, sumT_size]; omega), Option.bind_some]
 rw [two_sums k s _ _ rfl rfl]
end Go.Proofs.Ytbkbganflnemeaa.Pr
end

section
namespace Go.Proofs.Ytbkbganflnemeaa.Pr
open Go.RowKit Go.Deep Go.Proofs.YtbkbganflnemeaaW.PrintWords Go.Proofs.YtbkbganflnemeaaW.PrintLast Go.Proofs.YtbkbganflnemeaaW.PrintMore
set_option maxHeartbeats 2000000
def partL (key purpose : List Nat) : Nat → List Nat
 | 0 => []
 | j + 1 => macL key (partL key purpose j ++ purpose ++ [(j + 1) % 256])
def expL (key purpose : List Nat) : Nat → List Nat
 | 0 => []
 | j + 1 => expL key purpose j ++ partL key purpose (j + 1)
def hkdf_Expand.f (a0 a1 : ByteArray) (a2 : Int) : Option (ByteArray × Int) :=
 if a2 < 0 ∨ 8160 < a2 then some (⟨#[]⟩, 1) else if a0.size ≤ 1000000000 ∧ a1.size ≤ 1000000000 then some (txt ((expL (bys a0) (bys a1) ((a2.toNat + 31) / 32)).take a2.toNat), 0) else none
theorem partL_length (k p : List Nat) (j : Nat) : (partL k p (j + 1)).length = 32 := sumL_length _
theorem partL_lt (k p : List Nat) : ∀ j, ∀ x ∈ partL k p j, x < 256
 | 0 => by intro x hx; simp [partL] at hx
 | j + 1 => sumL_lt _
theorem expL_length (k p : List Nat) : ∀ j, (expL k p j).length = 32 * j
 | 0 => rfl
 | j + 1 => by rw [expL, List.length_append, expL_length k p j, partL_length]; omega
theorem expL_cells (k p : List Nat) (j : Nat) : (Lib.byteCells (txt (expL k p j)).data.toList).length = 32 * j := by
 rw [← expL_length k p j]
 simp [Lib.byteCells, txt]
set_option maxRecDepth 100000 in
theorem expand (a0 a1 : ByteArray) (n : Nat) (hn : n ≤ 8160) (h0 : a0.size ≤ 1000000000) (h1 : a1.size ≤ 1000000000) (w : World) :
  Calls Try.prog 92 #[.string a0, .string a1, .int .i64 n] w fun e w' => e = .returned (.tuple #[.string (txt ((expL (bys a0) (bys a1) ((n + 31) / 32)).take n)), .int .i64 0]) ∧ Below w.heap.size w w' := by
 have c1 : decide ((n : Int) < 0) = false := decide_eq_false (by omega)
 have c2 : decide (8160 < (n : Int)) = false := decide_eq_false (by omega)
 go_enter Try.func92, Try.ntmps92
 go_wp2_with (fail)
 rw [show ((n : Int) + 32 - 1) / 32 = (((n + 31) / 32 : Nat) : Int) by omega]
 generalize hN : (n + 31) / 32 = N
 have hN1 : N ≤ 255 := by omega
 have hN2 : n ≤ 32 * N := by omega
 have HN := Aside0.mk hN
 clear hN
 have hm32 := Aside0.mk (macT_size)
 go_loopw [9, 21] (fun t i wr => ∃ (k : Nat) (τ : ByteArray), k ≤ N ∧ i = .int .i64 k ∧ t = .string τ ∧ τ.size ≤ 32 ∧ Aside0 (τ = txt (partL (bys a0) (bys a1) k)) ∧ Aside0 (Lib.IsBuilder 115 5 w.heap.size w.heap.size (Lib.byteCells (txt (expL (bys a0) (bys a1) k)).data.toList) wr) ∧ Aside0 (Below w.heap.size w wr)) (fun _ i _ => N - (intOf i).toNat)
 case atStart => exact ⟨0, ⟨#[]⟩, by omega, rfl, rfl, by decide, ⟨rfl⟩, ⟨Lib.fresh_isBuilder _ _ w⟩, ⟨below_alloc (Below.refl _ _) _⟩⟩
 case round =>
  obtain ⟨k, τ, hk, rfl, rfl, hτ, HT, HI, HB⟩ := hrel
  by_cases hlt : k < N
  ·have k1 : τ.size + a1.size ≤ 9223372036854775807 := by omega
   have k3 : (9223372036854775807 < τ.size + a1.size) = False := eq_false (Nat.not_lt.2 k1)
   have hcv : (convert 68 9 (.slice (some ⟨wr.heap.size, 0, none⟩) 1 1)).run Try.prog (wr.alloc (.cells #[.int .u8 ((k : Int) + 1)] 5)) = .ok (.string (txt [k + 1])) (wr.alloc (.cells #[.int .u8 ((k : Int) + 1)] 5)) := by
    have := conv_u8s (wr.alloc (.cells (u8s [k + 1]) 5)) 68 9 5 5 wr.heap.size [k + 1] 1 Try.underlying68 Try.underlying5 Try.underlying9 (heap_alloc_last _ _) rfl 1
    simpa [u8s] using this
   generalize hV : txt [k + 1] = V at hcv
   have hVs : V.size ≤ 1 := by rw [← hV, txt_size]; exact Nat.le_refl _
   have HV := Aside0.mk hV
   have k5 : (τ ++ a1).size + V.size ≤ 9223372036854775807 := by rw [ByteArray.size_append]; omega
   have k6 : τ.size + a1.size + V.size ≤ 9223372036854775807 := by omega
   clear hV k3
   have hI1 : Aside0 (Lib.IsBuilder 115 5 w.heap.size w.heap.size (Lib.byteCells (txt (expL (bys a0) (bys a1) k)).data.toList) (wr.alloc (.cells #[.int .u8 ((k : Int) + 1)] 5))) := ⟨isBuilder_below HI.out (below_alloc (Below.refl _ _) _)⟩
   have hB1 : Aside0 (Below w.heap.size w (wr.alloc (.cells #[.int .u8 ((k : Int) + 1)] 5))) := ⟨below_alloc HB.out _⟩
   go_wp2_with (go_at_call 124; refine (hmac_Mac.calls a0 (τ ++ a1 ++ V) _ _ (hmac_Mac_f a0 (τ ++ a1 ++ V) (by omega) (by rw [ByteArray.size_append, ByteArray.size_append]; omega))).mono ?_; rintro e w3 ⟨rfl, hb3⟩; generalize hM : macT a0 (τ ++ a1 ++ V) = τ'; have hI3 : Aside0 (Lib.IsBuilder 115 5 w.heap.size w.heap.size (Lib.byteCells (txt (expL (bys a0) (bys a1) k)).data.toList) w3) := ⟨isBuilder_below hI1.out hb3⟩; have hB3 : Aside0 (Below w.heap.size w w3) := ⟨below_then hB1.out hB1.out.size hb3⟩; clear hb3; have HMM := Aside0.mk hM; clear hM)
   have hτ' : τ'.size = 32 := by rw [← HMM.out, macT_size]
   have hτ2 : τ'.size ≤ 32 := by omega
   have hbl := expL_cells (bys a0) (bys a1) k
   have HBL := Aside0.mk hbl
   have HTS := Aside0.mk hτ'
   clear hbl hτ'
   go_wp2_with (go_at_call 84; refine (Try.Builder_WriteString w.heap.size w.heap.size _ τ' _ hI3.out (by rw [HBL.out]; omega) hB3.out.size).mono ?_; rintro e w4 ⟨rfl, hI4, hb4⟩; have HI4 := Aside0.mk hI4; have HB4 := Aside0.mk hb4; clear hI4 hb4)
   go_wp2
   have hp : txt (partL (bys a0) (bys a1) (k + 1)) = τ' := by
    rw [← HMM.out, macT, bys_append, bys_append, ← HV.out, HT.out, bys_txt (partL_lt _ _ _), bys_txt (by intro x hx; rw [List.mem_singleton] at hx; omega), partL, Nat.mod_eq_of_lt (by omega)]
   refine ⟨⟨k + 1, τ', by omega, by go_num, rfl, hτ2, ⟨hp.symm⟩, ⟨?_⟩, ⟨hB3.out.trans HB4.out⟩⟩, by simp [intOf]; omega⟩
   have e : Lib.byteCells (txt (expL (bys a0) (bys a1) (k + 1))).data.toList = Lib.byteCells (txt (expL (bys a0) (bys a1) k)).data.toList ++ Lib.strCells τ' := by
    rw [← hp, expL]
    simp [txt, Lib.byteCells, Lib.strCells]
   rw [e]
   exact .inr HI4.out
  ·obtain rfl : k = N := by omega
   clear hlt hk hτ
   have hbl := expL_length (bys a0) (bys a1) k
   have HX : Aside0 ((⟨(txt (expL (bys a0) (bys a1) k)).data.toList.toArray⟩ : ByteArray) = txt (expL (bys a0) (bys a1) k)) := ⟨by simp⟩
   have hYs : (txt (expL (bys a0) (bys a1) k)).size = 32 * k := by rw [txt_size, hbl]
   have i1 := eq_true (show (n : Int) ≤ ((txt (expL (bys a0) (bys a1) k)).size : Int) by omega)
   have i2 := eq_true (show 0 ≤ (n : Int) by omega)
   clear hYs hbl
   have HF : Aside0 ((txt (expL (bys a0) (bys a1) k)).extract 0 n = txt ((expL (bys a0) (bys a1) k).take n)) := ⟨by rw [txt_extract]; rfl⟩
   go_wp2_with (go_at_call 86; refine (Try.Builder_String_any w.heap.size w.heap.size _ _ HI.out HB.out.size).mono ?_; rw [HX.out]; rintro e w2 ⟨rfl, hb2⟩)
   go_ret2
   rw [HN.out, ← HF.out]
   exact ⟨rfl, HB.out.trans hb2⟩
set_option maxRecDepth 100000 in
theorem expand_no (a0 a1 : ByteArray) (a2 : Int) (h : a2 < 0 ∨ 8160 < a2) (w : World) :
  Calls Try.prog 92 #[.string a0, .string a1, .int .i64 a2] w fun e w' => e = .returned (.tuple #[.string ⟨#[]⟩, .int .i64 1]) ∧ Below w.heap.size w w' := by
 by_cases h0 : a2 < 0
 ·have c1 : decide (a2 < 0) = true := decide_eq_true h0
  clear h
  go_enter Try.func92, Try.ntmps92
  go_wp2
  go_ret2
  exact ⟨rfl, Below.refl _ _⟩
 ·have c1 : decide (a2 < 0) = false := decide_eq_false h0
  have c2 : decide (8160 < a2) = true := decide_eq_true (by omega)
  clear h
  go_enter Try.func92, Try.ntmps92
  go_wp2
  go_ret2
  exact ⟨rfl, Below.refl _ _⟩
theorem hkdf_Expand.calls (a0 a1 : ByteArray) (a2 : Int) (r1 : ByteArray) (r2 : Int) (w : World) (h : hkdf_Expand.f a0 a1 a2 = some (r1, r2)) :
  Calls Try.prog 92 #[.string a0, .string a1, .int .i64 a2] w fun e w' => e = .returned (.tuple #[.string r1, .int .i64 r2]) ∧ Below w.heap.size w w' := by
 unfold hkdf_Expand.f at h
 by_cases hc : a2 < 0 ∨ 8160 < a2
 ·rw [if_pos hc] at h
  simp only [Option.some.injEq, Prod.mk.injEq] at h
  obtain ⟨rfl, rfl⟩ := h
  exact expand_no a0 a1 a2 hc w
 ·rw [if_neg hc] at h
  by_cases hs : a0.size ≤ 1000000000 ∧ a1.size ≤ 1000000000
  ·rw [if_pos hs] at h
   simp only [Option.some.injEq, Prod.mk.injEq] at h
   obtain ⟨rfl, rfl⟩ := h
   obtain ⟨n, rfl⟩ := Int.eq_ofNat_of_zero_le (show 0 ≤ a2 by omega)
   rw [Int.toNat_natCast]
   exact expand a0 a1 n (by omega) hs.1 hs.2 w
  ·rw [if_neg hs] at h
   cases h
end Go.Proofs.Ytbkbganflnemeaa.Pr
end

section
namespace Go.Proofs.Ytbkbganflnemeaa.Pr
open Go.RowKit Go.Proofs.YtbkbganflnemeaaW.PrintWords Go.Proofs.YtbkbganflnemeaaW.PrintLast Go.Proofs.YtbkbganflnemeaaW.PrintMore
attribute [local go_sem] max2_int min2_int max_two min_two max_three min_three max_four min_four
def hkdf_Extract.f (a0 : ByteArray) (a1 : ByteArray) : Option (ByteArray) := if a0.toList = ([] : List UInt8) then ((strings_Repeat.f (⟨#[0]⟩ : ByteArray) 32).bind fun t329 => ((hmac_Mac.f t329 a1).bind fun t330 => (some t330))) else ((hmac_Mac.f a0 a1).bind fun t331 => (some t331))
set_option maxHeartbeats 8000000 in
set_option maxRecDepth 100000 in
theorem hkdf_Extract.calls (a0 : ByteArray) (a1 : ByteArray) (r : ByteArray) (w : World) (h : hkdf_Extract.f a0 a1 = some r) :
  Calls Try.prog 94 #[.string a0, .string a1] w fun e w' => e = .returned (.string r) ∧ Below w.heap.size w w' := by
 have HB := Aside0.mk (Below.refl w.heap.size w); have H : (if a0.toList = ([] : List UInt8) then ((strings_Repeat.f (⟨#[0]⟩ : ByteArray) 32).bind fun t329 => ((hmac_Mac.f t329 a1).bind fun t330 => (some t330))) else ((hmac_Mac.f a0 a1).bind fun t331 => (some t331))) = some r := h; clear h; by_cases c3 : a0.toList = ([] : List UInt8)
 ·rw [if_pos c3] at H; have c3b0 : (a0.toList == ([] : List UInt8)) = true := beq_iff_eq.mpr c3; have c3b1 : (a0.toList != ([] : List UInt8)) = false := bne_eq_false_iff_eq.mpr c3; clear c3; replace H := Option.bind_eq_some_iff.mp H; obtain ⟨t329, A40, H⟩ := H; have A4 := Aside0.mk A40; clear A40; replace H := Option.bind_eq_some_iff.mp H; obtain ⟨t330, A50, H⟩ := H; have A5 := Aside0.mk A50; clear A50; obtain rfl := Option.some.inj H; go_enter Try.func94, Try.ntmps94
  go_wp2_with (first | ((with_reducible refine gate_callee (f := 51) rfl ?_); refine gl_ 7 Try.func51 #[.string (⟨#[0]⟩ : ByteArray), .int .i64 32] ?_; (with_reducible refine (strings_Repeat.calls (⟨#[0]⟩ : ByteArray) 32 t329 _ A4.out).mono ?_); rintro e w6 ⟨rfl, hb⟩; refine ⟨_, rfl, ?_⟩; replace HB := Aside0.mk (below_step hb_ hb)) | ((with_reducible refine gate_callee (f := 124) rfl ?_); refine gl_ 10 Try.func124 #[.string t329, .string a1] ?_; (with_reducible refine (hmac_Mac.calls t329 a1 t330 _ A5.out).mono ?_); rintro e w7 ⟨rfl, hb⟩; refine ⟨_, rfl, ?_⟩; replace HB := Aside0.mk (below_step hb_ hb)))
  go_ret
  exact ⟨ew_, hb_⟩
 ·rw [if_neg c3] at H; have c3b0 : (a0.toList == ([] : List UInt8)) = false := beq_eq_false_iff_ne.mpr c3; have c3b1 : (a0.toList != ([] : List UInt8)) = true := bne_iff_ne.mpr c3; replace H := Option.bind_eq_some_iff.mp H; obtain ⟨t331, A80, H⟩ := H; have A8 := Aside0.mk A80; clear A80; obtain rfl := Option.some.inj H; go_enter Try.func94, Try.ntmps94
  go_wp2_with (first | ((with_reducible refine gate_callee (f := 124) rfl ?_); refine gl_ 10 Try.func124 #[.string a0, .string a1] ?_; (with_reducible refine (hmac_Mac.calls a0 a1 t331 _ A8.out).mono ?_); rintro e w9 ⟨rfl, hb⟩; refine ⟨_, rfl, ?_⟩; replace HB := Aside0.mk (below_step hb_ hb)))
  go_ret
  exact ⟨ew_, hb_⟩
end Go.Proofs.Ytbkbganflnemeaa.Pr
end

section
namespace Go.Proofs.Ytbkbganflnemeaa.Pr
open Go.RowKit Go.Proofs.YtbkbganflnemeaaW.PrintWords Go.Proofs.YtbkbganflnemeaaW.PrintLast
theorem empty_size (a : ByteArray) : (a.toList = ([] : List UInt8)) ↔ a.size = 0 := by
 rw [ByteArray.toList_eq]
 obtain ⟨⟨l⟩⟩ := a
 cases l with
 | nil => simp [ByteArray.size]
 | cons x l => simp [ByteArray.size]
theorem noughts_str (n : Nat) : strOfNums (List.replicate n 0) = txt (List.replicate n 0) := by
 rw [← str_nats, List.map_replicate]
 rfl
theorem bys_noughts (n : Nat) : bys (txt (List.replicate n 0)) = List.replicate n 0 := bys_txt (by intro x hx; rw [List.mem_replicate] at hx; omega)
theorem macT_empty (a s : ByteArray) (h : a.size = 0) : macT (txt (List.replicate 32 0)) s = macT a s := by
 have e : bys a = [] := by
  rw [← List.length_eq_zero_iff, bys_length]
  exact h
 unfold macT macL
 rw [bys_noughts, e]
 rfl
theorem hkdf_Extract_f (a s : ByteArray) (h0 : a.size ≤ 1000000000) (h1 : s.size ≤ 1000000000) : hkdf_Extract.f a s = some (macT a s) := by
 unfold hkdf_Extract.f
 by_cases hc : a.size = 0
 ·rw [if_pos ((empty_size a).2 hc), strings_Repeat.f, if_pos (by decide), Option.bind_some, show (32 : Int).toNat = 32 from rfl, txt_repeat, hmac_Mac_f _ _ (by rw [txt_size, List.length_replicate]; omega) (by omega), Option.bind_some, macT_empty a s hc]
 ·rw [if_neg (fun h => hc ((empty_size a).1 h)), hmac_Mac_f _ _ (by omega) (by omega), Option.bind_some]
theorem hkdf_Expand_f (x0 x1 : ByteArray) (h0 : x0.size ≤ 1000000000) (h1 : x1.size ≤ 1000000000) (n : Nat) (hn : n ≤ 8160) : hkdf_Expand.f x0 x1 (n : Int) = some (txt ((expL (bys x0) (bys x1) ((n + 31) / 32)).take n), 0) := by
 unfold hkdf_Expand.f
 rw [if_neg (by omega), if_pos ⟨h0, h1⟩, Int.toNat_natCast]
end Go.Proofs.Ytbkbganflnemeaa.Pr
end

section
namespace Go.Proofs.Ytbkbganflnemeaa.Pr
open Go.RowKit Go.Deep Go.Proofs.YtbkbganflnemeaaW.PrintWords Go.Proofs.YtbkbganflnemeaaW.PrintLast Go.Proofs.YtbkbganflnemeaaW.PrintMore
set_option maxHeartbeats 2000000
def chaOK (a0 a1 : ByteArray) (a2 : Int) : Prop := a0.size = 32 ∧ a1.size = 12 ∧ 0 ≤ a2 ∧ a2 < 4294967296
instance (a0 a1 : ByteArray) (a2 : Int) : Decidable (chaOK a0 a1 a2) := by unfold chaOK; infer_instance
def strOK (a0 a1 : ByteArray) (a2 : Int) (a3 : ByteArray) : Prop := chaOK a0 a1 a2 ∧ a3.size ≤ 65536 ∧ ((a3.size + 63) / 64 : Nat) ≤ 4294967296 - a2
instance (a0 a1 : ByteArray) (a2 : Int) (a3 : ByteArray) : Decidable (strOK a0 a1 a2 a3) := by unfold strOK; infer_instance
def upto (f : Nat → Nat → Nat) (k : Nat) : Nat → Nat → Nat := fun i x => if i < k then f i x else x
end Go.Proofs.Ytbkbganflnemeaa.Pr
end

section
namespace Go.Proofs.Ytbkbganflnemeaa.Pr
open Go.RowKit Go.Proofs.YtbkbganflnemeaaW.PrintWords Go.Proofs.YtbkbganflnemeaaW.PrintLast
set_option maxHeartbeats 1000000
def aeadOK (a0 a1 : ByteArray) (x y : Nat) : Prop := a0.size = 32 ∧ a1.size = 12 ∧ x ≤ 32768 ∧ y ≤ 32768 - x
instance (a0 a1 : ByteArray) (x y : Nat) : Decidable (aeadOK a0 a1 x y) := by unfold aeadOK; infer_instance
def hkT (key p : ByteArray) : ByteArray := txt ((expL (bys key) (bys p) 1).take 32)
theorem hkT_size (key p : ByteArray) : (hkT key p).size = 32 := by
 unfold hkT
 rw [txt_size, List.length_take, expL_length]
 rfl
theorem expand_32 (key p : ByteArray) (h0 : key.size ≤ 1000000000) (h1 : p.size ≤ 1000000000) : hkdf_Expand.f key p 32 = some (hkT key p, 0) := hkdf_Expand_f key p h0 h1 32 (by decide)
end Go.Proofs.Ytbkbganflnemeaa.Pr
end

section
namespace Go.Proofs.Ytbkbganflnemeaa.Pr
open Go.RowKit Go.Deep Go.Maps Go.Proofs.YtbkbganflnemeaaW.PrintWords Go.Proofs.YtbkbganflnemeaaW.PrintLast Go.Proofs.YtbkbganflnemeaaW.PrintMore
set_option maxHeartbeats 2000000
def RealAt (g : Nat) (w : World) : Prop := w.heap[g]? = some (.cells #[.iface 91 (.agg #[])] 43 (0, 0))
theorem Real_calls (w : World) :
  Calls Try.prog 25 #[] w fun e w' => e = .returned (.pointer (some ⟨w.heap.size, 0, none⟩)) ∧ RealAt w.heap.size w' ∧ Below w.heap.size w w' := by
 go_enter Try.func25, Try.ntmps25
 go_wp2_with (fail)
 go_ret
 exact ⟨rfl, heap_alloc_new w _, below_alloc (Below.refl _ _) _⟩
theorem made_some (g : Nat) (w : World) (t : TypeId) (v : Value) (h : w.cell? ⟨g, 0, none⟩ = some (.iface t v)) : Calls Try.prog 61 #[.pointer (some ⟨g, 0, none⟩)] w fun e w' => e = .returned (.bool true) ∧ w' = w := by
 go_enter Try.func61, Try.ntmps61
 go_wp2_with (fail)
 go_ret
 exact ⟨rfl, rfl⟩
end Go.Proofs.Ytbkbganflnemeaa.Pr
end

section
namespace Go.Proofs.Ytbkbganflnemeaa.Pr
open Go.RowKit Go.Proofs.YtbkbganflnemeaaW.PrintWords Go.Proofs.YtbkbganflnemeaaW.PrintLast Go.Proofs.YtbkbganflnemeaaW.PrintMore
attribute [local go_sem] max2_int min2_int max_two min_two max_three min_three max_four min_four
def hkdf_Derive.f (a0 : ByteArray) (a1 : ByteArray) (a2 : ByteArray) (a3 : Int) : Option (ByteArray × Int) := (hkdf_Extract.f a0 a1).bind fun t332 => ((hkdf_Expand.f t332 a2 a3).bind fun bt333 => (some (bt333.1, bt333.2)))
set_option maxHeartbeats 8000000 in
set_option maxRecDepth 100000 in
theorem hkdf_Derive.calls (a0 : ByteArray) (a1 : ByteArray) (a2 : ByteArray) (a3 : Int) (r1 : ByteArray) (r2 : Int) (w : World) (h : hkdf_Derive.f a0 a1 a2 a3 = some (r1, r2)) :
  Calls Try.prog 59 #[.string a0, .string a1, .string a2, .int .i64 a3] w fun e w' => e = .returned (.tuple #[.string r1, .int .i64 r2]) ∧ Below w.heap.size w w' := by
 have HB := Aside0.mk (Below.refl w.heap.size w); have H : ((hkdf_Extract.f a0 a1).bind fun t332 => ((hkdf_Expand.f t332 a2 a3).bind fun bt333 => (some (bt333.1, bt333.2)))) = some (r1, r2) := h; clear h; replace H := Option.bind_eq_some_iff.mp H; obtain ⟨t332, A50, H⟩ := H; have A5 := Aside0.mk A50; clear A50; replace H := Option.bind_eq_some_iff.mp H; obtain ⟨⟨t333, t334⟩, A60, H⟩ := H; try dsimp only at H
 have A6 := Aside0.mk A60; clear A60; simp only [Option.some.injEq, Prod.mk.injEq] at H; obtain ⟨rfl, rfl⟩ := H; go_enter Try.func59, Try.ntmps59
 go_wp2_with (first | ((with_reducible refine gate_callee (f := 94) rfl ?_); refine gl_ 12 Try.func94 #[.string a0, .string a1] ?_; (with_reducible refine (hkdf_Extract.calls a0 a1 t332 _ A5.out).mono ?_); rintro e w7 ⟨rfl, hb⟩; refine ⟨_, rfl, ?_⟩; replace HB := Aside0.mk (below_step hb_ hb)) | ((with_reducible refine gate_callee (f := 92) rfl ?_); refine gl_ 15 Try.func92 #[.string t332, .string a2, .int .i64 a3] ?_; (with_reducible refine (hkdf_Expand.calls t332 a2 a3 t333 t334 _ A6.out).mono ?_); rintro e w8 ⟨rfl, hb⟩; refine ⟨_, rfl, ?_⟩; replace HB := Aside0.mk (below_step hb_ hb)))
 go_ret2
 exact ⟨ew_, hb_⟩
def word_PutBig.f (l0 : List Int) : Option (ByteArray) := (word_put.f l0 false).bind fun t365 => (some t365)
set_option maxHeartbeats 8000000 in
set_option maxRecDepth 100000 in
theorem word_PutBig.calls (A0 : Option Addr) (c0 : Nat) (l0 : List Int) (r : ByteArray) (w : World) (hr0 : Kd.C (Kd.int .i64) w A0 l0.length l0) (hc0 : l0.length ≤ c0) (h : word_PutBig.f l0 = some r) :
  Calls Try.prog 96 #[.slice A0 l0.length c0] w fun e w' => e = .returned (.string r) ∧ Below w.heap.size w w' := by
 have HR0 := Aside0.mk hr0; have HC0 := Aside0.mk hc0; clear hr0 hc0; have HB := Aside0.mk (Below.refl w.heap.size w); have H : ((word_put.f l0 false).bind fun t365 => (some t365)) = some r := h; clear h; replace H := Option.bind_eq_some_iff.mp H; obtain ⟨t365, A20, H⟩ := H; have A2 := Aside0.mk A20; clear A20; obtain rfl := Option.some.inj H; go_enter Try.func96, Try.ntmps96
 go_wp2_with (first | ((with_reducible refine gate_callee (f := 127) rfl ?_); refine gl_ 4 Try.func127 #[.slice A0 l0.length c0, .bool false] ?_; (with_reducible refine (word_put.calls _ _ l0 false t365 _ ?side1 ?side2 A2.out).mono ?_); (case side1 => exact ca_ HR0.out); (case side2 => exact HC0.out); rintro e w3 ⟨rfl, hb⟩; refine ⟨_, rfl, ?_⟩; replace HB := Aside0.mk (below_step hb_ hb)))
 go_ret
 exact ⟨ew_, hb_⟩
end Go.Proofs.Ytbkbganflnemeaa.Pr
end

section
namespace Go.Proofs.Ytbkbganflnemeaa.Pr
open Go.RowKit Go.Deep Go.Maps Go.Proofs.YtbkbganflnemeaaW.PrintWords Go.Proofs.YtbkbganflnemeaaW.PrintLast Go.Proofs.YtbkbganflnemeaaW.PrintMore
set_option maxHeartbeats 2000000
def vltB : ByteArray := ⟨#[118, 97, 117, 108, 116]⟩
def pbT (c : Nat) : ByteArray := txt (by4 0 ++ by4 c)
def drawP (seed : ByteArray) (c : Nat) : ByteArray := hkT (macT vltB seed) (pbT c)
theorem drawP_size (seed : ByteArray) (c : Nat) : (drawP seed c).size = 32 := hkT_size _ _
theorem pbT_size (c : Nat) : (pbT c).size = 8 := by unfold pbT; rw [txt_size]; rfl
theorem derive_f (seed : ByteArray) (c : Nat) (hs : seed.size ≤ 1000000) : hkdf_Derive.f vltB seed (pbT c) 32 = some (drawP seed c, 0) := by
 unfold hkdf_Derive.f
 rw [hkdf_Extract_f _ _ (by decide) (by omega), Option.bind_some, expand_32 _ _ (by rw [macT_size]; decide) (by rw [pbT_size]; decide)]
 rfl
def drawL (seed : ByteArray) (c : Nat) : Nat → List Nat
 | 0 => []
 | m + 1 => drawL seed c m ++ bys (drawP seed (c + m))
theorem drawL_length (seed : ByteArray) (c : Nat) : ∀ m, (drawL seed c m).length = 32 * m
 | 0 => rfl
 | m + 1 => by rw [drawL, List.length_append, drawL_length seed c m, bys_length, drawP_size]; omega
theorem drawL_cells (seed : ByteArray) (c m : Nat) : (Lib.byteCells (txt (drawL seed c m)).data.toList).length = 32 * m := by
 rw [← drawL_length seed c m]
 simp [Lib.byteCells, txt]
theorem pbT_lit (c : Nat) (x : Int) (h : x = (c : Int)) : word_PutBig.f [0, x] = some (pbT c) := by
 subst h
 unfold word_PutBig.f word_put.f
 rw [if_pos (by simp), Option.bind_some]
 have e : ([0, (c : Int)] : List Int) = ints [0, c] := rfl
 rw [e, if_neg (by decide), flat4i_ints]
 exact congrArg some (str_nats _)
def TabAt (tb mb : Nat) (seed : ByteArray) (c : Nat) (w : World) : Prop := w.heap[tb]? = some (.cells #[.string seed, .int .i64 (c : Int), .map (some mb)] 95 (0, 0))
theorem TabAt.cells {tb mb : Nat} {seed : ByteArray} {c : Nat} {w : World} (h : TabAt tb mb seed c w) : w.cell? ⟨tb, 0, none⟩ = some (.string seed) ∧ w.cell? ⟨tb, 1, none⟩ = some (.int .i64 (c : Int)) ∧ w.cell? ⟨tb, 2, none⟩ = some (.map (some mb)) := by
 refine ⟨?_, ?_, ?_⟩ <;> (rw [cell_of_row _ _ _ _ _ _ h]; rfl)
theorem TabAt.below {tb mb : Nat} {seed : ByteArray} {c : Nat} {w w' : World} (h : TabAt tb mb seed c w) (hb : Below w.heap.size w w') : TabAt tb mb seed c w' := (hb.block tb (blk_lt h)).trans h
theorem grown_of_below {w w' : World} (h : Below w.heap.size w w') (r : Option Nat) : w.grownBy w' r := ⟨h.os, h.tape, h.output, h.size, fun k hk _ => h.block k hk⟩
theorem grown_set (w : World) (b j : Nat) (v : Value) : w.grownBy (w.setCell ⟨b, j, none⟩ v) (some b) := by
 refine ⟨rfl, rfl, rfl, Nat.le_of_eq (by simp [World.setCell]), fun k _ hk => Below.heap_setCell w ⟨b, j, none⟩ v k (fun e => hk (by rw [e]))⟩
theorem builder_far {T e : TypeId} {B b : Nat} {p : Value} {bs : List Value} {w : World} (h : Lib.BuilderAt T e B b p bs w) (g j : Nat) (u : Value) (hg : g < B) : Lib.BuilderAt T e B b p bs (w.setCell ⟨g, j, none⟩ u) := by
 obtain ⟨h1, v, h2, h3, h4⟩ := h
 exact ⟨h1, v, (Below.heap_setCell w ⟨g, j, none⟩ u b (fun e => by have e2 : b = g := e; omega)).trans h2, h3.kept (grown_set w g j u) (.inr (fun e => by have := own_base h3 g e; omega)), h4⟩
theorem grown_then {w w2 w3 : World} {r : Option Nat} (h : w.grownBy w2 r) (hb : Below w.heap.size w2 w3) : w.grownBy w3 r := ⟨hb.os.trans h.os, hb.tape.trans h.tape, hb.output.trans h.output, Nat.le_trans h.size hb.size, fun k hk hr => (hb.block k hk).trans (h.block k hk hr)⟩
set_option maxRecDepth 100000 in
theorem draw_calls (seed : ByteArray) (hs : seed.size ≤ 1000000) (tb mb c n : Nat) (w : World) (hn : n ≤ 40000) (hc : c ≤ 1000000) (h : TabAt tb mb seed c w) :
    Calls Try.prog 63 #[.pointer (some ⟨tb, 0, none⟩), .int .i64 (n : Int)] w fun e w' => e = .returned (.string (txt ((drawL seed c ((n + 31) / 32)).take n))) ∧ TabAt tb mb seed (c + (n + 31) / 32) w' ∧ w.grownBy w' (some tb) := by
  have HT := Aside0.mk h
  have hlt : tb < w.heap.size := blk_lt h
  have HLT := Aside0.mk hlt
  clear h hlt
  have HD := Aside0.mk (derive_f seed)
  have HS := Aside0.mk hs
  clear hs
  generalize hN : (n + 31) / 32 = N
  have hN1 : N ≤ 1251 := by omega
  have HN := Aside0.mk hN
  clear hN
  go_enter Try.func63, Try.ntmps63
  go_wp2_with (fail)
  go_loopg [] (N + 1) (fun q wr => ∃ j : Nat, j ≤ N ∧ Aside0 (q = N + 1 - j) ∧ Aside0 (Lib.IsBuilder 115 5 w.heap.size w.heap.size (Lib.byteCells (txt (drawL seed c j)).data.toList) wr) ∧ Aside0 (TabAt tb mb seed (c + j) wr) ∧ Aside0 (w.grownBy wr (some tb)))
  case atStart => exact ⟨0, by omega, ⟨rfl⟩, ⟨Lib.fresh_isBuilder _ _ w⟩, ⟨HT.out.below (below_alloc (Below.refl _ _) _)⟩, ⟨World.grownBy_alloc _ _ _⟩⟩
  case round =>
    obtain ⟨j, hj, HQ, HI, HTB, HG⟩ := hrel
    have HLE := Aside0.mk (drawL_cells seed c j)
    by_cases hlt : j < N
    · have d1 : decide (32 * (j : Int) < (n : Int)) = true := decide_eq_true (by have := HN.out; omega)
      clear hlt
      have HLT2 := Aside0.mk (show j < N by have := of_decide_eq_true d1; have := HN.out; omega)
      go_wp2_with (go_at_call 85; refine (Try.Builder_Len w.heap.size w.heap.size _ _ HI.out).mono ?_; rw [HLE.out]; rintro e w2 ⟨rfl, rfl⟩)
      obtain ⟨c0, c1, c2⟩ := HTB.out.cells
      rw [Int.natCast_add] at c1
      have HPW : Aside0 (∀ (A0 : Option Addr) (W : World), Kd.C (Kd.int .i64) W A0 2 [0, (c : Int) + (j : Int)] → Calls Try.prog 96 #[.slice A0 2 2] W fun e w' => e = .returned (.string (pbT (c + j))) ∧ Below W.heap.size W w') := ⟨fun A0 W h0 => word_PutBig.calls A0 2 [0, (c : Int) + (j : Int)] (pbT (c + j)) W h0 (Nat.le_refl _) (pbT_lit (c + j) _ (by omega))⟩
      have HDW : Aside0 (∀ (W : World), Calls Try.prog 59 #[.string ⟨#[118, 97, 117, 108, 116]⟩, .string seed, .string (pbT (c + j)), .int .i64 32] W fun e w' => e = .returned (.tuple #[.string (drawP seed (c + j)), .int .i64 0]) ∧ Below W.heap.size W w') := ⟨fun W => hkdf_Derive.calls vltB seed (pbT (c + j)) 32 (drawP seed (c + j)) 0 W (HD.out (c + j) HS.out)⟩
      clear c2
      go_region_held3 (fun w' => w'.cell? ⟨tb, 0, none⟩ = some (.string seed) ∧ w'.cell? ⟨tb, 1, none⟩ = some (.int .i64 ((c : Int) + (j : Int))))
        (first | go_keep | exact ⟨c0, c1⟩)
        (first
          | (go_at_call 96; (with_reducible refine (HPW.out _ _ (by first | exact Kd.C_drew (lit_reads _ [0, (c : Int) + (j : Int)] 3 (by simp)) | exact lit_reads _ [0, (c : Int) + (j : Int)] 3 (by simp))).mono ?_); rintro e w3 ⟨rfl, hb3⟩; have hw3 : Below w2.heap.size w2 w3 := below_step (by repeat (first | exact Below.refl _ _ | apply below_alloc | apply below_drew1)) hb3; replace c0 := pw_cell_below hw3 c0; replace c1 := pw_cell_below hw3 c1; clear hb3)
          | (go_at_call 59; (with_reducible refine (HDW.out _).mono ?_); rintro e w4 ⟨rfl, hb4⟩; have hw4 : Below w2.heap.size w2 w4 := below_step (by repeat (first | exact hw3 | apply below_alloc | apply below_drew1)) hb4; clear hb4 hw3 c0 c1; obtain ⟨c0, c1, c2⟩ := (HTB.out.below hw4).cells; rw [Int.natCast_add] at c1; clear c2))
      have hI4 := isBuilder_below HI.out hw4
      have hT4 := HTB.out.below hw4
      have hG4 := HG.out.trans (grown_of_below hw4 (some tb))
      have HI4 := Aside0.mk hI4
      have HT4 := Aside0.mk hT4
      have HG4 := Aside0.mk hG4
      have HPS := Aside0.mk (drawP_size seed (c + j))
      have HEX : Aside0 (Lib.byteCells (txt (drawL seed c (j + 1))).data.toList = Lib.byteCells (txt (drawL seed c j)).data.toList ++ Lib.strCells (drawP seed (c + j))) := ⟨by
        rw [drawL, txt_append, txt_bys]
        simp [Lib.byteCells, Lib.strCells, ByteArray.data_append]⟩
      have HLW : Aside0 ((Lib.byteCells (txt (drawL seed c j)).data.toList).length + (drawP seed (c + j)).size ≤ 140737488355328) := ⟨by rw [HLE.out, HPS.out]; omega⟩
      clear hI4 hT4 hG4 c0 c1 hw4 HPW HDW HI HTB HG HT HD HS
      generalize drawP seed (c + j) = PP at *
      go_wp2_with (fail)
      refine (Try.Builder_WriteString w.heap.size w.heap.size _ PP _ HI4.out HLW.out HG4.out.size).mono ?_
      rintro e w5 ⟨rfl, hI5, hb5⟩
      have HI5 := Aside0.mk hI5
      have hT5 : TabAt tb mb seed (c + j) w5 := (hb5.block tb HLT.out).trans HT4.out
      have HT5 := Aside0.mk hT5
      have HG5 := Aside0.mk (grown_then HG4.out hb5)
      obtain ⟨c0, c1, c2⟩ := hT5.cells
      rw [Int.natCast_add] at c1
      have f1 := blk_thaw hT5 1
      clear hI5 hb5 hT5 c0 c2 HI4 HT4 HG4
      go_wp2_with (fail)
      go_roundg (gk - 1)
      case measure =>
        have := HQ.out
        have := HLT2.out
        omega
      case rel =>
        go_light
        refine ⟨j + 1, HLT2.out, ⟨by have := HQ.out; omega⟩, ⟨?_⟩, ⟨?_⟩, ⟨?_⟩⟩
        · rw [HEX.out]
          exact .inr (builder_far HI5.out tb 1 _ HLT.out)
        · exact blk_put HT5.out 1 _ (by
            show #[Value.string seed, Value.int .i64 _, Value.map (some mb)] = _
            rw [show ((c + (j + 1) : Nat) : Int) = (c : Int) + (j : Int) + 1 by omega])
        · exact HG5.out.trans (grown_set _ tb 1 _)
    · have d1 : decide (32 * (j : Int) < (n : Int)) = false := decide_eq_false (by have := HN.out; omega)
      obtain rfl : j = N := by omega
      clear hlt
      have hYs : (txt (drawL seed c j)).size = 32 * j := by rw [txt_size, drawL_length]
      have i1 := eq_true (show (n : Int) ≤ ((txt (drawL seed c j)).size : Int) by rw [hYs]; have := HN.out; omega)
      have i2 := eq_true (show 0 ≤ (n : Int) by omega)
      clear hYs
      have HF : Aside0 ((txt (drawL seed c j)).extract 0 n = txt ((drawL seed c j).take n)) := ⟨by rw [txt_extract]; rfl⟩
      go_wp2_with (go_at_call 85; refine (Try.Builder_Len w.heap.size w.heap.size _ _ HI.out).mono ?_; rw [HLE.out]; rintro e w2 ⟨rfl, rfl⟩)
      refine (Try.Builder_String_any w.heap.size w.heap.size _ _ HI.out HG.out.size).mono ?_
      rw [show (⟨(txt (drawL seed c j)).data.toList.toArray⟩ : ByteArray) = txt (drawL seed c j) by simp]
      rintro e w3 ⟨rfl, hb2⟩
      go_wp2_with (fail)
      go_ret
      rw [HF.out]
      exact ⟨rfl, (hb2.block tb HLT.out).trans HTB.out, grown_then HG.out hb2⟩
end Go.Proofs.Ytbkbganflnemeaa.Pr
end

section
namespace Go.Proofs.Ytbkbganflnemeaa.Pr
open Go.RowKit Go.Proofs.YtbkbganflnemeaaW.PrintWords Go.Proofs.YtbkbganflnemeaaW.PrintLast Go.Proofs.YtbkbganflnemeaaW.PrintMore
attribute [local go_sem] max2_int min2_int max_two min_two max_three min_three max_four min_four
def vault_may.f (a0 : ByteArray) (a1 : ByteArray) (a2 : Int) (a3 : Int) : Option (Bool) := if (a0.size : Int) = 32 then (if (a1.size : Int) = 12 then (if a2 ≤ 32768 then (some (decide (a3 ≤ (wrap64 (32768 - a2))))) else (some false)) else (some false)) else (some false)
set_option maxHeartbeats 8000000 in
set_option maxRecDepth 100000 in
theorem vault_may.calls (a0 : ByteArray) (a1 : ByteArray) (a2 : Int) (a3 : Int) (r : Bool) (w : World) (h : vault_may.f a0 a1 a2 a3 = some r) :
  Calls Try.prog 62 #[.string a0, .string a1, .int .i64 a2, .int .i64 a3] w fun e w' => e = .returned (.bool r) ∧ Drawn0 w w' := by
 have H : (if (a0.size : Int) = 32 then (if (a1.size : Int) = 12 then (if a2 ≤ 32768 then (some (decide (a3 ≤ (wrap64 (32768 - a2))))) else (some false)) else (some false)) else (some false)) = some r := h; clear h; by_cases c5 : (a0.size : Int) = 32
 ·rw [if_pos c5] at H; have c5b0 : ((a0.size : Int) == 32) = true := beq_iff_eq.mpr c5; have c5b1 : ((a0.size : Int) != 32) = false := bne_eq_false_iff_eq.mpr c5; clear c5; by_cases c6 : (a1.size : Int) = 12
  ·rw [if_pos c6] at H; have c6b0 : ((a1.size : Int) == 12) = true := beq_iff_eq.mpr c6; have c6b1 : ((a1.size : Int) != 12) = false := bne_eq_false_iff_eq.mpr c6; clear c6; by_cases c7 : a2 ≤ 32768
   ·rw [if_pos c7] at H; have c7b0 : decide (a2 ≤ 32768) = true := decide_eq_true c7; clear c7; obtain rfl := Option.some.inj H; go_enter Try.func62, Try.ntmps62
    go_wp2; go_ret
    exact ⟨rz_, dz_⟩
   ·rw [if_neg c7] at H; have c7b0 : decide (a2 ≤ 32768) = false := decide_eq_false c7; clear c7; obtain rfl := Option.some.inj H; go_enter Try.func62, Try.ntmps62
    go_wp2; go_ret
    exact ⟨rz_, dz_⟩
  ·rw [if_neg c6] at H; have c6b0 : ((a1.size : Int) == 12) = false := beq_eq_false_iff_ne.mpr c6; have c6b1 : ((a1.size : Int) != 12) = true := bne_iff_ne.mpr c6; obtain rfl := Option.some.inj H; go_enter Try.func62, Try.ntmps62
   go_wp2; go_ret
   exact ⟨rz_, dz_⟩
 ·rw [if_neg c5] at H; have c5b0 : ((a0.size : Int) == 32) = false := beq_eq_false_iff_ne.mpr c5; have c5b1 : ((a0.size : Int) != 32) = true := bne_iff_ne.mpr c5; obtain rfl := Option.some.inj H; go_enter Try.func62, Try.ntmps62
  go_wp2; go_ret
  exact ⟨rz_, dz_⟩
end Go.Proofs.Ytbkbganflnemeaa.Pr
end

section
namespace Go.Proofs.Ytbkbganflnemeaa.Pr
open Go.RowKit Go.Deep Go.Maps Go.Proofs.YtbkbganflnemeaaW.PrintWords Go.Proofs.YtbkbganflnemeaaW.PrintLast Go.Proofs.YtbkbganflnemeaaW.PrintMore
set_option maxHeartbeats 2000000
def wayD (a b c d : ByteArray) : DataW Unit := .agg [.lit (.string a.data.toList), .lit (.string b.data.toList), .lit (.string c.data.toList), .lit (.string d.data.toList)]
def wayElem : Value → Option (DataW Unit × List MemPlace)
 | .agg ⟨[.string a, .string b, .string c, .string d]⟩ => some (wayD a b c d, [])
 | _ => none
theorem wayElem_mk (a b c d : ByteArray) : wayElem (.agg #[.string a, .string b, .string c, .string d]) = some (wayD a b c d, []) := rfl
theorem wayElem_inv {v : Value} {x : DataW Unit} {ps : List MemPlace} (h : wayElem v = some (x, ps)) : ∃ a b c d, v = .agg #[.string a, .string b, .string c, .string d] ∧ x = wayD a b c d := by
 unfold wayElem at h
 split at h
 ·cases h; exact ⟨_, _, _, _, rfl, rfl⟩
 ·cases h
theorem law9 : Keyed Try.prog 9 := string_keyed Try.underlying9
def FrV (tb mb : Nat) (w w' : World) : Prop := w'.os = w.os ∧ w'.tape = w.tape ∧ w'.output = w.output ∧ w.heap.size ≤ w'.heap.size ∧ ∀ k, k < w.heap.size → k ≠ tb → k ≠ mb → w'.heap[k]? = w.heap[k]?
theorem FrV.trans {tb mb : Nat} {a b c : World} (h : FrV tb mb a b) (k : FrV tb mb b c) : FrV tb mb a c :=
 ⟨k.1.trans h.1, k.2.1.trans h.2.1, k.2.2.1.trans h.2.2.1, Nat.le_trans h.2.2.2.1 k.2.2.2.1, fun i hi h1 h2 => (k.2.2.2.2 i (Nat.lt_of_lt_of_le hi h.2.2.2.1) h1 h2).trans (h.2.2.2.2 i hi h1 h2)⟩
theorem FrV.tb {tb mb : Nat} {a b : World} (h : a.grownBy b (some tb)) : FrV tb mb a b := ⟨h.os, h.tape, h.output, h.size, fun k hk h1 _ => h.block k hk (by simpa using h1)⟩
theorem FrV.mb {tb mb : Nat} {a b : World} (h : a.grownBy b (some mb)) : FrV tb mb a b := ⟨h.os, h.tape, h.output, h.size, fun k hk _ h2 => h.block k hk (by simpa using h2)⟩
theorem FrV.of_below {tb mb : Nat} {a b : World} (h : Below a.heap.size a b) : FrV tb mb a b := FrV.tb (grown_of_below h _)
theorem FrV.below {tb mb B : Nat} {a b : World} (h : FrV tb mb a b) (h1 : B ≤ tb) (h2 : B ≤ mb) (h3 : B ≤ a.heap.size) : Below B a b := ⟨h.1, h.2.1, h.2.2.1, h.2.2.2.1, fun k hk => h.2.2.2.2 k (by omega) (by omega) (by omega)⟩
structure IdealAt (g tb mb : Nat) (seed : ByteArray) (c k : Nat) (D : DataW Unit) (w : World) : Prop where
 box : w.heap[g]? = some (.cells #[.iface 92 (.pointer (some ⟨tb, 0, none⟩))] 43 (0, 0))
 tab : TabAt tb mb seed c w
 own : w.ownsMap Try.prog 9 wayElem mb k D
theorem IdealAt.g_tb {g tb mb : Nat} {seed : ByteArray} {c k : Nat} {D : DataW Unit} {w : World} (h : IdealAt g tb mb seed c k D w) : g ≠ tb := fun e => by
 have h1 := h.box
 rw [e, h.tab] at h1
 injection h1 with h1
 injection h1 with _ h2 _
 exact absurd h2 (by decide)
theorem IdealAt.g_mb {g tb mb : Nat} {seed : ByteArray} {c k : Nat} {D : DataW Unit} {w : World} (h : IdealAt g tb mb seed c k D w) : g ≠ mb := fun e => by
 obtain ⟨es, clock, hb, _⟩ := h.own
 have h1 := h.box
 rw [e, hb] at h1
 cases h1
theorem IdealAt.tb_mb {g tb mb : Nat} {seed : ByteArray} {c k : Nat} {D : DataW Unit} {w : World} (h : IdealAt g tb mb seed c k D w) : tb ≠ mb := fun e => by
 obtain ⟨es, clock, hb, _⟩ := h.own
 have h1 : w.heap[tb]? = _ := h.tab
 rw [e, hb] at h1
 cases h1
theorem IdealAt.below {g tb mb : Nat} {seed : ByteArray} {c k : Nat} {D : DataW Unit} {w w' : World} (h : IdealAt g tb mb seed c k D w) (hb : Below w.heap.size w w') : IdealAt g tb mb seed c k D w' :=
 ⟨(hb.block g (blk_lt h.box)).trans h.box, h.tab.below hb, h.own.kept (grown_of_below hb none) (by simp)⟩
theorem IdealAt.other {g tb mb tb2 mb2 : Nat} {seed : ByteArray} {c k : Nat} {D : DataW Unit} {w w' : World} (h : IdealAt g tb mb seed c k D w) (hf : FrV tb2 mb2 w w') (h1 : g ≠ tb2) (h2 : g ≠ mb2) (h3 : tb ≠ tb2) (h4 : tb ≠ mb2) (h5 : mb ≠ tb2) (h6 : mb ≠ mb2) : IdealAt g tb mb seed c k D w' := by
 refine ⟨(hf.2.2.2.2 g (blk_lt h.box) h1 h2).trans h.box, (hf.2.2.2.2 tb (blk_lt h.tab) h3 h4).trans h.tab, ?_⟩
 have hlt := h.own.lt
 obtain ⟨es, clock, hb, F, hs, hD⟩ := h.own
 exact ⟨es, clock, (hf.2.2.2.2 mb hlt h5 h6).trans hb, F, hs, hD⟩
theorem Ideal_calls (seed : ByteArray) (w : World) :
  Calls Try.prog 26 #[.string seed] w fun e w' => e = .returned (.pointer (some ⟨w.heap.size + 2, 0, none⟩)) ∧ IdealAt (w.heap.size + 2) (w.heap.size + 1) w.heap.size seed 0 0 (.map []) w' ∧ Below w.heap.size w w' := by
 have hmm := @run_makeMap Try.prog
 go_enter Try.func26, Try.ntmps26
 go_wp2_with (fail)
 go_ret
 refine ⟨rfl, ⟨?_, ?_, ?_⟩, below_alloc (below_alloc (below_alloc (Below.refl _ _) _) _) _⟩
 ·have := heap_alloc_new ((w.alloc (.map #[] 0)).alloc (.cells #[.string seed, .int .i64 0, .map (some w.heap.size)] 95)) (.cells #[.iface 92 (.pointer (some ⟨w.heap.size + 1, 0, none⟩))] 43)
  simpa using this
 ·have h1 := heap_alloc_new (w.alloc (.map #[] 0)) (.cells #[.string seed, .int .i64 0, .map (some w.heap.size)] 95)
  have h2 : (w.alloc (.map #[] 0)).heap.size = w.heap.size + 1 := by simp
  rw [h2] at h1
  exact blk_alloc h1 _
 ·exact ((World.ownsMap_made w Try.prog 9 wayElem).alloc _).alloc _
theorem as_table (s_ : TypeId) (v : Value) (w : World) : (Instr.typeAssert (.iface 92 v) s_ 92 true).run Try.prog w = .ok (.tuple #[v, .bool true]) w := by
 unfold Instr.typeAssert
 simp [Sem.run_bind, run_underlying Try.underlying92, Result.andThen]
theorem as_ciphers (s_ : TypeId) (v : Value) (w : World) : (Instr.typeAssert (.iface 91 v) s_ 92 true).run Try.prog w = .ok (.tuple #[.pointer none, .bool false]) w := by
 unfold Instr.typeAssert
 simp [Sem.run_bind, run_underlying Try.underlying92, Result.andThen, Try.zeroValue92]
def sealN (text : ByteArray) : Nat := (text.size + 16 + 31) / 32
def sealO (seed : ByteArray) (c : Nat) (text : ByteArray) : ByteArray := txt ((drawL seed c (sealN text)).take (text.size + 16))
theorem vmay_f (a0 a1 : ByteArray) (x y : Nat) (h : aeadOK a0 a1 x y) : vault_may.f a0 a1 (x : Int) (y : Int) = some true := by
 obtain ⟨h0, h1, h2, h3⟩ := h
 unfold vault_may.f
 have hw : wrap64 (32768 - (x : Int)) = 32768 - (x : Int) := by unfold wrap64; omega
 rw [if_pos (by omega), if_pos (by omega), if_pos (by omega), hw, decide_eq_true (by omega)]
set_option maxRecDepth 100000 in
theorem Seal_ideal (g tb mb : Nat) (seed : ByteArray) (c k : Nat) (D : DataW Unit) (key nonce bound text : ByteArray) (w : World) (hs : seed.size ≤ 1000000) (hc : c ≤ 1000000) (hk : k ≤ 1000000) (hok : aeadOK key nonce bound.size text.size) (hI : IdealAt g tb mb seed c k D w) :
  Calls Try.prog 27 #[.pointer (some ⟨g, 0, none⟩), .string key, .string nonce, .string bound, .string text] w fun e w' => e = .returned (.tuple #[.string (sealO seed c text), .int .i64 0]) ∧
   IdealAt g tb mb seed (c + sealN text) (k + 1) (D.put (.string (sealO seed c text).data.toList) (wayD key nonce bound text)) w' ∧ FrV tb mb w w' := by
 have HI := Aside0.mk hI
 have c0 : w.cell? ⟨g, 0, none⟩ = some (.iface 92 (.pointer (some ⟨tb, 0, none⟩))) := by rw [cell_of_row _ _ _ _ _ _ hI.box]; rfl
 have HM := Aside0.mk (fun W => vault_may.calls key nonce (bound.size : Int) (text.size : Int) true W (vmay_f _ _ _ _ hok))
 have HN : Aside0 (text.size + 16 ≤ 40000) := ⟨by have := hok.2.2.2; omega⟩
 have HS := Aside0.mk hs
 have HC := Aside0.mk hc
 have ha := as_table
 clear hI hok hs hc
 go_enter Try.func27, Try.ntmps27
 go_wp2_with (go_at_call 61; refine (made_some g _ _ _ c0).mono ?_; rintro e w1 ⟨rfl, rfl⟩)
 refine (HM.out _).mono ?_
 rintro e w2 ⟨rfl, ⟨nd, rfl⟩⟩
 have HI2 := Aside0.mk (HI.out.below (pw_below_drewN (Below.refl _ _) nd))
 have HF2 : Aside0 (FrV tb mb w1 (w1.drewN nd)) := ⟨FrV.of_below (pw_below_drewN (Below.refl _ _) nd)⟩
 generalize w1.drewN nd = w2 at HI2 HF2 ⊢
 go_wp2_with (fail)
 rw [show wrap64 ((text.size : Int) + 16) = ((text.size + 16 : Nat) : Int) by have := HN.out; unfold wrap64; omega]
 refine (draw_calls seed HS.out tb mb c (text.size + 16) _ HN.out HC.out HI2.out.tab).mono ?_
 rintro e w3 ⟨rfl, hT3, hg3⟩
 have hown3 := HI2.out.own.kept hg3 (by simpa using HI2.out.tb_mb.symm)
 have hbox3 := (hg3.block g (blk_lt HI2.out.box) (by simpa using HI2.out.g_tb)).trans HI2.out.box
 obtain ⟨d0, d1, d2⟩ := hT3.cells
 have HT3 := Aside0.mk hT3
 have HB3 := Aside0.mk hbox3
 have HF3 := Aside0.mk (HF2.out.trans (FrV.tb hg3 : FrV tb mb w2 w3))
 have HO3 := Aside0.mk hown3
 have HNE := Aside0.mk HI2.out.tb_mb
 have HNG := Aside0.mk HI2.out.g_mb
 have hO : txt ((drawL seed c ((text.size + 16 + 31) / 32)).take (text.size + 16)) = sealO seed c text := rfl
 have hOs : (sealO seed c text).size ≤ 40000 := by unfold sealO; rw [txt_size, List.length_take]; have := HN.out; omega
 have hkey : keyOf Try.prog 9 (.string (sealO seed c text)) = some (.string (sealO seed c text).data.toList) := WideMaps.keyOf_string_mk Try.underlying9 (by unfold maxLen; omega)
 have HKEY := Aside0.mk hkey
 rw [hO]
 have hN : c + (text.size + 16 + 31) / 32 = c + sealN text := rfl
 rw [hN] at HT3
 clear hO hOs hkey hT3 hg3 hown3 hbox3 d0 d1 hN HI HI2 HF2 c0
 generalize hOO : sealO seed c text = OO at *
 have HOO := Aside0.mk hOO
 clear hOO
 have HKL : Aside0 (k < maxLen) := ⟨by unfold maxLen; omega⟩
 go_wp2_with (at_mapUpdate; refine wpList_mapUpdate_own _ rfl _ _ _ 93 rfl 9 99 law9 Try.underlying93 wayElem mb k D rfl HO3.out HKL.out _ _ (.string OO.data.toList) rfl rfl HKEY.out (wayD key nonce bound text) [] (wayElem_mk _ _ _ _) ?_; intro w4 hown4 hg4)
 go_ret2
 rw [HOO.out]
 refine ⟨rfl, ⟨?_, ?_, hown4⟩, HF3.out.trans (FrV.mb hg4)⟩
 ·exact (hg4.block g (blk_lt HB3.out) (by simpa using HNG.out)).trans HB3.out
 ·exact (hg4.block tb (blk_lt HT3.out) (by simpa using HNE.out)).trans HT3.out
def noWay : DataW Unit := wayD ⟨#[]⟩ ⟨#[]⟩ ⟨#[]⟩ ⟨#[]⟩
theorem wayD_inj {a b c d a' b' c' d' : ByteArray} (h : wayD a b c d = wayD a' b' c' d') : a = a' ∧ b = b' ∧ c = c' ∧ d = d' := by
 unfold wayD at h
 simp only [DataW.agg.injEq, List.cons.injEq, DataW.lit.injEq, Lit.string.injEq, and_true] at h
 obtain ⟨h1, h2, h3, h4⟩ := h
 exact ⟨ByteArray.ext (Array.ext' h1), ByteArray.ext (Array.ext' h2), ByteArray.ext (Array.ext' h3), ByteArray.ext (Array.ext' h4)⟩
theorem zero_way (w : World) : (zeroValue 99).run Try.prog w = .ok (.agg #[.string ⟨#[]⟩, .string ⟨#[]⟩, .string ⟨#[]⟩, .string ⟨#[]⟩]) w := by kernel_rfl
def openR (has : Bool) (key nonce bound a b c d : ByteArray) : ByteArray × Int := if has = true ∧ a = key ∧ b = nonce ∧ c = bound then (d, 0) else (⟨#[]⟩, 70)
theorem toList_inj {x y : ByteArray} (h : x.toList = y.toList) : x = y := by
 rw [ByteArray.toList_eq, ByteArray.toList_eq] at h
 exact ByteArray.ext (Array.ext' h)
set_option maxRecDepth 100000 in
theorem Open_ideal (g tb mb : Nat) (seed : ByteArray) (c k : Nat) (D : DataW Unit) (key nonce bound sealed a b cc d : ByteArray) (w : World) (hsz : sealed.size ≤ 1000000) (hok : aeadOK key nonce bound.size (sealed.size - 16)) (hI : IdealAt g tb mb seed c k D w)
    (hat : D.atKey (.string sealed.data.toList) noWay = wayD a b cc d) :
    Calls Try.prog 28 #[.pointer (some ⟨g, 0, none⟩), .string key, .string nonce, .string bound, .string sealed] w fun e w' =>
      e = .returned (.tuple #[.string (openR (Maps.has D (.string sealed.data.toList)) key nonce bound a b cc d).1, .int .i64 (openR (Maps.has D (.string sealed.data.toList)) key nonce bound a b cc d).2]) ∧ Below w.heap.size w w' := by
  have HI := Aside0.mk hI
  have c0 : w.cell? ⟨g, 0, none⟩ = some (.iface 92 (.pointer (some ⟨tb, 0, none⟩))) := by rw [cell_of_row _ _ _ _ _ _ hI.box]; rfl
  have HM := Aside0.mk (fun W => vault_may.calls key nonce (bound.size : Int) ((sealed.size - 16 : Nat) : Int) true W (vmay_f _ _ _ _ hok))
  have HS := Aside0.mk hsz
  have HAT := Aside0.mk hat
  have HKEY := Aside0.mk (WideMaps.keyOf_string_mk (P := Try.prog) Try.underlying9 (show sealed.size ≤ maxLen by unfold maxLen; omega))
  have ha := as_table
  clear hI hok hsz hat
  go_enter Try.func28, Try.ntmps28
  go_wp2_with (go_at_call 61; refine (made_some g _ _ _ c0).mono ?_; rintro e w1 ⟨rfl, rfl⟩)
  rw [show max 0 (wrap64 ((sealed.size : Int) - 16)) = ((sealed.size - 16 : Nat) : Int) by have := HS.out; unfold wrap64; omega]
  refine (HM.out _).mono ?_
  rintro e w2 ⟨rfl, ⟨nd, rfl⟩⟩
  have HI2 := Aside0.mk (HI.out.below (pw_below_drewN (Below.refl _ _) nd))
  have HF2 : Aside0 (Below w1.heap.size w1 (w1.drewN nd)) := ⟨pw_below_drewN (Below.refl _ _) nd⟩
  generalize w1.drewN nd = w2 at HI2 HF2 ⊢
  obtain ⟨d0, d1, d2⟩ := HI2.out.tab.cells
  clear c0 d0 d1
  go_wp2_with (at_lookup; refine wpList_lookup_own_ok _ rfl _ _ 93 rfl 9 99 law9 Try.underlying93 wayElem (zero_way _) noWay [] rfl mb k D rfl HI2.out.own _ _ rfl HKEY.out ?_; intro v ps hv; rw [HAT.out] at hv; obtain ⟨a', b', c', d', rfl, hw⟩ := wayElem_inv hv; obtain ⟨rfl, rfl, rfl, rfl⟩ := wayD_inj hw; clear hv hw)
  all_goals
    go_ret2
    refine ⟨?_, below_alloc HF2.out _⟩
    unfold openR
    first
      | rw [if_pos ⟨by assumption, toList_inj (by assumption), toList_inj (by assumption), toList_inj (by simpa using (by assumption : (!cc.toList == bound.toList) = false))⟩]
        rfl
      | rw [if_neg (fun h => absurd h.1 (by assumption))]
        rfl
      | rw [if_neg (fun h => absurd (congrArg ByteArray.toList h.2.1) (by assumption))]
        rfl
      | rw [if_neg (fun h => absurd (congrArg ByteArray.toList h.2.2.1) (by assumption))]
        rfl
      | rw [if_neg (fun h => by
          have h2 : (!cc.toList == bound.toList) = true := by assumption
          rw [h.2.2.2] at h2
          simp at h2)]
        rfl
theorem Many_ideal (g tb mb : Nat) (seed : ByteArray) (c k : Nat) (D : DataW Unit) (w : World) (hI : IdealAt g tb mb seed c k D w) :
  Calls Try.prog 31 #[.pointer (some ⟨g, 0, none⟩)] w fun e w' => e = .returned (.int .i64 (Maps.size D)) ∧ w' = w := by
 have HI := Aside0.mk hI
 have c0 : w.cell? ⟨g, 0, none⟩ = some (.iface 92 (.pointer (some ⟨tb, 0, none⟩))) := by rw [cell_of_row _ _ _ _ _ _ hI.box]; rfl
 obtain ⟨d0, d1, d2⟩ := hI.tab.cells
 have ha := as_table
 clear hI d0 d1
 go_enter Try.func31, Try.ntmps31
 go_wp2_with (first | (go_at_call 61; refine (made_some g _ _ _ c0).mono ?_; rintro e w1 ⟨rfl, rfl⟩) | (at_len; refine wpList_len_own _ rfl _ 93 rfl 9 99 Try.underlying93 wayElem mb k D rfl HI.out.own ?_))
 go_ret
 exact ⟨rfl, rfl⟩
theorem Many_real (g : Nat) (w : World) (hI : RealAt g w) :
  Calls Try.prog 31 #[.pointer (some ⟨g, 0, none⟩)] w fun e w' => e = .returned (.int .i64 (-1)) ∧ w' = w := by
 have c0 : w.cell? ⟨g, 0, none⟩ = some (.iface 91 (.agg #[])) := by rw [cell_of_row _ _ _ _ _ _ hI]; rfl
 have ha := as_ciphers
 clear hI
 go_enter Try.func31, Try.ntmps31
 go_wp2_with (go_at_call 61; refine (made_some g _ _ _ c0).mono ?_; rintro e w1 ⟨rfl, rfl⟩)
 go_ret
 exact ⟨rfl, rfl⟩
end Go.Proofs.Ytbkbganflnemeaa.Pr
end

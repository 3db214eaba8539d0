/- Joined texts (pack.py): what the statement's proof needs, part 1. No condition. -/
import Derived.Below
import Derived.Deep.Draws
import Derived.Deep.AppendLies
import Derived.Maps.AppendAt
import Derived.OwnWalk
import Derived.Laws.BytesArg
import Derived.Laws.MakeOwn
import Derived.Laws.OwnMore
import Derived.Deep.OwnRows
import Derived.Tactics
import Derived.Lib.ConvBytes
import Derived.Laws.Slices
import Derived.WalkKit
import Derived.KernelRfl
import Derived.RowKit3
import Derived.Deep.LoopGhost
import Derived.Deep.QuietTactic
import Derived.BigQuiet
import Derived.WideLaws
import Derived.Deep.DeepCutAuto
import Derived.Deep.CutBlock
import Derived.Deep.RegionHeld3
import Derived.Laws.Rows
import Derived.Lib.AppendStr
import Derived.ArgAppend
import Derived.Laws.IdiomCopy
import Derived.RowKit
import Derived.OrdersHeld
import Derived.Laws.BitsLemmas
import Derived.Laws.StructEq
import Derived.Deep.Slices
import Derived.ChangeArms
import Derived.OpenShut
import Derived.Test.YthemhfloablccaaDoorProg
import Derived.Deep.RegionLaw
import Derived.StillTailTactics
import Derived.Deep.Light
import Derived.Deep.RegionHeldLaw
import Derived.Deep.DrawnRows
import Derived.Test.YthemhfloablccaaDoorTie
import Derived.Test.YthemhfloablccaaDoorCards
import Derived.LaidMore
import Derived.Lay
import Derived.SevenTiedAt
import Derived.Stop.Joined
import Derived.ProofKit
import Derived.ShutString
import Derived.ChangeOld
import Derived.SizedLaws
import Derived.Carry
set_option linter.unusedVariables false
set_option linter.unusedSimpArgs false
section
namespace Go.Proofs.YthemhfloablccaaDoorW.PrintWords
open Go.RowKit
structure Aside0 (p : Prop) : Prop where mk :: (out : p)
structure Drawn0 (w w' : World) : Prop where mk :: (out : ∃ n, w' = w.drewN n)
theorem Drawn0.refl (w : World) : Drawn0 w w := ⟨⟨0, rfl⟩⟩
def bt (s : ByteArray) (i : Int) : Int := if h : i.toNat < s.size then ((s[i.toNat]'h).toNat : Int) else 0
theorem bt_at (s : ByteArray) (i : Int) : ∀ h : i.toNat < s.size, ((s[i.toNat]'h).toNat : Int) = bt s i := fun h => by simp [bt, h]
def nums (k : IntKind) (xs : List Int) : List Value := xs.map fun x => .int k x
theorem below_alloc {w W : World} (h : Below w.heap.size w W) (o : Obj) : Below w.heap.size w (W.alloc o) := h.alloc h.size o
theorem pw_below_drewN {B : Nat} {w W : World} (h : Below B w W) (n : Nat) : Below B w (W.drewN n) := ⟨h.os, h.tape, h.output, h.size, h.block⟩
theorem below_then {B : Nat} {w w1 w2 : World} (h : Below B w w1) (hB : B ≤ w1.heap.size) (k : Below w1.heap.size w1 w2) : Below B w w2 :=
 h.trans ⟨k.os, k.tape, k.output, k.size, fun i hi => k.block i (Nat.lt_of_lt_of_le hi hB)⟩
theorem grown_of_below {w w1 : World} (h : Below w.heap.size w w1) (row : Option Nat) : w.grownBy w1 row := ⟨h.os, h.tape, h.output, h.size, fun i hi _ => h.block i hi⟩
theorem pw_cell_below {w w1 : World} (h : Below w.heap.size w w1) {a : Addr} {v : Value} (hc : w.cell? a = some v) : w1.cell? a = some v := (h.cell (World.block_lt_of_cell? w a hc)).trans hc
theorem own_nil (W : World) (base : Nat) (e : TypeId) (size : Nat) : W.ownsRow base e size (.slice none 0 0) 0 [] := ⟨by simp, .inl ⟨rfl, rfl⟩⟩
theorem own_base {w : World} {base : Nat} {e : TypeId} {size n : Nat} {v : Value} {xs : List Value} (h : w.ownsRow base e size v n xs) (k : Nat) (hk : v.ownBlock = some k) : base ≤ k := by
 rcases h.2 with ⟨rfl, _⟩ | ⟨g, cap, cur, rfl, hb, _⟩
 ·simp [Value.ownBlock] at hk
 ·have : g = k := by simpa [Value.ownBlock] using hk
  omega
theorem own_lt {w : World} {base : Nat} {e : TypeId} {size n : Nat} {v : Value} {xs : List Value} (h : w.ownsRow base e size v n xs) (k : Nat) (hk : v.ownBlock = some k) : k < w.heap.size := by
 rcases h.2 with ⟨rfl, _⟩ | ⟨g, cap, cur, rfl, hb, hh, _⟩
 ·simp [Value.ownBlock] at hk
 ·have : g = k := by simpa [Value.ownBlock] using hk
  subst this
  exact (Array.getElem?_eq_some_iff.1 hh).1
theorem pw_own_below {w w1 : World} {base : Nat} {e : TypeId} {size n : Nat} {v : Value} {xs : List Value} (h : w.ownsRow base e size v n xs) (hb : Below w.heap.size w w1) : w1.ownsRow base e size v n xs :=
 h.kept (grown_of_below hb none) (by cases v.ownBlock <;> simp)
theorem own_slice {w : World} {base n : Nat} {e : TypeId} {size : Nat} {v : Value} {xs : List Value} (h : w.ownsRow base e size v n xs) : ∃ A c, v = .slice A n c := by
 rcases h.2 with ⟨rfl, rfl⟩ | ⟨g, cap, cur, rfl, _⟩
 ·exact ⟨none, 0, rfl⟩
 ·exact ⟨_, cap, rfl⟩
theorem own_string {P : Program} {w : World} {base n : Nat} {e' src dst e : TypeId} {v : Value} {xs : List Int} (hs : P.underlying src = some (.slice e)) (he : P.underlying e = some (.int .u8)) (hd : P.underlying dst = some .string)
  (h : w.ownsRow base e' 1 v n (nums .u8 xs)) : (convert src dst v).run P w = .ok (.string (strOfNums xs)) w := by
 have hl : xs.length = n := by have := h.1; simp [nums] at this; exact this
 rcases h.2 with ⟨rfl, rfl⟩ | ⟨g, cap, cur, rfl, _⟩
 ·obtain rfl : xs = [] := List.eq_nil_of_length_eq_zero hl
  exact run_convert_bytes_nil w src e hs he 0 0 dst hd
 ·refine run_convert_bytes_arg w src e hs he g 0 n cap xs hl (fun i hi => ?_) dst hd
  have hc := h.cells (g := g) rfl i (.int .u8 (xs.getD i 0)) (by simp [nums, List.getElem?_eq_getElem (show i < xs.length by omega), List.getD_eq_getElem?_getD])
  have ha : (⟨g, 0, none⟩ : Addr).add i = ⟨g, 0 + i, none⟩ := by unfold Addr.add; split <;> simp_all
  rwa [ha] at hc
section
variable {P : Program} {ops : Array Oper} {rest : List Oper} {o : Oper} {a : Act} {Q : Exit → Act → World → Prop}
end
section
variable {P : Program}
end
section
variable {P : Program} {ops : Array Oper} {rest : List Oper} {o : Oper} {a : Act} {Q : Exit → Act → World → Prop}
end
theorem data_length (s : ByteArray) : s.data.toList.length = s.size := by rw [Array.length_toList]; rfl
def Reps {α : Type} (R : α → List Value → Prop) (size : Nat) (ps : List α) (cs : List Value) : Prop :=
 cs.length = ps.length * size ∧ ∀ j p, ps[j]? = some p → R p ((cs.drop (j * size)).take size)
theorem Reps.none {α : Type} (R : α → List Value → Prop) (size : Nat) : Reps R size [] [] := ⟨by simp, fun j p h => by simp at h⟩
theorem Reps.snoc {α : Type} {R : α → List Value → Prop} {size : Nat} {ps : List α} {cs c : List Value} {p : α} (h : Reps R size ps cs) (hp : R p c) (hc : c.length = size) : Reps R size (ps ++ [p]) (cs ++ c) := by
 refine ⟨by rw [List.length_append, h.1, hc, List.length_append, List.length_singleton, Nat.add_mul, Nat.one_mul], fun j q hq => ?_⟩
 rcases Nat.lt_or_ge j ps.length with hj | hj
 ·rw [List.getElem?_append_left hj] at hq
  have h1 : j * size + size ≤ cs.length := by rw [h.1, ← Nat.succ_mul]; exact Nat.mul_le_mul_right _ hj
  have h2 := h.2 j q hq
  rw [List.drop_append_of_le_length (by omega), List.take_append_of_le_length (by rw [List.length_drop]; omega)]
  exact h2
 ·have hj' : j = ps.length := by
   have := (List.getElem?_eq_some_iff.1 hq).1
   rw [List.length_append, List.length_singleton] at this
   omega
  subst hj'
  have hq' : p = q := by simpa using hq
  subst hq'
  rw [← h.1, List.drop_left, ← hc, List.take_length]
  exact hp
theorem Reps.imp_ {α : Type} {R R' : α → List Value → Prop} {size : Nat} {ps : List α} {cs : List Value} (h : Reps R size ps cs) (hR : ∀ p c, R p c → R' p c) : Reps R' size ps cs := ⟨h.1, fun j p hj => hR _ _ (h.2 j p hj)⟩
def ReadsRow {α : Type} (R : α → List Value → Prop) (size : Nat) (w : World) (A : Option Addr) (n : Nat) (ps : List α) : Prop :=
 ps.length = n ∧ n ≤ 9223372036854775807 ∧ (0 < n → ∃ ad, A = some ad ∧ ∀ j p, ps[j]? = some p → ∃ c, c.length = size ∧ R p c ∧ ∀ i u, c[i]? = some u → w.cell? (ad.add (j * size + i)) = some u)
theorem ReadsRow.get_ {α : Type} {R : α → List Value → Prop} {size : Nat} {w : World} {A : Option Addr} {n : Nat} {ps : List α} (h : ReadsRow R size w A n ps) (d : α) (i : Int) (h0 : 0 ≤ i) (h1 : i < n) :
  ∃ ad c, A = some ad ∧ c.length = size ∧ R (ps.getD i.toNat d) c ∧ ∀ j u, c[j]? = some u → w.cell? (ad.add (i.toNat * size + j)) = some u := by
 obtain ⟨ad, e, hc⟩ := h.2.2 (by omega)
 have hl : i.toNat < ps.length := by have := h.1; omega
 obtain ⟨c, hs, hr, hcell⟩ := hc i.toNat _ (List.getElem?_eq_getElem hl)
 refine ⟨ad, c, e, hs, ?_, hcell⟩
 rw [List.getD_eq_getElem?_getD, List.getElem?_eq_getElem hl]
 exact hr
theorem ReadsRow.imp_ {α : Type} {R R' : α → List Value → Prop} {size : Nat} {w w1 : World} {A : Option Addr} {n : Nat} {ps : List α} (h : ReadsRow R size w A n ps) (hb : Below w.heap.size w w1) (hR : ∀ p c, R p c → R' p c) : ReadsRow R' size w1 A n ps :=
  ⟨h.1, h.2.1, fun hn => by
    obtain ⟨ad, e, hc⟩ := h.2.2 hn
    refine ⟨ad, e, fun j p hj => ?_⟩
    obtain ⟨c, hs, hr, hcell⟩ := hc j p hj
    exact ⟨c, hs, hR _ _ hr, fun i u hu => pw_cell_below hb (hcell i u hu)⟩⟩
theorem own_reads_row {α : Type} {R : α → List Value → Prop} {w : World} {base n size : Nat} {e : TypeId} {v : Value} {ps : List α} {cs : List Value} (h : w.ownsRow base e size v n cs) (hR : Reps R size ps cs) (hn : ps.length = n) :
  ∃ A c, v = .slice A n c ∧ ReadsRow R size w A n ps := by
 rcases Nat.eq_zero_or_pos n with h0 | h0
 ·rcases h.2 with ⟨rfl, rfl⟩ | ⟨g, cap, cur, rfl, _⟩
  ·exact ⟨none, 0, rfl, hn, by omega, fun hp => absurd hp (by omega)⟩
  ·exact ⟨_, cap, rfl, hn, by omega, fun hp => absurd hp (by omega)⟩
 ·obtain ⟨g, cap, rfl, _, _⟩ := h.form h0
  have hm : n ≤ 9223372036854775807 := by
   rcases h.2 with ⟨_, h1⟩ | ⟨g', cap', cur, he, _, _, h1, h2, _⟩
   ·omega
   ·simp only [maxLen] at h2
    omega
  refine ⟨_, cap, rfl, hn, hm, fun _ => ⟨_, rfl, fun j p hj => ⟨(cs.drop (j * size)).take size, ?_, hR.2 j p hj, fun i u hu => ?_⟩⟩⟩
  ·have hjl := (List.getElem?_eq_some_iff.1 hj).1
   have h1 : j * size + size ≤ cs.length := by rw [hR.1, ← Nat.succ_mul]; exact Nat.mul_le_mul_right _ hjl
   rw [List.length_take, List.length_drop]
   omega
  ·refine h.cells (g := g) rfl _ u ?_
   rw [List.getElem?_take] at hu
   split at hu
   ·rw [List.getElem?_drop] at hu
    exact hu
   ·cases hu
theorem add_field (ad : Addr) (m j : Nat) (hj : 0 < j) : ad.add (m + j) = ⟨(ad.add m).block, (ad.add m).off + j, none⟩ := by
 unfold Addr.add
 by_cases hm : m = 0
 ·subst hm
  simp [Nat.ne_of_gt hj]
 ·simp [hm, Nat.add_assoc]
section
variable {P : Program} {ops : Array Oper} {rest : List Oper} {o : Oper} {a : Act} {Q : Exit → Act → World → Prop}
theorem print_append_cells {w0 W : World} (base : Nat) (hgd : o.guard = none) (s x : Operand) (t e : TypeId) (z : Value) (size bytes : Nat)
  (ho : o.op = .call { callee := .builtin .append, args := #[s, x], argTypes := #[t, t] })
  (ht : P.underlying t = some (.slice e)) (hinfo : (P.info? e).map (fun i => (i.zero, i.size, i.bytes)) = some (some z, size, bytes)) (hz : z.cells.size = size) (hs0 : 0 < size) (hb0 : 0 < bytes)
  (v : Value) (n : Nat) (xs ys : List Value) (hs : a.eval s = v) (hx : a.eval x = .slice (some ⟨W.heap.size, 0, none⟩) 1 1) (hys : ys.length = size) (h1 : ∀ u ∈ ys, u.oneCell' = true)
  (HO : W.ownsRow base e size v n xs) (HB : Below base w0 W) (hbase : base ≤ W.heap.size) (hl : (n + 1) * bytes ≤ 140737488355328)
  (h : ∀ v1 w1, w1.ownsRow base e size v1 (n + 1) (xs ++ ys) → Below base w0 w1 → W.grownBy w1 v.ownBlock → (v1.ownBlock = v.ownBlock ∨ ∃ b, v1.ownBlock = some b ∧ W.heap.size ≤ b) → wpList P ops Q rest (a.put o.dst v1) w1) :
  wpList P ops Q (o :: rest) a (W.alloc (.cells ys.toArray e)) := by
 obtain ⟨i0, hi, hzz⟩ := Option.map_eq_some_iff.1 hinfo
 simp only [Prod.mk.injEq] at hzz
 obtain ⟨hz0, hz1, hz2⟩ := hzz
 have hlen : n + 1 ≤ 140737488355328 := Nat.le_trans (Nat.le_mul_of_pos_right _ hb0) hl
 refine wpList_append_own_at (W.alloc (.cells ys.toArray e)) hgd s x t ho base e i0 z size bytes ht hi hz0 hz1 hz2 hz hs0 v n xs hs (HO.alloc _) ⟨W.heap.size, 0, none⟩ 1 1 ys hx (by rw [hys]; simp)
  (by simpa using World.news_of_block (cs := ys.toArray) (t := e) (fr := (0, 0)) (heap_alloc_new W (.cells ys.toArray e))) h1 (by simp only [maxLen]; omega) hl (by simp; omega) ?_
 intro v1 w1 hown hg _ hat
 refine h v1 w1 hown ((HB.alloc hbase _).grown hg (by simp; omega) (own_base HO)) (World.grownBy.trans (World.grownBy_alloc W _ _) hg) ?_
 rcases hat with hat | hat
 ·exact .inl hat
 ·exact .inr ⟨_, hat, by simp⟩
end
theorem own_ne {w : World} {base : Nat} {e t : TypeId} {size n g : Nat} {v : Value} {xs : List Value} {cs : Array Value} (h : w.ownsRow base e size v n xs) (hg : w.heap[g]? = some (.cells cs t (0, 0))) (hne : e ≠ t) : some g ≠ v.ownBlock := by
 rcases h.2 with ⟨rfl, _⟩ | ⟨g', cap, cur, rfl, _, hh, _⟩
 ·simp [Value.ownBlock]
 ·intro he
  have : g = g' := by simpa [Value.ownBlock] using he
  subst this
  rw [hg] at hh
  injection hh with hh
  injection hh with _ ht
  exact hne ht.symm
theorem blk_set {w : World} {g : Nat} {t : TypeId} {cs : Array Value} (h : w.heap[g]? = some (.cells cs t (0, 0))) (i : Nat) (u : Value) : (w.setCell ⟨g, i, none⟩ u).heap[g]? = some (.cells (cs.setIfInBounds i u) t (0, 0)) := by
 simp [World.setCell, Array.getElem?_modify, h]
theorem blk_far {w : World} {g : Nat} {t : TypeId} {cs : Array Value} (h : w.heap[g]? = some (.cells cs t (0, 0))) {p : Addr} (hp : g ≠ p.block) (u : Value) : (w.setCell p u).heap[g]? = some (.cells cs t (0, 0)) := (Below.heap_setCell w p u g hp).trans h
theorem blk_lt {w : World} {g : Nat} {o : Obj} (h : w.heap[g]? = some o) : g < w.heap.size := (Array.getElem?_eq_some_iff.1 h).1
theorem blk_cell {w : World} {g : Nat} {t : TypeId} {cs : Array Value} (h : w.heap[g]? = some (.cells cs t (0, 0))) (i : Nat) : w.cell? ⟨g, i, none⟩ = cs[i]? := cell_of_row w g i cs t (0, 0) h
theorem blk_frozen {w : World} {g : Nat} {t : TypeId} {cs : Array Value} (h : w.heap[g]? = some (.cells cs t (0, 0))) (i : Nat) : w.frozen? ⟨g, i, none⟩ = false := by simp [World.frozen?, h]
theorem blk_grown {w w1 : World} {g : Nat} {o : Obj} {row : Option Nat} (h : w.heap[g]? = some o) (hg : w.grownBy w1 row) (hne : some g ≠ row) : w1.heap[g]? = some o := (hg.block g (blk_lt h) hne).trans h
def KeepBut (w w' : World) (g : Nat) (row : Option Nat) : Prop := w.heap.size ≤ w'.heap.size ∧ ∀ i, i < w.heap.size → i ≠ g → some i ≠ row → w'.heap[i]? = w.heap[i]?
theorem KeepBut.refl (w : World) (g : Nat) (row : Option Nat) : KeepBut w w g row := ⟨Nat.le_refl _, fun _ _ _ _ => rfl⟩
theorem KeepBut.set_ {w w1 : World} {g : Nat} {row : Option Nat} (h : KeepBut w w1 g row) (j : Nat) (u : Value) : KeepBut w (w1.setCell ⟨g, j, none⟩ u) g row :=
 ⟨by simpa [World.setCell] using h.1, fun i hi hg hr => (Below.heap_setCell w1 ⟨g, j, none⟩ u i hg).trans (h.2 i hi hg hr)⟩
theorem KeepBut.trans {w w1 w2 : World} {g : Nat} {row row1 : Option Nat} (h : KeepBut w w1 g row) (k : KeepBut w1 w2 g row1) (hr : row1 = row ∨ ∃ b, row1 = some b ∧ w.heap.size ≤ b) : KeepBut w w2 g row :=
  ⟨Nat.le_trans h.1 k.1, fun i hi hg hn => by
    refine (k.2 i (Nat.lt_of_lt_of_le hi h.1) hg ?_).trans (h.2 i hi hg hn)
    rcases hr with rfl | ⟨b, rfl, hb⟩
    · exact hn
    · intro e
      injection e with e
      omega⟩
theorem KeepBut.blk {w w1 : World} {g g' : Nat} {row : Option Nat} {o : Obj} (h : KeepBut w w1 g row) (hb : w.heap[g']? = some o) (hg : g' ≠ g) (hr : some g' ≠ row) : w1.heap[g']? = some o := (h.2 g' (blk_lt hb) hg hr).trans hb
section
variable {P : Program} {ops : Array Oper} {o : Oper} {a : Act} {Q : Exit → Act → World → Prop} {K : Act → World → Prop}
end
theorem own_weaken {w : World} {base base' : Nat} {e : TypeId} {size n : Nat} {v : Value} {xs : List Value} (h : w.ownsRow base e size v n xs) (hb : base' ≤ base) : w.ownsRow base' e size v n xs := by
 obtain ⟨h1, h2⟩ := h
 refine ⟨h1, ?_⟩
 rcases h2 with h2 | ⟨g, cap, cur, rfl, hg, r⟩
 ·exact .inl h2
 ·exact .inr ⟨g, cap, cur, rfl, Nat.le_trans hb hg, r⟩
section
variable {α : Type} {enc : α → Value} {d : α}
def encs (enc : α → Value) (xs : List α) : List Value := xs.map enc
theorem encs_length (xs : List α) : (encs enc xs).length = xs.length := by simp [encs]
end
section
variable {α : Type} {P : Program} {ops : Array Oper} {rest : List Oper} {o : Oper} {a : Act} {Q : Exit → Act → World → Prop}
end
theorem blk_alloc {w : World} {g : Nat} {o : Obj} (h : w.heap[g]? = some o) (o' : Obj) : (w.alloc o').heap[g]? = some o := (Below.heap_alloc w o' g (blk_lt h)).trans h
theorem blk_drew {w : World} {g : Nat} {o : Obj} (h : w.heap[g]? = some o) : w.drew.heap[g]? = some o := h
theorem blk_drewN {w : World} {g : Nat} {o : Obj} (h : w.heap[g]? = some o) (n : Nat) : (w.drewN n).heap[g]? = some o := h
theorem blk_below {w w1 : World} {g : Nat} {o : Obj} (h : w.heap[g]? = some o) (hb : Below w.heap.size w w1) : w1.heap[g]? = some o := (hb.block g (blk_lt h)).trans h
theorem blk_new (w : World) (o : Obj) : (w.alloc o).heap[w.heap.size]? = some o := heap_alloc_new w o
section
variable {P : Program}
theorem results_ct {fn : Func} {p u : Tmp} {ty : TypeId} (h : fn.results = #[.cell p ty, .tmp u]) (tmps : Array Value) (w : World) (g : Nat) (t : TypeId) (cs : Array Value) (fr : Nat × Nat) (d : TypeDesc)
  (hp : tmps.getD p undef = .pointer (some ⟨g, 0, none⟩)) (hg : w.heap[g]? = some (.cells cs t fr))
  (hu : P.underlying ty = some d) (hd : (match d with | .struct _ | .array _ _ => true | _ => false) = true) (hi : (P.info? ty).map (·.size) = some cs.size) :
  (results fn tmps).run P w = .ok (.tuple #[.agg cs, tmps.getD u undef]) w := by
 have hp' : tmps[p]?.getD undef = .pointer (some ⟨g, 0, none⟩) := by simpa using hp
 simp [results, h, hp', asAddr, run_loadVar_row w g t ty cs fr d hg hu hd hi]
theorem results_ctt {fn : Func} {p u v : Tmp} {ty : TypeId} (h : fn.results = #[.cell p ty, .tmp u, .tmp v]) (tmps : Array Value) (w : World) (g : Nat) (t : TypeId) (cs : Array Value) (fr : Nat × Nat) (d : TypeDesc)
  (hp : tmps.getD p undef = .pointer (some ⟨g, 0, none⟩)) (hg : w.heap[g]? = some (.cells cs t fr))
  (hu : P.underlying ty = some d) (hd : (match d with | .struct _ | .array _ _ => true | _ => false) = true) (hi : (P.info? ty).map (·.size) = some cs.size) :
  (results fn tmps).run P w = .ok (.tuple #[.agg cs, tmps.getD u undef, tmps.getD v undef]) w := by
 have hp' : tmps[p]?.getD undef = .pointer (some ⟨g, 0, none⟩) := by simpa using hp
 simp [results, h, hp', asAddr, run_loadVar_row w g t ty cs fr d hg hu hd hi]
end
theorem own_le {w : World} {base n m c size : Nat} {e : TypeId} {A : Option Addr} {xs : List Value} (h : w.ownsRow base e size (.slice A m c) n xs) : m ≤ c := by
 rcases h.2 with ⟨he, _⟩ | ⟨g, cap, cur, he, _, _, hnc, _⟩
 ·injection he with _ h2 h3
  omega
 ·injection he with _ h2 h3
  omega
def OwnRow {α : Type} (R : α → List Value → Prop) (e : TypeId) (size : Nat) (w : World) (base : Nat) (v : Value) (ps : List α) : Prop :=
 ∃ inner, w.ownsRow base e size v ps.length inner ∧ Reps R size ps inner
section
variable {α : Type} {R R' : α → List Value → Prop} {e : TypeId} {size : Nat} {w w1 : World} {base : Nat} {v : Value} {ps : List α}
theorem OwnRow.none_ (R : α → List Value → Prop) (e : TypeId) (size : Nat) (w : World) (base : Nat) : OwnRow R e size w base (.slice none 0 0) [] := ⟨[], own_nil _ _ _ _, Reps.none _ _⟩
theorem OwnRow.imp_ (h : OwnRow R e size w base v ps) (hR : ∀ p c, R p c → R' p c) : OwnRow R' e size w base v ps := by
 obtain ⟨inner, ho, hr⟩ := h
 exact ⟨inner, ho, hr.imp_ hR⟩
theorem OwnRow.reads (h : OwnRow R e size w base v ps) : ∃ A c, v = .slice A ps.length c ∧ ps.length ≤ c ∧ ReadsRow R size w A ps.length ps := by
 obtain ⟨inner, ho, hr⟩ := h
 obtain ⟨A, c, rfl, hrow⟩ := own_reads_row ho hr rfl
 exact ⟨A, c, rfl, own_le ho, hrow⟩
theorem OwnRow.ne_block (h : OwnRow R e size w base v ps) {g : Nat} {t : TypeId} {cells : Array Value} (hb : w.heap[g]? = some (.cells cells t (0, 0))) (ht : e ≠ t) : some g ≠ v.ownBlock := by
 obtain ⟨inner, ho, hr⟩ := h
 exact own_ne ho hb ht
end
section
variable {P : Program} {ops : Array Oper} {rest : List Oper} {o : Oper} {a : Act} {Q : Exit → Act → World → Prop} {α : Type} {R : α → List Value → Prop}
end
section
variable {P : Program} {ops : Array Oper} {o : Oper} {a : Act} {Q : Exit → Act → World → Prop} {K : Act → World → Prop} {α : Type} {R : α → List Value → Prop}
end
theorem ReadsRow.inner_ {α : Type} {R : α → List Value → Prop} {size : Nat} {w : World} {ad : Addr} {n : Nat} {ps : List α} (h : ReadsRow R size w (some ad) n ps) :
    ∃ inner, Reps R size ps inner ∧ ∀ j u, inner[j]? = some u → w.cell? (ad.add j) = some u := by
  have key : ∀ m, m ≤ ps.length → ∃ inner, Reps R size (ps.take m) inner ∧ ∀ j u, inner[j]? = some u → w.cell? (ad.add j) = some u := by
    intro m
    induction m with
    | zero => exact fun _ => ⟨[], Reps.none _ _, fun j u hu => by simp at hu⟩
    | succ m ih =>
      intro hm
      obtain ⟨inner, hr, hc⟩ := ih (by omega)
      obtain ⟨ad', he, hcell⟩ := h.2.2 (by have := h.1; omega)
      injection he with he
      subst he
      obtain ⟨c, hcl, hp, hcc⟩ := hcell m _ (List.getElem?_eq_getElem (show m < ps.length by omega))
      refine ⟨inner ++ c, ?_, fun j u hu => ?_⟩
      · rw [List.take_succ_eq_append_getElem (show m < ps.length by omega)]
        exact hr.snoc hp hcl
      · have hil : inner.length = m * size := by rw [hr.1, List.length_take, Nat.min_eq_left (by omega)]
        rcases Nat.lt_or_ge j inner.length with hj | hj
        · rw [List.getElem?_append_left hj] at hu
          exact hc j u hu
        · rw [List.getElem?_append_right hj] at hu
          have := hcc (j - inner.length) u hu
          rwa [hil, Nat.add_sub_cancel' (by omega)] at this
  obtain ⟨inner, hr, hc⟩ := key ps.length (Nat.le_refl _)
  rw [List.take_length] at hr
  exact ⟨inner, hr, hc⟩
section
variable {α : Type} {P : Program}
end
section
variable {P : Program} {ops : Array Oper} {rest : List Oper} {o : Oper} {a : Act} {Q : Exit → Act → World → Prop}
end
structure Kd (α : Type) where
 sz : Nat
 E : List Nat
 K : World → α → List Value → Prop
 M : World → Nat → (Nat → Prop) → α → List Value → Prop
 K_len : ∀ {w x cs}, K w x cs → cs.length = sz
 K_one : ∀ {w x cs}, K w x cs → ∀ u ∈ cs, u.oneCell' = true
 K_below : ∀ {w w1 : World} {x cs}, Below w.heap.size w w1 → K w x cs → K w1 x cs
 K_of_M : ∀ {w base ok x cs}, M w base ok x cs → K w x cs
 M_mono : ∀ {w base ok ok' x cs}, (∀ k, ok k → ok' k) → M w base ok x cs → M w base ok' x cs
 M_bound : ∀ {w : World} {base ok x cs}, M w base ok x cs → M w base (fun k => ok k ∧ base ≤ k ∧ k < w.heap.size ∧ ∃ q, q ∈ E ∧ ∃ cells, w.heap[k]? = some (.cells cells q (0, 0))) x cs
 M_move : ∀ {w w1 : World} {base ok x cs}, (∀ k, ok k → w1.heap[k]? = w.heap[k]?) → M w base ok x cs → M w1 base ok x cs
 M_lower : ∀ {w base base' ok x cs}, base' ≤ base → M w base ok x cs → M w base' ok x cs
theorem own_move {w w1 : World} {base : Nat} {e : TypeId} {size n : Nat} {v : Value} {xs : List Value} (h : w.ownsRow base e size v n xs) (hm : ∀ k, v.ownBlock = some k → w1.heap[k]? = w.heap[k]?) : w1.ownsRow base e size v n xs := by
 obtain ⟨h1, h2⟩ := h
 refine ⟨h1, ?_⟩
 rcases h2 with h2 | ⟨g, cap, cur, rfl, hg, hh, r⟩
 ·exact .inl h2
 ·exact .inr ⟨g, cap, cur, rfl, hg, (hm g (by simp [Value.ownBlock])).trans hh, r⟩
theorem own_typed {w : World} {base : Nat} {e : TypeId} {size n : Nat} {v : Value} {xs : List Value} (h : w.ownsRow base e size v n xs) (k : Nat) (hk : v.ownBlock = some k) : ∃ cells, w.heap[k]? = some (.cells cells e (0, 0)) := by
 rcases h.2 with ⟨rfl, _⟩ | ⟨g, cap, cur, rfl, hg, hh, r⟩
 ·simp [Value.ownBlock] at hk
 ·have : g = k := by simpa [Value.ownBlock] using hk
  subst this
  exact ⟨cur, hh⟩
namespace Kd
def C {α : Type} (d : Kd α) (w : World) (A : Option Addr) (n : Nat) (xs : List α) : Prop := ReadsRow (d.K w) d.sz w A n xs
def R {α : Type} (d : Kd α) (e : Nat) (w : World) (base : Nat) (ok : Nat → Prop) (v : Value) (xs : List α) : Prop :=
 (∀ k, v.ownBlock = some k → ok k) ∧ OwnRow (d.M w base (fun k => ok k ∧ some k ≠ v.ownBlock)) e d.sz w base v xs
section
variable {α : Type} {d : Kd α} {e : Nat} {w w1 : World} {base : Nat} {ok ok' : Nat → Prop} {v : Value} {xs : List α}
theorem C_below {A : Option Addr} {n : Nat} (h : d.C w A n xs) (hb : Below w.heap.size w w1) : d.C w1 A n xs := ReadsRow.imp_ h hb (fun _ _ hp => d.K_below hb hp)
theorem R_nil (d : Kd α) (e : Nat) (w : World) (base : Nat) (ok : Nat → Prop) : d.R e w base ok (.slice none 0 0) [] := ⟨fun k hk => by simp [Value.ownBlock] at hk, OwnRow.none_ _ _ _ _ _⟩
theorem R_mono (h : d.R e w base ok v xs) (hok : ∀ k, ok k → ok' k) : d.R e w base ok' v xs := ⟨fun k hk => hok k (h.1 k hk), h.2.imp_ (fun _ _ hp => d.M_mono (fun k hk => ⟨hok k hk.1, hk.2⟩) hp)⟩
theorem R_bound (h : d.R e w base ok v xs) : d.R e w base (fun k => ok k ∧ base ≤ k ∧ k < w.heap.size ∧ ∃ q, q ∈ e :: d.E ∧ ∃ cells, w.heap[k]? = some (.cells cells q (0, 0))) v xs := by
 obtain ⟨h0, inner, ho, hr⟩ := h
 refine ⟨fun k hk => ?_, inner, ho, hr.imp_ (fun _ _ hp => d.M_mono (fun k hk => ?_) (d.M_bound hp))⟩
 ·obtain ⟨cells, hc⟩ := own_typed ho k hk
  exact ⟨h0 k hk, own_base ho k hk, own_lt ho k hk, e, List.mem_cons_self, cells, hc⟩
 ·obtain ⟨⟨h1, h2⟩, h3, h4, q, hq, hc⟩ := hk
  exact ⟨⟨h1, h3, h4, q, List.mem_cons_of_mem _ hq, hc⟩, h2⟩
theorem R_move (h : d.R e w base ok v xs) (hm : ∀ k, ok k → w1.heap[k]? = w.heap[k]?) : d.R e w1 base ok v xs := by
 obtain ⟨h0, inner, ho, hr⟩ := h
 exact ⟨h0, inner, own_move ho (fun k hk => hm k (h0 k hk)), hr.imp_ (fun _ _ hp => d.M_move (fun k hk => hm k hk.1) hp)⟩
theorem R_lower {base' : Nat} (h : d.R e w base ok v xs) (hb : base' ≤ base) : d.R e w base' ok v xs := by
 obtain ⟨h0, inner, ho, hr⟩ := h
 exact ⟨h0, inner, own_weaken ho hb, hr.imp_ (fun _ _ hp => d.M_lower hb hp)⟩
theorem R_step (h : d.R e w base ok v xs) (hm : ∀ k, ok k → k < w.heap.size → w1.heap[k]? = w.heap[k]?) : d.R e w1 base ok v xs :=
 R_mono (R_move (R_bound h) (fun k hk => hm k hk.1 hk.2.2.1)) (fun _ hk => hk.1)
theorem M_step {x : α} {cs : List Value} (h : d.M w base ok x cs) (hm : ∀ k, ok k → k < w.heap.size → w1.heap[k]? = w.heap[k]?) : d.M w1 base ok x cs :=
 d.M_mono (fun _ hk => hk.1) (d.M_move (fun k hk => hm k hk.1 hk.2.2.1) (d.M_bound h))
theorem R_below (h : d.R e w base ok v xs) (hb : Below w.heap.size w w1) : d.R e w1 base ok v xs := R_step h (fun k _ hk => hb.block k hk)
theorem M_below {x : α} {cs : List Value} (h : d.M w base ok x cs) (hb : Below w.heap.size w w1) : d.M w1 base ok x cs := M_step h (fun k _ hk => hb.block k hk)
theorem R_far (h : d.R e w base ok v xs) {p : Addr} (hok : ∀ k, ok k → k ≠ p.block) (u : Value) : d.R e (w.setCell p u) base ok v xs := R_step h (fun k ho _ => Below.heap_setCell w p u k (hok k ho))
theorem R_keep (h : d.R e w base ok v xs) {g : Nat} (hk : KeepBut w w1 g none) (hok : ∀ k, ok k → k ≠ g) : d.R e w1 base ok v xs := R_step h (fun k ho hlt => hk.2 k hlt (hok k ho) (by simp))
theorem R_types (h : d.R e w base ok v xs) {g t : Nat} {cells : Array Value} (hb : w.heap[g]? = some (.cells cells t (0, 0))) (ht : ∀ q, q ∈ e :: d.E → q ≠ t) : d.R e w base (fun k => ok k ∧ k ≠ g) v xs :=
 R_mono (R_bound h) (fun k hk => ⟨hk.1, by
  obtain ⟨_, _, _, q, hq, cells', hc⟩ := hk
  rintro rfl
  rw [hc] at hb
  injection hb with hb
  injection hb with _ hb
  exact ht q hq hb⟩)
theorem R_set (h : d.R e w base ok v xs) {g t : Nat} {cells : Array Value} (hb : w.heap[g]? = some (.cells cells t (0, 0))) (ht : ∀ q, q ∈ e :: d.E → q ≠ t) (j : Nat) (u : Value) : d.R e (w.setCell ⟨g, j, none⟩ u) base ok v xs :=
 R_mono (R_far (p := ⟨g, j, none⟩) (R_types h hb ht) (fun _ hk => hk.2) u) (fun _ hk => hk.1)
theorem R_reads (h : d.R e w base ok v xs) : ∃ A c, v = .slice A xs.length c ∧ xs.length ≤ c ∧ d.C w A xs.length xs := by
 obtain ⟨A, c, he, hl, hr⟩ := OwnRow.reads h.2
 exact ⟨A, c, he, hl, hr.imp_ (Below.refl _ _) (fun _ _ hp => d.K_of_M hp)⟩
theorem R_slice (h : d.R e w base ok v xs) : ∃ A c, v = .slice A xs.length c := by
 obtain ⟨A, c, he, _⟩ := R_reads h
 exact ⟨A, c, he⟩
theorem R_ne (h : d.R e w base ok v xs) {g t : Nat} {cells : Array Value} (hb : w.heap[g]? = some (.cells cells t (0, 0))) (ht : e ≠ t) : some g ≠ v.ownBlock := OwnRow.ne_block h.2 hb ht
end
def scalar {α : Type} (enc : α → Value) (h1 : ∀ x, (enc x).oneCell' = true) : Kd α where
 sz := 1
 E := []
 K := fun _ x cs => cs = [enc x]
 M := fun _ _ _ x cs => cs = [enc x]
 K_len := fun h => by rw [h]; rfl
 K_one := fun h u hu => by
  rw [h] at hu
  rw [List.mem_singleton.1 hu]
  exact h1 _
 K_below := fun _ h => h
 K_of_M := fun h => h
 M_mono := fun _ h => h
 M_bound := fun h => h
 M_move := fun _ h => h
 M_lower := fun _ h => h
def int (k : IntKind) : Kd Int := scalar (Value.int k) (fun _ => rfl)
def bool : Kd Bool := scalar Value.bool (fun _ => rfl)
def string : Kd ByteArray := scalar Value.string (fun _ => rfl)
def slice {α : Type} (e : Nat) (d : Kd α) : Kd (List α) where
 sz := 1
 E := e :: d.E
 K := fun w xs cs => ∃ A c, cs = [.slice A xs.length c] ∧ xs.length ≤ c ∧ d.C w A xs.length xs
 M := fun w base ok xs cs => ∃ v, cs = [v] ∧ d.R e w base ok v xs
 K_len := by
  rintro w x cs ⟨A, c, rfl, _⟩
  rfl
 K_one := by
  rintro w x cs ⟨A, c, rfl, _⟩ u hu
  rw [List.mem_singleton.1 hu]
  rfl
 K_below := by
  rintro w w1 x cs hb ⟨A, c, rfl, hl, hr⟩
  exact ⟨A, c, rfl, hl, C_below hr hb⟩
 K_of_M := by
  rintro w base ok x cs ⟨v, rfl, h⟩
  obtain ⟨A, c, rfl, hl, hr⟩ := R_reads h
  exact ⟨A, c, rfl, hl, hr⟩
 M_mono := by
  rintro w base ok ok' x cs hok ⟨v, rfl, h⟩
  exact ⟨v, rfl, R_mono h hok⟩
 M_bound := by
  rintro w base ok x cs ⟨v, rfl, h⟩
  exact ⟨v, rfl, R_bound h⟩
 M_move := by
  rintro w w1 base ok x cs hm ⟨v, rfl, h⟩
  exact ⟨v, rfl, R_move h hm⟩
 M_lower := by
  rintro w base base' ok x cs hb ⟨v, rfl, h⟩
  exact ⟨v, rfl, R_lower h hb⟩
def pair {α β : Type} (a : Kd α) (b : Kd β) : Kd (α × β) where
 sz := a.sz + b.sz
 E := a.E ++ b.E
 K := fun w x cs => ∃ c0 c1, cs = c0 ++ c1 ∧ a.K w x.1 c0 ∧ b.K w x.2 c1
 M := fun w base ok x cs => ∃ c0 c1, cs = c0 ++ c1 ∧ a.M w base ok x.1 c0 ∧ b.M w base ok x.2 c1
 K_len := by
  rintro w x cs ⟨c0, c1, rfl, h0, h1⟩
  rw [List.length_append, a.K_len h0, b.K_len h1]
 K_one := by
  rintro w x cs ⟨c0, c1, rfl, h0, h1⟩ u hu
  rcases List.mem_append.1 hu with hu | hu
  ·exact a.K_one h0 u hu
  ·exact b.K_one h1 u hu
 K_below := by
  rintro w w1 x cs hb ⟨c0, c1, rfl, h0, h1⟩
  exact ⟨c0, c1, rfl, a.K_below hb h0, b.K_below hb h1⟩
 K_of_M := by
  rintro w base ok x cs ⟨c0, c1, rfl, h0, h1⟩
  exact ⟨c0, c1, rfl, a.K_of_M h0, b.K_of_M h1⟩
 M_mono := by
  rintro w base ok ok' x cs hok ⟨c0, c1, rfl, h0, h1⟩
  exact ⟨c0, c1, rfl, a.M_mono hok h0, b.M_mono hok h1⟩
 M_bound := by
  rintro w base ok x cs ⟨c0, c1, rfl, h0, h1⟩
  refine ⟨c0, c1, rfl, a.M_mono ?_ (a.M_bound h0), b.M_mono ?_ (b.M_bound h1)⟩
  ·rintro k ⟨h2, h3, h4, q, hq, hc⟩
   exact ⟨h2, h3, h4, q, List.mem_append_left _ hq, hc⟩
  ·rintro k ⟨h2, h3, h4, q, hq, hc⟩
   exact ⟨h2, h3, h4, q, List.mem_append_right _ hq, hc⟩
 M_move := by
  rintro w w1 base ok x cs hm ⟨c0, c1, rfl, h0, h1⟩
  exact ⟨c0, c1, rfl, a.M_move hm h0, b.M_move hm h1⟩
 M_lower := by
  rintro w base base' ok x cs hb ⟨c0, c1, rfl, h0, h1⟩
  exact ⟨c0, c1, rfl, a.M_lower hb h0, b.M_lower hb h1⟩
def iso {α β : Type} (d : Kd α) (f : β → α) : Kd β where
 sz := d.sz
 E := d.E
 K := fun w x cs => d.K w (f x) cs
 M := fun w base ok x cs => d.M w base ok (f x) cs
 K_len := d.K_len
 K_one := d.K_one
 K_below := d.K_below
 K_of_M := d.K_of_M
 M_mono := d.M_mono
 M_bound := d.M_bound
 M_move := d.M_move
 M_lower := d.M_lower
def bot {α : Type} (sz : Nat) (E : List Nat) : Kd α where
 sz := sz
 E := E
 K := fun _ _ _ => False
 M := fun _ _ _ _ _ => False
 K_len := fun h => h.elim
 K_one := fun h => h.elim
 K_below := fun _ h => h
 K_of_M := fun h => h
 M_mono := fun _ h => h
 M_bound := fun h => h
 M_move := fun _ h => h
 M_lower := fun _ h => h
def upto {α : Type} (F : Kd α → Kd α) (sz : Nat) (E : List Nat) : Nat → Kd α
 | 0 => bot sz E
 | n + 1 => F (upto F sz E n)
theorem C_get {α : Type} {d : Kd α} {w : World} {A : Option Addr} {n : Nat} {xs : List α} (h : d.C w A n xs) (z : α) (i : Int) (h0 : 0 ≤ i) (h1 : i < n) :
  ∃ ad c, A = some ad ∧ c.length = d.sz ∧ d.K w (xs.getD i.toNat z) c ∧ ∀ j u, c[j]? = some u → w.cell? (ad.add (i.toNat * d.sz + j)) = some u := ReadsRow.get_ h z i h0 h1
theorem R_appended {α : Type} {d : Kd α} {e base : Nat} {ok okp : Nat → Prop} {W w1 : World} {v v1 : Value} {xs : List α} {p : α} {inner cs : List Value} (h0 : ∀ k, v.ownBlock = some k → ok k) (hr : Reps (d.M W base (fun k => ok k ∧ some k ≠ v.ownBlock)) d.sz xs inner) (hp : d.M W base okp p cs) (hokp : ∀ k, okp k → ok k ∧ some k ≠ v.ownBlock) (hfresh : ∀ k, W.heap.size ≤ k → ok k)
  (hown : w1.ownsRow base e d.sz v1 (xs.length + 1) (inner ++ cs)) (hg : W.grownBy w1 v.ownBlock) (hat : v1.ownBlock = v.ownBlock ∨ ∃ b, v1.ownBlock = some b ∧ W.heap.size ≤ b) : d.R e w1 base ok v1 (xs ++ [p]) := by
 have hne : ∀ k, some k ≠ v.ownBlock → k < W.heap.size → some k ≠ v1.ownBlock := by
  intro k hk hlt
  rcases hat with hat | ⟨b, hb, hle⟩
  ·rw [hat]; exact hk
  ·rw [hb]
   intro he
   injection he with he
   omega
 have step : ∀ {q : α} {c : List Value} {o : Nat → Prop}, d.M W base o q c → (∀ k, o k → ok k ∧ some k ≠ v.ownBlock) → d.M w1 base (fun k => ok k ∧ some k ≠ v1.ownBlock) q c := by
  intro q c o hq ho
  have h1 := d.M_move (w1 := w1) (fun k hk => hg.block k hk.2.2.1 (ho k hk.1).2) (d.M_bound hq)
  exact d.M_mono (fun k hk => ⟨(ho k hk.1).1, hne k (ho k hk.1).2 hk.2.2.1⟩) h1
 refine ⟨fun k hk => ?_, inner ++ cs, by rw [List.length_append, List.length_singleton]; exact hown, ?_⟩
 ·rcases hat with hat | ⟨b, hb, hle⟩
  ·exact h0 k (hat ▸ hk)
  ·rw [hb] at hk
   injection hk with hk
   exact hfresh k (by omega)
 ·exact (hr.imp_ (fun _ _ hq => step hq (fun _ hk => hk))).snoc (step hp hokp) (d.K_len (d.K_of_M hp))
section
variable {P : Program} {ops : Array Oper} {rest : List Oper} {o : Oper} {a : Act} {Q : Exit → Act → World → Prop} {α : Type}
theorem R_append (d : Kd α) {w0 W : World} (base : Nat) (hgd : o.guard = none) (s x : Operand) (t e : TypeId) (z : Value) (bytes : Nat)
  (ho : o.op = .call { callee := .builtin .append, args := #[s, x], argTypes := #[t, t] })
  (ht : P.underlying t = some (.slice e)) (hinfo : (P.info? e).map (fun i => (i.zero, i.size, i.bytes)) = some (some z, d.sz, bytes)) (hz : z.cells.size = d.sz) (hs0 : 0 < d.sz) (hb0 : 0 < bytes)
  (v : Value) (xs : List α) (p : α) (cs : List Value) (ok okp : Nat → Prop) (hs : a.eval s = v) (hx : a.eval x = .slice (some ⟨W.heap.size, 0, none⟩) 1 1) (hp : d.M W base okp p cs) (hokp : ∀ k, okp k → ok k ∧ some k ≠ v.ownBlock) (hfresh : ∀ k, W.heap.size ≤ k → ok k)
  (HO : d.R e W base ok v xs) (HB : Below base w0 W) (hbase : base ≤ W.heap.size) (hl : (xs.length + 1) * bytes ≤ 140737488355328)
  (h : ∀ v1 w1, d.R e w1 base ok v1 (xs ++ [p]) → Below base w0 w1 → W.grownBy w1 v.ownBlock → (v1.ownBlock = v.ownBlock ∨ ∃ b, v1.ownBlock = some b ∧ W.heap.size ≤ b) → wpList P ops Q rest (a.put o.dst v1) w1) :
  wpList P ops Q (o :: rest) a (W.alloc (.cells cs.toArray e)) := by
 obtain ⟨h0, inner, hown, hr⟩ := HO
 refine print_append_cells base hgd s x t e z d.sz bytes ho ht hinfo hz hs0 hb0 v xs.length inner cs hs hx (d.K_len (d.K_of_M hp)) (d.K_one (d.K_of_M hp)) hown HB hbase hl ?_
 intro v1 w1 hown1 hb1 hg1 hat1
 exact h v1 w1 (R_appended h0 hr hp hokp hfresh hown1 hg1 hat1) hb1 hg1 hat1
end
section
variable {P : Program} {ops : Array Oper} {o : Oper} {a : Act} {Q : Exit → Act → World → Prop} {Kc : Act → World → Prop} {α : Type}
end
theorem own_of_R {α : Type} {enc : α → Value} {h1 : ∀ x, (enc x).oneCell' = true} {e : Nat} {w : World} {base : Nat} {ok : Nat → Prop} {v : Value} {xs : List α} (h : (scalar enc h1).R e w base ok v xs) : w.ownsRow base e 1 v xs.length (encs enc xs) := by
 obtain ⟨_, inner, ho, hr⟩ := h
 have : inner = encs enc xs := by
  apply List.ext_getElem?
  intro j
  rcases Nat.lt_or_ge j xs.length with hj | hj
  ·have h2 := hr.2 j _ (List.getElem?_eq_getElem hj)
   have hl : j < inner.length := by have := hr.1; simp [scalar] at this; omega
   have h3 : (inner.drop (j * 1)).take 1 = [enc xs[j]] := h2
   rw [Nat.mul_one, List.drop_eq_getElem_cons hl] at h3
   have h4 : inner[j] = enc xs[j] := by
    have h5 := congrArg List.head? h3
    rw [List.take_succ_cons] at h5
    exact Option.some.inj h5
   rw [List.getElem?_eq_getElem hl, h4]
   simp [encs, List.getElem?_eq_getElem hj]
  ·have h3 : inner.length = xs.length := by have := hr.1; simp [scalar] at this; omega
   rw [List.getElem?_eq_none (by omega), List.getElem?_eq_none (by rw [encs_length]; omega)]
 rw [← this]
 exact ho
end Kd
namespace Kd
section
variable {α : Type} {F : Kd α → Kd α} {sz : Nat} {E : List Nat} {hs : ∀ n, (upto F sz E n).sz = sz} {hE : ∀ n q, q ∈ (upto F sz E n).E → q ∈ E}
end
end Kd
namespace Kd
end Kd
namespace Kd
section
variable {α β : Type} {d : Kd α} {d' : Kd β} {e e' : Nat} {w w1 W : World} {base b b' : Nat} {ok ok' okv oku : Nat → Prop} {v u : Value} {xs : List α} {ys : List β}
theorem C_nil (d : Kd α) (w : World) : d.C w none ([] : List α).length [] := ⟨rfl, by simp, fun h => absurd h (Nat.lt_irrefl 0)⟩
theorem R_reads' {A : Option Addr} {n c : Nat} (h : d.R e w base ok (.slice A n c) xs) : n = xs.length ∧ n ≤ c ∧ d.C w A xs.length xs := by
 obtain ⟨A', c', he, hl, hr⟩ := R_reads h
 injection he with h1 h2 h3
 subst h1
 exact ⟨h2, by omega, hr⟩
theorem R_away (h : d.R e w base ok v xs) {g : Nat} (hok : ∀ k, ok k → k ≠ g) : some g ≠ v.ownBlock := fun e => hok g (h.1 g e.symm) rfl
end
section
variable {w W : World} {A : Option Addr} {n : Nat}
variable {α : Type} {enc : α → Value} {h1 : ∀ x, (enc x).oneCell' = true} {e base g cap : Nat} {ok : Nat → Prop} {xs : List α}
end
section
variable {P : Program} {ops : Array Oper} {rest : List Oper} {o : Oper} {a : Act} {Q : Exit → Act → World → Prop}
theorem event_run {W w1 : World} {v : Value} (hgd : o.guard = none) (hrun : (execOp a.eval o).run P W = .ok (.value v) w1) (h : wpList P ops Q rest (a.put o.dst v) w1) : wpList P ops Q (o :: rest) a W := by
 refine wpList_plain hgd fun K hK => ?_
 unfold Oper.wp
 rw [hrun]
 exact hK _ _ h
variable {α : Type}
theorem R_lit (d : Kd α) {w0 W : World} (base e : Nat) (hgd : o.guard = none) {N : Tmp} (_hd : o.dst = some N) {xs : List α} {inner : List Value} {ok okp : Nat → Prop}
  (hrun : (execOp a.eval o).run P W = .ok (.value (.slice (some ⟨W.heap.size, 0, none⟩) xs.length xs.length)) (W.alloc (.cells inner.toArray e)))
  (hrep : Reps (d.M W base okp) d.sz xs inner) (hok : ∀ k, okp k → ok k) (hfresh : ok W.heap.size) (HB : Below base w0 W) (hbase : base ≤ W.heap.size) (hm : xs.length ≤ 9223372036854775807)
  (h : ∀ v1 w1, d.R e w1 base ok v1 xs → Below base w0 w1 → W.grownBy w1 none → (∃ b, v1.ownBlock = some b ∧ W.heap.size ≤ b) → wpList P ops Q rest (a.put o.dst v1) w1) : wpList P ops Q (o :: rest) a W := by
 refine event_run hgd hrun (h _ _ ⟨fun k hk => ?_, inner, ?_, ?_⟩ (HB.alloc hbase _) (World.grownBy_alloc W _ none) ⟨W.heap.size, by simp [Value.ownBlock], Nat.le_refl _⟩)
 ·have : W.heap.size = k := by simpa [Value.ownBlock] using hk
  subst this
  exact hfresh
 ·have h2 := World.ownsRow_lit (base := base) (e := e) (size := d.sz) W inner.toArray xs.length hbase (by simpa [maxLen] using hm) (by simpa using hrep.1)
  simpa using h2
 ·refine hrep.imp_ (fun p c hp => d.M_mono (fun k hk => ⟨hok k hk.1, fun he => ?_⟩) (M_below (d.M_bound hp) (below_alloc (Below.refl _ _) _)))
  have h3 : k = W.heap.size := by simpa [Value.ownBlock] using he
  have := hk.2.2.1
  omega
theorem reps_made {α : Type} {R : α → List Value → Prop} {z : Value} {size : Nat} {z0 : α} (hz : z.cells.size = size) (hs : 0 < size) (h0 : R z0 z.cells.toList) (m : Nat) : Reps R size (List.replicate m z0) (madeCells z.cells (m * size)).toList := by
 refine ⟨by simp [size_madeCells], fun j p hj => ?_⟩
 obtain ⟨hjl, hp⟩ := List.getElem?_eq_some_iff.1 hj
 have hjm : j < m := by simpa using hjl
 have hp' : z0 = p := by simpa using hp
 subst hp'
 have hle : j * size + size ≤ m * size := by rw [← Nat.succ_mul]; exact Nat.mul_le_mul_right _ hjm
 have : ((madeCells z.cells (m * size)).toList.drop (j * size)).take size = z.cells.toList := by
  apply List.ext_getElem
  ·simp [size_madeCells, hz]
   omega
  ·intro i h1 h2
   have hi : i < size := by rw [Array.length_toList, hz] at h2; exact h2
   have hmod : (j * size + i) % size = i := by
    rw [Nat.mul_comm, Nat.mul_add_mod]
    exact Nat.mod_eq_of_lt hi
   simp [madeCells, hz, hmod]
   rw [getElem!_pos z.cells i (by omega)]
 rw [this]
 exact h0
theorem R_make (d : Kd α) {w0 W : World} (base e : Nat) (hgd : o.guard = none) {N : Tmp} (hd : o.dst = some N) (t : TypeId) (x y : Operand) (ho : o.op = .makeSlice t x y) (n : Int) (hx : a.eval x = .int .i64 n) (hy : a.eval y = .int .i64 n)
    (ht : P.underlying t = some (.slice e)) (z : Value) (bytes : Nat) (hinfo : (P.info? e).map (fun i => (i.zero, i.size, i.bytes)) = some (some z, d.sz, bytes)) (hz : z.cells.size = d.sz) (hs0 : 0 < d.sz) (hb0 : 0 < bytes)
    (z0 : α) {ok okp : Nat → Prop} (hzero : d.M W base okp z0 z.cells.toList) (hok : ∀ k, okp k → ok k) (hfresh : ok W.heap.size) (h0 : 0 ≤ n) (hl : n.toNat * bytes ≤ 281474976710656) (HB : Below base w0 W) (hbase : base ≤ W.heap.size)
    (h : ∀ v1 w1, d.R e w1 base ok v1 (List.replicate n.toNat z0) → Below base w0 w1 → W.grownBy w1 none → (∃ b, v1.ownBlock = some b ∧ W.heap.size ≤ b) → wpList P ops Q rest (a.put o.dst v1) w1) : wpList P ops Q (o :: rest) a W := by
  obtain ⟨m, rfl⟩ := Int.eq_ofNat_of_zero_le h0
  simp only [Int.toNat_natCast] at hl h
  obtain ⟨i0, hi, hzz⟩ := Option.map_eq_some_iff.1 hinfo
  simp only [Prod.mk.injEq] at hzz
  obtain ⟨hz0, hz1, hz2⟩ := hzz
  have hm : m ≤ 281474976710656 := Nat.le_trans (Nat.le_mul_of_pos_right _ hb0) hl
  have hr := run_make (P := P) W t e i0 z ht hi hz0 .i64 .i64 (m : Int) (m : Int) (by omega) (by omega)
    (by
      have h3 : ((i0.bytes * m : Nat) : Int) ≤ 281474976710656 := by rw [hz2, Nat.mul_comm]; omega
      rwa [Int.natCast_mul] at h3) (by omega)
  simp only [Int.toNat_natCast] at hr
  rw [hz1] at hr
  refine R_lit d base e hgd hd (xs := List.replicate m z0) (inner := (madeCells z.cells (m * d.sz)).toList) (okp := okp) (ok := ok) ?_ (reps_made hz hs0 hzero m) hok hfresh HB hbase (by simp; omega) h
  simp [execOp, ho, hx, hy, hr]
end
end Kd
section
variable {P : Program}
end
def QRow (w : World) (base : Nat) (e : TypeId) (size : Nat) (v : Value) (n : Nat) (xs : List Value) : Prop :=
  xs.length = n * size ∧
  ((n = 0 ∧ ∃ A, v = .slice A 0 0 ∧ ∀ a, A = some a → base ≤ a.block ∧ ∃ cur, w.heap[a.block]? = some (.cells cur e (0, 0))) ∨
   ∃ g off cap cur, v = .slice (some ⟨g, off * size, none⟩) n cap ∧ base ≤ g ∧ w.heap[g]? = some (.cells cur e (0, 0)) ∧ n ≤ cap ∧ off + cap ≤ maxLen ∧ cur.size = (off + cap) * size ∧ (cur.toList.drop (off * size)).take (n * size) = xs)
section
variable {w w1 : World} {base n size : Nat} {e : TypeId} {v : Value} {xs : List Value}
theorem add_at (g o j : Nat) : (⟨g, o, none⟩ : Addr).add j = ⟨g, o + j, none⟩ := by unfold Addr.add; split <;> simp_all
end
section
variable {P : Program}
end
namespace Kd
def Q {α : Type} (d : Kd α) (e : Nat) (w : World) (base : Nat) (ok : Nat → Prop) (v : Value) (xs : List α) : Prop :=
 (∀ k, v.ownBlock = some k → ok k) ∧ ∃ inner, QRow w base e d.sz v xs.length inner ∧ Reps (d.M w base (fun k => ok k ∧ some k ≠ v.ownBlock)) d.sz xs inner
section
variable {α : Type} {d : Kd α} {e : Nat} {w w1 W : World} {base : Nat} {ok ok' : Nat → Prop} {v : Value} {xs : List α}
end
section
variable {P : Program} {ops : Array Oper} {rest : List Oper} {o : Oper} {a : Act} {Q' : Exit → Act → World → Prop} {Kc : Act → World → Prop} {α : Type}
end
end Kd
namespace Kd
section
variable {α : Type} {d : Kd α} {e e' : Nat} {w w1 W : World} {base : Nat} {ok : Nat → Prop} {u v : Value} {xs : List α}
end
end Kd
namespace Kd
section
variable {α : Type} {d : Kd α} {e base g n cap : Nat} {ok okp : Nat → Prop} {W : World} {xs : List α}
end
end Kd
namespace Kd
section
variable {α : Type} {F : Kd α → Kd α} {sz : Nat} {E : List Nat} {hs : ∀ n, (upto F sz E n).sz = sz} {hE : ∀ n q, q ∈ (upto F sz E n).E → q ∈ E}
end
end Kd
namespace Kd
theorem reps_append {α : Type} {R : α → List Value → Prop} {size : Nat} {ps qs : List α} {cs ds : List Value} (h : Reps R size ps cs) (h' : Reps R size qs ds) : Reps R size (ps ++ qs) (cs ++ ds) := by
 refine ⟨by rw [List.length_append, List.length_append, h.1, h'.1, Nat.add_mul], fun j p hj => ?_⟩
 rcases Nat.lt_or_ge j ps.length with hlt | hge
 ·rw [List.getElem?_append_left hlt] at hj
  have hle : j * size + size ≤ cs.length := by rw [h.1, ← Nat.succ_mul]; exact Nat.mul_le_mul_right _ hlt
  rw [List.drop_append_of_le_length (by omega), List.take_append_of_le_length (by rw [List.length_drop]; omega)]
  exact h.2 j p hj
 ·rw [List.getElem?_append_right hge] at hj
  have h2 := h'.2 (j - ps.length) p hj
  have hle : ps.length * size ≤ j * size := Nat.mul_le_mul_right _ hge
  rw [List.drop_append, List.drop_eq_nil_of_le (by rw [h.1]; exact hle), List.nil_append, h.1, ← Nat.sub_mul]
  exact h2
section
variable {P : Program} {ops : Array Oper} {rest : List Oper} {o : Oper} {a : Act} {Q : Exit → Act → World → Prop} {α : Type}
theorem R_append_rows (d : Kd α) {Rr : α → List Value → Prop} {w0 W : World} (base : Nat) (hgd : o.guard = none) (s x : Operand) (t e : TypeId) (z : Value) (bytes : Nat)
  (ho : o.op = .call { callee := .builtin .append, args := #[s, x], argTypes := #[t, t] })
  (ht : P.underlying t = some (.slice e)) (hinfo : (P.info? e).map (fun i => (i.zero, i.size, i.bytes)) = some (some z, d.sz, bytes)) (hz : z.cells.size = d.sz) (hs0 : 0 < d.sz) (hb0 : 0 < bytes)
  (v : Value) (xs ys : List α) (A : Option Addr) (m c : Nat) (ok okp : Nat → Prop) (hs : a.eval s = v) (hx : a.eval x = .slice A m c)
  (HO : d.R e W base ok v xs) (HR : ReadsRow Rr d.sz W A m ys) (hKM : ∀ x cs, Rr x cs → d.M W base okp x cs) (hokp : ∀ k, okp k → ok k ∧ some k ≠ v.ownBlock) (hfresh : ∀ k, W.heap.size ≤ k → ok k)
  (HB : Below base w0 W) (hbase : base ≤ W.heap.size) (hl : (xs.length + m) * bytes ≤ 140737488355328)
  (h : ∀ v1 w1, d.R e w1 base ok v1 (xs ++ ys) → Below base w0 w1 → W.grownBy w1 v.ownBlock → (v1.ownBlock = v.ownBlock ∨ ∃ b, v1.ownBlock = some b ∧ W.heap.size ≤ b) → wpList P ops Q rest (a.put o.dst v1) w1) :
  wpList P ops Q (o :: rest) a W := by
 obtain ⟨i0, hi, hzz⟩ := Option.map_eq_some_iff.1 hinfo
 simp only [Prod.mk.injEq] at hzz
 obtain ⟨hz0, hz1, hz2⟩ := hzz
 have hm : ys.length = m := HR.1
 have hlen : xs.length + m ≤ 140737488355328 := Nat.le_trans (Nat.le_mul_of_pos_right _ hb0) hl
 obtain ⟨hok, inner, hown, hr⟩ := HO
 have hrun : ∃ v1 w1, (Builtin.append_ #[t, t] o.type #[v, .slice A m c]).run P W = .ok v1 w1 ∧ d.R e w1 base ok v1 (xs ++ ys) ∧ W.grownBy w1 v.ownBlock ∧ (v1.ownBlock = v.ownBlock ∨ ∃ b, v1.ownBlock = some b ∧ W.heap.size ≤ b) := by
  rcases A with _ | ad
  ·have h0 : m = 0 := by
    rcases Nat.eq_zero_or_pos m with h0 | h0
    ·exact h0
    ·obtain ⟨ad, h, _⟩ := HR.2.2 h0
     cases h
   subst h0
   obtain rfl : ys = [] := List.eq_nil_of_length_eq_zero hm
   refine ⟨v, W, ?_, by rw [List.append_nil]; exact ⟨hok, inner, hown, hr⟩, World.grownBy.refl W _, .inl rfl⟩
   rcases hown.2 with ⟨rfl, hn⟩ | ⟨g, cap, cur, rfl, _, _, hnc, _⟩
   ·simp [Builtin.append_, run_underlying ht, sizeOf, typeInfo, hi, Builtin.lenOf, Builtin.firstCells]
   ·simp [Builtin.append_, run_underlying ht, sizeOf, typeInfo, hi, Builtin.lenOf, Builtin.firstCells, hnc, storeCells]
  ·obtain ⟨news, hnr, hnc⟩ := ReadsRow.inner_ HR
   have hnM : Reps (d.M W base okp) d.sz ys news := hnr.imp_ (fun p c hp => hKM p c hp)
   have hone : ∀ u ∈ news, u.oneCell' = true := by
    intro u hu
    obtain ⟨q, hq, rfl⟩ := List.mem_iff_getElem.1 hu
    have hql : q / d.sz < ys.length := by
     rw [Nat.div_lt_iff_lt_mul hs0]
     rw [← hnM.1]
     exact hq
    have hc := hnM.2 (q / d.sz) _ (List.getElem?_eq_getElem hql)
    refine d.K_one (d.K_of_M hc) _ ?_
    rw [List.mem_iff_getElem?]
    refine ⟨q % d.sz, ?_⟩
    rw [List.getElem?_take, if_pos (Nat.mod_lt _ hs0), List.getElem?_drop, Nat.mul_comm, Nat.div_add_mod, List.getElem?_eq_getElem hq]
   obtain ⟨v1, w1, hrun, h2, hg, _, hat⟩ := run_append_own_at (P := P) W base t o.type e i0 z d.sz bytes ht hi hz0 hz1 hz2 hz hs0 v xs.length inner hown ad m c news (by rw [hnM.1, hm]) hnc hone (by simp only [maxLen]; omega) hl hbase
   have hat' : v1.ownBlock = v.ownBlock ∨ ∃ b, v1.ownBlock = some b ∧ W.heap.size ≤ b := by
    rcases hat with hat | hat
    ·exact .inl hat
    ·exact .inr ⟨_, hat, Nat.le_refl _⟩
   have hne : ∀ k, some k ≠ v.ownBlock → k < W.heap.size → some k ≠ v1.ownBlock := by
    intro k hk hlt
    rcases hat' with hat | ⟨b, hb, hle⟩
    ·rw [hat]; exact hk
    ·rw [hb]
     intro he
     injection he with he
     omega
   have step : ∀ {q : α} {c : List Value} {o : Nat → Prop}, d.M W base o q c → (∀ k, o k → ok k ∧ some k ≠ v.ownBlock) → d.M w1 base (fun k => ok k ∧ some k ≠ v1.ownBlock) q c := by
    intro q c o hq ho
    have h1 := d.M_move (w1 := w1) (fun k hk => hg.block k hk.2.2.1 (ho k hk.1).2) (d.M_bound hq)
    exact d.M_mono (fun k hk => ⟨(ho k hk.1).1, hne k (ho k hk.1).2 hk.2.2.1⟩) h1
   refine ⟨v1, w1, hrun, ⟨fun k hk => ?_, inner ++ news, by rw [List.length_append, hm]; exact h2, reps_append (hr.imp_ (fun _ _ hq => step hq (fun _ hk => hk))) (hnM.imp_ (fun _ _ hq => step hq hokp))⟩, hg, hat'⟩
   rcases hat' with hat | ⟨b, hb, hle⟩
   ·exact hok k (hat ▸ hk)
   ·rw [hb] at hk
    injection hk with hk
    exact hfresh k (by omega)
 obtain ⟨v1, w1, hr1, h1, hg, hat⟩ := hrun
 refine wpList_plain hgd fun K hK => ?_
 unfold Oper.wp execOp
 simp only [ho, resolve, invoke, builtin, Sem.run_bind, Sem.run_pure, Result.andThen_ok, List.map_toArray, List.map_cons, List.map_nil, hs, hx, hr1]
 exact hK _ _ (h v1 w1 h1 (HB.grown hg hbase (own_base hown)) hg hat)
end
end Kd
namespace Kd
section
variable {P : Program} {ops : Array Oper} {rest : List Oper} {o : Oper} {a : Act} {Q : Exit → Act → World → Prop} {α : Type}
end
end Kd
namespace Kd
section
variable {α : Type} {k : Kd α} {w : World} {A : Option Addr} {xs : List α} {m c : Nat}
end
end Kd
section
variable {P : Program}
end
theorem below_size {w W : World} (h : Below w.heap.size w W) : w.heap.size ≤ W.heap.size := h.size
theorem below_step {w W w2 : World} (h : Below w.heap.size w W) (k : Below W.heap.size W w2) : Below w.heap.size w w2 := below_then h h.size k
theorem below_set {w W : World} {g j : Nat} {v : Value} (h : Below w.heap.size w W) (hg : w.heap.size ≤ g) : Below w.heap.size w (W.setCell ⟨g, j, none⟩ v) := h.setCell hg _
theorem keep_drewN {w W : World} {g : Nat} {row : Option Nat} (h : KeepBut w W g row) (m : Nat) : KeepBut w (W.drewN m) g row := h
theorem blk_put {w : World} {g : Nat} {t : TypeId} {cs cs' : Array Value} (h : w.heap[g]? = some (.cells cs t (0, 0))) (i : Nat) (u : Value) (e : cs.setIfInBounds i u = cs') : (w.setCell ⟨g, i, none⟩ u).heap[g]? = some (.cells cs' t (0, 0)) := e ▸ blk_set h i u
theorem below_drew1 {base : Nat} {w W : World} (h : Below base w W) : Below base w W.drew := h.drew
namespace Kd
section
variable {α β : Type} {d : Kd α} {d' : Kd β} {e e' base base' n : Nat} {ok ok' : Nat → Prop} {w W w1 W1 : World} {v u : Value} {xs : List α} {ys : List β} {A : Option Addr} {c : Nat}
end
section
variable {α : Type} {enc : α → Value} {h1 : ∀ x, (enc x).oneCell' = true} {w W : World} {A : Option Addr} {n g : Nat} {xs : List α}
end
end Kd
namespace Kd
section
variable {α : Type} {d : Kd α} {e base g : Nat} {ok : Nat → Prop} {w w1 : World} {v : Value} {xs : List α} {o : Obj}
theorem R_elderB (h : d.R e w base ok v xs) (a : Nat) (ha : w.heap.size ≤ a) : d.R e w base (fun k => ok k ∧ k ≠ a) v xs := R_mono (R_bound h) (fun k hk => ⟨hk.1, by have := hk.2.2.1; omega⟩)
theorem freshB (hb : w.heap[g]? = some o) : ∀ k, w.heap.size ≤ k → k ≠ g := fun k hk => by have := blk_lt hb; omega
end
end Kd
section
variable {P : Program} {ops : Array Oper} {rest : List Oper} {o : Oper} {a : Act} {Q : Exit → Act → World → Prop}
theorem box_event {W : World} (hgd : o.guard = none) {N : Tmp} (_hd : o.dst = some N) {cs : Array Value} {t : TypeId}
  (hrun : (execOp a.eval o).run P W = .ok (.value (.pointer (some ⟨W.heap.size, 0, none⟩))) (W.alloc (.cells cs t (0, 0))))
  (h : ∀ g, g = W.heap.size → ∀ w1, w1.heap[g]? = some (.cells cs t (0, 0)) → Below W.heap.size W w1 → wpList P ops Q rest (a.put o.dst (.pointer (some ⟨g, 0, none⟩))) w1) : wpList P ops Q (o :: rest) a W :=
 Kd.event_run hgd hrun (h _ rfl _ (blk_new W _) (below_alloc (Below.refl _ _) _))
end
namespace Kd
section
variable {α : Type} {enc : α → Value} {h1 : ∀ x, (enc x).oneCell' = true} {e base g n cap : Nat} {ok : Nat → Prop} {W : World} {xs : List α}
end
end Kd
section
variable {P : Program} {ops : Array Oper} {rest : List Oper} {o : Oper} {a : Act} {Q : Exit → Act → World → Prop}
end
namespace Kd
section
variable {α : Type} {enc : α → Value} {h1 : ∀ x, (enc x).oneCell' = true} {e base g n cap : Nat} {ok : Nat → Prop} {W : World} {xs : List α}
end
end Kd
section
variable {P : Program} {ops : Array Oper} {rest : List Oper} {o : Oper} {a : Act} {Q : Exit → Act → World → Prop} {W : World}
theorem gate_dst {N : Tmp} (_hN : o.dst = some N) (h : wpList P ops Q (o :: rest) a W) : wpList P ops Q (o :: rest) a W := h
end
section
variable {P : Program} {ops : Array Oper} {o : Oper} {a : Act} {Q : Exit → Act → World → Prop} {Kc : Act → World → Prop}
namespace Kd
variable {α : Type}
end Kd
end
section
variable {P : Program} {tmps : Array Value} {w : World}
end
namespace Kd
section
variable {P : Program} {α : Type}
end
section
variable {P : Program} {ops : Array Oper} {rest : List Oper} {o : Oper} {a : Act} {Q : Exit → Act → World → Prop} {Kc : Act → World → Prop} {α : Type}
end
end Kd
end Go.Proofs.YthemhfloablccaaDoorW.PrintWords
end

section
namespace Go.Proofs.YthemhfloablccaaDoorW.PrintLast
section
variable {P : Program} {ops : Array Oper} {Q : Exit → Act → World → Prop} {md : Region.Mode} {S : World → Prop} {ds : List Nat}
def Region.reachB (md : Region.Mode) (ops : Array Oper) (i : Nat) : Nat → Nat → Bool
  | 0, _ => false
  | fuel + 1, d => match ops[d]? with
    | some o => o.after.any fun e => Region.binds md e && (e.on == i || Region.reachB md ops i fuel e.on)
    | none => false
def Region.closedB (md : Region.Mode) (ops : Array Oper) (listed : Array Bool) : Bool :=
  (List.range ops.size).all fun j => !listed.getD j false || match ops[j]? with
    | some o => o.after.all fun e => !Region.binds md e || listed.getD e.on false
    | none => true
def Region.lastB (md : Region.Mode) (ops : Array Oper) (listed : Array Bool) (ds : List Nat) (i : Nat) : Bool :=
 ds.all fun d => listed.getD d true || Region.reachB md ops i ops.size d
def ListedClosed (md : Region.Mode) (ops : Array Oper) (listed : Array Bool) : Prop :=
 ∀ j oj, ops[j]? = some oj → listed.getD j false = true → ∀ e ∈ oj.after, Region.binds md e = true → listed.getD e.on false = true
theorem Region.closedB_spec {listed : Array Bool} (h : Region.closedB md ops listed = true) : ListedClosed md ops listed := by
 intro j oj hj hl e he hb
 have hlt : j < ops.size := (Array.getElem?_eq_some_iff.1 hj).1
 have h1 := List.all_eq_true.1 h j (List.mem_range.2 hlt)
 simp only [hl, hj, Bool.not_true, Bool.false_or] at h1
 have h2 := Array.all_eq_true_iff_forall_mem.1 h1 e he
 simpa [hb] using h2
theorem ListedClosed.set {listed : Array Bool} {i : Nat} (h : ListedClosed md ops listed) (hi : i ∈ Region.ready md ops listed) : ListedClosed md ops (listed.setIfInBounds i true) := by
 obtain ⟨_, oi, hoi, hall⟩ := mem_ready.1 hi
 intro j oj hj hl e he hb
 by_cases hij : i = j
 ·subst hij
  have : oj = oi := Option.some.inj (hj.symm.trans hoi)
  subst this
  exact getD_set_true (hall e he hb)
 ·rw [getD_set_ne false hij] at hl
  exact getD_set_true (h j oj hj hl e he hb)
theorem Region.reach_listed {listed : Array Bool} {i : Nat} (hc : ListedClosed md ops listed) : ∀ (fuel d : Nat), Region.reachB md ops i fuel d = true → listed.getD d false = true → listed.getD i false = true
  | 0, _, h, _ => by simp [Region.reachB] at h
  | fuel + 1, d, h, hl => by
    unfold Region.reachB at h
    cases ho : ops[d]? with
    | none => rw [ho] at h; simp at h
    | some o =>
      rw [ho] at h
      obtain ⟨e, he, h1⟩ := Array.any_eq_true'.1 h
      simp only [Bool.and_eq_true, Bool.or_eq_true, beq_iff_eq] at h1
      have hle := hc d o ho hl e he h1.1
      rcases h1.2 with h2 | h2
      · rw [← h2]; exact hle
      · exact Region.reach_listed hc fuel e.on h2 hle
theorem Region.reach_not_ready {listed : Array Bool} {i d fuel : Nat} (hc : ListedClosed md ops listed) (hr : Region.reachB md ops i fuel d = true) (hun : listed.getD i true = false) : d ∉ Region.ready md ops listed := by
  intro hd
  obtain ⟨_, o, ho, hall⟩ := mem_ready.1 hd
  have hi : listed.getD i false = true := by
    cases fuel with
    | zero => simp [Region.reachB] at hr
    | succ n =>
      unfold Region.reachB at hr
      rw [ho] at hr
      obtain ⟨e, he, h1⟩ := Array.any_eq_true'.1 hr
      simp only [Bool.and_eq_true, Bool.or_eq_true, beq_iff_eq] at h1
      have hle := hall e he h1.1
      rcases h1.2 with h2 | h2
      · rw [← h2]; exact hle
      · exact Region.reach_listed hc n e.on h2 hle
  rcases Nat.lt_or_ge i listed.size with h' | h'
  · simp [h'] at hun hi
    rw [hun] at hi
    cases hi
  · simp [Array.getElem?_eq_none h'] at hun
def wpAnyLast (P : Program) (md : Region.Mode) (ops : Array Oper) (Q : Exit → Act → World → Prop) (S : World → Prop) (ds : List Nat) : Nat → Array Bool → Act → World → Prop
  | 0, listed, a, w => Region.ready md ops listed = [] ∧ Q .normal a w
  | fuel + 1, listed, a, w =>
    (Region.ready md ops listed = [] → Q .normal a w) ∧
    ∀ i ∈ Region.ready md ops listed, wpOp P ops Q i (fun a' w' => (i ∉ ds → S w → S w') ∧ wpAnyLast P md ops Q S ds fuel (listed.setIfInBounds i true) a' w') a w
theorem wpAny_of_last : ∀ (fuel : Nat) (listed : Array Bool) (a : Act) (w : World), wpAnyLast P md ops Q S ds fuel listed a w → wpAny P md ops Q fuel listed a w
 | 0, _, _, _, h => h
 | fuel + 1, _, _, _, h => ⟨h.1, fun i hi => wpOp_mono (fun a' w' h' => wpAny_of_last fuel _ a' w' h'.2) (h.2 i hi)⟩
theorem wpAnyLast_first {i : Nat} {oi : Oper} {v : Value} (hi : ops[i]? = some oi) (hsel : ∀ (j : Nat) (o : Oper) cs b, ops[j]? = some o → o.op ≠ .select cs b)
    (hQ : ∀ c a w, Q (.panic c) (a.put oi.dst v) w → Q (.panic c) a w) (n : Nat) :
    ∀ (fuel : Nat) (listed : Array Bool) (a : Act) (w : World),
      (∀ j oj, ops[j]? = some oj → j ≠ i → listed.getD j true = false → (∀ e ∈ oj.after, Region.binds md e = true → e.on ≠ i) → oi.apart ops oj = true) →
      ListedClosed md ops listed → (∀ d ∈ ds, listed.getD d true = false → Region.reachB md ops i n d = true) →
      i ∈ Region.ready md ops listed → YieldsIf P ops S oi v a → S w →
      wpAnyLast P md ops Q S ds fuel (listed.setIfInBounds i true) (a.put oi.dst v) w → wpAnyLast P md ops Q S ds (fuel + 1) listed a w := by
  intro fuel
  induction fuel with
  | zero =>
    intro listed a w _ _ _ hr hy hS H
    refine ⟨fun h => (by rw [h] at hr; cases hr), fun j hj => ?_⟩
    by_cases hji : j = i
    · subst hji; exact hy.wpOp hi hS ⟨fun _ h => h, H⟩
    · have := ready_mono hj hji
      rw [H.1] at this
      cases this
  | succ fuel ih =>
    intro listed a w hfree hc hd hr hy hS H
    refine ⟨fun h => (by rw [h] at hr; cases hr), fun j hj => ?_⟩
    by_cases hji : j = i
    · subst hji; exact hy.wpOp hi hS ⟨fun _ h => h, H⟩
    · have h1 := H.2 j (ready_mono hj hji)
      obtain ⟨hjun, oj, hoj, hall⟩ := mem_ready.1 hj
      have hiun := (mem_ready.1 hr).1
      have hnot : ∀ e ∈ oj.after, Region.binds md e = true → e.on ≠ i := fun e he hb heq => by
        have h1 := hall e he hb
        rw [heq] at h1
        rcases Nat.lt_or_ge i listed.size with h' | h'
        · simp [h'] at hiun h1; rw [hiun] at h1; cases h1
        · simp [Array.getElem?_eq_none h'] at h1
      have hjd : j ∉ ds := fun hm => Region.reach_not_ready hc (hd j hm hjun) hiun hj
      have h2 := wpOp_putIf hoj (hfree j oj hoj hji hjun hnot) (fun cs b => hsel i oi cs b hi) (fun cs b => hsel j oj cs b hoj) hQ hy h1
      have hfree' : ∀ k ok, ops[k]? = some ok → k ≠ i → (listed.setIfInBounds j true).getD k true = false →
          (∀ e ∈ ok.after, Region.binds md e = true → e.on ≠ i) → oi.apart ops ok = true := fun k ok hk hki hun hno => by
        refine hfree k ok hk hki ?_ hno
        by_cases hjk : j = k
        · subst hjk; exact hjun
        · rw [getD_set_ne true hjk] at hun; exact hun
      have hd' : ∀ d ∈ ds, (listed.setIfInBounds j true).getD d true = false → Region.reachB md ops i n d = true := fun d hm hun => by
        refine hd d hm ?_
        by_cases hjk : j = d
        · subst hjk; exact hjun
        · rw [getD_set_ne true hjk] at hun; exact hun
      refine wpOp_mono (fun a' w' h3 => ⟨h3.2.1, ih (listed.setIfInBounds j true) a' w' hfree' (hc.set hj) hd' (ready_mono hr (Ne.symm hji)) h3.1 (h3.2.1 hjd hS) ?_⟩) h2
      rw [Array.setIfInBounds_comm _ _ hji]
      exact h3.2.2
theorem wpAnyLast_any {i : Nat} {oi : Oper} {v : Value} (hi : ops[i]? = some oi) (hsel : ∀ (j : Nat) (o : Oper) cs b, ops[j]? = some o → o.op ≠ .select cs b)
    (hQ : ∀ c a w, Q (.panic c) (a.put oi.dst v) w → Q (.panic c) a w) :
    ∀ (fuel : Nat) (listed : Array Bool) (a : Act) (w : World),
      (∀ j oj, ops[j]? = some oj → j ≠ i → listed.getD j true = false → (∀ e ∈ oj.after, Region.binds md e = true → e.on ≠ i) → oi.apart ops oj = true) →
      i ∈ Region.ready md ops listed → Yields P ops oi v a →
      wpAnyLast P md ops Q S ds fuel (listed.setIfInBounds i true) (a.put oi.dst v) w → wpAnyLast P md ops Q S ds (fuel + 1) listed a w := by
  intro fuel
  induction fuel with
  | zero =>
    intro listed a w _ hr hy H
    refine ⟨fun h => (by rw [h] at hr; cases hr), fun j hj => ?_⟩
    by_cases hji : j = i
    · subst hji; exact (hy.yieldsIf (S := fun _ => True)).wpOp hi trivial ⟨fun _ h => h, H⟩
    · have := ready_mono hj hji
      rw [H.1] at this
      cases this
  | succ fuel ih =>
    intro listed a w hfree hr hy H
    refine ⟨fun h => (by rw [h] at hr; cases hr), fun j hj => ?_⟩
    by_cases hji : j = i
    · subst hji; exact (hy.yieldsIf (S := fun _ => True)).wpOp hi trivial ⟨fun _ h => h, H⟩
    · have h1 := H.2 j (ready_mono hj hji)
      obtain ⟨hjun, oj, hoj, hall⟩ := mem_ready.1 hj
      have hiun := (mem_ready.1 hr).1
      have hnot : ∀ e ∈ oj.after, Region.binds md e = true → e.on ≠ i := fun e he hb heq => by
        have h1 := hall e he hb
        rw [heq] at h1
        rcases Nat.lt_or_ge i listed.size with h' | h'
        · simp [h'] at hiun h1; rw [hiun] at h1; cases h1
        · simp [Array.getElem?_eq_none h'] at h1
      have h2 := wpOp_put hoj (hfree j oj hoj hji hjun hnot) (fun cs b => hsel i oi cs b hi) (fun cs b => hsel j oj cs b hoj) hQ hy h1
      have hfree' : ∀ k ok, ops[k]? = some ok → k ≠ i → (listed.setIfInBounds j true).getD k true = false →
          (∀ e ∈ ok.after, Region.binds md e = true → e.on ≠ i) → oi.apart ops ok = true := fun k ok hk hki hun hno => by
        refine hfree k ok hk hki ?_ hno
        by_cases hjk : j = k
        · subst hjk; exact hjun
        · rw [getD_set_ne true hjk] at hun; exact hun
      refine wpOp_mono (fun a' w' h3 => ⟨h3.2.1, ih (listed.setIfInBounds j true) a' w' hfree' (ready_mono hr (Ne.symm hji)) h3.1 ?_⟩) h2
      rw [Array.setIfInBounds_comm _ _ hji]
      exact h3.2.2
theorem wpAnyLast_take {i : Nat} {oi : Oper} {v : Value} {fuel : Nat} {listed : Array Bool} {a : Act} {w : World} (hi : ops[i]? = some oi)
  (hs : Region.noSelect ops = true) (hf : Region.free md ops listed i = true) (hr : (Region.ready md ops listed).contains i = true)
  (hc : Region.closedB md ops listed = true) (hl : Region.lastB md ops listed ds i = true)
  (hQ : ∀ c a w, Q (.panic c) (a.put oi.dst v) w → Q (.panic c) a w) (hy : YieldsIf P ops S oi v a) (hS : S w)
  (h : wpAnyLast P md ops Q S ds fuel (listed.setIfInBounds i true) (a.put oi.dst v) w) : wpAnyLast P md ops Q S ds (fuel + 1) listed a w :=
 wpAnyLast_first hi (Region.noSelect_spec hs) hQ ops.size fuel listed a w (Region.free_spec hi hf) (Region.closedB_spec hc)
  (fun d hm hun => by have := List.all_eq_true.1 hl d hm; rw [hun] at this; simpa using this) (by simpa using hr) hy hS h
theorem wpAnyLast_all {rs : List Nat} {fuel : Nat} {listed : Array Bool} {a : Act} {w : World} (hr : Region.ready md ops listed = rs) (hne : rs ≠ [])
  (h : ∀ i ∈ rs, wpOp P ops Q i (fun a' w' => (i ∉ ds → S w → S w') ∧ wpAnyLast P md ops Q S ds fuel (listed.setIfInBounds i true) a' w') a w) : wpAnyLast P md ops Q S ds (fuel + 1) listed a w :=
 ⟨fun h0 => absurd (hr ▸ h0) hne, hr ▸ h⟩
theorem wpAnyLast_done {listed : Array Bool} {a : Act} {w : World} (hr : Region.ready md ops listed = []) (h : Q .normal a w) :
  ∀ fuel, wpAnyLast P md ops Q S ds fuel listed a w
 | 0 => ⟨hr, h⟩
 | _ + 1 => ⟨fun _ => h, by rw [hr]; simp⟩
theorem wp_region_last {id : Nat} {a : Act} {w : World} (hm : P.follows .mixedOrders = true)
  (h : wpAnyLast P .any ops Q S ds ops.size (Array.replicate ops.size false) a { w with drawn := w.drawn + 1 }) : (Code.region id ops true).wp P Q a w :=
 wp_region_any hm (wpAny_of_last _ _ _ _ h)
end
section
variable {P : Program} {ops : Array Oper} {Q : Exit → Act → World → Prop} {md : Region.Mode} {S : World → Prop} {ds : List Nat}
def AllReadyL (P : Program) (md : Region.Mode) (ops : Array Oper) (Q : Exit → Act → World → Prop) (S : World → Prop) (ds : List Nat) (fuel : Nat) (listed : Array Bool) (a : Act) (w : World) (rs : List Nat) : Prop :=
 ∀ i ∈ rs, wpOp P ops Q i (fun a' w' => (i ∉ ds → S w → S w') ∧ wpAnyLast P md ops Q S ds fuel (listed.setIfInBounds i true) a' w') a w
theorem AllReadyL.nil {fuel : Nat} {listed : Array Bool} {a : Act} {w : World} : AllReadyL P md ops Q S ds fuel listed a w [] := fun _ h => by cases h
theorem AllReadyL.cons_last {fuel : Nat} {listed : Array Bool} {a : Act} {w : World} {i : Nat} {o : Oper} {rs : List Nat} (ho : ops[i]? = some o) (hd : i ∈ ds)
  (h : ∀ K' : Act → World → Prop, Shut (∀ a w, wpAnyLast P md ops Q S ds fuel (listed.setIfInBounds i true) a w → K' a w) → if Region.wanted o (yielded ops a.tmps) = true then Oper.wp P o a w K' Q else K' (a.put o.dst undef) w)
  (hs : AllReadyL P md ops Q S ds fuel listed a w rs) : AllReadyL P md ops Q S ds fuel listed a w (i :: rs) := fun j hj => by
 rcases List.mem_cons.1 hj with rfl | hj
 ·exact wpOp_step ho (fun K' hK => h K' (fun a w hW => hK a w ⟨fun hn => absurd hd hn, hW⟩))
 ·exact hs j hj
theorem wpAnyLast_ready {rs : List Nat} {fuel : Nat} {listed : Array Bool} {a : Act} {w : World} (hr : Region.ready md ops listed = rs) (hne : rs ≠ [])
  (h : AllReadyL P md ops Q S ds fuel listed a w rs) : wpAnyLast P md ops Q S ds (fuel + 1) listed a w := wpAnyLast_all hr hne h
theorem start_ {id n : Nat} {a : Act} {w : World} (l : Array Bool) (hm : P.follows .mixedOrders = true) (hn : ops.size = n) (hl : Array.replicate n false = l) (hS : S w.drew)
  (h : S w.drew → wpAnyLast P .any ops Q S ds n l a w.drew) : (Code.region id ops true).wp P Q a w := by
 subst hn
 subst hl
 exact wp_region_last hm (h hS)
def takeB (md : Region.Mode) (ops : Array Oper) (ds : List Nat) (l l' : Array Bool) (i : Nat) : Bool :=
 Region.noSelect ops && Region.free md ops l i && (Region.ready md ops l).contains i && Region.closedB md ops l && Region.lastB md ops l ds i && (l.setIfInBounds i true == l')
theorem take_ {i : Nat} {N : Option Tmp} {oi : Oper} {v : Value} {fuel : Nat} {l : Array Bool} {a : Act} {w : World} (l' : Array Bool) (hi : ops[i]? = some oi) (hN : oi.dst = N) (hc : takeB md ops ds l l' i = true)
  (hQ : ∀ c a w, Q (.panic c) (a.put oi.dst v) w → Q (.panic c) a w) (hy : YieldsIf P ops S oi v a) (hS : S w) {a' : Act} (ha : a.put N v = a')
  (h : wpAnyLast P md ops Q S ds fuel l' a' w) : wpAnyLast P md ops Q S ds (fuel + 1) l a w := by
 subst ha
 subst hN
 simp only [takeB, Bool.and_eq_true, beq_iff_eq] at hc
 obtain ⟨⟨⟨⟨⟨h1, h2⟩, h3⟩, h4⟩, h5⟩, h6⟩ := hc
 subst h6
 exact wpAnyLast_take hi h1 h2 h3 h4 h5 hQ hy hS h
def anyB (md : Region.Mode) (ops : Array Oper) (l l' : Array Bool) (i : Nat) : Bool :=
 Region.noSelect ops && Region.free md ops l i && (Region.ready md ops l).contains i && (l.setIfInBounds i true == l')
theorem pure_ {i : Nat} {N : Option Tmp} {oi : Oper} {v : Value} {fuel : Nat} {l : Array Bool} {a : Act} {w : World} (l' : Array Bool) (hi : ops[i]? = some oi) (hN : oi.dst = N) (hc : anyB md ops l l' i = true)
  (hQ : ∀ c a w, Q (.panic c) (a.put oi.dst v) w → Q (.panic c) a w) (hy : Yields P ops oi v a) {a' : Act} (ha : a.put N v = a')
  (h : wpAnyLast P md ops Q S ds fuel l' a' w) : wpAnyLast P md ops Q S ds (fuel + 1) l a w := by
 subst ha
 subst hN
 simp only [anyB, Bool.and_eq_true, beq_iff_eq] at hc
 obtain ⟨⟨⟨h1, h2⟩, h3⟩, h6⟩ := hc
 subst h6
 exact wpAnyLast_any hi (Region.noSelect_spec h1) hQ fuel l a w (Region.free_spec hi h2) (by simpa using h3) hy h
def readyB (md : Region.Mode) (ops : Array Oper) (l l' : Array Bool) (i : Nat) : Bool := (Region.ready md ops l == [i]) && (l.setIfInBounds i true == l')
theorem last_ {i : Nat} {N : Option Tmp} {oi : Oper} {fuel : Nat} {l : Array Bool} {a : Act} {w : World} (l' : Array Bool) (hi : ops[i]? = some oi) (hN : oi.dst = N) (hc : readyB md ops l l' i = true) (hd : i ∈ ds)
  (h : ∀ K : Act → World → Prop, Shut (∀ a' w', wpAnyLast P md ops Q S ds fuel l' a' w' → K a' w') → if Region.wanted oi (yielded ops a.tmps) = true then Oper.wp P oi a w K Q else K (a.put N undef) w) :
  wpAnyLast P md ops Q S ds (fuel + 1) l a w := by
 subst hN
 simp only [readyB, Bool.and_eq_true, beq_iff_eq] at hc
 obtain ⟨h1, h2⟩ := hc
 subst h2
 exact wpAnyLast_ready h1 (by simp) (AllReadyL.cons_last hi hd (fun K hK => h K hK) AllReadyL.nil)
theorem done_ {l : Array Bool} {a : Act} {w : World} {n : Nat} (hr : (Region.ready md ops l == []) = true) (h : Q .normal a w) : wpAnyLast P md ops Q S ds n l a w := wpAnyLast_done (by simpa using hr) h n
theorem enters_ {f : FuncId} {fn : Func} (hf : P.funcs[f]? = some fn) (hname : (fn.name == "runtime.NumGoroutine") = false) (hb : fn.body.isSome = true) (args : Array Value) (w : World) : (callFunc f args).run P w = .ok (.enter f args) w := by
 have h1 : fn.name ≠ "runtime.NumGoroutine" := by simpa using hname
 obtain ⟨c, hc⟩ := Option.isSome_iff_exists.1 hb
 simp [callFunc, hf, h1, hc]
theorem goesL_ {rest : List Oper} {oi : Oper} {a : Act} {w : World} (N : Option Tmp) (hd : oi.dst = N) (hg : oi.guard = none) {f : FuncId} {fn : Func} {as_ : Array Operand} {ts : Array TypeId} (hf : P.funcs[f]? = some fn) (hname : (fn.name == "runtime.NumGoroutine") = false) (hb : fn.body.isSome = true) (args : Array Value)
  (hop : oi.op = .call { callee := .value (.func f), args := as_, argTypes := ts }) (hargs : as_.map a.eval = args)
  (h : Calls P f args w fun e w' => ∃ v, e = .returned v ∧ wpList P ops Q rest (a.put N v) w') : wpList P ops Q (oi :: rest) a w := by
 refine wpList_plain hg fun K hK => ?_
 have he := enters_ hf hname hb args w
 have hrun : (execOp a.eval oi).run P w = .ok (.enter f args) w := by
  unfold execOp
  simp [hop, resolve, Deferred.ofValue, invoke, Act.eval, hargs, he]
 unfold Oper.wp
 rw [hrun, Oper.upon_enter]
 refine h.mono fun e w'' hh => ?_
 obtain ⟨v, rfl, hk⟩ := hh
 subst hd
 exact hK _ _ hk
theorem skip_ {oi : Oper} {a : Act} {w w1 : World} {K : Act → World → Prop} (hw : Region.wanted oi (yielded ops a.tmps) = true) (hN : oi.dst = none) (hrun : (execOp a.eval oi).run P w = .ok .skip w1)
  (h : K a w1) : if Region.wanted oi (yielded ops a.tmps) = true then Oper.wp P oi a w K Q else K (a.put none undef) w := by
 rw [if_pos hw]
 unfold Oper.wp
 rw [hrun]
 show K (a.put oi.dst undef) w1
 rw [hN]
 exact h
theorem i64_w (n : Int) : IntKind.i64.wrap n = Go.RowKit.wrap64 n := by unfold Go.RowKit.wrap64; exact IntKind.wrap_i64 n
theorem i32_w (n : Int) : IntKind.i32.wrap n = Go.RowKit.wrap32 n := by unfold Go.RowKit.wrap32; exact IntKind.wrap_i32 n
end
end Go.Proofs.YthemhfloablccaaDoorW.PrintLast
end

section
namespace Go.Proofs.YthemhfloablccaaDoorW.PrintWords
open Go.RowKit
namespace Kd
def tag {α : Type} (f : Nat → Nat) (d : Kd α) : Kd (α × Nat) where
 sz := d.sz
 E := d.E
 K := fun w x cs => d.K w x.1 cs
 M := fun w base ok x cs => d.M w base (fun k => ok k ∧ f k = x.2) x.1 cs
 K_len := fun h => d.K_len h
 K_one := fun h => d.K_one h
 K_below := fun hb h => d.K_below hb h
 K_of_M := fun h => d.K_of_M h
 M_mono := fun hok h => d.M_mono (fun k hk => ⟨hok k hk.1, hk.2⟩) h
 M_bound := fun h => d.M_mono (fun _ hk => ⟨⟨hk.1.1, hk.2⟩, hk.1.2⟩) (d.M_bound h)
 M_move := fun hm h => d.M_move (fun k hk => hm k hk.1) h
 M_lower := fun hb h => d.M_lower hb h
def raw (sz : Nat) : Kd (List Value) where
 sz := sz
 E := []
 K := fun _ x cs => cs = x ∧ cs.length = sz ∧ ∀ u ∈ cs, u.oneCell' = true
 M := fun _ _ _ x cs => cs = x ∧ cs.length = sz ∧ ∀ u ∈ cs, u.oneCell' = true
 K_len := fun h => h.2.1
 K_one := fun h => h.2.2
 K_below := fun _ h => h
 K_of_M := fun h => h
 M_mono := fun _ h => h
 M_bound := fun h => h
 M_move := fun _ h => h
 M_lower := fun _ h => h
def S {α : Type} (d : Kd α) (e : Nat) (w : World) (base : Nat) (ok : Nat → Prop) (v : Value) (xs : List α) : Prop := ∃ f, (tag f d).R e w base ok v xs.zipIdx
section
variable {α β : Type} {d : Kd α} {d' : Kd β} {e e' : Nat} {w w1 W : World} {base b : Nat} {ok ok' okv oku : Nat → Prop} {u v : Value} {xs : List α} {ys : List β}
end
section
variable {α β : Type} {d : Kd α} {d' : Kd β} {e e' g : Nat} {w w1 W : World} {base b : Nat} {ok ok' okv oku : Nat → Prop} {u v : Value} {xs : List α} {ys : List β}
end
section
open Classical in
variable {P : Program} {ops : Array Oper} {rest : List Oper} {o : Oper} {a : Act} {Q : Exit → Act → World → Prop} {Kc : Act → World → Prop} {α : Type}
end
def gap {α : Type} (f : Nat → Nat) (d : Kd α) (i : Nat) (c : List Value) : Kd (α × Nat) where
 sz := d.sz
 E := d.E
 K := fun w x cs => (x.2 = i → cs = c ∧ cs.length = d.sz ∧ ∀ u ∈ cs, u.oneCell' = true) ∧ (x.2 ≠ i → d.K w x.1 cs)
 M := fun w base ok x cs => (x.2 = i → cs = c ∧ cs.length = d.sz ∧ ∀ u ∈ cs, u.oneCell' = true) ∧ (x.2 ≠ i → d.M w base (fun k => ok k ∧ f k = x.2) x.1 cs)
 K_len := fun {w x cs} h => by
  by_cases hx : x.2 = i
  ·exact (h.1 hx).2.1
  ·exact d.K_len (h.2 hx)
 K_one := fun {w x cs} h => by
  by_cases hx : x.2 = i
  ·exact (h.1 hx).2.2
  ·exact d.K_one (h.2 hx)
 K_below := fun hb h => ⟨h.1, fun hx => d.K_below hb (h.2 hx)⟩
 K_of_M := fun h => ⟨h.1, fun hx => d.K_of_M (h.2 hx)⟩
 M_mono := fun hok h => ⟨h.1, fun hx => d.M_mono (fun k hk => ⟨hok k hk.1, hk.2⟩) (h.2 hx)⟩
 M_bound := fun h => ⟨h.1, fun hx => d.M_mono (fun _ hk => ⟨⟨hk.1.1, hk.2⟩, hk.1.2⟩) (d.M_bound (h.2 hx))⟩
 M_move := fun hm h => ⟨h.1, fun hx => d.M_move (fun k hk => hm k hk.1) (h.2 hx)⟩
 M_lower := fun hb h => ⟨h.1, fun hx => d.M_lower hb (h.2 hx)⟩
def H {α : Type} (d : Kd α) (e : Nat) (w : World) (base : Nat) (ok : Nat → Prop) (v : Value) (xs : List α) (i : Int) (oki : Nat → Prop) (c : List Value) : Prop :=
 (∀ k, oki k → ok k) ∧ ∃ f, (gap f d i.toNat c).R e w base (fun k => ok k ∧ ¬ oki k) v xs.zipIdx
section
variable {α β : Type} {d : Kd α} {e e' g n cap : Nat} {w w1 W : World} {base : Nat} {ok ok' oki okp : Nat → Prop} {u v : Value} {xs : List α} {i : Int} {c : List Value}
open Classical in
end
section
variable {P : Program} {ops : Array Oper} {rest : List Oper} {o : Oper} {a : Act} {Q : Exit → Act → World → Prop} {α : Type}
end
end Kd
end Go.Proofs.YthemhfloablccaaDoorW.PrintWords
end

section
namespace Go.Proofs.YthemhfloablccaaDoorW.PrintWords
open Go.RowKit
def Kept (w W : World) (S : Nat → Prop) : Prop := w.heap.size ≤ W.heap.size ∧ ∀ i, i < w.heap.size → ¬ S i → W.heap[i]? = w.heap[i]?
section
variable {w W W2 : World} {S S2 S' : Nat → Prop}
theorem Kept.mono (h : Kept w W S) (hs : ∀ k, S k → S' k) : Kept w W S' := ⟨h.1, fun i hi hn => h.2 i hi (fun hk => hn (hs i hk))⟩
end
namespace Kd
section
variable {α : Type} {d : Kd α} {e base n c : Nat} {ok oki S S2 : Nat → Prop} {w w0 W W1 W2 : World} {v : Value} {A : Option Addr} {xs : List α} {i : Int} {cs : List Value}
end
end Kd
end Go.Proofs.YthemhfloablccaaDoorW.PrintWords
end

section
namespace Go.Proofs.YthemhfloablccaaDoorW.PrintWords
open Go.RowKit
def Foot (P : World → Prop) (W : World) (ok : Nat → Prop) : Prop := ∀ W' : World, (∀ k, ok k → k < W.heap.size → W'.heap[k]? = W.heap[k]?) → P W'
namespace Foot
variable {P Q : World → Prop} {W W1 : World} {ok ok' : Nat → Prop}
theorem mono (h : Foot P W ok) (hok : ∀ k, ok k → ok' k) : Foot P W ok' := fun W' hW => h W' (fun k hk hlt => hW k (hok k hk) hlt)
end Foot
namespace Kd
def F {α : Type} (d : Kd α) (W : World) (ok : Nat → Prop) (A : Option Addr) (n : Nat) (xs : List α) : Prop := Foot (fun W => d.C W A n xs) W ok
def FK {α : Type} (d : Kd α) (W : World) (ok : Nat → Prop) (x : α) (c : List Value) : Prop := Foot (fun W => d.K W x c) W ok
section
variable {α β : Type} {d : Kd α} {e base n n' cc g N : Nat} {ok ok' okp S : Nat → Prop} {w w0 w1 W W1 : World} {A A' : Option Addr} {u v v1 : Value} {xs : List α} {xs' : List β} {d' : Kd β} {x : α} {c : List Value}
end
end Kd
end Go.Proofs.YthemhfloablccaaDoorW.PrintWords
end

section
namespace Go.Proofs.YthemhfloablccaaDoorW.PrintWords
open Go.RowKit
namespace Kd
section
variable {α : Type} {d : Kd α} {e base n cc g : Nat} {ok ok' okp S : Nat → Prop} {w w1 W W1 : World} {A : Option Addr} {u v v1 : Value} {xs : List α} {x : α} {c : List Value}
def N {α : Type} (d : Kd α) (e : Nat) (w : World) (base : Nat) (ok : Nat → Prop) (v : Value) (xs : List α) : Prop :=
 (∀ k, v.ownBlock = some k → ok k) ∧ ∃ rows : List (List Value), rows.length = xs.length ∧ (raw d.sz).R e w base (fun k => some k = v.ownBlock) v rows ∧ ∀ (j : Nat) (x : α) (c : List Value), xs[j]? = some x → rows[j]? = some c → FK d w (fun k => ok k ∧ some k ≠ v.ownBlock) x c
end
end Kd
end Go.Proofs.YthemhfloablccaaDoorW.PrintWords
end

section
namespace Go.Proofs.YthemhfloablccaaDoorW.PrintMore
open Go.RowKit Go.Proofs.YthemhfloablccaaDoorW.PrintWords
namespace Kd
open Go.Proofs.YthemhfloablccaaDoorW.PrintWords.Kd
end Kd
namespace Kd
open Go.Proofs.YthemhfloablccaaDoorW.PrintWords.Kd
section
variable {α : Type} {d : Kd α} {e base g N : Nat} {ok : Nat → Prop} {W w1 : World} {u v : Value} {xs : List α}
end
end Kd
theorem max2_int (k k' : IntKind) (x y : Int) : Builtin.max2 (.int k x) (.int k' y) = pure (.int k (if x < y then y else x)) := by simp only [Builtin.max2, gt_iff_lt]
theorem min2_int (k k' : IntKind) (x y : Int) : Builtin.min2 (.int k x) (.int k' y) = pure (.int k (if y < x then y else x)) := by simp only [Builtin.min2]
theorem max_two (ats : Array TypeId) (ty : TypeId) (a b : Value) : Builtin.max_ ats ty #[a, b] = (Builtin.max2 a b >>= fun s => pure s) := by simp only [Builtin.max_, List.foldlM_cons, List.foldlM_nil]
theorem min_two (ats : Array TypeId) (ty : TypeId) (a b : Value) : Builtin.min_ ats ty #[a, b] = (Builtin.min2 a b >>= fun s => pure s) := by simp only [Builtin.min_, List.foldlM_cons, List.foldlM_nil]
theorem max_three (ats : Array TypeId) (ty : TypeId) (a b c : Value) : Builtin.max_ ats ty #[a, b, c] = (Builtin.max2 a b >>= fun s => Builtin.max2 s c >>= fun s => pure s) := by simp only [Builtin.max_, List.foldlM_cons, List.foldlM_nil]
theorem min_three (ats : Array TypeId) (ty : TypeId) (a b c : Value) : Builtin.min_ ats ty #[a, b, c] = (Builtin.min2 a b >>= fun s => Builtin.min2 s c >>= fun s => pure s) := by simp only [Builtin.min_, List.foldlM_cons, List.foldlM_nil]
theorem max_four (ats : Array TypeId) (ty : TypeId) (a b c d : Value) : Builtin.max_ ats ty #[a, b, c, d] = (Builtin.max2 a b >>= fun s => Builtin.max2 s c >>= fun s => Builtin.max2 s d >>= fun s => pure s) := by simp only [Builtin.max_, List.foldlM_cons, List.foldlM_nil]
theorem min_four (ats : Array TypeId) (ty : TypeId) (a b c d : Value) : Builtin.min_ ats ty #[a, b, c, d] = (Builtin.min2 a b >>= fun s => Builtin.min2 s c >>= fun s => Builtin.min2 s d >>= fun s => pure s) := by simp only [Builtin.min_, List.foldlM_cons, List.foldlM_nil]
end Go.Proofs.YthemhfloablccaaDoorW.PrintMore
namespace Go.Proofs.YthemhfloablccaaDoorW.PrintWords
open Go.RowKit
section
variable {P : Program} {ops : Array Oper} {rest : List Oper} {o : Oper} {a : Act} {Q : Exit → Act → World → Prop} {W : World}
theorem gate_callee {f : FuncId} {as_ : Array Operand} {ts : Array TypeId} (_ho : o.op = .call { callee := .value (.func f), args := as_, argTypes := ts }) (h : wpList P ops Q (o :: rest) a W) : wpList P ops Q (o :: rest) a W := h
theorem gate_builtin {b : Builtin} {xs : Array Operand} {ts : Array TypeId} (_ho : o.op = .call { callee := .builtin b, args := xs, argTypes := ts }) (h : wpList P ops Q (o :: rest) a W) : wpList P ops Q (o :: rest) a W := h
end
namespace Kd
section
variable {α : Type} {d : Kd α} {e base : Nat} {ok : Nat → Prop} {W w1 : World} {v : Value} {xs : List α}
end
section
variable {α : Type} {d : Kd α} {e base g n cap : Nat} {ok oki okp : Nat → Prop} {W : World} {xs : List α} {i : Int} {c : List Value}
end
section
variable {α : Type} {d : Kd α} {e base b b' g N : Nat} {ok ok1 : Nat → Prop} {W W2 w1 : World} {u v : Value} {xs ys : List α} {S : Nat → Prop}
end
end Kd
end Go.Proofs.YthemhfloablccaaDoorW.PrintWords
namespace Go.Proofs.YthemhfloablccaaDoorW.PrintWords
open Go.RowKit
namespace Kd
section
variable {α β : Type} {d : Kd α} {e base base' n m c g N' lo hi : Nat} {ok ok' S : Nat → Prop} {w W w1 : World} {A : Option Addr} {ad : Addr} {u v v1 : Value} {xs : List α}
end
end Kd
end Go.Proofs.YthemhfloablccaaDoorW.PrintWords
end

section
namespace Go.Proofs.YthemhfloablccaaDoorW.PrintWords
open Go.RowKit
section
variable {P : Program} {d : Nat} {xs ys : Array Value} {f : Field} {fs : List Field} {a b : Value} {r s : Bool} {w : World}
theorem eqf_last (hn : (f.name == "_") = false) (ha : (part f.type xs f.offset).run P w = .ok a w) (hb : (part f.type ys f.offset).run P w = .ok b w) (he : (Op.equalIn d f.type a b).run P w = .ok r w) : (Op.eqFields d xs ys [f]).run P w = .ok r w := by
 have hn' : f.name ≠ "_" := by simpa using hn
 simp only [Op.eqFields, if_pos hn', Sem.run_bind, ha, hb, he, Result.andThen_ok]
 cases r <;> simp
theorem eqf_cons (hn : (f.name == "_") = false) (ha : (part f.type xs f.offset).run P w = .ok a w) (hb : (part f.type ys f.offset).run P w = .ok b w) (he : (Op.equalIn d f.type a b).run P w = .ok r w) (hr : (Op.eqFields d xs ys fs).run P w = .ok s w) : (Op.eqFields d xs ys (f :: fs)).run P w = .ok (r && s) w := by
 have hn' : f.name ≠ "_" := by simpa using hn
 rw [Op.eqFields]
 simp only [if_pos hn', Sem.run_bind, ha, hb, he, Result.andThen_ok]
 cases r
 ·simp
 ·simpa using hr
theorem eqA_of {t : TypeId} {fs : Array Field} (hu : P.underlying t = some (.struct fs)) (hp : P.stoodInHeld t = false) (h : (Op.eqFields d xs ys fs.toList).run P w = .ok r w) : (Op.equalIn (d + 1) t (.agg xs) (.agg ys)).run P w = .ok r w := by
 have hf : P.fieldsOf t = fs := by simp [Program.fieldsOf, hu]
 rw [run_equalIn_struct (P := P) w d t xs ys (by rw [hf]; exact hu) hp, hf]
 exact h
end
end Go.Proofs.YthemhfloablccaaDoorW.PrintWords
end

section
namespace Go.Proofs.YthemhfloablccaaDoorW.PrintWords
theorem Reps.one {α : Type} {R : α → List Value → Prop} {ps : List α} {cs : List Value} {p : α} {v : Value} (hp : R p [v]) (h : Reps R 1 ps cs) : Reps R 1 (p :: ps) (v :: cs) := by
  refine ⟨by simp [h.1], fun j q hq => ?_⟩
  cases j with
  | zero =>
    simp only [List.getElem?_cons_zero, Option.some.injEq] at hq
    subst hq
    simpa using hp
  | succ j =>
    simp only [List.getElem?_cons_succ] at hq
    have h1 := h.2 j q hq
    simpa [Nat.mul_one] using h1
end Go.Proofs.YthemhfloablccaaDoorW.PrintWords
end

section
namespace Go.Proofs.YthemhfloablccaaDoorW.PrintWords
open Go.RowKit
section
variable {P : Program} {ops : Array Oper} {rest : List Oper} {o : Oper} {a : Act} {Q : Exit → Act → World → Prop} {W : World}
theorem gate_guard (hw : Region.wanted o (yielded ops a.tmps) = true) (h : wpList P ops Q ({ o with guard := none } :: rest) a W) : wpList P ops Q (o :: rest) a W := by
 have h1 : Region.wanted { o with guard := none } (yielded ops a.tmps) = true := rfl
 unfold wpList at h ⊢
 rw [if_pos h1] at h
 rw [if_pos hw]
 exact h
end
end Go.Proofs.YthemhfloablccaaDoorW.PrintWords
end

section
namespace Go.Proofs.YthemhfloablccaaDoor.Pr
open Go.RowKit Go.Proofs.YthemhfloablccaaDoorW.PrintWords Go.Proofs.YthemhfloablccaaDoorW.PrintLast
theorem hb_ {p : Prop} (h : p := by repeat (first | (with_reducible first | exact HB.out | apply below_alloc | apply pw_below_drewN | apply below_drew1) | exact HB.out)) : p := h
theorem rz_ {p : Prop} (h : p := by first | rfl | (simp; done) | (simp [*]; done)) : p := h
theorem as_' {p : Prop} (h : p := by first | (with_reducible assumption) | assumption) : p := h
theorem ew_ {p : Prop} (h : p := by first | rfl | (simp [errW_none, errW_some] <;> rfl) | (simp [*, errW_none, errW_some] <;> rfl)) : p := h
theorem dz_ {p : Prop} (h : p := by repeat (first | exact Drawn0.refl _ | apply Drawn0.step)) : p := h
theorem ra_ {p q : Prop} (h : q) (f : q → p := by intro h_; (with_reducible repeat (first | apply Kd.R_alloc | apply Kd.R_drewN | apply Kd.R_drew)); exact h_) : p := f h
theorem ca_ {p q : Prop} (h : q) (f : q → p := by intro h_; repeat (first | exact h_ | (with_reducible refine Kd.C_alloc ?_ _) | (with_reducible refine Kd.C_drewN ?_ _) | (with_reducible refine Kd.C_drew ?_))) : p := f h
theorem ro_ {k : IntKind} {w : World} {b : Nat} {o : Nat → Prop} {x : Int} {ps : List Int} {cs : List Value} (h : Reps (Kd.M (Kd.int k) w b o) 1 ps cs) : Reps (Kd.M (Kd.int k) w b o) 1 (x :: ps) (.int k x :: cs) := Reps.one rfl h
theorem gl_ {P : Program} {ops : Array Oper} {Q : Exit → Act → World → Prop} {rest : List Oper} {oi : Oper} {a : Act} {w : World} (n : Nat) {f : FuncId} {fn : Func} {as_ : Array Operand} {ts : Array TypeId} (hf : P.funcs[f]? = some fn) (args : Array Value)
    (h : Calls P f args w fun e w' => ∃ v, e = .returned v ∧ wpList P ops Q rest (a.put (some n) v) w') (hd : oi.dst = some n := by rfl) (hg : oi.guard = none := by rfl) (hname : (fn.name == "runtime.NumGoroutine") = false := by kernel_rfl) (hb : fn.body.isSome = true := by rfl)
    (hop : oi.op = .call { callee := .value (.func f), args := as_, argTypes := ts } := by rfl) (hargs : as_.map a.eval = args := by ((try simp only [List.map_toArray, List.map_cons, List.map_nil]); first | done | rfl | (simp only [List.length_drop, List.length_take]; rfl))) : wpList P ops Q (oi :: rest) a w := goesL_ (some n) hd hg hf hname hb args hop hargs h
theorem pz_ {P : Program} {ops : Array Oper} {Q : Exit → Act → World → Prop} {md : Region.Mode} {S : World → Prop} {ds : List Nat} {oi : Oper} {v : Value} {fuel : Nat} {l : Array Bool} {a : Act} {w : World} {a' : Act} (i n : Nat)
    (hi : ops[i]? = some oi) (hN : oi.dst = some n) (hc : anyB md ops l (l.setIfInBounds i true) i = true)
    (h : wpAnyLast P md ops Q S ds fuel (l.setIfInBounds i true) a' w) (hQ : ∀ c a w, Q (.panic c) (a.put oi.dst v) w → Q (.panic c) a w := by exact fun _ _ _ h => h)
    (hy : Yields P ops oi v a := by (refine Or.inl ⟨by rfl, ?_⟩; intro w'; go_simp; with_reducible rfl))
    (ha : a.put (some n) v = a' := by (simp only [Act.put, List.setIfInBounds_toArray, List.set_cons_zero, List.set_cons_succ, i64_w, i32_w]; rfl)) : wpAnyLast P md ops Q S ds (fuel + 1) l a w := pure_ _ hi hN hc hQ hy ha h
end Go.Proofs.YthemhfloablccaaDoor.Pr
end
section
namespace Go.Proofs.YthemhfloablccaaDoor.Pr
open Go.ChangeShapes Go.WideShapes Go.Deep Go.RowKit Go.Proofs.YthemhfloablccaaDoorW.PrintWords Go.Proofs.YthemhfloablccaaDoorW.PrintLast Go.Proofs.YthemhfloablccaaDoorW.PrintMore
structure Rd {α : Type} (P : Program) (t : TypeId) (k : Kd α) (Q : α → Prop) : Prop where
 sz : P.cellsOf t = k.sz
 rd : ∀ {H : Type} (enc : TypeId × Value → H) (w : World) (base : Nat) (spare : Nat → Bool) (held : Bool) (fuel : Nat) (cs : List Value) (x : DataW H × List MemPlace), DataW.trod enc P w base spare held fuel t cs = some x → ∃ y, k.K w y cs ∧ Q y
variable {P : Program}
theorem Rd.int {t : TypeId} {k : IntKind} (ht : P.underlying t = some (.int k)) (hc : P.cellsOf t = 1) : Rd P t (Kd.int k) (fun y => (Lit.int k y).wf = true) :=
  ⟨hc, fun enc w base spare held fuel cs x h => by
    obtain ⟨n, rfl, _, hw⟩ := DataW.trod_int ht h
    exact ⟨n, rfl, hw⟩⟩
theorem Rd.bool {t : TypeId} (ht : P.underlying t = some .bool) (hc : P.cellsOf t = 1) : Rd P t Kd.bool (fun _ => True) :=
  ⟨hc, fun enc w base spare held fuel cs x h => by
    obtain ⟨b, rfl, _⟩ := DataW.trod_bool ht h
    exact ⟨b, rfl, trivial⟩⟩
theorem Rd.string {t : TypeId} (ht : P.underlying t = some .string) (hc : P.cellsOf t = 1) : Rd P t Kd.string (fun y => y.size ≤ maxLen) :=
  ⟨hc, fun enc w base spare held fuel cs x h => by
    obtain ⟨s, rfl, _, hs⟩ := DataW.trod_string ht h
    exact ⟨s, rfl, hs⟩⟩
theorem Rd.imp {α : Type} {t : TypeId} {d : Kd α} {Q Q' : α → Prop} (h : Rd P t d Q) (hq : ∀ y, Q y → Q' y) : Rd P t d Q' :=
  ⟨h.sz, fun enc w base spare held fuel cs x hx => by
    obtain ⟨y, hk, h2⟩ := h.rd enc w base spare held fuel cs x hx
    exact ⟨y, hk, hq y h2⟩⟩
theorem list_of {α : Type} {R : Nat → α → Prop} : ∀ (n : Nat), (∀ i, i < n → ∃ y, R i y) → ∃ ys : List α, ys.length = n ∧ ∀ i y, ys[i]? = some y → R i y
  | 0, _ => ⟨[], rfl, fun i y h => by simp at h⟩
  | n + 1, h => by
    obtain ⟨ys, hl, hr⟩ := list_of n (fun i hi => h i (by omega))
    obtain ⟨y, hy⟩ := h n (by omega)
    refine ⟨ys ++ [y], by rw [List.length_append, hl]; rfl, fun i z hz => ?_⟩
    by_cases hi : i < n
    · rw [List.getElem?_append_left (by omega)] at hz
      exact hr i z hz
    · have hi2 : i = n := by
        have := (List.getElem?_eq_some_iff.1 hz).1
        rw [List.length_append, List.length_singleton] at this
        omega
      subst hi2
      rw [List.getElem?_append_right (by omega), hl, Nat.sub_self] at hz
      have : y = z := by simpa using hz
      subst this
      exact hy
theorem Rd.slice {α : Type} {t e : TypeId} {k : Kd α} {Q : α → Prop} (ht : P.underlying t = some (.slice e)) (hc : P.cellsOf t = 1) (h : Rd P e k Q) : Rd P t (Kd.slice e k) (fun ys => (∀ y ∈ ys, Q y) ∧ ys.length ≤ maxLen) :=
  ⟨hc, fun enc w base spare held fuel cs x hx => by
    rcases open_slice ht hx with ⟨rfl, _⟩ | ⟨a, len, cap, m, n, D, Pl, rfl, _, hlc, hcm, hm, _, hi⟩
    · exact ⟨[], ⟨none, 0, rfl, Nat.le_refl _, Kd.C_nil k w⟩, fun y hy => by simp at hy, Nat.zero_le _⟩
    · have hlm : len ≤ m := by rw [hm]; split <;> omega
      obtain ⟨ys, hl, hr⟩ := list_of (R := fun i y => ∃ cs', w.cells? base (a.add (i * P.cellsOf e)) (P.cellsOf e) = some cs' ∧ k.K w y cs' ∧ Q y) len (fun i hil => by
        obtain ⟨cs', hcs, htr⟩ := hi i (by omega)
        obtain ⟨y, hk, hq⟩ := h.rd enc w base spare held n cs' _ htr
        exact ⟨y, cs', hcs, hk, hq⟩)
      refine ⟨ys, ⟨some a, cap, by rw [hl], by omega, ?_⟩, fun y hy => ?_, by omega⟩
      · refine ⟨rfl, by unfold maxLen at hcm; omega, fun _ => ⟨a, rfl, fun j p hp => ?_⟩⟩
        obtain ⟨cs', hcs, hk, _⟩ := hr j p hp
        obtain ⟨_, hcl, hat⟩ := World.cells?_some hcs
        refine ⟨cs', k.K_len hk, hk, fun i u hu => ?_⟩
        have hi2 : i < P.cellsOf e := by
          have := (List.getElem?_eq_some_iff.1 hu).1
          omega
        have := hat i hi2
        rw [Go.Deep.add_add, h.sz] at this
        rw [this]
        exact hu
      · obtain ⟨i, hi2, rfl⟩ := List.getElem_of_mem hy
        obtain ⟨_, _, _, hq⟩ := hr i _ (List.getElem?_eq_getElem hi2)
        exact hq⟩
end Go.Proofs.YthemhfloablccaaDoor.Pr
end

section
namespace Go.Proofs.YthemhfloablccaaDoor.Pr
open Go.RowKit Go.Proofs.YthemhfloablccaaDoorW.PrintWords Go.Proofs.YthemhfloablccaaDoorW.PrintLast
def bys (s : ByteArray) : List Nat := s.data.toList.map UInt8.toNat
def txt (l : List Nat) : ByteArray := ⟨(l.map fun n => UInt8.ofNat n).toArray⟩
theorem bys_length (s : ByteArray) : (bys s).length = s.size := by rw [bys, List.length_map, data_length]
theorem str_nats (l : List Nat) : strOfNums (l.map fun (n : Nat) => (n : Int)) = txt l := by
 unfold strOfNums txt
 rw [List.map_map]
 rfl
end Go.Proofs.YthemhfloablccaaDoor.Pr
end

section
namespace Go.Proofs.YthemhfloablccaaDoor.Pr
open Go.RowKit Go.Proofs.YthemhfloablccaaDoorW.PrintWords Go.Proofs.YthemhfloablccaaDoorW.PrintLast Go.Proofs.YthemhfloablccaaDoorW.PrintMore
attribute [local go_sem] max2_int min2_int max_two min_two max_three min_three max_four min_four
def errW : Option Int → Value
 | none => .nilIface
 | some c => .iface 0 (.int .i64 c)
theorem errW_none : errW none = .nilIface := rfl
theorem errW_some (c : Int) : errW (some c) = .iface 0 (.int .i64 c) := rfl
theorem info5 : (Tryd.prog.info? 5).map (fun i => (i.zero, i.size, i.bytes)) = some (some (.int .u8 0), 1, 1) := by kernel_rfl
theorem info46 : (Tryd.prog.info? 46).map (fun i => (i.zero, i.size, i.bytes)) = some (some (.agg #[(.int .i64 0), (.int .i64 0), (.bool false)]), 3, 24) := by kernel_rfl
structure S46 where
 f0 : Int
 f1 : Int
 f2 : Bool
def z46 : S46 := ⟨(0 : Int), (0 : Int), false⟩
def k46 : Kd S46 := Kd.iso (Kd.pair (Kd.int .i64) (Kd.pair (Kd.int .i64) Kd.bool)) (fun x : S46 => (x.f0, x.f1, x.f2))
theorem k46_open {w : World} {x : S46} {cs : List Value} (h : k46.K w x cs) : cs = [.int .i64 x.f0, .int .i64 x.f1, .bool x.f2] := by
 obtain ⟨_, _, rfl, rfl, ⟨_, _, rfl, rfl, rfl⟩⟩ := h; exact rfl
theorem k46_openM {w : World} {base : Nat} {ok : Nat → Prop} {x : S46} {cs : List Value} (h : k46.M w base ok x cs) : cs = [.int .i64 x.f0, .int .i64 x.f1, .bool x.f2] := by
 obtain ⟨_, _, rfl, rfl, ⟨_, _, rfl, rfl, rfl⟩⟩ := h; exact rfl
theorem k46_mkM (w : World) (base : Nat) (ok : Nat → Prop) (x : S46)  : k46.M w base ok x [.int .i64 x.f0, .int .i64 x.f1, .bool x.f2] := ⟨[.int .i64 x.f0], [.int .i64 x.f1, .bool x.f2], rfl, rfl, ⟨[.int .i64 x.f1], [.bool x.f2], rfl, rfl, rfl⟩⟩
def rd_T46 (xs : List S46) (i : Int) : S46 := xs.getD i.toNat z46
theorem at_T46 {w : World} {A : Option Addr} {n : Nat} {xs : List S46} (h : Kd.C k46 w A n xs) (i : Int) (h0 : 0 ≤ i) (h1 : i < n) : ∃ ad , A = some ad ∧ w.cell? (ad.add (i.toNat * 3)) = some (.int .i64 (rd_T46 xs i).f0) ∧ w.cell? ⟨(ad.add (i.toNat * 3)).block, (ad.add (i.toNat * 3)).off + 1, none⟩ = some (.int .i64 (rd_T46 xs i).f1) ∧ w.cell? ⟨(ad.add (i.toNat * 3)).block, (ad.add (i.toNat * 3)).off + 2, none⟩ = some (.bool (rd_T46 xs i).f2) := by
 obtain ⟨ad, c, e, _, hK, hc0⟩ := Kd.C_get h z46 i h0 h1; have hc : ∀ j u, c[j]? = some u → w.cell? (ad.add (i.toNat * 3 + j)) = some u := hc0; obtain rfl := k46_open hK; exact ⟨ad, e, hc 0 _ rfl, by rw [← add_field _ _ 1 (by omega)]; exact hc 1 _ rfl, by rw [← add_field _ _ 2 (by omega)]; exact hc 2 _ rfl⟩
structure S80 where
 f0 : Int
 f1 : ByteArray
def z80 : S80 := ⟨(0 : Int), (⟨#[]⟩ : ByteArray)⟩
def k80 : Kd S80 := Kd.iso (Kd.pair (Kd.int .i64) Kd.string) (fun x : S80 => (x.f0, x.f1))
theorem k80_open {w : World} {x : S80} {cs : List Value} (h : k80.K w x cs) : cs = [.int .i64 x.f0, .string x.f1] := by
 obtain ⟨_, _, rfl, rfl, rfl⟩ := h; exact rfl
def rd_T80 (xs : List S80) (i : Int) : S80 := xs.getD i.toNat z80
theorem at_T80 {w : World} {A : Option Addr} {n : Nat} {xs : List S80} (h : Kd.C k80 w A n xs) (i : Int) (h0 : 0 ≤ i) (h1 : i < n) : ∃ ad , A = some ad ∧ w.cell? (ad.add (i.toNat * 2)) = some (.int .i64 (rd_T80 xs i).f0) ∧ w.cell? ⟨(ad.add (i.toNat * 2)).block, (ad.add (i.toNat * 2)).off + 1, none⟩ = some (.string (rd_T80 xs i).f1) := by
 obtain ⟨ad, c, e, _, hK, hc0⟩ := Kd.C_get h z80 i h0 h1; have hc : ∀ j u, c[j]? = some u → w.cell? (ad.add (i.toNat * 2 + j)) = some u := hc0; obtain rfl := k80_open hK; exact ⟨ad, e, hc 0 _ rfl, by rw [← add_field _ _ 1 (by omega)]; exact hc 1 _ rfl⟩
def code_one.f (a0 : Int) : Option (Bool) := if a0 ≥ 0 then (some (decide (a0 ≤ 255))) else (some false)
set_option maxHeartbeats 8000000 in
set_option maxRecDepth 100000 in
theorem code_one.calls (a0 : Int) (r : Bool) (w : World) (h : code_one.f a0 = some r) :
  Calls Tryd.prog 90 #[.int .i64 a0] w fun e w' => e = .returned (.bool r) ∧ Drawn0 w w' := by
 have H : (if a0 ≥ 0 then (some (decide (a0 ≤ 255))) else (some false)) = some r := h; clear h; by_cases c2 : a0 ≥ 0
 ·rw [if_pos c2] at H; have c2b0 : decide (0 ≤ a0) = true := decide_eq_true c2; clear c2; obtain rfl := Option.some.inj H; go_enter Tryd.func90, Tryd.ntmps90
  go_wp2; go_ret
  exact ⟨rz_, dz_⟩
 ·rw [if_neg c2] at H; have c2b0 : decide (0 ≤ a0) = false := decide_eq_false c2; clear c2; obtain rfl := Option.some.inj H; go_enter Tryd.func90, Tryd.ntmps90
  go_wp2; go_ret
  exact ⟨rz_, dz_⟩
def code_time.f (a0 : Int) : Option (Bool) := if a0 ≥ 0 then (some (decide (a0 ≤ 1099511627775))) else (some false)
set_option maxHeartbeats 8000000 in
set_option maxRecDepth 100000 in
theorem code_time.calls (a0 : Int) (r : Bool) (w : World) (h : code_time.f a0 = some r) :
  Calls Tryd.prog 89 #[.int .i64 a0] w fun e w' => e = .returned (.bool r) ∧ Drawn0 w w' := by
 have H : (if a0 ≥ 0 then (some (decide (a0 ≤ 1099511627775))) else (some false)) = some r := h; clear h; by_cases c2 : a0 ≥ 0
 ·rw [if_pos c2] at H; have c2b0 : decide (0 ≤ a0) = true := decide_eq_true c2; clear c2; obtain rfl := Option.some.inj H; go_enter Tryd.func89, Tryd.ntmps89
  go_wp2; go_ret
  exact ⟨rz_, dz_⟩
 ·rw [if_neg c2] at H; have c2b0 : decide (0 ≤ a0) = false := decide_eq_false c2; clear c2; obtain rfl := Option.some.inj H; go_enter Tryd.func89, Tryd.ntmps89
  go_wp2; go_ret
  exact ⟨rz_, dz_⟩
end Go.Proofs.YthemhfloablccaaDoor.Pr
end

section
namespace Go.Proofs.YthemhfloablccaaDoor.Pr
open Go.RowKit Go.Deep Go.Proofs.YthemhfloablccaaDoorW.PrintWords Go.Proofs.YthemhfloablccaaDoorW.PrintLast Go.Proofs.YthemhfloablccaaDoorW.PrintMore
set_option maxHeartbeats 1000000
def cellsN (l : List Nat) : List Value := l.map fun (n : Nat) => Value.int .u8 (n : Int)
theorem cellsN_length (l : List Nat) : (cellsN l).length = l.length := by simp [cellsN]
theorem cellsN_append (a b : List Nat) : cellsN (a ++ b) = cellsN a ++ cellsN b := by simp [cellsN]
theorem cellsN_one (l : List Nat) : ∀ u ∈ cellsN l, u.oneCell' = true := by
 intro u hu
 unfold cellsN at hu
 rw [List.mem_map] at hu
 obtain ⟨n, _, rfl⟩ := hu
 rfl
def FrO (w w' : World) : Prop := w.heap.size ≤ w'.heap.size ∧ ∀ (k : Nat) (o : Obj), w.heap[k]? = some o → (∀ cs t z, o = Obj.cells cs t z → t ≠ 122 ∧ t ≠ 5) → w'.heap[k]? = some o
section
variable {w w' w1 w2 : World} {g : Nat} {cs : Array Value} {t : TypeId} {z : Nat × Nat} {B : Nat} {mk bad : Bool} {L : List Nat}
theorem FrO.refl (w : World) : FrO w w := ⟨Nat.le_refl _, fun _ _ h _ => h⟩
theorem FrO.trans (h : FrO w w1) (k : FrO w1 w2) : FrO w w2 := ⟨Nat.le_trans h.1 k.1, fun i o hi ho => k.2 i o (h.2 i o hi ho) ho⟩
theorem FrO.of_below (h : Below w.heap.size w w') : FrO w w' := ⟨h.size, fun k o hk _ => (h.block k (by
 rcases Nat.lt_or_ge k w.heap.size with h1 | h1
 ·exact h1
 ·rw [Array.getElem?_eq_none h1] at hk; cases hk)).trans hk⟩
theorem FrO.blk (h : FrO w w') (hb : w.heap[g]? = some (.cells cs t z)) (h1 : t ≠ 122) (h2 : t ≠ 5) : w'.heap[g]? = some (.cells cs t z) :=
 h.2 g _ hb (fun _ _ _ e => by injection e with _ e _; rw [← e]; exact ⟨h1, h2⟩)
theorem FrO.put (h : FrO w w1) (hb : w1.heap[g]? = some (.cells cs t z)) (ht : t = 122 ∨ t = 5) (j : Nat) (u : Value) : FrO w (w1.setCell ⟨g, j, none⟩ u) := by
 refine h.trans ⟨by simp [World.setCell], fun k o hk ho => ?_⟩
 by_cases e : k = g
 ·subst e
  rw [hb] at hk
  injection hk with hk
  have := ho _ _ _ hk.symm
  rcases ht with ht | ht
  ·exact absurd ht this.1
  ·exact absurd ht this.2
 ·exact (Below.heap_setCell w1 ⟨g, j, none⟩ u k e).trans hk
theorem FrO.new (h : FrO w w1) (hg : w.heap.size ≤ g) (j : Nat) (u : Value) : FrO w (w1.setCell ⟨g, j, none⟩ u) := by
 refine ⟨by simpa [World.setCell] using h.1, fun k o hk ho => ?_⟩
 have hlt : k < w.heap.size := by
  rcases Nat.lt_or_ge k w.heap.size with h1 | h1
  ·exact h1
  ·rw [Array.getElem?_eq_none h1] at hk; cases hk
 exact (Below.heap_setCell w1 ⟨g, j, none⟩ u k (by show k ≠ g; omega)).trans (h.2 k o hk ho)
theorem FrO.alloc (h : FrO w w1) (o : Obj) : FrO w (w1.alloc o) := h.trans (FrO.of_below (below_alloc (Below.refl _ _) o))
theorem FrO.drewN (h : FrO w w1) (n : Nat) : FrO w (w1.drewN n) := h
theorem FrO.grown {row : Option Nat} (h : FrO w w1) (hg : w1.grownBy w2 row) (hr : ∀ k, row = some k → ∃ cs z, w1.heap[k]? = some (.cells cs 5 z)) : FrO w w2 := by
 refine h.trans ⟨hg.size, fun k o hk ho => ?_⟩
 by_cases e : row = some k
 ·obtain ⟨cs, z, hc⟩ := hr k e
  rw [hc] at hk
  injection hk with hk
  exact absurd rfl (ho _ _ _ hk.symm).2
 ·have hlt : k < w1.heap.size := by
   rcases Nat.lt_or_ge k w1.heap.size with h1 | h1
   ·exact h1
   ·rw [Array.getElem?_eq_none h1] at hk; cases hk
  exact (hg.block k hlt (fun h => e h.symm)).trans hk
def OutAt (B g : Nat) (mk bad : Bool) (L : List Nat) (w : World) : Prop :=
 B ≤ g ∧ ∃ v, w.heap[g]? = some (.cells #[.bool mk, .bool bad, v] 122 (0, 0)) ∧ w.ownsRow B 5 1 v L.length (cellsN L)
theorem own_u8 {v : Value} {n : Nat} {xs : List Value} (h : w.ownsRow B 5 1 v n xs) : ∀ k, v.ownBlock = some k → ∃ cs z, w.heap[k]? = some (.cells cs 5 z) := by
 intro k hk
 rcases h.2 with ⟨rfl, _⟩ | ⟨g', cap, cur, rfl, _, hh, _⟩
 ·simp [Value.ownBlock] at hk
 ·have : g' = k := by simpa [Value.ownBlock] using hk
  subst this
  exact ⟨_, _, hh⟩
theorem own_ne {v : Value} {n : Nat} {xs : List Value} (h : w.ownsRow B 5 1 v n xs) (hb : w.heap[g]? = some (.cells cs t z)) (ht : t ≠ 5) : v.ownBlock ≠ some g := by
 intro e
 obtain ⟨cs', z', hc⟩ := own_u8 h g e
 rw [hb] at hc
 injection hc with hc
 injection hc with _ hc _
 exact ht hc
theorem OutAt.lt (h : OutAt B g mk bad L w) : g < w.heap.size := by
 obtain ⟨_, v, hb, _⟩ := h
 exact blk_lt hb
theorem OutAt.below (h : OutAt B g mk bad L w) (hb : Below w.heap.size w w1) : OutAt B g mk bad L w1 := by
 obtain ⟨h0, v, h1, h2⟩ := h
 exact ⟨h0, v, blk_below h1 hb, pw_own_below h2 hb⟩
theorem OutAt.alloc (h : OutAt B g mk bad L w) (o : Obj) : OutAt B g mk bad L (w.alloc o) := h.below (below_alloc (Below.refl _ _) o)
theorem OutAt.drewN (h : OutAt B g mk bad L w) (n : Nat) : OutAt B g mk bad L (w.drewN n) := h.below (pw_below_drewN (Below.refl _ _) n)
theorem own_far {v : Value} {n : Nat} {xs : List Value} (h : w.ownsRow B 5 1 v n xs) {p : Nat} (hp : v.ownBlock ≠ some p) (j : Nat) (u : Value) : (w.setCell ⟨p, j, none⟩ u).ownsRow B 5 1 v n xs := by
 refine ⟨h.1, ?_⟩
 rcases h.2 with ⟨rfl, h2⟩ | ⟨g', cap, cur, rfl, hb, hh, hc, hr⟩
 ·exact .inl ⟨rfl, h2⟩
 ·have hne : g' ≠ p := fun e => hp (by simp [Value.ownBlock, e])
  exact .inr ⟨g', cap, cur, rfl, hb, (Below.heap_setCell w ⟨p, j, none⟩ u g' hne).trans hh, hc, hr⟩
theorem OutAt.far (h : OutAt B g mk bad L w) {p : Nat} (hp : w.heap[p]? = some (.cells cs t z)) (h1 : t ≠ 122) (h2 : t ≠ 5) (j : Nat) (u : Value) : OutAt B g mk bad L (w.setCell ⟨p, j, none⟩ u) := by
 obtain ⟨h0, v, hb, ho⟩ := h
 have hne : g ≠ p := by
  rintro rfl
  rw [hb] at hp
  injection hp with hp
  injection hp with _ hp _
  exact h1 hp.symm
 exact ⟨h0, v, (Below.heap_setCell w ⟨p, j, none⟩ u g hne).trans hb, own_far ho (own_ne ho hp h2) j u⟩
theorem blk_thaw {fr : World} (h : fr.heap[g]? = some (.cells cs t (0, 0))) (i : Nat) : fr.frozen? ⟨g, i, none⟩ = false := by simp [World.frozen?, h]
theorem OutAt.flag (h : OutAt B g mk bad L w) (b : Bool) : OutAt B g mk b L (w.setCell ⟨g, 1, none⟩ (.bool b)) := by
 obtain ⟨h0, v, hb, ho⟩ := h
 exact ⟨h0, v, blk_put hb 1 _ rfl, own_far ho (own_ne ho hb (by decide)) 1 _⟩
theorem OutAt.fro (h : OutAt B g mk bad L w1) (hF : FrO w w1) (j : Nat) (u : Value) : FrO w (w1.setCell ⟨g, j, none⟩ u) := by
 obtain ⟨h0, v, hb, ho⟩ := h
 exact hF.put hb (.inl rfl) j u
theorem OutAt.appended {v v5 : Value} {n n5 : Nat} {M : List Nat} {w5 : World} (hB : B ≤ g) (hb : w.heap[g]? = some (.cells #[.bool mk, .bool bad, v] 122 (0, 0))) (hown : w.ownsRow B 5 1 v n (cellsN L)) (hg : w.grownBy w5 v.ownBlock)
  (hown5 : w5.ownsRow B 5 1 v5 n5 (cellsN L ++ cellsN M)) (hn : n5 = L.length + M.length) : OutAt B g mk bad (L ++ M) (w5.setCell ⟨g, 2, none⟩ v5) := by
 subst hn
 have hb5 : w5.heap[g]? = some (.cells #[.bool mk, .bool bad, v] 122 (0, 0)) := (hg.block g (blk_lt hb) (fun e => own_ne hown hb (by decide) e.symm)).trans hb
 refine ⟨hB, v5, blk_put hb5 2 _ rfl, ?_⟩
 rw [List.length_append, cellsN_append]
 exact own_far hown5 (own_ne hown5 hb5 (by decide)) 2 _
theorem FrO.appended {w0 w5 : World} {v v5 : Value} {n : Nat} {xs : List Value} (hF : FrO w0 w) (hb : w.heap[g]? = some (.cells #[.bool mk, .bool bad, v] 122 (0, 0))) (hown : w.ownsRow B 5 1 v n xs) (hg : w.grownBy w5 v.ownBlock) : FrO w0 (w5.setCell ⟨g, 2, none⟩ v5) := by
 have hb5 : w5.heap[g]? = some (.cells #[.bool mk, .bool bad, v] 122 (0, 0)) := (hg.block g (blk_lt hb) (fun e => own_ne hown hb (by decide) e.symm)).trans hb
 exact (hF.grown hg (own_u8 hown)).put hb5 (.inl rfl) 2 _
theorem below_appended {w0 w5 : World} {v v5 : Value} {n : Nat} {xs : List Value} (hW : Below B w0 w) (hB : B ≤ g) (hBw : B ≤ w.heap.size) (hown : w.ownsRow B 5 1 v n xs) (hg : w.grownBy w5 v.ownBlock) : Below B w0 (w5.setCell ⟨g, 2, none⟩ v5) :=
 (hW.grown hg hBw (fun k hk => own_base hown k hk)).setCell (p := ⟨g, 2, none⟩) hB _
end
def roomL (p : Int) (k : Nat) : List Nat := (List.range 8).map fun i => if i < k then (p / 2 ^ (8 * (7 - i)) % 256).toNat else 0
def byN (p : Int) (m : Nat) : List Nat := (roomL p 8).drop (8 - m)
theorem roomL_length (p : Int) (k : Nat) : (roomL p k).length = 8 := by simp [roomL]
theorem byN_length (p : Int) (m : Nat) (h : m ≤ 8) : (byN p m).length = m := by rw [byN, List.length_drop, roomL_length]; omega
theorem roomL_succ (p : Int) (k : Nat) (hk : k < 8) : (roomL p k).set k (p / 2 ^ (8 * (7 - k)) % 256).toNat = roomL p (k + 1) := by
 apply List.ext_getElem?
 intro i
 rw [List.getElem?_set]
 unfold roomL
 rw [List.length_map, List.length_range]
 by_cases e : k = i
 ·subst e
  rw [if_pos rfl, if_pos hk, List.getElem?_map, List.getElem?_range hk]
  simp
 ·rw [if_neg e, List.getElem?_map, List.getElem?_map]
  by_cases hi : i < 8
  ·rw [List.getElem?_range hi]
   by_cases h2 : i < k
   ·simp [h2, show i < k + 1 by omega]
   ·simp [h2, show ¬ i < k + 1 by omega]
  ·rw [List.getElem?_eq_none (by simpa using hi)]
   rfl
section
open Go.RowKit Go.Deep Go.Proofs.YthemhfloablccaaDoorW.PrintWords Go.Proofs.YthemhfloablccaaDoorW.PrintLast Go.Proofs.YthemhfloablccaaDoorW.PrintMore
set_option maxHeartbeats 1000000
attribute [local go_sem ↓] Go.wp_at_zero Go.wp_at_succ
def pairsV (ps : List (Int × Nat)) : List Value := ps.flatMap fun p => [.int .i64 p.1, .int .i64 (p.2 : Int)]
def sumN (ps : List (Int × Nat)) : Nat := (ps.map (·.2)).foldl (· + ·) 0
def byAll (ps : List (Int × Nat)) : List Nat := ps.flatMap fun p => byN p.1 p.2
theorem foldl_add (l : List Nat) (a : Nat) : l.foldl (· + ·) a = a + l.foldl (· + ·) 0 := by
 induction l generalizing a with
 | nil => simp
 | cons x l ih => rw [List.foldl_cons, ih, List.foldl_cons, ih (0 + x)]; omega
theorem sumN_cons (p : Int × Nat) (ps : List (Int × Nat)) : sumN (p :: ps) = p.2 + sumN ps := by
 unfold sumN
 rw [List.map_cons, List.foldl_cons, foldl_add]
 omega
theorem sumN_append (a b : List (Int × Nat)) : sumN (a ++ b) = sumN a + sumN b := by
 unfold sumN
 rw [List.map_append, List.foldl_append, foldl_add]
theorem sum_le {n m : Nat} {ps : List (Int × Nat)} (h : n + m + sumN ps ≤ 65536) (k : Nat) : m + sumN (ps.take k) ≤ 65536 := by
 have := sumN_append (ps.take k) (ps.drop k)
 rw [List.take_append_drop] at this
 omega
theorem sum_le3 {n m : Nat} {ps : List (Int × Nat)} (h : n + m + sumN ps ≤ 65536) (k : Nat) : n + m + sumN (ps.take k) ≤ 65536 := by
 have := sumN_append (ps.take k) (ps.drop k)
 rw [List.take_append_drop] at this
 omega
theorem slice_room1 (gr : Nat) (W : World) : (Instr.sliceAt 150 (.pointer (some ⟨gr, 0, none⟩)) (some (.int .i64 (IntKind.i64.wrap (8 - (((1 : Nat) : Int) : Int))))) (some (.int .i64 8)) (some (.int .i64 8))).run Tryd.prog W = .ok (.slice (some ⟨gr, 8 - 1, none⟩) 1 1) W := by kernel_rfl
theorem slice_room2 (gr : Nat) (W : World) : (Instr.sliceAt 150 (.pointer (some ⟨gr, 0, none⟩)) (some (.int .i64 (IntKind.i64.wrap (8 - (((2 : Nat) : Int) : Int))))) (some (.int .i64 8)) (some (.int .i64 8))).run Tryd.prog W = .ok (.slice (some ⟨gr, 8 - 2, none⟩) 2 2) W := by kernel_rfl
theorem slice_room3 (gr : Nat) (W : World) : (Instr.sliceAt 150 (.pointer (some ⟨gr, 0, none⟩)) (some (.int .i64 (IntKind.i64.wrap (8 - (((3 : Nat) : Int) : Int))))) (some (.int .i64 8)) (some (.int .i64 8))).run Tryd.prog W = .ok (.slice (some ⟨gr, 8 - 3, none⟩) 3 3) W := by kernel_rfl
theorem slice_room4 (gr : Nat) (W : World) : (Instr.sliceAt 150 (.pointer (some ⟨gr, 0, none⟩)) (some (.int .i64 (IntKind.i64.wrap (8 - (((4 : Nat) : Int) : Int))))) (some (.int .i64 8)) (some (.int .i64 8))).run Tryd.prog W = .ok (.slice (some ⟨gr, 8 - 4, none⟩) 4 4) W := by kernel_rfl
theorem slice_room5 (gr : Nat) (W : World) : (Instr.sliceAt 150 (.pointer (some ⟨gr, 0, none⟩)) (some (.int .i64 (IntKind.i64.wrap (8 - (((5 : Nat) : Int) : Int))))) (some (.int .i64 8)) (some (.int .i64 8))).run Tryd.prog W = .ok (.slice (some ⟨gr, 8 - 5, none⟩) 5 5) W := by kernel_rfl
theorem slice_room6 (gr : Nat) (W : World) : (Instr.sliceAt 150 (.pointer (some ⟨gr, 0, none⟩)) (some (.int .i64 (IntKind.i64.wrap (8 - (((6 : Nat) : Int) : Int))))) (some (.int .i64 8)) (some (.int .i64 8))).run Tryd.prog W = .ok (.slice (some ⟨gr, 8 - 6, none⟩) 6 6) W := by kernel_rfl
theorem slice_room7 (gr : Nat) (W : World) : (Instr.sliceAt 150 (.pointer (some ⟨gr, 0, none⟩)) (some (.int .i64 (IntKind.i64.wrap (8 - (((7 : Nat) : Int) : Int))))) (some (.int .i64 8)) (some (.int .i64 8))).run Tryd.prog W = .ok (.slice (some ⟨gr, 8 - 7, none⟩) 7 7) W := by kernel_rfl
theorem slice_room8 (gr : Nat) (W : World) : (Instr.sliceAt 150 (.pointer (some ⟨gr, 0, none⟩)) (some (.int .i64 (IntKind.i64.wrap (8 - (((8 : Nat) : Int) : Int))))) (some (.int .i64 8)) (some (.int .i64 8))).run Tryd.prog W = .ok (.slice (some ⟨gr, 8 - 8, none⟩) 8 8) W := by kernel_rfl
theorem slice_room (gr m : Nat) (h1 : 1 ≤ m) (h2 : m ≤ 8) (W : World) : (Instr.sliceAt 150 (.pointer (some ⟨gr, 0, none⟩)) (some (.int .i64 (IntKind.i64.wrap (8 - (m : Int))))) (some (.int .i64 8)) (some (.int .i64 8))).run Tryd.prog W = .ok (.slice (some ⟨gr, 8 - m, none⟩) m m) W := by
 have h : m = 1 ∨ m = 2 ∨ m = 3 ∨ m = 4 ∨ m = 5 ∨ m = 6 ∨ m = 7 ∨ m = 8 := by omega
 rcases h with rfl | rfl | rfl | rfl | rfl | rfl | rfl | rfl
 ·exact slice_room1 gr W
 ·exact slice_room2 gr W
 ·exact slice_room3 gr W
 ·exact slice_room4 gr W
 ·exact slice_room5 gr W
 ·exact slice_room6 gr W
 ·exact slice_room7 gr W
 ·exact slice_room8 gr W
theorem sum_next {ps : List (Int × Nat)} {k : Nat} {p : Int × Nat} (h : ps[k]? = some p) : sumN (ps.take (k + 1)) = sumN (ps.take k) + p.2 := by
 obtain ⟨hk, rfl⟩ := List.getElem?_eq_some_iff.1 h
 rw [List.take_succ_eq_append_getElem hk, sumN_append, sumN_cons]
 rfl
theorem pairsV_get : ∀ (ps : List (Int × Nat)) (k : Nat) (p : Int × Nat), ps[k]? = some p → ∀ j, (pairsV ps)[k * 2 + j]? = if j < 2 then [Value.int .i64 p.1, Value.int .i64 (p.2 : Int)][j]? else (pairsV ps)[k * 2 + j]?
  | [], k, p, h => by simp at h
  | q :: ps, 0, p, h => by
    intro j
    simp only [List.getElem?_cons_zero, Option.some.injEq] at h
    subst h
    match j with
    | 0 => rfl
    | 1 => rfl
    | j + 2 => rw [if_neg (by omega)]
  | q :: ps, k + 1, p, h => by
    intro j
    have h' : ps[k]? = some p := by simpa using h
    have := pairsV_get ps k p h' j
    have e : pairsV (q :: ps) = Value.int .i64 q.1 :: Value.int .i64 (q.2 : Int) :: pairsV ps := rfl
    rw [e, show (k + 1) * 2 + j = (k * 2 + j) + 1 + 1 by omega, List.getElem?_cons_succ, List.getElem?_cons_succ]
    exact this
theorem pair_cell {w wr : World} {gp t : Nat} {ps : List (Int × Nat)} {z : Nat × Nat} (hb : Below w.heap.size w wr) (hgp : w.heap[gp]? = some (.cells (pairsV ps).toArray t z)) {k : Nat} {p : Int × Nat} (hp : ps[k]? = some p) (j : Nat) (hj : j < 2) :
  wr.cell? ⟨gp, k * 2 + j, none⟩ = [Value.int .i64 p.1, Value.int .i64 (p.2 : Int)][j]? := by
 rw [cell_of_row wr gp _ _ _ _ (blk_below hgp hb), List.getElem?_toArray, pairsV_get ps k p hp j, if_pos hj]
theorem cellsN_set (l : List Nat) (i n : Nat) : cellsN (l.set i n) = (cellsN l).set i (.int .u8 (n : Int)) := by simp [cellsN, List.map_set]
theorem nat_byte (x : Int) : x % 256 = ((x % 256).toNat : Int) := by omega
theorem byAll_length (ps : List (Int × Nat)) (h : ∀ p ∈ ps, p.2 ≤ 8) : (byAll ps).length = sumN ps := by
  induction ps with
  | nil => rfl
  | cons p ps ih =>
    have e : byAll (p :: ps) = byN p.1 p.2 ++ byAll ps := rfl
    rw [e, List.length_append, sumN_cons, byN_length _ _ (h p (List.mem_cons_self ..)), ih (fun q hq => h q (List.mem_cons_of_mem _ hq))]
theorem byAll_next {ps : List (Int × Nat)} {k : Nat} {p : Int × Nat} (h : ps[k]? = some p) : byAll (ps.take (k + 1)) = byAll (ps.take k) ++ byN p.1 p.2 := by
 obtain ⟨hk, rfl⟩ := List.getElem?_eq_some_iff.1 h
 rw [List.take_succ_eq_append_getElem hk, byAll, List.flatMap_append]
 simp [byAll]
theorem grown_of_drew {w w' : World} {r : Option Nat} (h : w.drew.grownBy w' r) : w.grownBy w' r := ⟨h.os, h.tape, h.output, h.size, h.block⟩
theorem strCells_bys (s : ByteArray) : Lib.strCells s = cellsN (bys s) := by
 simp [Lib.strCells, cellsN, bys]
theorem Tryd.info_u8 : (Tryd.prog.info? 5).map (fun i => (i.zero, i.size, i.bytes)) = some (some (.int .u8 0), 1, 1) := by kernel_rfl
theorem room_news {w : World} {gr t m : Nat} {p : Int} {z : Nat × Nat} (h : w.heap[gr]? = some (.cells (cellsN (roomL p 8)).toArray t z)) (hm : m ≤ 8) :
  ∀ (j : Nat) (u : Value), (cellsN (byN p m))[j]? = some u → w.drew.cell? ((⟨gr, 8 - m, none⟩ : Addr).add j) = some u := by
 intro j u hu
 rw [add_at]
 have h' : w.drew.heap[gr]? = some (.cells (cellsN (roomL p 8)).toArray t z) := h
 rw [cell_of_row _ _ _ _ _ _ h', List.getElem?_toArray]
 unfold byN cellsN at hu
 rw [List.map_drop, List.getElem?_drop] at hu
 exact hu
theorem app_max {m n : Nat} (h : n + m ≤ 65536) : n + m ≤ maxLen := by
 unfold maxLen; omega
theorem app_bytes {m n : Nat} (h : n + m ≤ 65536) : (n + m) * 1 ≤ 140737488355328 := by omega
set_option maxRecDepth 100000 in
theorem puts_ok (B g gp : Nat) (mk : Bool) (L : List Nat) (s : ByteArray) (ps : List (Int × Nat)) (w : World) (hO : OutAt B g mk false L w) (hgp : w.heap[gp]? = some (.cells (pairsV ps).toArray 124 (0, 0)))
    (hps : ∀ p ∈ ps, 1 ≤ p.2 ∧ p.2 ≤ 8) (hpl : ps.length ≤ 2) (hL : L.length + s.size + sumN ps ≤ 65536) (hB : B ≤ w.heap.size) :
    Calls Tryd.prog 88 #[.pointer (some ⟨g, 0, none⟩), .bool true, .string s, .slice (some ⟨gp, 0, none⟩) ps.length ps.length] w fun e w' => e = .returned (.tuple #[]) ∧ OutAt B g mk false (L ++ byAll ps ++ bys s) w' ∧ FrO w w' ∧ Below B w w' := by
  go_enter Tryd.func88, Tryd.ntmps88
  go_wp2_with (fail)
  go_loopw [8, 21] (fun n i wr => ∃ k : Nat, k ≤ ps.length ∧ i = .int .i64 k ∧ n = .int .i64 ((s.size + sumN (ps.take k) : Nat) : Int) ∧ Aside0 (Below w.heap.size w wr)) (fun _ i _ => ps.length - (intOf i).toNat)
  case atStart => exact ⟨0, by omega, rfl, rfl, ⟨Below.refl _ _⟩⟩
  case round =>
    obtain ⟨k, hk, rfl, rfl, HB1⟩ := hrel
    have hsum : s.size + sumN (ps.take k) ≤ 65536 := sum_le hL k
    by_cases hlt : k < ps.length
    · obtain ⟨⟨p, m⟩, hp⟩ : ∃ p, ps[k]? = some p := ⟨_, List.getElem?_eq_getElem hlt⟩
      have hm := hps _ (List.mem_of_getElem? hp)
      have hm1 : m ≤ 8 := hm.2
      have c0 : wr.cell? ⟨gp, k * 2, none⟩ = some (.int .i64 p) := pair_cell HB1.out hgp hp 0 (by omega)
      have c1 : wr.cell? ⟨gp, k * 2 + 1, none⟩ = some (.int .i64 (m : Int)) := pair_cell HB1.out hgp hp 1 (by omega)
      have HP := Aside0.mk hp
      clear hp hm
      go_wp2_with (fail)
      refine ⟨⟨k + 1, by omega, by go_num, ?_, ⟨below_alloc HB1.out _⟩⟩, by simp [intOf]; omega⟩
      rw [sum_next HP.out, ← Nat.add_assoc]
      go_num
    · obtain rfl : k = ps.length := by omega
      clear hlt hk
      rw [List.take_length] at hsum ⊢
      have HO1 := Aside0.mk (hO.below HB1.out)
      have HG1 := Aside0.mk (blk_below hgp HB1.out)
      have hN2 : L.length + (s.size + sumN ps) ≤ 65536 := by omega
      generalize hN : s.size + sumN ps = N at hsum hN2
      have HN := Aside0.mk hN
      clear hN
      obtain ⟨hBg, v, hbk, hown⟩ := HO1.out
      obtain ⟨A, c, rfl⟩ := own_slice hown
      have g1 : wr.cell? ⟨g, 1, none⟩ = some (.bool false) := by rw [cell_of_row wr g _ _ _ _ hbk]; rfl
      have g2 : wr.cell? ⟨g, 2, none⟩ = some (.slice A L.length c) := by rw [cell_of_row wr g _ _ _ _ hbk]; rfl
      have f1 : wr.frozen? ⟨g, 1, none⟩ = false := blk_thaw hbk 1
      have d1 : decide (65536 < (L.length : Int) + (N : Int)) = false := decide_eq_false (by omega)
      have HBK := Aside0.mk hbk
      have HOWN := Aside0.mk hown
      have HO2 := Aside0.mk (HO1.out.flag false)
      have HG2 := Aside0.mk (show (wr.setCell ⟨g, 1, none⟩ (.bool false)).heap[gp]? = _ from (HO1.out.fro (FrO.refl wr) 1 (.bool false)).blk HG1.out (by decide) (by decide))
      have HF2 := Aside0.mk (HO1.out.fro (FrO.of_below HB1.out) 1 (.bool false))
      have HB2 := Aside0.mk (((HB1.out.mono hB).setCell (p := ⟨g, 1, none⟩) hBg (.bool false)))
      clear hbk hown hgp hO
      go_wp2_with (fail)
      clear d1 g1 g2 f1
      generalize wr.setCell ⟨g, 1, none⟩ (.bool false) = w2 at HO2 HG2 HF2 HB2 ⊢
      clear HO1 HG1 HB1 HBK HOWN
      go_loopw [57] (fun i wr => ∃ k : Nat, k ≤ ps.length ∧ i = .int .i64 k ∧ Aside0 (OutAt B g mk false (L ++ byAll (ps.take k)) wr) ∧ Aside0 (wr.heap[gp]? = some (.cells (pairsV ps).toArray 124 (0, 0))) ∧ Aside0 (FrO w wr) ∧ Aside0 (Below B w wr)) (fun i _ => ps.length - (intOf i).toNat)
      case atStart => exact ⟨0, by omega, rfl, ⟨by simpa [byAll] using HO2.out⟩, HG2, HF2, HB2⟩
      case round =>
        obtain ⟨k, hk, rfl, HO3, HG3, HF3, HB3⟩ := hrel
        by_cases hlt : k < ps.length
        · obtain ⟨⟨p, m⟩, hp⟩ : ∃ p, ps[k]? = some p := ⟨_, List.getElem?_eq_getElem hlt⟩
          have hm := hps _ (List.mem_of_getElem? hp)
          have hm1 : m ≤ 8 := hm.2
          have hm0 : 1 ≤ m := hm.1
          have c0 : wr.cell? ⟨gp, k * 2, none⟩ = some (.int .i64 p) := pair_cell (Below.refl _ _) HG3.out hp 0 (by omega)
          have c1 : wr.cell? ⟨gp, k * 2 + 1, none⟩ = some (.int .i64 (m : Int)) := pair_cell (Below.refl _ _) HG3.out hp 1 (by omega)
          have HP := Aside0.mk hp
          clear hp hm
          go_wp2_with (fail)
          clear c0 c1
          obtain ⟨wo, hwo⟩ : ∃ wo : World, wo = wr := ⟨_, rfl⟩
          subst hwo
          go_loopw [61] (fun i W => ∃ j : Nat, j ≤ 8 ∧ i = .int .i64 j ∧ Aside0 (OutAt B g mk false (L ++ byAll (ps.take k)) W) ∧ Aside0 (W.heap[gp]? = some (.cells (pairsV ps).toArray 124 (0, 0))) ∧ Aside0 (FrO w W) ∧ Aside0 (Below B w W) ∧ Aside0 (W.heap[wo.heap.size]? = some (.cells #[.int .i64 p, .int .i64 (m : Int)] 124 (0, 0))) ∧ Aside0 (W.heap[wo.heap.size + 1]? = some (.cells (cellsN (roomL p j)).toArray 150 (0, 0)))) (fun i _ => 8 - (intOf i).toNat)
          case atStart =>
            refine ⟨0, by omega, rfl, ⟨(HO3.out.alloc _).alloc _⟩, ⟨blk_alloc (blk_alloc HG3.out _) _⟩, ⟨(HF3.out.alloc _).alloc _⟩, ⟨(HB3.out.alloc (Nat.le_trans hB HF3.out.1) _).alloc (by have := HF3.out.1; simp; omega) _⟩, ⟨blk_alloc (heap_alloc_new wo _) _⟩, ⟨?_⟩⟩
            have := heap_alloc_new (wo.alloc (.cells #[.int .i64 p, .int .i64 (m : Int)] 124)) (.cells (cellsN (roomL p 0)).toArray 150)
            simpa [roomL, cellsN, List.range, List.range.loop] using this
          case round =>
            obtain ⟨j, hj, rfl, HO4, HG4, HF4, HB4, HQ4, HR4⟩ := hrel
            by_cases hlj : j < 8
            · have q0 : wr.cell? ⟨wo.heap.size, 0, none⟩ = some (.int .i64 p) := by rw [cell_of_row wr _ _ _ _ _ HQ4.out]; rfl
              obtain ⟨r0, hr0⟩ : ∃ x, (cellsN (roomL p j))[j]? = some x := ⟨_, List.getElem?_eq_getElem (by rw [cellsN_length, roomL_length]; exact hlj)⟩
              have r1 : wr.cell? ⟨wo.heap.size + 1, j, none⟩ = some r0 := by rw [cell_of_row wr _ _ _ _ _ HR4.out, List.getElem?_toArray]; exact hr0
              have r2 : wr.frozen? ⟨wo.heap.size + 1, j, none⟩ = false := blk_thaw HR4.out j
              clear hr0
              go_wp2_with (fail)
              refine ⟨⟨j + 1, by omega, by go_num, ⟨HO4.out.far HR4.out (by decide) (by decide) j _⟩, ⟨blk_far HG4.out (fun e => by have := blk_lt HG3.out; have e2 : gp = wo.heap.size + 1 := e; omega) _⟩, ⟨HF4.out.new (by have := HF3.out.1; omega) j _⟩, ⟨HB4.out.setCell (p := ⟨wo.heap.size + 1, j, none⟩) (by have := HF3.out.1; show B ≤ wo.heap.size + 1; omega) _⟩, ⟨blk_far HQ4.out (fun e => by have e2 : wo.heap.size = wo.heap.size + 1 := e; omega) _⟩, ⟨blk_put HR4.out j _ ?_⟩⟩, by simp [intOf]; omega⟩
              rw [← roomL_succ p j hlj, List.setIfInBounds_toArray, cellsN_set, ← nat_byte]
            · obtain rfl : j = 8 := by omega
              clear hlj hj
              have hlen : L.length + (byAll (ps.take k)).length + m ≤ 65536 := by
                rw [byAll_length _ (fun q hq => (hps q (List.mem_of_mem_take hq)).2)]
                have := sum_le3 hL (k + 1)
                rw [sum_next HP.out] at this
                omega
              rw [← List.length_append] at hlen
              generalize hL2 : L ++ byAll (ps.take k) = L2 at HO4 hlen
              have HL2 := Aside0.mk hL2
              clear hL2
              obtain ⟨hBg3, v3, hbk, hown⟩ := HO4.out
              obtain ⟨A3, c3, rfl⟩ := own_slice hown
              have g2 : wr.cell? ⟨g, 2, none⟩ = some (.slice A3 L2.length c3) := by rw [cell_of_row wr g _ _ _ _ hbk]; rfl
              have f2 : wr.frozen? ⟨g, 2, none⟩ = false := blk_thaw hbk 2
              have q1 : wr.cell? ⟨wo.heap.size, 1, none⟩ = some (.int .i64 (m : Int)) := by rw [cell_of_row wr _ _ _ _ _ HQ4.out]; rfl
              have HBK := Aside0.mk hbk
              have HOWN := Aside0.mk hown
              have HLEN := Aside0.mk hlen
              have hne := own_ne hown hbk (by decide)
              have hne2 := own_ne hown HQ4.out (by decide)
              have b0 := hown.lt
              have i0 : (0 : Int) ≤ 8 - (m : Int) := by omega
              have i1 : (8 : Int) - (m : Int) ≤ 8 := by omega
              have hgl : g < wr.heap.size := blk_lt hbk
              have hql : wo.heap.size < wr.heap.size := blk_lt HQ4.out
              obtain ⟨ie, hi, hz0, hz1, hz2⟩ := info_parts Tryd.info_u8
              have hBw : B ≤ wr.heap.size := by omega
              have hsl := slice_room (wo.heap.size + 1) m hm0 hm1
              clear hbk hown hlen
              go_wp2_with (fail)
              go_region_law
                ((refine step_append_lies _ (by rfl) _ _ _ (by rfl) B 5 ie (.int .u8 0) 1 1 Tryd.underlying53 hi hz0 hz1 hz2 rfl (by omega) (.slice A3 L2.length c3) L2.length (cellsN L2) (by rfl) HOWN.out.drew
                    ⟨wo.heap.size + 1, 8 - m, none⟩ m m (cellsN (byN p m)) (by rfl) (by rw [cellsN_length, byN_length p m hm1, Nat.mul_one]) (room_news HR4.out hm1) (cellsN_one _)
                    (by omega) (app_max HLEN.out) (app_bytes HLEN.out) (by simpa using hBw) wr.heap.size (by simp) ?_; intro gg cap w5 hown1 hgrow hat hlt5; have e2 : w5.cell? ⟨g, 2, none⟩ = some (.slice A3 L2.length c3) := (by rw [hgrow.cell_far _ (by simpa using hgl) (Ne.symm hne)]; exact g2); have ef : w5.frozen? ⟨g, 2, none⟩ = false := (by rw [hgrow.frozen_far _ (by simpa using hgl) (Ne.symm hne)]; exact f2)))
              all_goals
                have hgrow := grown_of_drew hgrow
                have hMl : m = (byN p m).length := (byN_length p m hm1).symm
                have HO5 := Aside0.mk (OutAt.appended (M := byN p m) hBg3 HBK.out HOWN.out hgrow hown1 (by rw [← hMl]))
                have HF5 := Aside0.mk (HF4.out.appended HBK.out HOWN.out hgrow (v5 := .slice (some ⟨gg, 0, none⟩) (L2.length + m) cap))
                have HB5 := Aside0.mk (below_appended HB4.out hBg3 hBw HOWN.out hgrow (v5 := .slice (some ⟨gg, 0, none⟩) (L2.length + m) cap))
                have HG5 := Aside0.mk (((FrO.refl wr).appended HBK.out HOWN.out hgrow (v5 := .slice (some ⟨gg, 0, none⟩) (L2.length + m) cap)).blk HG4.out (by decide) (by decide))
                clear hMl hown1 hgrow hat e2 ef
                generalize w5.setCell ⟨g, 2, none⟩ (.slice (some ⟨gg, 0, none⟩) (L2.length + m) cap) = w6 at HO5 HF5 HB5 HG5 ⊢
                go_wp2_with (fail)
                refine ⟨⟨k + 1, by omega, by go_num, ⟨?_⟩, HG5, HF5, HB5⟩, by simp [intOf]; omega⟩
                rw [byAll_next HP.out, ← List.append_assoc, HL2.out]
                exact HO5.out
        · obtain rfl : k = ps.length := by omega
          clear hlt hk
          rw [List.take_length] at HO3
          have hlen : L.length + (byAll ps).length + s.size ≤ 65536 := by
            rw [byAll_length _ (fun q hq => (hps q hq).2)]
            omega
          rw [← List.length_append] at hlen
          generalize hL2 : L ++ byAll ps = L2 at HO3 hlen
          have HL2 := Aside0.mk hL2
          clear hL2
          obtain ⟨hBg3, v3, hbk, hown⟩ := HO3.out
          obtain ⟨A3, c3, rfl⟩ := own_slice hown
          have g2 : wr.cell? ⟨g, 2, none⟩ = some (.slice A3 L2.length c3) := by rw [cell_of_row wr g _ _ _ _ hbk]; rfl
          have HBK := Aside0.mk hbk
          have HOWN := Aside0.mk hown
          obtain ⟨ie, hi, hz0, hz1, hz2⟩ := info_parts Tryd.info_u8
          have hBw : B ≤ wr.heap.size := by have := blk_lt hbk; omega
          have hm1 : L2.length + s.size ≤ maxLen := app_max hlen
          have hm2 : L2.length + s.size ≤ 140737488355328 := by omega
          clear hbk hown hlen
          go_wp2_with (at_builtin; refine Lib.wpList_append_own_string _ rfl _ _ 53 9 rfl B 5 ie Tryd.underlying53 Tryd.underlying9 hi hz0 hz1 hz2 _ _ _ rfl HOWN.out s rfl hm1 hm2 hBw ?_)
          intro v5 w5 hown5 hgrow _
          rw [strCells_bys] at hown5
          obtain ⟨A5, c5, rfl⟩ := own_slice hown5
          have hb5 : w5.heap[g]? = _ := (hgrow.block g (blk_lt HBK.out) (fun e => own_ne HOWN.out HBK.out (by decide) e.symm)).trans HBK.out
          have e2 : w5.cell? ⟨g, 2, none⟩ = some (.slice A3 L2.length c3) := by rw [cell_of_row w5 g _ _ _ _ hb5]; rfl
          have ef : w5.frozen? ⟨g, 2, none⟩ = false := blk_thaw hb5 2
          have HO5 := Aside0.mk (OutAt.appended (M := bys s) hBg3 HBK.out HOWN.out hgrow hown5 (by rw [bys_length]))
          have HF5 := Aside0.mk (HF3.out.appended HBK.out HOWN.out hgrow (v5 := .slice A5 (L2.length + s.size) c5))
          have HB5 := Aside0.mk (below_appended HB3.out hBg3 hBw HOWN.out hgrow (v5 := .slice A5 (L2.length + s.size) c5))
          clear hb5 hown5 hgrow g2
          go_wp2_with (fail)
          go_end0
          rw [HL2.out]
          exact ⟨rfl, HO5.out, HF5.out, HB5.out⟩
end
section
open Go.RowKit Go.Deep Go.Proofs.YthemhfloablccaaDoorW.PrintWords Go.Proofs.YthemhfloablccaaDoorW.PrintLast Go.Proofs.YthemhfloablccaaDoorW.PrintMore
set_option maxHeartbeats 1000000
attribute [local go_sem ↓] Go.wp_at_zero Go.wp_at_succ
theorem sum_small : ∀ (ps : List (Int × Nat)), ps.length ≤ 2 → (∀ q ∈ ps, q.2 ≤ 8) → sumN ps ≤ 16
 | [], _, _ => by decide
 | [a], _, h => by rw [sumN_cons]; have := h a (by simp); simp [sumN]; omega
 | [a, b], _, h => by rw [sumN_cons, sumN_cons]; have := h a (by simp); have := h b (by simp); simp [sumN]; omega
 | a :: b :: c :: l, h, _ => by simp at h
theorem sum_take_le (ps : List (Int × Nat)) (k : Nat) : sumN (ps.take k) ≤ sumN ps := by
 have := sumN_append (ps.take k) (ps.drop k)
 rw [List.take_append_drop] at this
 omega
set_option maxRecDepth 100000 in
theorem puts_spoilt (B g gp : Nat) (mk ok : Bool) (L : List Nat) (s : ByteArray) (ps : List (Int × Nat)) (w : World) (hO : OutAt B g mk true L w) (hgp : w.heap[gp]? = some (.cells (pairsV ps).toArray 124 (0, 0)))
  (hps : ∀ p ∈ ps, 1 ≤ p.2 ∧ p.2 ≤ 8) (hpl : ps.length ≤ 2) (hs : s.size ≤ 140737488351232) (hl : L.length ≤ 65536) (hB : B ≤ w.heap.size) :
  Calls Tryd.prog 88 #[.pointer (some ⟨g, 0, none⟩), .bool ok, .string s, .slice (some ⟨gp, 0, none⟩) ps.length ps.length] w fun e w' => e = .returned (.tuple #[]) ∧ OutAt B g mk true L w' ∧ FrO w w' ∧ Below B w w' := by
 have hsm : sumN ps ≤ 16 := sum_small ps hpl (fun q hq => (hps q hq).2)
 go_enter Tryd.func88, Tryd.ntmps88
 go_wp2_with (fail)
 go_loopw [8, 21] (fun n i wr => ∃ k : Nat, k ≤ ps.length ∧ i = .int .i64 k ∧ n = .int .i64 ((s.size + sumN (ps.take k) : Nat) : Int) ∧ Aside0 (Below w.heap.size w wr)) (fun _ i _ => ps.length - (intOf i).toNat)
 case atStart => exact ⟨0, by omega, rfl, rfl, ⟨Below.refl _ _⟩⟩
 case round =>
  obtain ⟨k, hk, rfl, rfl, HB1⟩ := hrel
  have hsum : s.size + sumN (ps.take k) ≤ 140737488351248 := by have := sum_take_le ps k; omega
  by_cases hlt : k < ps.length
  ·obtain ⟨⟨p, m⟩, hp⟩ : ∃ p, ps[k]? = some p := ⟨_, List.getElem?_eq_getElem hlt⟩
   have hm := hps _ (List.mem_of_getElem? hp)
   have hm1 : m ≤ 8 := hm.2
   have c0 : wr.cell? ⟨gp, k * 2, none⟩ = some (.int .i64 p) := pair_cell HB1.out hgp hp 0 (by omega)
   have c1 : wr.cell? ⟨gp, k * 2 + 1, none⟩ = some (.int .i64 (m : Int)) := pair_cell HB1.out hgp hp 1 (by omega)
   have HP := Aside0.mk hp
   clear hp hm
   go_wp2_with (fail)
   refine ⟨⟨k + 1, by omega, by go_num, ?_, ⟨below_alloc HB1.out _⟩⟩, by simp [intOf]; omega⟩
   rw [sum_next HP.out, ← Nat.add_assoc]
   go_num
  ·obtain rfl : k = ps.length := by omega
   clear hlt hk
   rw [List.take_length] at hsum ⊢
   have HO1 := Aside0.mk (hO.below HB1.out)
   generalize hN : s.size + sumN ps = N at hsum ⊢
   have HN := Aside0.mk hN
   obtain ⟨hBg, v, hbk, hown⟩ := HO1.out
   obtain ⟨A, c, rfl⟩ := own_slice hown
   have g1 : wr.cell? ⟨g, 1, none⟩ = some (.bool true) := by rw [cell_of_row wr g _ _ _ _ hbk]; rfl
   have g2 : wr.cell? ⟨g, 2, none⟩ = some (.slice A L.length c) := by rw [cell_of_row wr g _ _ _ _ hbk]; rfl
   have f1 : wr.frozen? ⟨g, 1, none⟩ = false := blk_thaw hbk 1
   have HO2 := Aside0.mk (HO1.out.flag true)
   have HF2 := Aside0.mk (HO1.out.fro (FrO.of_below HB1.out) 1 (.bool true))
   have HB2 := Aside0.mk (((HB1.out.mono hB).setCell (p := ⟨g, 1, none⟩) hBg (.bool true)))
   clear hN hbk hown hgp hO
   go_wp2_with (fail)
   refine bodyPost_ret (v := .tuple #[]) (by simp [results, Tryd.results88, go_sem]) rfl ?_
   exact ⟨rfl, HO2.out, HF2.out, HB2.out⟩
set_option maxRecDepth 100000 in
theorem puts_no (B g gp : Nat) (mk : Bool) (L : List Nat) (s : ByteArray) (ps : List (Int × Nat)) (w : World) (hO : OutAt B g mk false L w) (hgp : w.heap[gp]? = some (.cells (pairsV ps).toArray 124 (0, 0)))
  (hps : ∀ p ∈ ps, 1 ≤ p.2 ∧ p.2 ≤ 8) (hpl : ps.length ≤ 2) (hs : s.size ≤ 140737488351232) (hl : L.length ≤ 65536) (hB : B ≤ w.heap.size) :
  Calls Tryd.prog 88 #[.pointer (some ⟨g, 0, none⟩), .bool false, .string s, .slice (some ⟨gp, 0, none⟩) ps.length ps.length] w fun e w' => e = .returned (.tuple #[]) ∧ OutAt B g mk true L w' ∧ FrO w w' ∧ Below B w w' := by
 have hsm : sumN ps ≤ 16 := sum_small ps hpl (fun q hq => (hps q hq).2)
 go_enter Tryd.func88, Tryd.ntmps88
 go_wp2_with (fail)
 go_loopw [8, 21] (fun n i wr => ∃ k : Nat, k ≤ ps.length ∧ i = .int .i64 k ∧ n = .int .i64 ((s.size + sumN (ps.take k) : Nat) : Int) ∧ Aside0 (Below w.heap.size w wr)) (fun _ i _ => ps.length - (intOf i).toNat)
 case atStart => exact ⟨0, by omega, rfl, rfl, ⟨Below.refl _ _⟩⟩
 case round =>
  obtain ⟨k, hk, rfl, rfl, HB1⟩ := hrel
  have hsum : s.size + sumN (ps.take k) ≤ 140737488351248 := by have := sum_take_le ps k; omega
  by_cases hlt : k < ps.length
  ·obtain ⟨⟨p, m⟩, hp⟩ : ∃ p, ps[k]? = some p := ⟨_, List.getElem?_eq_getElem hlt⟩
   have hm := hps _ (List.mem_of_getElem? hp)
   have hm1 : m ≤ 8 := hm.2
   have c0 : wr.cell? ⟨gp, k * 2, none⟩ = some (.int .i64 p) := pair_cell HB1.out hgp hp 0 (by omega)
   have c1 : wr.cell? ⟨gp, k * 2 + 1, none⟩ = some (.int .i64 (m : Int)) := pair_cell HB1.out hgp hp 1 (by omega)
   have HP := Aside0.mk hp
   clear hp hm
   go_wp2_with (fail)
   refine ⟨⟨k + 1, by omega, by go_num, ?_, ⟨below_alloc HB1.out _⟩⟩, by simp [intOf]; omega⟩
   rw [sum_next HP.out, ← Nat.add_assoc]
   go_num
  ·obtain rfl : k = ps.length := by omega
   clear hlt hk
   rw [List.take_length] at hsum ⊢
   have HO1 := Aside0.mk (hO.below HB1.out)
   generalize hN : s.size + sumN ps = N at hsum ⊢
   have HN := Aside0.mk hN
   obtain ⟨hBg, v, hbk, hown⟩ := HO1.out
   obtain ⟨A, c, rfl⟩ := own_slice hown
   have g1 : wr.cell? ⟨g, 1, none⟩ = some (.bool false) := by rw [cell_of_row wr g _ _ _ _ hbk]; rfl
   have g2 : wr.cell? ⟨g, 2, none⟩ = some (.slice A L.length c) := by rw [cell_of_row wr g _ _ _ _ hbk]; rfl
   have f1 : wr.frozen? ⟨g, 1, none⟩ = false := blk_thaw hbk 1
   have HO2 := Aside0.mk (HO1.out.flag true)
   have HF2 := Aside0.mk (HO1.out.fro (FrO.of_below HB1.out) 1 (.bool true))
   have HB2 := Aside0.mk (((HB1.out.mono hB).setCell (p := ⟨g, 1, none⟩) hBg (.bool true)))
   clear hN hbk hown hgp hO
   go_wp2_with (fail)
   refine bodyPost_ret (v := .tuple #[]) (by simp [results, Tryd.results88, go_sem]) rfl ?_
   exact ⟨rfl, HO2.out, HF2.out, HB2.out⟩
set_option maxRecDepth 100000 in
theorem puts_big (B g gp : Nat) (mk : Bool) (L : List Nat) (s : ByteArray) (ps : List (Int × Nat)) (w : World) (hO : OutAt B g mk false L w) (hgp : w.heap[gp]? = some (.cells (pairsV ps).toArray 124 (0, 0)))
  (hps : ∀ p ∈ ps, 1 ≤ p.2 ∧ p.2 ≤ 8) (hpl : ps.length ≤ 2) (hs : s.size ≤ 140737488351232) (hl : L.length ≤ 65536) (hbig : 65536 < L.length + s.size + sumN ps) (hB : B ≤ w.heap.size) :
  Calls Tryd.prog 88 #[.pointer (some ⟨g, 0, none⟩), .bool true, .string s, .slice (some ⟨gp, 0, none⟩) ps.length ps.length] w fun e w' => e = .returned (.tuple #[]) ∧ OutAt B g mk true L w' ∧ FrO w w' ∧ Below B w w' := by
 have hsm : sumN ps ≤ 16 := sum_small ps hpl (fun q hq => (hps q hq).2)
 go_enter Tryd.func88, Tryd.ntmps88
 go_wp2_with (fail)
 go_loopw [8, 21] (fun n i wr => ∃ k : Nat, k ≤ ps.length ∧ i = .int .i64 k ∧ n = .int .i64 ((s.size + sumN (ps.take k) : Nat) : Int) ∧ Aside0 (Below w.heap.size w wr)) (fun _ i _ => ps.length - (intOf i).toNat)
 case atStart => exact ⟨0, by omega, rfl, rfl, ⟨Below.refl _ _⟩⟩
 case round =>
  obtain ⟨k, hk, rfl, rfl, HB1⟩ := hrel
  have hsum : s.size + sumN (ps.take k) ≤ 140737488351248 := by have := sum_take_le ps k; omega
  by_cases hlt : k < ps.length
  ·obtain ⟨⟨p, m⟩, hp⟩ : ∃ p, ps[k]? = some p := ⟨_, List.getElem?_eq_getElem hlt⟩
   have hm := hps _ (List.mem_of_getElem? hp)
   have hm1 : m ≤ 8 := hm.2
   have c0 : wr.cell? ⟨gp, k * 2, none⟩ = some (.int .i64 p) := pair_cell HB1.out hgp hp 0 (by omega)
   have c1 : wr.cell? ⟨gp, k * 2 + 1, none⟩ = some (.int .i64 (m : Int)) := pair_cell HB1.out hgp hp 1 (by omega)
   have HP := Aside0.mk hp
   clear hp hm
   go_wp2_with (fail)
   refine ⟨⟨k + 1, by omega, by go_num, ?_, ⟨below_alloc HB1.out _⟩⟩, by simp [intOf]; omega⟩
   rw [sum_next HP.out, ← Nat.add_assoc]
   go_num
  ·obtain rfl : k = ps.length := by omega
   clear hlt hk
   rw [List.take_length] at hsum ⊢
   have HO1 := Aside0.mk (hO.below HB1.out)
   generalize hN : s.size + sumN ps = N at hsum ⊢
   have HN := Aside0.mk hN
   obtain ⟨hBg, v, hbk, hown⟩ := HO1.out
   obtain ⟨A, c, rfl⟩ := own_slice hown
   have g1 : wr.cell? ⟨g, 1, none⟩ = some (.bool false) := by rw [cell_of_row wr g _ _ _ _ hbk]; rfl
   have g2 : wr.cell? ⟨g, 2, none⟩ = some (.slice A L.length c) := by rw [cell_of_row wr g _ _ _ _ hbk]; rfl
   have f1 : wr.frozen? ⟨g, 1, none⟩ = false := blk_thaw hbk 1
   have d1 : decide (65536 < (L.length : Int) + (N : Int)) = true := decide_eq_true (by omega)
   have HO2 := Aside0.mk (HO1.out.flag true)
   have HF2 := Aside0.mk (HO1.out.fro (FrO.of_below HB1.out) 1 (.bool true))
   have HB2 := Aside0.mk (((HB1.out.mono hB).setCell (p := ⟨g, 1, none⟩) hBg (.bool true)))
   clear hN hbk hown hgp hO hbig
   go_wp2_with (fail)
   refine bodyPost_ret (v := .tuple #[]) (by simp [results, Tryd.results88, go_sem]) rfl ?_
   exact ⟨rfl, HO2.out, HF2.out, HB2.out⟩
def outStep (bad : Bool) (L : List Nat) (ok : Bool) (M : List Nat) : Bool × List Nat :=
 if bad = true ∨ ok = false ∨ 65536 < L.length + M.length then (true, L) else (false, L ++ M)
theorem puts_all (B g gp : Nat) (mk bad ok : Bool) (L : List Nat) (s : ByteArray) (ps : List (Int × Nat)) (w : World) (hO : OutAt B g mk bad L w) (hgp : w.heap[gp]? = some (.cells (pairsV ps).toArray 124 (0, 0)))
    (hps : ∀ p ∈ ps, 1 ≤ p.2 ∧ p.2 ≤ 8) (hpl : ps.length ≤ 2) (hs : s.size ≤ 140737488351232) (hl : L.length ≤ 65536) (hB : B ≤ w.heap.size) :
    Calls Tryd.prog 88 #[.pointer (some ⟨g, 0, none⟩), .bool ok, .string s, .slice (some ⟨gp, 0, none⟩) ps.length ps.length] w fun e w' => e = .returned (.tuple #[]) ∧
      OutAt B g mk (outStep bad L ok (byAll ps ++ bys s)).1 (outStep bad L ok (byAll ps ++ bys s)).2 w' ∧ FrO w w' ∧ Below B w w' := by
  have hlen : (byAll ps ++ bys s).length = s.size + sumN ps := by rw [List.length_append, byAll_length _ (fun q hq => (hps q hq).2), bys_length, Nat.add_comm]
  cases bad with
  | true => rw [show outStep true L ok (byAll ps ++ bys s) = (true, L) from if_pos (.inl rfl)]; exact puts_spoilt B g gp mk ok L s ps w hO hgp hps hpl hs hl hB
  | false =>
    cases ok with
    | false => rw [show outStep false L false (byAll ps ++ bys s) = (true, L) from if_pos (.inr (.inl rfl))]; exact puts_no B g gp mk L s ps w hO hgp hps hpl hs hl hB
    | true =>
      by_cases hb : 65536 < L.length + s.size + sumN ps
      · rw [show outStep false L true (byAll ps ++ bys s) = (true, L) from if_pos (.inr (.inr (by omega)))]; exact puts_big B g gp mk L s ps w hO hgp hps hpl hs hl hb hB
      · rw [show outStep false L true (byAll ps ++ bys s) = (false, L ++ (byAll ps ++ bys s)) from if_neg (by rintro (h | h | h); cases h; cases h; omega), ← List.append_assoc]
        exact puts_ok B g gp mk L s ps w hO hgp hps hpl (by omega) hB
def oneB (n : Int) : Bool := decide (0 ≤ n ∧ n ≤ 255)
def timeB (n : Int) : Bool := decide (0 ≤ n ∧ n ≤ 1099511627775)
theorem one_f (n : Int) : code_one.f n = some (oneB n) := by
 unfold code_one.f oneB
 split
 ·rename_i h
  congr 1
  simp only [decide_eq_decide]
  omega
 ·rename_i h
  rw [decide_eq_false (by omega)]
theorem time_f (n : Int) : code_time.f n = some (timeB n) := by
 unfold code_time.f timeB
 split
 ·rename_i h
  congr 1
  simp only [decide_eq_decide]
  omega
 ·rename_i h
  rw [decide_eq_false (by omega)]
theorem Out_Byte (B g : Nat) (mk bad : Bool) (L : List Nat) (n : Int) (w : World) (hO : OutAt B g mk bad L w) (hl : L.length ≤ 65536) (hB : B ≤ w.heap.size) :
  Calls Tryd.prog 58 #[.pointer (some ⟨g, 0, none⟩), .int .i64 n] w fun e w' => e = .returned (.tuple #[]) ∧
   OutAt B g mk (outStep bad L (oneB n) (byN n 1)).1 (outStep bad L (oneB n) (byN n 1)).2 w' ∧ FrO w w' ∧ Below B w w' := by
 have HO := Aside0.mk hO
 have h1 := Aside0.mk (one_f n)
 clear hO
 go_enter Tryd.func58, Tryd.ntmps58
 go_wp2_with (fail)
 refine (code_one.calls n _ w h1.out).mono ?_
 rintro e w1 ⟨rfl, ⟨nd, rfl⟩⟩
 go_wp2_with (fail)
 have hO1 : OutAt B g mk bad L ((w.drewN nd).alloc (.cells #[.int .i64 n, .int .i64 1] 124)) := (HO.out.drewN nd).alloc _
 have hp : ((w.drewN nd).alloc (.cells #[.int .i64 n, .int .i64 1] 124)).heap[w.heap.size]? = some (.cells (pairsV [(n, 1)]).toArray 124 (0, 0)) := heap_alloc_new (w.drewN nd) _
 have hF : FrO w ((w.drewN nd).alloc (.cells #[.int .i64 n, .int .i64 1] 124)) := ((FrO.refl w).drewN nd).alloc _
 have hBl : Below B w ((w.drewN nd).alloc (.cells #[.int .i64 n, .int .i64 1] 124)) := (pw_below_drewN (Below.refl B w) nd).alloc hB _
 refine (puts_all B g w.heap.size mk bad (oneB n) L ⟨#[]⟩ [(n, 1)] _ hO1 hp (by simp) (by simp) (by decide) hl (Nat.le_trans hB hF.1)).mono ?_
 rintro e w1 ⟨rfl, h2, h3, h4⟩
 have H2 := Aside0.mk h2
 have H3 := Aside0.mk (hF.trans h3)
 have H4 := Aside0.mk (hBl.trans h4)
 clear h2 h3 h4 hO1 hp hF hBl
 go_wp2_with (fail)
 go_end0
 exact ⟨rfl, by simpa [byAll, bys] using H2.out, H3.out, H4.out⟩
theorem Out_Num (B g : Nat) (mk bad : Bool) (L : List Nat) (n : Int) (w : World) (hO : OutAt B g mk bad L w) (hl : L.length ≤ 65536) (hB : B ≤ w.heap.size) :
  Calls Tryd.prog 56 #[.pointer (some ⟨g, 0, none⟩), .int .i64 n] w fun e w' => e = .returned (.tuple #[]) ∧
   OutAt B g mk (outStep bad L (timeB n) (byN n 6)).1 (outStep bad L (timeB n) (byN n 6)).2 w' ∧ FrO w w' ∧ Below B w w' := by
 have HO := Aside0.mk hO
 have h1 := Aside0.mk (time_f n)
 clear hO
 go_enter Tryd.func56, Tryd.ntmps56
 go_wp2_with (fail)
 refine (code_time.calls n _ w h1.out).mono ?_
 rintro e w1 ⟨rfl, ⟨nd, rfl⟩⟩
 go_wp2_with (fail)
 have hO1 : OutAt B g mk bad L ((w.drewN nd).alloc (.cells #[.int .i64 n, .int .i64 6] 124)) := (HO.out.drewN nd).alloc _
 have hp : ((w.drewN nd).alloc (.cells #[.int .i64 n, .int .i64 6] 124)).heap[w.heap.size]? = some (.cells (pairsV [(n, 6)]).toArray 124 (0, 0)) := heap_alloc_new (w.drewN nd) _
 have hF : FrO w ((w.drewN nd).alloc (.cells #[.int .i64 n, .int .i64 6] 124)) := ((FrO.refl w).drewN nd).alloc _
 have hBl : Below B w ((w.drewN nd).alloc (.cells #[.int .i64 n, .int .i64 6] 124)) := (pw_below_drewN (Below.refl B w) nd).alloc hB _
 refine (puts_all B g w.heap.size mk bad (timeB n) L ⟨#[]⟩ [(n, 6)] _ hO1 hp (by simp) (by simp) (by decide) hl (Nat.le_trans hB hF.1)).mono ?_
 rintro e w1 ⟨rfl, h2, h3, h4⟩
 have H2 := Aside0.mk h2
 have H3 := Aside0.mk (hF.trans h3)
 have H4 := Aside0.mk (hBl.trans h4)
 clear h2 h3 h4 hO1 hp hF hBl
 go_wp2_with (fail)
 go_end0
 exact ⟨rfl, by simpa [byAll, bys] using H2.out, H3.out, H4.out⟩
theorem cellsN_nums (l : List Nat) : cellsN l = nums .u8 (l.map fun (n : Nat) => (n : Int)) := by simp [cellsN, nums]
theorem Out_Done (B g : Nat) (L : List Nat) (w : World) (hO : OutAt B g true false L w) :
  Calls Tryd.prog 59 #[.pointer (some ⟨g, 0, none⟩)] w fun e w' => e = .returned (.tuple #[.string (txt L), .int .i64 0]) ∧ w = w' := by
 obtain ⟨hBg, v, hbk, hown⟩ := hO
 obtain ⟨A, c, rfl⟩ := own_slice hown
 have g0 : w.cell? ⟨g, 0, none⟩ = some (.bool true) := by rw [cell_of_row w g _ _ _ _ hbk]; rfl
 have g1 : w.cell? ⟨g, 1, none⟩ = some (.bool false) := by rw [cell_of_row w g _ _ _ _ hbk]; rfl
 have g2 : w.cell? ⟨g, 2, none⟩ = some (.slice A L.length c) := by rw [cell_of_row w g _ _ _ _ hbk]; rfl
 rw [cellsN_nums, ← List.length_map (f := fun (n : Nat) => (n : Int))] at hown
 have hcv := own_string (P := Tryd.prog) Tryd.underlying53 Tryd.underlying5 Tryd.underlying9 hown
 rw [str_nats, List.length_map] at hcv
 clear hbk hown
 go_enter Tryd.func59, Tryd.ntmps59
 go_wp2_with (fail)
 go_ret2
 exact ⟨rfl, rfl⟩
theorem NewOut_calls (B : Nat) (w : World) (hB : B ≤ w.heap.size) :
  Calls Tryd.prog 55 #[] w fun e w' => e = .returned (.pointer (some ⟨w.heap.size, 0, none⟩)) ∧ OutAt B w.heap.size true false [] w' ∧ Below w.heap.size w w' := by
 go_enter Tryd.func55, Tryd.ntmps55
 go_wp2_with (fail)
 go_ret
 exact ⟨rfl, ⟨hB, _, heap_alloc_new w _, own_nil _ _ _ _⟩, below_alloc (Below.refl _ _) _⟩
section
open Go.RowKit Go.Deep Go.Proofs.YthemhfloablccaaDoorW.PrintWords Go.Proofs.YthemhfloablccaaDoorW.PrintLast Go.Proofs.YthemhfloablccaaDoorW.PrintMore
set_option maxHeartbeats 1000000
attribute [local go_sem ↓] Go.wp_at_zero Go.wp_at_succ
end
end
end Go.Proofs.YthemhfloablccaaDoor.Pr
end

section
namespace Go.Proofs.YthemhfloablccaaDoor.Pr
open Go.RowKit Go.Proofs.YthemhfloablccaaDoorW.PrintWords Go.Proofs.YthemhfloablccaaDoorW.PrintLast Go.Proofs.YthemhfloablccaaDoorW.PrintMore
attribute [local go_sem] max2_int min2_int max_two min_two max_three min_three max_four min_four
def IsS128 (w0 W : World) (g : Nat) (f0 : Bool) (f1 : ByteArray) (f2 : Int) : Prop := W.heap[g]? = some (.cells #[.bool f0, .string f1, .int .i64 f2] 128 (0, 0)) ∧ w0.heap.size ≤ g
theorem IsS128.grown {w0 W : World} {g : Nat} {f0 : Bool} {f1 : ByteArray} {f2 : Int} {W1 : World} {row : Option Nat} (h : IsS128 w0 W g f0 f1 f2) (hw : W.grownBy W1 row) (hne : some g ≠ row) : IsS128 w0 W1 g f0 f1 f2 := by
 obtain ⟨hb, hg⟩ := h; exact ⟨blk_grown hb hw hne, hg⟩
theorem IsS128.below {w0 W : World} {g : Nat} {f0 : Bool} {f1 : ByteArray} {f2 : Int} {W1 : World} (h : IsS128 w0 W g f0 f1 f2) (hw : Below W.heap.size W W1) : IsS128 w0 W1 g f0 f1 f2 := h.grown (grown_of_below hw none) (by simp)
theorem IsS128.alloc {w0 W : World} {g : Nat} {f0 : Bool} {f1 : ByteArray} {f2 : Int} (h : IsS128 w0 W g f0 f1 f2) (o : Obj) : IsS128 w0 (W.alloc o) g f0 f1 f2 := h.below (below_alloc (Below.refl _ _) o)
theorem IsS128.drewN {w0 W : World} {g : Nat} {f0 : Bool} {f1 : ByteArray} {f2 : Int} (h : IsS128 w0 W g f0 f1 f2) (m : Nat) : IsS128 w0 (W.drewN m) g f0 f1 f2 := h
theorem IsS128.drew {w0 W : World} {g : Nat} {f0 : Bool} {f1 : ByteArray} {f2 : Int} (h : IsS128 w0 W g f0 f1 f2) : IsS128 w0 W.drew g f0 f1 f2 := h
theorem IsS128.apart {w0 W : World} {g : Nat} {f0 : Bool} {f1 : ByteArray} {f2 : Int} {α : Type} {d : Kd α} {e : Nat} {base : Nat} {ok : Nat → Prop} {v : Value} {xs : List α} (h : IsS128 w0 W g f0 f1 f2) (ho : d.R e W base ok v xs) (ht : ∀ q, q ∈ e :: d.E → q ≠ 128) : d.R e W base (fun k => ok k ∧ k ≠ g) v xs := by
 obtain ⟨hb, hg⟩ := h; exact Kd.R_types ho hb ht
theorem IsS128.own_ne {w0 W : World} {g : Nat} {f0 : Bool} {f1 : ByteArray} {f2 : Int} {α : Type} {d : Kd α} {e : Nat} {base : Nat} {ok : Nat → Prop} {v : Value} {xs : List α} (h : IsS128 w0 W g f0 f1 f2) (ho : d.R e W base ok v xs) (ht : e ≠ 128) : some g ≠ v.ownBlock := by
 obtain ⟨hb, hg⟩ := h; exact Kd.R_ne ho hb ht
theorem IsS128.lt {w0 W : World} {g : Nat} {f0 : Bool} {f1 : ByteArray} {f2 : Int} (h : IsS128 w0 W g f0 f1 f2) : g < W.heap.size := by
 obtain ⟨hb, hg⟩ := h; exact blk_lt hb
theorem IsS128.ge {w0 W : World} {g : Nat} {f0 : Bool} {f1 : ByteArray} {f2 : Int} (h : IsS128 w0 W g f0 f1 f2) : w0.heap.size ≤ g := by
 obtain ⟨hb, hg⟩ := h; exact hg
theorem IsS128.ne_blk {w0 W : World} {g : Nat} {f0 : Bool} {f1 : ByteArray} {f2 : Int} {a : Nat} {cs : Array Value} {t : TypeId} {fr : Nat × Nat} (h : IsS128 w0 W g f0 f1 f2) (hb2 : W.heap[a]? = some (.cells cs t fr)) (ht : t ≠ 128) : g ≠ a := by
 obtain ⟨hb, hg⟩ := h; rintro rfl; rw [hb] at hb2; injection hb2 with hb2
 injection hb2 with _ ht2
 exact ht ht2.symm
theorem IsS128.far {w0 W : World} {g : Nat} {f0 : Bool} {f1 : ByteArray} {f2 : Int} {p : Addr} (h : IsS128 w0 W g f0 f1 f2) (hne : g ≠ p.block) (u : Value) : IsS128 w0 (W.setCell p u) g f0 f1 f2 := by
 obtain ⟨hb, hg⟩ := h; exact ⟨blk_far hb hne u, hg⟩
theorem cellS128_0 {W : World} {g : Nat} {f0 : Bool} {f1 : ByteArray} {f2 : Int} (h : W.heap[g]? = some (.cells #[.bool f0, .string f1, .int .i64 f2] 128 (0, 0))) : W.cell? ⟨g, 0, none⟩ = some (.bool f0) := (blk_cell h 0).trans rfl
theorem IsS128.set_0 {w0 W : World} {g : Nat} {f0 : Bool} {f1 : ByteArray} {f2 : Int} (h : IsS128 w0 W g f0 f1 f2) (x : Bool) : IsS128 w0 (W.setCell ⟨g, 0, none⟩ (.bool x)) g x f1 f2 := by
 obtain ⟨hb, hg⟩ := h; exact ⟨by simpa using blk_set hb 0 (.bool x), hg⟩
theorem cellS128_1 {W : World} {g : Nat} {f0 : Bool} {f1 : ByteArray} {f2 : Int} (h : W.heap[g]? = some (.cells #[.bool f0, .string f1, .int .i64 f2] 128 (0, 0))) : W.cell? ⟨g, 1, none⟩ = some (.string f1) := (blk_cell h 1).trans rfl
theorem IsS128.set_1 {w0 W : World} {g : Nat} {f0 : Bool} {f1 : ByteArray} {f2 : Int} (h : IsS128 w0 W g f0 f1 f2) (x : ByteArray) : IsS128 w0 (W.setCell ⟨g, 1, none⟩ (.string x)) g f0 x f2 := by
 obtain ⟨hb, hg⟩ := h; exact ⟨by simpa using blk_set hb 1 (.string x), hg⟩
theorem cellS128_2 {W : World} {g : Nat} {f0 : Bool} {f1 : ByteArray} {f2 : Int} (h : W.heap[g]? = some (.cells #[.bool f0, .string f1, .int .i64 f2] 128 (0, 0))) : W.cell? ⟨g, 2, none⟩ = some (.int .i64 f2) := (blk_cell h 2).trans rfl
theorem IsS128.set_2 {w0 W : World} {g : Nat} {f0 : Bool} {f1 : ByteArray} {f2 : Int} (h : IsS128 w0 W g f0 f1 f2) (x : Int) : IsS128 w0 (W.setCell ⟨g, 2, none⟩ (.int .i64 x)) g f0 f1 x := by
 obtain ⟨hb, hg⟩ := h; exact ⟨by simpa using blk_set hb 2 (.int .i64 x), hg⟩
def code_NewIn.f (a0 : ByteArray) : Option (Bool × ByteArray × Int) := some (true, a0, 0)
set_option maxHeartbeats 8000000 in
set_option maxRecDepth 100000 in
theorem code_NewIn.calls (a0 : ByteArray) (r1 : Bool) (r2 : ByteArray) (r3 : Int) (w0 w : World) (hB : Below w0.heap.size w0 w) (h : code_NewIn.f a0 = some (r1, r2, r3)) :
  Calls Tryd.prog 63 #[.string a0] w fun e w' => ∃ g_ : Nat, e = .returned (.pointer (some ⟨g_, 0, none⟩)) ∧ IsS128 w0 w' g_ r1 r2 r3 ∧ Below w0.heap.size w0 w' ∧ Below w.heap.size w w' := by
 have hu128 := Tryd.underlying128; have HBW := Aside0.mk (Below.refl w.heap.size w); have HW0 := Aside0.mk hB.size; have HB := Aside0.mk hB; clear hB; have H : (some (true, a0, 0)) = some (r1, r2, r3) := h; clear h; simp only [Option.some.injEq, Prod.mk.injEq] at H; obtain ⟨rfl, rfl, rfl⟩ := H; go_enter Tryd.func63, Tryd.ntmps63
 go_wp2_with (first | ((with_reducible refine gate_dst (N := 5) rfl ?_); refine box_event ?hg (N := 5) ?hd (cs := #[.bool true, .string a0, .int .i64 0]) (t := 128) ?hr ?_; (case hd => rfl); (case hg => rfl); (case hr => first | (go_simp; done) | (go_simp; rfl)); intro gb138 hg w2 hbox hb; have n0_ := Aside0.mk (below_step HBW.out hb); have n1_ := Aside0.mk (below_step hb_ hb); have n2_ := Aside0.mk (hbox); have n3_ := Aside0.mk ((by rw [hg]; exact (below_size (by repeat (first | (with_reducible first | exact HBW.out | apply below_alloc | apply pw_below_drewN | apply below_drew1) | exact HBW.out))) : w.heap.size ≤ gb138)); have n4_ := Aside0.mk ((Nat.le_trans HW0.out (by rw [hg]; exact (below_size (by repeat (first | (with_reducible first | exact HBW.out | apply below_alloc | apply pw_below_drewN | apply below_drew1) | exact HBW.out))) : w.heap.size ≤ gb138) : w0.heap.size ≤ gb138)); clear HBW; clear HB; have HBW := n0_; have HB := n1_; have BK138 := n2_; have GW138 := n3_; have GE138 := n4_; clear n0_ n1_ n2_ n3_ n4_; clear hb hbox hg))
 go_ret
 exact ⟨_, rfl, (show IsS128 w0 _ gb138 true a0 0 from ⟨by (with_reducible repeat (first | refine blk_drewN ?_ _ | refine blk_drew ?_ | refine blk_alloc ?_ _)); exact BK138.out, GE138.out⟩), by repeat (first | (with_reducible first | exact HB.out | apply below_alloc | apply pw_below_drewN | apply below_drew1 | refine below_set ?_ GE138.out) | exact HB.out), by repeat (first | (with_reducible first | exact HBW.out | apply below_alloc | apply pw_below_drewN | apply below_drew1 | refine below_set ?_ GW138.out) | exact HBW.out)⟩
def code_In_wrong.f (s0_0 : Bool) (s0_1 : ByteArray) (s0_2 : Int) (a1 : Int) : Option (Bool × ByteArray × Int) := if s0_2 = 0 then (some (s0_0, (⟨#[]⟩ : ByteArray), a1)) else (some (s0_0, (⟨#[]⟩ : ByteArray), s0_2))
set_option maxHeartbeats 8000000 in
set_option maxRecDepth 100000 in
theorem code_In_wrong.calls (g : Nat) (s0_0 : Bool) (s0_1 : ByteArray) (s0_2 : Int) (a1 : Int) (r1 : Bool) (r2 : ByteArray) (r3 : Int) (w0 w : World) (hI : IsS128 w0 w g s0_0 s0_1 s0_2) (hB : Below w0.heap.size w0 w) (h : code_In_wrong.f s0_0 s0_1 s0_2 a1 = some (r1, r2, r3)) :
  Calls Tryd.prog 94 #[.pointer (some ⟨g, 0, none⟩), .int .i64 a1] w fun e w' => e = .returned (.tuple #[]) ∧ IsS128 w0 w' g r1 r2 r3 ∧ Below w0.heap.size w0 w' ∧ KeepBut w w' g none := by
 have HI0 := Aside0.mk hI; have HK := Aside0.mk (KeepBut.refl w g none); have HL := Aside0.mk hB.size; clear hI; have HW0 := Aside0.mk hB.size; have HB := Aside0.mk hB; clear hB; have H : (if s0_2 = 0 then (some (s0_0, (⟨#[]⟩ : ByteArray), a1)) else (some (s0_0, (⟨#[]⟩ : ByteArray), s0_2))) = some (r1, r2, r3) := h; clear h; by_cases c3 : s0_2 = 0
 ·rw [if_pos c3] at H; have c3b0 : (s0_2 == 0) = true := beq_iff_eq.mpr c3; have c3b1 : (s0_2 != 0) = false := bne_eq_false_iff_eq.mpr c3; clear c3; simp only [Option.some.injEq, Prod.mk.injEq] at H; obtain ⟨rfl, rfl, rfl⟩ := H; obtain ⟨HGz4, hgz4⟩ := HI0.out; have hcz4_0 := cellS128_0 HGz4; have hcz4_1 := cellS128_1 HGz4; have hcz4_2 := cellS128_2 HGz4; have hfz4_0 := blk_frozen HGz4 0; have hfz4_1 := blk_frozen HGz4 1; have hfz4_2 := blk_frozen HGz4 2; clear HGz4 hgz4; go_enter Tryd.func94, Tryd.ntmps94
  go_wp2; first | go_end0 | ((try simp only [Exit.inBlock, Exit.then]); refine bodyPost_ret (results_none rfl _ _ _) rfl ?_)
  exact ⟨ew_, by repeat (first | (with_reducible first | exact HI0.out | apply IsS128.alloc | apply IsS128.drewN | apply IsS128.drew | apply IsS128.set_0 | apply IsS128.set_1 | apply IsS128.set_2) | exact HI0.out), by repeat (first | (with_reducible first | exact HB.out | apply below_alloc | apply pw_below_drewN | apply below_drew1 | refine below_set ?_ (IsS128.ge HI0.out)) | exact HB.out), by repeat (first | (with_reducible first | exact HK.out | apply KeepBut.set_ | apply keep_drewN | apply keep_drew | apply keep_alloc) | exact HK.out)⟩
 ·rw [if_neg c3] at H; have c3b0 : (s0_2 == 0) = false := beq_eq_false_iff_ne.mpr c3; have c3b1 : (s0_2 != 0) = true := bne_iff_ne.mpr c3; simp only [Option.some.injEq, Prod.mk.injEq] at H; obtain ⟨rfl, rfl, rfl⟩ := H; obtain ⟨HGz5, hgz5⟩ := HI0.out; have hcz5_0 := cellS128_0 HGz5; have hcz5_1 := cellS128_1 HGz5; have hcz5_2 := cellS128_2 HGz5; have hfz5_0 := blk_frozen HGz5 0; have hfz5_1 := blk_frozen HGz5 1; have hfz5_2 := blk_frozen HGz5 2; clear HGz5 hgz5; go_enter Tryd.func94, Tryd.ntmps94
  go_wp2; first | go_end0 | ((try simp only [Exit.inBlock, Exit.then]); refine bodyPost_ret (results_none rfl _ _ _) rfl ?_)
  exact ⟨ew_, by repeat (first | (with_reducible first | exact HI0.out | apply IsS128.alloc | apply IsS128.drewN | apply IsS128.drew | apply IsS128.set_0 | apply IsS128.set_1 | apply IsS128.set_2) | exact HI0.out), by repeat (first | (with_reducible first | exact HB.out | apply below_alloc | apply pw_below_drewN | apply below_drew1 | refine below_set ?_ (IsS128.ge HI0.out)) | exact HB.out), by repeat (first | (with_reducible first | exact HK.out | apply KeepBut.set_ | apply keep_drewN | apply keep_drew | apply keep_alloc) | exact HK.out)⟩
def code_In_take.j0 : Nat → Int → Bool → Bool → ByteArray → Int → Option (ByteArray × Bool × Bool × ByteArray × Int)
 | 0, _, _, _, _, _ => none
 | k + 1, x1, x7, x1000, x1001, x1002 => if x7 = true then (some ((⟨#[]⟩ : ByteArray), false, x1000, x1001, x1002)) else (if x1 > (x1001.size : Int) then ((code_In_wrong.f x1000 x1001 x1002 90).bind fun bt139 => (some ((⟨#[]⟩ : ByteArray), false, bt139.1, bt139.2.1, bt139.2.2))) else (if 0 ≤ x1 then (if x1 ≤ (x1001.size : Int) then (some (x1001.extract 0 (x1 : Int).toNat, true, x1000, x1001.extract (x1 : Int).toNat x1001.size, x1002)) else (none)) else (none)))
def code_In_take.f (k : Nat) (s0_0 : Bool) (s0_1 : ByteArray) (s0_2 : Int) (a1 : Int) : Option (ByteArray × Bool × Bool × ByteArray × Int) := if s0_0 = true then (code_In_take.j0 k a1 (s0_2 != 0) s0_0 s0_1 s0_2) else (code_In_take.j0 k a1 true s0_0 s0_1 s0_2)
set_option maxHeartbeats 8000000 in
set_option maxRecDepth 100000 in
theorem code_In_take.calls (k : Nat) (g : Nat) (s0_0 : Bool) (s0_1 : ByteArray) (s0_2 : Int) (a1 : Int) (r1 : ByteArray) (r2 : Bool) (r3 : Bool) (r4 : ByteArray) (r5 : Int) (w0 w : World) (hI : IsS128 w0 w g s0_0 s0_1 s0_2) (hB : Below w0.heap.size w0 w) (h : code_In_take.f k s0_0 s0_1 s0_2 a1 = some (r1, r2, r3, r4, r5)) :
    Calls Tryd.prog 104 #[.pointer (some ⟨g, 0, none⟩), .int .i64 a1] w fun e w' => e = .returned (.tuple #[.string r1, .bool r2]) ∧ IsS128 w0 w' g r3 r4 r5 ∧ Below w0.heap.size w0 w' ∧ KeepBut w w' g none := by
  have HI0 := Aside0.mk hI; have HK := Aside0.mk (KeepBut.refl w g none); have HL := Aside0.mk hB.size; clear hI; have HW0 := Aside0.mk hB.size; have HB := Aside0.mk hB; clear hB; have H : (if s0_0 = true then (code_In_take.j0 k a1 (s0_2 != 0) s0_0 s0_1 s0_2) else (code_In_take.j0 k a1 true s0_0 s0_1 s0_2)) = some (r1, r2, r3, r4, r5) := h; clear h; have HC3 := Aside0.mk H; clear H; go_enter Tryd.func104, Tryd.ntmps104
  go_upto_region 1 with (fail)
  go_cut [7] (fun v7 wc => ∃ (kq : Nat) (x7_2 : Bool), v7 = .bool x7_2 ∧ Aside0 (code_In_take.j0 kq a1 x7_2 s0_0 s0_1 s0_2 = some (r1, r2, r3, r4, r5)) ∧ Aside0 (kq ≤ k) ∧ Aside0 (IsS128 w0 wc g s0_0 s0_1 s0_2) ∧ Aside0 (KeepBut w wc g none) ∧ Aside0 (Below w0.heap.size w0 wc))
  case first =>
    have H := HC3.out; clear HC3; by_cases c4 : s0_0 = true
    · subst c4; have H1 : (code_In_take.j0 k a1 (s0_2 != 0) true s0_1 s0_2) = some (r1, r2, r3, r4, r5) := by rw [if_pos rfl] at H; exact H
      clear H; have H := H1; clear H1; have H' := Aside0.mk H; clear H; obtain ⟨HGz5, hgz5⟩ := HI0.out; have hcz5_0 := cellS128_0 HGz5; have hcz5_1 := cellS128_1 HGz5; have hcz5_2 := cellS128_2 HGz5; have hfz5_0 := blk_frozen HGz5 0; have hfz5_1 := blk_frozen HGz5 1; have hfz5_2 := blk_frozen HGz5 2; clear HGz5 hgz5; go_wp2; go_meet
      case rel => exact ⟨_, ((s0_2 != 0)), rz_, H', ⟨by first | omega | exact Nat.le_refl _⟩, ⟨by repeat (first | (with_reducible first | exact HI0.out | apply IsS128.alloc | apply IsS128.drewN | apply IsS128.drew | apply IsS128.set_0 | apply IsS128.set_1 | apply IsS128.set_2) | exact HI0.out)⟩, ⟨by repeat (first | (with_reducible first | exact HK.out | apply KeepBut.set_ | apply keep_drewN | apply keep_drew | apply keep_alloc) | exact HK.out)⟩, ⟨by repeat (first | (with_reducible first | exact HB.out | apply below_alloc | apply pw_below_drewN | apply below_drew1 | refine below_set ?_ (IsS128.ge HI0.out)) | exact HB.out)⟩⟩
    · replace c4 := Bool.eq_false_iff.mpr c4; subst c4; have H1 : (code_In_take.j0 k a1 true false s0_1 s0_2) = some (r1, r2, r3, r4, r5) := by rw [if_neg (show ¬ (false = true) by decide)] at H; exact H
      clear H; have H := H1; clear H1; have H' := Aside0.mk H; clear H; obtain ⟨HGz6, hgz6⟩ := HI0.out; have hcz6_0 := cellS128_0 HGz6; have hcz6_1 := cellS128_1 HGz6; have hcz6_2 := cellS128_2 HGz6; have hfz6_0 := blk_frozen HGz6 0; have hfz6_1 := blk_frozen HGz6 1; have hfz6_2 := blk_frozen HGz6 2; clear HGz6 hgz6; go_wp2; go_meet
      case rel => exact ⟨_, (true), rz_, H', ⟨by first | omega | exact Nat.le_refl _⟩, ⟨by repeat (first | (with_reducible first | exact HI0.out | apply IsS128.alloc | apply IsS128.drewN | apply IsS128.drew | apply IsS128.set_0 | apply IsS128.set_1 | apply IsS128.set_2) | exact HI0.out)⟩, ⟨by repeat (first | (with_reducible first | exact HK.out | apply KeepBut.set_ | apply keep_drewN | apply keep_drew | apply keep_alloc) | exact HK.out)⟩, ⟨by repeat (first | (with_reducible first | exact HB.out | apply below_alloc | apply pw_below_drewN | apply below_drew1 | refine below_set ?_ (IsS128.ge HI0.out)) | exact HB.out)⟩⟩
  case rest =>
    clear HC3; obtain ⟨kq, x7_2, rfl, HA, HJ2, HI0, HK, HB⟩ := hcut; cases kq with
    | zero => exact absurd HA.out (by simp [code_In_take.j0])
    | succ kj2 =>
      have H := HA.out; clear HA; simp only [code_In_take.j0] at H; by_cases c7 : x7_2 = true
      · subst c7; have H1 : (some ((⟨#[]⟩ : ByteArray), false, s0_0, s0_1, s0_2)) = some (r1, r2, r3, r4, r5) := by rw [if_pos rfl] at H; exact H
        clear H; have H := H1; clear H1; simp only [Option.some.injEq, Prod.mk.injEq] at H; obtain ⟨rfl, rfl, rfl, rfl, rfl⟩ := H; go_wp2; go_ret2
        exact ⟨ew_, by repeat (first | (with_reducible first | exact HI0.out | apply IsS128.alloc | apply IsS128.drewN | apply IsS128.drew | apply IsS128.set_0 | apply IsS128.set_1 | apply IsS128.set_2) | exact HI0.out), by repeat (first | (with_reducible first | exact HB.out | apply below_alloc | apply pw_below_drewN | apply below_drew1 | refine below_set ?_ (IsS128.ge HI0.out)) | exact HB.out), by repeat (first | (with_reducible first | exact HK.out | apply KeepBut.set_ | apply keep_drewN | apply keep_drew | apply keep_alloc) | exact HK.out)⟩
      · replace c7 := Bool.eq_false_iff.mpr c7; subst c7; have H1 : (if a1 > (s0_1.size : Int) then ((code_In_wrong.f s0_0 s0_1 s0_2 90).bind fun bt139 => (some ((⟨#[]⟩ : ByteArray), false, bt139.1, bt139.2.1, bt139.2.2))) else (if 0 ≤ a1 then (if a1 ≤ (s0_1.size : Int) then (some (s0_1.extract 0 (a1 : Int).toNat, true, s0_0, s0_1.extract (a1 : Int).toNat s0_1.size, s0_2)) else (none)) else (none))) = some (r1, r2, r3, r4, r5) := by rw [if_neg (show ¬ (false = true) by decide)] at H; exact H
        clear H; have H := H1; clear H1; by_cases c8 : a1 > (s0_1.size : Int)
        · rw [if_pos c8] at H; have c8b0 : decide ((s0_1.size : Int) < a1) = true := decide_eq_true c8; clear c8; replace H := Option.bind_eq_some_iff.mp H; obtain ⟨⟨t139, t140, t141⟩, A90, H⟩ := H; try dsimp only at H
          have A9 := Aside0.mk A90; clear A90; simp only [Option.some.injEq, Prod.mk.injEq] at H; obtain ⟨rfl, rfl, rfl, rfl, rfl⟩ := H; obtain ⟨HGz10, hgz10⟩ := HI0.out; have hcz10_0 := cellS128_0 HGz10; have hcz10_1 := cellS128_1 HGz10; have hcz10_2 := cellS128_2 HGz10; have hfz10_0 := blk_frozen HGz10 0; have hfz10_1 := blk_frozen HGz10 1; have hfz10_2 := blk_frozen HGz10 2; clear HGz10 hgz10; go_wp2_with (first | ((with_reducible refine gate_callee (f := 94) rfl ?_); refine gl_ 33 Tryd.func94 #[.pointer (some ⟨g, 0, none⟩), .int .i64 90] ?_; (with_reducible refine (code_In_wrong.calls g s0_0 s0_1 s0_2 90 t139 t140 t141 w0 _ ?side1 ?side2 A9.out).mono ?_); (case side1 => repeat (first | (with_reducible first | exact HI0.out | apply IsS128.alloc | apply IsS128.drewN | apply IsS128.drew | apply IsS128.set_0 | apply IsS128.set_1 | apply IsS128.set_2) | exact HI0.out)); (case side2 => repeat (first | (with_reducible first | exact HB.out | apply below_alloc | apply pw_below_drewN | apply below_drew1 | refine below_set ?_ (IsS128.ge HI0.out)) | exact HB.out)); rintro e w11 ⟨rfl, hi, hb, hk⟩; refine ⟨_, rfl, ?_⟩; replace HK := Aside0.mk (KeepBut.trans (by repeat (first | (with_reducible first | exact HK.out | apply KeepBut.set_ | apply keep_drewN | apply keep_drew | apply keep_alloc) | exact HK.out)) hk (.inl rfl)); replace HB := Aside0.mk (hb); replace HI0 := Aside0.mk (hi)))
          go_ret2
          exact ⟨ew_, by repeat (first | (with_reducible first | exact HI0.out | apply IsS128.alloc | apply IsS128.drewN | apply IsS128.drew | apply IsS128.set_0 | apply IsS128.set_1 | apply IsS128.set_2) | exact HI0.out), by repeat (first | (with_reducible first | exact HB.out | apply below_alloc | apply pw_below_drewN | apply below_drew1 | refine below_set ?_ (IsS128.ge HI0.out)) | exact HB.out), by repeat (first | (with_reducible first | exact HK.out | apply KeepBut.set_ | apply keep_drewN | apply keep_drew | apply keep_alloc) | exact HK.out)⟩
        · rw [if_neg c8] at H; have c8b0 : decide ((s0_1.size : Int) < a1) = false := decide_eq_false c8; clear c8; by_cases c12 : 0 ≤ a1
          · rw [if_pos c12] at H; have c12b0 := eq_true c12; have c12b1 : decide (0 ≤ a1) = true := decide_eq_true c12; clear c12; by_cases c13 : a1 ≤ (s0_1.size : Int)
            · rw [if_pos c13] at H; have c13b0 := eq_true c13; have c13b1 : decide (a1 ≤ (s0_1.size : Int)) = true := decide_eq_true c13; clear c13; have c14b0 := eq_true (of_decide_eq_true as_' : 0 ≤ a1); have c15b0 := eq_true (of_decide_eq_true as_' : a1 ≤ (s0_1.size : Int)); simp only [Option.some.injEq, Prod.mk.injEq] at H; obtain ⟨rfl, rfl, rfl, rfl, rfl⟩ := H; obtain ⟨HGz16, hgz16⟩ := HI0.out; have hcz16_0 := cellS128_0 HGz16; have hcz16_1 := cellS128_1 HGz16; have hcz16_2 := cellS128_2 HGz16; have hfz16_0 := blk_frozen HGz16 0; have hfz16_1 := blk_frozen HGz16 1; have hfz16_2 := blk_frozen HGz16 2; clear HGz16 hgz16; go_wp2; go_ret2
              exact ⟨ew_, by repeat (first | (with_reducible first | exact HI0.out | apply IsS128.alloc | apply IsS128.drewN | apply IsS128.drew | apply IsS128.set_0 | apply IsS128.set_1 | apply IsS128.set_2) | exact HI0.out), by repeat (first | (with_reducible first | exact HB.out | apply below_alloc | apply pw_below_drewN | apply below_drew1 | refine below_set ?_ (IsS128.ge HI0.out)) | exact HB.out), by repeat (first | (with_reducible first | exact HK.out | apply KeepBut.set_ | apply keep_drewN | apply keep_drew | apply keep_alloc) | exact HK.out)⟩
            · rw [if_neg c13] at H; exact absurd H (by simp)
          · rw [if_neg c12] at H; exact absurd H (by simp)
def code_In_number.l0 : Nat → ByteArray → Bool → Int → Int → Int → Bool → ByteArray → Int → Option (Int × Bool × Bool × ByteArray × Int)
 | 0, _, _, _, _, _, _, _, _ => none
 | k + 1, x6, x7, x8, x17, x18, x1000, x1001, x1002 => if x18 < x17 then (if 0 ≤ x18 then (if x18 < (x6.size : Int) then (code_In_number.l0 k x6 x7 (Go.bits .or .i64 (wrap64 (x8 * 256)) (wrap64 (bt x6 x18))) x17 (wrap64 (x18 + 1)) x1000 x1001 x1002) else (none)) else (none)) else (some (x8, x7, x1000, x1001, x1002))
def code_In_number.f (k : Nat) (s0_0 : Bool) (s0_1 : ByteArray) (s0_2 : Int) (a1 : Int) : Option (Int × Bool × Bool × ByteArray × Int) := (code_In_take.f k s0_0 s0_1 s0_2 a1).bind fun bt142 => (code_In_number.l0 k bt142.1 bt142.2.1 0 (bt142.1.size : Int) 0 bt142.2.2.1 bt142.2.2.2.1 bt142.2.2.2.2)
set_option maxHeartbeats 8000000 in
set_option maxRecDepth 100000 in
theorem code_In_number.calls (k : Nat) (g : Nat) (s0_0 : Bool) (s0_1 : ByteArray) (s0_2 : Int) (a1 : Int) (r1 : Int) (r2 : Bool) (r3 : Bool) (r4 : ByteArray) (r5 : Int) (w0 w : World) (hI : IsS128 w0 w g s0_0 s0_1 s0_2) (hB : Below w0.heap.size w0 w) (h : code_In_number.f k s0_0 s0_1 s0_2 a1 = some (r1, r2, r3, r4, r5)) :
    Calls Tryd.prog 93 #[.pointer (some ⟨g, 0, none⟩), .int .i64 a1] w fun e w' => e = .returned (.tuple #[.int .i64 r1, .bool r2]) ∧ IsS128 w0 w' g r3 r4 r5 ∧ Below w0.heap.size w0 w' ∧ KeepBut w w' g none := by
  have HI0 := Aside0.mk hI; have HK := Aside0.mk (KeepBut.refl w g none); have HL := Aside0.mk hB.size; clear hI; have HW0 := Aside0.mk hB.size; have HB := Aside0.mk hB; clear hB; have H : ((code_In_take.f k s0_0 s0_1 s0_2 a1).bind fun bt142 => (code_In_number.l0 k bt142.1 bt142.2.1 0 (bt142.1.size : Int) 0 bt142.2.2.1 bt142.2.2.2.1 bt142.2.2.2.2)) = some (r1, r2, r3, r4, r5) := h; clear h; replace H := Option.bind_eq_some_iff.mp H; obtain ⟨⟨t142, t143, t144, t145, t146⟩, A30, H⟩ := H; try dsimp only at H
  have A3 := Aside0.mk A30; clear A30; have H' := Aside0.mk H; clear H; go_enter Tryd.func93, Tryd.ntmps93
  go_wp2_with (first | ((with_reducible refine gate_callee (f := 104) rfl ?_); refine gl_ 13 Tryd.func104 #[.pointer (some ⟨g, 0, none⟩), .int .i64 a1] ?_; (with_reducible refine (code_In_take.calls k g s0_0 s0_1 s0_2 a1 t142 t143 t144 t145 t146 w0 _ ?side1 ?side2 A3.out).mono ?_); (case side1 => repeat (first | (with_reducible first | exact HI0.out | apply IsS128.alloc | apply IsS128.drewN | apply IsS128.drew | apply IsS128.set_0 | apply IsS128.set_1 | apply IsS128.set_2) | exact HI0.out)); (case side2 => repeat (first | (with_reducible first | exact HB.out | apply below_alloc | apply pw_below_drewN | apply below_drew1 | refine below_set ?_ (IsS128.ge HI0.out)) | exact HB.out)); rintro e w4 ⟨rfl, hi, hb, hk⟩; refine ⟨_, rfl, ?_⟩; replace HK := Aside0.mk (KeepBut.trans (by repeat (first | (with_reducible first | exact HK.out | apply KeepBut.set_ | apply keep_drewN | apply keep_drew | apply keep_alloc) | exact HK.out)) hk (.inl rfl)); replace HB := Aside0.mk (hb); replace HI0 := Aside0.mk (hi)))
  go_loopg [8, 18] k (fun kq v8 v18 w' => ∃ (x8_1 : Int) (x18_1 : Int), v8 = .int .i64 x8_1 ∧ v18 = .int .i64 x18_1 ∧ Aside0 (code_In_number.l0 kq t142 t143 x8_1 (t142.size : Int) x18_1 t144 t145 t146 = some (r1, r2, r3, r4, r5)) ∧ Aside0 (kq ≤ k) ∧ Aside0 (IsS128 w0 w' g t144 t145 t146) ∧ Aside0 (KeepBut w w' g none) ∧ Aside0 (Below w0.heap.size w0 w'))
  case atStart => exact ⟨(0), (0), rz_, rz_, H', ⟨Nat.le_refl _⟩, ⟨by repeat (first | (with_reducible first | exact HI0.out | apply IsS128.alloc | apply IsS128.drewN | apply IsS128.drew | apply IsS128.set_0 | apply IsS128.set_1 | apply IsS128.set_2) | exact HI0.out)⟩, ⟨by repeat (first | (with_reducible first | exact HK.out | apply KeepBut.set_ | apply keep_drewN | apply keep_drew | apply keep_alloc) | exact HK.out)⟩, ⟨by repeat (first | (with_reducible first | exact HB.out | apply below_alloc | apply pw_below_drewN | apply below_drew1 | refine below_set ?_ (IsS128.ge HI0.out)) | exact HB.out)⟩⟩
  case round =>
    clear H'; obtain ⟨x8_1, x18_1, rfl, rfl, HA, HK1, HI0, HK, HB⟩ := hrel; cases gk with
    | zero => exact absurd HA.out (by simp [code_In_number.l0])
    | succ k1 =>
      have H := HA.out; clear HA; simp only [code_In_number.l0] at H; by_cases c5 : x18_1 < (t142.size : Int)
      · rw [if_pos c5] at H; have c5b0 : decide (x18_1 < (t142.size : Int)) = true := decide_eq_true c5; clear c5; by_cases c6 : 0 ≤ x18_1
        · rw [if_pos c6] at H; have c6b0 : decide (0 ≤ x18_1) = true := decide_eq_true c6; clear c6; by_cases c7 : x18_1 < (t142.size : Int)
          · rw [if_pos c7] at H; have c7b0 : decide (x18_1 < (t142.size : Int)) = true := decide_eq_true c7; clear c7; have H' := Aside0.mk H; clear H; have p8 : 0 ≤ (x18_1 : Int) := of_decide_eq_true as_'; have q8 : x18_1 < (t142.size : Int) := of_decide_eq_true as_'; have hx8 := bt_at t142 x18_1; replace p8 := eq_true p8; replace q8 := eq_true q8; go_wp2; go_roundg k1
            case measure => have := HK1.out; omega
            case rel => exact ⟨(Go.bits .or .i64 (wrap64 (x8_1 * 256)) (wrap64 (bt t142 x18_1))), (wrap64 (x18_1 + 1)), rz_, rz_, H', ⟨by have := HK1.out; omega⟩, ⟨by repeat (first | (with_reducible first | exact HI0.out | apply IsS128.alloc | apply IsS128.drewN | apply IsS128.drew | apply IsS128.set_0 | apply IsS128.set_1 | apply IsS128.set_2) | exact HI0.out)⟩, ⟨by repeat (first | (with_reducible first | exact HK.out | apply KeepBut.set_ | apply keep_drewN | apply keep_drew | apply keep_alloc) | exact HK.out)⟩, ⟨by repeat (first | (with_reducible first | exact HB.out | apply below_alloc | apply pw_below_drewN | apply below_drew1 | refine below_set ?_ (IsS128.ge HI0.out)) | exact HB.out)⟩⟩
          · rw [if_neg c7] at H; exact absurd H (by simp)
        · rw [if_neg c6] at H; exact absurd H (by simp)
      · rw [if_neg c5] at H; have c5b0 : decide (x18_1 < (t142.size : Int)) = false := decide_eq_false c5; clear c5; simp only [Option.some.injEq, Prod.mk.injEq] at H; obtain ⟨rfl, rfl, rfl, rfl, rfl⟩ := H; go_wp2; go_ret2
        exact ⟨ew_, by repeat (first | (with_reducible first | exact HI0.out | apply IsS128.alloc | apply IsS128.drewN | apply IsS128.drew | apply IsS128.set_0 | apply IsS128.set_1 | apply IsS128.set_2) | exact HI0.out), by repeat (first | (with_reducible first | exact HB.out | apply below_alloc | apply pw_below_drewN | apply below_drew1 | refine below_set ?_ (IsS128.ge HI0.out)) | exact HB.out), by repeat (first | (with_reducible first | exact HK.out | apply KeepBut.set_ | apply keep_drewN | apply keep_drew | apply keep_alloc) | exact HK.out)⟩
def code_In_Num.f (k : Nat) (s0_0 : Bool) (s0_1 : ByteArray) (s0_2 : Int) : Option (Int × Bool × ByteArray × Int) := (code_In_number.f k s0_0 s0_1 s0_2 6).bind fun bt147 => (if bt147.2.1 = true then ((code_time.f bt147.1).bind fun t152 => (if t152 = true then (some (bt147.1, bt147.2.2.1, bt147.2.2.2.1, bt147.2.2.2.2)) else ((code_In_wrong.f bt147.2.2.1 bt147.2.2.2.1 bt147.2.2.2.2 91).bind fun bt153 => (some (0, bt153.1, bt153.2.1, bt153.2.2))))) else (some (bt147.1, bt147.2.2.1, bt147.2.2.2.1, bt147.2.2.2.2)))
set_option maxHeartbeats 8000000 in
set_option maxRecDepth 100000 in
theorem code_In_Num.calls (k : Nat) (g : Nat) (s0_0 : Bool) (s0_1 : ByteArray) (s0_2 : Int) (r1 : Int) (r2 : Bool) (r3 : ByteArray) (r4 : Int) (w0 w : World) (hI : IsS128 w0 w g s0_0 s0_1 s0_2) (hB : Below w0.heap.size w0 w) (h : code_In_Num.f k s0_0 s0_1 s0_2 = some (r1, r2, r3, r4)) :
  Calls Tryd.prog 64 #[.pointer (some ⟨g, 0, none⟩)] w fun e w' => e = .returned (.int .i64 r1) ∧ IsS128 w0 w' g r2 r3 r4 ∧ Below w0.heap.size w0 w' ∧ KeepBut w w' g none := by
 have HI0 := Aside0.mk hI; have HK := Aside0.mk (KeepBut.refl w g none); have HL := Aside0.mk hB.size; clear hI; have HW0 := Aside0.mk hB.size; have HB := Aside0.mk hB; clear hB; have H : ((code_In_number.f k s0_0 s0_1 s0_2 6).bind fun bt147 => (if bt147.2.1 = true then ((code_time.f bt147.1).bind fun t152 => (if t152 = true then (some (bt147.1, bt147.2.2.1, bt147.2.2.2.1, bt147.2.2.2.2)) else ((code_In_wrong.f bt147.2.2.1 bt147.2.2.2.1 bt147.2.2.2.2 91).bind fun bt153 => (some (0, bt153.1, bt153.2.1, bt153.2.2))))) else (some (bt147.1, bt147.2.2.1, bt147.2.2.2.1, bt147.2.2.2.2)))) = some (r1, r2, r3, r4) := h; clear h; replace H := Option.bind_eq_some_iff.mp H; obtain ⟨⟨t147, t148, t149, t150, t151⟩, A20, H⟩ := H; try dsimp only at H
 have A2 := Aside0.mk A20; clear A20; by_cases c3 : t148 = true
 ·subst c3; have H1 : ((code_time.f t147).bind fun t152 => (if t152 = true then (some (t147, t149, t150, t151)) else ((code_In_wrong.f t149 t150 t151 91).bind fun bt153 => (some (0, bt153.1, bt153.2.1, bt153.2.2))))) = some (r1, r2, r3, r4) := by rw [if_pos rfl] at H; exact H
  clear H; have H := H1; clear H1; replace H := Option.bind_eq_some_iff.mp H; obtain ⟨t152, A40, H⟩ := H; have A4 := Aside0.mk A40; clear A40; by_cases c5 : t152 = true
  ·subst c5; have H1 : (some (t147, t149, t150, t151)) = some (r1, r2, r3, r4) := by rw [if_pos rfl] at H; exact H
   clear H; have H := H1; clear H1; simp only [Option.some.injEq, Prod.mk.injEq] at H; obtain ⟨rfl, rfl, rfl, rfl⟩ := H; go_enter Tryd.func64, Tryd.ntmps64
   go_wp2_with (first | ((with_reducible refine gate_callee (f := 93) rfl ?_); refine gl_ 7 Tryd.func93 #[.pointer (some ⟨g, 0, none⟩), .int .i64 6] ?_; (with_reducible refine (code_In_number.calls k g s0_0 s0_1 s0_2 6 t147 true t149 t150 t151 w0 _ ?side1 ?side2 A2.out).mono ?_); (case side1 => repeat (first | (with_reducible first | exact HI0.out | apply IsS128.alloc | apply IsS128.drewN | apply IsS128.drew | apply IsS128.set_0 | apply IsS128.set_1 | apply IsS128.set_2) | exact HI0.out)); (case side2 => repeat (first | (with_reducible first | exact HB.out | apply below_alloc | apply pw_below_drewN | apply below_drew1 | refine below_set ?_ (IsS128.ge HI0.out)) | exact HB.out)); rintro e w6 ⟨rfl, hi, hb, hk⟩; refine ⟨_, rfl, ?_⟩; replace HK := Aside0.mk (KeepBut.trans (by repeat (first | (with_reducible first | exact HK.out | apply KeepBut.set_ | apply keep_drewN | apply keep_drew | apply keep_alloc) | exact HK.out)) hk (.inl rfl)); replace HB := Aside0.mk (hb); replace HI0 := Aside0.mk (hi)) | (go_at_call 89; (with_reducible refine (code_time.calls t147 true _ A4.out).mono ?_); rintro e w' ⟨rfl, ⟨nd, rfl⟩⟩))
   go_ret
   exact ⟨ew_, by repeat (first | (with_reducible first | exact HI0.out | apply IsS128.alloc | apply IsS128.drewN | apply IsS128.drew | apply IsS128.set_0 | apply IsS128.set_1 | apply IsS128.set_2) | exact HI0.out), by repeat (first | (with_reducible first | exact HB.out | apply below_alloc | apply pw_below_drewN | apply below_drew1 | refine below_set ?_ (IsS128.ge HI0.out)) | exact HB.out), by repeat (first | (with_reducible first | exact HK.out | apply KeepBut.set_ | apply keep_drewN | apply keep_drew | apply keep_alloc) | exact HK.out)⟩
  ·replace c5 := Bool.eq_false_iff.mpr c5; subst c5; have H1 : ((code_In_wrong.f t149 t150 t151 91).bind fun bt153 => (some (0, bt153.1, bt153.2.1, bt153.2.2))) = some (r1, r2, r3, r4) := by rw [if_neg (show ¬ (false = true) by decide)] at H; exact H
   clear H; have H := H1; clear H1; replace H := Option.bind_eq_some_iff.mp H; obtain ⟨⟨t153, t154, t155⟩, A70, H⟩ := H; try dsimp only at H
   have A7 := Aside0.mk A70; clear A70; simp only [Option.some.injEq, Prod.mk.injEq] at H; obtain ⟨rfl, rfl, rfl, rfl⟩ := H; go_enter Tryd.func64, Tryd.ntmps64
   go_wp2_with (first | ((with_reducible refine gate_callee (f := 93) rfl ?_); refine gl_ 7 Tryd.func93 #[.pointer (some ⟨g, 0, none⟩), .int .i64 6] ?_; (with_reducible refine (code_In_number.calls k g s0_0 s0_1 s0_2 6 t147 true t149 t150 t151 w0 _ ?side1 ?side2 A2.out).mono ?_); (case side1 => repeat (first | (with_reducible first | exact HI0.out | apply IsS128.alloc | apply IsS128.drewN | apply IsS128.drew | apply IsS128.set_0 | apply IsS128.set_1 | apply IsS128.set_2) | exact HI0.out)); (case side2 => repeat (first | (with_reducible first | exact HB.out | apply below_alloc | apply pw_below_drewN | apply below_drew1 | refine below_set ?_ (IsS128.ge HI0.out)) | exact HB.out)); rintro e w8 ⟨rfl, hi, hb, hk⟩; refine ⟨_, rfl, ?_⟩; replace HK := Aside0.mk (KeepBut.trans (by repeat (first | (with_reducible first | exact HK.out | apply KeepBut.set_ | apply keep_drewN | apply keep_drew | apply keep_alloc) | exact HK.out)) hk (.inl rfl)); replace HB := Aside0.mk (hb); replace HI0 := Aside0.mk (hi)) | (go_at_call 89; (with_reducible refine (code_time.calls t147 false _ A4.out).mono ?_); rintro e w' ⟨rfl, ⟨nd, rfl⟩⟩) | ((with_reducible refine gate_callee (f := 94) rfl ?_); refine gl_ 17 Tryd.func94 #[.pointer (some ⟨g, 0, none⟩), .int .i64 91] ?_; (with_reducible refine (code_In_wrong.calls g t149 t150 t151 91 t153 t154 t155 w0 _ ?side1 ?side2 A7.out).mono ?_); (case side1 => repeat (first | (with_reducible first | exact HI0.out | apply IsS128.alloc | apply IsS128.drewN | apply IsS128.drew | apply IsS128.set_0 | apply IsS128.set_1 | apply IsS128.set_2) | exact HI0.out)); (case side2 => repeat (first | (with_reducible first | exact HB.out | apply below_alloc | apply pw_below_drewN | apply below_drew1 | refine below_set ?_ (IsS128.ge HI0.out)) | exact HB.out)); rintro e w9 ⟨rfl, hi, hb, hk⟩; refine ⟨_, rfl, ?_⟩; replace HK := Aside0.mk (KeepBut.trans (by repeat (first | (with_reducible first | exact HK.out | apply KeepBut.set_ | apply keep_drewN | apply keep_drew | apply keep_alloc) | exact HK.out)) hk (.inl rfl)); replace HB := Aside0.mk (hb); replace HI0 := Aside0.mk (hi)))
   go_ret
   exact ⟨ew_, by repeat (first | (with_reducible first | exact HI0.out | apply IsS128.alloc | apply IsS128.drewN | apply IsS128.drew | apply IsS128.set_0 | apply IsS128.set_1 | apply IsS128.set_2) | exact HI0.out), by repeat (first | (with_reducible first | exact HB.out | apply below_alloc | apply pw_below_drewN | apply below_drew1 | refine below_set ?_ (IsS128.ge HI0.out)) | exact HB.out), by repeat (first | (with_reducible first | exact HK.out | apply KeepBut.set_ | apply keep_drewN | apply keep_drew | apply keep_alloc) | exact HK.out)⟩
 ·replace c3 := Bool.eq_false_iff.mpr c3; subst c3; have H1 : (some (t147, t149, t150, t151)) = some (r1, r2, r3, r4) := by rw [if_neg (show ¬ (false = true) by decide)] at H; exact H
  clear H; have H := H1; clear H1; simp only [Option.some.injEq, Prod.mk.injEq] at H; obtain ⟨rfl, rfl, rfl, rfl⟩ := H; go_enter Tryd.func64, Tryd.ntmps64
  go_wp2_with (first | ((with_reducible refine gate_callee (f := 93) rfl ?_); refine gl_ 7 Tryd.func93 #[.pointer (some ⟨g, 0, none⟩), .int .i64 6] ?_; (with_reducible refine (code_In_number.calls k g s0_0 s0_1 s0_2 6 t147 false t149 t150 t151 w0 _ ?side1 ?side2 A2.out).mono ?_); (case side1 => repeat (first | (with_reducible first | exact HI0.out | apply IsS128.alloc | apply IsS128.drewN | apply IsS128.drew | apply IsS128.set_0 | apply IsS128.set_1 | apply IsS128.set_2) | exact HI0.out)); (case side2 => repeat (first | (with_reducible first | exact HB.out | apply below_alloc | apply pw_below_drewN | apply below_drew1 | refine below_set ?_ (IsS128.ge HI0.out)) | exact HB.out)); rintro e w10 ⟨rfl, hi, hb, hk⟩; refine ⟨_, rfl, ?_⟩; replace HK := Aside0.mk (KeepBut.trans (by repeat (first | (with_reducible first | exact HK.out | apply KeepBut.set_ | apply keep_drewN | apply keep_drew | apply keep_alloc) | exact HK.out)) hk (.inl rfl)); replace HB := Aside0.mk (hb); replace HI0 := Aside0.mk (hi)))
  go_ret
  exact ⟨ew_, by repeat (first | (with_reducible first | exact HI0.out | apply IsS128.alloc | apply IsS128.drewN | apply IsS128.drew | apply IsS128.set_0 | apply IsS128.set_1 | apply IsS128.set_2) | exact HI0.out), by repeat (first | (with_reducible first | exact HB.out | apply below_alloc | apply pw_below_drewN | apply below_drew1 | refine below_set ?_ (IsS128.ge HI0.out)) | exact HB.out), by repeat (first | (with_reducible first | exact HK.out | apply KeepBut.set_ | apply keep_drewN | apply keep_drew | apply keep_alloc) | exact HK.out)⟩
def code_In_Byte.f (k : Nat) (s0_0 : Bool) (s0_1 : ByteArray) (s0_2 : Int) : Option (Int × Bool × ByteArray × Int) := (code_In_number.f k s0_0 s0_1 s0_2 1).bind fun bt156 => (some (bt156.1, bt156.2.2.1, bt156.2.2.2.1, bt156.2.2.2.2))
set_option maxHeartbeats 8000000 in
set_option maxRecDepth 100000 in
theorem code_In_Byte.calls (k : Nat) (g : Nat) (s0_0 : Bool) (s0_1 : ByteArray) (s0_2 : Int) (r1 : Int) (r2 : Bool) (r3 : ByteArray) (r4 : Int) (w0 w : World) (hI : IsS128 w0 w g s0_0 s0_1 s0_2) (hB : Below w0.heap.size w0 w) (h : code_In_Byte.f k s0_0 s0_1 s0_2 = some (r1, r2, r3, r4)) :
  Calls Tryd.prog 65 #[.pointer (some ⟨g, 0, none⟩)] w fun e w' => e = .returned (.int .i64 r1) ∧ IsS128 w0 w' g r2 r3 r4 ∧ Below w0.heap.size w0 w' ∧ KeepBut w w' g none := by
 have HI0 := Aside0.mk hI; have HK := Aside0.mk (KeepBut.refl w g none); have HL := Aside0.mk hB.size; clear hI; have HW0 := Aside0.mk hB.size; have HB := Aside0.mk hB; clear hB; have H : ((code_In_number.f k s0_0 s0_1 s0_2 1).bind fun bt156 => (some (bt156.1, bt156.2.2.1, bt156.2.2.2.1, bt156.2.2.2.2))) = some (r1, r2, r3, r4) := h; clear h; replace H := Option.bind_eq_some_iff.mp H; obtain ⟨⟨t156, t157, t158, t159, t160⟩, A20, H⟩ := H; try dsimp only at H
 have A2 := Aside0.mk A20; clear A20; simp only [Option.some.injEq, Prod.mk.injEq] at H; obtain ⟨rfl, rfl, rfl, rfl⟩ := H; go_enter Tryd.func65, Tryd.ntmps65
 go_wp2_with (first | ((with_reducible refine gate_callee (f := 93) rfl ?_); refine gl_ 7 Tryd.func93 #[.pointer (some ⟨g, 0, none⟩), .int .i64 1] ?_; (with_reducible refine (code_In_number.calls k g s0_0 s0_1 s0_2 1 t156 t157 t158 t159 t160 w0 _ ?side1 ?side2 A2.out).mono ?_); (case side1 => repeat (first | (with_reducible first | exact HI0.out | apply IsS128.alloc | apply IsS128.drewN | apply IsS128.drew | apply IsS128.set_0 | apply IsS128.set_1 | apply IsS128.set_2) | exact HI0.out)); (case side2 => repeat (first | (with_reducible first | exact HB.out | apply below_alloc | apply pw_below_drewN | apply below_drew1 | refine below_set ?_ (IsS128.ge HI0.out)) | exact HB.out)); rintro e w3 ⟨rfl, hi, hb, hk⟩; refine ⟨_, rfl, ?_⟩; replace HK := Aside0.mk (KeepBut.trans (by repeat (first | (with_reducible first | exact HK.out | apply KeepBut.set_ | apply keep_drewN | apply keep_drew | apply keep_alloc) | exact HK.out)) hk (.inl rfl)); replace HB := Aside0.mk (hb); replace HI0 := Aside0.mk (hi)))
 go_ret
 exact ⟨ew_, by repeat (first | (with_reducible first | exact HI0.out | apply IsS128.alloc | apply IsS128.drewN | apply IsS128.drew | apply IsS128.set_0 | apply IsS128.set_1 | apply IsS128.set_2) | exact HI0.out), by repeat (first | (with_reducible first | exact HB.out | apply below_alloc | apply pw_below_drewN | apply below_drew1 | refine below_set ?_ (IsS128.ge HI0.out)) | exact HB.out), by repeat (first | (with_reducible first | exact HK.out | apply KeepBut.set_ | apply keep_drewN | apply keep_drew | apply keep_alloc) | exact HK.out)⟩
def code_In_Done.f (s0_0 : Bool) (s0_1 : ByteArray) (s0_2 : Int) : Option (Int × Bool × ByteArray × Int) := if s0_0 = true then (if s0_2 = 0 then (if s0_1.toList = ([] : List UInt8) then (some (s0_2, s0_0, s0_1, s0_2)) else (some (91, s0_0, s0_1, s0_2))) else (some (s0_2, s0_0, s0_1, s0_2))) else (some (91, s0_0, s0_1, s0_2))
set_option maxHeartbeats 8000000 in
set_option maxRecDepth 100000 in
theorem code_In_Done.calls (g : Nat) (s0_0 : Bool) (s0_1 : ByteArray) (s0_2 : Int) (r1 : Int) (r2 : Bool) (r3 : ByteArray) (r4 : Int) (w0 w : World) (hI : IsS128 w0 w g s0_0 s0_1 s0_2) (hB : Below w0.heap.size w0 w) (h : code_In_Done.f s0_0 s0_1 s0_2 = some (r1, r2, r3, r4)) :
  Calls Tryd.prog 66 #[.pointer (some ⟨g, 0, none⟩)] w fun e w' => e = .returned (.int .i64 r1) ∧ IsS128 w0 w' g r2 r3 r4 ∧ Below w0.heap.size w0 w' ∧ KeepBut w w' g none := by
 have HI0 := Aside0.mk hI; have HK := Aside0.mk (KeepBut.refl w g none); have HL := Aside0.mk hB.size; clear hI; have HW0 := Aside0.mk hB.size; have HB := Aside0.mk hB; clear hB; have H : (if s0_0 = true then (if s0_2 = 0 then (if s0_1.toList = ([] : List UInt8) then (some (s0_2, s0_0, s0_1, s0_2)) else (some (91, s0_0, s0_1, s0_2))) else (some (s0_2, s0_0, s0_1, s0_2))) else (some (91, s0_0, s0_1, s0_2))) = some (r1, r2, r3, r4) := h; clear h; by_cases c2 : s0_0 = true
 ·subst c2; have H1 : (if s0_2 = 0 then (if s0_1.toList = ([] : List UInt8) then (some (s0_2, true, s0_1, s0_2)) else (some (91, true, s0_1, s0_2))) else (some (s0_2, true, s0_1, s0_2))) = some (r1, r2, r3, r4) := by rw [if_pos rfl] at H; exact H
  clear H; have H := H1; clear H1; by_cases c3 : s0_2 = 0
  ·rw [if_pos c3] at H; have c3b0 : (s0_2 == 0) = true := beq_iff_eq.mpr c3; have c3b1 : (s0_2 != 0) = false := bne_eq_false_iff_eq.mpr c3; clear c3; by_cases c4 : s0_1.toList = ([] : List UInt8)
   ·rw [if_pos c4] at H; have c4b0 : (s0_1.toList == ([] : List UInt8)) = true := beq_iff_eq.mpr c4; have c4b1 : (s0_1.toList != ([] : List UInt8)) = false := bne_eq_false_iff_eq.mpr c4; clear c4; simp only [Option.some.injEq, Prod.mk.injEq] at H; obtain ⟨rfl, rfl, rfl, rfl⟩ := H; obtain ⟨HGz5, hgz5⟩ := HI0.out; have hcz5_0 := cellS128_0 HGz5; have hcz5_1 := cellS128_1 HGz5; have hcz5_2 := cellS128_2 HGz5; have hfz5_0 := blk_frozen HGz5 0; have hfz5_1 := blk_frozen HGz5 1; have hfz5_2 := blk_frozen HGz5 2; clear HGz5 hgz5; go_enter Tryd.func66, Tryd.ntmps66
    go_wp2; go_ret
    exact ⟨ew_, by repeat (first | (with_reducible first | exact HI0.out | apply IsS128.alloc | apply IsS128.drewN | apply IsS128.drew | apply IsS128.set_0 | apply IsS128.set_1 | apply IsS128.set_2) | exact HI0.out), by repeat (first | (with_reducible first | exact HB.out | apply below_alloc | apply pw_below_drewN | apply below_drew1 | refine below_set ?_ (IsS128.ge HI0.out)) | exact HB.out), by repeat (first | (with_reducible first | exact HK.out | apply KeepBut.set_ | apply keep_drewN | apply keep_drew | apply keep_alloc) | exact HK.out)⟩
   ·rw [if_neg c4] at H; have c4b0 : (s0_1.toList == ([] : List UInt8)) = false := beq_eq_false_iff_ne.mpr c4; have c4b1 : (s0_1.toList != ([] : List UInt8)) = true := bne_iff_ne.mpr c4; simp only [Option.some.injEq, Prod.mk.injEq] at H; obtain ⟨rfl, rfl, rfl, rfl⟩ := H; obtain ⟨HGz6, hgz6⟩ := HI0.out; have hcz6_0 := cellS128_0 HGz6; have hcz6_1 := cellS128_1 HGz6; have hcz6_2 := cellS128_2 HGz6; have hfz6_0 := blk_frozen HGz6 0; have hfz6_1 := blk_frozen HGz6 1; have hfz6_2 := blk_frozen HGz6 2; clear HGz6 hgz6; go_enter Tryd.func66, Tryd.ntmps66
    go_wp2; go_ret
    exact ⟨ew_, by repeat (first | (with_reducible first | exact HI0.out | apply IsS128.alloc | apply IsS128.drewN | apply IsS128.drew | apply IsS128.set_0 | apply IsS128.set_1 | apply IsS128.set_2) | exact HI0.out), by repeat (first | (with_reducible first | exact HB.out | apply below_alloc | apply pw_below_drewN | apply below_drew1 | refine below_set ?_ (IsS128.ge HI0.out)) | exact HB.out), by repeat (first | (with_reducible first | exact HK.out | apply KeepBut.set_ | apply keep_drewN | apply keep_drew | apply keep_alloc) | exact HK.out)⟩
  ·rw [if_neg c3] at H; have c3b0 : (s0_2 == 0) = false := beq_eq_false_iff_ne.mpr c3; have c3b1 : (s0_2 != 0) = true := bne_iff_ne.mpr c3; simp only [Option.some.injEq, Prod.mk.injEq] at H; obtain ⟨rfl, rfl, rfl, rfl⟩ := H; obtain ⟨HGz7, hgz7⟩ := HI0.out; have hcz7_0 := cellS128_0 HGz7; have hcz7_1 := cellS128_1 HGz7; have hcz7_2 := cellS128_2 HGz7; have hfz7_0 := blk_frozen HGz7 0; have hfz7_1 := blk_frozen HGz7 1; have hfz7_2 := blk_frozen HGz7 2; clear HGz7 hgz7; go_enter Tryd.func66, Tryd.ntmps66
   go_wp2; go_ret
   exact ⟨ew_, by repeat (first | (with_reducible first | exact HI0.out | apply IsS128.alloc | apply IsS128.drewN | apply IsS128.drew | apply IsS128.set_0 | apply IsS128.set_1 | apply IsS128.set_2) | exact HI0.out), by repeat (first | (with_reducible first | exact HB.out | apply below_alloc | apply pw_below_drewN | apply below_drew1 | refine below_set ?_ (IsS128.ge HI0.out)) | exact HB.out), by repeat (first | (with_reducible first | exact HK.out | apply KeepBut.set_ | apply keep_drewN | apply keep_drew | apply keep_alloc) | exact HK.out)⟩
 ·replace c2 := Bool.eq_false_iff.mpr c2; subst c2; have H1 : (some (91, false, s0_1, s0_2)) = some (r1, r2, r3, r4) := by rw [if_neg (show ¬ (false = true) by decide)] at H; exact H
  clear H; have H := H1; clear H1; simp only [Option.some.injEq, Prod.mk.injEq] at H; obtain ⟨rfl, rfl, rfl, rfl⟩ := H; obtain ⟨HGz8, hgz8⟩ := HI0.out; have hcz8_0 := cellS128_0 HGz8; have hcz8_1 := cellS128_1 HGz8; have hcz8_2 := cellS128_2 HGz8; have hfz8_0 := blk_frozen HGz8 0; have hfz8_1 := blk_frozen HGz8 1; have hfz8_2 := blk_frozen HGz8 2; clear HGz8 hgz8; go_enter Tryd.func66, Tryd.ntmps66
  go_wp2; go_ret
  exact ⟨ew_, by repeat (first | (with_reducible first | exact HI0.out | apply IsS128.alloc | apply IsS128.drewN | apply IsS128.drew | apply IsS128.set_0 | apply IsS128.set_1 | apply IsS128.set_2) | exact HI0.out), by repeat (first | (with_reducible first | exact HB.out | apply below_alloc | apply pw_below_drewN | apply below_drew1 | refine below_set ?_ (IsS128.ge HI0.out)) | exact HB.out), by repeat (first | (with_reducible first | exact HK.out | apply KeepBut.set_ | apply keep_drewN | apply keep_drew | apply keep_alloc) | exact HK.out)⟩
end Go.Proofs.YthemhfloablccaaDoor.Pr
end

section
namespace Go.Proofs.YthemhfloablccaaDoor.Pr
open Go.RowKit Go.Deep Go.Proofs.YthemhfloablccaaDoorW.PrintWords Go.Proofs.YthemhfloablccaaDoorW.PrintLast Go.Proofs.YthemhfloablccaaDoorW.PrintMore
set_option maxHeartbeats 2000000
abbrev Mem := S46
def isM (who : Int) (m : Mem) : Bool := if m.f0 = who then m.f2 else false
theorem isM_calls (b : Nat) (who : Int) (m : Mem) (w : World) (hb : w.cell? ⟨b, 0, none⟩ = some (.int .i64 who)) :
  Calls Tryd.prog 54 #[.agg #[.int .i64 m.f0, .int .i64 m.f1, .bool m.f2], .pointer (some ⟨b, 0, none⟩)] w fun e w' => e = .returned (.bool (isM who m)) ∧ Below w.heap.size w w' := by
 obtain ⟨x, c, i⟩ := m
 have hlt : b < w.heap.size := World.block_lt_of_cell? w ⟨b, 0, none⟩ hb
 have hba := below_alloc (Below.refl w.heap.size w) (.cells #[.int .i64 x, .int .i64 c, .bool i] 46)
 have hb2 := hba.cell (p := ⟨b, 0, none⟩) hlt
 rw [hb] at hb2
 have HBA := Aside0.mk hba
 by_cases h : x = who
 ·have hv : isM who ⟨x, c, i⟩ = i := if_pos h
  have d1 : (x == who) = true := beq_iff_eq.2 h
  rw [hv]
  clear h hv hlt hba
  go_enter Tryd.func54, Tryd.ntmps54
  go_wp2
  go_ret
  exact ⟨rfl, HBA.out⟩
 ·have hv : isM who ⟨x, c, i⟩ = false := if_neg h
  have d1 : (x == who) = false := beq_eq_false_iff_ne.2 h
  rw [hv]
  clear h hv hlt hba
  go_enter Tryd.func54, Tryd.ntmps54
  go_wp2
  go_ret
  exact ⟨rfl, HBA.out⟩
theorem rd_mem (l : List Mem) (i : Nat) (y : Mem) (h : l[i]? = some y) : rd_T46 l (i : Int) = y := by
 unfold rd_T46
 rw [Int.toNat_natCast, List.getD_eq_getElem?_getD, h]
 rfl
theorem indexM_calls (A : Option Addr) (cap : Nat) (l : List Mem) (b : Nat) (who : Int) (w : World) (hC : Kd.C k46 w A l.length l) (hm : l.length ≤ 1000000) (hb : w.cell? ⟨b, 0, none⟩ = some (.int .i64 who)) :
  Calls Tryd.prog 87 #[.slice A l.length cap, .func (.func 54) #[] #[.pointer (some ⟨b, 0, none⟩)]] w fun e w' => ∃ r : Int, e = .returned (.int .i64 r) ∧ decide (0 ≤ r) = l.any (isM who) ∧ Below w.heap.size w w' := by
 have HC := Aside0.mk hC
 have HM := Aside0.mk hm
 have HW := Aside0.mk hb
 have hlt0 : b < w.heap.size := World.block_lt_of_cell? w ⟨b, 0, none⟩ hb
 have HLB := Aside0.mk hlt0
 clear hC hm hb hlt0
 go_enter Tryd.func87, Tryd.ntmps87
 go_wp2
 go_loopg [8] l.length (fun gk i wr => ∃ k : Nat, k ≤ l.length ∧ i = .int .i64 (k : Int) ∧ Aside0 (gk = l.length - k) ∧ Aside0 (Below w.heap.size w wr) ∧ Aside0 ((l.take k).any (isM who) = false))
 case atStart => exact ⟨0, Nat.zero_le _, rfl, ⟨rfl⟩, ⟨Below.refl _ _⟩, ⟨rfl⟩⟩
 case round =>
  obtain ⟨k, hk, rfl, HG, HB, HK⟩ := hrel
  by_cases hlt : k < l.length
  ·have q1 : decide (k < l.length) = true := decide_eq_true hlt
   obtain ⟨ad, hA, c0, c1, c2⟩ := at_T46 (Kd.C_below HC.out HB.out) (k : Int) (by omega) (by omega)
   subst hA
   have hx := List.getElem?_eq_getElem hlt
   generalize l[k] = m at hx
   rw [rd_mem l k m hx] at c0 c1 c2
   rw [Int.toNat_natCast] at c0 c1 c2
   have e5 := eq_true hlt
   have HLT := Aside0.mk hlt
   have w1 : wrap64 ((k : Int) + 1) = ((k + 1 : Nat) : Int) := by have := HM.out; unfold wrap64; omega
   obtain ⟨bb, hbb⟩ : ∃ z, isM who m = z := ⟨_, rfl⟩
   have hbc := isM_calls b who m wr ((HB.out.cell (p := ⟨b, 0, none⟩) HLB.out).trans HW.out)
   rw [hbb] at hbc
   have HBC := Aside0.mk hbc
   have htk : (l.take (k + 1)).any (isM who) = bb := by
    rw [List.take_add_one, hx, List.any_append, HK.out]
    simp [hbb]
   have HTK := Aside0.mk htk
   clear hk hlt hx hbc hbb htk
   cases bb
   ·go_wp2_with (fail)
    refine HBC.out.mono ?_
    rintro e w' ⟨rfl, hb⟩
    have HB2 := Aside0.mk (below_then HB.out HB.out.size hb)
    clear hb c0 c1 c2
    go_wp2_with (fail)
    go_roundg (l.length - (k + 1))
    case measure => have := HG.out; have := HLT.out; omega
    case rel => exact ⟨k + 1, HLT.out, by go_num, ⟨rfl⟩, HB2, HTK⟩
   ·go_wp2_with (fail)
    refine HBC.out.mono ?_
    rintro e w' ⟨rfl, hb⟩
    have HB2 := Aside0.mk (below_then HB.out HB.out.size hb)
    clear hb c0 c1 c2
    go_wp2_with (fail)
    go_ret
    refine ⟨_, rfl, ?_, HB2.out⟩
    have : l.any (isM who) = true := by
     rw [← List.take_append_drop (k + 1) l, List.any_append, HTK.out]
     rfl
    rw [this]
    exact decide_eq_true (by omega)
  ·have q1 : decide (k < l.length) = false := decide_eq_false hlt
   have HE : Aside0 (l.any (isM who) = false) := ⟨by have := HK.out; rwa [List.take_of_length_le (by omega)] at this⟩
   clear hk hlt
   go_wp2_with (fail)
   go_ret
   exact ⟨_, rfl, by rw [HE.out]; rfl, HB.out⟩
def group_In.f (a0_0 : Int) (l0_1 : List Mem) (a0_2 : Int) (a1 : Int) : Option Bool := if l0_1.length ≤ 1000000 then some (l0_1.any (isM a1)) else none
theorem group_In.calls (a0_0 : Int) (A0_1 : Option Addr) (c0_1 : Nat) (l0_1 : List Mem) (a0_2 : Int) (a1 : Int) (r : Bool) (w : World) (hr0_1 : Kd.C k46 w A0_1 l0_1.length l0_1) (hc0_1 : l0_1.length ≤ c0_1) (h : group_In.f a0_0 l0_1 a0_2 a1 = some r) :
  Calls Tryd.prog 23 #[.agg #[.int .i64 a0_0, .slice A0_1 l0_1.length c0_1, .int .i64 a0_2], .int .i64 a1] w fun e w' => e = .returned (.bool r) ∧ Below w.heap.size w w' := by
 unfold group_In.f at h
 by_cases hm : l0_1.length ≤ 1000000
 ·rw [if_pos hm] at h
  cases h
  have hba := below_alloc (below_alloc (Below.refl w.heap.size w) (.cells #[.int .i64 a0_0, .slice A0_1 l0_1.length c0_1, .int .i64 a0_2] 24)) (.cells #[.int .i64 a1] 3)
  have hsz : (w.alloc (.cells #[.int .i64 a0_0, .slice A0_1 l0_1.length c0_1, .int .i64 a0_2] 24)).heap.size = w.heap.size + 1 := Array.size_push _
  have HI := Aside0.mk (fun (b : Nat) (W : World) (hW : W.cell? ⟨b, 0, none⟩ = some (.int .i64 a1)) (hCW : Kd.C k46 W A0_1 l0_1.length l0_1) => indexM_calls A0_1 c0_1 l0_1 b a1 W hCW hm hW)
  have HCF : Aside0 (∀ (b : Nat) (W : World), W.cell? ⟨b, 0, none⟩ = some (.int .i64 a1) → Kd.C k46 W A0_1 l0_1.length l0_1 → Calls Tryd.prog 53 #[.slice A0_1 l0_1.length c0_1, .func (.func 54) #[] #[.pointer (some ⟨b, 0, none⟩)]] W fun e w' => e = .returned (.bool (l0_1.any (isM a1))) ∧ Below W.heap.size W w') := ⟨by
   intro b W hW hCW
   have HW := Aside0.mk (HI.out b W hW hCW)
   clear hW hCW hr0_1 hm hba hsz
   go_enter Tryd.func53, Tryd.ntmps53
   go_wp2_with (fail)
   refine HW.out.mono ?_
   rintro e w' ⟨r, rfl, hr, hb⟩
   have HR := Aside0.mk hr
   have HB := Aside0.mk hb
   clear hr hb
   generalize hd : decide (0 ≤ r) = z at HR
   go_wp2_with (fail)
   go_ret
   exact ⟨by rw [← HR.out]; rfl, HB.out⟩⟩
  have HBA := Aside0.mk hba
  have HC2 := Aside0.mk (Kd.C_below hr0_1 hba)
  have HN : Aside0 (((w.alloc (.cells #[.int .i64 a0_0, .slice A0_1 l0_1.length c0_1, .int .i64 a0_2] 24)).alloc (.cells #[.int .i64 a1] 3)).cell? ⟨w.heap.size + 1, 0, none⟩ = some (.int .i64 a1)) := ⟨by rw [← hsz]; rw [cell_of_row _ _ _ _ _ _ (heap_alloc_new _ _)]; rfl⟩
  clear hr0_1 hm hba hsz HI
  generalize l0_1.any (isM a1) = z at HCF ⊢
  go_enter Tryd.func23, Tryd.ntmps23
  go_wp2_with (fail)
  refine (HCF.out _ _ HN.out HC2.out).mono ?_
  rintro e w' ⟨rfl, hb⟩
  have HB := Aside0.mk (below_then HBA.out HBA.out.size hb)
  clear hb
  go_wp2_with (fail)
  go_ret
  exact ⟨rfl, HB.out⟩
 ·rw [if_neg hm] at h
  cases h
end Go.Proofs.YthemhfloablccaaDoor.Pr
end

section
namespace Go.Proofs.YthemhfloablccaaDoor.Pr
open Go.RowKit Go.Deep Go.Proofs.YthemhfloablccaaDoorW.PrintWords Go.Proofs.YthemhfloablccaaDoorW.PrintLast Go.Proofs.YthemhfloablccaaDoorW.PrintMore
set_option maxHeartbeats 4000000
def memC (m : Mem) : List Value := [.int .i64 m.f0, .int .i64 m.f1, .bool m.f2]
def MemAt (g cap : Nat) (l : List Mem) (w : World) : Prop :=
 ∃ cs : Array Value, w.heap[g]? = some (.cells cs 46 (0, 0)) ∧ cs.size = cap * 3 ∧ l.length ≤ cap ∧ cap ≤ maxLen ∧ ∀ i m, l[i]? = some m → (cs.toList.drop (i * 3)).take 3 = memC m
theorem MemAt.R {g cap : Nat} {l : List Mem} {w : World} (h : MemAt g cap l w) (base : Nat) (hb : base ≤ g) (ok : Nat → Prop) (hk : ok g) : Kd.R k46 46 w base ok (.slice (some ⟨g, 0, none⟩) l.length cap) l := by
  obtain ⟨cs, hh, hs, hl, hm, hc⟩ := h
  have hsz : cs.toList.length = cap * 3 := by simpa using hs
  refine ⟨fun k hk' => by have : g = k := by simpa [Value.ownBlock] using hk'
                          subst this; exact hk, cs.toList.take (l.length * 3), ⟨?_, .inr ⟨g, cap, cs, rfl, hb, hh, hl, hm, hs, rfl⟩⟩, ?_, ?_⟩
  · rw [List.length_take, hsz]
    exact Nat.min_eq_left (Nat.mul_le_mul_right 3 hl)
  · show (cs.toList.take (l.length * 3)).length = l.length * 3
    rw [List.length_take, hsz]
    exact Nat.min_eq_left (Nat.mul_le_mul_right 3 hl)
  · intro j p hj
    have hlt : j < l.length := (List.getElem?_eq_some_iff.1 hj).1
    have e : (List.drop (j * 3) (List.take (l.length * 3) cs.toList)).take 3 = memC p := by
      rw [List.drop_take, List.take_take, Nat.min_eq_left (by omega)]
      exact hc j p hj
    show k46.M w base _ p ((List.drop (j * 3) (List.take (l.length * 3) cs.toList)).take 3)
    rw [e]
    exact k46_mkM _ _ _ p
theorem MemAt.of_R {w : World} {base : Nat} {ok : Nat → Prop} {v : Value} {l : List Mem} (h : Kd.R k46 46 w base ok v l) (hn : 0 < l.length) : ∃ g cap, v = .slice (some ⟨g, 0, none⟩) l.length cap ∧ base ≤ g ∧ MemAt g cap l w := by
 obtain ⟨_, inner, ⟨hlen, ho⟩, hr⟩ := h
 rcases ho with ⟨_, h0⟩ | ⟨g, cap, cur, rfl, hg, hh, hl, hm, hs, ht⟩
 ·omega
 ·refine ⟨g, cap, rfl, hg, cur, hh, hs, hl, hm, fun i m hi => ?_⟩
  have hlt : i < l.length := (List.getElem?_eq_some_iff.1 hi).1
  have hM := k46_openM (hr.2 i m hi)
  have ht' : List.take (l.length * 3) cur.toList = inner := ht
  rw [← ht'] at hM
  have hM' : ((List.take (l.length * 3) cur.toList).drop (i * 3)).take 3 = memC m := hM
  rw [List.drop_take, List.take_take, Nat.min_eq_left (by omega)] at hM'
  exact hM'
theorem MemAt.cell {g cap : Nat} {l : List Mem} {w : World} (h : MemAt g cap l w) (i : Nat) (m : Mem) (hi : l[i]? = some m) :
  w.cell? ⟨g, i * 3, none⟩ = some (.int .i64 m.f0) ∧ w.cell? ⟨g, i * 3 + 1, none⟩ = some (.int .i64 m.f1) ∧ w.cell? ⟨g, i * 3 + 2, none⟩ = some (.bool m.f2) := by
 obtain ⟨cs, hh, hs, hl, hm, hc⟩ := h
 have hM := hc i m hi
 have hg : ∀ j, j < 3 → cs[i * 3 + j]? = (memC m)[j]? := by
  intro j hj
  rw [← hM, List.getElem?_take_of_lt hj, List.getElem?_drop, ← Array.getElem?_toList]
 refine ⟨?_, ?_, ?_⟩
 ·rw [cell_of_row _ _ _ _ _ _ hh]; exact hg 0 (by omega)
 ·rw [cell_of_row _ _ _ _ _ _ hh]; exact hg 1 (by omega)
 ·rw [cell_of_row _ _ _ _ _ _ hh]; exact hg 2 (by omega)
theorem MemAt.below {g cap : Nat} {l : List Mem} {w w' : World} (h : MemAt g cap l w) (hb : Below w.heap.size w w') : MemAt g cap l w' := by
 obtain ⟨cs, hh, r⟩ := h
 exact ⟨cs, blk_below hh hb, r⟩
theorem MemAt.far {g cap : Nat} {l : List Mem} {w : World} (h : MemAt g cap l w) {p : Nat} (hp : g ≠ p) (j : Nat) (u : Value) : MemAt g cap l (w.setCell ⟨p, j, none⟩ u) := by
 obtain ⟨cs, hh, r⟩ := h
 exact ⟨cs, (Below.heap_setCell w ⟨p, j, none⟩ u g hp).trans hh, r⟩
theorem MemAt.set {g cap : Nat} {l : List Mem} {w : World} (h : MemAt g cap l w) (i j : Nat) (hj : j < 3) (m m' : Mem) (u : Value) (hi : l[i]? = some m) (hu : (memC m).set j u = memC m') : MemAt g cap (l.set i m') (w.setCell ⟨g, i * 3 + j, none⟩ u) := by
 obtain ⟨cs, hh, hs, hl, hm, hc⟩ := h
 have hlt : i < l.length := (List.getElem?_eq_some_iff.1 hi).1
 refine ⟨_, blk_put hh (i * 3 + j) u rfl, by rw [Array.size_setIfInBounds]; exact hs, by rw [List.length_set]; exact hl, hm, fun k p hk => ?_⟩
 rw [Array.toList_setIfInBounds]
 by_cases e : k = i
 ·subst e
  rw [List.getElem?_set_self hlt] at hk
  cases hk
  rw [← hu, ← hc k m hi, List.drop_set, if_neg (by omega), List.take_set, show k * 3 + j - k * 3 = j by omega]
 ·rw [List.getElem?_set_ne (fun q => e q.symm)] at hk
  rw [← hc k p hk]
  apply List.ext_getElem?
  intro q
  by_cases hq : q < 3
  ·rw [List.getElem?_take_of_lt hq, List.getElem?_take_of_lt hq, List.getElem?_drop, List.getElem?_drop, List.getElem?_set_ne (by omega)]
  ·rw [List.getElem?_take_eq_none (by omega), List.getElem?_take_eq_none (by omega)]
theorem R_empty (W : World) (base : Nat) (hb : base ≤ W.heap.size) (ok : Nat → Prop) (hk : ok W.heap.size) : Kd.R k46 46 (W.alloc (.cells #[] 46)) base ok (.slice (some ⟨W.heap.size, 0, none⟩) 0 0) [] :=
  ⟨fun k hk' => by have : W.heap.size = k := by simpa [Value.ownBlock] using hk'
                   subst this; exact hk, [], ⟨rfl, .inr ⟨W.heap.size, 0, #[], rfl, hb, heap_alloc_new W _, Nat.le_refl _, Nat.zero_le _, rfl, rfl⟩⟩, Reps.none _ _⟩
set_option maxRecDepth 100000 in
theorem clone_calls (ad : Addr) (cap : Nat) (l : List Mem) (w : World) (hC : Kd.C k46 w (some ad) l.length l) (h0 : 0 < l.length) (hm : l.length ≤ 1000000) :
  Calls Tryd.prog 47 #[.slice (some ad) l.length cap] w fun e w' => ∃ g c, e = .returned (.slice (some ⟨g, 0, none⟩) l.length c) ∧ w.heap.size ≤ g ∧ MemAt g c l w' ∧ Below w.heap.size w w' := by
 have HC := Aside0.mk hC
 have HM := Aside0.mk hm
 have H0 := Aside0.mk h0
 generalize hn : l.length = n at HC HM H0
 have hq : ∀ W, Sem.run Tryd.prog (binOp BinOp.eql 22 (Value.slice (some ad) n cap) (Value.slice none 0 0)) W = .ok (.bool false) W := fun W => by rfl
 clear hC hm h0
 go_enter Tryd.func47, Tryd.ntmps47
 go_wp2_with (first | ((with_reducible refine gate_builtin (b := .append) (xs := #[.tmp 5, .tmp 6]) rfl ?_); at_builtin; refine Kd.R_append_rows k46 (w0 := w) w.heap.size rfl (.tmp 5) (.tmp 6) 22 46 (.agg #[(.int .i64 0), (.int .i64 0), (.bool false)]) 24 rfl Tryd.underlying22 info46 rfl (by decide) (by omega) (.slice (some ⟨w.heap.size, 0, none⟩) 0 0) ([] : List Mem) l _ _ _ (fun _ => True) (fun _ => False) rfl rfl ?aO ?aR (fun _ _ h => h) (fun _ h => h.elim) (fun _ _ => trivial) ?aB ?aS ?aL ?_; (case aO => exact R_empty w w.heap.size (Nat.le_refl _) (fun _ => True) trivial); (case aR => exact Kd.C_below HC.out (below_alloc (Below.refl _ _) _)); (case aB => exact below_alloc (Below.refl _ _) _); (case aS => exact below_size (below_alloc (Below.refl w.heap.size w) _)); (case aL => have := HM.out; simp only [List.length_nil]; omega); intro v1 w1 hr hb hg hat; rw [List.nil_append] at hr; obtain ⟨g, c, rfl, hge, hM1⟩ := MemAt.of_R hr (by rw [hn]; exact H0.out); have HE := Aside0.mk (show w.heap.size ≤ g ∧ MemAt g c l w1 ∧ Below w.heap.size w w1 from ⟨hge, hM1, hb⟩); clear hr hb hg hat hge hM1))
 go_ret
 exact ⟨g, c, rfl, HE.out⟩
def inM (l : List Mem) (k : Nat) (b : Bool) : List Mem := match l[k]? with | some m => l.set k { m with f2 := b } | none => l
def doesM (E : Int) (l : List Mem) (O ep kind frm who : Int) : Int × List Mem × Int × Bool :=
 if l.any (isM frm) = false then (E, l, O, false)
 else if kind = 1 then (if O < 500 then (E, l, O + 1, true) else (E, l, O, false))
 else if frm ≠ 1 ∨ ep ≠ E ∨ 1099511627775 ≤ E then (E, l, O, false)
 else if kind = 2 then (if l.any (isM who) = true then (E, l, O, false) else (E + 1, inM l (who - 1).toNat true, O, true))
 else if kind = 3 then (if who = 1 ∨ l.any (isM who) = false then (E, l, O, false) else (E + 1, inM l (who - 1).toNat false, O, true))
 else (E + 1, l, O, true)
def GrpAt (w0 : World) (gb g cap ob : Nat) (ov : Obj) (E : Int) (l : List Mem) (O : Int) (w : World) : Prop :=
 Below w0.heap.size w0 w ∧ w.heap[gb]? = some (.cells #[.int .i64 E, .slice (some ⟨g, 0, none⟩) l.length cap, .int .i64 O] 24 (0, 0)) ∧ MemAt g cap l w ∧ w0.heap.size ≤ gb ∧ w0.heap.size ≤ g ∧ gb ≠ g ∧ w.heap[ob]? = some ov ∧ ob ≠ gb ∧ ob ≠ g
section
variable {w0 w w' : World} {gb g cap ob : Nat} {ov : Obj} {E O : Int} {l : List Mem}
theorem GrpAt.below (h : GrpAt w0 gb g cap ob ov E l O w) (hb : Below w.heap.size w w') : GrpAt w0 gb g cap ob ov E l O w' :=
 ⟨below_then h.1 h.1.size hb, blk_below h.2.1 hb, h.2.2.1.below hb, h.2.2.2.1, h.2.2.2.2.1, h.2.2.2.2.2.1, blk_below h.2.2.2.2.2.2.1 hb, h.2.2.2.2.2.2.2⟩
theorem GrpAt.setE (h : GrpAt w0 gb g cap ob ov E l O w) (E' : Int) : GrpAt w0 gb g cap ob ov E' l O (w.setCell ⟨gb, 0, none⟩ (.int .i64 E')) :=
 ⟨below_set h.1 h.2.2.2.1, blk_put h.2.1 0 _ rfl, h.2.2.1.far h.2.2.2.2.2.1.symm 0 _, h.2.2.2.1, h.2.2.2.2.1, h.2.2.2.2.2.1, (Below.heap_setCell _ _ _ _ h.2.2.2.2.2.2.2.1).trans h.2.2.2.2.2.2.1, h.2.2.2.2.2.2.2⟩
theorem GrpAt.setO (h : GrpAt w0 gb g cap ob ov E l O w) (O' : Int) : GrpAt w0 gb g cap ob ov E l O' (w.setCell ⟨gb, 2, none⟩ (.int .i64 O')) :=
 ⟨below_set h.1 h.2.2.2.1, blk_put h.2.1 2 _ rfl, h.2.2.1.far h.2.2.2.2.2.1.symm 2 _, h.2.2.2.1, h.2.2.2.2.1, h.2.2.2.2.2.1, (Below.heap_setCell _ _ _ _ h.2.2.2.2.2.2.2.1).trans h.2.2.2.2.2.2.1, h.2.2.2.2.2.2.2⟩
theorem GrpAt.setM (h : GrpAt w0 gb g cap ob ov E l O w) (i j : Nat) (hj : j < 3) (m m' : Mem) (u : Value) (hi : l[i]? = some m) (hu : (memC m).set j u = memC m') : GrpAt w0 gb g cap ob ov E (l.set i m') O (w.setCell ⟨g, i * 3 + j, none⟩ u) :=
 ⟨below_set h.1 h.2.2.2.2.1, by rw [List.length_set]; exact blk_far h.2.1 h.2.2.2.2.2.1 _, h.2.2.1.set i j hj m m' u hi hu, h.2.2.2.1, h.2.2.2.2.1, h.2.2.2.2.2.1, (Below.heap_setCell _ _ _ _ h.2.2.2.2.2.2.2.2).trans h.2.2.2.2.2.2.1, h.2.2.2.2.2.2.2⟩
theorem GrpAt.cells (h : GrpAt w0 gb g cap ob ov E l O w) : w.cell? ⟨gb, 0, none⟩ = some (.int .i64 E) ∧ w.cell? ⟨gb, 1, none⟩ = some (.slice (some ⟨g, 0, none⟩) l.length cap) ∧ w.cell? ⟨gb, 2, none⟩ = some (.int .i64 O) :=
 ⟨(blk_cell h.2.1 0).trans rfl, (blk_cell h.2.1 1).trans rfl, (blk_cell h.2.1 2).trans rfl⟩
theorem GrpAt.C (h : GrpAt w0 gb g cap ob ov E l O w) : Kd.C k46 w (some ⟨g, 0, none⟩) l.length l := by
 obtain ⟨A, c, e, _, hc⟩ := Kd.R_reads (h.2.2.1.R 0 (Nat.zero_le _) (fun _ => True) trivial)
 cases e
 exact hc
theorem GrpAt.room (h : GrpAt w0 gb g cap ob ov E l O w) : l.length ≤ cap := by
 obtain ⟨cs, _, _, hl, _⟩ := h.2.2.1
 exact hl
theorem in_at (h : GrpAt w0 gb g cap ob ov E l O w) (hm : l.length ≤ 1000000) (who : Int) :
  Calls Tryd.prog 23 #[.agg #[.int .i64 E, .slice (some ⟨g, 0, none⟩) l.length cap, .int .i64 O], .int .i64 who] w fun e w' => e = .returned (.bool (l.any (isM who))) ∧ GrpAt w0 gb g cap ob ov E l O w' ∧ Below w.heap.size w w' := by
 refine (group_In.calls E (some ⟨g, 0, none⟩) cap l O who _ w h.C h.room (if_pos hm)).mono ?_
 rintro e w' ⟨rfl, hb⟩
 exact ⟨rfl, h.below hb, hb⟩
end
abbrev RecV (kind frm count seq : Int) (head : ByteArray) (o0 o1 o2 o3 o4 o5 o6 : Int) (o7 o8 : ByteArray) (who : Int) (wv : Value) : Array Value :=
 #[.int .i64 kind, .int .i64 frm, .int .i64 count, .int .i64 seq, .string head, .int .i64 o0, .int .i64 o1, .int .i64 o2, .int .i64 o3, .int .i64 o4, .int .i64 o5, .int .i64 o6, .string o7, .string o8, .int .i64 who, wv]
end Go.Proofs.YthemhfloablccaaDoor.Pr
end

section
namespace Go.Proofs.YthemhfloablccaaDoor.Pr
open Go.RowKit Go.Proofs.YthemhfloablccaaDoorW.PrintWords Go.Proofs.YthemhfloablccaaDoorW.PrintLast Go.Proofs.YthemhfloablccaaDoorW.PrintMore
attribute [local go_sem] max2_int min2_int max_two min_two max_three min_three max_four min_four
mutual
def group_Check.j0 : Nat → Bool → Int → List (S46) → Int → Option (Int)
 | 0, _, _, _, _ => none
 | k + 1, x3, x107000, x107001, x107002 => group_Check.l0 k x3 x107001 (x107001.length : Int) 0 x107000 x107001 x107002
def group_Check.l0 : Nat → Bool → List (S46) → Int → Int → Int → List (S46) → Int → Option (Int)
 | 0, _, _, _, _, _, _, _ => none
 | k + 1, x3, x31, x32, x33, x107000, x107001, x107002 => if x33 < x32 then (if 0 ≤ x33 then (if x33 < (x31.length : Int) then (if x3 = true then (if ((rd_T46 x31 x33).f0) = (wrap64 (x33 + 1)) then (if ((rd_T46 x31 x33).f1) ≥ 0 then (group_Check.l0 k (decide (((rd_T46 x31 x33).f1) ≤ 1099511627775)) x31 x32 (wrap64 (x33 + 1)) x107000 x107001 x107002) else (group_Check.l0 k false x31 x32 (wrap64 (x33 + 1)) x107000 x107001 x107002)) else (group_Check.l0 k false x31 x32 (wrap64 (x33 + 1)) x107000 x107001 x107002)) else (group_Check.l0 k false x31 x32 (wrap64 (x33 + 1)) x107000 x107001 x107002)) else (none)) else (none)) else (if x3 = true then (if 0 < (x107001.length : Int) then (if ((rd_T46 x107001 0).f2 = true) then (some 0) else (some 1)) else (none)) else (some 1))
end
def group_Check.f (k : Nat) (a0_0 : Int) (l0_1 : List (S46)) (a0_2 : Int) : Option (Int) := if a0_0 ≥ 1 then (if a0_0 ≤ 1099511627775 then (if a0_2 ≥ 0 then (if a0_2 ≤ 500 then (group_Check.j0 k ((l0_1.length : Int) == 6) a0_0 l0_1 a0_2) else (group_Check.j0 k false a0_0 l0_1 a0_2)) else (group_Check.j0 k false a0_0 l0_1 a0_2)) else (group_Check.j0 k false a0_0 l0_1 a0_2)) else (group_Check.j0 k false a0_0 l0_1 a0_2)
set_option maxHeartbeats 8000000 in
set_option maxRecDepth 100000 in
theorem group_Check.calls (k : Nat) (a0_0 : Int) (A0_1 : Option Addr) (c0_1 : Nat) (l0_1 : List (S46)) (a0_2 : Int) (r : Int) (w : World) (hr0_1 : Kd.C k46 w A0_1 l0_1.length l0_1) (hc0_1 : l0_1.length ≤ c0_1) (h : group_Check.f k a0_0 l0_1 a0_2 = some r) :
    Calls Tryd.prog 21 #[.agg #[.int .i64 a0_0, .slice A0_1 l0_1.length c0_1, .int .i64 a0_2]] w fun e w' => e = .returned (.int .i64 r) ∧ Below w.heap.size w w' := by
  have hu24 := Tryd.underlying24; have hu46 := Tryd.underlying46; have HR0_1 := Aside0.mk hr0_1; have HC0_1 := Aside0.mk hc0_1; clear hr0_1 hc0_1; have HB := Aside0.mk (Below.refl w.heap.size w); have H : (if a0_0 ≥ 1 then (if a0_0 ≤ 1099511627775 then (if a0_2 ≥ 0 then (if a0_2 ≤ 500 then (group_Check.j0 k ((l0_1.length : Int) == 6) a0_0 l0_1 a0_2) else (group_Check.j0 k false a0_0 l0_1 a0_2)) else (group_Check.j0 k false a0_0 l0_1 a0_2)) else (group_Check.j0 k false a0_0 l0_1 a0_2)) else (group_Check.j0 k false a0_0 l0_1 a0_2)) = some r := h; clear h; have HC2 := Aside0.mk H; clear H; go_enter Tryd.func21, Tryd.ntmps21
  go_upto_region 1 with (first | ((with_reducible refine gate_dst (N := 1) rfl ?_); (try (refine gate_guard (by rfl) ?_; dsimp only)); refine box_event ?hg (N := 1) ?hd (cs := #[.int .i64 a0_0, .slice A0_1 l0_1.length c0_1, .int .i64 a0_2]) (t := 24) ?hr ?_; (case hd => rfl); (case hg => rfl); (case hr => first | (go_simp; done) | (go_simp; rfl)); intro gb106 hg w3 hbox hb; have n0_ := Aside0.mk (below_step hb_ hb); have n1_ := Aside0.mk (hbox); have n2_ := Aside0.mk ((by rw [hg]; exact (below_size hb_) : w.heap.size ≤ gb106)); have n3_ := Aside0.mk ((by rw [hg]; exact (below_size hb_) : w.heap.size ≤ gb106)); clear HB; have HB := n0_; have BK106 := n1_; have GW106 := n2_; have GE106 := n3_; clear n0_ n1_ n2_ n3_; clear hb hbox hg))
  (try simp only [Act.put, List.setIfInBounds_toArray, List.set_cons_zero, List.set_cons_succ])
  go_cut [3] (fun v3 wc => ∃ (kq : Nat) (x3_1 : Bool), v3 = .bool x3_1 ∧ Aside0 (group_Check.j0 kq x3_1 a0_0 l0_1 a0_2 = some r) ∧ Aside0 (kq ≤ k) ∧ Aside0 (wc.heap[gb106]? = some (.cells #[.int .i64 a0_0, (.slice A0_1 l0_1.length c0_1), .int .i64 a0_2] 24 (0, 0))) ∧ Aside0 (Below w.heap.size w wc))
  case first =>
    have H := HC2.out; clear HC2; by_cases c4 : a0_0 ≥ 1
    · rw [if_pos c4] at H; have c4b0 : decide (1 ≤ a0_0) = true := decide_eq_true c4; clear c4
      (first | rw [c4b0] | (simp only [i64_w, i32_w]; rw [c4b0]) | skip)
      by_cases c5 : a0_0 ≤ 1099511627775
      · rw [if_pos c5] at H; have c5b0 : decide (a0_0 ≤ 1099511627775) = true := decide_eq_true c5; clear c5; by_cases c6 : a0_2 ≥ 0
        · rw [if_pos c6] at H; have c6b0 : decide (0 ≤ a0_2) = true := decide_eq_true c6; clear c6; by_cases c7 : a0_2 ≤ 500
          · rw [if_pos c7] at H; have c7b0 : decide (a0_2 ≤ 500) = true := decide_eq_true c7; clear c7; have H' := Aside0.mk H; clear H; have hcz8_0 : w3.cell? ⟨gb106, 0, none⟩ = some (.int .i64 a0_0) := (blk_cell BK106.out 0).trans rfl; have hcz8_1 : w3.cell? ⟨gb106, 1, none⟩ = some (.slice A0_1 l0_1.length c0_1) := (blk_cell BK106.out 1).trans rfl; have hcz8_2 : w3.cell? ⟨gb106, 2, none⟩ = some (.int .i64 a0_2) := (blk_cell BK106.out 2).trans rfl; have hfz8_0 := blk_frozen BK106.out 0; have hfz8_1 := blk_frozen BK106.out 1; have hfz8_2 := blk_frozen BK106.out 2; go_wp2; go_meet
            case rel => exact ⟨_, (((l0_1.length : Int) == 6)), rz_, H', ⟨by first | omega | exact Nat.le_refl _⟩, ⟨by (with_reducible repeat (first | refine blk_drewN ?_ _ | refine blk_drew ?_ | refine blk_alloc ?_ _)); exact BK106.out⟩, ⟨by repeat (first | (with_reducible first | exact HB.out | apply below_alloc | apply pw_below_drewN | apply below_drew1 | refine below_set ?_ GE106.out) | exact HB.out)⟩⟩
          · rw [if_neg c7] at H; have c7b0 : decide (a0_2 ≤ 500) = false := decide_eq_false c7; clear c7; have H' := Aside0.mk H; clear H; have hcz9_0 : w3.cell? ⟨gb106, 0, none⟩ = some (.int .i64 a0_0) := (blk_cell BK106.out 0).trans rfl; have hcz9_1 : w3.cell? ⟨gb106, 1, none⟩ = some (.slice A0_1 l0_1.length c0_1) := (blk_cell BK106.out 1).trans rfl; have hcz9_2 : w3.cell? ⟨gb106, 2, none⟩ = some (.int .i64 a0_2) := (blk_cell BK106.out 2).trans rfl; have hfz9_0 := blk_frozen BK106.out 0; have hfz9_1 := blk_frozen BK106.out 1; have hfz9_2 := blk_frozen BK106.out 2; go_wp2; go_meet
            case rel => exact ⟨_, (false), rz_, H', ⟨by first | omega | exact Nat.le_refl _⟩, ⟨by (with_reducible repeat (first | refine blk_drewN ?_ _ | refine blk_drew ?_ | refine blk_alloc ?_ _)); exact BK106.out⟩, ⟨by repeat (first | (with_reducible first | exact HB.out | apply below_alloc | apply pw_below_drewN | apply below_drew1 | refine below_set ?_ GE106.out) | exact HB.out)⟩⟩
        · rw [if_neg c6] at H; have c6b0 : decide (0 ≤ a0_2) = false := decide_eq_false c6; clear c6; have H' := Aside0.mk H; clear H; have hcz10_0 : w3.cell? ⟨gb106, 0, none⟩ = some (.int .i64 a0_0) := (blk_cell BK106.out 0).trans rfl; have hcz10_1 : w3.cell? ⟨gb106, 1, none⟩ = some (.slice A0_1 l0_1.length c0_1) := (blk_cell BK106.out 1).trans rfl; have hcz10_2 : w3.cell? ⟨gb106, 2, none⟩ = some (.int .i64 a0_2) := (blk_cell BK106.out 2).trans rfl; have hfz10_0 := blk_frozen BK106.out 0; have hfz10_1 := blk_frozen BK106.out 1; have hfz10_2 := blk_frozen BK106.out 2; go_wp2; go_meet
          case rel => exact ⟨_, (false), rz_, H', ⟨by first | omega | exact Nat.le_refl _⟩, ⟨by (with_reducible repeat (first | refine blk_drewN ?_ _ | refine blk_drew ?_ | refine blk_alloc ?_ _)); exact BK106.out⟩, ⟨by repeat (first | (with_reducible first | exact HB.out | apply below_alloc | apply pw_below_drewN | apply below_drew1 | refine below_set ?_ GE106.out) | exact HB.out)⟩⟩
      · rw [if_neg c5] at H; have c5b0 : decide (a0_0 ≤ 1099511627775) = false := decide_eq_false c5; clear c5; have H' := Aside0.mk H; clear H; have hcz11_0 : w3.cell? ⟨gb106, 0, none⟩ = some (.int .i64 a0_0) := (blk_cell BK106.out 0).trans rfl; have hcz11_1 : w3.cell? ⟨gb106, 1, none⟩ = some (.slice A0_1 l0_1.length c0_1) := (blk_cell BK106.out 1).trans rfl; have hcz11_2 : w3.cell? ⟨gb106, 2, none⟩ = some (.int .i64 a0_2) := (blk_cell BK106.out 2).trans rfl; have hfz11_0 := blk_frozen BK106.out 0; have hfz11_1 := blk_frozen BK106.out 1; have hfz11_2 := blk_frozen BK106.out 2; go_wp2; go_meet
        case rel => exact ⟨_, (false), rz_, H', ⟨by first | omega | exact Nat.le_refl _⟩, ⟨by (with_reducible repeat (first | refine blk_drewN ?_ _ | refine blk_drew ?_ | refine blk_alloc ?_ _)); exact BK106.out⟩, ⟨by repeat (first | (with_reducible first | exact HB.out | apply below_alloc | apply pw_below_drewN | apply below_drew1 | refine below_set ?_ GE106.out) | exact HB.out)⟩⟩
    · rw [if_neg c4] at H; have c4b0 : decide (1 ≤ a0_0) = false := decide_eq_false c4; clear c4
      (first | rw [c4b0] | (simp only [i64_w, i32_w]; rw [c4b0]) | skip)
      have H' := Aside0.mk H; clear H; have hcz12_0 : w3.cell? ⟨gb106, 0, none⟩ = some (.int .i64 a0_0) := (blk_cell BK106.out 0).trans rfl; have hcz12_1 : w3.cell? ⟨gb106, 1, none⟩ = some (.slice A0_1 l0_1.length c0_1) := (blk_cell BK106.out 1).trans rfl; have hcz12_2 : w3.cell? ⟨gb106, 2, none⟩ = some (.int .i64 a0_2) := (blk_cell BK106.out 2).trans rfl; have hfz12_0 := blk_frozen BK106.out 0; have hfz12_1 := blk_frozen BK106.out 1; have hfz12_2 := blk_frozen BK106.out 2; go_wp2; go_meet
      case rel => exact ⟨_, (false), rz_, H', ⟨by first | omega | exact Nat.le_refl _⟩, ⟨by (with_reducible repeat (first | refine blk_drewN ?_ _ | refine blk_drew ?_ | refine blk_alloc ?_ _)); exact BK106.out⟩, ⟨by repeat (first | (with_reducible first | exact HB.out | apply below_alloc | apply pw_below_drewN | apply below_drew1 | refine below_set ?_ GE106.out) | exact HB.out)⟩⟩
  case rest =>
    clear HC2; obtain ⟨kq, x3_1, rfl, HA, HJ1, BK106, HB⟩ := hcut; cases kq with
    | zero => exact absurd HA.out (by simp [group_Check.j0])
    | succ kj1 =>
      have H := HA.out; clear HA; simp only [group_Check.j0] at H; have H' := Aside0.mk H; clear H; have hcz13_0 : wc.cell? ⟨gb106, 0, none⟩ = some (.int .i64 a0_0) := (blk_cell BK106.out 0).trans rfl; have hcz13_1 : wc.cell? ⟨gb106, 1, none⟩ = some (.slice A0_1 l0_1.length c0_1) := (blk_cell BK106.out 1).trans rfl; have hcz13_2 : wc.cell? ⟨gb106, 2, none⟩ = some (.int .i64 a0_2) := (blk_cell BK106.out 2).trans rfl; have hfz13_0 := blk_frozen BK106.out 0; have hfz13_1 := blk_frozen BK106.out 1; have hfz13_2 := blk_frozen BK106.out 2; go_wp2; go_loopg [3, 33] kj1 (fun kq v3 v33 w' => ∃ (x3_2 : Bool) (x33_2 : Int), v3 = .bool x3_2 ∧ v33 = .int .i64 x33_2 ∧ Aside0 (group_Check.l0 kq x3_2 l0_1 (l0_1.length : Int) x33_2 a0_0 l0_1 a0_2 = some r) ∧ Aside0 (kq ≤ kj1) ∧ Aside0 (w'.heap[gb106]? = some (.cells #[.int .i64 a0_0, (.slice A0_1 l0_1.length c0_1), .int .i64 a0_2] 24 (0, 0))) ∧ Aside0 (Below w.heap.size w w'))
      case atStart => exact ⟨(x3_1), (0), rz_, rz_, H', ⟨Nat.le_refl _⟩, ⟨by (with_reducible repeat (first | refine blk_drewN ?_ _ | refine blk_drew ?_ | refine blk_alloc ?_ _)); exact BK106.out⟩, ⟨by repeat (first | (with_reducible first | exact HB.out | apply below_alloc | apply pw_below_drewN | apply below_drew1 | refine below_set ?_ GE106.out) | exact HB.out)⟩⟩
      case round =>
        clear H'; obtain ⟨x3_2, x33_2, rfl, rfl, HA, HK2, BK106, HB⟩ := hrel; cases gk with
        | zero => exact absurd HA.out (by simp [group_Check.l0])
        | succ k2 =>
          have H := HA.out; clear HA; simp only [group_Check.l0] at H; by_cases c14 : x33_2 < (l0_1.length : Int)
          · rw [if_pos c14] at H; have c14b0 : decide (x33_2 < (l0_1.length : Int)) = true := decide_eq_true c14; clear c14; by_cases c15 : 0 ≤ x33_2
            · rw [if_pos c15] at H; have c15b0 : decide (0 ≤ x33_2) = true := decide_eq_true c15; clear c15; by_cases c16 : x33_2 < (l0_1.length : Int)
              · rw [if_pos c16] at H; have c16b0 : decide (x33_2 < (l0_1.length : Int)) = true := decide_eq_true c16; clear c16; by_cases c17 : x3_2 = true
                · subst c17; have H1 : (if ((rd_T46 l0_1 x33_2).f0) = (wrap64 (x33_2 + 1)) then (if ((rd_T46 l0_1 x33_2).f1) ≥ 0 then (group_Check.l0 k2 (decide (((rd_T46 l0_1 x33_2).f1) ≤ 1099511627775)) l0_1 (l0_1.length : Int) (wrap64 (x33_2 + 1)) a0_0 l0_1 a0_2) else (group_Check.l0 k2 false l0_1 (l0_1.length : Int) (wrap64 (x33_2 + 1)) a0_0 l0_1 a0_2)) else (group_Check.l0 k2 false l0_1 (l0_1.length : Int) (wrap64 (x33_2 + 1)) a0_0 l0_1 a0_2)) = some r := by rw [if_pos rfl] at H; exact H
                  clear H; have H := H1; clear H1; by_cases c18 : ((rd_T46 l0_1 x33_2).f0) = (wrap64 (x33_2 + 1))
                  · rw [if_pos c18] at H; have c18b0 : (((rd_T46 l0_1 x33_2).f0) == (wrap64 (x33_2 + 1))) = true := beq_iff_eq.mpr c18; have c18b1 : (((rd_T46 l0_1 x33_2).f0) != (wrap64 (x33_2 + 1))) = false := bne_eq_false_iff_eq.mpr c18; clear c18; by_cases c19 : ((rd_T46 l0_1 x33_2).f1) ≥ 0
                    · rw [if_pos c19] at H; have c19b0 : decide (0 ≤ ((rd_T46 l0_1 x33_2).f1)) = true := decide_eq_true c19; clear c19; have H' := Aside0.mk H; clear H; have p107 : 0 ≤ (x33_2 : Int) := of_decide_eq_true as_'; have q107 : x33_2 < (l0_1.length : Int) := of_decide_eq_true as_'; obtain ⟨ad107, e107, hx107_0, hx107_1, hx107_2⟩ := at_T46 HR0_1.out x33_2 p107 q107; cases e107; replace hx107_0 := (HB.out.cell (World.block_lt_of_cell? w _ hx107_0)).trans hx107_0; replace hx107_1 := (HB.out.cell (World.block_lt_of_cell? w _ hx107_1)).trans hx107_1; replace hx107_2 := (HB.out.cell (World.block_lt_of_cell? w _ hx107_2)).trans hx107_2; replace p107 := eq_true p107; replace q107 := eq_true q107; go_wp2_with (first | ((with_reducible refine gate_dst (N := 5) rfl ?_); (try (refine gate_guard (by rfl) ?_; dsimp only)); refine box_event ?hg (N := 5) ?hd (cs := #[.int .i64 0, .int .i64 0, .bool false]) (t := 46) ?hr ?_; (case hd => rfl); (case hg => rfl); (case hr => first | (go_simp; done) | (go_simp; rfl)); intro gb108 hg w20 hbox hb; have n0_ := Aside0.mk (blk_below (g := gb106) (o := .cells #[.int .i64 a0_0, .slice (some ad107) l0_1.length c0_1, .int .i64 a0_2] 24 (0, 0)) (by (with_reducible repeat (first | refine blk_drewN ?_ _ | refine blk_drew ?_ | refine blk_alloc ?_ _)); exact BK106.out) hb); have n1_ := Aside0.mk (below_step (by repeat (first | (with_reducible first | exact HB.out | apply below_alloc | apply pw_below_drewN | apply below_drew1 | refine below_set ?_ GE106.out) | exact HB.out)) hb); have n2_ := Aside0.mk (hbox); have n3_ := Aside0.mk ((by rw [hg]; exact (below_size (by repeat (first | (with_reducible first | exact HB.out | apply below_alloc | apply pw_below_drewN | apply below_drew1 | refine below_set ?_ GE106.out) | exact HB.out))) : w.heap.size ≤ gb108)); have n4_ := Aside0.mk ((by rw [hg]; exact (below_size (by repeat (first | (with_reducible first | exact HB.out | apply below_alloc | apply pw_below_drewN | apply below_drew1 | refine below_set ?_ GE106.out) | exact HB.out))) : w.heap.size ≤ gb108)); have n5_ := Aside0.mk ((by rw [hg]; exact Nat.ne_of_lt (blk_lt (g := gb106) (o := .cells #[.int .i64 a0_0, .slice (some ad107) l0_1.length c0_1, .int .i64 a0_2] 24 (0, 0)) (by (with_reducible repeat (first | refine blk_drewN ?_ _ | refine blk_drew ?_ | refine blk_alloc ?_ _)); exact BK106.out)) : gb106 ≠ gb108)); have n6_ := Aside0.mk ((by rw [hg]; exact Nat.ne_of_gt (blk_lt (g := gb106) (o := .cells #[.int .i64 a0_0, .slice (some ad107) l0_1.length c0_1, .int .i64 a0_2] 24 (0, 0)) (by (with_reducible repeat (first | refine blk_drewN ?_ _ | refine blk_drew ?_ | refine blk_alloc ?_ _)); exact BK106.out)) : gb108 ≠ gb106)); clear BK106; clear HB; have BK106 := n0_; have HB := n1_; have BK108 := n2_; have GW108 := n3_; have GE108 := n4_; have NB106_108 := n5_; have NB108_106 := n6_; clear n0_ n1_ n2_ n3_ n4_ n5_ n6_; clear hb hbox hg; have hnb21 := NB108_106.out; have hnc21 := NB106_108.out; have hcz22_0 : w20.cell? ⟨gb108, 0, none⟩ = some (.int .i64 0) := (blk_cell BK108.out 0).trans rfl; have hcz22_1 : w20.cell? ⟨gb108, 1, none⟩ = some (.int .i64 0) := (blk_cell BK108.out 1).trans rfl; have hcz22_2 : w20.cell? ⟨gb108, 2, none⟩ = some (.bool false) := (blk_cell BK108.out 2).trans rfl; have hfz22_0 := blk_frozen BK108.out 0; have hfz22_1 := blk_frozen BK108.out 1; have hfz22_2 := blk_frozen BK108.out 2))
                      go_roundg k2
                      case measure => have := HJ1.out; have := HK2.out; omega
                      case rel => exact ⟨(decide (((rd_T46 l0_1 x33_2).f1) ≤ 1099511627775)), (wrap64 (x33_2 + 1)), rz_, rz_, H', ⟨by have := HJ1.out; have := HK2.out; omega⟩, ⟨by (with_reducible repeat (first | refine blk_drewN ?_ _ | refine blk_drew ?_ | refine blk_alloc ?_ _)); refine blk_far ?_ NB106_108.out _; (with_reducible repeat (first | refine blk_drewN ?_ _ | refine blk_drew ?_ | refine blk_alloc ?_ _)); refine blk_far ?_ NB106_108.out _; (with_reducible repeat (first | refine blk_drewN ?_ _ | refine blk_drew ?_ | refine blk_alloc ?_ _)); refine blk_far ?_ NB106_108.out _; (with_reducible repeat (first | refine blk_drewN ?_ _ | refine blk_drew ?_ | refine blk_alloc ?_ _)); exact BK106.out⟩, ⟨by repeat (first | (with_reducible first | exact HB.out | apply below_alloc | apply pw_below_drewN | apply below_drew1 | refine below_set ?_ GE106.out | refine below_set ?_ GE108.out) | exact HB.out)⟩⟩
                    · rw [if_neg c19] at H; have c19b0 : decide (0 ≤ ((rd_T46 l0_1 x33_2).f1)) = false := decide_eq_false c19; clear c19; have H' := Aside0.mk H; clear H; have p107 : 0 ≤ (x33_2 : Int) := of_decide_eq_true as_'; have q107 : x33_2 < (l0_1.length : Int) := of_decide_eq_true as_'; obtain ⟨ad107, e107, hx107_0, hx107_1, hx107_2⟩ := at_T46 HR0_1.out x33_2 p107 q107; cases e107; replace hx107_0 := (HB.out.cell (World.block_lt_of_cell? w _ hx107_0)).trans hx107_0; replace hx107_1 := (HB.out.cell (World.block_lt_of_cell? w _ hx107_1)).trans hx107_1; replace hx107_2 := (HB.out.cell (World.block_lt_of_cell? w _ hx107_2)).trans hx107_2; replace p107 := eq_true p107; replace q107 := eq_true q107; go_wp2_with (first | ((with_reducible refine gate_dst (N := 5) rfl ?_); (try (refine gate_guard (by rfl) ?_; dsimp only)); refine box_event ?hg (N := 5) ?hd (cs := #[.int .i64 0, .int .i64 0, .bool false]) (t := 46) ?hr ?_; (case hd => rfl); (case hg => rfl); (case hr => first | (go_simp; done) | (go_simp; rfl)); intro gb108 hg w23 hbox hb; have n0_ := Aside0.mk (blk_below (g := gb106) (o := .cells #[.int .i64 a0_0, .slice (some ad107) l0_1.length c0_1, .int .i64 a0_2] 24 (0, 0)) (by (with_reducible repeat (first | refine blk_drewN ?_ _ | refine blk_drew ?_ | refine blk_alloc ?_ _)); exact BK106.out) hb); have n1_ := Aside0.mk (below_step (by repeat (first | (with_reducible first | exact HB.out | apply below_alloc | apply pw_below_drewN | apply below_drew1 | refine below_set ?_ GE106.out) | exact HB.out)) hb); have n2_ := Aside0.mk (hbox); have n3_ := Aside0.mk ((by rw [hg]; exact (below_size (by repeat (first | (with_reducible first | exact HB.out | apply below_alloc | apply pw_below_drewN | apply below_drew1 | refine below_set ?_ GE106.out) | exact HB.out))) : w.heap.size ≤ gb108)); have n4_ := Aside0.mk ((by rw [hg]; exact (below_size (by repeat (first | (with_reducible first | exact HB.out | apply below_alloc | apply pw_below_drewN | apply below_drew1 | refine below_set ?_ GE106.out) | exact HB.out))) : w.heap.size ≤ gb108)); have n5_ := Aside0.mk ((by rw [hg]; exact Nat.ne_of_lt (blk_lt (g := gb106) (o := .cells #[.int .i64 a0_0, .slice (some ad107) l0_1.length c0_1, .int .i64 a0_2] 24 (0, 0)) (by (with_reducible repeat (first | refine blk_drewN ?_ _ | refine blk_drew ?_ | refine blk_alloc ?_ _)); exact BK106.out)) : gb106 ≠ gb108)); have n6_ := Aside0.mk ((by rw [hg]; exact Nat.ne_of_gt (blk_lt (g := gb106) (o := .cells #[.int .i64 a0_0, .slice (some ad107) l0_1.length c0_1, .int .i64 a0_2] 24 (0, 0)) (by (with_reducible repeat (first | refine blk_drewN ?_ _ | refine blk_drew ?_ | refine blk_alloc ?_ _)); exact BK106.out)) : gb108 ≠ gb106)); clear BK106; clear HB; have BK106 := n0_; have HB := n1_; have BK108 := n2_; have GW108 := n3_; have GE108 := n4_; have NB106_108 := n5_; have NB108_106 := n6_; clear n0_ n1_ n2_ n3_ n4_ n5_ n6_; clear hb hbox hg; have hnb24 := NB108_106.out; have hnc24 := NB106_108.out; have hcz25_0 : w23.cell? ⟨gb108, 0, none⟩ = some (.int .i64 0) := (blk_cell BK108.out 0).trans rfl; have hcz25_1 : w23.cell? ⟨gb108, 1, none⟩ = some (.int .i64 0) := (blk_cell BK108.out 1).trans rfl; have hcz25_2 : w23.cell? ⟨gb108, 2, none⟩ = some (.bool false) := (blk_cell BK108.out 2).trans rfl; have hfz25_0 := blk_frozen BK108.out 0; have hfz25_1 := blk_frozen BK108.out 1; have hfz25_2 := blk_frozen BK108.out 2))
                      go_roundg k2
                      case measure => have := HJ1.out; have := HK2.out; omega
                      case rel => exact ⟨(false), (wrap64 (x33_2 + 1)), rz_, rz_, H', ⟨by have := HJ1.out; have := HK2.out; omega⟩, ⟨by (with_reducible repeat (first | refine blk_drewN ?_ _ | refine blk_drew ?_ | refine blk_alloc ?_ _)); refine blk_far ?_ NB106_108.out _; (with_reducible repeat (first | refine blk_drewN ?_ _ | refine blk_drew ?_ | refine blk_alloc ?_ _)); refine blk_far ?_ NB106_108.out _; (with_reducible repeat (first | refine blk_drewN ?_ _ | refine blk_drew ?_ | refine blk_alloc ?_ _)); refine blk_far ?_ NB106_108.out _; (with_reducible repeat (first | refine blk_drewN ?_ _ | refine blk_drew ?_ | refine blk_alloc ?_ _)); exact BK106.out⟩, ⟨by repeat (first | (with_reducible first | exact HB.out | apply below_alloc | apply pw_below_drewN | apply below_drew1 | refine below_set ?_ GE106.out | refine below_set ?_ GE108.out) | exact HB.out)⟩⟩
                  · rw [if_neg c18] at H; have c18b0 : (((rd_T46 l0_1 x33_2).f0) == (wrap64 (x33_2 + 1))) = false := beq_eq_false_iff_ne.mpr c18; have c18b1 : (((rd_T46 l0_1 x33_2).f0) != (wrap64 (x33_2 + 1))) = true := bne_iff_ne.mpr c18; have H' := Aside0.mk H; clear H; have p107 : 0 ≤ (x33_2 : Int) := of_decide_eq_true as_'; have q107 : x33_2 < (l0_1.length : Int) := of_decide_eq_true as_'; obtain ⟨ad107, e107, hx107_0, hx107_1, hx107_2⟩ := at_T46 HR0_1.out x33_2 p107 q107; cases e107; replace hx107_0 := (HB.out.cell (World.block_lt_of_cell? w _ hx107_0)).trans hx107_0; replace hx107_1 := (HB.out.cell (World.block_lt_of_cell? w _ hx107_1)).trans hx107_1; replace hx107_2 := (HB.out.cell (World.block_lt_of_cell? w _ hx107_2)).trans hx107_2; replace p107 := eq_true p107; replace q107 := eq_true q107; go_wp2_with (first | ((with_reducible refine gate_dst (N := 5) rfl ?_); (try (refine gate_guard (by rfl) ?_; dsimp only)); refine box_event ?hg (N := 5) ?hd (cs := #[.int .i64 0, .int .i64 0, .bool false]) (t := 46) ?hr ?_; (case hd => rfl); (case hg => rfl); (case hr => first | (go_simp; done) | (go_simp; rfl)); intro gb108 hg w26 hbox hb; have n0_ := Aside0.mk (blk_below (g := gb106) (o := .cells #[.int .i64 a0_0, .slice (some ad107) l0_1.length c0_1, .int .i64 a0_2] 24 (0, 0)) (by (with_reducible repeat (first | refine blk_drewN ?_ _ | refine blk_drew ?_ | refine blk_alloc ?_ _)); exact BK106.out) hb); have n1_ := Aside0.mk (below_step (by repeat (first | (with_reducible first | exact HB.out | apply below_alloc | apply pw_below_drewN | apply below_drew1 | refine below_set ?_ GE106.out) | exact HB.out)) hb); have n2_ := Aside0.mk (hbox); have n3_ := Aside0.mk ((by rw [hg]; exact (below_size (by repeat (first | (with_reducible first | exact HB.out | apply below_alloc | apply pw_below_drewN | apply below_drew1 | refine below_set ?_ GE106.out) | exact HB.out))) : w.heap.size ≤ gb108)); have n4_ := Aside0.mk ((by rw [hg]; exact (below_size (by repeat (first | (with_reducible first | exact HB.out | apply below_alloc | apply pw_below_drewN | apply below_drew1 | refine below_set ?_ GE106.out) | exact HB.out))) : w.heap.size ≤ gb108)); have n5_ := Aside0.mk ((by rw [hg]; exact Nat.ne_of_lt (blk_lt (g := gb106) (o := .cells #[.int .i64 a0_0, .slice (some ad107) l0_1.length c0_1, .int .i64 a0_2] 24 (0, 0)) (by (with_reducible repeat (first | refine blk_drewN ?_ _ | refine blk_drew ?_ | refine blk_alloc ?_ _)); exact BK106.out)) : gb106 ≠ gb108)); have n6_ := Aside0.mk ((by rw [hg]; exact Nat.ne_of_gt (blk_lt (g := gb106) (o := .cells #[.int .i64 a0_0, .slice (some ad107) l0_1.length c0_1, .int .i64 a0_2] 24 (0, 0)) (by (with_reducible repeat (first | refine blk_drewN ?_ _ | refine blk_drew ?_ | refine blk_alloc ?_ _)); exact BK106.out)) : gb108 ≠ gb106)); clear BK106; clear HB; have BK106 := n0_; have HB := n1_; have BK108 := n2_; have GW108 := n3_; have GE108 := n4_; have NB106_108 := n5_; have NB108_106 := n6_; clear n0_ n1_ n2_ n3_ n4_ n5_ n6_; clear hb hbox hg; have hnb27 := NB108_106.out; have hnc27 := NB106_108.out; have hcz28_0 : w26.cell? ⟨gb108, 0, none⟩ = some (.int .i64 0) := (blk_cell BK108.out 0).trans rfl; have hcz28_1 : w26.cell? ⟨gb108, 1, none⟩ = some (.int .i64 0) := (blk_cell BK108.out 1).trans rfl; have hcz28_2 : w26.cell? ⟨gb108, 2, none⟩ = some (.bool false) := (blk_cell BK108.out 2).trans rfl; have hfz28_0 := blk_frozen BK108.out 0; have hfz28_1 := blk_frozen BK108.out 1; have hfz28_2 := blk_frozen BK108.out 2))
                    go_roundg k2
                    case measure => have := HJ1.out; have := HK2.out; omega
                    case rel => exact ⟨(false), (wrap64 (x33_2 + 1)), rz_, rz_, H', ⟨by have := HJ1.out; have := HK2.out; omega⟩, ⟨by (with_reducible repeat (first | refine blk_drewN ?_ _ | refine blk_drew ?_ | refine blk_alloc ?_ _)); refine blk_far ?_ NB106_108.out _; (with_reducible repeat (first | refine blk_drewN ?_ _ | refine blk_drew ?_ | refine blk_alloc ?_ _)); refine blk_far ?_ NB106_108.out _; (with_reducible repeat (first | refine blk_drewN ?_ _ | refine blk_drew ?_ | refine blk_alloc ?_ _)); refine blk_far ?_ NB106_108.out _; (with_reducible repeat (first | refine blk_drewN ?_ _ | refine blk_drew ?_ | refine blk_alloc ?_ _)); exact BK106.out⟩, ⟨by repeat (first | (with_reducible first | exact HB.out | apply below_alloc | apply pw_below_drewN | apply below_drew1 | refine below_set ?_ GE106.out | refine below_set ?_ GE108.out) | exact HB.out)⟩⟩
                · replace c17 := Bool.eq_false_iff.mpr c17; subst c17; have H1 : (group_Check.l0 k2 false l0_1 (l0_1.length : Int) (wrap64 (x33_2 + 1)) a0_0 l0_1 a0_2) = some r := by rw [if_neg (show ¬ (false = true) by decide)] at H; exact H
                  clear H; have H := H1; clear H1; have H' := Aside0.mk H; clear H; have p107 : 0 ≤ (x33_2 : Int) := of_decide_eq_true as_'; have q107 : x33_2 < (l0_1.length : Int) := of_decide_eq_true as_'; obtain ⟨ad107, e107, hx107_0, hx107_1, hx107_2⟩ := at_T46 HR0_1.out x33_2 p107 q107; cases e107; replace hx107_0 := (HB.out.cell (World.block_lt_of_cell? w _ hx107_0)).trans hx107_0; replace hx107_1 := (HB.out.cell (World.block_lt_of_cell? w _ hx107_1)).trans hx107_1; replace hx107_2 := (HB.out.cell (World.block_lt_of_cell? w _ hx107_2)).trans hx107_2; replace p107 := eq_true p107; replace q107 := eq_true q107; go_wp2_with (first | ((with_reducible refine gate_dst (N := 5) rfl ?_); (try (refine gate_guard (by rfl) ?_; dsimp only)); refine box_event ?hg (N := 5) ?hd (cs := #[.int .i64 0, .int .i64 0, .bool false]) (t := 46) ?hr ?_; (case hd => rfl); (case hg => rfl); (case hr => first | (go_simp; done) | (go_simp; rfl)); intro gb108 hg w29 hbox hb; have n0_ := Aside0.mk (blk_below (g := gb106) (o := .cells #[.int .i64 a0_0, .slice (some ad107) l0_1.length c0_1, .int .i64 a0_2] 24 (0, 0)) (by (with_reducible repeat (first | refine blk_drewN ?_ _ | refine blk_drew ?_ | refine blk_alloc ?_ _)); exact BK106.out) hb); have n1_ := Aside0.mk (below_step (by repeat (first | (with_reducible first | exact HB.out | apply below_alloc | apply pw_below_drewN | apply below_drew1 | refine below_set ?_ GE106.out) | exact HB.out)) hb); have n2_ := Aside0.mk (hbox); have n3_ := Aside0.mk ((by rw [hg]; exact (below_size (by repeat (first | (with_reducible first | exact HB.out | apply below_alloc | apply pw_below_drewN | apply below_drew1 | refine below_set ?_ GE106.out) | exact HB.out))) : w.heap.size ≤ gb108)); have n4_ := Aside0.mk ((by rw [hg]; exact (below_size (by repeat (first | (with_reducible first | exact HB.out | apply below_alloc | apply pw_below_drewN | apply below_drew1 | refine below_set ?_ GE106.out) | exact HB.out))) : w.heap.size ≤ gb108)); have n5_ := Aside0.mk ((by rw [hg]; exact Nat.ne_of_lt (blk_lt (g := gb106) (o := .cells #[.int .i64 a0_0, .slice (some ad107) l0_1.length c0_1, .int .i64 a0_2] 24 (0, 0)) (by (with_reducible repeat (first | refine blk_drewN ?_ _ | refine blk_drew ?_ | refine blk_alloc ?_ _)); exact BK106.out)) : gb106 ≠ gb108)); have n6_ := Aside0.mk ((by rw [hg]; exact Nat.ne_of_gt (blk_lt (g := gb106) (o := .cells #[.int .i64 a0_0, .slice (some ad107) l0_1.length c0_1, .int .i64 a0_2] 24 (0, 0)) (by (with_reducible repeat (first | refine blk_drewN ?_ _ | refine blk_drew ?_ | refine blk_alloc ?_ _)); exact BK106.out)) : gb108 ≠ gb106)); clear BK106; clear HB; have BK106 := n0_; have HB := n1_; have BK108 := n2_; have GW108 := n3_; have GE108 := n4_; have NB106_108 := n5_; have NB108_106 := n6_; clear n0_ n1_ n2_ n3_ n4_ n5_ n6_; clear hb hbox hg; have hnb30 := NB108_106.out; have hnc30 := NB106_108.out; have hcz31_0 : w29.cell? ⟨gb108, 0, none⟩ = some (.int .i64 0) := (blk_cell BK108.out 0).trans rfl; have hcz31_1 : w29.cell? ⟨gb108, 1, none⟩ = some (.int .i64 0) := (blk_cell BK108.out 1).trans rfl; have hcz31_2 : w29.cell? ⟨gb108, 2, none⟩ = some (.bool false) := (blk_cell BK108.out 2).trans rfl; have hfz31_0 := blk_frozen BK108.out 0; have hfz31_1 := blk_frozen BK108.out 1; have hfz31_2 := blk_frozen BK108.out 2))
                  go_roundg k2
                  case measure => have := HJ1.out; have := HK2.out; omega
                  case rel => exact ⟨(false), (wrap64 (x33_2 + 1)), rz_, rz_, H', ⟨by have := HJ1.out; have := HK2.out; omega⟩, ⟨by (with_reducible repeat (first | refine blk_drewN ?_ _ | refine blk_drew ?_ | refine blk_alloc ?_ _)); refine blk_far ?_ NB106_108.out _; (with_reducible repeat (first | refine blk_drewN ?_ _ | refine blk_drew ?_ | refine blk_alloc ?_ _)); refine blk_far ?_ NB106_108.out _; (with_reducible repeat (first | refine blk_drewN ?_ _ | refine blk_drew ?_ | refine blk_alloc ?_ _)); refine blk_far ?_ NB106_108.out _; (with_reducible repeat (first | refine blk_drewN ?_ _ | refine blk_drew ?_ | refine blk_alloc ?_ _)); exact BK106.out⟩, ⟨by repeat (first | (with_reducible first | exact HB.out | apply below_alloc | apply pw_below_drewN | apply below_drew1 | refine below_set ?_ GE106.out | refine below_set ?_ GE108.out) | exact HB.out)⟩⟩
              · rw [if_neg c16] at H; exact absurd H (by simp)
            · rw [if_neg c15] at H; exact absurd H (by simp)
          · rw [if_neg c14] at H; have c14b0 : decide (x33_2 < (l0_1.length : Int)) = false := decide_eq_false c14; clear c14; by_cases c32 : x3_2 = true
            · subst c32; have H1 : (if 0 < (l0_1.length : Int) then (if ((rd_T46 l0_1 0).f2 = true) then (some 0) else (some 1)) else (none)) = some r := by rw [if_pos rfl] at H; exact H
              clear H; have H := H1; clear H1; by_cases c33 : 0 < (l0_1.length : Int)
              · rw [if_pos c33] at H; have c33b0 : decide (0 < (l0_1.length : Int)) = true := decide_eq_true c33; have c33b1 : decide (0 < l0_1.length) = true := decide_eq_true (by omega); clear c33; obtain ⟨bq34, hbq34⟩ : ∃ b_ : Bool, b_ = ((rd_T46 l0_1 0).f2) := ⟨_, rfl⟩; replace H : (if (bq34 = true) then (some 0) else (some 1)) = some r := by rw [← hbq34] at H; exact H
                have Nbq34 := Aside0.mk hbq34; clear hbq34; by_cases c35 : (bq34 = true)
                · subst c35; have H1 : (some 0) = some r := by rw [if_pos rfl] at H; exact H
                  clear H; have H := H1; clear H1; obtain rfl := Option.some.inj H; have hcz36_0 : wr.cell? ⟨gb106, 0, none⟩ = some (.int .i64 a0_0) := (blk_cell BK106.out 0).trans rfl; have hcz36_1 : wr.cell? ⟨gb106, 1, none⟩ = some (.slice A0_1 l0_1.length c0_1) := (blk_cell BK106.out 1).trans rfl; have hcz36_2 : wr.cell? ⟨gb106, 2, none⟩ = some (.int .i64 a0_2) := (blk_cell BK106.out 2).trans rfl; have hfz36_0 := blk_frozen BK106.out 0; have hfz36_1 := blk_frozen BK106.out 1; have hfz36_2 := blk_frozen BK106.out 2; have p109 : 0 ≤ (0 : Int) := (by omega); have q109 : 0 < (l0_1.length : Int) := of_decide_eq_true as_'; obtain ⟨ad109, e109, hx109_0, hx109_1, hx109_2⟩ := at_T46 HR0_1.out 0 p109 q109
                  (try rw [← Nbq34.out] at hx109_2)
                  (try rw [← Nbq34.out] at hw109_2)
                  cases e109; have qi109 : (0 < l0_1.length) = True := eq_true (by omega)
                  (try rw [show ((0 : Int)).toNat = 0 from rfl] at hx109_0)
                  (try rw [show 0 * 3 = 0 from rfl] at hx109_0)
                  (try rw [Addr.add_zero'] at hx109_0)
                  (try rw [show ((0 : Int)).toNat = 0 from rfl] at hx109_1)
                  (try rw [show 0 * 3 = 0 from rfl] at hx109_1)
                  (try rw [Addr.add_zero'] at hx109_1)
                  (try rw [show ((0 : Int)).toNat = 0 from rfl] at hx109_2)
                  (try rw [show 0 * 3 = 0 from rfl] at hx109_2)
                  (try rw [Addr.add_zero'] at hx109_2)
                  replace hx109_0 := (HB.out.cell (World.block_lt_of_cell? w _ hx109_0)).trans hx109_0; replace hx109_1 := (HB.out.cell (World.block_lt_of_cell? w _ hx109_1)).trans hx109_1; replace hx109_2 := (HB.out.cell (World.block_lt_of_cell? w _ hx109_2)).trans hx109_2; replace p109 := eq_true p109; replace q109 := eq_true q109; go_wp2; go_ret
                  exact ⟨ew_, by repeat (first | (with_reducible first | exact HB.out | apply below_alloc | apply pw_below_drewN | apply below_drew1 | refine below_set ?_ GE106.out) | exact HB.out)⟩
                · replace c35 := Bool.eq_false_iff.mpr c35; subst c35; have H1 : (some 1) = some r := by rw [if_neg (show ¬ (false = true) by decide)] at H; exact H
                  clear H; have H := H1; clear H1; obtain rfl := Option.some.inj H; have hcz37_0 : wr.cell? ⟨gb106, 0, none⟩ = some (.int .i64 a0_0) := (blk_cell BK106.out 0).trans rfl; have hcz37_1 : wr.cell? ⟨gb106, 1, none⟩ = some (.slice A0_1 l0_1.length c0_1) := (blk_cell BK106.out 1).trans rfl; have hcz37_2 : wr.cell? ⟨gb106, 2, none⟩ = some (.int .i64 a0_2) := (blk_cell BK106.out 2).trans rfl; have hfz37_0 := blk_frozen BK106.out 0; have hfz37_1 := blk_frozen BK106.out 1; have hfz37_2 := blk_frozen BK106.out 2; have p109 : 0 ≤ (0 : Int) := (by omega); have q109 : 0 < (l0_1.length : Int) := of_decide_eq_true as_'; obtain ⟨ad109, e109, hx109_0, hx109_1, hx109_2⟩ := at_T46 HR0_1.out 0 p109 q109
                  (try rw [← Nbq34.out] at hx109_2)
                  (try rw [← Nbq34.out] at hw109_2)
                  cases e109; have qi109 : (0 < l0_1.length) = True := eq_true (by omega)
                  (try rw [show ((0 : Int)).toNat = 0 from rfl] at hx109_0)
                  (try rw [show 0 * 3 = 0 from rfl] at hx109_0)
                  (try rw [Addr.add_zero'] at hx109_0)
                  (try rw [show ((0 : Int)).toNat = 0 from rfl] at hx109_1)
                  (try rw [show 0 * 3 = 0 from rfl] at hx109_1)
                  (try rw [Addr.add_zero'] at hx109_1)
                  (try rw [show ((0 : Int)).toNat = 0 from rfl] at hx109_2)
                  (try rw [show 0 * 3 = 0 from rfl] at hx109_2)
                  (try rw [Addr.add_zero'] at hx109_2)
                  replace hx109_0 := (HB.out.cell (World.block_lt_of_cell? w _ hx109_0)).trans hx109_0; replace hx109_1 := (HB.out.cell (World.block_lt_of_cell? w _ hx109_1)).trans hx109_1; replace hx109_2 := (HB.out.cell (World.block_lt_of_cell? w _ hx109_2)).trans hx109_2; replace p109 := eq_true p109; replace q109 := eq_true q109; go_wp2; go_ret
                  exact ⟨ew_, by repeat (first | (with_reducible first | exact HB.out | apply below_alloc | apply pw_below_drewN | apply below_drew1 | refine below_set ?_ GE106.out) | exact HB.out)⟩
              · rw [if_neg c33] at H; exact absurd H (by simp)
            · replace c32 := Bool.eq_false_iff.mpr c32; subst c32; have H1 : (some 1) = some r := by rw [if_neg (show ¬ (false = true) by decide)] at H; exact H
              clear H; have H := H1; clear H1; obtain rfl := Option.some.inj H; go_wp2; go_ret
              exact ⟨ew_, by repeat (first | (with_reducible first | exact HB.out | apply below_alloc | apply pw_below_drewN | apply below_drew1 | refine below_set ?_ GE106.out) | exact HB.out)⟩
end Go.Proofs.YthemhfloablccaaDoor.Pr
end

section
namespace Go.Proofs.YthemhfloablccaaDoor.Pr
open Go.RowKit Go.Deep Go.Proofs.YthemhfloablccaaDoorW.PrintWords Go.Proofs.YthemhfloablccaaDoorW.PrintLast Go.Proofs.YthemhfloablccaaDoorW.PrintMore
set_option maxHeartbeats 4000000
def flagN (b : Bool) : Int := if b = true then 1 else 0
def memB (m : Mem) : List Nat := byN m.f1 6 ++ byN (flagN m.f2) 1
def grpL (E : Int) (l : List Mem) (O : Int) : List Nat := (byN E 6 ++ byN O 6) ++ l.flatMap memB
def goodG (E : Int) (l : List Mem) (O : Int) : Prop := l.length = 6 ∧ 0 ≤ E ∧ E ≤ 1099511627775 ∧ 0 ≤ O ∧ O ≤ 1099511627775 ∧ ∀ m ∈ l, 0 ≤ m.f1 ∧ m.f1 ≤ 1099511627775
instance (E : Int) (l : List Mem) (O : Int) : Decidable (goodG E l O) := by unfold goodG; infer_instance
def group_Put.f (k : Nat) (a0_0 : Int) (l0_1 : List Mem) (a0_2 : Int) : Option (ByteArray × Int) :=
 (group_Check.f k a0_0 l0_1 a0_2).bind fun c => if c = 0 then (if goodG a0_0 l0_1 a0_2 then some (txt (grpL a0_0 l0_1 a0_2), 0) else none) else some (⟨#[]⟩, c)
def PAt (w : World) (gb og : Nat) (gv : Array Value) (L : List Nat) (wx : World) : Prop :=
 Below w.heap.size w wx ∧ wx.heap[gb]? = some (.cells gv 24 (0, 0)) ∧ OutAt w.heap.size og true false L wx
section
variable {w wx w' : World} {gb og : Nat} {gv : Array Value} {L : List Nat}
theorem PAt.below (h : PAt w gb og gv L wx) (hb : Below wx.heap.size wx w') : PAt w gb og gv L w' := ⟨below_then h.1 h.1.size hb, blk_below h.2.1 hb, h.2.2.below hb⟩
theorem step_good (L M : List Nat) (h : L.length + M.length ≤ 65536) : outStep false L true M = (false, L ++ M) := by
 unfold outStep
 rw [if_neg (by intro q; rcases q with q | q | q; cases q; cases q; omega)]
theorem pnum (h : PAt w gb og gv L wx) (n : Int) (h0 : 0 ≤ n) (h1 : n ≤ 1099511627775) (hl : L.length + 6 ≤ 65536) :
  Calls Tryd.prog 56 #[.pointer (some ⟨og, 0, none⟩), .int .i64 n] wx fun e w' => e = .returned (.tuple #[]) ∧ PAt w gb og gv (L ++ byN n 6) w' ∧ FrO wx w' := by
 refine (Out_Num w.heap.size og true false L n wx h.2.2 (by omega) h.1.size).mono ?_
 rintro e w' ⟨rfl, ho, hf, hb⟩
 have ht : timeB n = true := decide_eq_true ⟨h0, h1⟩
 rw [ht, step_good _ _ (by rw [byN_length _ _ (by decide)]; exact hl)] at ho
 exact ⟨rfl, ⟨h.1.trans hb, hf.blk h.2.1 (by decide) (by decide), ho⟩, hf⟩
theorem pbyte (h : PAt w gb og gv L wx) (n : Int) (h0 : 0 ≤ n) (h1 : n ≤ 255) (hl : L.length + 1 ≤ 65536) :
  Calls Tryd.prog 58 #[.pointer (some ⟨og, 0, none⟩), .int .i64 n] wx fun e w' => e = .returned (.tuple #[]) ∧ PAt w gb og gv (L ++ byN n 1) w' ∧ FrO wx w' := by
 refine (Out_Byte w.heap.size og true false L n wx h.2.2 (by omega) h.1.size).mono ?_
 rintro e w' ⟨rfl, ho, hf, hb⟩
 have ht : oneB n = true := decide_eq_true ⟨h0, h1⟩
 rw [ht, step_good _ _ (by rw [byN_length _ _ (by decide)]; exact hl)] at ho
 exact ⟨rfl, ⟨h.1.trans hb, hf.blk h.2.1 (by decide) (by decide), ho⟩, hf⟩
end
theorem memB_len (l : List Mem) : (l.flatMap memB).length = 7 * l.length := by
 induction l with
 | nil => rfl
 | cons m l ih => rw [List.flatMap_cons, List.length_append, ih, memB, List.length_append, byN_length _ _ (by decide), byN_length _ _ (by decide), List.length_cons]; omega
theorem take_memB {l : List Mem} {j : Nat} {m : Mem} (h : l[j]? = some m) : (l.take (j + 1)).flatMap memB = (l.take j).flatMap memB ++ memB m := by
 rw [List.take_add_one, h, List.flatMap_append]
 simp
theorem flag_calls (b : Bool) (w : World) : Calls Tryd.prog 57 #[.bool b] w fun e w' => e = .returned (.int .i64 (flagN b)) ∧ w' = w := by
 cases b
 ·go_enter Tryd.func57, Tryd.ntmps57
  go_wp2
  go_ret
  exact ⟨rfl, rfl⟩
 ·go_enter Tryd.func57, Tryd.ntmps57
  go_wp2
  go_ret
  exact ⟨rfl, rfl⟩
set_option maxRecDepth 100000 in
theorem group_Put.calls (k : Nat) (a0_0 : Int) (A0_1 : Option Addr) (c0_1 : Nat) (l0_1 : List Mem) (a0_2 : Int) (r1 : ByteArray) (r2 : Int) (w : World) (hr0_1 : Kd.C k46 w A0_1 l0_1.length l0_1) (hc0_1 : l0_1.length ≤ c0_1) (h : group_Put.f k a0_0 l0_1 a0_2 = some (r1, r2)) :
  Calls Tryd.prog 27 #[.agg #[.int .i64 a0_0, .slice A0_1 l0_1.length c0_1, .int .i64 a0_2]] w fun e w' => e = .returned (.tuple #[.string r1, .int .i64 r2]) ∧ Below w.heap.size w w' := by
 unfold group_Put.f at h
 obtain ⟨c, hgc, h1⟩ := Option.bind_eq_some_iff.1 h
 have HGC := Aside0.mk (fun (W : World) (hb : Below w.heap.size w W) => group_Check.calls k a0_0 A0_1 c0_1 l0_1 a0_2 c W (Kd.C_below hr0_1 hb) hc0_1 hgc)
 have H := Aside0.mk h1
 have HR0 := Aside0.mk hr0_1
 have HBA := Aside0.mk (below_alloc (Below.refl w.heap.size w) (.cells #[.int .i64 a0_0, .slice A0_1 l0_1.length c0_1, .int .i64 a0_2] 24))
 have HNA := Aside0.mk (heap_alloc_new w (.cells #[.int .i64 a0_0, .slice A0_1 l0_1.length c0_1, .int .i64 a0_2] 24))
 clear h h1 hgc hr0_1 hc0_1
 by_cases hc : c = 0
 ·subst hc
  have hr := H.out
  rw [if_pos rfl] at hr
  by_cases hg : goodG a0_0 l0_1 a0_2
  ·rw [if_pos hg] at hr
   cases hr
   have HG := Aside0.mk hg
   clear hg H
   go_enter Tryd.func27, Tryd.ntmps27
   go_wp2_with (fail)
   refine (HGC.out _ HBA.out).mono ?_
   rintro e w1 ⟨rfl, hb⟩
   have HB1 := Aside0.mk (below_then HBA.out HBA.out.size hb)
   have HN1 := Aside0.mk (blk_below HNA.out hb)
   clear hb HBA HNA HGC
   go_wp2_with (fail)
   refine (NewOut_calls w.heap.size w1 HB1.out.size).mono ?_
   rintro e w2 ⟨rfl, ho, hb⟩
   have P2 := Aside0.mk (show PAt w w.heap.size w1.heap.size #[.int .i64 a0_0, .slice A0_1 l0_1.length c0_1, .int .i64 a0_2] [] w2 from ⟨below_then HB1.out HB1.out.size hb, blk_below HN1.out hb, ho⟩)
   clear hb ho HB1 HN1
   generalize w1.heap.size = og at P2 ⊢
   obtain ⟨b0, b1, b2⟩ := (show _ ∧ _ ∧ _ from ⟨(blk_cell P2.out.2.1 0).trans rfl, (blk_cell P2.out.2.1 1).trans rfl, (blk_cell P2.out.2.1 2).trans rfl⟩ : w2.cell? ⟨w.heap.size, 0, none⟩ = some (.int .i64 a0_0) ∧ w2.cell? ⟨w.heap.size, 1, none⟩ = some (.slice A0_1 l0_1.length c0_1) ∧ w2.cell? ⟨w.heap.size, 2, none⟩ = some (.int .i64 a0_2))
   go_wp2_with (fail)
   refine (pnum P2.out a0_0 HG.out.2.1 HG.out.2.2.1 (by simp)).mono ?_
   rintro e w3 ⟨rfl, h3, -⟩
   have P3 := Aside0.mk h3
   clear h3 b0 b1 b2
   have b2 : w3.cell? ⟨w.heap.size, 2, none⟩ = some (.int .i64 a0_2) := (blk_cell P3.out.2.1 2).trans rfl
   go_wp2_with (fail)
   refine (pnum P3.out a0_2 HG.out.2.2.2.1 HG.out.2.2.2.2.1 (by rw [List.nil_append, byN_length _ _ (by decide)]; omega)).mono ?_
   rintro e w4 ⟨rfl, h4, -⟩
   have P4 := Aside0.mk (show PAt w w.heap.size og #[.int .i64 a0_0, .slice A0_1 l0_1.length c0_1, .int .i64 a0_2] (byN a0_0 6 ++ byN a0_2 6) w4 by simpa using h4)
   clear h4 b2
   have b1 : w4.cell? ⟨w.heap.size, 1, none⟩ = some (.slice A0_1 l0_1.length c0_1) := (blk_cell P4.out.2.1 1).trans rfl
   obtain ⟨base, hbase⟩ : ∃ B, byN a0_0 6 ++ byN a0_2 6 = B := ⟨_, rfl⟩
   have hbl : base.length = 12 := by rw [← hbase, List.length_append, byN_length _ _ (by decide), byN_length _ _ (by decide)]
   have HBL := Aside0.mk hbl
   have HBASE := Aside0.mk hbase
   rw [hbase] at P4
   clear hbase hbl
   go_wp2_with (fail)
   clear b1
   go_loopg [26] l0_1.length (fun gk i wx => ∃ j : Nat, j ≤ l0_1.length ∧ i = .int .i64 (j : Int) ∧ Aside0 (gk = l0_1.length - j) ∧ Aside0 (PAt w w.heap.size og #[.int .i64 a0_0, .slice A0_1 l0_1.length c0_1, .int .i64 a0_2] (base ++ (l0_1.take j).flatMap memB) wx))
   case atStart => exact ⟨0, Nat.zero_le _, rfl, ⟨rfl⟩, ⟨by simpa using P4.out⟩⟩
   case round =>
    obtain ⟨j, hj, rfl, HGK, HP⟩ := hrel
    by_cases hlt : j < l0_1.length
    ·have q1 : decide (j < l0_1.length) = true := decide_eq_true hlt
     obtain ⟨ad, hA, c0, c1, c2⟩ := at_T46 (Kd.C_below HR0.out HP.out.1) (j : Int) (by omega) (by omega)
     subst hA
     have hx := List.getElem?_eq_getElem hlt
     generalize l0_1[j] = m at hx
     rw [rd_mem l0_1 j m hx] at c0 c1 c2
     rw [Int.toNat_natCast] at c0 c1 c2
     have e5 := eq_true hlt
     have HLT := Aside0.mk hlt
     have HX := Aside0.mk hx
     have w1 : wrap64 ((j : Int) + 1) = ((j + 1 : Nat) : Int) := by have := HG.out.1; unfold wrap64; omega
     clear hlt hx hj
     go_upto_region 11 with (first | ((with_reducible refine gate_dst (N := 8) rfl ?_); (try (refine gate_guard (by rfl) ?_; dsimp only)); refine box_event ?hg (N := 8) ?hd (cs := #[.int .i64 0, .int .i64 0, .bool false]) (t := 46) ?hr ?_; (case hd => rfl); (case hg => rfl); (case hr => first | (go_simp; done) | (go_simp; rfl)); intro g8 hg w5 hbox hb; have Q5 := Aside0.mk (HP.out.below hb); have K5 := Aside0.mk hbox; have L5 := Aside0.mk (show w.heap.size ≤ g8 ∧ w.heap.size ≠ g8 ∧ g8 ≠ og by rw [hg]; exact ⟨HP.out.1.size, Nat.ne_of_lt (blk_lt HP.out.2.1), Nat.ne_of_gt HP.out.2.2.lt⟩); clear hb hbox hg c0 c1 c2; have d0 : w5.cell? ⟨g8, 0, none⟩ = some (.int .i64 0) := (blk_cell K5.out 0).trans rfl; have d1 : w5.cell? ⟨g8, 1, none⟩ = some (.int .i64 0) := (blk_cell K5.out 1).trans rfl; have d2 : w5.cell? ⟨g8, 2, none⟩ = some (.bool false) := (blk_cell K5.out 2).trans rfl; have z0 := blk_frozen K5.out 0; have z1 := blk_frozen K5.out 1; have z2 := blk_frozen K5.out 2))
     (try simp only [Act.put, List.setIfInBounds_toArray, List.set_cons_zero, List.set_cons_succ])
     have K6 := Aside0.mk (blk_put (cs' := #[.int .i64 m.f0, .int .i64 m.f1, .bool m.f2]) (blk_put (cs' := #[.int .i64 m.f0, .int .i64 m.f1, .bool false]) (blk_put (cs' := #[.int .i64 m.f0, .int .i64 0, .bool false]) K5.out 0 (.int .i64 m.f0) rfl) 1 (.int .i64 m.f1) rfl) 2 (.bool m.f2) rfl)
     have P6 : Aside0 (PAt w w.heap.size og #[.int .i64 a0_0, .slice (some ad) l0_1.length c0_1, .int .i64 a0_2] (base ++ (l0_1.take j).flatMap memB) (((w5.setCell ⟨g8, 0, none⟩ (.int .i64 m.f0)).setCell ⟨g8, 1, none⟩ (.int .i64 m.f1)).setCell ⟨g8, 2, none⟩ (.bool m.f2))) := ⟨⟨below_set (below_set (below_set Q5.out.1 L5.out.1) L5.out.1) L5.out.1, blk_far (blk_far (blk_far Q5.out.2.1 L5.out.2.1 _) L5.out.2.1 _) L5.out.2.1 _, ((Q5.out.2.2.far K5.out (by decide) (by decide) 0 _).far (blk_put K5.out 0 _ rfl) (by decide) (by decide) 1 _).far (blk_put (blk_put K5.out 0 _ rfl) 1 _ rfl) (by decide) (by decide) 2 _⟩⟩
     clear Q5 K5 d0 d1 d2 z0 z1 z2
     generalize ((w5.setCell ⟨g8, 0, none⟩ (.int .i64 m.f0)).setCell ⟨g8, 1, none⟩ (.int .i64 m.f1)).setCell ⟨g8, 2, none⟩ (.bool m.f2) = w6 at K6 P6 ⊢
     have d1 : w6.cell? ⟨g8, 1, none⟩ = some (.int .i64 m.f1) := (blk_cell K6.out 1).trans rfl
     have hmr : 0 ≤ m.f1 ∧ m.f1 ≤ 1099511627775 := HG.out.2.2.2.2.2 m (List.mem_of_getElem? HX.out)
     have HMR := Aside0.mk hmr
     have hfl : ((l0_1.take j).flatMap memB).length = 7 * j := by rw [memB_len, List.length_take]; have := HLT.out; omega
     have hl1 : (base ++ (l0_1.take j).flatMap memB).length ≤ 54 := by rw [List.length_append, hfl]; have := HBL.out; have := HLT.out; have := HG.out.1; omega
     have HL1 := Aside0.mk hl1
     clear hmr hfl hl1
     generalize hL : base ++ (l0_1.take j).flatMap memB = L at P6 HL1
     have HLL := Aside0.mk hL
     clear hL
     go_wp2_with (fail)
     refine (pnum P6.out m.f1 HMR.out.1 HMR.out.2 (by have := HL1.out; omega)).mono ?_
     rintro e w7 ⟨rfl, h7, hf7⟩
     have P7 := Aside0.mk h7
     have K7 := Aside0.mk (hf7.blk K6.out (by decide) (by decide))
     clear h7 hf7 K6 P6 d1
     have d2 : w7.cell? ⟨g8, 2, none⟩ = some (.bool m.f2) := (blk_cell K7.out 2).trans rfl
     have HFC := Aside0.mk (flag_calls m.f2)
     have hfr : 0 ≤ flagN m.f2 ∧ flagN m.f2 ≤ 255 := by unfold flagN; split <;> omega
     have HFR := Aside0.mk hfr
     clear hfr
     go_wp2_with (fail)
     refine (HFC.out _).mono ?_
     rintro e w8 ⟨rfl, rfl⟩
     go_wp2_with (fail)
     refine (pbyte P7.out (flagN m.f2) HFR.out.1 HFR.out.2 (by rw [List.length_append, byN_length _ _ (by decide)]; have := HL1.out; omega)).mono ?_
     rintro e w9 ⟨rfl, h9, -⟩
     have P9 := Aside0.mk h9
     clear h9 d2
     go_wp2_with (fail)
     go_roundg (l0_1.length - (j + 1))
     case measure => have := HGK.out; have := HLT.out; omega
     case rel => exact ⟨j + 1, HLT.out, by go_num, ⟨rfl⟩, ⟨by rw [take_memB HX.out, ← List.append_assoc, HLL.out, memB, ← List.append_assoc]; exact P9.out⟩⟩
    ·have q1 : decide (j < l0_1.length) = false := decide_eq_false hlt
     obtain rfl : j = l0_1.length := by omega
     have PF := Aside0.mk (show PAt w w.heap.size og #[.int .i64 a0_0, .slice A0_1 l0_1.length c0_1, .int .i64 a0_2] (grpL a0_0 l0_1 a0_2) wr by have := HP.out; rwa [List.take_length, ← HBASE.out] at this)
     clear hlt hj HP
     have HD := Aside0.mk (Out_Done w.heap.size og _ wr PF.out.2.2)
     go_wp2_with (fail)
     refine HD.out.mono ?_
     rintro e w9 ⟨rfl, rfl⟩
     go_wp2_with (fail)
     first | go_ret | go_ret2
     exact ⟨rfl, PF.out.1⟩
  ·rw [if_neg hg] at hr
   cases hr
 ·have hr := H.out
  rw [if_neg hc] at hr
  cases hr
  have dn : (r2 != 0) = true := bne_iff_ne.2 hc
  clear hc H
  go_enter Tryd.func27, Tryd.ntmps27
  go_wp2_with (fail)
  refine (HGC.out _ HBA.out).mono ?_
  rintro e w1 ⟨rfl, hb⟩
  have HB1 := Aside0.mk (below_then HBA.out HBA.out.size hb)
  clear hb HBA HNA HGC
  go_wp2_with (fail)
  first | go_ret | go_ret2
  exact ⟨rfl, HB1.out⟩
end Go.Proofs.YthemhfloablccaaDoor.Pr
end

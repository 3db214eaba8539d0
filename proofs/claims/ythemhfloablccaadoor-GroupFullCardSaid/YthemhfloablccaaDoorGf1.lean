/- Joined texts (pack.py): what the statement's proof needs, part 1. No condition. -/
import Derived.Below
import Derived.Deep.Draws
import Derived.Deep.AppendLies
import Derived.Maps.AppendAt
import Derived.OwnWalk
import Derived.Laws.BytesArg
import Derived.Laws.MakeOwn
import Derived.Laws.OwnMore
import Derived.Deep.OwnRows
import Derived.Tactics
import Derived.Lib.ConvBytes
import Derived.Laws.Slices
import Derived.WalkKit
import Derived.KernelRfl
import Derived.RowKit3
import Derived.Deep.LoopGhost
import Derived.Deep.QuietTactic
import Derived.BigQuiet
import Derived.WideLaws
import Derived.Deep.DeepCutAuto
import Derived.Deep.CutBlock
import Derived.Deep.RegionHeld3
import Derived.Laws.Rows
import Derived.Lib.AppendStr
import Derived.ArgAppend
import Derived.Laws.IdiomCopy
import Derived.RowKit
import Derived.OrdersHeld
import Derived.Laws.BitsLemmas
import Derived.Laws.StructEq
import Derived.Test.YthemhfloablccaaDoorProg
import Derived.Deep.Light
import Derived.StillTailTactics
import Derived.Deep.RegionLaw
import Derived.Deep.RegionHeldLaw
import Derived.Deep.DrawnRows
import Derived.Test.YthemhfloablccaaDoorTie
import Derived.Test.YthemhfloablccaaDoorCards
import Derived.LaidMore
import Derived.Lay
import Derived.SevenTiedAt
import Derived.Stop.Joined
import Derived.ProofKit
import Derived.OpenShut
import Derived.ShutString
import Derived.ChangeOld
import Derived.SizedLaws
set_option linter.unusedVariables false
set_option linter.unusedSimpArgs false
section
namespace Go.Proofs.YthemhfloablccaaDoorW.PrintWords
open Go.RowKit
structure Aside0 (p : Prop) : Prop where mk :: (out : p)
structure Drawn0 (w w' : World) : Prop where mk :: (out : ∃ n, w' = w.drewN n)
theorem Drawn0.refl (w : World) : Drawn0 w w := ⟨⟨0, rfl⟩⟩
def bt (s : ByteArray) (i : Int) : Int := if h : i.toNat < s.size then ((s[i.toNat]'h).toNat : Int) else 0
theorem bt_at (s : ByteArray) (i : Int) : ∀ h : i.toNat < s.size, ((s[i.toNat]'h).toNat : Int) = bt s i := fun h => by simp [bt, h]
def nums (k : IntKind) (xs : List Int) : List Value := xs.map fun x => .int k x
theorem below_alloc {w W : World} (h : Below w.heap.size w W) (o : Obj) : Below w.heap.size w (W.alloc o) := h.alloc h.size o
theorem below_drew {B : Nat} {w W : World} (h : Below B w W) : Below B w W.drew := ⟨h.os, h.tape, h.output, h.size, h.block⟩
theorem pw_below_drewN {B : Nat} {w W : World} (h : Below B w W) (n : Nat) : Below B w (W.drewN n) := ⟨h.os, h.tape, h.output, h.size, h.block⟩
theorem below_then {B : Nat} {w w1 w2 : World} (h : Below B w w1) (hB : B ≤ w1.heap.size) (k : Below w1.heap.size w1 w2) : Below B w w2 :=
 h.trans ⟨k.os, k.tape, k.output, k.size, fun i hi => k.block i (Nat.lt_of_lt_of_le hi hB)⟩
theorem grown_of_below {w w1 : World} (h : Below w.heap.size w w1) (row : Option Nat) : w.grownBy w1 row := ⟨h.os, h.tape, h.output, h.size, fun i hi _ => h.block i hi⟩
theorem pw_cell_below {w w1 : World} (h : Below w.heap.size w w1) {a : Addr} {v : Value} (hc : w.cell? a = some v) : w1.cell? a = some v := (h.cell (World.block_lt_of_cell? w a hc)).trans hc
theorem own_nil (W : World) (base : Nat) (e : TypeId) (size : Nat) : W.ownsRow base e size (.slice none 0 0) 0 [] := ⟨by simp, .inl ⟨rfl, rfl⟩⟩
theorem own_base {w : World} {base : Nat} {e : TypeId} {size n : Nat} {v : Value} {xs : List Value} (h : w.ownsRow base e size v n xs) (k : Nat) (hk : v.ownBlock = some k) : base ≤ k := by
 rcases h.2 with ⟨rfl, _⟩ | ⟨g, cap, cur, rfl, hb, _⟩
 ·simp [Value.ownBlock] at hk
 ·have : g = k := by simpa [Value.ownBlock] using hk
  omega
theorem own_lt {w : World} {base : Nat} {e : TypeId} {size n : Nat} {v : Value} {xs : List Value} (h : w.ownsRow base e size v n xs) (k : Nat) (hk : v.ownBlock = some k) : k < w.heap.size := by
 rcases h.2 with ⟨rfl, _⟩ | ⟨g, cap, cur, rfl, hb, hh, _⟩
 ·simp [Value.ownBlock] at hk
 ·have : g = k := by simpa [Value.ownBlock] using hk
  subst this
  exact (Array.getElem?_eq_some_iff.1 hh).1
theorem pw_own_below {w w1 : World} {base : Nat} {e : TypeId} {size n : Nat} {v : Value} {xs : List Value} (h : w.ownsRow base e size v n xs) (hb : Below w.heap.size w w1) : w1.ownsRow base e size v n xs :=
 h.kept (grown_of_below hb none) (by cases v.ownBlock <;> simp)
theorem own_slice {w : World} {base n : Nat} {e : TypeId} {size : Nat} {v : Value} {xs : List Value} (h : w.ownsRow base e size v n xs) : ∃ A c, v = .slice A n c := by
 rcases h.2 with ⟨rfl, rfl⟩ | ⟨g, cap, cur, rfl, _⟩
 ·exact ⟨none, 0, rfl⟩
 ·exact ⟨_, cap, rfl⟩
theorem own_string {P : Program} {w : World} {base n : Nat} {e' src dst e : TypeId} {v : Value} {xs : List Int} (hs : P.underlying src = some (.slice e)) (he : P.underlying e = some (.int .u8)) (hd : P.underlying dst = some .string)
  (h : w.ownsRow base e' 1 v n (nums .u8 xs)) : (convert src dst v).run P w = .ok (.string (strOfNums xs)) w := by
 have hl : xs.length = n := by have := h.1; simp [nums] at this; exact this
 rcases h.2 with ⟨rfl, rfl⟩ | ⟨g, cap, cur, rfl, _⟩
 ·obtain rfl : xs = [] := List.eq_nil_of_length_eq_zero hl
  exact run_convert_bytes_nil w src e hs he 0 0 dst hd
 ·refine run_convert_bytes_arg w src e hs he g 0 n cap xs hl (fun i hi => ?_) dst hd
  have hc := h.cells (g := g) rfl i (.int .u8 (xs.getD i 0)) (by simp [nums, List.getElem?_eq_getElem (show i < xs.length by omega), List.getD_eq_getElem?_getD])
  have ha : (⟨g, 0, none⟩ : Addr).add i = ⟨g, 0 + i, none⟩ := by unfold Addr.add; split <;> simp_all
  rwa [ha] at hc
section
variable {P : Program} {ops : Array Oper} {rest : List Oper} {o : Oper} {a : Act} {Q : Exit → Act → World → Prop}
end
section
variable {P : Program}
end
section
variable {P : Program} {ops : Array Oper} {rest : List Oper} {o : Oper} {a : Act} {Q : Exit → Act → World → Prop}
end
theorem data_length (s : ByteArray) : s.data.toList.length = s.size := by rw [Array.length_toList]; rfl
def Reps {α : Type} (R : α → List Value → Prop) (size : Nat) (ps : List α) (cs : List Value) : Prop :=
 cs.length = ps.length * size ∧ ∀ j p, ps[j]? = some p → R p ((cs.drop (j * size)).take size)
theorem Reps.none {α : Type} (R : α → List Value → Prop) (size : Nat) : Reps R size [] [] := ⟨by simp, fun j p h => by simp at h⟩
theorem Reps.snoc {α : Type} {R : α → List Value → Prop} {size : Nat} {ps : List α} {cs c : List Value} {p : α} (h : Reps R size ps cs) (hp : R p c) (hc : c.length = size) : Reps R size (ps ++ [p]) (cs ++ c) := by
 refine ⟨by rw [List.length_append, h.1, hc, List.length_append, List.length_singleton, Nat.add_mul, Nat.one_mul], fun j q hq => ?_⟩
 rcases Nat.lt_or_ge j ps.length with hj | hj
 ·rw [List.getElem?_append_left hj] at hq
  have h1 : j * size + size ≤ cs.length := by rw [h.1, ← Nat.succ_mul]; exact Nat.mul_le_mul_right _ hj
  have h2 := h.2 j q hq
  rw [List.drop_append_of_le_length (by omega), List.take_append_of_le_length (by rw [List.length_drop]; omega)]
  exact h2
 ·have hj' : j = ps.length := by
   have := (List.getElem?_eq_some_iff.1 hq).1
   rw [List.length_append, List.length_singleton] at this
   omega
  subst hj'
  have hq' : p = q := by simpa using hq
  subst hq'
  rw [← h.1, List.drop_left, ← hc, List.take_length]
  exact hp
theorem Reps.imp_ {α : Type} {R R' : α → List Value → Prop} {size : Nat} {ps : List α} {cs : List Value} (h : Reps R size ps cs) (hR : ∀ p c, R p c → R' p c) : Reps R' size ps cs := ⟨h.1, fun j p hj => hR _ _ (h.2 j p hj)⟩
def ReadsRow {α : Type} (R : α → List Value → Prop) (size : Nat) (w : World) (A : Option Addr) (n : Nat) (ps : List α) : Prop :=
 ps.length = n ∧ n ≤ 9223372036854775807 ∧ (0 < n → ∃ ad, A = some ad ∧ ∀ j p, ps[j]? = some p → ∃ c, c.length = size ∧ R p c ∧ ∀ i u, c[i]? = some u → w.cell? (ad.add (j * size + i)) = some u)
theorem ReadsRow.get_ {α : Type} {R : α → List Value → Prop} {size : Nat} {w : World} {A : Option Addr} {n : Nat} {ps : List α} (h : ReadsRow R size w A n ps) (d : α) (i : Int) (h0 : 0 ≤ i) (h1 : i < n) :
  ∃ ad c, A = some ad ∧ c.length = size ∧ R (ps.getD i.toNat d) c ∧ ∀ j u, c[j]? = some u → w.cell? (ad.add (i.toNat * size + j)) = some u := by
 obtain ⟨ad, e, hc⟩ := h.2.2 (by omega)
 have hl : i.toNat < ps.length := by have := h.1; omega
 obtain ⟨c, hs, hr, hcell⟩ := hc i.toNat _ (List.getElem?_eq_getElem hl)
 refine ⟨ad, c, e, hs, ?_, hcell⟩
 rw [List.getD_eq_getElem?_getD, List.getElem?_eq_getElem hl]
 exact hr
theorem ReadsRow.imp_ {α : Type} {R R' : α → List Value → Prop} {size : Nat} {w w1 : World} {A : Option Addr} {n : Nat} {ps : List α} (h : ReadsRow R size w A n ps) (hb : Below w.heap.size w w1) (hR : ∀ p c, R p c → R' p c) : ReadsRow R' size w1 A n ps :=
  ⟨h.1, h.2.1, fun hn => by
    obtain ⟨ad, e, hc⟩ := h.2.2 hn
    refine ⟨ad, e, fun j p hj => ?_⟩
    obtain ⟨c, hs, hr, hcell⟩ := hc j p hj
    exact ⟨c, hs, hR _ _ hr, fun i u hu => pw_cell_below hb (hcell i u hu)⟩⟩
theorem own_reads_row {α : Type} {R : α → List Value → Prop} {w : World} {base n size : Nat} {e : TypeId} {v : Value} {ps : List α} {cs : List Value} (h : w.ownsRow base e size v n cs) (hR : Reps R size ps cs) (hn : ps.length = n) :
  ∃ A c, v = .slice A n c ∧ ReadsRow R size w A n ps := by
 rcases Nat.eq_zero_or_pos n with h0 | h0
 ·rcases h.2 with ⟨rfl, rfl⟩ | ⟨g, cap, cur, rfl, _⟩
  ·exact ⟨none, 0, rfl, hn, by omega, fun hp => absurd hp (by omega)⟩
  ·exact ⟨_, cap, rfl, hn, by omega, fun hp => absurd hp (by omega)⟩
 ·obtain ⟨g, cap, rfl, _, _⟩ := h.form h0
  have hm : n ≤ 9223372036854775807 := by
   rcases h.2 with ⟨_, h1⟩ | ⟨g', cap', cur, he, _, _, h1, h2, _⟩
   ·omega
   ·simp only [maxLen] at h2
    omega
  refine ⟨_, cap, rfl, hn, hm, fun _ => ⟨_, rfl, fun j p hj => ⟨(cs.drop (j * size)).take size, ?_, hR.2 j p hj, fun i u hu => ?_⟩⟩⟩
  ·have hjl := (List.getElem?_eq_some_iff.1 hj).1
   have h1 : j * size + size ≤ cs.length := by rw [hR.1, ← Nat.succ_mul]; exact Nat.mul_le_mul_right _ hjl
   rw [List.length_take, List.length_drop]
   omega
  ·refine h.cells (g := g) rfl _ u ?_
   rw [List.getElem?_take] at hu
   split at hu
   ·rw [List.getElem?_drop] at hu
    exact hu
   ·cases hu
theorem add_field (ad : Addr) (m j : Nat) (hj : 0 < j) : ad.add (m + j) = ⟨(ad.add m).block, (ad.add m).off + j, none⟩ := by
 unfold Addr.add
 by_cases hm : m = 0
 ·subst hm
  simp [Nat.ne_of_gt hj]
 ·simp [hm, Nat.add_assoc]
section
variable {P : Program} {ops : Array Oper} {rest : List Oper} {o : Oper} {a : Act} {Q : Exit → Act → World → Prop}
theorem print_append_cells {w0 W : World} (base : Nat) (hgd : o.guard = none) (s x : Operand) (t e : TypeId) (z : Value) (size bytes : Nat)
  (ho : o.op = .call { callee := .builtin .append, args := #[s, x], argTypes := #[t, t] })
  (ht : P.underlying t = some (.slice e)) (hinfo : (P.info? e).map (fun i => (i.zero, i.size, i.bytes)) = some (some z, size, bytes)) (hz : z.cells.size = size) (hs0 : 0 < size) (hb0 : 0 < bytes)
  (v : Value) (n : Nat) (xs ys : List Value) (hs : a.eval s = v) (hx : a.eval x = .slice (some ⟨W.heap.size, 0, none⟩) 1 1) (hys : ys.length = size) (h1 : ∀ u ∈ ys, u.oneCell' = true)
  (HO : W.ownsRow base e size v n xs) (HB : Below base w0 W) (hbase : base ≤ W.heap.size) (hl : (n + 1) * bytes ≤ 140737488355328)
  (h : ∀ v1 w1, w1.ownsRow base e size v1 (n + 1) (xs ++ ys) → Below base w0 w1 → W.grownBy w1 v.ownBlock → (v1.ownBlock = v.ownBlock ∨ ∃ b, v1.ownBlock = some b ∧ W.heap.size ≤ b) → wpList P ops Q rest (a.put o.dst v1) w1) :
  wpList P ops Q (o :: rest) a (W.alloc (.cells ys.toArray e)) := by
 obtain ⟨i0, hi, hzz⟩ := Option.map_eq_some_iff.1 hinfo
 simp only [Prod.mk.injEq] at hzz
 obtain ⟨hz0, hz1, hz2⟩ := hzz
 have hlen : n + 1 ≤ 140737488355328 := Nat.le_trans (Nat.le_mul_of_pos_right _ hb0) hl
 refine wpList_append_own_at (W.alloc (.cells ys.toArray e)) hgd s x t ho base e i0 z size bytes ht hi hz0 hz1 hz2 hz hs0 v n xs hs (HO.alloc _) ⟨W.heap.size, 0, none⟩ 1 1 ys hx (by rw [hys]; simp)
  (by simpa using World.news_of_block (cs := ys.toArray) (t := e) (fr := (0, 0)) (heap_alloc_new W (.cells ys.toArray e))) h1 (by simp only [maxLen]; omega) hl (by simp; omega) ?_
 intro v1 w1 hown hg _ hat
 refine h v1 w1 hown ((HB.alloc hbase _).grown hg (by simp; omega) (own_base HO)) (World.grownBy.trans (World.grownBy_alloc W _ _) hg) ?_
 rcases hat with hat | hat
 ·exact .inl hat
 ·exact .inr ⟨_, hat, by simp⟩
end
theorem own_ne {w : World} {base : Nat} {e t : TypeId} {size n g : Nat} {v : Value} {xs : List Value} {cs : Array Value} (h : w.ownsRow base e size v n xs) (hg : w.heap[g]? = some (.cells cs t (0, 0))) (hne : e ≠ t) : some g ≠ v.ownBlock := by
 rcases h.2 with ⟨rfl, _⟩ | ⟨g', cap, cur, rfl, _, hh, _⟩
 ·simp [Value.ownBlock]
 ·intro he
  have : g = g' := by simpa [Value.ownBlock] using he
  subst this
  rw [hg] at hh
  injection hh with hh
  injection hh with _ ht
  exact hne ht.symm
theorem blk_set {w : World} {g : Nat} {t : TypeId} {cs : Array Value} (h : w.heap[g]? = some (.cells cs t (0, 0))) (i : Nat) (u : Value) : (w.setCell ⟨g, i, none⟩ u).heap[g]? = some (.cells (cs.setIfInBounds i u) t (0, 0)) := by
 simp [World.setCell, Array.getElem?_modify, h]
theorem blk_far {w : World} {g : Nat} {t : TypeId} {cs : Array Value} (h : w.heap[g]? = some (.cells cs t (0, 0))) {p : Addr} (hp : g ≠ p.block) (u : Value) : (w.setCell p u).heap[g]? = some (.cells cs t (0, 0)) := (Below.heap_setCell w p u g hp).trans h
theorem blk_lt {w : World} {g : Nat} {o : Obj} (h : w.heap[g]? = some o) : g < w.heap.size := (Array.getElem?_eq_some_iff.1 h).1
theorem blk_cell {w : World} {g : Nat} {t : TypeId} {cs : Array Value} (h : w.heap[g]? = some (.cells cs t (0, 0))) (i : Nat) : w.cell? ⟨g, i, none⟩ = cs[i]? := cell_of_row w g i cs t (0, 0) h
theorem blk_frozen {w : World} {g : Nat} {t : TypeId} {cs : Array Value} (h : w.heap[g]? = some (.cells cs t (0, 0))) (i : Nat) : w.frozen? ⟨g, i, none⟩ = false := by simp [World.frozen?, h]
theorem blk_grown {w w1 : World} {g : Nat} {o : Obj} {row : Option Nat} (h : w.heap[g]? = some o) (hg : w.grownBy w1 row) (hne : some g ≠ row) : w1.heap[g]? = some o := (hg.block g (blk_lt h) hne).trans h
def KeepBut (w w' : World) (g : Nat) (row : Option Nat) : Prop := w.heap.size ≤ w'.heap.size ∧ ∀ i, i < w.heap.size → i ≠ g → some i ≠ row → w'.heap[i]? = w.heap[i]?
theorem KeepBut.refl (w : World) (g : Nat) (row : Option Nat) : KeepBut w w g row := ⟨Nat.le_refl _, fun _ _ _ _ => rfl⟩
theorem KeepBut.set_ {w w1 : World} {g : Nat} {row : Option Nat} (h : KeepBut w w1 g row) (j : Nat) (u : Value) : KeepBut w (w1.setCell ⟨g, j, none⟩ u) g row :=
 ⟨by simpa [World.setCell] using h.1, fun i hi hg hr => (Below.heap_setCell w1 ⟨g, j, none⟩ u i hg).trans (h.2 i hi hg hr)⟩
theorem KeepBut.trans {w w1 w2 : World} {g : Nat} {row row1 : Option Nat} (h : KeepBut w w1 g row) (k : KeepBut w1 w2 g row1) (hr : row1 = row ∨ ∃ b, row1 = some b ∧ w.heap.size ≤ b) : KeepBut w w2 g row :=
  ⟨Nat.le_trans h.1 k.1, fun i hi hg hn => by
    refine (k.2 i (Nat.lt_of_lt_of_le hi h.1) hg ?_).trans (h.2 i hi hg hn)
    rcases hr with rfl | ⟨b, rfl, hb⟩
    · exact hn
    · intro e
      injection e with e
      omega⟩
theorem KeepBut.blk {w w1 : World} {g g' : Nat} {row : Option Nat} {o : Obj} (h : KeepBut w w1 g row) (hb : w.heap[g']? = some o) (hg : g' ≠ g) (hr : some g' ≠ row) : w1.heap[g']? = some o := (h.2 g' (blk_lt hb) hg hr).trans hb
section
variable {P : Program} {ops : Array Oper} {o : Oper} {a : Act} {Q : Exit → Act → World → Prop} {K : Act → World → Prop}
end
theorem own_weaken {w : World} {base base' : Nat} {e : TypeId} {size n : Nat} {v : Value} {xs : List Value} (h : w.ownsRow base e size v n xs) (hb : base' ≤ base) : w.ownsRow base' e size v n xs := by
 obtain ⟨h1, h2⟩ := h
 refine ⟨h1, ?_⟩
 rcases h2 with h2 | ⟨g, cap, cur, rfl, hg, r⟩
 ·exact .inl h2
 ·exact .inr ⟨g, cap, cur, rfl, Nat.le_trans hb hg, r⟩
section
variable {α : Type} {enc : α → Value} {d : α}
def encs (enc : α → Value) (xs : List α) : List Value := xs.map enc
theorem encs_length (xs : List α) : (encs enc xs).length = xs.length := by simp [encs]
end
section
variable {α : Type} {P : Program} {ops : Array Oper} {rest : List Oper} {o : Oper} {a : Act} {Q : Exit → Act → World → Prop}
end
theorem blk_alloc {w : World} {g : Nat} {o : Obj} (h : w.heap[g]? = some o) (o' : Obj) : (w.alloc o').heap[g]? = some o := (Below.heap_alloc w o' g (blk_lt h)).trans h
theorem blk_drew {w : World} {g : Nat} {o : Obj} (h : w.heap[g]? = some o) : w.drew.heap[g]? = some o := h
theorem blk_drewN {w : World} {g : Nat} {o : Obj} (h : w.heap[g]? = some o) (n : Nat) : (w.drewN n).heap[g]? = some o := h
theorem blk_below {w w1 : World} {g : Nat} {o : Obj} (h : w.heap[g]? = some o) (hb : Below w.heap.size w w1) : w1.heap[g]? = some o := (hb.block g (blk_lt h)).trans h
theorem blk_new (w : World) (o : Obj) : (w.alloc o).heap[w.heap.size]? = some o := heap_alloc_new w o
section
variable {P : Program}
theorem results_ct {fn : Func} {p u : Tmp} {ty : TypeId} (h : fn.results = #[.cell p ty, .tmp u]) (tmps : Array Value) (w : World) (g : Nat) (t : TypeId) (cs : Array Value) (fr : Nat × Nat) (d : TypeDesc)
  (hp : tmps.getD p undef = .pointer (some ⟨g, 0, none⟩)) (hg : w.heap[g]? = some (.cells cs t fr))
  (hu : P.underlying ty = some d) (hd : (match d with | .struct _ | .array _ _ => true | _ => false) = true) (hi : (P.info? ty).map (·.size) = some cs.size) :
  (results fn tmps).run P w = .ok (.tuple #[.agg cs, tmps.getD u undef]) w := by
 have hp' : tmps[p]?.getD undef = .pointer (some ⟨g, 0, none⟩) := by simpa using hp
 simp [results, h, hp', asAddr, run_loadVar_row w g t ty cs fr d hg hu hd hi]
theorem results_ctt {fn : Func} {p u v : Tmp} {ty : TypeId} (h : fn.results = #[.cell p ty, .tmp u, .tmp v]) (tmps : Array Value) (w : World) (g : Nat) (t : TypeId) (cs : Array Value) (fr : Nat × Nat) (d : TypeDesc)
  (hp : tmps.getD p undef = .pointer (some ⟨g, 0, none⟩)) (hg : w.heap[g]? = some (.cells cs t fr))
  (hu : P.underlying ty = some d) (hd : (match d with | .struct _ | .array _ _ => true | _ => false) = true) (hi : (P.info? ty).map (·.size) = some cs.size) :
  (results fn tmps).run P w = .ok (.tuple #[.agg cs, tmps.getD u undef, tmps.getD v undef]) w := by
 have hp' : tmps[p]?.getD undef = .pointer (some ⟨g, 0, none⟩) := by simpa using hp
 simp [results, h, hp', asAddr, run_loadVar_row w g t ty cs fr d hg hu hd hi]
end
theorem own_le {w : World} {base n m c size : Nat} {e : TypeId} {A : Option Addr} {xs : List Value} (h : w.ownsRow base e size (.slice A m c) n xs) : m ≤ c := by
 rcases h.2 with ⟨he, _⟩ | ⟨g, cap, cur, he, _, _, hnc, _⟩
 ·injection he with _ h2 h3
  omega
 ·injection he with _ h2 h3
  omega
def OwnRow {α : Type} (R : α → List Value → Prop) (e : TypeId) (size : Nat) (w : World) (base : Nat) (v : Value) (ps : List α) : Prop :=
 ∃ inner, w.ownsRow base e size v ps.length inner ∧ Reps R size ps inner
section
variable {α : Type} {R R' : α → List Value → Prop} {e : TypeId} {size : Nat} {w w1 : World} {base : Nat} {v : Value} {ps : List α}
theorem OwnRow.none_ (R : α → List Value → Prop) (e : TypeId) (size : Nat) (w : World) (base : Nat) : OwnRow R e size w base (.slice none 0 0) [] := ⟨[], own_nil _ _ _ _, Reps.none _ _⟩
theorem OwnRow.imp_ (h : OwnRow R e size w base v ps) (hR : ∀ p c, R p c → R' p c) : OwnRow R' e size w base v ps := by
 obtain ⟨inner, ho, hr⟩ := h
 exact ⟨inner, ho, hr.imp_ hR⟩
theorem OwnRow.reads (h : OwnRow R e size w base v ps) : ∃ A c, v = .slice A ps.length c ∧ ps.length ≤ c ∧ ReadsRow R size w A ps.length ps := by
 obtain ⟨inner, ho, hr⟩ := h
 obtain ⟨A, c, rfl, hrow⟩ := own_reads_row ho hr rfl
 exact ⟨A, c, rfl, own_le ho, hrow⟩
theorem OwnRow.ne_block (h : OwnRow R e size w base v ps) {g : Nat} {t : TypeId} {cells : Array Value} (hb : w.heap[g]? = some (.cells cells t (0, 0))) (ht : e ≠ t) : some g ≠ v.ownBlock := by
 obtain ⟨inner, ho, hr⟩ := h
 exact own_ne ho hb ht
end
section
variable {P : Program} {ops : Array Oper} {rest : List Oper} {o : Oper} {a : Act} {Q : Exit → Act → World → Prop} {α : Type} {R : α → List Value → Prop}
end
section
variable {P : Program} {ops : Array Oper} {o : Oper} {a : Act} {Q : Exit → Act → World → Prop} {K : Act → World → Prop} {α : Type} {R : α → List Value → Prop}
end
theorem ReadsRow.inner_ {α : Type} {R : α → List Value → Prop} {size : Nat} {w : World} {ad : Addr} {n : Nat} {ps : List α} (h : ReadsRow R size w (some ad) n ps) :
    ∃ inner, Reps R size ps inner ∧ ∀ j u, inner[j]? = some u → w.cell? (ad.add j) = some u := by
  have key : ∀ m, m ≤ ps.length → ∃ inner, Reps R size (ps.take m) inner ∧ ∀ j u, inner[j]? = some u → w.cell? (ad.add j) = some u := by
    intro m
    induction m with
    | zero => exact fun _ => ⟨[], Reps.none _ _, fun j u hu => by simp at hu⟩
    | succ m ih =>
      intro hm
      obtain ⟨inner, hr, hc⟩ := ih (by omega)
      obtain ⟨ad', he, hcell⟩ := h.2.2 (by have := h.1; omega)
      injection he with he
      subst he
      obtain ⟨c, hcl, hp, hcc⟩ := hcell m _ (List.getElem?_eq_getElem (show m < ps.length by omega))
      refine ⟨inner ++ c, ?_, fun j u hu => ?_⟩
      · rw [List.take_succ_eq_append_getElem (show m < ps.length by omega)]
        exact hr.snoc hp hcl
      · have hil : inner.length = m * size := by rw [hr.1, List.length_take, Nat.min_eq_left (by omega)]
        rcases Nat.lt_or_ge j inner.length with hj | hj
        · rw [List.getElem?_append_left hj] at hu
          exact hc j u hu
        · rw [List.getElem?_append_right hj] at hu
          have := hcc (j - inner.length) u hu
          rwa [hil, Nat.add_sub_cancel' (by omega)] at this
  obtain ⟨inner, hr, hc⟩ := key ps.length (Nat.le_refl _)
  rw [List.take_length] at hr
  exact ⟨inner, hr, hc⟩
section
variable {α : Type} {P : Program}
end
section
variable {P : Program} {ops : Array Oper} {rest : List Oper} {o : Oper} {a : Act} {Q : Exit → Act → World → Prop}
end
structure Kd (α : Type) where
 sz : Nat
 E : List Nat
 K : World → α → List Value → Prop
 M : World → Nat → (Nat → Prop) → α → List Value → Prop
 K_len : ∀ {w x cs}, K w x cs → cs.length = sz
 K_one : ∀ {w x cs}, K w x cs → ∀ u ∈ cs, u.oneCell' = true
 K_below : ∀ {w w1 : World} {x cs}, Below w.heap.size w w1 → K w x cs → K w1 x cs
 K_of_M : ∀ {w base ok x cs}, M w base ok x cs → K w x cs
 M_mono : ∀ {w base ok ok' x cs}, (∀ k, ok k → ok' k) → M w base ok x cs → M w base ok' x cs
 M_bound : ∀ {w : World} {base ok x cs}, M w base ok x cs → M w base (fun k => ok k ∧ base ≤ k ∧ k < w.heap.size ∧ ∃ q, q ∈ E ∧ ∃ cells, w.heap[k]? = some (.cells cells q (0, 0))) x cs
 M_move : ∀ {w w1 : World} {base ok x cs}, (∀ k, ok k → w1.heap[k]? = w.heap[k]?) → M w base ok x cs → M w1 base ok x cs
 M_lower : ∀ {w base base' ok x cs}, base' ≤ base → M w base ok x cs → M w base' ok x cs
theorem own_move {w w1 : World} {base : Nat} {e : TypeId} {size n : Nat} {v : Value} {xs : List Value} (h : w.ownsRow base e size v n xs) (hm : ∀ k, v.ownBlock = some k → w1.heap[k]? = w.heap[k]?) : w1.ownsRow base e size v n xs := by
 obtain ⟨h1, h2⟩ := h
 refine ⟨h1, ?_⟩
 rcases h2 with h2 | ⟨g, cap, cur, rfl, hg, hh, r⟩
 ·exact .inl h2
 ·exact .inr ⟨g, cap, cur, rfl, hg, (hm g (by simp [Value.ownBlock])).trans hh, r⟩
theorem own_typed {w : World} {base : Nat} {e : TypeId} {size n : Nat} {v : Value} {xs : List Value} (h : w.ownsRow base e size v n xs) (k : Nat) (hk : v.ownBlock = some k) : ∃ cells, w.heap[k]? = some (.cells cells e (0, 0)) := by
 rcases h.2 with ⟨rfl, _⟩ | ⟨g, cap, cur, rfl, hg, hh, r⟩
 ·simp [Value.ownBlock] at hk
 ·have : g = k := by simpa [Value.ownBlock] using hk
  subst this
  exact ⟨cur, hh⟩
namespace Kd
def C {α : Type} (d : Kd α) (w : World) (A : Option Addr) (n : Nat) (xs : List α) : Prop := ReadsRow (d.K w) d.sz w A n xs
def R {α : Type} (d : Kd α) (e : Nat) (w : World) (base : Nat) (ok : Nat → Prop) (v : Value) (xs : List α) : Prop :=
 (∀ k, v.ownBlock = some k → ok k) ∧ OwnRow (d.M w base (fun k => ok k ∧ some k ≠ v.ownBlock)) e d.sz w base v xs
section
variable {α : Type} {d : Kd α} {e : Nat} {w w1 : World} {base : Nat} {ok ok' : Nat → Prop} {v : Value} {xs : List α}
theorem C_below {A : Option Addr} {n : Nat} (h : d.C w A n xs) (hb : Below w.heap.size w w1) : d.C w1 A n xs := ReadsRow.imp_ h hb (fun _ _ hp => d.K_below hb hp)
theorem R_nil (d : Kd α) (e : Nat) (w : World) (base : Nat) (ok : Nat → Prop) : d.R e w base ok (.slice none 0 0) [] := ⟨fun k hk => by simp [Value.ownBlock] at hk, OwnRow.none_ _ _ _ _ _⟩
theorem R_mono (h : d.R e w base ok v xs) (hok : ∀ k, ok k → ok' k) : d.R e w base ok' v xs := ⟨fun k hk => hok k (h.1 k hk), h.2.imp_ (fun _ _ hp => d.M_mono (fun k hk => ⟨hok k hk.1, hk.2⟩) hp)⟩
theorem R_bound (h : d.R e w base ok v xs) : d.R e w base (fun k => ok k ∧ base ≤ k ∧ k < w.heap.size ∧ ∃ q, q ∈ e :: d.E ∧ ∃ cells, w.heap[k]? = some (.cells cells q (0, 0))) v xs := by
 obtain ⟨h0, inner, ho, hr⟩ := h
 refine ⟨fun k hk => ?_, inner, ho, hr.imp_ (fun _ _ hp => d.M_mono (fun k hk => ?_) (d.M_bound hp))⟩
 ·obtain ⟨cells, hc⟩ := own_typed ho k hk
  exact ⟨h0 k hk, own_base ho k hk, own_lt ho k hk, e, List.mem_cons_self, cells, hc⟩
 ·obtain ⟨⟨h1, h2⟩, h3, h4, q, hq, hc⟩ := hk
  exact ⟨⟨h1, h3, h4, q, List.mem_cons_of_mem _ hq, hc⟩, h2⟩
theorem R_move (h : d.R e w base ok v xs) (hm : ∀ k, ok k → w1.heap[k]? = w.heap[k]?) : d.R e w1 base ok v xs := by
 obtain ⟨h0, inner, ho, hr⟩ := h
 exact ⟨h0, inner, own_move ho (fun k hk => hm k (h0 k hk)), hr.imp_ (fun _ _ hp => d.M_move (fun k hk => hm k hk.1) hp)⟩
theorem R_lower {base' : Nat} (h : d.R e w base ok v xs) (hb : base' ≤ base) : d.R e w base' ok v xs := by
 obtain ⟨h0, inner, ho, hr⟩ := h
 exact ⟨h0, inner, own_weaken ho hb, hr.imp_ (fun _ _ hp => d.M_lower hb hp)⟩
theorem R_step (h : d.R e w base ok v xs) (hm : ∀ k, ok k → k < w.heap.size → w1.heap[k]? = w.heap[k]?) : d.R e w1 base ok v xs :=
 R_mono (R_move (R_bound h) (fun k hk => hm k hk.1 hk.2.2.1)) (fun _ hk => hk.1)
theorem M_step {x : α} {cs : List Value} (h : d.M w base ok x cs) (hm : ∀ k, ok k → k < w.heap.size → w1.heap[k]? = w.heap[k]?) : d.M w1 base ok x cs :=
 d.M_mono (fun _ hk => hk.1) (d.M_move (fun k hk => hm k hk.1 hk.2.2.1) (d.M_bound h))
theorem R_below (h : d.R e w base ok v xs) (hb : Below w.heap.size w w1) : d.R e w1 base ok v xs := R_step h (fun k _ hk => hb.block k hk)
theorem M_below {x : α} {cs : List Value} (h : d.M w base ok x cs) (hb : Below w.heap.size w w1) : d.M w1 base ok x cs := M_step h (fun k _ hk => hb.block k hk)
theorem R_far (h : d.R e w base ok v xs) {p : Addr} (hok : ∀ k, ok k → k ≠ p.block) (u : Value) : d.R e (w.setCell p u) base ok v xs := R_step h (fun k ho _ => Below.heap_setCell w p u k (hok k ho))
theorem R_keep (h : d.R e w base ok v xs) {g : Nat} (hk : KeepBut w w1 g none) (hok : ∀ k, ok k → k ≠ g) : d.R e w1 base ok v xs := R_step h (fun k ho hlt => hk.2 k hlt (hok k ho) (by simp))
theorem R_types (h : d.R e w base ok v xs) {g t : Nat} {cells : Array Value} (hb : w.heap[g]? = some (.cells cells t (0, 0))) (ht : ∀ q, q ∈ e :: d.E → q ≠ t) : d.R e w base (fun k => ok k ∧ k ≠ g) v xs :=
 R_mono (R_bound h) (fun k hk => ⟨hk.1, by
  obtain ⟨_, _, _, q, hq, cells', hc⟩ := hk
  rintro rfl
  rw [hc] at hb
  injection hb with hb
  injection hb with _ hb
  exact ht q hq hb⟩)
theorem R_set (h : d.R e w base ok v xs) {g t : Nat} {cells : Array Value} (hb : w.heap[g]? = some (.cells cells t (0, 0))) (ht : ∀ q, q ∈ e :: d.E → q ≠ t) (j : Nat) (u : Value) : d.R e (w.setCell ⟨g, j, none⟩ u) base ok v xs :=
 R_mono (R_far (p := ⟨g, j, none⟩) (R_types h hb ht) (fun _ hk => hk.2) u) (fun _ hk => hk.1)
theorem R_reads (h : d.R e w base ok v xs) : ∃ A c, v = .slice A xs.length c ∧ xs.length ≤ c ∧ d.C w A xs.length xs := by
 obtain ⟨A, c, he, hl, hr⟩ := OwnRow.reads h.2
 exact ⟨A, c, he, hl, hr.imp_ (Below.refl _ _) (fun _ _ hp => d.K_of_M hp)⟩
theorem R_slice (h : d.R e w base ok v xs) : ∃ A c, v = .slice A xs.length c := by
 obtain ⟨A, c, he, _⟩ := R_reads h
 exact ⟨A, c, he⟩
theorem R_own (h : d.R e w base ok v xs) : ∃ inner, w.ownsRow base e d.sz v xs.length inner := by
 obtain ⟨_, inner, ho, _⟩ := h
 exact ⟨inner, ho⟩
theorem R_ne (h : d.R e w base ok v xs) {g t : Nat} {cells : Array Value} (hb : w.heap[g]? = some (.cells cells t (0, 0))) (ht : e ≠ t) : some g ≠ v.ownBlock := OwnRow.ne_block h.2 hb ht
end
def scalar {α : Type} (enc : α → Value) (h1 : ∀ x, (enc x).oneCell' = true) : Kd α where
 sz := 1
 E := []
 K := fun _ x cs => cs = [enc x]
 M := fun _ _ _ x cs => cs = [enc x]
 K_len := fun h => by rw [h]; rfl
 K_one := fun h u hu => by
  rw [h] at hu
  rw [List.mem_singleton.1 hu]
  exact h1 _
 K_below := fun _ h => h
 K_of_M := fun h => h
 M_mono := fun _ h => h
 M_bound := fun h => h
 M_move := fun _ h => h
 M_lower := fun _ h => h
def int (k : IntKind) : Kd Int := scalar (Value.int k) (fun _ => rfl)
def bool : Kd Bool := scalar Value.bool (fun _ => rfl)
def string : Kd ByteArray := scalar Value.string (fun _ => rfl)
def slice {α : Type} (e : Nat) (d : Kd α) : Kd (List α) where
 sz := 1
 E := e :: d.E
 K := fun w xs cs => ∃ A c, cs = [.slice A xs.length c] ∧ xs.length ≤ c ∧ d.C w A xs.length xs
 M := fun w base ok xs cs => ∃ v, cs = [v] ∧ d.R e w base ok v xs
 K_len := by
  rintro w x cs ⟨A, c, rfl, _⟩
  rfl
 K_one := by
  rintro w x cs ⟨A, c, rfl, _⟩ u hu
  rw [List.mem_singleton.1 hu]
  rfl
 K_below := by
  rintro w w1 x cs hb ⟨A, c, rfl, hl, hr⟩
  exact ⟨A, c, rfl, hl, C_below hr hb⟩
 K_of_M := by
  rintro w base ok x cs ⟨v, rfl, h⟩
  obtain ⟨A, c, rfl, hl, hr⟩ := R_reads h
  exact ⟨A, c, rfl, hl, hr⟩
 M_mono := by
  rintro w base ok ok' x cs hok ⟨v, rfl, h⟩
  exact ⟨v, rfl, R_mono h hok⟩
 M_bound := by
  rintro w base ok x cs ⟨v, rfl, h⟩
  exact ⟨v, rfl, R_bound h⟩
 M_move := by
  rintro w w1 base ok x cs hm ⟨v, rfl, h⟩
  exact ⟨v, rfl, R_move h hm⟩
 M_lower := by
  rintro w base base' ok x cs hb ⟨v, rfl, h⟩
  exact ⟨v, rfl, R_lower h hb⟩
def pair {α β : Type} (a : Kd α) (b : Kd β) : Kd (α × β) where
 sz := a.sz + b.sz
 E := a.E ++ b.E
 K := fun w x cs => ∃ c0 c1, cs = c0 ++ c1 ∧ a.K w x.1 c0 ∧ b.K w x.2 c1
 M := fun w base ok x cs => ∃ c0 c1, cs = c0 ++ c1 ∧ a.M w base ok x.1 c0 ∧ b.M w base ok x.2 c1
 K_len := by
  rintro w x cs ⟨c0, c1, rfl, h0, h1⟩
  rw [List.length_append, a.K_len h0, b.K_len h1]
 K_one := by
  rintro w x cs ⟨c0, c1, rfl, h0, h1⟩ u hu
  rcases List.mem_append.1 hu with hu | hu
  ·exact a.K_one h0 u hu
  ·exact b.K_one h1 u hu
 K_below := by
  rintro w w1 x cs hb ⟨c0, c1, rfl, h0, h1⟩
  exact ⟨c0, c1, rfl, a.K_below hb h0, b.K_below hb h1⟩
 K_of_M := by
  rintro w base ok x cs ⟨c0, c1, rfl, h0, h1⟩
  exact ⟨c0, c1, rfl, a.K_of_M h0, b.K_of_M h1⟩
 M_mono := by
  rintro w base ok ok' x cs hok ⟨c0, c1, rfl, h0, h1⟩
  exact ⟨c0, c1, rfl, a.M_mono hok h0, b.M_mono hok h1⟩
 M_bound := by
  rintro w base ok x cs ⟨c0, c1, rfl, h0, h1⟩
  refine ⟨c0, c1, rfl, a.M_mono ?_ (a.M_bound h0), b.M_mono ?_ (b.M_bound h1)⟩
  ·rintro k ⟨h2, h3, h4, q, hq, hc⟩
   exact ⟨h2, h3, h4, q, List.mem_append_left _ hq, hc⟩
  ·rintro k ⟨h2, h3, h4, q, hq, hc⟩
   exact ⟨h2, h3, h4, q, List.mem_append_right _ hq, hc⟩
 M_move := by
  rintro w w1 base ok x cs hm ⟨c0, c1, rfl, h0, h1⟩
  exact ⟨c0, c1, rfl, a.M_move hm h0, b.M_move hm h1⟩
 M_lower := by
  rintro w base base' ok x cs hb ⟨c0, c1, rfl, h0, h1⟩
  exact ⟨c0, c1, rfl, a.M_lower hb h0, b.M_lower hb h1⟩
def iso {α β : Type} (d : Kd α) (f : β → α) : Kd β where
 sz := d.sz
 E := d.E
 K := fun w x cs => d.K w (f x) cs
 M := fun w base ok x cs => d.M w base ok (f x) cs
 K_len := d.K_len
 K_one := d.K_one
 K_below := d.K_below
 K_of_M := d.K_of_M
 M_mono := d.M_mono
 M_bound := d.M_bound
 M_move := d.M_move
 M_lower := d.M_lower
def bot {α : Type} (sz : Nat) (E : List Nat) : Kd α where
 sz := sz
 E := E
 K := fun _ _ _ => False
 M := fun _ _ _ _ _ => False
 K_len := fun h => h.elim
 K_one := fun h => h.elim
 K_below := fun _ h => h
 K_of_M := fun h => h
 M_mono := fun _ h => h
 M_bound := fun h => h
 M_move := fun _ h => h
 M_lower := fun _ h => h
def upto {α : Type} (F : Kd α → Kd α) (sz : Nat) (E : List Nat) : Nat → Kd α
 | 0 => bot sz E
 | n + 1 => F (upto F sz E n)
theorem C_get {α : Type} {d : Kd α} {w : World} {A : Option Addr} {n : Nat} {xs : List α} (h : d.C w A n xs) (z : α) (i : Int) (h0 : 0 ≤ i) (h1 : i < n) :
  ∃ ad c, A = some ad ∧ c.length = d.sz ∧ d.K w (xs.getD i.toNat z) c ∧ ∀ j u, c[j]? = some u → w.cell? (ad.add (i.toNat * d.sz + j)) = some u := ReadsRow.get_ h z i h0 h1
theorem R_appended {α : Type} {d : Kd α} {e base : Nat} {ok okp : Nat → Prop} {W w1 : World} {v v1 : Value} {xs : List α} {p : α} {inner cs : List Value} (h0 : ∀ k, v.ownBlock = some k → ok k) (hr : Reps (d.M W base (fun k => ok k ∧ some k ≠ v.ownBlock)) d.sz xs inner) (hp : d.M W base okp p cs) (hokp : ∀ k, okp k → ok k ∧ some k ≠ v.ownBlock) (hfresh : ∀ k, W.heap.size ≤ k → ok k)
  (hown : w1.ownsRow base e d.sz v1 (xs.length + 1) (inner ++ cs)) (hg : W.grownBy w1 v.ownBlock) (hat : v1.ownBlock = v.ownBlock ∨ ∃ b, v1.ownBlock = some b ∧ W.heap.size ≤ b) : d.R e w1 base ok v1 (xs ++ [p]) := by
 have hne : ∀ k, some k ≠ v.ownBlock → k < W.heap.size → some k ≠ v1.ownBlock := by
  intro k hk hlt
  rcases hat with hat | ⟨b, hb, hle⟩
  ·rw [hat]; exact hk
  ·rw [hb]
   intro he
   injection he with he
   omega
 have step : ∀ {q : α} {c : List Value} {o : Nat → Prop}, d.M W base o q c → (∀ k, o k → ok k ∧ some k ≠ v.ownBlock) → d.M w1 base (fun k => ok k ∧ some k ≠ v1.ownBlock) q c := by
  intro q c o hq ho
  have h1 := d.M_move (w1 := w1) (fun k hk => hg.block k hk.2.2.1 (ho k hk.1).2) (d.M_bound hq)
  exact d.M_mono (fun k hk => ⟨(ho k hk.1).1, hne k (ho k hk.1).2 hk.2.2.1⟩) h1
 refine ⟨fun k hk => ?_, inner ++ cs, by rw [List.length_append, List.length_singleton]; exact hown, ?_⟩
 ·rcases hat with hat | ⟨b, hb, hle⟩
  ·exact h0 k (hat ▸ hk)
  ·rw [hb] at hk
   injection hk with hk
   exact hfresh k (by omega)
 ·exact (hr.imp_ (fun _ _ hq => step hq (fun _ hk => hk))).snoc (step hp hokp) (d.K_len (d.K_of_M hp))
section
variable {P : Program} {ops : Array Oper} {rest : List Oper} {o : Oper} {a : Act} {Q : Exit → Act → World → Prop} {α : Type}
theorem R_append (d : Kd α) {w0 W : World} (base : Nat) (hgd : o.guard = none) (s x : Operand) (t e : TypeId) (z : Value) (bytes : Nat)
  (ho : o.op = .call { callee := .builtin .append, args := #[s, x], argTypes := #[t, t] })
  (ht : P.underlying t = some (.slice e)) (hinfo : (P.info? e).map (fun i => (i.zero, i.size, i.bytes)) = some (some z, d.sz, bytes)) (hz : z.cells.size = d.sz) (hs0 : 0 < d.sz) (hb0 : 0 < bytes)
  (v : Value) (xs : List α) (p : α) (cs : List Value) (ok okp : Nat → Prop) (hs : a.eval s = v) (hx : a.eval x = .slice (some ⟨W.heap.size, 0, none⟩) 1 1) (hp : d.M W base okp p cs) (hokp : ∀ k, okp k → ok k ∧ some k ≠ v.ownBlock) (hfresh : ∀ k, W.heap.size ≤ k → ok k)
  (HO : d.R e W base ok v xs) (HB : Below base w0 W) (hbase : base ≤ W.heap.size) (hl : (xs.length + 1) * bytes ≤ 140737488355328)
  (h : ∀ v1 w1, d.R e w1 base ok v1 (xs ++ [p]) → Below base w0 w1 → W.grownBy w1 v.ownBlock → (v1.ownBlock = v.ownBlock ∨ ∃ b, v1.ownBlock = some b ∧ W.heap.size ≤ b) → wpList P ops Q rest (a.put o.dst v1) w1) :
  wpList P ops Q (o :: rest) a (W.alloc (.cells cs.toArray e)) := by
 obtain ⟨h0, inner, hown, hr⟩ := HO
 refine print_append_cells base hgd s x t e z d.sz bytes ho ht hinfo hz hs0 hb0 v xs.length inner cs hs hx (d.K_len (d.K_of_M hp)) (d.K_one (d.K_of_M hp)) hown HB hbase hl ?_
 intro v1 w1 hown1 hb1 hg1 hat1
 exact h v1 w1 (R_appended h0 hr hp hokp hfresh hown1 hg1 hat1) hb1 hg1 hat1
end
section
variable {P : Program} {ops : Array Oper} {o : Oper} {a : Act} {Q : Exit → Act → World → Prop} {Kc : Act → World → Prop} {α : Type}
end
theorem own_of_R {α : Type} {enc : α → Value} {h1 : ∀ x, (enc x).oneCell' = true} {e : Nat} {w : World} {base : Nat} {ok : Nat → Prop} {v : Value} {xs : List α} (h : (scalar enc h1).R e w base ok v xs) : w.ownsRow base e 1 v xs.length (encs enc xs) := by
 obtain ⟨_, inner, ho, hr⟩ := h
 have : inner = encs enc xs := by
  apply List.ext_getElem?
  intro j
  rcases Nat.lt_or_ge j xs.length with hj | hj
  ·have h2 := hr.2 j _ (List.getElem?_eq_getElem hj)
   have hl : j < inner.length := by have := hr.1; simp [scalar] at this; omega
   have h3 : (inner.drop (j * 1)).take 1 = [enc xs[j]] := h2
   rw [Nat.mul_one, List.drop_eq_getElem_cons hl] at h3
   have h4 : inner[j] = enc xs[j] := by
    have h5 := congrArg List.head? h3
    rw [List.take_succ_cons] at h5
    exact Option.some.inj h5
   rw [List.getElem?_eq_getElem hl, h4]
   simp [encs, List.getElem?_eq_getElem hj]
  ·have h3 : inner.length = xs.length := by have := hr.1; simp [scalar] at this; omega
   rw [List.getElem?_eq_none (by omega), List.getElem?_eq_none (by rw [encs_length]; omega)]
 rw [← this]
 exact ho
end Kd
namespace Kd
section
variable {α : Type} {F : Kd α → Kd α} {sz : Nat} {E : List Nat} {hs : ∀ n, (upto F sz E n).sz = sz} {hE : ∀ n q, q ∈ (upto F sz E n).E → q ∈ E}
end
end Kd
namespace Kd
end Kd
namespace Kd
section
variable {α β : Type} {d : Kd α} {d' : Kd β} {e e' : Nat} {w w1 W : World} {base b b' : Nat} {ok ok' okv oku : Nat → Prop} {v u : Value} {xs : List α} {ys : List β}
theorem R_drew (h : d.R e w base ok v xs) : d.R e w.drew base ok v xs := R_below h (below_drew (Below.refl _ _))
theorem C_nil (d : Kd α) (w : World) : d.C w none ([] : List α).length [] := ⟨rfl, by simp, fun h => absurd h (Nat.lt_irrefl 0)⟩
theorem R_reads' {A : Option Addr} {n c : Nat} (h : d.R e w base ok (.slice A n c) xs) : n = xs.length ∧ n ≤ c ∧ d.C w A xs.length xs := by
 obtain ⟨A', c', he, hl, hr⟩ := R_reads h
 injection he with h1 h2 h3
 subst h1
 exact ⟨h2, by omega, hr⟩
theorem R_lt (h : d.R e w base ok v xs) : ∀ k, v.ownBlock = some k → k < w.heap.size := by
 obtain ⟨inner, ho⟩ := R_own h
 exact own_lt ho
theorem R_base (h : d.R e w base ok v xs) : ∀ k, v.ownBlock = some k → base ≤ k := by
 obtain ⟨inner, ho⟩ := R_own h
 exact own_base ho
theorem R_away (h : d.R e w base ok v xs) {g : Nat} (hok : ∀ k, ok k → k ≠ g) : some g ≠ v.ownBlock := fun e => hok g (h.1 g e.symm) rfl
end
section
variable {w W : World} {A : Option Addr} {n : Nat}
variable {α : Type} {enc : α → Value} {h1 : ∀ x, (enc x).oneCell' = true} {e base g cap : Nat} {ok : Nat → Prop} {xs : List α}
end
section
variable {P : Program} {ops : Array Oper} {rest : List Oper} {o : Oper} {a : Act} {Q : Exit → Act → World → Prop}
theorem event_run {W w1 : World} {v : Value} (hgd : o.guard = none) (hrun : (execOp a.eval o).run P W = .ok (.value v) w1) (h : wpList P ops Q rest (a.put o.dst v) w1) : wpList P ops Q (o :: rest) a W := by
 refine wpList_plain hgd fun K hK => ?_
 unfold Oper.wp
 rw [hrun]
 exact hK _ _ h
variable {α : Type}
theorem R_lit (d : Kd α) {w0 W : World} (base e : Nat) (hgd : o.guard = none) {N : Tmp} (_hd : o.dst = some N) {xs : List α} {inner : List Value} {ok okp : Nat → Prop}
  (hrun : (execOp a.eval o).run P W = .ok (.value (.slice (some ⟨W.heap.size, 0, none⟩) xs.length xs.length)) (W.alloc (.cells inner.toArray e)))
  (hrep : Reps (d.M W base okp) d.sz xs inner) (hok : ∀ k, okp k → ok k) (hfresh : ok W.heap.size) (HB : Below base w0 W) (hbase : base ≤ W.heap.size) (hm : xs.length ≤ 9223372036854775807)
  (h : ∀ v1 w1, d.R e w1 base ok v1 xs → Below base w0 w1 → W.grownBy w1 none → (∃ b, v1.ownBlock = some b ∧ W.heap.size ≤ b) → wpList P ops Q rest (a.put o.dst v1) w1) : wpList P ops Q (o :: rest) a W := by
 refine event_run hgd hrun (h _ _ ⟨fun k hk => ?_, inner, ?_, ?_⟩ (HB.alloc hbase _) (World.grownBy_alloc W _ none) ⟨W.heap.size, by simp [Value.ownBlock], Nat.le_refl _⟩)
 ·have : W.heap.size = k := by simpa [Value.ownBlock] using hk
  subst this
  exact hfresh
 ·have h2 := World.ownsRow_lit (base := base) (e := e) (size := d.sz) W inner.toArray xs.length hbase (by simpa [maxLen] using hm) (by simpa using hrep.1)
  simpa using h2
 ·refine hrep.imp_ (fun p c hp => d.M_mono (fun k hk => ⟨hok k hk.1, fun he => ?_⟩) (M_below (d.M_bound hp) (below_alloc (Below.refl _ _) _)))
  have h3 : k = W.heap.size := by simpa [Value.ownBlock] using he
  have := hk.2.2.1
  omega
theorem reps_made {α : Type} {R : α → List Value → Prop} {z : Value} {size : Nat} {z0 : α} (hz : z.cells.size = size) (hs : 0 < size) (h0 : R z0 z.cells.toList) (m : Nat) : Reps R size (List.replicate m z0) (madeCells z.cells (m * size)).toList := by
 refine ⟨by simp [size_madeCells], fun j p hj => ?_⟩
 obtain ⟨hjl, hp⟩ := List.getElem?_eq_some_iff.1 hj
 have hjm : j < m := by simpa using hjl
 have hp' : z0 = p := by simpa using hp
 subst hp'
 have hle : j * size + size ≤ m * size := by rw [← Nat.succ_mul]; exact Nat.mul_le_mul_right _ hjm
 have : ((madeCells z.cells (m * size)).toList.drop (j * size)).take size = z.cells.toList := by
  apply List.ext_getElem
  ·simp [size_madeCells, hz]
   omega
  ·intro i h1 h2
   have hi : i < size := by rw [Array.length_toList, hz] at h2; exact h2
   have hmod : (j * size + i) % size = i := by
    rw [Nat.mul_comm, Nat.mul_add_mod]
    exact Nat.mod_eq_of_lt hi
   simp [madeCells, hz, hmod]
   rw [getElem!_pos z.cells i (by omega)]
 rw [this]
 exact h0
theorem R_make (d : Kd α) {w0 W : World} (base e : Nat) (hgd : o.guard = none) {N : Tmp} (hd : o.dst = some N) (t : TypeId) (x y : Operand) (ho : o.op = .makeSlice t x y) (n : Int) (hx : a.eval x = .int .i64 n) (hy : a.eval y = .int .i64 n)
    (ht : P.underlying t = some (.slice e)) (z : Value) (bytes : Nat) (hinfo : (P.info? e).map (fun i => (i.zero, i.size, i.bytes)) = some (some z, d.sz, bytes)) (hz : z.cells.size = d.sz) (hs0 : 0 < d.sz) (hb0 : 0 < bytes)
    (z0 : α) {ok okp : Nat → Prop} (hzero : d.M W base okp z0 z.cells.toList) (hok : ∀ k, okp k → ok k) (hfresh : ok W.heap.size) (h0 : 0 ≤ n) (hl : n.toNat * bytes ≤ 281474976710656) (HB : Below base w0 W) (hbase : base ≤ W.heap.size)
    (h : ∀ v1 w1, d.R e w1 base ok v1 (List.replicate n.toNat z0) → Below base w0 w1 → W.grownBy w1 none → (∃ b, v1.ownBlock = some b ∧ W.heap.size ≤ b) → wpList P ops Q rest (a.put o.dst v1) w1) : wpList P ops Q (o :: rest) a W := by
  obtain ⟨m, rfl⟩ := Int.eq_ofNat_of_zero_le h0
  simp only [Int.toNat_natCast] at hl h
  obtain ⟨i0, hi, hzz⟩ := Option.map_eq_some_iff.1 hinfo
  simp only [Prod.mk.injEq] at hzz
  obtain ⟨hz0, hz1, hz2⟩ := hzz
  have hm : m ≤ 281474976710656 := Nat.le_trans (Nat.le_mul_of_pos_right _ hb0) hl
  have hr := run_make (P := P) W t e i0 z ht hi hz0 .i64 .i64 (m : Int) (m : Int) (by omega) (by omega)
    (by
      have h3 : ((i0.bytes * m : Nat) : Int) ≤ 281474976710656 := by rw [hz2, Nat.mul_comm]; omega
      rwa [Int.natCast_mul] at h3) (by omega)
  simp only [Int.toNat_natCast] at hr
  rw [hz1] at hr
  refine R_lit d base e hgd hd (xs := List.replicate m z0) (inner := (madeCells z.cells (m * d.sz)).toList) (okp := okp) (ok := ok) ?_ (reps_made hz hs0 hzero m) hok hfresh HB hbase (by simp; omega) h
  simp [execOp, ho, hx, hy, hr]
end
end Kd
section
variable {P : Program}
end
def QRow (w : World) (base : Nat) (e : TypeId) (size : Nat) (v : Value) (n : Nat) (xs : List Value) : Prop :=
  xs.length = n * size ∧
  ((n = 0 ∧ ∃ A, v = .slice A 0 0 ∧ ∀ a, A = some a → base ≤ a.block ∧ ∃ cur, w.heap[a.block]? = some (.cells cur e (0, 0))) ∨
   ∃ g off cap cur, v = .slice (some ⟨g, off * size, none⟩) n cap ∧ base ≤ g ∧ w.heap[g]? = some (.cells cur e (0, 0)) ∧ n ≤ cap ∧ off + cap ≤ maxLen ∧ cur.size = (off + cap) * size ∧ (cur.toList.drop (off * size)).take (n * size) = xs)
section
variable {w w1 : World} {base n size : Nat} {e : TypeId} {v : Value} {xs : List Value}
theorem add_at (g o j : Nat) : (⟨g, o, none⟩ : Addr).add j = ⟨g, o + j, none⟩ := by unfold Addr.add; split <;> simp_all
end
section
variable {P : Program}
end
namespace Kd
def Q {α : Type} (d : Kd α) (e : Nat) (w : World) (base : Nat) (ok : Nat → Prop) (v : Value) (xs : List α) : Prop :=
 (∀ k, v.ownBlock = some k → ok k) ∧ ∃ inner, QRow w base e d.sz v xs.length inner ∧ Reps (d.M w base (fun k => ok k ∧ some k ≠ v.ownBlock)) d.sz xs inner
section
variable {α : Type} {d : Kd α} {e : Nat} {w w1 W : World} {base : Nat} {ok ok' : Nat → Prop} {v : Value} {xs : List α}
end
section
variable {P : Program} {ops : Array Oper} {rest : List Oper} {o : Oper} {a : Act} {Q' : Exit → Act → World → Prop} {Kc : Act → World → Prop} {α : Type}
end
end Kd
namespace Kd
section
variable {α : Type} {d : Kd α} {e e' : Nat} {w w1 W : World} {base : Nat} {ok : Nat → Prop} {u v : Value} {xs : List α}
theorem R_elder' (hu : d.R e W base ok u xs) (hbase : ∀ k, v.ownBlock = some k → W.heap.size ≤ k) (hb : Below W.heap.size W w1) : d.R e w1 base (fun k => ok k ∧ some k ≠ v.ownBlock) u xs :=
 R_mono (R_move (R_bound hu) (fun k hk => hb.block k hk.2.2.1)) (fun k hk => ⟨hk.1, fun he => by have := hbase k he.symm; have := hk.2.2.1; omega⟩)
theorem R_new' (h : d.R e w1 W.heap.size ok v xs) (hlt : ∀ k, u.ownBlock = some k → k < W.heap.size) : d.R e w1 W.heap.size (fun k => ok k ∧ some k ≠ u.ownBlock) v xs :=
 R_mono (R_bound h) (fun k hk => ⟨hk.1, fun he => by have := hlt k he.symm; have := hk.2.1; omega⟩)
end
end Kd
namespace Kd
section
variable {α : Type} {d : Kd α} {e base g n cap : Nat} {ok okp : Nat → Prop} {W : World} {xs : List α}
end
end Kd
namespace Kd
section
variable {α : Type} {F : Kd α → Kd α} {sz : Nat} {E : List Nat} {hs : ∀ n, (upto F sz E n).sz = sz} {hE : ∀ n q, q ∈ (upto F sz E n).E → q ∈ E}
end
end Kd
namespace Kd
theorem reps_append {α : Type} {R : α → List Value → Prop} {size : Nat} {ps qs : List α} {cs ds : List Value} (h : Reps R size ps cs) (h' : Reps R size qs ds) : Reps R size (ps ++ qs) (cs ++ ds) := by
 refine ⟨by rw [List.length_append, List.length_append, h.1, h'.1, Nat.add_mul], fun j p hj => ?_⟩
 rcases Nat.lt_or_ge j ps.length with hlt | hge
 ·rw [List.getElem?_append_left hlt] at hj
  have hle : j * size + size ≤ cs.length := by rw [h.1, ← Nat.succ_mul]; exact Nat.mul_le_mul_right _ hlt
  rw [List.drop_append_of_le_length (by omega), List.take_append_of_le_length (by rw [List.length_drop]; omega)]
  exact h.2 j p hj
 ·rw [List.getElem?_append_right hge] at hj
  have h2 := h'.2 (j - ps.length) p hj
  have hle : ps.length * size ≤ j * size := Nat.mul_le_mul_right _ hge
  rw [List.drop_append, List.drop_eq_nil_of_le (by rw [h.1]; exact hle), List.nil_append, h.1, ← Nat.sub_mul]
  exact h2
section
variable {P : Program} {ops : Array Oper} {rest : List Oper} {o : Oper} {a : Act} {Q : Exit → Act → World → Prop} {α : Type}
theorem R_append_rows (d : Kd α) {Rr : α → List Value → Prop} {w0 W : World} (base : Nat) (hgd : o.guard = none) (s x : Operand) (t e : TypeId) (z : Value) (bytes : Nat)
  (ho : o.op = .call { callee := .builtin .append, args := #[s, x], argTypes := #[t, t] })
  (ht : P.underlying t = some (.slice e)) (hinfo : (P.info? e).map (fun i => (i.zero, i.size, i.bytes)) = some (some z, d.sz, bytes)) (hz : z.cells.size = d.sz) (hs0 : 0 < d.sz) (hb0 : 0 < bytes)
  (v : Value) (xs ys : List α) (A : Option Addr) (m c : Nat) (ok okp : Nat → Prop) (hs : a.eval s = v) (hx : a.eval x = .slice A m c)
  (HO : d.R e W base ok v xs) (HR : ReadsRow Rr d.sz W A m ys) (hKM : ∀ x cs, Rr x cs → d.M W base okp x cs) (hokp : ∀ k, okp k → ok k ∧ some k ≠ v.ownBlock) (hfresh : ∀ k, W.heap.size ≤ k → ok k)
  (HB : Below base w0 W) (hbase : base ≤ W.heap.size) (hl : (xs.length + m) * bytes ≤ 140737488355328)
  (h : ∀ v1 w1, d.R e w1 base ok v1 (xs ++ ys) → Below base w0 w1 → W.grownBy w1 v.ownBlock → (v1.ownBlock = v.ownBlock ∨ ∃ b, v1.ownBlock = some b ∧ W.heap.size ≤ b) → wpList P ops Q rest (a.put o.dst v1) w1) :
  wpList P ops Q (o :: rest) a W := by
 obtain ⟨i0, hi, hzz⟩ := Option.map_eq_some_iff.1 hinfo
 simp only [Prod.mk.injEq] at hzz
 obtain ⟨hz0, hz1, hz2⟩ := hzz
 have hm : ys.length = m := HR.1
 have hlen : xs.length + m ≤ 140737488355328 := Nat.le_trans (Nat.le_mul_of_pos_right _ hb0) hl
 obtain ⟨hok, inner, hown, hr⟩ := HO
 have hrun : ∃ v1 w1, (Builtin.append_ #[t, t] o.type #[v, .slice A m c]).run P W = .ok v1 w1 ∧ d.R e w1 base ok v1 (xs ++ ys) ∧ W.grownBy w1 v.ownBlock ∧ (v1.ownBlock = v.ownBlock ∨ ∃ b, v1.ownBlock = some b ∧ W.heap.size ≤ b) := by
  rcases A with _ | ad
  ·have h0 : m = 0 := by
    rcases Nat.eq_zero_or_pos m with h0 | h0
    ·exact h0
    ·obtain ⟨ad, h, _⟩ := HR.2.2 h0
     cases h
   subst h0
   obtain rfl : ys = [] := List.eq_nil_of_length_eq_zero hm
   refine ⟨v, W, ?_, by rw [List.append_nil]; exact ⟨hok, inner, hown, hr⟩, World.grownBy.refl W _, .inl rfl⟩
   rcases hown.2 with ⟨rfl, hn⟩ | ⟨g, cap, cur, rfl, _, _, hnc, _⟩
   ·simp [Builtin.append_, run_underlying ht, sizeOf, typeInfo, hi, Builtin.lenOf, Builtin.firstCells]
   ·simp [Builtin.append_, run_underlying ht, sizeOf, typeInfo, hi, Builtin.lenOf, Builtin.firstCells, hnc, storeCells]
  ·obtain ⟨news, hnr, hnc⟩ := ReadsRow.inner_ HR
   have hnM : Reps (d.M W base okp) d.sz ys news := hnr.imp_ (fun p c hp => hKM p c hp)
   have hone : ∀ u ∈ news, u.oneCell' = true := by
    intro u hu
    obtain ⟨q, hq, rfl⟩ := List.mem_iff_getElem.1 hu
    have hql : q / d.sz < ys.length := by
     rw [Nat.div_lt_iff_lt_mul hs0]
     rw [← hnM.1]
     exact hq
    have hc := hnM.2 (q / d.sz) _ (List.getElem?_eq_getElem hql)
    refine d.K_one (d.K_of_M hc) _ ?_
    rw [List.mem_iff_getElem?]
    refine ⟨q % d.sz, ?_⟩
    rw [List.getElem?_take, if_pos (Nat.mod_lt _ hs0), List.getElem?_drop, Nat.mul_comm, Nat.div_add_mod, List.getElem?_eq_getElem hq]
   obtain ⟨v1, w1, hrun, h2, hg, _, hat⟩ := run_append_own_at (P := P) W base t o.type e i0 z d.sz bytes ht hi hz0 hz1 hz2 hz hs0 v xs.length inner hown ad m c news (by rw [hnM.1, hm]) hnc hone (by simp only [maxLen]; omega) hl hbase
   have hat' : v1.ownBlock = v.ownBlock ∨ ∃ b, v1.ownBlock = some b ∧ W.heap.size ≤ b := by
    rcases hat with hat | hat
    ·exact .inl hat
    ·exact .inr ⟨_, hat, Nat.le_refl _⟩
   have hne : ∀ k, some k ≠ v.ownBlock → k < W.heap.size → some k ≠ v1.ownBlock := by
    intro k hk hlt
    rcases hat' with hat | ⟨b, hb, hle⟩
    ·rw [hat]; exact hk
    ·rw [hb]
     intro he
     injection he with he
     omega
   have step : ∀ {q : α} {c : List Value} {o : Nat → Prop}, d.M W base o q c → (∀ k, o k → ok k ∧ some k ≠ v.ownBlock) → d.M w1 base (fun k => ok k ∧ some k ≠ v1.ownBlock) q c := by
    intro q c o hq ho
    have h1 := d.M_move (w1 := w1) (fun k hk => hg.block k hk.2.2.1 (ho k hk.1).2) (d.M_bound hq)
    exact d.M_mono (fun k hk => ⟨(ho k hk.1).1, hne k (ho k hk.1).2 hk.2.2.1⟩) h1
   refine ⟨v1, w1, hrun, ⟨fun k hk => ?_, inner ++ news, by rw [List.length_append, hm]; exact h2, reps_append (hr.imp_ (fun _ _ hq => step hq (fun _ hk => hk))) (hnM.imp_ (fun _ _ hq => step hq hokp))⟩, hg, hat'⟩
   rcases hat' with hat | ⟨b, hb, hle⟩
   ·exact hok k (hat ▸ hk)
   ·rw [hb] at hk
    injection hk with hk
    exact hfresh k (by omega)
 obtain ⟨v1, w1, hr1, h1, hg, hat⟩ := hrun
 refine wpList_plain hgd fun K hK => ?_
 unfold Oper.wp execOp
 simp only [ho, resolve, invoke, builtin, Sem.run_bind, Sem.run_pure, Result.andThen_ok, List.map_toArray, List.map_cons, List.map_nil, hs, hx, hr1]
 exact hK _ _ (h v1 w1 h1 (HB.grown hg hbase (own_base hown)) hg hat)
end
end Kd
namespace Kd
section
variable {P : Program} {ops : Array Oper} {rest : List Oper} {o : Oper} {a : Act} {Q : Exit → Act → World → Prop} {α : Type}
end
end Kd
namespace Kd
section
variable {α : Type} {k : Kd α} {w : World} {A : Option Addr} {xs : List α} {m c : Nat}
end
end Kd
section
variable {P : Program}
end
theorem below_size {w W : World} (h : Below w.heap.size w W) : w.heap.size ≤ W.heap.size := h.size
theorem below_step {w W w2 : World} (h : Below w.heap.size w W) (k : Below W.heap.size W w2) : Below w.heap.size w w2 := below_then h h.size k
theorem below_set {w W : World} {g j : Nat} {v : Value} (h : Below w.heap.size w W) (hg : w.heap.size ≤ g) : Below w.heap.size w (W.setCell ⟨g, j, none⟩ v) := h.setCell hg _
theorem keep_drewN {w W : World} {g : Nat} {row : Option Nat} (h : KeepBut w W g row) (m : Nat) : KeepBut w (W.drewN m) g row := h
theorem cell_far {W : World} {p a : Addr} (h : a.block ≠ p.block) (u : Value) : (W.setCell p u).cell? a = W.cell? a := by
 have := Below.heap_setCell W p u a.block h
 simp [World.cell?, this]
theorem blk_put {w : World} {g : Nat} {t : TypeId} {cs cs' : Array Value} (h : w.heap[g]? = some (.cells cs t (0, 0))) (i : Nat) (u : Value) (e : cs.setIfInBounds i u = cs') : (w.setCell ⟨g, i, none⟩ u).heap[g]? = some (.cells cs' t (0, 0)) := e ▸ blk_set h i u
theorem below_drew1 {base : Nat} {w W : World} (h : Below base w W) : Below base w W.drew := h.drew
namespace Kd
section
variable {α β : Type} {d : Kd α} {d' : Kd β} {e e' base base' n : Nat} {ok ok' : Nat → Prop} {w W w1 W1 : World} {v u : Value} {xs : List α} {ys : List β} {A : Option Addr} {c : Nat}
end
section
variable {α : Type} {enc : α → Value} {h1 : ∀ x, (enc x).oneCell' = true} {w W : World} {A : Option Addr} {n g : Nat} {xs : List α}
end
end Kd
namespace Kd
section
variable {α : Type} {d : Kd α} {e base g : Nat} {ok : Nat → Prop} {w w1 : World} {v : Value} {xs : List α} {o : Obj}
theorem R_elderB (h : d.R e w base ok v xs) (a : Nat) (ha : w.heap.size ≤ a) : d.R e w base (fun k => ok k ∧ k ≠ a) v xs := R_mono (R_bound h) (fun k hk => ⟨hk.1, by have := hk.2.2.1; omega⟩)
theorem freshB (hb : w.heap[g]? = some o) : ∀ k, w.heap.size ≤ k → k ≠ g := fun k hk => by have := blk_lt hb; omega
end
end Kd
section
variable {P : Program} {ops : Array Oper} {rest : List Oper} {o : Oper} {a : Act} {Q : Exit → Act → World → Prop}
theorem box_event {W : World} (hgd : o.guard = none) {N : Tmp} (_hd : o.dst = some N) {cs : Array Value} {t : TypeId}
  (hrun : (execOp a.eval o).run P W = .ok (.value (.pointer (some ⟨W.heap.size, 0, none⟩))) (W.alloc (.cells cs t (0, 0))))
  (h : ∀ g, g = W.heap.size → ∀ w1, w1.heap[g]? = some (.cells cs t (0, 0)) → Below W.heap.size W w1 → wpList P ops Q rest (a.put o.dst (.pointer (some ⟨g, 0, none⟩))) w1) : wpList P ops Q (o :: rest) a W :=
 Kd.event_run hgd hrun (h _ rfl _ (blk_new W _) (below_alloc (Below.refl _ _) _))
end
namespace Kd
section
variable {α : Type} {enc : α → Value} {h1 : ∀ x, (enc x).oneCell' = true} {e base g n cap : Nat} {ok : Nat → Prop} {W : World} {xs : List α}
end
end Kd
section
variable {P : Program} {ops : Array Oper} {rest : List Oper} {o : Oper} {a : Act} {Q : Exit → Act → World → Prop}
end
namespace Kd
section
variable {α : Type} {enc : α → Value} {h1 : ∀ x, (enc x).oneCell' = true} {e base g n cap : Nat} {ok : Nat → Prop} {W : World} {xs : List α}
end
end Kd
section
variable {P : Program} {ops : Array Oper} {rest : List Oper} {o : Oper} {a : Act} {Q : Exit → Act → World → Prop} {W : World}
theorem gate_dst {N : Tmp} (_hN : o.dst = some N) (h : wpList P ops Q (o :: rest) a W) : wpList P ops Q (o :: rest) a W := h
end
section
variable {P : Program} {ops : Array Oper} {o : Oper} {a : Act} {Q : Exit → Act → World → Prop} {Kc : Act → World → Prop}
theorem event_step {W w1 : World} {v : Value} (hw : Region.wanted o (yielded ops a.tmps) = true) (hrun : (execOp a.eval o).run P W = .ok (.value v) w1) (h : Kc (a.put o.dst v) w1) : if Region.wanted o (yielded ops a.tmps) = true then Oper.wp P o a W Kc Q else Kc (a.put o.dst undef) W := by
 rw [if_pos hw]
 unfold Oper.wp
 rw [hrun]
 exact h
theorem box_step {W : World} (hw : Region.wanted o (yielded ops a.tmps) = true) {N : Tmp} (_hd : o.dst = some N) {cs : Array Value} {t : TypeId}
  (hrun : (execOp a.eval o).run P W = .ok (.value (.pointer (some ⟨W.heap.size, 0, none⟩))) (W.alloc (.cells cs t (0, 0))))
  (h : ∀ g, g = W.heap.size → ∀ w1, w1.heap[g]? = some (.cells cs t (0, 0)) → Below W.heap.size W w1 → Kc (a.put o.dst (.pointer (some ⟨g, 0, none⟩))) w1) : if Region.wanted o (yielded ops a.tmps) = true then Oper.wp P o a W Kc Q else Kc (a.put o.dst undef) W :=
 event_step hw hrun (h _ rfl _ (blk_new W _) (below_alloc (Below.refl _ _) _))
namespace Kd
variable {α : Type}
end Kd
end
section
variable {P : Program} {tmps : Array Value} {w : World}
end
namespace Kd
section
variable {P : Program} {α : Type}
end
section
variable {P : Program} {ops : Array Oper} {rest : List Oper} {o : Oper} {a : Act} {Q : Exit → Act → World → Prop} {Kc : Act → World → Prop} {α : Type}
end
end Kd
end Go.Proofs.YthemhfloablccaaDoorW.PrintWords
end

section
namespace Go.Proofs.YthemhfloablccaaDoorW.PrintLast
section
variable {P : Program} {ops : Array Oper} {Q : Exit → Act → World → Prop} {md : Region.Mode} {S : World → Prop} {ds : List Nat}
def Region.reachB (md : Region.Mode) (ops : Array Oper) (i : Nat) : Nat → Nat → Bool
  | 0, _ => false
  | fuel + 1, d => match ops[d]? with
    | some o => o.after.any fun e => Region.binds md e && (e.on == i || Region.reachB md ops i fuel e.on)
    | none => false
def Region.closedB (md : Region.Mode) (ops : Array Oper) (listed : Array Bool) : Bool :=
  (List.range ops.size).all fun j => !listed.getD j false || match ops[j]? with
    | some o => o.after.all fun e => !Region.binds md e || listed.getD e.on false
    | none => true
def Region.lastB (md : Region.Mode) (ops : Array Oper) (listed : Array Bool) (ds : List Nat) (i : Nat) : Bool :=
 ds.all fun d => listed.getD d true || Region.reachB md ops i ops.size d
def ListedClosed (md : Region.Mode) (ops : Array Oper) (listed : Array Bool) : Prop :=
 ∀ j oj, ops[j]? = some oj → listed.getD j false = true → ∀ e ∈ oj.after, Region.binds md e = true → listed.getD e.on false = true
theorem Region.closedB_spec {listed : Array Bool} (h : Region.closedB md ops listed = true) : ListedClosed md ops listed := by
 intro j oj hj hl e he hb
 have hlt : j < ops.size := (Array.getElem?_eq_some_iff.1 hj).1
 have h1 := List.all_eq_true.1 h j (List.mem_range.2 hlt)
 simp only [hl, hj, Bool.not_true, Bool.false_or] at h1
 have h2 := Array.all_eq_true_iff_forall_mem.1 h1 e he
 simpa [hb] using h2
theorem ListedClosed.set {listed : Array Bool} {i : Nat} (h : ListedClosed md ops listed) (hi : i ∈ Region.ready md ops listed) : ListedClosed md ops (listed.setIfInBounds i true) := by
 obtain ⟨_, oi, hoi, hall⟩ := mem_ready.1 hi
 intro j oj hj hl e he hb
 by_cases hij : i = j
 ·subst hij
  have : oj = oi := Option.some.inj (hj.symm.trans hoi)
  subst this
  exact getD_set_true (hall e he hb)
 ·rw [getD_set_ne false hij] at hl
  exact getD_set_true (h j oj hj hl e he hb)
theorem Region.reach_listed {listed : Array Bool} {i : Nat} (hc : ListedClosed md ops listed) : ∀ (fuel d : Nat), Region.reachB md ops i fuel d = true → listed.getD d false = true → listed.getD i false = true
  | 0, _, h, _ => by simp [Region.reachB] at h
  | fuel + 1, d, h, hl => by
    unfold Region.reachB at h
    cases ho : ops[d]? with
    | none => rw [ho] at h; simp at h
    | some o =>
      rw [ho] at h
      obtain ⟨e, he, h1⟩ := Array.any_eq_true'.1 h
      simp only [Bool.and_eq_true, Bool.or_eq_true, beq_iff_eq] at h1
      have hle := hc d o ho hl e he h1.1
      rcases h1.2 with h2 | h2
      · rw [← h2]; exact hle
      · exact Region.reach_listed hc fuel e.on h2 hle
theorem Region.reach_not_ready {listed : Array Bool} {i d fuel : Nat} (hc : ListedClosed md ops listed) (hr : Region.reachB md ops i fuel d = true) (hun : listed.getD i true = false) : d ∉ Region.ready md ops listed := by
  intro hd
  obtain ⟨_, o, ho, hall⟩ := mem_ready.1 hd
  have hi : listed.getD i false = true := by
    cases fuel with
    | zero => simp [Region.reachB] at hr
    | succ n =>
      unfold Region.reachB at hr
      rw [ho] at hr
      obtain ⟨e, he, h1⟩ := Array.any_eq_true'.1 hr
      simp only [Bool.and_eq_true, Bool.or_eq_true, beq_iff_eq] at h1
      have hle := hall e he h1.1
      rcases h1.2 with h2 | h2
      · rw [← h2]; exact hle
      · exact Region.reach_listed hc n e.on h2 hle
  rcases Nat.lt_or_ge i listed.size with h' | h'
  · simp [h'] at hun hi
    rw [hun] at hi
    cases hi
  · simp [Array.getElem?_eq_none h'] at hun
def wpAnyLast (P : Program) (md : Region.Mode) (ops : Array Oper) (Q : Exit → Act → World → Prop) (S : World → Prop) (ds : List Nat) : Nat → Array Bool → Act → World → Prop
  | 0, listed, a, w => Region.ready md ops listed = [] ∧ Q .normal a w
  | fuel + 1, listed, a, w =>
    (Region.ready md ops listed = [] → Q .normal a w) ∧
    ∀ i ∈ Region.ready md ops listed, wpOp P ops Q i (fun a' w' => (i ∉ ds → S w → S w') ∧ wpAnyLast P md ops Q S ds fuel (listed.setIfInBounds i true) a' w') a w
theorem wpAny_of_last : ∀ (fuel : Nat) (listed : Array Bool) (a : Act) (w : World), wpAnyLast P md ops Q S ds fuel listed a w → wpAny P md ops Q fuel listed a w
 | 0, _, _, _, h => h
 | fuel + 1, _, _, _, h => ⟨h.1, fun i hi => wpOp_mono (fun a' w' h' => wpAny_of_last fuel _ a' w' h'.2) (h.2 i hi)⟩
theorem wpAnyLast_first {i : Nat} {oi : Oper} {v : Value} (hi : ops[i]? = some oi) (hsel : ∀ (j : Nat) (o : Oper) cs b, ops[j]? = some o → o.op ≠ .select cs b)
    (hQ : ∀ c a w, Q (.panic c) (a.put oi.dst v) w → Q (.panic c) a w) (n : Nat) :
    ∀ (fuel : Nat) (listed : Array Bool) (a : Act) (w : World),
      (∀ j oj, ops[j]? = some oj → j ≠ i → listed.getD j true = false → (∀ e ∈ oj.after, Region.binds md e = true → e.on ≠ i) → oi.apart ops oj = true) →
      ListedClosed md ops listed → (∀ d ∈ ds, listed.getD d true = false → Region.reachB md ops i n d = true) →
      i ∈ Region.ready md ops listed → YieldsIf P ops S oi v a → S w →
      wpAnyLast P md ops Q S ds fuel (listed.setIfInBounds i true) (a.put oi.dst v) w → wpAnyLast P md ops Q S ds (fuel + 1) listed a w := by
  intro fuel
  induction fuel with
  | zero =>
    intro listed a w _ _ _ hr hy hS H
    refine ⟨fun h => (by rw [h] at hr; cases hr), fun j hj => ?_⟩
    by_cases hji : j = i
    · subst hji; exact hy.wpOp hi hS ⟨fun _ h => h, H⟩
    · have := ready_mono hj hji
      rw [H.1] at this
      cases this
  | succ fuel ih =>
    intro listed a w hfree hc hd hr hy hS H
    refine ⟨fun h => (by rw [h] at hr; cases hr), fun j hj => ?_⟩
    by_cases hji : j = i
    · subst hji; exact hy.wpOp hi hS ⟨fun _ h => h, H⟩
    · have h1 := H.2 j (ready_mono hj hji)
      obtain ⟨hjun, oj, hoj, hall⟩ := mem_ready.1 hj
      have hiun := (mem_ready.1 hr).1
      have hnot : ∀ e ∈ oj.after, Region.binds md e = true → e.on ≠ i := fun e he hb heq => by
        have h1 := hall e he hb
        rw [heq] at h1
        rcases Nat.lt_or_ge i listed.size with h' | h'
        · simp [h'] at hiun h1; rw [hiun] at h1; cases h1
        · simp [Array.getElem?_eq_none h'] at h1
      have hjd : j ∉ ds := fun hm => Region.reach_not_ready hc (hd j hm hjun) hiun hj
      have h2 := wpOp_putIf hoj (hfree j oj hoj hji hjun hnot) (fun cs b => hsel i oi cs b hi) (fun cs b => hsel j oj cs b hoj) hQ hy h1
      have hfree' : ∀ k ok, ops[k]? = some ok → k ≠ i → (listed.setIfInBounds j true).getD k true = false →
          (∀ e ∈ ok.after, Region.binds md e = true → e.on ≠ i) → oi.apart ops ok = true := fun k ok hk hki hun hno => by
        refine hfree k ok hk hki ?_ hno
        by_cases hjk : j = k
        · subst hjk; exact hjun
        · rw [getD_set_ne true hjk] at hun; exact hun
      have hd' : ∀ d ∈ ds, (listed.setIfInBounds j true).getD d true = false → Region.reachB md ops i n d = true := fun d hm hun => by
        refine hd d hm ?_
        by_cases hjk : j = d
        · subst hjk; exact hjun
        · rw [getD_set_ne true hjk] at hun; exact hun
      refine wpOp_mono (fun a' w' h3 => ⟨h3.2.1, ih (listed.setIfInBounds j true) a' w' hfree' (hc.set hj) hd' (ready_mono hr (Ne.symm hji)) h3.1 (h3.2.1 hjd hS) ?_⟩) h2
      rw [Array.setIfInBounds_comm _ _ hji]
      exact h3.2.2
theorem wpAnyLast_any {i : Nat} {oi : Oper} {v : Value} (hi : ops[i]? = some oi) (hsel : ∀ (j : Nat) (o : Oper) cs b, ops[j]? = some o → o.op ≠ .select cs b)
    (hQ : ∀ c a w, Q (.panic c) (a.put oi.dst v) w → Q (.panic c) a w) :
    ∀ (fuel : Nat) (listed : Array Bool) (a : Act) (w : World),
      (∀ j oj, ops[j]? = some oj → j ≠ i → listed.getD j true = false → (∀ e ∈ oj.after, Region.binds md e = true → e.on ≠ i) → oi.apart ops oj = true) →
      i ∈ Region.ready md ops listed → Yields P ops oi v a →
      wpAnyLast P md ops Q S ds fuel (listed.setIfInBounds i true) (a.put oi.dst v) w → wpAnyLast P md ops Q S ds (fuel + 1) listed a w := by
  intro fuel
  induction fuel with
  | zero =>
    intro listed a w _ hr hy H
    refine ⟨fun h => (by rw [h] at hr; cases hr), fun j hj => ?_⟩
    by_cases hji : j = i
    · subst hji; exact (hy.yieldsIf (S := fun _ => True)).wpOp hi trivial ⟨fun _ h => h, H⟩
    · have := ready_mono hj hji
      rw [H.1] at this
      cases this
  | succ fuel ih =>
    intro listed a w hfree hr hy H
    refine ⟨fun h => (by rw [h] at hr; cases hr), fun j hj => ?_⟩
    by_cases hji : j = i
    · subst hji; exact (hy.yieldsIf (S := fun _ => True)).wpOp hi trivial ⟨fun _ h => h, H⟩
    · have h1 := H.2 j (ready_mono hj hji)
      obtain ⟨hjun, oj, hoj, hall⟩ := mem_ready.1 hj
      have hiun := (mem_ready.1 hr).1
      have hnot : ∀ e ∈ oj.after, Region.binds md e = true → e.on ≠ i := fun e he hb heq => by
        have h1 := hall e he hb
        rw [heq] at h1
        rcases Nat.lt_or_ge i listed.size with h' | h'
        · simp [h'] at hiun h1; rw [hiun] at h1; cases h1
        · simp [Array.getElem?_eq_none h'] at h1
      have h2 := wpOp_put hoj (hfree j oj hoj hji hjun hnot) (fun cs b => hsel i oi cs b hi) (fun cs b => hsel j oj cs b hoj) hQ hy h1
      have hfree' : ∀ k ok, ops[k]? = some ok → k ≠ i → (listed.setIfInBounds j true).getD k true = false →
          (∀ e ∈ ok.after, Region.binds md e = true → e.on ≠ i) → oi.apart ops ok = true := fun k ok hk hki hun hno => by
        refine hfree k ok hk hki ?_ hno
        by_cases hjk : j = k
        · subst hjk; exact hjun
        · rw [getD_set_ne true hjk] at hun; exact hun
      refine wpOp_mono (fun a' w' h3 => ⟨h3.2.1, ih (listed.setIfInBounds j true) a' w' hfree' (ready_mono hr (Ne.symm hji)) h3.1 ?_⟩) h2
      rw [Array.setIfInBounds_comm _ _ hji]
      exact h3.2.2
theorem wpAnyLast_take {i : Nat} {oi : Oper} {v : Value} {fuel : Nat} {listed : Array Bool} {a : Act} {w : World} (hi : ops[i]? = some oi)
  (hs : Region.noSelect ops = true) (hf : Region.free md ops listed i = true) (hr : (Region.ready md ops listed).contains i = true)
  (hc : Region.closedB md ops listed = true) (hl : Region.lastB md ops listed ds i = true)
  (hQ : ∀ c a w, Q (.panic c) (a.put oi.dst v) w → Q (.panic c) a w) (hy : YieldsIf P ops S oi v a) (hS : S w)
  (h : wpAnyLast P md ops Q S ds fuel (listed.setIfInBounds i true) (a.put oi.dst v) w) : wpAnyLast P md ops Q S ds (fuel + 1) listed a w :=
 wpAnyLast_first hi (Region.noSelect_spec hs) hQ ops.size fuel listed a w (Region.free_spec hi hf) (Region.closedB_spec hc)
  (fun d hm hun => by have := List.all_eq_true.1 hl d hm; rw [hun] at this; simpa using this) (by simpa using hr) hy hS h
theorem wpAnyLast_all {rs : List Nat} {fuel : Nat} {listed : Array Bool} {a : Act} {w : World} (hr : Region.ready md ops listed = rs) (hne : rs ≠ [])
  (h : ∀ i ∈ rs, wpOp P ops Q i (fun a' w' => (i ∉ ds → S w → S w') ∧ wpAnyLast P md ops Q S ds fuel (listed.setIfInBounds i true) a' w') a w) : wpAnyLast P md ops Q S ds (fuel + 1) listed a w :=
 ⟨fun h0 => absurd (hr ▸ h0) hne, hr ▸ h⟩
theorem wpAnyLast_done {listed : Array Bool} {a : Act} {w : World} (hr : Region.ready md ops listed = []) (h : Q .normal a w) :
  ∀ fuel, wpAnyLast P md ops Q S ds fuel listed a w
 | 0 => ⟨hr, h⟩
 | _ + 1 => ⟨fun _ => h, by rw [hr]; simp⟩
theorem wp_region_last {id : Nat} {a : Act} {w : World} (hm : P.follows .mixedOrders = true)
  (h : wpAnyLast P .any ops Q S ds ops.size (Array.replicate ops.size false) a { w with drawn := w.drawn + 1 }) : (Code.region id ops true).wp P Q a w :=
 wp_region_any hm (wpAny_of_last _ _ _ _ h)
end
section
variable {P : Program} {ops : Array Oper} {Q : Exit → Act → World → Prop} {md : Region.Mode} {S : World → Prop} {ds : List Nat}
def AllReadyL (P : Program) (md : Region.Mode) (ops : Array Oper) (Q : Exit → Act → World → Prop) (S : World → Prop) (ds : List Nat) (fuel : Nat) (listed : Array Bool) (a : Act) (w : World) (rs : List Nat) : Prop :=
 ∀ i ∈ rs, wpOp P ops Q i (fun a' w' => (i ∉ ds → S w → S w') ∧ wpAnyLast P md ops Q S ds fuel (listed.setIfInBounds i true) a' w') a w
theorem AllReadyL.nil {fuel : Nat} {listed : Array Bool} {a : Act} {w : World} : AllReadyL P md ops Q S ds fuel listed a w [] := fun _ h => by cases h
theorem AllReadyL.cons {fuel : Nat} {listed : Array Bool} {a : Act} {w : World} {i : Nat} {o : Oper} {rs : List Nat} (ho : ops[i]? = some o) (hd : i ∉ ds)
  (h : ∀ K' : Act → World → Prop, Shut (∀ a w, S w → (S w → wpAnyLast P md ops Q S ds fuel (listed.setIfInBounds i true) a w) → K' a w) → if Region.wanted o (yielded ops a.tmps) = true then Oper.wp P o a w K' Q else K' (a.put o.dst undef) w)
  (hs : AllReadyL P md ops Q S ds fuel listed a w rs) : AllReadyL P md ops Q S ds fuel listed a w (i :: rs) := fun j hj => by
 rcases List.mem_cons.1 hj with rfl | hj
 ·exact wpOp_step ho (fun K' hK => h K' (fun a w hS hW => hK a w ⟨fun _ _ => hS, hW hS⟩))
 ·exact hs j hj
theorem AllReadyL.cons_last {fuel : Nat} {listed : Array Bool} {a : Act} {w : World} {i : Nat} {o : Oper} {rs : List Nat} (ho : ops[i]? = some o) (hd : i ∈ ds)
  (h : ∀ K' : Act → World → Prop, Shut (∀ a w, wpAnyLast P md ops Q S ds fuel (listed.setIfInBounds i true) a w → K' a w) → if Region.wanted o (yielded ops a.tmps) = true then Oper.wp P o a w K' Q else K' (a.put o.dst undef) w)
  (hs : AllReadyL P md ops Q S ds fuel listed a w rs) : AllReadyL P md ops Q S ds fuel listed a w (i :: rs) := fun j hj => by
 rcases List.mem_cons.1 hj with rfl | hj
 ·exact wpOp_step ho (fun K' hK => h K' (fun a w hW => hK a w ⟨fun hn => absurd hd hn, hW⟩))
 ·exact hs j hj
theorem wpAnyLast_ready {rs : List Nat} {fuel : Nat} {listed : Array Bool} {a : Act} {w : World} (hr : Region.ready md ops listed = rs) (hne : rs ≠ [])
  (h : AllReadyL P md ops Q S ds fuel listed a w rs) : wpAnyLast P md ops Q S ds (fuel + 1) listed a w := wpAnyLast_all hr hne h
theorem start_ {id n : Nat} {a : Act} {w : World} (l : Array Bool) (hm : P.follows .mixedOrders = true) (hn : ops.size = n) (hl : Array.replicate n false = l) (hS : S w.drew)
  (h : S w.drew → wpAnyLast P .any ops Q S ds n l a w.drew) : (Code.region id ops true).wp P Q a w := by
 subst hn
 subst hl
 exact wp_region_last hm (h hS)
def takeB (md : Region.Mode) (ops : Array Oper) (ds : List Nat) (l l' : Array Bool) (i : Nat) : Bool :=
 Region.noSelect ops && Region.free md ops l i && (Region.ready md ops l).contains i && Region.closedB md ops l && Region.lastB md ops l ds i && (l.setIfInBounds i true == l')
theorem take_ {i : Nat} {N : Option Tmp} {oi : Oper} {v : Value} {fuel : Nat} {l : Array Bool} {a : Act} {w : World} (l' : Array Bool) (hi : ops[i]? = some oi) (hN : oi.dst = N) (hc : takeB md ops ds l l' i = true)
  (hQ : ∀ c a w, Q (.panic c) (a.put oi.dst v) w → Q (.panic c) a w) (hy : YieldsIf P ops S oi v a) (hS : S w) {a' : Act} (ha : a.put N v = a')
  (h : wpAnyLast P md ops Q S ds fuel l' a' w) : wpAnyLast P md ops Q S ds (fuel + 1) l a w := by
 subst ha
 subst hN
 simp only [takeB, Bool.and_eq_true, beq_iff_eq] at hc
 obtain ⟨⟨⟨⟨⟨h1, h2⟩, h3⟩, h4⟩, h5⟩, h6⟩ := hc
 subst h6
 exact wpAnyLast_take hi h1 h2 h3 h4 h5 hQ hy hS h
def anyB (md : Region.Mode) (ops : Array Oper) (l l' : Array Bool) (i : Nat) : Bool :=
 Region.noSelect ops && Region.free md ops l i && (Region.ready md ops l).contains i && (l.setIfInBounds i true == l')
theorem pure_ {i : Nat} {N : Option Tmp} {oi : Oper} {v : Value} {fuel : Nat} {l : Array Bool} {a : Act} {w : World} (l' : Array Bool) (hi : ops[i]? = some oi) (hN : oi.dst = N) (hc : anyB md ops l l' i = true)
  (hQ : ∀ c a w, Q (.panic c) (a.put oi.dst v) w → Q (.panic c) a w) (hy : Yields P ops oi v a) {a' : Act} (ha : a.put N v = a')
  (h : wpAnyLast P md ops Q S ds fuel l' a' w) : wpAnyLast P md ops Q S ds (fuel + 1) l a w := by
 subst ha
 subst hN
 simp only [anyB, Bool.and_eq_true, beq_iff_eq] at hc
 obtain ⟨⟨⟨h1, h2⟩, h3⟩, h6⟩ := hc
 subst h6
 exact wpAnyLast_any hi (Region.noSelect_spec h1) hQ fuel l a w (Region.free_spec hi h2) (by simpa using h3) hy h
def readyB (md : Region.Mode) (ops : Array Oper) (l l' : Array Bool) (i : Nat) : Bool := (Region.ready md ops l == [i]) && (l.setIfInBounds i true == l')
theorem one_ {i : Nat} {N : Option Tmp} {oi : Oper} {fuel : Nat} {l : Array Bool} {a : Act} {w : World} (l' : Array Bool) (hi : ops[i]? = some oi) (hN : oi.dst = N) (hc : readyB md ops l l' i = true) (hd : i ∉ ds)
  (h : ∀ K : Act → World → Prop, Shut (∀ a' w', S w' → (S w' → wpAnyLast P md ops Q S ds fuel l' a' w') → K a' w') → if Region.wanted oi (yielded ops a.tmps) = true then Oper.wp P oi a w K Q else K (a.put N undef) w) :
  wpAnyLast P md ops Q S ds (fuel + 1) l a w := by
 subst hN
 simp only [readyB, Bool.and_eq_true, beq_iff_eq] at hc
 obtain ⟨h1, h2⟩ := hc
 subst h2
 exact wpAnyLast_ready h1 (by simp) (AllReadyL.cons hi hd (fun K hK => h K hK) AllReadyL.nil)
theorem last_ {i : Nat} {N : Option Tmp} {oi : Oper} {fuel : Nat} {l : Array Bool} {a : Act} {w : World} (l' : Array Bool) (hi : ops[i]? = some oi) (hN : oi.dst = N) (hc : readyB md ops l l' i = true) (hd : i ∈ ds)
  (h : ∀ K : Act → World → Prop, Shut (∀ a' w', wpAnyLast P md ops Q S ds fuel l' a' w' → K a' w') → if Region.wanted oi (yielded ops a.tmps) = true then Oper.wp P oi a w K Q else K (a.put N undef) w) :
  wpAnyLast P md ops Q S ds (fuel + 1) l a w := by
 subst hN
 simp only [readyB, Bool.and_eq_true, beq_iff_eq] at hc
 obtain ⟨h1, h2⟩ := hc
 subst h2
 exact wpAnyLast_ready h1 (by simp) (AllReadyL.cons_last hi hd (fun K hK => h K hK) AllReadyL.nil)
theorem done_ {l : Array Bool} {a : Act} {w : World} {n : Nat} (hr : (Region.ready md ops l == []) = true) (h : Q .normal a w) : wpAnyLast P md ops Q S ds n l a w := wpAnyLast_done (by simpa using hr) h n
theorem two_ {i j : Nat} {Ni Nj : Option Tmp} {oi oj : Oper} {fuel : Nat} {l : Array Bool} {a : Act} {w : World} (li lj : Array Bool) (hi : ops[i]? = some oi) (hj : ops[j]? = some oj) (hNi : oi.dst = Ni) (hNj : oj.dst = Nj)
  (hc : (Region.ready md ops l == [i, j] && l.setIfInBounds i true == li && l.setIfInBounds j true == lj) = true) (hdi : i ∉ ds) (hdj : j ∉ ds)
  (h1 : ∀ K : Act → World → Prop, Shut (∀ a' w', S w' → (S w' → wpAnyLast P md ops Q S ds fuel li a' w') → K a' w') → if Region.wanted oi (yielded ops a.tmps) = true then Oper.wp P oi a w K Q else K (a.put Ni undef) w)
  (h2 : ∀ K : Act → World → Prop, Shut (∀ a' w', S w' → (S w' → wpAnyLast P md ops Q S ds fuel lj a' w') → K a' w') → if Region.wanted oj (yielded ops a.tmps) = true then Oper.wp P oj a w K Q else K (a.put Nj undef) w) :
  wpAnyLast P md ops Q S ds (fuel + 1) l a w := by
 subst hNi
 subst hNj
 simp only [Bool.and_eq_true, beq_iff_eq] at hc
 obtain ⟨⟨h3, h4⟩, h5⟩ := hc
 subst h4
 subst h5
 exact wpAnyLast_ready h3 (by simp) (AllReadyL.cons hi hdi (fun K hK => h1 K hK) (AllReadyL.cons hj hdj (fun K hK => h2 K hK) AllReadyL.nil))
def putAll : Act → List (Tmp × Value) → Act
 | a, [] => a
 | a, (n, v) :: r => putAll (a.put (some n) v) r
theorem join_ {σ : Type} {fuel : Nat} {l : Array Bool} {a : Act} {w : World} (fuel' : Nat) (l' : Array Bool) (ns : σ → List (Tmp × Value)) (F : σ → World → Prop)
  (hcont : ∀ s w', F s w' → wpAnyLast P md ops Q S ds fuel' l' (putAll a (ns s)) w')
  (h : (∀ s w', F s w' → wpAnyLast P md ops Q S ds fuel' l' (putAll a (ns s)) w') → wpAnyLast P md ops Q S ds fuel l a w) : wpAnyLast P md ops Q S ds fuel l a w := h hcont
theorem norm_ {fuel : Nat} {l : Array Bool} {a a' : Act} {w : World} (ha : a = a') (h : wpAnyLast P md ops Q S ds fuel l a' w) : wpAnyLast P md ops Q S ds fuel l a w := by
 subst ha
 exact h
theorem call_ {oi : Oper} {N : Option Tmp} {a : Act} {w : World} {K : Act → World → Prop} (f : FuncId) (args : Array Value) (hw : Region.wanted oi (yielded ops a.tmps) = true) (hN : oi.dst = N) (hrun : (execOp a.eval oi).run P w = .ok (.enter f args) w)
  (h : Calls P f args w fun e w' => ∃ v, e = .returned v ∧ K (a.put N v) w') : if Region.wanted oi (yielded ops a.tmps) = true then Oper.wp P oi a w K Q else K (a.put N undef) w := by
 rw [if_pos hw]
 subst hN
 unfold Oper.wp
 rw [hrun, Oper.upon_enter]
 refine h.mono fun e w'' hh => ?_
 obtain ⟨v, rfl, hk⟩ := hh
 exact hk
theorem enters_ {f : FuncId} {fn : Func} (hf : P.funcs[f]? = some fn) (hname : (fn.name == "runtime.NumGoroutine") = false) (hb : fn.body.isSome = true) (args : Array Value) (w : World) : (callFunc f args).run P w = .ok (.enter f args) w := by
 have h1 : fn.name ≠ "runtime.NumGoroutine" := by simpa using hname
 obtain ⟨c, hc⟩ := Option.isSome_iff_exists.1 hb
 simp [callFunc, hf, h1, hc]
theorem goes_ {oi : Oper} {N : Option Tmp} {a : Act} {w : World} {K : Act → World → Prop} {f : FuncId} {fn : Func} {as_ : Array Operand} {ts : Array TypeId} (hf : P.funcs[f]? = some fn) (hname : (fn.name == "runtime.NumGoroutine") = false) (hb : fn.body.isSome = true) (args : Array Value)
  (hw : Region.wanted oi (yielded ops a.tmps) = true) (hN : oi.dst = N) (hop : oi.op = .call { callee := .value (.func f), args := as_, argTypes := ts }) (hargs : as_.map a.eval = args)
  (h : Calls P f args w fun e w' => ∃ v, e = .returned v ∧ K (a.put N v) w') : if Region.wanted oi (yielded ops a.tmps) = true then Oper.wp P oi a w K Q else K (a.put N undef) w := by
 refine call_ f args hw hN ?_ h
 have he := enters_ hf hname hb args w
 unfold execOp
 simp [hop, resolve, Deferred.ofValue, invoke, Act.eval, hargs, he]
theorem goesL_ {rest : List Oper} {oi : Oper} {a : Act} {w : World} (N : Option Tmp) (hd : oi.dst = N) (hg : oi.guard = none) {f : FuncId} {fn : Func} {as_ : Array Operand} {ts : Array TypeId} (hf : P.funcs[f]? = some fn) (hname : (fn.name == "runtime.NumGoroutine") = false) (hb : fn.body.isSome = true) (args : Array Value)
  (hop : oi.op = .call { callee := .value (.func f), args := as_, argTypes := ts }) (hargs : as_.map a.eval = args)
  (h : Calls P f args w fun e w' => ∃ v, e = .returned v ∧ wpList P ops Q rest (a.put N v) w') : wpList P ops Q (oi :: rest) a w := by
 refine wpList_plain hg fun K hK => ?_
 have he := enters_ hf hname hb args w
 have hrun : (execOp a.eval oi).run P w = .ok (.enter f args) w := by
  unfold execOp
  simp [hop, resolve, Deferred.ofValue, invoke, Act.eval, hargs, he]
 unfold Oper.wp
 rw [hrun, Oper.upon_enter]
 refine h.mono fun e w'' hh => ?_
 obtain ⟨v, rfl, hk⟩ := hh
 subst hd
 exact hK _ _ hk
theorem skip_ {oi : Oper} {a : Act} {w w1 : World} {K : Act → World → Prop} (hw : Region.wanted oi (yielded ops a.tmps) = true) (hN : oi.dst = none) (hrun : (execOp a.eval oi).run P w = .ok .skip w1)
  (h : K a w1) : if Region.wanted oi (yielded ops a.tmps) = true then Oper.wp P oi a w K Q else K (a.put none undef) w := by
 rw [if_pos hw]
 unfold Oper.wp
 rw [hrun]
 show K (a.put oi.dst undef) w1
 rw [hN]
 exact h
theorem i64_w (n : Int) : IntKind.i64.wrap n = Go.RowKit.wrap64 n := by unfold Go.RowKit.wrap64; exact IntKind.wrap_i64 n
theorem i32_w (n : Int) : IntKind.i32.wrap n = Go.RowKit.wrap32 n := by unfold Go.RowKit.wrap32; exact IntKind.wrap_i32 n
end
end Go.Proofs.YthemhfloablccaaDoorW.PrintLast
end

section
namespace Go.Proofs.YthemhfloablccaaDoorW.PrintLast
open Go.Proofs.YthemhfloablccaaDoorW.PrintWords (Aside0)
def needsOf (md : Region.Mode) (o : Oper) : List Nat := (o.after.toList.filter (fun e => Region.binds md e)).map (fun e => e.on)
def clashOf (md : Region.Mode) (ops : Array Oper) (i : Nat) (oi : Oper) : List Nat := (List.range ops.size).filter fun j => !(j == i) && match ops[j]? with
 | some oj => !(oj.after.any (fun e => Region.binds md e && e.on == i) || oi.apart ops oj)
 | none => false
def rtab (md : Region.Mode) (ops : Array Oper) : Bool × List (List Nat × List Nat) := (Region.noSelect ops, (List.range ops.size).map fun i => match ops[i]? with
 | some o => (needsOf md o, clashOf md ops i o)
 | none => ([], []))
def readyAt (T : List (List Nat × List Nat)) (l : List Bool) (i : Nat) : Bool := !l.getD i true && match T[i]? with
 | some r => r.1.all (fun j => l.getD j false)
 | none => false
def readyT (T : List (List Nat × List Nat)) (l : List Bool) : List Nat := (List.range T.length).filter (readyAt T l)
def freeT (T : List (List Nat × List Nat)) (l : List Bool) (i : Nat) : Bool := match T[i]? with
 | some r => r.2.all (fun j => l.getD j true)
 | none => false
def closedT (T : List (List Nat × List Nat)) (l : List Bool) : Bool := (List.range T.length).all fun j => !l.getD j false || match T[j]? with
 | some r => r.1.all (fun k => l.getD k false)
 | none => true
def reachT (T : List (List Nat × List Nat)) (i : Nat) : Nat → Nat → Bool
  | 0, _ => false
  | fuel + 1, d => match T[d]? with
    | some r => r.1.any fun j => j == i || reachT T i fuel j
    | none => false
def lastT (T : List (List Nat × List Nat)) (l : List Bool) (ds : List Nat) (i : Nat) : Bool := ds.all fun d => l.getD d true || reachT T i T.length d
section
variable {md : Region.Mode} {ops : Array Oper} {T : Bool × List (List Nat × List Nat)} {l l' li lj lk : Array Bool} {ds : List Nat} {i j k : Nat}
theorem gd (l : Array Bool) (j : Nat) (b : Bool) : l.getD j b = l.toList.getD j b := by simp [Array.getD_eq_getD_getElem?, List.getD_eq_getElem?_getD]
theorem needs_all (o : Oper) (p : Nat → Bool) : o.after.all (fun e => !Region.binds md e || p e.on) = (needsOf md o).all p := by
  unfold needsOf
  rw [← Array.all_toList]
  induction o.after.toList with
  | nil => rfl
  | cons e r ih =>
    rw [List.all_cons, ih, List.filter_cons]
    cases h : Region.binds md e <;> simp
theorem needs_any (o : Oper) (p : Nat → Bool) : o.after.any (fun e => Region.binds md e && p e.on) = (needsOf md o).any p := by
  unfold needsOf
  rw [← Array.any_toList]
  induction o.after.toList with
  | nil => rfl
  | cons e r ih =>
    rw [List.any_cons, ih, List.filter_cons]
    cases h : Region.binds md e <;> simp
theorem rtab_length : (rtab md ops).2.length = ops.size := by simp [rtab]
theorem rtab_some {o : Oper} (h : ops[i]? = some o) : (rtab md ops).2[i]? = some (needsOf md o, clashOf md ops i o) := by
 have hi := (Array.getElem?_eq_some_iff.1 h).1
 unfold rtab
 rw [List.getElem?_map, List.getElem?_range hi, Option.map_some, h]
theorem rtab_none (h : ops[i]? = none) : (rtab md ops).2[i]? = none := by
 have hi : ops.size ≤ i := Array.getElem?_eq_none_iff.1 h
 exact List.getElem?_eq_none (by rw [rtab_length]; exact hi)
theorem readyAt_eq : readyAt (rtab md ops).2 l.toList i = (!l.getD i true && ((ops[i]?).map (·.after.all fun e => !Region.binds md e || l.getD e.on false)).getD false) := by
  unfold readyAt
  rw [gd]
  cases h : ops[i]? with
  | none => rw [rtab_none h]; rfl
  | some o =>
    rw [rtab_some h]
    simp only [Option.map_some, Option.getD_some]
    rw [← needs_all]
    simp only [gd]
theorem ready_eq : Region.ready md ops l = readyT (rtab md ops).2 l.toList := by
 unfold Region.ready readyT
 rw [rtab_length]
 refine List.filter_congr (fun i _ => ?_)
 rw [readyAt_eq]
theorem free_eq : Region.free md ops l i = freeT (rtab md ops).2 l.toList i := by
  unfold Region.free freeT
  cases h : ops[i]? with
  | none => rw [rtab_none h]
  | some oi =>
    rw [rtab_some h]
    simp only [clashOf]
    rw [List.all_filter]
    congr 1
    funext j
    rw [gd]
    cases hj : ops[j]? with
    | none => cases (j == i) <;> cases (l.toList.getD j true) <;> simp
    | some oj =>
      cases (j == i) <;> cases (l.toList.getD j true) <;> cases (oj.after.any (fun e => Region.binds md e && e.on == i) || oi.apart ops oj) <;> simp_all
theorem closed_eq : Region.closedB md ops l = closedT (rtab md ops).2 l.toList := by
  unfold Region.closedB closedT
  rw [rtab_length]
  congr 1
  funext j
  rw [gd]
  cases h : ops[j]? with
  | none => rw [rtab_none h]
  | some o =>
    rw [rtab_some h]
    simp only
    rw [← needs_all]
    simp only [gd]
theorem reach_eq : ∀ (fuel d : Nat), Region.reachB md ops i fuel d = reachT (rtab md ops).2 i fuel d
  | 0, _ => rfl
  | fuel + 1, d => by
    unfold Region.reachB reachT
    cases h : ops[d]? with
    | none => rw [rtab_none h]
    | some o =>
      rw [rtab_some h]
      simp only
      rw [← needs_any]
      congr 1
      funext e
      rw [reach_eq fuel]
theorem last_eq : Region.lastB md ops l ds i = lastT (rtab md ops).2 l.toList ds i := by
 unfold Region.lastB lastT
 rw [rtab_length]
 congr 1
 funext d
 rw [gd, reach_eq]
theorem readyAt_mem (h : readyAt T.2 l.toList i = true) (hT : rtab md ops = T) : (Region.ready md ops l).contains i = true := by
 subst hT
 rw [ready_eq]
 unfold readyT
 rw [List.contains_iff_mem, List.mem_filter, List.mem_range]
 refine ⟨?_, h⟩
 unfold readyAt at h
 rw [Bool.and_eq_true] at h
 cases hq : (rtab md ops).2[i]? with
 | none => rw [hq] at h; simp at h
 | some r => exact (List.getElem?_eq_some_iff.1 hq).1
theorem set_of (h : (l.toList.set i true == l'.toList) = true) : (l.setIfInBounds i true == l') = true := by
 rw [beq_iff_eq] at h ⊢
 apply Array.ext'
 rw [Array.toList_setIfInBounds]
 exact h
def anyT (T : Bool × List (List Nat × List Nat)) (l l' : List Bool) (i : Nat) : Bool := T.1 && freeT T.2 l i && readyAt T.2 l i && (l.set i true == l')
theorem any_of (hT : rtab md ops = T) (h : anyT T l.toList l'.toList i = true) : anyB md ops l l' i = true := by
 simp only [anyT, Bool.and_eq_true] at h
 obtain ⟨⟨⟨h1, h2⟩, h3⟩, h4⟩ := h
 have h5 := readyAt_mem h3 hT
 have h6 := set_of h4
 subst hT
 simp only [anyB, Bool.and_eq_true]
 exact ⟨⟨⟨h1, by rw [free_eq]; exact h2⟩, h5⟩, h6⟩
def takeT (T : Bool × List (List Nat × List Nat)) (ds : List Nat) (l l' : List Bool) (i : Nat) : Bool := T.1 && freeT T.2 l i && readyAt T.2 l i && closedT T.2 l && lastT T.2 l ds i && (l.set i true == l')
theorem take_of (hT : rtab md ops = T) (h : takeT T ds l.toList l'.toList i = true) : takeB md ops ds l l' i = true := by
 simp only [takeT, Bool.and_eq_true] at h
 obtain ⟨⟨⟨⟨⟨h1, h2⟩, h3⟩, h4⟩, h5⟩, h6⟩ := h
 have h7 := readyAt_mem h3 hT
 have h8 := set_of h6
 subst hT
 simp only [takeB, Bool.and_eq_true]
 exact ⟨⟨⟨⟨⟨h1, by rw [free_eq]; exact h2⟩, h7⟩, by rw [closed_eq]; exact h4⟩, by rw [last_eq]; exact h5⟩, h8⟩
theorem one_of (hT : rtab md ops = T) (h : (readyT T.2 l.toList == [i] && l.toList.set i true == l'.toList) = true) : readyB md ops l l' i = true := by
 simp only [Bool.and_eq_true] at h
 obtain ⟨h1, h2⟩ := h
 subst hT
 simp only [readyB, Bool.and_eq_true]
 exact ⟨by rw [ready_eq]; exact h1, set_of h2⟩
theorem two_of (hT : rtab md ops = T) (h : (readyT T.2 l.toList == [i, j] && l.toList.set i true == li.toList && l.toList.set j true == lj.toList) = true) : (Region.ready md ops l == [i, j] && l.setIfInBounds i true == li && l.setIfInBounds j true == lj) = true := by
 simp only [Bool.and_eq_true] at h ⊢
 obtain ⟨⟨h1, h2⟩, h3⟩ := h
 subst hT
 exact ⟨⟨by rw [ready_eq]; exact h1, set_of h2⟩, set_of h3⟩
theorem done_of (hT : rtab md ops = T) (h : (readyT T.2 l.toList == []) = true) : (Region.ready md ops l == []) = true := by
 subst hT
 rw [ready_eq]
 exact h
def upM (B : List Nat) (d : Nat) : List Nat → Nat
 | [] => 0
 | n :: r => (2 ^ n ||| (if n < d then B.getD n 0 else 0)) ||| upM B d r
def waitsOk (T : List (List Nat × List Nat)) (B : List Nat) : Bool := (List.range T.length).all fun d => match T[d]? with
 | some r => (B.getD d 0 ||| upM B d r.1) == upM B d r.1
 | none => false
theorem upM_bit {B : List Nat} {d i : Nat} : ∀ {ns : List Nat}, (upM B d ns).testBit i = true → ∃ n ∈ ns, n = i ∨ (n < d ∧ (B.getD n 0).testBit i = true)
  | [], h => by simp [upM] at h
  | n :: r, h => by
    unfold upM at h
    rw [Nat.testBit_or, Nat.testBit_or, Bool.or_eq_true, Bool.or_eq_true] at h
    rcases h with (h | h) | h
    · rw [Nat.testBit_two_pow] at h
      exact ⟨n, List.mem_cons_self, .inl (by simpa using h)⟩
    · by_cases hn : n < d
      · rw [if_pos hn] at h
        exact ⟨n, List.mem_cons_self, .inr ⟨hn, h⟩⟩
      · rw [if_neg hn] at h
        simp at h
    · obtain ⟨m, hm, h2⟩ := upM_bit h
      exact ⟨m, List.mem_cons_of_mem _ hm, h2⟩
theorem reach_bit {T : List (List Nat × List Nat)} {B : List Nat} (hB : waitsOk T B = true) : ∀ (fuel d : Nat), d < fuel → d < T.length → (B.getD d 0).testBit i = true → reachT T i fuel d = true
  | 0, d, h, _, _ => by omega
  | fuel + 1, d, h, hd, hb => by
    have h1 := List.all_eq_true.1 hB d (List.mem_range.2 hd)
    cases hr : T[d]? with
    | none => rw [hr] at h1; simp at h1
    | some r =>
      rw [hr] at h1
      simp only [beq_iff_eq] at h1
      have h2 : (upM B d r.1).testBit i = true := by rw [← h1, Nat.testBit_or, hb, Bool.true_or]
      obtain ⟨n, hn, h3⟩ := upM_bit h2
      unfold reachT
      rw [hr]
      simp only
      rw [List.any_eq_true]
      refine ⟨n, hn, ?_⟩
      rcases h3 with rfl | ⟨h4, h5⟩
      · simp
      · rw [reach_bit hB fuel n (by omega) (by omega) h5, Bool.or_true]
def lastW (T : List (List Nat × List Nat)) (B : List Nat) (l : List Bool) (ds : List Nat) (i : Nat) : Bool := ds.all fun d => l.getD d true || (decide (d < T.length) && (B.getD d 0).testBit i)
def takeW (T : Bool × List (List Nat × List Nat)) (B : List Nat) (ds : List Nat) (l l' : List Bool) (i : Nat) : Bool := T.1 && freeT T.2 l i && readyAt T.2 l i && closedT T.2 l && lastW T.2 B l ds i && (l.set i true == l')
theorem take_ofW {B : List Nat} (hT : rtab md ops = T) (hB : waitsOk T.2 B = true) (h : takeW T B ds l.toList l'.toList i = true) : takeB md ops ds l l' i = true := by
 refine take_of hT ?_
 simp only [takeW, takeT, Bool.and_eq_true] at h ⊢
 obtain ⟨⟨⟨⟨⟨h1, h2⟩, h3⟩, h4⟩, h5⟩, h6⟩ := h
 refine ⟨⟨⟨⟨⟨h1, h2⟩, h3⟩, h4⟩, ?_⟩, h6⟩
 unfold lastW at h5
 unfold lastT
 rw [List.all_eq_true] at h5 ⊢
 intro d hd
 have h7 := h5 d hd
 rw [Bool.or_eq_true, Bool.and_eq_true, decide_eq_true_eq] at h7
 rcases h7 with h7 | ⟨h8, h9⟩
 ·rw [h7, Bool.true_or]
 ·rw [reach_bit hB _ d h8 h8 h9, Bool.or_true]
theorem with_tabW {P : Program} {Q : Exit → Act → World → Prop} {S : World → Prop} {n : Nat} {a : Act} {w : World} {B : List Nat} (hT : rtab md ops = T) (hB : waitsOk T.2 B = true) (h : Aside0 (rtab md ops = T) → Aside0 (waitsOk T.2 B = true) → wpAnyLast P md ops Q S ds n l a w) : wpAnyLast P md ops Q S ds n l a w := h ⟨hT⟩ ⟨hB⟩
end
def opsIn : Code → Nat → Option (Array Oper)
  | .region id ops _, k => if id == k then some ops else none
  | .seq a b, k => match opsIn a k with
    | some o => some o
    | none => opsIn b k
  | .cond _ a b, k => match opsIn a k with
    | some o => some o
    | none => opsIn b k
  | .block _ c, k => opsIn c k
  | .loop c, k => opsIn c k
  | .scope c, k => opsIn c k
  | .rangeFunc _ _ a b, k => match opsIn a k with
    | some o => some o
    | none => opsIn b k
  | _, _ => none
def opsOf (f : Func) (k : Nat) : Array Oper := ((f.body.bind fun c => opsIn c k)).getD #[]
end Go.Proofs.YthemhfloablccaaDoorW.PrintLast
end

section
namespace Go.Proofs.YthemhfloablccaaDoorW.PrintWords
open Go.RowKit
namespace Kd
def tag {α : Type} (f : Nat → Nat) (d : Kd α) : Kd (α × Nat) where
 sz := d.sz
 E := d.E
 K := fun w x cs => d.K w x.1 cs
 M := fun w base ok x cs => d.M w base (fun k => ok k ∧ f k = x.2) x.1 cs
 K_len := fun h => d.K_len h
 K_one := fun h => d.K_one h
 K_below := fun hb h => d.K_below hb h
 K_of_M := fun h => d.K_of_M h
 M_mono := fun hok h => d.M_mono (fun k hk => ⟨hok k hk.1, hk.2⟩) h
 M_bound := fun h => d.M_mono (fun _ hk => ⟨⟨hk.1.1, hk.2⟩, hk.1.2⟩) (d.M_bound h)
 M_move := fun hm h => d.M_move (fun k hk => hm k hk.1) h
 M_lower := fun hb h => d.M_lower hb h
def raw (sz : Nat) : Kd (List Value) where
 sz := sz
 E := []
 K := fun _ x cs => cs = x ∧ cs.length = sz ∧ ∀ u ∈ cs, u.oneCell' = true
 M := fun _ _ _ x cs => cs = x ∧ cs.length = sz ∧ ∀ u ∈ cs, u.oneCell' = true
 K_len := fun h => h.2.1
 K_one := fun h => h.2.2
 K_below := fun _ h => h
 K_of_M := fun h => h
 M_mono := fun _ h => h
 M_bound := fun h => h
 M_move := fun _ h => h
 M_lower := fun _ h => h
def S {α : Type} (d : Kd α) (e : Nat) (w : World) (base : Nat) (ok : Nat → Prop) (v : Value) (xs : List α) : Prop := ∃ f, (tag f d).R e w base ok v xs.zipIdx
section
variable {α β : Type} {d : Kd α} {d' : Kd β} {e e' : Nat} {w w1 W : World} {base b : Nat} {ok ok' okv oku : Nat → Prop} {u v : Value} {xs : List α} {ys : List β}
end
section
variable {α β : Type} {d : Kd α} {d' : Kd β} {e e' g : Nat} {w w1 W : World} {base b : Nat} {ok ok' okv oku : Nat → Prop} {u v : Value} {xs : List α} {ys : List β}
end
section
open Classical in
variable {P : Program} {ops : Array Oper} {rest : List Oper} {o : Oper} {a : Act} {Q : Exit → Act → World → Prop} {Kc : Act → World → Prop} {α : Type}
end
def gap {α : Type} (f : Nat → Nat) (d : Kd α) (i : Nat) (c : List Value) : Kd (α × Nat) where
 sz := d.sz
 E := d.E
 K := fun w x cs => (x.2 = i → cs = c ∧ cs.length = d.sz ∧ ∀ u ∈ cs, u.oneCell' = true) ∧ (x.2 ≠ i → d.K w x.1 cs)
 M := fun w base ok x cs => (x.2 = i → cs = c ∧ cs.length = d.sz ∧ ∀ u ∈ cs, u.oneCell' = true) ∧ (x.2 ≠ i → d.M w base (fun k => ok k ∧ f k = x.2) x.1 cs)
 K_len := fun {w x cs} h => by
  by_cases hx : x.2 = i
  ·exact (h.1 hx).2.1
  ·exact d.K_len (h.2 hx)
 K_one := fun {w x cs} h => by
  by_cases hx : x.2 = i
  ·exact (h.1 hx).2.2
  ·exact d.K_one (h.2 hx)
 K_below := fun hb h => ⟨h.1, fun hx => d.K_below hb (h.2 hx)⟩
 K_of_M := fun h => ⟨h.1, fun hx => d.K_of_M (h.2 hx)⟩
 M_mono := fun hok h => ⟨h.1, fun hx => d.M_mono (fun k hk => ⟨hok k hk.1, hk.2⟩) (h.2 hx)⟩
 M_bound := fun h => ⟨h.1, fun hx => d.M_mono (fun _ hk => ⟨⟨hk.1.1, hk.2⟩, hk.1.2⟩) (d.M_bound (h.2 hx))⟩
 M_move := fun hm h => ⟨h.1, fun hx => d.M_move (fun k hk => hm k hk.1) (h.2 hx)⟩
 M_lower := fun hb h => ⟨h.1, fun hx => d.M_lower hb (h.2 hx)⟩
def H {α : Type} (d : Kd α) (e : Nat) (w : World) (base : Nat) (ok : Nat → Prop) (v : Value) (xs : List α) (i : Int) (oki : Nat → Prop) (c : List Value) : Prop :=
 (∀ k, oki k → ok k) ∧ ∃ f, (gap f d i.toNat c).R e w base (fun k => ok k ∧ ¬ oki k) v xs.zipIdx
section
variable {α β : Type} {d : Kd α} {e e' g n cap : Nat} {w w1 W : World} {base : Nat} {ok ok' oki okp : Nat → Prop} {u v : Value} {xs : List α} {i : Int} {c : List Value}
open Classical in
end
section
variable {P : Program} {ops : Array Oper} {rest : List Oper} {o : Oper} {a : Act} {Q : Exit → Act → World → Prop} {α : Type}
end
end Kd
end Go.Proofs.YthemhfloablccaaDoorW.PrintWords
end

section
namespace Go.Proofs.YthemhfloablccaaDoorW.PrintWords
open Go.RowKit
def Kept (w W : World) (S : Nat → Prop) : Prop := w.heap.size ≤ W.heap.size ∧ ∀ i, i < w.heap.size → ¬ S i → W.heap[i]? = w.heap[i]?
section
variable {w W W2 : World} {S S2 S' : Nat → Prop}
theorem Kept.mono (h : Kept w W S) (hs : ∀ k, S k → S' k) : Kept w W S' := ⟨h.1, fun i hi hn => h.2 i hi (fun hk => hn (hs i hk))⟩
end
namespace Kd
section
variable {α : Type} {d : Kd α} {e base n c : Nat} {ok oki S S2 : Nat → Prop} {w w0 W W1 W2 : World} {v : Value} {A : Option Addr} {xs : List α} {i : Int} {cs : List Value}
end
end Kd
end Go.Proofs.YthemhfloablccaaDoorW.PrintWords
end

section
namespace Go.Proofs.YthemhfloablccaaDoorW.PrintWords
open Go.RowKit
def Foot (P : World → Prop) (W : World) (ok : Nat → Prop) : Prop := ∀ W' : World, (∀ k, ok k → k < W.heap.size → W'.heap[k]? = W.heap[k]?) → P W'
namespace Foot
variable {P Q : World → Prop} {W W1 : World} {ok ok' : Nat → Prop}
theorem mono (h : Foot P W ok) (hok : ∀ k, ok k → ok' k) : Foot P W ok' := fun W' hW => h W' (fun k hk hlt => hW k (hok k hk) hlt)
end Foot
namespace Kd
def F {α : Type} (d : Kd α) (W : World) (ok : Nat → Prop) (A : Option Addr) (n : Nat) (xs : List α) : Prop := Foot (fun W => d.C W A n xs) W ok
def FK {α : Type} (d : Kd α) (W : World) (ok : Nat → Prop) (x : α) (c : List Value) : Prop := Foot (fun W => d.K W x c) W ok
section
variable {α β : Type} {d : Kd α} {e base n n' cc g N : Nat} {ok ok' okp S : Nat → Prop} {w w0 w1 W W1 : World} {A A' : Option Addr} {u v v1 : Value} {xs : List α} {xs' : List β} {d' : Kd β} {x : α} {c : List Value}
end
end Kd
end Go.Proofs.YthemhfloablccaaDoorW.PrintWords
end

section
namespace Go.Proofs.YthemhfloablccaaDoorW.PrintWords
open Go.RowKit
namespace Kd
section
variable {α : Type} {d : Kd α} {e base n cc g : Nat} {ok ok' okp S : Nat → Prop} {w w1 W W1 : World} {A : Option Addr} {u v v1 : Value} {xs : List α} {x : α} {c : List Value}
def N {α : Type} (d : Kd α) (e : Nat) (w : World) (base : Nat) (ok : Nat → Prop) (v : Value) (xs : List α) : Prop :=
 (∀ k, v.ownBlock = some k → ok k) ∧ ∃ rows : List (List Value), rows.length = xs.length ∧ (raw d.sz).R e w base (fun k => some k = v.ownBlock) v rows ∧ ∀ (j : Nat) (x : α) (c : List Value), xs[j]? = some x → rows[j]? = some c → FK d w (fun k => ok k ∧ some k ≠ v.ownBlock) x c
end
end Kd
end Go.Proofs.YthemhfloablccaaDoorW.PrintWords
end

section
namespace Go.Proofs.YthemhfloablccaaDoorW.PrintWords
open Go.RowKit
section
variable {P : Program} {d : Nat} {xs ys : Array Value} {f : Field} {fs : List Field} {a b : Value} {r s : Bool} {w : World}
theorem eqf_last (hn : (f.name == "_") = false) (ha : (part f.type xs f.offset).run P w = .ok a w) (hb : (part f.type ys f.offset).run P w = .ok b w) (he : (Op.equalIn d f.type a b).run P w = .ok r w) : (Op.eqFields d xs ys [f]).run P w = .ok r w := by
 have hn' : f.name ≠ "_" := by simpa using hn
 simp only [Op.eqFields, if_pos hn', Sem.run_bind, ha, hb, he, Result.andThen_ok]
 cases r <;> simp
theorem eqf_cons (hn : (f.name == "_") = false) (ha : (part f.type xs f.offset).run P w = .ok a w) (hb : (part f.type ys f.offset).run P w = .ok b w) (he : (Op.equalIn d f.type a b).run P w = .ok r w) (hr : (Op.eqFields d xs ys fs).run P w = .ok s w) : (Op.eqFields d xs ys (f :: fs)).run P w = .ok (r && s) w := by
 have hn' : f.name ≠ "_" := by simpa using hn
 rw [Op.eqFields]
 simp only [if_pos hn', Sem.run_bind, ha, hb, he, Result.andThen_ok]
 cases r
 ·simp
 ·simpa using hr
theorem eqA_of {t : TypeId} {fs : Array Field} (hu : P.underlying t = some (.struct fs)) (hp : P.stoodInHeld t = false) (h : (Op.eqFields d xs ys fs.toList).run P w = .ok r w) : (Op.equalIn (d + 1) t (.agg xs) (.agg ys)).run P w = .ok r w := by
 have hf : P.fieldsOf t = fs := by simp [Program.fieldsOf, hu]
 rw [run_equalIn_struct (P := P) w d t xs ys (by rw [hf]; exact hu) hp, hf]
 exact h
end
end Go.Proofs.YthemhfloablccaaDoorW.PrintWords
end

section
namespace Go.Proofs.YthemhfloablccaaDoorW.PrintWords
theorem Reps.one {α : Type} {R : α → List Value → Prop} {ps : List α} {cs : List Value} {p : α} {v : Value} (hp : R p [v]) (h : Reps R 1 ps cs) : Reps R 1 (p :: ps) (v :: cs) := by
  refine ⟨by simp [h.1], fun j q hq => ?_⟩
  cases j with
  | zero =>
    simp only [List.getElem?_cons_zero, Option.some.injEq] at hq
    subst hq
    simpa using hp
  | succ j =>
    simp only [List.getElem?_cons_succ] at hq
    have h1 := h.2 j q hq
    simpa [Nat.mul_one] using h1
end Go.Proofs.YthemhfloablccaaDoorW.PrintWords
end

section
namespace Go.Proofs.YthemhfloablccaaDoorW.PrintWords
open Go.RowKit
section
variable {P : Program} {ops : Array Oper} {rest : List Oper} {o : Oper} {a : Act} {Q : Exit → Act → World → Prop} {W : World}
theorem gate_guard (hw : Region.wanted o (yielded ops a.tmps) = true) (h : wpList P ops Q ({ o with guard := none } :: rest) a W) : wpList P ops Q (o :: rest) a W := by
 have h1 : Region.wanted { o with guard := none } (yielded ops a.tmps) = true := rfl
 unfold wpList at h ⊢
 rw [if_pos h1] at h
 rw [if_pos hw]
 exact h
end
end Go.Proofs.YthemhfloablccaaDoorW.PrintWords
end

section
namespace Go.Proofs.YthemhfloablccaaDoorW.PrintMore
open Go.RowKit Go.Proofs.YthemhfloablccaaDoorW.PrintWords
namespace Kd
open Go.Proofs.YthemhfloablccaaDoorW.PrintWords.Kd
end Kd
namespace Kd
open Go.Proofs.YthemhfloablccaaDoorW.PrintWords.Kd
section
variable {α : Type} {d : Kd α} {e base g N : Nat} {ok : Nat → Prop} {W w1 : World} {u v : Value} {xs : List α}
end
end Kd
theorem max2_int (k k' : IntKind) (x y : Int) : Builtin.max2 (.int k x) (.int k' y) = pure (.int k (if x < y then y else x)) := by simp only [Builtin.max2, gt_iff_lt]
theorem min2_int (k k' : IntKind) (x y : Int) : Builtin.min2 (.int k x) (.int k' y) = pure (.int k (if y < x then y else x)) := by simp only [Builtin.min2]
theorem max_two (ats : Array TypeId) (ty : TypeId) (a b : Value) : Builtin.max_ ats ty #[a, b] = (Builtin.max2 a b >>= fun s => pure s) := by simp only [Builtin.max_, List.foldlM_cons, List.foldlM_nil]
theorem min_two (ats : Array TypeId) (ty : TypeId) (a b : Value) : Builtin.min_ ats ty #[a, b] = (Builtin.min2 a b >>= fun s => pure s) := by simp only [Builtin.min_, List.foldlM_cons, List.foldlM_nil]
theorem max_three (ats : Array TypeId) (ty : TypeId) (a b c : Value) : Builtin.max_ ats ty #[a, b, c] = (Builtin.max2 a b >>= fun s => Builtin.max2 s c >>= fun s => pure s) := by simp only [Builtin.max_, List.foldlM_cons, List.foldlM_nil]
theorem min_three (ats : Array TypeId) (ty : TypeId) (a b c : Value) : Builtin.min_ ats ty #[a, b, c] = (Builtin.min2 a b >>= fun s => Builtin.min2 s c >>= fun s => pure s) := by simp only [Builtin.min_, List.foldlM_cons, List.foldlM_nil]
theorem max_four (ats : Array TypeId) (ty : TypeId) (a b c d : Value) : Builtin.max_ ats ty #[a, b, c, d] = (Builtin.max2 a b >>= fun s => Builtin.max2 s c >>= fun s => Builtin.max2 s d >>= fun s => pure s) := by simp only [Builtin.max_, List.foldlM_cons, List.foldlM_nil]
theorem min_four (ats : Array TypeId) (ty : TypeId) (a b c d : Value) : Builtin.min_ ats ty #[a, b, c, d] = (Builtin.min2 a b >>= fun s => Builtin.min2 s c >>= fun s => Builtin.min2 s d >>= fun s => pure s) := by simp only [Builtin.min_, List.foldlM_cons, List.foldlM_nil]
end Go.Proofs.YthemhfloablccaaDoorW.PrintMore
namespace Go.Proofs.YthemhfloablccaaDoorW.PrintWords
open Go.RowKit
section
variable {P : Program} {ops : Array Oper} {rest : List Oper} {o : Oper} {a : Act} {Q : Exit → Act → World → Prop} {W : World}
theorem gate_callee {f : FuncId} {as_ : Array Operand} {ts : Array TypeId} (_ho : o.op = .call { callee := .value (.func f), args := as_, argTypes := ts }) (h : wpList P ops Q (o :: rest) a W) : wpList P ops Q (o :: rest) a W := h
theorem gate_builtin {b : Builtin} {xs : Array Operand} {ts : Array TypeId} (_ho : o.op = .call { callee := .builtin b, args := xs, argTypes := ts }) (h : wpList P ops Q (o :: rest) a W) : wpList P ops Q (o :: rest) a W := h
end
def mn (a b : Int) : Int := if b < a then b else a
namespace Kd
section
variable {α : Type} {d : Kd α} {e base : Nat} {ok : Nat → Prop} {W w1 : World} {v : Value} {xs : List α}
end
section
variable {α : Type} {d : Kd α} {e base g n cap : Nat} {ok oki okp : Nat → Prop} {W : World} {xs : List α} {i : Int} {c : List Value}
end
section
variable {α : Type} {d : Kd α} {e base b b' g N : Nat} {ok ok1 : Nat → Prop} {W W2 w1 : World} {u v : Value} {xs ys : List α} {S : Nat → Prop}
end
end Kd
end Go.Proofs.YthemhfloablccaaDoorW.PrintWords
namespace Go.Proofs.YthemhfloablccaaDoorW.PrintWords
open Go.RowKit
namespace Kd
section
variable {α β : Type} {d : Kd α} {e base base' n m c g N' lo hi : Nat} {ok ok' S : Nat → Prop} {w W w1 : World} {A : Option Addr} {ad : Addr} {u v v1 : Value} {xs : List α}
end
end Kd
end Go.Proofs.YthemhfloablccaaDoorW.PrintWords
end

section
namespace Go.Proofs.YthemhfloablccaaDoor.Pr
open Go.RowKit Go.Proofs.YthemhfloablccaaDoorW.PrintWords Go.Proofs.YthemhfloablccaaDoorW.PrintLast
theorem hb_ {p : Prop} (h : p := by repeat (first | (with_reducible first | exact HB.out | apply below_alloc | apply pw_below_drewN | apply below_drew1) | exact HB.out)) : p := h
theorem rz_ {p : Prop} (h : p := by first | rfl | (simp; done) | (simp [*]; done)) : p := h
theorem as_' {p : Prop} (h : p := by first | (with_reducible assumption) | assumption) : p := h
theorem ew_ {p : Prop} (h : p := by first | rfl | (simp [errW_none, errW_some] <;> rfl) | (simp [*, errW_none, errW_some] <;> rfl)) : p := h
theorem dz_ {p : Prop} (h : p := by repeat (first | exact Drawn0.refl _ | apply Drawn0.step)) : p := h
theorem ra_ {p q : Prop} (h : q) (f : q → p := by intro h_; (with_reducible repeat (first | apply Kd.R_alloc | apply Kd.R_drewN | apply Kd.R_drew)); exact h_) : p := f h
theorem ca_ {p q : Prop} (h : q) (f : q → p := by intro h_; repeat (first | exact h_ | (with_reducible refine Kd.C_alloc ?_ _) | (with_reducible refine Kd.C_drewN ?_ _) | (with_reducible refine Kd.C_drew ?_))) : p := f h
theorem ro_ {k : IntKind} {w : World} {b : Nat} {o : Nat → Prop} {x : Int} {ps : List Int} {cs : List Value} (h : Reps (Kd.M (Kd.int k) w b o) 1 ps cs) : Reps (Kd.M (Kd.int k) w b o) 1 (x :: ps) (.int k x :: cs) := Reps.one rfl h
theorem gl_ {P : Program} {ops : Array Oper} {Q : Exit → Act → World → Prop} {rest : List Oper} {oi : Oper} {a : Act} {w : World} (n : Nat) {f : FuncId} {fn : Func} {as_ : Array Operand} {ts : Array TypeId} (hf : P.funcs[f]? = some fn) (args : Array Value)
    (h : Calls P f args w fun e w' => ∃ v, e = .returned v ∧ wpList P ops Q rest (a.put (some n) v) w') (hd : oi.dst = some n := by rfl) (hg : oi.guard = none := by rfl) (hname : (fn.name == "runtime.NumGoroutine") = false := by kernel_rfl) (hb : fn.body.isSome = true := by rfl)
    (hop : oi.op = .call { callee := .value (.func f), args := as_, argTypes := ts } := by rfl) (hargs : as_.map a.eval = args := by ((try simp only [List.map_toArray, List.map_cons, List.map_nil]); first | done | rfl | (simp only [List.length_drop, List.length_take]; rfl))) : wpList P ops Q (oi :: rest) a w := goesL_ (some n) hd hg hf hname hb args hop hargs h
theorem pz_ {P : Program} {ops : Array Oper} {Q : Exit → Act → World → Prop} {md : Region.Mode} {S : World → Prop} {ds : List Nat} {oi : Oper} {v : Value} {fuel : Nat} {l : Array Bool} {a : Act} {w : World} {a' : Act} (i n : Nat)
    (hi : ops[i]? = some oi) (hN : oi.dst = some n) (hc : anyB md ops l (l.setIfInBounds i true) i = true)
    (h : wpAnyLast P md ops Q S ds fuel (l.setIfInBounds i true) a' w) (hQ : ∀ c a w, Q (.panic c) (a.put oi.dst v) w → Q (.panic c) a w := by exact fun _ _ _ h => h)
    (hy : Yields P ops oi v a := by (refine Or.inl ⟨by rfl, ?_⟩; intro w'; go_simp; with_reducible rfl))
    (ha : a.put (some n) v = a' := by (simp only [Act.put, List.setIfInBounds_toArray, List.set_cons_zero, List.set_cons_succ, i64_w, i32_w]; rfl)) : wpAnyLast P md ops Q S ds (fuel + 1) l a w := pure_ _ hi hN hc hQ hy ha h
end Go.Proofs.YthemhfloablccaaDoor.Pr
end
section
namespace Go.Proofs.YthemhfloablccaaDoor.Pr
open Go.RowKit Go.Proofs.YthemhfloablccaaDoorW.PrintWords Go.Proofs.YthemhfloablccaaDoorW.PrintLast Go.Proofs.YthemhfloablccaaDoorW.PrintMore
attribute [local go_sem] max2_int min2_int max_two min_two max_three min_three max_four min_four
def errW : Option Int → Value
 | none => .nilIface
 | some c => .iface 0 (.int .i64 c)
theorem errW_none : errW none = .nilIface := rfl
theorem errW_some (c : Int) : errW (some c) = .iface 0 (.int .i64 c) := rfl
theorem info5 : (Tryd.prog.info? 5).map (fun i => (i.zero, i.size, i.bytes)) = some (some (.int .u8 0), 1, 1) := by kernel_rfl
theorem info46 : (Tryd.prog.info? 46).map (fun i => (i.zero, i.size, i.bytes)) = some (some (.agg #[(.int .i64 0), (.int .i64 0), (.bool false)]), 3, 24) := by kernel_rfl
structure S46 where
 f0 : Int
 f1 : Int
 f2 : Bool
def z46 : S46 := ⟨(0 : Int), (0 : Int), false⟩
def k46 : Kd S46 := Kd.iso (Kd.pair (Kd.int .i64) (Kd.pair (Kd.int .i64) Kd.bool)) (fun x : S46 => (x.f0, x.f1, x.f2))
theorem k46_open {w : World} {x : S46} {cs : List Value} (h : k46.K w x cs) : cs = [.int .i64 x.f0, .int .i64 x.f1, .bool x.f2] := by
 obtain ⟨_, _, rfl, rfl, ⟨_, _, rfl, rfl, rfl⟩⟩ := h; exact rfl
theorem k46_openM {w : World} {base : Nat} {ok : Nat → Prop} {x : S46} {cs : List Value} (h : k46.M w base ok x cs) : cs = [.int .i64 x.f0, .int .i64 x.f1, .bool x.f2] := by
 obtain ⟨_, _, rfl, rfl, ⟨_, _, rfl, rfl, rfl⟩⟩ := h; exact rfl
theorem k46_mkM (w : World) (base : Nat) (ok : Nat → Prop) (x : S46)  : k46.M w base ok x [.int .i64 x.f0, .int .i64 x.f1, .bool x.f2] := ⟨[.int .i64 x.f0], [.int .i64 x.f1, .bool x.f2], rfl, rfl, ⟨[.int .i64 x.f1], [.bool x.f2], rfl, rfl, rfl⟩⟩
def rd_T46 (xs : List S46) (i : Int) : S46 := xs.getD i.toNat z46
theorem at_T46 {w : World} {A : Option Addr} {n : Nat} {xs : List S46} (h : Kd.C k46 w A n xs) (i : Int) (h0 : 0 ≤ i) (h1 : i < n) : ∃ ad , A = some ad ∧ w.cell? (ad.add (i.toNat * 3)) = some (.int .i64 (rd_T46 xs i).f0) ∧ w.cell? ⟨(ad.add (i.toNat * 3)).block, (ad.add (i.toNat * 3)).off + 1, none⟩ = some (.int .i64 (rd_T46 xs i).f1) ∧ w.cell? ⟨(ad.add (i.toNat * 3)).block, (ad.add (i.toNat * 3)).off + 2, none⟩ = some (.bool (rd_T46 xs i).f2) := by
 obtain ⟨ad, c, e, _, hK, hc0⟩ := Kd.C_get h z46 i h0 h1; have hc : ∀ j u, c[j]? = some u → w.cell? (ad.add (i.toNat * 3 + j)) = some u := hc0; obtain rfl := k46_open hK; exact ⟨ad, e, hc 0 _ rfl, by rw [← add_field _ _ 1 (by omega)]; exact hc 1 _ rfl, by rw [← add_field _ _ 2 (by omega)]; exact hc 2 _ rfl⟩
structure S80 where
 f0 : Int
 f1 : ByteArray
def z80 : S80 := ⟨(0 : Int), (⟨#[]⟩ : ByteArray)⟩
def k80 : Kd S80 := Kd.iso (Kd.pair (Kd.int .i64) Kd.string) (fun x : S80 => (x.f0, x.f1))
theorem k80_open {w : World} {x : S80} {cs : List Value} (h : k80.K w x cs) : cs = [.int .i64 x.f0, .string x.f1] := by
 obtain ⟨_, _, rfl, rfl, rfl⟩ := h; exact rfl
def rd_T80 (xs : List S80) (i : Int) : S80 := xs.getD i.toNat z80
theorem at_T80 {w : World} {A : Option Addr} {n : Nat} {xs : List S80} (h : Kd.C k80 w A n xs) (i : Int) (h0 : 0 ≤ i) (h1 : i < n) : ∃ ad , A = some ad ∧ w.cell? (ad.add (i.toNat * 2)) = some (.int .i64 (rd_T80 xs i).f0) ∧ w.cell? ⟨(ad.add (i.toNat * 2)).block, (ad.add (i.toNat * 2)).off + 1, none⟩ = some (.string (rd_T80 xs i).f1) := by
 obtain ⟨ad, c, e, _, hK, hc0⟩ := Kd.C_get h z80 i h0 h1; have hc : ∀ j u, c[j]? = some u → w.cell? (ad.add (i.toNat * 2 + j)) = some u := hc0; obtain rfl := k80_open hK; exact ⟨ad, e, hc 0 _ rfl, by rw [← add_field _ _ 1 (by omega)]; exact hc 1 _ rfl⟩
end Go.Proofs.YthemhfloablccaaDoor.Pr
end

section
namespace Go.Proofs.YthemhfloablccaaDoor.Pr
open Go.RowKit Go.Deep Go.Proofs.YthemhfloablccaaDoorW.PrintWords Go.Proofs.YthemhfloablccaaDoorW.PrintLast Go.Proofs.YthemhfloablccaaDoorW.PrintMore
set_option maxHeartbeats 2000000
abbrev Mem := S46
def isM (who : Int) (m : Mem) : Bool := if m.f0 = who then m.f2 else false
theorem isM_calls (b : Nat) (who : Int) (m : Mem) (w : World) (hb : w.cell? ⟨b, 0, none⟩ = some (.int .i64 who)) :
  Calls Tryd.prog 54 #[.agg #[.int .i64 m.f0, .int .i64 m.f1, .bool m.f2], .pointer (some ⟨b, 0, none⟩)] w fun e w' => e = .returned (.bool (isM who m)) ∧ Below w.heap.size w w' := by
 obtain ⟨x, c, i⟩ := m
 have hlt : b < w.heap.size := World.block_lt_of_cell? w ⟨b, 0, none⟩ hb
 have hba := below_alloc (Below.refl w.heap.size w) (.cells #[.int .i64 x, .int .i64 c, .bool i] 46)
 have hb2 := hba.cell (p := ⟨b, 0, none⟩) hlt
 rw [hb] at hb2
 have HBA := Aside0.mk hba
 by_cases h : x = who
 ·have hv : isM who ⟨x, c, i⟩ = i := if_pos h
  have d1 : (x == who) = true := beq_iff_eq.2 h
  rw [hv]
  clear h hv hlt hba
  go_enter Tryd.func54, Tryd.ntmps54
  go_wp2
  go_ret
  exact ⟨rfl, HBA.out⟩
 ·have hv : isM who ⟨x, c, i⟩ = false := if_neg h
  have d1 : (x == who) = false := beq_eq_false_iff_ne.2 h
  rw [hv]
  clear h hv hlt hba
  go_enter Tryd.func54, Tryd.ntmps54
  go_wp2
  go_ret
  exact ⟨rfl, HBA.out⟩
theorem rd_mem (l : List Mem) (i : Nat) (y : Mem) (h : l[i]? = some y) : rd_T46 l (i : Int) = y := by
 unfold rd_T46
 rw [Int.toNat_natCast, List.getD_eq_getElem?_getD, h]
 rfl
theorem indexM_calls (A : Option Addr) (cap : Nat) (l : List Mem) (b : Nat) (who : Int) (w : World) (hC : Kd.C k46 w A l.length l) (hm : l.length ≤ 1000000) (hb : w.cell? ⟨b, 0, none⟩ = some (.int .i64 who)) :
  Calls Tryd.prog 87 #[.slice A l.length cap, .func (.func 54) #[] #[.pointer (some ⟨b, 0, none⟩)]] w fun e w' => ∃ r : Int, e = .returned (.int .i64 r) ∧ decide (0 ≤ r) = l.any (isM who) ∧ Below w.heap.size w w' := by
 have HC := Aside0.mk hC
 have HM := Aside0.mk hm
 have HW := Aside0.mk hb
 have hlt0 : b < w.heap.size := World.block_lt_of_cell? w ⟨b, 0, none⟩ hb
 have HLB := Aside0.mk hlt0
 clear hC hm hb hlt0
 go_enter Tryd.func87, Tryd.ntmps87
 go_wp2
 go_loopg [8] l.length (fun gk i wr => ∃ k : Nat, k ≤ l.length ∧ i = .int .i64 (k : Int) ∧ Aside0 (gk = l.length - k) ∧ Aside0 (Below w.heap.size w wr) ∧ Aside0 ((l.take k).any (isM who) = false))
 case atStart => exact ⟨0, Nat.zero_le _, rfl, ⟨rfl⟩, ⟨Below.refl _ _⟩, ⟨rfl⟩⟩
 case round =>
  obtain ⟨k, hk, rfl, HG, HB, HK⟩ := hrel
  by_cases hlt : k < l.length
  ·have q1 : decide (k < l.length) = true := decide_eq_true hlt
   obtain ⟨ad, hA, c0, c1, c2⟩ := at_T46 (Kd.C_below HC.out HB.out) (k : Int) (by omega) (by omega)
   subst hA
   have hx := List.getElem?_eq_getElem hlt
   generalize l[k] = m at hx
   rw [rd_mem l k m hx] at c0 c1 c2
   rw [Int.toNat_natCast] at c0 c1 c2
   have e5 := eq_true hlt
   have HLT := Aside0.mk hlt
   have w1 : wrap64 ((k : Int) + 1) = ((k + 1 : Nat) : Int) := by have := HM.out; unfold wrap64; omega
   obtain ⟨bb, hbb⟩ : ∃ z, isM who m = z := ⟨_, rfl⟩
   have hbc := isM_calls b who m wr ((HB.out.cell (p := ⟨b, 0, none⟩) HLB.out).trans HW.out)
   rw [hbb] at hbc
   have HBC := Aside0.mk hbc
   have htk : (l.take (k + 1)).any (isM who) = bb := by
    rw [List.take_add_one, hx, List.any_append, HK.out]
    simp [hbb]
   have HTK := Aside0.mk htk
   clear hk hlt hx hbc hbb htk
   cases bb
   ·go_wp2_with (fail)
    refine HBC.out.mono ?_
    rintro e w' ⟨rfl, hb⟩
    have HB2 := Aside0.mk (below_then HB.out HB.out.size hb)
    clear hb c0 c1 c2
    go_wp2_with (fail)
    go_roundg (l.length - (k + 1))
    case measure => have := HG.out; have := HLT.out; omega
    case rel => exact ⟨k + 1, HLT.out, by go_num, ⟨rfl⟩, HB2, HTK⟩
   ·go_wp2_with (fail)
    refine HBC.out.mono ?_
    rintro e w' ⟨rfl, hb⟩
    have HB2 := Aside0.mk (below_then HB.out HB.out.size hb)
    clear hb c0 c1 c2
    go_wp2_with (fail)
    go_ret
    refine ⟨_, rfl, ?_, HB2.out⟩
    have : l.any (isM who) = true := by
     rw [← List.take_append_drop (k + 1) l, List.any_append, HTK.out]
     rfl
    rw [this]
    exact decide_eq_true (by omega)
  ·have q1 : decide (k < l.length) = false := decide_eq_false hlt
   have HE : Aside0 (l.any (isM who) = false) := ⟨by have := HK.out; rwa [List.take_of_length_le (by omega)] at this⟩
   clear hk hlt
   go_wp2_with (fail)
   go_ret
   exact ⟨_, rfl, by rw [HE.out]; rfl, HB.out⟩
def group_In.f (a0_0 : Int) (l0_1 : List Mem) (a0_2 : Int) (a1 : Int) : Option Bool := if l0_1.length ≤ 1000000 then some (l0_1.any (isM a1)) else none
theorem group_In.calls (a0_0 : Int) (A0_1 : Option Addr) (c0_1 : Nat) (l0_1 : List Mem) (a0_2 : Int) (a1 : Int) (r : Bool) (w : World) (hr0_1 : Kd.C k46 w A0_1 l0_1.length l0_1) (hc0_1 : l0_1.length ≤ c0_1) (h : group_In.f a0_0 l0_1 a0_2 a1 = some r) :
  Calls Tryd.prog 23 #[.agg #[.int .i64 a0_0, .slice A0_1 l0_1.length c0_1, .int .i64 a0_2], .int .i64 a1] w fun e w' => e = .returned (.bool r) ∧ Below w.heap.size w w' := by
 unfold group_In.f at h
 by_cases hm : l0_1.length ≤ 1000000
 ·rw [if_pos hm] at h
  cases h
  have hba := below_alloc (below_alloc (Below.refl w.heap.size w) (.cells #[.int .i64 a0_0, .slice A0_1 l0_1.length c0_1, .int .i64 a0_2] 24)) (.cells #[.int .i64 a1] 3)
  have hsz : (w.alloc (.cells #[.int .i64 a0_0, .slice A0_1 l0_1.length c0_1, .int .i64 a0_2] 24)).heap.size = w.heap.size + 1 := Array.size_push _
  have HI := Aside0.mk (fun (b : Nat) (W : World) (hW : W.cell? ⟨b, 0, none⟩ = some (.int .i64 a1)) (hCW : Kd.C k46 W A0_1 l0_1.length l0_1) => indexM_calls A0_1 c0_1 l0_1 b a1 W hCW hm hW)
  have HCF : Aside0 (∀ (b : Nat) (W : World), W.cell? ⟨b, 0, none⟩ = some (.int .i64 a1) → Kd.C k46 W A0_1 l0_1.length l0_1 → Calls Tryd.prog 53 #[.slice A0_1 l0_1.length c0_1, .func (.func 54) #[] #[.pointer (some ⟨b, 0, none⟩)]] W fun e w' => e = .returned (.bool (l0_1.any (isM a1))) ∧ Below W.heap.size W w') := ⟨by
   intro b W hW hCW
   have HW := Aside0.mk (HI.out b W hW hCW)
   clear hW hCW hr0_1 hm hba hsz
   go_enter Tryd.func53, Tryd.ntmps53
   go_wp2_with (fail)
   refine HW.out.mono ?_
   rintro e w' ⟨r, rfl, hr, hb⟩
   have HR := Aside0.mk hr
   have HB := Aside0.mk hb
   clear hr hb
   generalize hd : decide (0 ≤ r) = z at HR
   go_wp2_with (fail)
   go_ret
   exact ⟨by rw [← HR.out]; rfl, HB.out⟩⟩
  have HBA := Aside0.mk hba
  have HC2 := Aside0.mk (Kd.C_below hr0_1 hba)
  have HN : Aside0 (((w.alloc (.cells #[.int .i64 a0_0, .slice A0_1 l0_1.length c0_1, .int .i64 a0_2] 24)).alloc (.cells #[.int .i64 a1] 3)).cell? ⟨w.heap.size + 1, 0, none⟩ = some (.int .i64 a1)) := ⟨by rw [← hsz]; rw [cell_of_row _ _ _ _ _ _ (heap_alloc_new _ _)]; rfl⟩
  clear hr0_1 hm hba hsz HI
  generalize l0_1.any (isM a1) = z at HCF ⊢
  go_enter Tryd.func23, Tryd.ntmps23
  go_wp2_with (fail)
  refine (HCF.out _ _ HN.out HC2.out).mono ?_
  rintro e w' ⟨rfl, hb⟩
  have HB := Aside0.mk (below_then HBA.out HBA.out.size hb)
  clear hb
  go_wp2_with (fail)
  go_ret
  exact ⟨rfl, HB.out⟩
 ·rw [if_neg hm] at h
  cases h
end Go.Proofs.YthemhfloablccaaDoor.Pr
end

section
namespace Go.Proofs.YthemhfloablccaaDoor.Pr
open Go.RowKit Go.Deep Go.Proofs.YthemhfloablccaaDoorW.PrintWords Go.Proofs.YthemhfloablccaaDoorW.PrintLast Go.Proofs.YthemhfloablccaaDoorW.PrintMore
set_option maxHeartbeats 4000000
def memC (m : Mem) : List Value := [.int .i64 m.f0, .int .i64 m.f1, .bool m.f2]
def MemAt (g cap : Nat) (l : List Mem) (w : World) : Prop :=
 ∃ cs : Array Value, w.heap[g]? = some (.cells cs 46 (0, 0)) ∧ cs.size = cap * 3 ∧ l.length ≤ cap ∧ cap ≤ maxLen ∧ ∀ i m, l[i]? = some m → (cs.toList.drop (i * 3)).take 3 = memC m
theorem MemAt.R {g cap : Nat} {l : List Mem} {w : World} (h : MemAt g cap l w) (base : Nat) (hb : base ≤ g) (ok : Nat → Prop) (hk : ok g) : Kd.R k46 46 w base ok (.slice (some ⟨g, 0, none⟩) l.length cap) l := by
  obtain ⟨cs, hh, hs, hl, hm, hc⟩ := h
  have hsz : cs.toList.length = cap * 3 := by simpa using hs
  refine ⟨fun k hk' => by have : g = k := by simpa [Value.ownBlock] using hk'
                          subst this; exact hk, cs.toList.take (l.length * 3), ⟨?_, .inr ⟨g, cap, cs, rfl, hb, hh, hl, hm, hs, rfl⟩⟩, ?_, ?_⟩
  · rw [List.length_take, hsz]
    exact Nat.min_eq_left (Nat.mul_le_mul_right 3 hl)
  · show (cs.toList.take (l.length * 3)).length = l.length * 3
    rw [List.length_take, hsz]
    exact Nat.min_eq_left (Nat.mul_le_mul_right 3 hl)
  · intro j p hj
    have hlt : j < l.length := (List.getElem?_eq_some_iff.1 hj).1
    have e : (List.drop (j * 3) (List.take (l.length * 3) cs.toList)).take 3 = memC p := by
      rw [List.drop_take, List.take_take, Nat.min_eq_left (by omega)]
      exact hc j p hj
    show k46.M w base _ p ((List.drop (j * 3) (List.take (l.length * 3) cs.toList)).take 3)
    rw [e]
    exact k46_mkM _ _ _ p
theorem MemAt.of_R {w : World} {base : Nat} {ok : Nat → Prop} {v : Value} {l : List Mem} (h : Kd.R k46 46 w base ok v l) (hn : 0 < l.length) : ∃ g cap, v = .slice (some ⟨g, 0, none⟩) l.length cap ∧ base ≤ g ∧ MemAt g cap l w := by
 obtain ⟨_, inner, ⟨hlen, ho⟩, hr⟩ := h
 rcases ho with ⟨_, h0⟩ | ⟨g, cap, cur, rfl, hg, hh, hl, hm, hs, ht⟩
 ·omega
 ·refine ⟨g, cap, rfl, hg, cur, hh, hs, hl, hm, fun i m hi => ?_⟩
  have hlt : i < l.length := (List.getElem?_eq_some_iff.1 hi).1
  have hM := k46_openM (hr.2 i m hi)
  have ht' : List.take (l.length * 3) cur.toList = inner := ht
  rw [← ht'] at hM
  have hM' : ((List.take (l.length * 3) cur.toList).drop (i * 3)).take 3 = memC m := hM
  rw [List.drop_take, List.take_take, Nat.min_eq_left (by omega)] at hM'
  exact hM'
theorem MemAt.cell {g cap : Nat} {l : List Mem} {w : World} (h : MemAt g cap l w) (i : Nat) (m : Mem) (hi : l[i]? = some m) :
  w.cell? ⟨g, i * 3, none⟩ = some (.int .i64 m.f0) ∧ w.cell? ⟨g, i * 3 + 1, none⟩ = some (.int .i64 m.f1) ∧ w.cell? ⟨g, i * 3 + 2, none⟩ = some (.bool m.f2) := by
 obtain ⟨cs, hh, hs, hl, hm, hc⟩ := h
 have hM := hc i m hi
 have hg : ∀ j, j < 3 → cs[i * 3 + j]? = (memC m)[j]? := by
  intro j hj
  rw [← hM, List.getElem?_take_of_lt hj, List.getElem?_drop, ← Array.getElem?_toList]
 refine ⟨?_, ?_, ?_⟩
 ·rw [cell_of_row _ _ _ _ _ _ hh]; exact hg 0 (by omega)
 ·rw [cell_of_row _ _ _ _ _ _ hh]; exact hg 1 (by omega)
 ·rw [cell_of_row _ _ _ _ _ _ hh]; exact hg 2 (by omega)
theorem MemAt.below {g cap : Nat} {l : List Mem} {w w' : World} (h : MemAt g cap l w) (hb : Below w.heap.size w w') : MemAt g cap l w' := by
 obtain ⟨cs, hh, r⟩ := h
 exact ⟨cs, blk_below hh hb, r⟩
theorem MemAt.far {g cap : Nat} {l : List Mem} {w : World} (h : MemAt g cap l w) {p : Nat} (hp : g ≠ p) (j : Nat) (u : Value) : MemAt g cap l (w.setCell ⟨p, j, none⟩ u) := by
 obtain ⟨cs, hh, r⟩ := h
 exact ⟨cs, (Below.heap_setCell w ⟨p, j, none⟩ u g hp).trans hh, r⟩
theorem MemAt.set {g cap : Nat} {l : List Mem} {w : World} (h : MemAt g cap l w) (i j : Nat) (hj : j < 3) (m m' : Mem) (u : Value) (hi : l[i]? = some m) (hu : (memC m).set j u = memC m') : MemAt g cap (l.set i m') (w.setCell ⟨g, i * 3 + j, none⟩ u) := by
 obtain ⟨cs, hh, hs, hl, hm, hc⟩ := h
 have hlt : i < l.length := (List.getElem?_eq_some_iff.1 hi).1
 refine ⟨_, blk_put hh (i * 3 + j) u rfl, by rw [Array.size_setIfInBounds]; exact hs, by rw [List.length_set]; exact hl, hm, fun k p hk => ?_⟩
 rw [Array.toList_setIfInBounds]
 by_cases e : k = i
 ·subst e
  rw [List.getElem?_set_self hlt] at hk
  cases hk
  rw [← hu, ← hc k m hi, List.drop_set, if_neg (by omega), List.take_set, show k * 3 + j - k * 3 = j by omega]
 ·rw [List.getElem?_set_ne (fun q => e q.symm)] at hk
  rw [← hc k p hk]
  apply List.ext_getElem?
  intro q
  by_cases hq : q < 3
  ·rw [List.getElem?_take_of_lt hq, List.getElem?_take_of_lt hq, List.getElem?_drop, List.getElem?_drop, List.getElem?_set_ne (by omega)]
  ·rw [List.getElem?_take_eq_none (by omega), List.getElem?_take_eq_none (by omega)]
theorem R_empty (W : World) (base : Nat) (hb : base ≤ W.heap.size) (ok : Nat → Prop) (hk : ok W.heap.size) : Kd.R k46 46 (W.alloc (.cells #[] 46)) base ok (.slice (some ⟨W.heap.size, 0, none⟩) 0 0) [] :=
  ⟨fun k hk' => by have : W.heap.size = k := by simpa [Value.ownBlock] using hk'
                   subst this; exact hk, [], ⟨rfl, .inr ⟨W.heap.size, 0, #[], rfl, hb, heap_alloc_new W _, Nat.le_refl _, Nat.zero_le _, rfl, rfl⟩⟩, Reps.none _ _⟩
set_option maxRecDepth 100000 in
theorem clone_calls (ad : Addr) (cap : Nat) (l : List Mem) (w : World) (hC : Kd.C k46 w (some ad) l.length l) (h0 : 0 < l.length) (hm : l.length ≤ 1000000) :
  Calls Tryd.prog 47 #[.slice (some ad) l.length cap] w fun e w' => ∃ g c, e = .returned (.slice (some ⟨g, 0, none⟩) l.length c) ∧ w.heap.size ≤ g ∧ MemAt g c l w' ∧ Below w.heap.size w w' := by
 have HC := Aside0.mk hC
 have HM := Aside0.mk hm
 have H0 := Aside0.mk h0
 generalize hn : l.length = n at HC HM H0
 have hq : ∀ W, Sem.run Tryd.prog (binOp BinOp.eql 22 (Value.slice (some ad) n cap) (Value.slice none 0 0)) W = .ok (.bool false) W := fun W => by rfl
 clear hC hm h0
 go_enter Tryd.func47, Tryd.ntmps47
 go_wp2_with (first | ((with_reducible refine gate_builtin (b := .append) (xs := #[.tmp 5, .tmp 6]) rfl ?_); at_builtin; refine Kd.R_append_rows k46 (w0 := w) w.heap.size rfl (.tmp 5) (.tmp 6) 22 46 (.agg #[(.int .i64 0), (.int .i64 0), (.bool false)]) 24 rfl Tryd.underlying22 info46 rfl (by decide) (by omega) (.slice (some ⟨w.heap.size, 0, none⟩) 0 0) ([] : List Mem) l _ _ _ (fun _ => True) (fun _ => False) rfl rfl ?aO ?aR (fun _ _ h => h) (fun _ h => h.elim) (fun _ _ => trivial) ?aB ?aS ?aL ?_; (case aO => exact R_empty w w.heap.size (Nat.le_refl _) (fun _ => True) trivial); (case aR => exact Kd.C_below HC.out (below_alloc (Below.refl _ _) _)); (case aB => exact below_alloc (Below.refl _ _) _); (case aS => exact below_size (below_alloc (Below.refl w.heap.size w) _)); (case aL => have := HM.out; simp only [List.length_nil]; omega); intro v1 w1 hr hb hg hat; rw [List.nil_append] at hr; obtain ⟨g, c, rfl, hge, hM1⟩ := MemAt.of_R hr (by rw [hn]; exact H0.out); have HE := Aside0.mk (show w.heap.size ≤ g ∧ MemAt g c l w1 ∧ Below w.heap.size w w1 from ⟨hge, hM1, hb⟩); clear hr hb hg hat hge hM1))
 go_ret
 exact ⟨g, c, rfl, HE.out⟩
def inM (l : List Mem) (k : Nat) (b : Bool) : List Mem := match l[k]? with | some m => l.set k { m with f2 := b } | none => l
def doesM (E : Int) (l : List Mem) (O ep kind frm who : Int) : Int × List Mem × Int × Bool :=
 if l.any (isM frm) = false then (E, l, O, false)
 else if kind = 1 then (if O < 500 then (E, l, O + 1, true) else (E, l, O, false))
 else if frm ≠ 1 ∨ ep ≠ E ∨ 1099511627775 ≤ E then (E, l, O, false)
 else if kind = 2 then (if l.any (isM who) = true then (E, l, O, false) else (E + 1, inM l (who - 1).toNat true, O, true))
 else if kind = 3 then (if who = 1 ∨ l.any (isM who) = false then (E, l, O, false) else (E + 1, inM l (who - 1).toNat false, O, true))
 else (E + 1, l, O, true)
def GrpAt (w0 : World) (gb g cap ob : Nat) (ov : Obj) (E : Int) (l : List Mem) (O : Int) (w : World) : Prop :=
 Below w0.heap.size w0 w ∧ w.heap[gb]? = some (.cells #[.int .i64 E, .slice (some ⟨g, 0, none⟩) l.length cap, .int .i64 O] 24 (0, 0)) ∧ MemAt g cap l w ∧ w0.heap.size ≤ gb ∧ w0.heap.size ≤ g ∧ gb ≠ g ∧ w.heap[ob]? = some ov ∧ ob ≠ gb ∧ ob ≠ g
section
variable {w0 w w' : World} {gb g cap ob : Nat} {ov : Obj} {E O : Int} {l : List Mem}
theorem GrpAt.below (h : GrpAt w0 gb g cap ob ov E l O w) (hb : Below w.heap.size w w') : GrpAt w0 gb g cap ob ov E l O w' :=
 ⟨below_then h.1 h.1.size hb, blk_below h.2.1 hb, h.2.2.1.below hb, h.2.2.2.1, h.2.2.2.2.1, h.2.2.2.2.2.1, blk_below h.2.2.2.2.2.2.1 hb, h.2.2.2.2.2.2.2⟩
theorem GrpAt.setE (h : GrpAt w0 gb g cap ob ov E l O w) (E' : Int) : GrpAt w0 gb g cap ob ov E' l O (w.setCell ⟨gb, 0, none⟩ (.int .i64 E')) :=
 ⟨below_set h.1 h.2.2.2.1, blk_put h.2.1 0 _ rfl, h.2.2.1.far h.2.2.2.2.2.1.symm 0 _, h.2.2.2.1, h.2.2.2.2.1, h.2.2.2.2.2.1, (Below.heap_setCell _ _ _ _ h.2.2.2.2.2.2.2.1).trans h.2.2.2.2.2.2.1, h.2.2.2.2.2.2.2⟩
theorem GrpAt.setO (h : GrpAt w0 gb g cap ob ov E l O w) (O' : Int) : GrpAt w0 gb g cap ob ov E l O' (w.setCell ⟨gb, 2, none⟩ (.int .i64 O')) :=
 ⟨below_set h.1 h.2.2.2.1, blk_put h.2.1 2 _ rfl, h.2.2.1.far h.2.2.2.2.2.1.symm 2 _, h.2.2.2.1, h.2.2.2.2.1, h.2.2.2.2.2.1, (Below.heap_setCell _ _ _ _ h.2.2.2.2.2.2.2.1).trans h.2.2.2.2.2.2.1, h.2.2.2.2.2.2.2⟩
theorem GrpAt.setM (h : GrpAt w0 gb g cap ob ov E l O w) (i j : Nat) (hj : j < 3) (m m' : Mem) (u : Value) (hi : l[i]? = some m) (hu : (memC m).set j u = memC m') : GrpAt w0 gb g cap ob ov E (l.set i m') O (w.setCell ⟨g, i * 3 + j, none⟩ u) :=
 ⟨below_set h.1 h.2.2.2.2.1, by rw [List.length_set]; exact blk_far h.2.1 h.2.2.2.2.2.1 _, h.2.2.1.set i j hj m m' u hi hu, h.2.2.2.1, h.2.2.2.2.1, h.2.2.2.2.2.1, (Below.heap_setCell _ _ _ _ h.2.2.2.2.2.2.2.2).trans h.2.2.2.2.2.2.1, h.2.2.2.2.2.2.2⟩
theorem GrpAt.cells (h : GrpAt w0 gb g cap ob ov E l O w) : w.cell? ⟨gb, 0, none⟩ = some (.int .i64 E) ∧ w.cell? ⟨gb, 1, none⟩ = some (.slice (some ⟨g, 0, none⟩) l.length cap) ∧ w.cell? ⟨gb, 2, none⟩ = some (.int .i64 O) :=
 ⟨(blk_cell h.2.1 0).trans rfl, (blk_cell h.2.1 1).trans rfl, (blk_cell h.2.1 2).trans rfl⟩
theorem GrpAt.C (h : GrpAt w0 gb g cap ob ov E l O w) : Kd.C k46 w (some ⟨g, 0, none⟩) l.length l := by
 obtain ⟨A, c, e, _, hc⟩ := Kd.R_reads (h.2.2.1.R 0 (Nat.zero_le _) (fun _ => True) trivial)
 cases e
 exact hc
theorem GrpAt.room (h : GrpAt w0 gb g cap ob ov E l O w) : l.length ≤ cap := by
 obtain ⟨cs, _, _, hl, _⟩ := h.2.2.1
 exact hl
theorem in_at (h : GrpAt w0 gb g cap ob ov E l O w) (hm : l.length ≤ 1000000) (who : Int) :
  Calls Tryd.prog 23 #[.agg #[.int .i64 E, .slice (some ⟨g, 0, none⟩) l.length cap, .int .i64 O], .int .i64 who] w fun e w' => e = .returned (.bool (l.any (isM who))) ∧ GrpAt w0 gb g cap ob ov E l O w' ∧ Below w.heap.size w w' := by
 refine (group_In.calls E (some ⟨g, 0, none⟩) cap l O who _ w h.C h.room (if_pos hm)).mono ?_
 rintro e w' ⟨rfl, hb⟩
 exact ⟨rfl, h.below hb, hb⟩
end
abbrev RecV (kind frm count seq : Int) (head : ByteArray) (o0 o1 o2 o3 o4 o5 o6 : Int) (o7 o8 : ByteArray) (who : Int) (wv : Value) : Array Value :=
 #[.int .i64 kind, .int .i64 frm, .int .i64 count, .int .i64 seq, .string head, .int .i64 o0, .int .i64 o1, .int .i64 o2, .int .i64 o3, .int .i64 o4, .int .i64 o5, .int .i64 o6, .string o7, .string o8, .int .i64 who, wv]
end Go.Proofs.YthemhfloablccaaDoor.Pr
end

section
namespace Go.Proofs.YthemhfloablccaaDoor.Pr
open Go.RowKit Go.Deep Go.Proofs.YthemhfloablccaaDoorW.PrintWords Go.Proofs.YthemhfloablccaaDoorW.PrintLast Go.Proofs.YthemhfloablccaaDoorW.PrintMore
set_option maxHeartbeats 4000000
def DAt (w0 : World) (gb g cap ob : Nat) (ov : Obj) (E : Int) (l : List Mem) (O : Int) (rb : Nat) (rv : Array Value) (w : World) : Prop :=
 GrpAt w0 gb g cap ob ov E l O w ∧ w.heap[rb]? = some (.cells rv 31 (0, 0))
section
variable {w0 w w' : World} {gb g cap rb ob : Nat} {ov : Obj} {E O : Int} {l : List Mem} {rv : Array Value}
theorem DAt.below (h : DAt w0 gb g cap ob ov E l O rb rv w) (hb : Below w.heap.size w w') : DAt w0 gb g cap ob ov E l O rb rv w' := ⟨h.1.below hb, blk_below h.2 hb⟩
theorem DAt.frozen (h : DAt w0 gb g cap ob ov E l O rb rv w) : w.frozen? ⟨gb, 0, none⟩ = false ∧ w.frozen? ⟨gb, 2, none⟩ = false ∧ ∀ j, w.frozen? ⟨g, j, none⟩ = false := by
 refine ⟨blk_frozen h.1.2.1 0, blk_frozen h.1.2.1 2, fun j => ?_⟩
 obtain ⟨cs, hh, _⟩ := h.1.2.2.1
 exact blk_frozen hh j
end
section
variable {w0 w : World} {gb g cap rb ob : Nat} {ov : Obj} {E O : Int} {l : List Mem} {kind frm count seq : Int} {head : ByteArray} {o0 o1 o2 o3 o4 o5 o6 : Int} {o7 o8 : ByteArray} {who : Int} {wv : Value}
theorem DAt.cells (h : DAt w0 gb g cap ob ov E l O rb (RecV kind frm count seq head o0 o1 o2 o3 o4 o5 o6 o7 o8 who wv) w) :
  w.cell? ⟨gb, 0, none⟩ = some (.int .i64 E) ∧ w.cell? ⟨gb, 1, none⟩ = some (.slice (some ⟨g, 0, none⟩) l.length cap) ∧ w.cell? ⟨gb, 2, none⟩ = some (.int .i64 O) ∧
  w.cell? ⟨rb, 0, none⟩ = some (.int .i64 kind) ∧ w.cell? ⟨rb, 1, none⟩ = some (.int .i64 frm) ∧ w.cell? ⟨rb, 14, none⟩ = some (.int .i64 who) :=
 ⟨h.1.cells.1, h.1.cells.2.1, h.1.cells.2.2, (blk_cell h.2 0).trans rfl, (blk_cell h.2 1).trans rfl, (blk_cell h.2 14).trans rfl⟩
end
set_option maxRecDepth 100000 in
theorem does_calls (w0 : World) (gb g cap ob : Nat) (ov : Obj) (E O ep : Int) (l : List Mem) (kind frm count seq : Int) (head : ByteArray) (o0 o1 o2 o3 o4 o5 o6 : Int) (o7 o8 : ByteArray) (who : Int) (wv : Value) (w : World)
  (hG : GrpAt w0 gb g cap ob ov E l O w) (hl : l.length = 6) (hE : 1 ≤ E ∧ E ≤ 1099511627775) (hO : 0 ≤ O ∧ O ≤ 500) (hw : kind = 2 ∨ kind = 3 → 1 ≤ who ∧ who ≤ 6) (hk : 1 ≤ kind ∧ kind ≤ 4) :
  Calls Tryd.prog 48 #[.pointer (some ⟨gb, 0, none⟩), .int .i64 ep, .agg (RecV kind frm count seq head o0 o1 o2 o3 o4 o5 o6 o7 o8 who wv)] w fun e w' =>
   e = .returned (.bool (doesM E l O ep kind frm who).2.2.2) ∧ GrpAt w0 gb g cap ob ov (doesM E l O ep kind frm who).1 (doesM E l O ep kind frm who).2.1 (doesM E l O ep kind frm who).2.2.1 w' := by
 have HG := Aside0.mk hG
 have hm : l.length ≤ 1000000 := by omega
 have HI := Aside0.mk (fun (W : World) (h : GrpAt w0 gb g cap ob ov E l O W) (x : Int) => in_at h hm x)
 have HL := Aside0.mk hl
 have HE := Aside0.mk hE
 have HO := Aside0.mk hO
 have HW := Aside0.mk hw
 have HK := Aside0.mk hk
 have HD0 := Aside0.mk (show DAt w0 gb g cap ob ov E l O w.heap.size (RecV kind frm count seq head o0 o1 o2 o3 o4 o5 o6 o7 o8 who wv) (w.alloc (.cells (RecV kind frm count seq head o0 o1 o2 o3 o4 o5 o6 o7 o8 who wv) 31)) from ⟨hG.below (below_alloc (Below.refl _ _) _), heap_alloc_new w _⟩)
 clear hm hG hl hE hO hw HG hk
 go_enter Tryd.func48, Tryd.ntmps48
 go_upto_block 0 with (fail)
 generalize w.alloc (.cells (RecV kind frm count seq head o0 o1 o2 o3 o4 o5 o6 o7 o8 who wv) 31) = w1 at HD0 ⊢
 generalize w.heap.size = rb at HD0 ⊢
 go_cut [7] (fun s wx => Aside0 (frm = 1 ∧ ep = E ∧ E < 1099511627775 ∧ kind ≠ 1 ∧ ¬ (l.any (isM frm) = false) ∧ (kind = 2 → l.any (isM who) = false) ∧ (kind = 3 → who ≠ 1 ∧ l.any (isM who) = true)) ∧ Aside0 (DAt w0 gb g cap ob ov E l O rb (RecV kind frm count seq head o0 o1 o2 o3 o4 o5 o6 o7 o8 who wv) wx))
 case first =>
  go_upto_region 1 with (fail)
  go_cut [7] (fun s wx => s = .bool (!(l.any (isM frm))) ∧ Aside0 (DAt w0 gb g cap ob ov E l O rb (RecV kind frm count seq head o0 o1 o2 o3 o4 o5 o6 o7 o8 who wv) wx))
  case first =>
   obtain ⟨x0, x1, x2, y0, y1, y2⟩ := HD0.out.cells
   have HDD := Aside0.mk (HD0.out.below (below_drew1 (Below.refl _ _)))
   have HGG := Aside0.mk HDD.out.1
   go_region_held3 (fun w' => w'.cell? ⟨gb, 0, none⟩ = some (.int .i64 E) ∧ w'.cell? ⟨gb, 1, none⟩ = some (.slice (some ⟨g, 0, none⟩) l.length cap) ∧ w'.cell? ⟨gb, 2, none⟩ = some (.int .i64 O) ∧ w'.cell? ⟨rb, 1, none⟩ = some (.int .i64 frm))
    (first | go_keep | exact ⟨x0, x1, x2, y1⟩)
    (first | (go_at_call 23; (with_reducible refine (HI.out _ HGG.out frm).mono ?_); rintro e2 w2 ⟨rfl, hg2, hb2⟩; have HD2 := Aside0.mk (HDD.out.below hb2); clear hg2 hb2 x0 x1 x2 y0 y1 y2; obtain ⟨x0, x1, x2, y0, y1, y2⟩ := HD2.out.cells))
   go_wp2_with (fail)
   go_meet
   exact ⟨rfl, HD2⟩
  case rest =>
   obtain ⟨rfl, HD⟩ := hcut
   clear HD0
   obtain ⟨x0, x1, x2, y0, y1, y2⟩ := HD.out.cells
   cases hi : l.any (isM frm)
   ·have hv : doesM E l O ep kind frm who = (E, l, O, false) := by unfold doesM; rw [if_pos hi]
    have HV := Aside0.mk hv
    clear hv hi
    go_wp2_with (fail)
    go_ret
    (rw [HV.out]; exact ⟨rfl, HD.out.1⟩)
   ·have hi' : ¬ (l.any (isM frm) = false) := by rw [hi]; decide
    by_cases h1 : kind = 1
    ·subst h1
     by_cases hO : O < 500
     ·have hv : doesM E l O ep 1 frm who = (E, l, O + 1, true) := by unfold doesM; rw [if_neg hi', if_pos rfl, if_pos hO]
      have HV := Aside0.mk hv
      have d1 : decide (O < 500) = true := decide_eq_true hO
      have e1 : wrap64 (O + 1) = O + 1 := by have := HO.out; unfold wrap64; omega
      obtain ⟨z0, z1, z2⟩ := HD.out.frozen
      have HF := Aside0.mk (HD.out.1.setO (O + 1))
      clear hv hi hi' hO z2
      go_wp2_with (fail)
      go_ret
      (rw [HV.out]; exact ⟨rfl, HF.out⟩)
     ·have hv : doesM E l O ep 1 frm who = (E, l, O, false) := by unfold doesM; rw [if_neg hi', if_pos rfl, if_neg hO]
      have HV := Aside0.mk hv
      have d1 : decide (O < 500) = false := decide_eq_false hO
      clear hv hi hi' hO
      go_wp2_with (fail)
      go_ret
      (rw [HV.out]; exact ⟨rfl, HD.out.1⟩)
    ·have d1 : (kind == 1) = false := beq_eq_false_iff_ne.2 h1
     by_cases hc : frm ≠ 1 ∨ ep ≠ E ∨ 1099511627775 ≤ E
     ·have hv : doesM E l O ep kind frm who = (E, l, O, false) := by unfold doesM; rw [if_neg hi', if_neg h1, if_pos hc]
      have HV := Aside0.mk hv
      clear hv
      by_cases h2 : frm = 1
      ·have d2 : (frm != 1) = false := by rw [h2]; rfl
       by_cases h3 : ep = E
       ·have d3 : (ep != E) = false := by rw [h3]; exact bne_self_eq_false E
        have d4 : decide (1099511627775 ≤ E) = true := decide_eq_true (by omega)
        clear hc h1 h2 h3 hi hi'
        go_wp2_with (fail)
        go_ret
        (rw [HV.out]; exact ⟨rfl, HD.out.1⟩)
       ·have d3 : (ep != E) = true := bne_iff_ne.2 h3
        clear hc h1 h2 h3 hi hi'
        go_wp2_with (fail)
        go_ret
        (rw [HV.out]; exact ⟨rfl, HD.out.1⟩)
      ·have d2 : (frm != 1) = true := bne_iff_ne.2 h2
       clear hc h1 h2 hi hi'
       go_wp2_with (fail)
       go_ret
       (rw [HV.out]; exact ⟨rfl, HD.out.1⟩)
     ·obtain ⟨h2, h3, h4⟩ : frm = 1 ∧ ep = E ∧ E < 1099511627775 := by omega
      subst h2 h3
      have d4 : decide (1099511627775 ≤ ep) = false := decide_eq_false (by omega)
      have e1 : wrap64 (ep + 1) = ep + 1 := by have := HE.out; unfold wrap64; omega
      have D1 := Aside0.mk d1
      have HC := Aside0.mk hc
      have H1 := Aside0.mk h1
      have HI1 := Aside0.mk hi'
      have E1 := Aside0.mk e1
      have HX := Aside0.mk h4
      have HIW := Aside0.mk (fun W h => HI.out W h who)
      clear hc h1 hi hi' h4 e1
      go_upto_region 8 with (fail)
      clear d4
      by_cases k2 : kind = 2
      ·subst k2
       cases hi2 : l.any (isM who)
       ·have I2 := Aside0.mk hi2
        rw [hi2] at HIW
        clear hi2
        have HDD := Aside0.mk (HD.out.below (below_drew1 (Below.refl _ _)))
        have HGG := Aside0.mk HDD.out.1
        go_region_held3 (fun w' => w'.cell? ⟨gb, 0, none⟩ = some (.int .i64 ep) ∧ w'.cell? ⟨gb, 1, none⟩ = some (.slice (some ⟨g, 0, none⟩) l.length cap) ∧ w'.cell? ⟨gb, 2, none⟩ = some (.int .i64 O) ∧ w'.cell? ⟨rb, 0, none⟩ = some (.int .i64 2) ∧ w'.cell? ⟨rb, 14, none⟩ = some (.int .i64 who))
         (first | go_keep | exact ⟨x0, x1, x2, y0, y2⟩)
         (first | (go_at_call 23; (with_reducible refine (HIW.out _ HGG.out).mono ?_); rintro e2 w2 ⟨rfl, hg2, hb2⟩; have HD2 := Aside0.mk (HDD.out.below hb2); clear hg2 hb2 x0 x1 x2 y0 y1 y2; obtain ⟨x0, x1, x2, y0, y1, y2⟩ := HD2.out.cells))
        clear HDD HGG HD
        go_upto_region 9 with (fail)
        refine start_ (n := 18) (S := fun w' => w'.cell? ⟨rb, 0, none⟩ = some (.int .i64 2) ∧ w'.cell? ⟨rb, 14, none⟩ = some (.int .i64 who)) (ds := []) #[false, false, false, false, false, false, false, false, false, false, false, false, false, false, false, false, false, false] (by kernel_rfl) rfl rfl ⟨y0, y2⟩ (fun hHeld => ?_)
        refine pz_ 0 69 rfl rfl (by kernel_rfl) ?_
        refine take_ (i := 1) (N := some 70) (v := ?_) (a' := ?_) #[true, true, false, false, false, false, false, false, false, false, false, false, false, false, false, false, false, false] rfl rfl (by kernel_rfl) (fun _ _ _ h => h) (Or.inl ⟨by rfl, ?_⟩) hHeld ?_ ?_
        rotate_left
        ·rintro w' ⟨s0, s1⟩
         go_simp
         with_reducible rfl
        rotate_left
        ·simp only [Act.put, List.setIfInBounds_toArray, List.set_cons_zero, List.set_cons_succ, i64_w, i32_w]
         rfl
        refine pz_ 2 71 rfl rfl (by kernel_rfl) ?_
        refine pz_ 3 72 rfl rfl (by kernel_rfl) ?_
        refine pure_ (i := 4) (N := some 73) (v := undef) (a' := ?_) #[true, true, true, true, true, false, false, false, false, false, false, false, false, false, false, false, false, false] rfl rfl (by kernel_rfl) (fun _ _ _ h => h) (Or.inr ⟨by rfl, rfl⟩) ?_ ?_
        rotate_left
        ·simp only [Act.put, List.setIfInBounds_toArray, List.set_cons_zero, List.set_cons_succ, i64_w, i32_w]
         rfl
        refine pure_ (i := 5) (N := some 74) (v := undef) (a' := ?_) #[true, true, true, true, true, true, false, false, false, false, false, false, false, false, false, false, false, false] rfl rfl (by kernel_rfl) (fun _ _ _ h => h) (Or.inr ⟨by rfl, rfl⟩) ?_ ?_
        rotate_left
        ·simp only [Act.put, List.setIfInBounds_toArray, List.set_cons_zero, List.set_cons_succ, i64_w, i32_w]
         rfl
        refine pure_ (i := 6) (N := some 75) (v := undef) (a' := ?_) #[true, true, true, true, true, true, true, false, false, false, false, false, false, false, false, false, false, false] rfl rfl (by kernel_rfl) (fun _ _ _ h => h) (Or.inr ⟨by rfl, rfl⟩) ?_ ?_
        rotate_left
        ·simp only [Act.put, List.setIfInBounds_toArray, List.set_cons_zero, List.set_cons_succ, i64_w, i32_w]
         rfl
        refine pure_ (i := 7) (N := some 76) (v := undef) (a' := ?_) #[true, true, true, true, true, true, true, true, false, false, false, false, false, false, false, false, false, false] rfl rfl (by kernel_rfl) (fun _ _ _ h => h) (Or.inr ⟨by rfl, rfl⟩) ?_ ?_
        rotate_left
        ·simp only [Act.put, List.setIfInBounds_toArray, List.set_cons_zero, List.set_cons_succ, i64_w, i32_w]
         rfl
        refine pure_ (i := 8) (N := some 77) (v := undef) (a' := ?_) #[true, true, true, true, true, true, true, true, true, false, false, false, false, false, false, false, false, false] rfl rfl (by kernel_rfl) (fun _ _ _ h => h) (Or.inr ⟨by rfl, rfl⟩) ?_ ?_
        rotate_left
        ·simp only [Act.put, List.setIfInBounds_toArray, List.set_cons_zero, List.set_cons_succ, i64_w, i32_w]
         rfl
        refine pure_ (i := 9) (N := some 78) (v := undef) (a' := ?_) #[true, true, true, true, true, true, true, true, true, true, false, false, false, false, false, false, false, false] rfl rfl (by kernel_rfl) (fun _ _ _ h => h) (Or.inr ⟨by rfl, rfl⟩) ?_ ?_
        rotate_left
        ·simp only [Act.put, List.setIfInBounds_toArray, List.set_cons_zero, List.set_cons_succ, i64_w, i32_w]
         rfl
        refine pure_ (i := 10) (N := some 79) (v := undef) (a' := ?_) #[true, true, true, true, true, true, true, true, true, true, true, false, false, false, false, false, false, false] rfl rfl (by kernel_rfl) (fun _ _ _ h => h) (Or.inr ⟨by rfl, rfl⟩) ?_ ?_
        rotate_left
        ·simp only [Act.put, List.setIfInBounds_toArray, List.set_cons_zero, List.set_cons_succ, i64_w, i32_w]
         rfl
        refine pure_ (i := 11) (N := some 80) (v := undef) (a' := ?_) #[true, true, true, true, true, true, true, true, true, true, true, true, false, false, false, false, false, false] rfl rfl (by kernel_rfl) (fun _ _ _ h => h) (Or.inr ⟨by rfl, rfl⟩) ?_ ?_
        rotate_left
        ·simp only [Act.put, List.setIfInBounds_toArray, List.set_cons_zero, List.set_cons_succ, i64_w, i32_w]
         rfl
        refine pure_ (i := 12) (N := some 81) (v := undef) (a' := ?_) #[true, true, true, true, true, true, true, true, true, true, true, true, true, false, false, false, false, false] rfl rfl (by kernel_rfl) (fun _ _ _ h => h) (Or.inr ⟨by rfl, rfl⟩) ?_ ?_
        rotate_left
        ·simp only [Act.put, List.setIfInBounds_toArray, List.set_cons_zero, List.set_cons_succ, i64_w, i32_w]
         rfl
        refine pure_ (i := 13) (N := some 82) (v := undef) (a' := ?_) #[true, true, true, true, true, true, true, true, true, true, true, true, true, true, false, false, false, false] rfl rfl (by kernel_rfl) (fun _ _ _ h => h) (Or.inr ⟨by rfl, rfl⟩) ?_ ?_
        rotate_left
        ·simp only [Act.put, List.setIfInBounds_toArray, List.set_cons_zero, List.set_cons_succ, i64_w, i32_w]
         rfl
        refine pure_ (i := 14) (N := some 83) (v := undef) (a' := ?_) #[true, true, true, true, true, true, true, true, true, true, true, true, true, true, true, false, false, false] rfl rfl (by kernel_rfl) (fun _ _ _ h => h) (Or.inr ⟨by rfl, rfl⟩) ?_ ?_
        rotate_left
        ·simp only [Act.put, List.setIfInBounds_toArray, List.set_cons_zero, List.set_cons_succ, i64_w, i32_w]
         rfl
        refine pure_ (i := 15) (N := some 84) (v := undef) (a' := ?_) #[true, true, true, true, true, true, true, true, true, true, true, true, true, true, true, true, false, false] rfl rfl (by kernel_rfl) (fun _ _ _ h => h) (Or.inr ⟨by rfl, rfl⟩) ?_ ?_
        rotate_left
        ·simp only [Act.put, List.setIfInBounds_toArray, List.set_cons_zero, List.set_cons_succ, i64_w, i32_w]
         rfl
        refine pz_ 16 85 rfl rfl (by kernel_rfl) ?_
        refine pz_ 17 57 rfl rfl (by kernel_rfl) ?_
        refine done_ (by kernel_rfl) ?_
        have HD3 := Aside0.mk (HD2.out.below (below_drew1 (Below.refl _ _)))
        clear x0 x1 x2 y0 y1 y2 HD2
        obtain ⟨x0, x1, x2, y0, y1, y2⟩ := HD3.out.cells
        go_wp2_with (fail)
        go_meet
        exact ⟨⟨trivial, trivial, HX.out, H1.out, HI1.out, fun _ => I2.out, fun q => absurd q (by decide)⟩, HD3⟩
       ·have hv : doesM ep l O ep 2 1 who = (ep, l, O, false) := by unfold doesM; rw [if_neg HI1.out, if_neg (by decide), if_neg HC.out, if_pos rfl, if_pos hi2]
        have HV := Aside0.mk hv
        rw [hi2] at HIW
        clear hv hi2
        have HDD := Aside0.mk (HD.out.below (below_drew1 (Below.refl _ _)))
        have HGG := Aside0.mk HDD.out.1
        go_region_held3 (fun w' => w'.cell? ⟨gb, 0, none⟩ = some (.int .i64 ep) ∧ w'.cell? ⟨gb, 1, none⟩ = some (.slice (some ⟨g, 0, none⟩) l.length cap) ∧ w'.cell? ⟨gb, 2, none⟩ = some (.int .i64 O) ∧ w'.cell? ⟨rb, 0, none⟩ = some (.int .i64 2) ∧ w'.cell? ⟨rb, 14, none⟩ = some (.int .i64 who))
         (first | go_keep | exact ⟨x0, x1, x2, y0, y2⟩)
         (first | (go_at_call 23; (with_reducible refine (HIW.out _ HGG.out).mono ?_); rintro e2 w2 ⟨rfl, hg2, hb2⟩; have HD2 := Aside0.mk (HDD.out.below hb2); clear hg2 hb2 x0 x1 x2 y0 y1 y2; obtain ⟨x0, x1, x2, y0, y1, y2⟩ := HD2.out.cells))
        clear HDD HGG HD
        go_wp2_with (fail)
        go_ret
        (rw [HV.out]; exact ⟨rfl, HD2.out.1⟩)
      ·have d2 : (kind == 2) = false := beq_eq_false_iff_ne.2 k2
       have d1 := D1.out
       refine start_ (n := 12) (S := fun w' => w'.cell? ⟨rb, 0, none⟩ = some (.int .i64 kind) ∧ w'.cell? ⟨rb, 14, none⟩ = some (.int .i64 who)) (ds := []) #[false, false, false, false, false, false, false, false, false, false, false, false] (by kernel_rfl) rfl rfl ⟨y0, y2⟩ (fun hHeld => ?_)
       refine pz_ 0 58 rfl rfl (by kernel_rfl) ?_
       refine take_ (i := 1) (N := some 59) (v := ?_) (a' := ?_) #[true, true, false, false, false, false, false, false, false, false, false, false] rfl rfl (by kernel_rfl) (fun _ _ _ h => h) (Or.inl ⟨by rfl, ?_⟩) hHeld ?_ ?_
       rotate_left
       ·rintro w' ⟨s0, s1⟩
        go_simp
        with_reducible rfl
       rotate_left
       ·simp only [Act.put, List.setIfInBounds_toArray, List.set_cons_zero, List.set_cons_succ, i64_w, i32_w]
        rfl
       refine pz_ 2 60 rfl rfl (by kernel_rfl) ?_
       refine pz_ 3 61 rfl rfl (by kernel_rfl) ?_
       refine pure_ (i := 4) (N := some 62) (v := undef) (a' := ?_) #[true, true, true, true, true, false, false, false, false, false, false, false] rfl rfl (by kernel_rfl) (fun _ _ _ h => h) (Or.inr ⟨by rfl, rfl⟩) ?_ ?_
       rotate_left
       ·simp only [Act.put, List.setIfInBounds_toArray, List.set_cons_zero, List.set_cons_succ, i64_w, i32_w]
        rfl
       refine pure_ (i := 5) (N := some 63) (v := undef) (a' := ?_) #[true, true, true, true, true, true, false, false, false, false, false, false] rfl rfl (by kernel_rfl) (fun _ _ _ h => h) (Or.inr ⟨by rfl, rfl⟩) ?_ ?_
       rotate_left
       ·simp only [Act.put, List.setIfInBounds_toArray, List.set_cons_zero, List.set_cons_succ, i64_w, i32_w]
        rfl
       refine pure_ (i := 6) (N := some 64) (v := undef) (a' := ?_) #[true, true, true, true, true, true, true, false, false, false, false, false] rfl rfl (by kernel_rfl) (fun _ _ _ h => h) (Or.inr ⟨by rfl, rfl⟩) ?_ ?_
       rotate_left
       ·simp only [Act.put, List.setIfInBounds_toArray, List.set_cons_zero, List.set_cons_succ, i64_w, i32_w]
        rfl
       refine pure_ (i := 7) (N := some 65) (v := undef) (a' := ?_) #[true, true, true, true, true, true, true, true, false, false, false, false] rfl rfl (by kernel_rfl) (fun _ _ _ h => h) (Or.inr ⟨by rfl, rfl⟩) ?_ ?_
       rotate_left
       ·simp only [Act.put, List.setIfInBounds_toArray, List.set_cons_zero, List.set_cons_succ, i64_w, i32_w]
        rfl
       refine pure_ (i := 8) (N := some 66) (v := undef) (a' := ?_) #[true, true, true, true, true, true, true, true, true, false, false, false] rfl rfl (by kernel_rfl) (fun _ _ _ h => h) (Or.inr ⟨by rfl, rfl⟩) ?_ ?_
       rotate_left
       ·simp only [Act.put, List.setIfInBounds_toArray, List.set_cons_zero, List.set_cons_succ, i64_w, i32_w]
        rfl
       refine pure_ (i := 9) (N := some 67) (v := undef) (a' := ?_) #[true, true, true, true, true, true, true, true, true, true, false, false] rfl rfl (by kernel_rfl) (fun _ _ _ h => h) (Or.inr ⟨by rfl, rfl⟩) ?_ ?_
       rotate_left
       ·simp only [Act.put, List.setIfInBounds_toArray, List.set_cons_zero, List.set_cons_succ, i64_w, i32_w]
        rfl
       refine pz_ 10 68 rfl rfl (by kernel_rfl) ?_
       refine pz_ 11 57 rfl rfl (by kernel_rfl) ?_
       refine done_ (by kernel_rfl) ?_
       have HD2 := Aside0.mk (HD.out.below (below_drew1 (Below.refl _ _)))
       clear x0 x1 x2 y0 y1 y2 HD
       obtain ⟨x0, x1, x2, y0, y1, y2⟩ := HD2.out.cells
       go_upto_region 9 with (fail)
       by_cases k3 : kind = 3
       ·subst k3
        clear d2 d1
        by_cases kw : who = 1
        ·subst kw
         have hv : doesM ep l O ep 3 1 1 = (ep, l, O, false) := by unfold doesM; rw [if_neg HI1.out, if_neg (by decide), if_neg HC.out, if_neg (by decide), if_pos rfl, if_pos (.inl rfl)]
         have HV := Aside0.mk hv
         clear hv
         refine start_ (n := 18) (S := fun w' => w'.cell? ⟨rb, 0, none⟩ = some (.int .i64 3) ∧ w'.cell? ⟨rb, 14, none⟩ = some (.int .i64 1)) (ds := []) #[false, false, false, false, false, false, false, false, false, false, false, false, false, false, false, false, false, false] (by kernel_rfl) rfl rfl ⟨y0, y2⟩ (fun hHeld => ?_)
         refine pz_ 0 69 rfl rfl (by kernel_rfl) ?_
         refine take_ (i := 1) (N := some 70) (v := ?_) (a' := ?_) #[true, true, false, false, false, false, false, false, false, false, false, false, false, false, false, false, false, false] rfl rfl (by kernel_rfl) (fun _ _ _ h => h) (Or.inl ⟨by rfl, ?_⟩) hHeld ?_ ?_
         rotate_left
         ·rintro w' ⟨s0, s1⟩
          go_simp
          with_reducible rfl
         rotate_left
         ·simp only [Act.put, List.setIfInBounds_toArray, List.set_cons_zero, List.set_cons_succ, i64_w, i32_w]
          rfl
         refine pz_ 2 71 rfl rfl (by kernel_rfl) ?_
         refine pz_ 3 72 rfl rfl (by kernel_rfl) ?_
         refine pz_ 4 73 rfl rfl (by kernel_rfl) ?_
         refine take_ (i := 5) (N := some 74) (v := ?_) (a' := ?_) #[true, true, true, true, true, true, false, false, false, false, false, false, false, false, false, false, false, false] rfl rfl (by kernel_rfl) (fun _ _ _ h => h) (Or.inl ⟨by rfl, ?_⟩) hHeld ?_ ?_
         rotate_left
         ·rintro w' ⟨s0, s1⟩
          go_simp
          with_reducible rfl
         rotate_left
         ·simp only [Act.put, List.setIfInBounds_toArray, List.set_cons_zero, List.set_cons_succ, i64_w, i32_w]
          rfl
         refine pz_ 6 75 rfl rfl (by kernel_rfl) ?_
         refine pz_ 7 76 rfl rfl (by kernel_rfl) ?_
         refine pure_ (i := 8) (N := some 77) (v := undef) (a' := ?_) #[true, true, true, true, true, true, true, true, true, false, false, false, false, false, false, false, false, false] rfl rfl (by kernel_rfl) (fun _ _ _ h => h) (Or.inr ⟨by rfl, rfl⟩) ?_ ?_
         rotate_left
         ·simp only [Act.put, List.setIfInBounds_toArray, List.set_cons_zero, List.set_cons_succ, i64_w, i32_w]
          rfl
         refine pure_ (i := 9) (N := some 78) (v := undef) (a' := ?_) #[true, true, true, true, true, true, true, true, true, true, false, false, false, false, false, false, false, false] rfl rfl (by kernel_rfl) (fun _ _ _ h => h) (Or.inr ⟨by rfl, rfl⟩) ?_ ?_
         rotate_left
         ·simp only [Act.put, List.setIfInBounds_toArray, List.set_cons_zero, List.set_cons_succ, i64_w, i32_w]
          rfl
         refine pure_ (i := 10) (N := some 79) (v := undef) (a' := ?_) #[true, true, true, true, true, true, true, true, true, true, true, false, false, false, false, false, false, false] rfl rfl (by kernel_rfl) (fun _ _ _ h => h) (Or.inr ⟨by rfl, rfl⟩) ?_ ?_
         rotate_left
         ·simp only [Act.put, List.setIfInBounds_toArray, List.set_cons_zero, List.set_cons_succ, i64_w, i32_w]
          rfl
         refine pure_ (i := 11) (N := some 80) (v := undef) (a' := ?_) #[true, true, true, true, true, true, true, true, true, true, true, true, false, false, false, false, false, false] rfl rfl (by kernel_rfl) (fun _ _ _ h => h) (Or.inr ⟨by rfl, rfl⟩) ?_ ?_
         rotate_left
         ·simp only [Act.put, List.setIfInBounds_toArray, List.set_cons_zero, List.set_cons_succ, i64_w, i32_w]
          rfl
         refine pure_ (i := 12) (N := some 81) (v := undef) (a' := ?_) #[true, true, true, true, true, true, true, true, true, true, true, true, true, false, false, false, false, false] rfl rfl (by kernel_rfl) (fun _ _ _ h => h) (Or.inr ⟨by rfl, rfl⟩) ?_ ?_
         rotate_left
         ·simp only [Act.put, List.setIfInBounds_toArray, List.set_cons_zero, List.set_cons_succ, i64_w, i32_w]
          rfl
         refine pure_ (i := 13) (N := some 82) (v := undef) (a' := ?_) #[true, true, true, true, true, true, true, true, true, true, true, true, true, true, false, false, false, false] rfl rfl (by kernel_rfl) (fun _ _ _ h => h) (Or.inr ⟨by rfl, rfl⟩) ?_ ?_
         rotate_left
         ·simp only [Act.put, List.setIfInBounds_toArray, List.set_cons_zero, List.set_cons_succ, i64_w, i32_w]
          rfl
         refine pure_ (i := 14) (N := some 83) (v := undef) (a' := ?_) #[true, true, true, true, true, true, true, true, true, true, true, true, true, true, true, false, false, false] rfl rfl (by kernel_rfl) (fun _ _ _ h => h) (Or.inr ⟨by rfl, rfl⟩) ?_ ?_
         rotate_left
         ·simp only [Act.put, List.setIfInBounds_toArray, List.set_cons_zero, List.set_cons_succ, i64_w, i32_w]
          rfl
         refine pz_ 15 84 rfl rfl (by kernel_rfl) ?_
         refine pz_ 16 85 rfl rfl (by kernel_rfl) ?_
         refine pz_ 17 57 rfl rfl (by kernel_rfl) ?_
         refine done_ (by kernel_rfl) ?_
         have HD3 := Aside0.mk (HD2.out.below (below_drew1 (Below.refl _ _)))
         clear x0 x1 x2 y0 y1 y2 HD2
         obtain ⟨x0, x1, x2, y0, y1, y2⟩ := HD3.out.cells
         go_wp2_with (fail)
         go_ret
         (rw [HV.out]; exact ⟨rfl, HD3.out.1⟩)
        ·have d5 : (who == 1) = false := beq_eq_false_iff_ne.2 kw
         have KW := Aside0.mk kw
         clear kw
         cases hi2 : l.any (isM who)
         ·have hv : doesM ep l O ep 3 1 who = (ep, l, O, false) := by unfold doesM; rw [if_neg HI1.out, if_neg (by decide), if_neg HC.out, if_neg (by decide), if_pos rfl, if_pos (.inr hi2)]
          have HV := Aside0.mk hv
          rw [hi2] at HIW
          clear hv hi2
          have HDD := Aside0.mk (HD2.out.below (below_drew1 (Below.refl _ _)))
          have HGG := Aside0.mk HDD.out.1
          go_region_held3 (fun w' => w'.cell? ⟨gb, 0, none⟩ = some (.int .i64 ep) ∧ w'.cell? ⟨gb, 1, none⟩ = some (.slice (some ⟨g, 0, none⟩) l.length cap) ∧ w'.cell? ⟨gb, 2, none⟩ = some (.int .i64 O) ∧ w'.cell? ⟨rb, 0, none⟩ = some (.int .i64 3) ∧ w'.cell? ⟨rb, 14, none⟩ = some (.int .i64 who))
           (first | go_keep | exact ⟨x0, x1, x2, y0, y2⟩)
           (first | (go_at_call 23; (with_reducible refine (HIW.out _ HGG.out).mono ?_); rintro e2 w2 ⟨rfl, hg2, hb2⟩; have HD3 := Aside0.mk (HDD.out.below hb2); clear hg2 hb2 x0 x1 x2 y0 y1 y2; obtain ⟨x0, x1, x2, y0, y1, y2⟩ := HD3.out.cells))
          clear HDD HGG HD2
          go_wp2_with (fail)
          go_ret
          (rw [HV.out]; exact ⟨rfl, HD3.out.1⟩)
         ·have I2 := Aside0.mk hi2
          rw [hi2] at HIW
          clear hi2
          have HDD := Aside0.mk (HD2.out.below (below_drew1 (Below.refl _ _)))
          have HGG := Aside0.mk HDD.out.1
          go_region_held3 (fun w' => w'.cell? ⟨gb, 0, none⟩ = some (.int .i64 ep) ∧ w'.cell? ⟨gb, 1, none⟩ = some (.slice (some ⟨g, 0, none⟩) l.length cap) ∧ w'.cell? ⟨gb, 2, none⟩ = some (.int .i64 O) ∧ w'.cell? ⟨rb, 0, none⟩ = some (.int .i64 3) ∧ w'.cell? ⟨rb, 14, none⟩ = some (.int .i64 who))
           (first | go_keep | exact ⟨x0, x1, x2, y0, y2⟩)
           (first | (go_at_call 23; (with_reducible refine (HIW.out _ HGG.out).mono ?_); rintro e2 w2 ⟨rfl, hg2, hb2⟩; have HD3 := Aside0.mk (HDD.out.below hb2); clear hg2 hb2 x0 x1 x2 y0 y1 y2; obtain ⟨x0, x1, x2, y0, y1, y2⟩ := HD3.out.cells))
          clear HDD HGG HD2
          go_wp2_with (fail)
          go_meet
          exact ⟨⟨trivial, trivial, HX.out, H1.out, HI1.out, fun q => absurd q (by decide), fun _ => ⟨KW.out, I2.out⟩⟩, HD3⟩
       ·have d3 : (kind == 3) = false := beq_eq_false_iff_ne.2 k3
        have K2 := Aside0.mk k2
        have K3 := Aside0.mk k3
        clear k2 k3
        refine start_ (n := 18) (S := fun w' => w'.cell? ⟨rb, 0, none⟩ = some (.int .i64 kind) ∧ w'.cell? ⟨rb, 14, none⟩ = some (.int .i64 who)) (ds := []) #[false, false, false, false, false, false, false, false, false, false, false, false, false, false, false, false, false, false] (by kernel_rfl) rfl rfl ⟨y0, y2⟩ (fun hHeld => ?_)
        refine pz_ 0 69 rfl rfl (by kernel_rfl) ?_
        refine take_ (i := 1) (N := some 70) (v := ?_) (a' := ?_) #[true, true, false, false, false, false, false, false, false, false, false, false, false, false, false, false, false, false] rfl rfl (by kernel_rfl) (fun _ _ _ h => h) (Or.inl ⟨by rfl, ?_⟩) hHeld ?_ ?_
        rotate_left
        ·rintro w' ⟨s0, s1⟩
         go_simp
         with_reducible rfl
        rotate_left
        ·simp only [Act.put, List.setIfInBounds_toArray, List.set_cons_zero, List.set_cons_succ, i64_w, i32_w]
         rfl
        refine pz_ 2 71 rfl rfl (by kernel_rfl) ?_
        refine pz_ 3 72 rfl rfl (by kernel_rfl) ?_
        refine pure_ (i := 4) (N := some 73) (v := undef) (a' := ?_) #[true, true, true, true, true, false, false, false, false, false, false, false, false, false, false, false, false, false] rfl rfl (by kernel_rfl) (fun _ _ _ h => h) (Or.inr ⟨by rfl, rfl⟩) ?_ ?_
        rotate_left
        ·simp only [Act.put, List.setIfInBounds_toArray, List.set_cons_zero, List.set_cons_succ, i64_w, i32_w]
         rfl
        refine pure_ (i := 5) (N := some 74) (v := undef) (a' := ?_) #[true, true, true, true, true, true, false, false, false, false, false, false, false, false, false, false, false, false] rfl rfl (by kernel_rfl) (fun _ _ _ h => h) (Or.inr ⟨by rfl, rfl⟩) ?_ ?_
        rotate_left
        ·simp only [Act.put, List.setIfInBounds_toArray, List.set_cons_zero, List.set_cons_succ, i64_w, i32_w]
         rfl
        refine pure_ (i := 6) (N := some 75) (v := undef) (a' := ?_) #[true, true, true, true, true, true, true, false, false, false, false, false, false, false, false, false, false, false] rfl rfl (by kernel_rfl) (fun _ _ _ h => h) (Or.inr ⟨by rfl, rfl⟩) ?_ ?_
        rotate_left
        ·simp only [Act.put, List.setIfInBounds_toArray, List.set_cons_zero, List.set_cons_succ, i64_w, i32_w]
         rfl
        refine pure_ (i := 7) (N := some 76) (v := undef) (a' := ?_) #[true, true, true, true, true, true, true, true, false, false, false, false, false, false, false, false, false, false] rfl rfl (by kernel_rfl) (fun _ _ _ h => h) (Or.inr ⟨by rfl, rfl⟩) ?_ ?_
        rotate_left
        ·simp only [Act.put, List.setIfInBounds_toArray, List.set_cons_zero, List.set_cons_succ, i64_w, i32_w]
         rfl
        refine pure_ (i := 8) (N := some 77) (v := undef) (a' := ?_) #[true, true, true, true, true, true, true, true, true, false, false, false, false, false, false, false, false, false] rfl rfl (by kernel_rfl) (fun _ _ _ h => h) (Or.inr ⟨by rfl, rfl⟩) ?_ ?_
        rotate_left
        ·simp only [Act.put, List.setIfInBounds_toArray, List.set_cons_zero, List.set_cons_succ, i64_w, i32_w]
         rfl
        refine pure_ (i := 9) (N := some 78) (v := undef) (a' := ?_) #[true, true, true, true, true, true, true, true, true, true, false, false, false, false, false, false, false, false] rfl rfl (by kernel_rfl) (fun _ _ _ h => h) (Or.inr ⟨by rfl, rfl⟩) ?_ ?_
        rotate_left
        ·simp only [Act.put, List.setIfInBounds_toArray, List.set_cons_zero, List.set_cons_succ, i64_w, i32_w]
         rfl
        refine pure_ (i := 10) (N := some 79) (v := undef) (a' := ?_) #[true, true, true, true, true, true, true, true, true, true, true, false, false, false, false, false, false, false] rfl rfl (by kernel_rfl) (fun _ _ _ h => h) (Or.inr ⟨by rfl, rfl⟩) ?_ ?_
        rotate_left
        ·simp only [Act.put, List.setIfInBounds_toArray, List.set_cons_zero, List.set_cons_succ, i64_w, i32_w]
         rfl
        refine pure_ (i := 11) (N := some 80) (v := undef) (a' := ?_) #[true, true, true, true, true, true, true, true, true, true, true, true, false, false, false, false, false, false] rfl rfl (by kernel_rfl) (fun _ _ _ h => h) (Or.inr ⟨by rfl, rfl⟩) ?_ ?_
        rotate_left
        ·simp only [Act.put, List.setIfInBounds_toArray, List.set_cons_zero, List.set_cons_succ, i64_w, i32_w]
         rfl
        refine pure_ (i := 12) (N := some 81) (v := undef) (a' := ?_) #[true, true, true, true, true, true, true, true, true, true, true, true, true, false, false, false, false, false] rfl rfl (by kernel_rfl) (fun _ _ _ h => h) (Or.inr ⟨by rfl, rfl⟩) ?_ ?_
        rotate_left
        ·simp only [Act.put, List.setIfInBounds_toArray, List.set_cons_zero, List.set_cons_succ, i64_w, i32_w]
         rfl
        refine pure_ (i := 13) (N := some 82) (v := undef) (a' := ?_) #[true, true, true, true, true, true, true, true, true, true, true, true, true, true, false, false, false, false] rfl rfl (by kernel_rfl) (fun _ _ _ h => h) (Or.inr ⟨by rfl, rfl⟩) ?_ ?_
        rotate_left
        ·simp only [Act.put, List.setIfInBounds_toArray, List.set_cons_zero, List.set_cons_succ, i64_w, i32_w]
         rfl
        refine pure_ (i := 14) (N := some 83) (v := undef) (a' := ?_) #[true, true, true, true, true, true, true, true, true, true, true, true, true, true, true, false, false, false] rfl rfl (by kernel_rfl) (fun _ _ _ h => h) (Or.inr ⟨by rfl, rfl⟩) ?_ ?_
        rotate_left
        ·simp only [Act.put, List.setIfInBounds_toArray, List.set_cons_zero, List.set_cons_succ, i64_w, i32_w]
         rfl
        refine pure_ (i := 15) (N := some 84) (v := undef) (a' := ?_) #[true, true, true, true, true, true, true, true, true, true, true, true, true, true, true, true, false, false] rfl rfl (by kernel_rfl) (fun _ _ _ h => h) (Or.inr ⟨by rfl, rfl⟩) ?_ ?_
        rotate_left
        ·simp only [Act.put, List.setIfInBounds_toArray, List.set_cons_zero, List.set_cons_succ, i64_w, i32_w]
         rfl
        refine pz_ 16 85 rfl rfl (by kernel_rfl) ?_
        refine pz_ 17 57 rfl rfl (by kernel_rfl) ?_
        refine done_ (by kernel_rfl) ?_
        have HD3 := Aside0.mk (HD2.out.below (below_drew1 (Below.refl _ _)))
        clear x0 x1 x2 y0 y1 y2 HD2
        obtain ⟨x0, x1, x2, y0, y1, y2⟩ := HD3.out.cells
        go_wp2_with (fail)
        go_meet
        exact ⟨⟨trivial, trivial, HX.out, H1.out, HI1.out, fun q => absurd q K2.out, fun q => absurd q K3.out⟩, HD3⟩
 case rest =>
  obtain ⟨HC, HD⟩ := hcut
  clear HD0
  obtain ⟨c1, c2, c3, c4, c5, c6, c7⟩ := HC.out
  subst c1 c2
  have nc : ¬ ((1 : Int) ≠ 1 ∨ ep ≠ ep ∨ 1099511627775 ≤ ep) := by omega
  have e1 : wrap64 (ep + 1) = ep + 1 := by have := HE.out; unfold wrap64; omega
  have E1 := Aside0.mk e1
  obtain ⟨x0, x1, x2, y0, y1, y2⟩ := HD.out.cells
  obtain ⟨z0, z1, z2⟩ := HD.out.frozen
  by_cases k4 : kind = 4
  ·subst k4
   have hv : doesM ep l O ep 4 1 who = (ep + 1, l, O, true) := by unfold doesM; rw [if_neg c5, if_neg (by decide), if_neg nc, if_neg (by decide), if_neg (by decide)]
   have HV := Aside0.mk hv
   have HF := Aside0.mk (HD.out.1.setE (ep + 1))
   clear hv c3 c4 c5 c6 c7 nc z2
   go_wp2_with (fail)
   go_ret
   (rw [HV.out]; exact ⟨rfl, HF.out⟩)
  ·have d4 : (kind != 4) = true := bne_iff_ne.2 k4
   have hk23 : kind = 2 ∨ kind = 3 := by have := HK.out; omega
   obtain ⟨k, hk⟩ : ∃ k : Nat, who = (k : Int) + 1 := ⟨(who - 1).toNat, by have := HW.out hk23; omega⟩
   have hlt : k < l.length := by have := HW.out hk23; have := HL.out; omega
   have hx := List.getElem?_eq_getElem hlt
   generalize l[k] = m at hx
   have hv : doesM ep l O ep kind 1 who = (ep + 1, l.set k { m with f2 := (kind == 2) }, O, true) := by
    have hm : ∀ b, inM l (who - 1).toNat b = l.set k { m with f2 := b } := fun b => by
     rw [show (who - 1).toNat = k by omega]
     unfold inM
     rw [hx]
    unfold doesM
    rw [if_neg c5, if_neg c4, if_neg nc]
    rcases hk23 with rfl | rfl
    ·rw [if_pos rfl, if_neg (by rw [c6 rfl]; decide), hm]; rfl
    ·rw [if_neg (by decide), if_pos rfl, if_neg (by have := c7 rfl; rw [this.2]; simp; exact this.1), hm]; rfl
   have HV := Aside0.mk hv
   have hr : wrap64 (who - 1) = (k : Int) := by have := HL.out; unfold wrap64; omega
   have hr2 : IntKind.i64.wrap (who - 1) = (k : Int) := by have := HL.out; rw [IntKind.wrap_i64]; omega
   have HDr := Aside0.mk (HD.out.below (below_drew1 (Below.refl _ _)))
   have HS := Aside0.mk ((HD.out.1.setM k 2 (by decide) m { m with f2 := (kind == 2) } (.bool (kind == 2)) hx rfl).below (below_drew1 (Below.refl _ _)))
   have e5 := eq_true hlt
   have HLT := Aside0.mk hlt
   have mc : wc.drew.cell? ⟨g, k * 3 + 2, none⟩ = some (.bool m.f2) := (HDr.out.1.2.2.1.cell k m hx).2.2
   have zz : wc.drew.frozen? ⟨g, k * 3 + 2, none⟩ = false := HDr.out.frozen.2.2 _
   generalize hbq : (kind == 2) = b at HV HS
   clear hk hv c3 c4 c5 c6 c7 nc hk23 k4 hlt hx z2
   go_upto_region 12 with (fail)
   refine start_ (n := 13) (S := fun w' => w'.cell? ⟨gb, 1, none⟩ = some (.slice (some ⟨g, 0, none⟩) l.length cap) ∧ w'.cell? ⟨rb, 0, none⟩ = some (.int .i64 kind) ∧ w'.cell? ⟨rb, 14, none⟩ = some (.int .i64 who)) (ds := [12]) #[false, false, false, false, false, false, false, false, false, false, false, false, false] (by kernel_rfl) rfl rfl ⟨x1, y0, y2⟩ (fun hHeld => ?_)
   refine pz_ 0 89 rfl rfl (by kernel_rfl) ?_
   refine pz_ 1 90 rfl rfl (by kernel_rfl) ?_
   refine pz_ 2 91 rfl rfl (by kernel_rfl) ?_
   refine pz_ 4 93 rfl rfl (by kernel_rfl) ?_
   refine pz_ 7 96 rfl rfl (by kernel_rfl) ?_
   refine take_ (i := 3) (N := some 92) (v := ?_) (a' := ?_) #[true, true, true, true, true, false, false, true, false, false, false, false, false] rfl rfl (by kernel_rfl) (fun _ _ _ h => h) (Or.inl ⟨by rfl, ?_⟩) hHeld ?_ ?_
   rotate_left
   ·rintro w' ⟨s0, s1, s2⟩
    go_simp
    with_reducible rfl
   rotate_left
   ·simp only [Act.put, List.setIfInBounds_toArray, List.set_cons_zero, List.set_cons_succ, i64_w, i32_w]
    rfl
   refine take_ (i := 5) (N := some 94) (v := ?_) (a' := ?_) #[true, true, true, true, true, true, false, true, false, false, false, false, false] rfl rfl (by kernel_rfl) (fun _ _ _ h => h) (Or.inl ⟨by rfl, ?_⟩) hHeld ?_ ?_
   rotate_left
   ·rintro w' ⟨s0, s1, s2⟩
    go_simp
    with_reducible rfl
   rotate_left
   ·simp only [Act.put, List.setIfInBounds_toArray, List.set_cons_zero, List.set_cons_succ, i64_w, i32_w]
    rfl
   refine pz_ 6 95 rfl rfl (by kernel_rfl) ?_
   refine take_ (i := 8) (N := some 97) (v := ?_) (a' := ?_) #[true, true, true, true, true, true, true, true, true, false, false, false, false] rfl rfl (by kernel_rfl) (fun _ _ _ h => h) (Or.inl ⟨by rfl, ?_⟩) hHeld ?_ ?_
   rotate_left
   ·rintro w' ⟨s0, s1, s2⟩
    go_simp
    with_reducible rfl
   rotate_left
   ·simp only [Act.put, List.setIfInBounds_toArray, List.set_cons_zero, List.set_cons_succ, i64_w, i32_w]
    rfl
   refine pz_ 9 98 rfl rfl (by kernel_rfl) ?_
   refine pz_ 10 99 rfl rfl (by kernel_rfl) ?_
   refine pz_ 11 100 rfl rfl (by kernel_rfl) ?_
   refine last_ (i := 12) (N := none) #[true, true, true, true, true, true, true, true, true, true, true, true, true] rfl rfl (by kernel_rfl) (by decide) (fun K hK => ?_)
   refine skip_ (w1 := ?_) (by rfl) rfl ?_ ?_
   rotate_left
   ·go_simp
    rfl
   refine hK.out _ _ ?_
   clear hK K
   refine done_ (by kernel_rfl) ?_
   clear mc zz x1 x2 y0 y1 y2 hr hr2 z0 x0
   have x0 := HS.out.cells.1
   have z0 := blk_frozen HS.out.2.1 0
   have HF := Aside0.mk (HS.out.setE (ep + 1))
   have e1 := E1.out
   go_wp2_with (fail)
   go_ret
   (rw [HV.out]; exact ⟨rfl, HF.out⟩)
end Go.Proofs.YthemhfloablccaaDoor.Pr
end

section
namespace Go.Proofs.YthemhfloablccaaDoor.Pr
open Go.RowKit Go.Proofs.YthemhfloablccaaDoorW.PrintWords Go.Proofs.YthemhfloablccaaDoorW.PrintLast Go.Proofs.YthemhfloablccaaDoorW.PrintMore
attribute [local go_sem] max2_int min2_int max_two min_two max_three min_three max_four min_four
mutual
def group_Check.j0 : Nat → Bool → Int → List (S46) → Int → Option (Int)
 | 0, _, _, _, _ => none
 | k + 1, x3, x107000, x107001, x107002 => group_Check.l0 k x3 x107001 (x107001.length : Int) 0 x107000 x107001 x107002
def group_Check.l0 : Nat → Bool → List (S46) → Int → Int → Int → List (S46) → Int → Option (Int)
 | 0, _, _, _, _, _, _, _ => none
 | k + 1, x3, x31, x32, x33, x107000, x107001, x107002 => if x33 < x32 then (if 0 ≤ x33 then (if x33 < (x31.length : Int) then (if x3 = true then (if ((rd_T46 x31 x33).f0) = (wrap64 (x33 + 1)) then (if ((rd_T46 x31 x33).f1) ≥ 0 then (group_Check.l0 k (decide (((rd_T46 x31 x33).f1) ≤ 1099511627775)) x31 x32 (wrap64 (x33 + 1)) x107000 x107001 x107002) else (group_Check.l0 k false x31 x32 (wrap64 (x33 + 1)) x107000 x107001 x107002)) else (group_Check.l0 k false x31 x32 (wrap64 (x33 + 1)) x107000 x107001 x107002)) else (group_Check.l0 k false x31 x32 (wrap64 (x33 + 1)) x107000 x107001 x107002)) else (none)) else (none)) else (if x3 = true then (if 0 < (x107001.length : Int) then (if ((rd_T46 x107001 0).f2 = true) then (some 0) else (some 1)) else (none)) else (some 1))
end
def group_Check.f (k : Nat) (a0_0 : Int) (l0_1 : List (S46)) (a0_2 : Int) : Option (Int) := if a0_0 ≥ 1 then (if a0_0 ≤ 1099511627775 then (if a0_2 ≥ 0 then (if a0_2 ≤ 500 then (group_Check.j0 k ((l0_1.length : Int) == 6) a0_0 l0_1 a0_2) else (group_Check.j0 k false a0_0 l0_1 a0_2)) else (group_Check.j0 k false a0_0 l0_1 a0_2)) else (group_Check.j0 k false a0_0 l0_1 a0_2)) else (group_Check.j0 k false a0_0 l0_1 a0_2)
set_option maxHeartbeats 8000000 in
set_option maxRecDepth 100000 in
theorem group_Check.calls (k : Nat) (a0_0 : Int) (A0_1 : Option Addr) (c0_1 : Nat) (l0_1 : List (S46)) (a0_2 : Int) (r : Int) (w : World) (hr0_1 : Kd.C k46 w A0_1 l0_1.length l0_1) (hc0_1 : l0_1.length ≤ c0_1) (h : group_Check.f k a0_0 l0_1 a0_2 = some r) :
    Calls Tryd.prog 21 #[.agg #[.int .i64 a0_0, .slice A0_1 l0_1.length c0_1, .int .i64 a0_2]] w fun e w' => e = .returned (.int .i64 r) ∧ Below w.heap.size w w' := by
  have hu24 := Tryd.underlying24; have hu46 := Tryd.underlying46; have HR0_1 := Aside0.mk hr0_1; have HC0_1 := Aside0.mk hc0_1; clear hr0_1 hc0_1; have HB := Aside0.mk (Below.refl w.heap.size w); have H : (if a0_0 ≥ 1 then (if a0_0 ≤ 1099511627775 then (if a0_2 ≥ 0 then (if a0_2 ≤ 500 then (group_Check.j0 k ((l0_1.length : Int) == 6) a0_0 l0_1 a0_2) else (group_Check.j0 k false a0_0 l0_1 a0_2)) else (group_Check.j0 k false a0_0 l0_1 a0_2)) else (group_Check.j0 k false a0_0 l0_1 a0_2)) else (group_Check.j0 k false a0_0 l0_1 a0_2)) = some r := h; clear h; have HC2 := Aside0.mk H; clear H; go_enter Tryd.func21, Tryd.ntmps21
  go_upto_region 1 with (first | ((with_reducible refine gate_dst (N := 1) rfl ?_); (try (refine gate_guard (by rfl) ?_; dsimp only)); refine box_event ?hg (N := 1) ?hd (cs := #[.int .i64 a0_0, .slice A0_1 l0_1.length c0_1, .int .i64 a0_2]) (t := 24) ?hr ?_; (case hd => rfl); (case hg => rfl); (case hr => first | (go_simp; done) | (go_simp; rfl)); intro gb106 hg w3 hbox hb; have n0_ := Aside0.mk (below_step hb_ hb); have n1_ := Aside0.mk (hbox); have n2_ := Aside0.mk ((by rw [hg]; exact (below_size hb_) : w.heap.size ≤ gb106)); have n3_ := Aside0.mk ((by rw [hg]; exact (below_size hb_) : w.heap.size ≤ gb106)); clear HB; have HB := n0_; have BK106 := n1_; have GW106 := n2_; have GE106 := n3_; clear n0_ n1_ n2_ n3_; clear hb hbox hg))
  (try simp only [Act.put, List.setIfInBounds_toArray, List.set_cons_zero, List.set_cons_succ])
  go_cut [3] (fun v3 wc => ∃ (kq : Nat) (x3_1 : Bool), v3 = .bool x3_1 ∧ Aside0 (group_Check.j0 kq x3_1 a0_0 l0_1 a0_2 = some r) ∧ Aside0 (kq ≤ k) ∧ Aside0 (wc.heap[gb106]? = some (.cells #[.int .i64 a0_0, (.slice A0_1 l0_1.length c0_1), .int .i64 a0_2] 24 (0, 0))) ∧ Aside0 (Below w.heap.size w wc))
  case first =>
    have H := HC2.out; clear HC2; by_cases c4 : a0_0 ≥ 1
    · rw [if_pos c4] at H; have c4b0 : decide (1 ≤ a0_0) = true := decide_eq_true c4; clear c4
      (first | rw [c4b0] | (simp only [i64_w, i32_w]; rw [c4b0]) | skip)
      by_cases c5 : a0_0 ≤ 1099511627775
      · rw [if_pos c5] at H; have c5b0 : decide (a0_0 ≤ 1099511627775) = true := decide_eq_true c5; clear c5; by_cases c6 : a0_2 ≥ 0
        · rw [if_pos c6] at H; have c6b0 : decide (0 ≤ a0_2) = true := decide_eq_true c6; clear c6; by_cases c7 : a0_2 ≤ 500
          · rw [if_pos c7] at H; have c7b0 : decide (a0_2 ≤ 500) = true := decide_eq_true c7; clear c7; have H' := Aside0.mk H; clear H; have hcz8_0 : w3.cell? ⟨gb106, 0, none⟩ = some (.int .i64 a0_0) := (blk_cell BK106.out 0).trans rfl; have hcz8_1 : w3.cell? ⟨gb106, 1, none⟩ = some (.slice A0_1 l0_1.length c0_1) := (blk_cell BK106.out 1).trans rfl; have hcz8_2 : w3.cell? ⟨gb106, 2, none⟩ = some (.int .i64 a0_2) := (blk_cell BK106.out 2).trans rfl; have hfz8_0 := blk_frozen BK106.out 0; have hfz8_1 := blk_frozen BK106.out 1; have hfz8_2 := blk_frozen BK106.out 2; go_wp2; go_meet
            case rel => exact ⟨_, (((l0_1.length : Int) == 6)), rz_, H', ⟨by first | omega | exact Nat.le_refl _⟩, ⟨by (with_reducible repeat (first | refine blk_drewN ?_ _ | refine blk_drew ?_ | refine blk_alloc ?_ _)); exact BK106.out⟩, ⟨by repeat (first | (with_reducible first | exact HB.out | apply below_alloc | apply pw_below_drewN | apply below_drew1 | refine below_set ?_ GE106.out) | exact HB.out)⟩⟩
          · rw [if_neg c7] at H; have c7b0 : decide (a0_2 ≤ 500) = false := decide_eq_false c7; clear c7; have H' := Aside0.mk H; clear H; have hcz9_0 : w3.cell? ⟨gb106, 0, none⟩ = some (.int .i64 a0_0) := (blk_cell BK106.out 0).trans rfl; have hcz9_1 : w3.cell? ⟨gb106, 1, none⟩ = some (.slice A0_1 l0_1.length c0_1) := (blk_cell BK106.out 1).trans rfl; have hcz9_2 : w3.cell? ⟨gb106, 2, none⟩ = some (.int .i64 a0_2) := (blk_cell BK106.out 2).trans rfl; have hfz9_0 := blk_frozen BK106.out 0; have hfz9_1 := blk_frozen BK106.out 1; have hfz9_2 := blk_frozen BK106.out 2; go_wp2; go_meet
            case rel => exact ⟨_, (false), rz_, H', ⟨by first | omega | exact Nat.le_refl _⟩, ⟨by (with_reducible repeat (first | refine blk_drewN ?_ _ | refine blk_drew ?_ | refine blk_alloc ?_ _)); exact BK106.out⟩, ⟨by repeat (first | (with_reducible first | exact HB.out | apply below_alloc | apply pw_below_drewN | apply below_drew1 | refine below_set ?_ GE106.out) | exact HB.out)⟩⟩
        · rw [if_neg c6] at H; have c6b0 : decide (0 ≤ a0_2) = false := decide_eq_false c6; clear c6; have H' := Aside0.mk H; clear H; have hcz10_0 : w3.cell? ⟨gb106, 0, none⟩ = some (.int .i64 a0_0) := (blk_cell BK106.out 0).trans rfl; have hcz10_1 : w3.cell? ⟨gb106, 1, none⟩ = some (.slice A0_1 l0_1.length c0_1) := (blk_cell BK106.out 1).trans rfl; have hcz10_2 : w3.cell? ⟨gb106, 2, none⟩ = some (.int .i64 a0_2) := (blk_cell BK106.out 2).trans rfl; have hfz10_0 := blk_frozen BK106.out 0; have hfz10_1 := blk_frozen BK106.out 1; have hfz10_2 := blk_frozen BK106.out 2; go_wp2; go_meet
          case rel => exact ⟨_, (false), rz_, H', ⟨by first | omega | exact Nat.le_refl _⟩, ⟨by (with_reducible repeat (first | refine blk_drewN ?_ _ | refine blk_drew ?_ | refine blk_alloc ?_ _)); exact BK106.out⟩, ⟨by repeat (first | (with_reducible first | exact HB.out | apply below_alloc | apply pw_below_drewN | apply below_drew1 | refine below_set ?_ GE106.out) | exact HB.out)⟩⟩
      · rw [if_neg c5] at H; have c5b0 : decide (a0_0 ≤ 1099511627775) = false := decide_eq_false c5; clear c5; have H' := Aside0.mk H; clear H; have hcz11_0 : w3.cell? ⟨gb106, 0, none⟩ = some (.int .i64 a0_0) := (blk_cell BK106.out 0).trans rfl; have hcz11_1 : w3.cell? ⟨gb106, 1, none⟩ = some (.slice A0_1 l0_1.length c0_1) := (blk_cell BK106.out 1).trans rfl; have hcz11_2 : w3.cell? ⟨gb106, 2, none⟩ = some (.int .i64 a0_2) := (blk_cell BK106.out 2).trans rfl; have hfz11_0 := blk_frozen BK106.out 0; have hfz11_1 := blk_frozen BK106.out 1; have hfz11_2 := blk_frozen BK106.out 2; go_wp2; go_meet
        case rel => exact ⟨_, (false), rz_, H', ⟨by first | omega | exact Nat.le_refl _⟩, ⟨by (with_reducible repeat (first | refine blk_drewN ?_ _ | refine blk_drew ?_ | refine blk_alloc ?_ _)); exact BK106.out⟩, ⟨by repeat (first | (with_reducible first | exact HB.out | apply below_alloc | apply pw_below_drewN | apply below_drew1 | refine below_set ?_ GE106.out) | exact HB.out)⟩⟩
    · rw [if_neg c4] at H; have c4b0 : decide (1 ≤ a0_0) = false := decide_eq_false c4; clear c4
      (first | rw [c4b0] | (simp only [i64_w, i32_w]; rw [c4b0]) | skip)
      have H' := Aside0.mk H; clear H; have hcz12_0 : w3.cell? ⟨gb106, 0, none⟩ = some (.int .i64 a0_0) := (blk_cell BK106.out 0).trans rfl; have hcz12_1 : w3.cell? ⟨gb106, 1, none⟩ = some (.slice A0_1 l0_1.length c0_1) := (blk_cell BK106.out 1).trans rfl; have hcz12_2 : w3.cell? ⟨gb106, 2, none⟩ = some (.int .i64 a0_2) := (blk_cell BK106.out 2).trans rfl; have hfz12_0 := blk_frozen BK106.out 0; have hfz12_1 := blk_frozen BK106.out 1; have hfz12_2 := blk_frozen BK106.out 2; go_wp2; go_meet
      case rel => exact ⟨_, (false), rz_, H', ⟨by first | omega | exact Nat.le_refl _⟩, ⟨by (with_reducible repeat (first | refine blk_drewN ?_ _ | refine blk_drew ?_ | refine blk_alloc ?_ _)); exact BK106.out⟩, ⟨by repeat (first | (with_reducible first | exact HB.out | apply below_alloc | apply pw_below_drewN | apply below_drew1 | refine below_set ?_ GE106.out) | exact HB.out)⟩⟩
  case rest =>
    clear HC2; obtain ⟨kq, x3_1, rfl, HA, HJ1, BK106, HB⟩ := hcut; cases kq with
    | zero => exact absurd HA.out (by simp [group_Check.j0])
    | succ kj1 =>
      have H := HA.out; clear HA; simp only [group_Check.j0] at H; have H' := Aside0.mk H; clear H; have hcz13_0 : wc.cell? ⟨gb106, 0, none⟩ = some (.int .i64 a0_0) := (blk_cell BK106.out 0).trans rfl; have hcz13_1 : wc.cell? ⟨gb106, 1, none⟩ = some (.slice A0_1 l0_1.length c0_1) := (blk_cell BK106.out 1).trans rfl; have hcz13_2 : wc.cell? ⟨gb106, 2, none⟩ = some (.int .i64 a0_2) := (blk_cell BK106.out 2).trans rfl; have hfz13_0 := blk_frozen BK106.out 0; have hfz13_1 := blk_frozen BK106.out 1; have hfz13_2 := blk_frozen BK106.out 2; go_wp2; go_loopg [3, 33] kj1 (fun kq v3 v33 w' => ∃ (x3_2 : Bool) (x33_2 : Int), v3 = .bool x3_2 ∧ v33 = .int .i64 x33_2 ∧ Aside0 (group_Check.l0 kq x3_2 l0_1 (l0_1.length : Int) x33_2 a0_0 l0_1 a0_2 = some r) ∧ Aside0 (kq ≤ kj1) ∧ Aside0 (w'.heap[gb106]? = some (.cells #[.int .i64 a0_0, (.slice A0_1 l0_1.length c0_1), .int .i64 a0_2] 24 (0, 0))) ∧ Aside0 (Below w.heap.size w w'))
      case atStart => exact ⟨(x3_1), (0), rz_, rz_, H', ⟨Nat.le_refl _⟩, ⟨by (with_reducible repeat (first | refine blk_drewN ?_ _ | refine blk_drew ?_ | refine blk_alloc ?_ _)); exact BK106.out⟩, ⟨by repeat (first | (with_reducible first | exact HB.out | apply below_alloc | apply pw_below_drewN | apply below_drew1 | refine below_set ?_ GE106.out) | exact HB.out)⟩⟩
      case round =>
        clear H'; obtain ⟨x3_2, x33_2, rfl, rfl, HA, HK2, BK106, HB⟩ := hrel; cases gk with
        | zero => exact absurd HA.out (by simp [group_Check.l0])
        | succ k2 =>
          have H := HA.out; clear HA; simp only [group_Check.l0] at H; by_cases c14 : x33_2 < (l0_1.length : Int)
          · rw [if_pos c14] at H; have c14b0 : decide (x33_2 < (l0_1.length : Int)) = true := decide_eq_true c14; clear c14; by_cases c15 : 0 ≤ x33_2
            · rw [if_pos c15] at H; have c15b0 : decide (0 ≤ x33_2) = true := decide_eq_true c15; clear c15; by_cases c16 : x33_2 < (l0_1.length : Int)
              · rw [if_pos c16] at H; have c16b0 : decide (x33_2 < (l0_1.length : Int)) = true := decide_eq_true c16; clear c16; by_cases c17 : x3_2 = true
                · subst c17; have H1 : (if ((rd_T46 l0_1 x33_2).f0) = (wrap64 (x33_2 + 1)) then (if ((rd_T46 l0_1 x33_2).f1) ≥ 0 then (group_Check.l0 k2 (decide (((rd_T46 l0_1 x33_2).f1) ≤ 1099511627775)) l0_1 (l0_1.length : Int) (wrap64 (x33_2 + 1)) a0_0 l0_1 a0_2) else (group_Check.l0 k2 false l0_1 (l0_1.length : Int) (wrap64 (x33_2 + 1)) a0_0 l0_1 a0_2)) else (group_Check.l0 k2 false l0_1 (l0_1.length : Int) (wrap64 (x33_2 + 1)) a0_0 l0_1 a0_2)) = some r := by rw [if_pos rfl] at H; exact H
                  clear H; have H := H1; clear H1; by_cases c18 : ((rd_T46 l0_1 x33_2).f0) = (wrap64 (x33_2 + 1))
                  · rw [if_pos c18] at H; have c18b0 : (((rd_T46 l0_1 x33_2).f0) == (wrap64 (x33_2 + 1))) = true := beq_iff_eq.mpr c18; have c18b1 : (((rd_T46 l0_1 x33_2).f0) != (wrap64 (x33_2 + 1))) = false := bne_eq_false_iff_eq.mpr c18; clear c18; by_cases c19 : ((rd_T46 l0_1 x33_2).f1) ≥ 0
                    · rw [if_pos c19] at H; have c19b0 : decide (0 ≤ ((rd_T46 l0_1 x33_2).f1)) = true := decide_eq_true c19; clear c19; have H' := Aside0.mk H; clear H; have p107 : 0 ≤ (x33_2 : Int) := of_decide_eq_true as_'; have q107 : x33_2 < (l0_1.length : Int) := of_decide_eq_true as_'; obtain ⟨ad107, e107, hx107_0, hx107_1, hx107_2⟩ := at_T46 HR0_1.out x33_2 p107 q107; cases e107; replace hx107_0 := (HB.out.cell (World.block_lt_of_cell? w _ hx107_0)).trans hx107_0; replace hx107_1 := (HB.out.cell (World.block_lt_of_cell? w _ hx107_1)).trans hx107_1; replace hx107_2 := (HB.out.cell (World.block_lt_of_cell? w _ hx107_2)).trans hx107_2; replace p107 := eq_true p107; replace q107 := eq_true q107; go_wp2_with (first | ((with_reducible refine gate_dst (N := 5) rfl ?_); (try (refine gate_guard (by rfl) ?_; dsimp only)); refine box_event ?hg (N := 5) ?hd (cs := #[.int .i64 0, .int .i64 0, .bool false]) (t := 46) ?hr ?_; (case hd => rfl); (case hg => rfl); (case hr => first | (go_simp; done) | (go_simp; rfl)); intro gb108 hg w20 hbox hb; have n0_ := Aside0.mk (blk_below (g := gb106) (o := .cells #[.int .i64 a0_0, .slice (some ad107) l0_1.length c0_1, .int .i64 a0_2] 24 (0, 0)) (by (with_reducible repeat (first | refine blk_drewN ?_ _ | refine blk_drew ?_ | refine blk_alloc ?_ _)); exact BK106.out) hb); have n1_ := Aside0.mk (below_step (by repeat (first | (with_reducible first | exact HB.out | apply below_alloc | apply pw_below_drewN | apply below_drew1 | refine below_set ?_ GE106.out) | exact HB.out)) hb); have n2_ := Aside0.mk (hbox); have n3_ := Aside0.mk ((by rw [hg]; exact (below_size (by repeat (first | (with_reducible first | exact HB.out | apply below_alloc | apply pw_below_drewN | apply below_drew1 | refine below_set ?_ GE106.out) | exact HB.out))) : w.heap.size ≤ gb108)); have n4_ := Aside0.mk ((by rw [hg]; exact (below_size (by repeat (first | (with_reducible first | exact HB.out | apply below_alloc | apply pw_below_drewN | apply below_drew1 | refine below_set ?_ GE106.out) | exact HB.out))) : w.heap.size ≤ gb108)); have n5_ := Aside0.mk ((by rw [hg]; exact Nat.ne_of_lt (blk_lt (g := gb106) (o := .cells #[.int .i64 a0_0, .slice (some ad107) l0_1.length c0_1, .int .i64 a0_2] 24 (0, 0)) (by (with_reducible repeat (first | refine blk_drewN ?_ _ | refine blk_drew ?_ | refine blk_alloc ?_ _)); exact BK106.out)) : gb106 ≠ gb108)); have n6_ := Aside0.mk ((by rw [hg]; exact Nat.ne_of_gt (blk_lt (g := gb106) (o := .cells #[.int .i64 a0_0, .slice (some ad107) l0_1.length c0_1, .int .i64 a0_2] 24 (0, 0)) (by (with_reducible repeat (first | refine blk_drewN ?_ _ | refine blk_drew ?_ | refine blk_alloc ?_ _)); exact BK106.out)) : gb108 ≠ gb106)); clear BK106; clear HB; have BK106 := n0_; have HB := n1_; have BK108 := n2_; have GW108 := n3_; have GE108 := n4_; have NB106_108 := n5_; have NB108_106 := n6_; clear n0_ n1_ n2_ n3_ n4_ n5_ n6_; clear hb hbox hg; have hnb21 := NB108_106.out; have hnc21 := NB106_108.out; have hcz22_0 : w20.cell? ⟨gb108, 0, none⟩ = some (.int .i64 0) := (blk_cell BK108.out 0).trans rfl; have hcz22_1 : w20.cell? ⟨gb108, 1, none⟩ = some (.int .i64 0) := (blk_cell BK108.out 1).trans rfl; have hcz22_2 : w20.cell? ⟨gb108, 2, none⟩ = some (.bool false) := (blk_cell BK108.out 2).trans rfl; have hfz22_0 := blk_frozen BK108.out 0; have hfz22_1 := blk_frozen BK108.out 1; have hfz22_2 := blk_frozen BK108.out 2))
                      go_roundg k2
                      case measure => have := HJ1.out; have := HK2.out; omega
                      case rel => exact ⟨(decide (((rd_T46 l0_1 x33_2).f1) ≤ 1099511627775)), (wrap64 (x33_2 + 1)), rz_, rz_, H', ⟨by have := HJ1.out; have := HK2.out; omega⟩, ⟨by (with_reducible repeat (first | refine blk_drewN ?_ _ | refine blk_drew ?_ | refine blk_alloc ?_ _)); refine blk_far ?_ NB106_108.out _; (with_reducible repeat (first | refine blk_drewN ?_ _ | refine blk_drew ?_ | refine blk_alloc ?_ _)); refine blk_far ?_ NB106_108.out _; (with_reducible repeat (first | refine blk_drewN ?_ _ | refine blk_drew ?_ | refine blk_alloc ?_ _)); refine blk_far ?_ NB106_108.out _; (with_reducible repeat (first | refine blk_drewN ?_ _ | refine blk_drew ?_ | refine blk_alloc ?_ _)); exact BK106.out⟩, ⟨by repeat (first | (with_reducible first | exact HB.out | apply below_alloc | apply pw_below_drewN | apply below_drew1 | refine below_set ?_ GE106.out | refine below_set ?_ GE108.out) | exact HB.out)⟩⟩
                    · rw [if_neg c19] at H; have c19b0 : decide (0 ≤ ((rd_T46 l0_1 x33_2).f1)) = false := decide_eq_false c19; clear c19; have H' := Aside0.mk H; clear H; have p107 : 0 ≤ (x33_2 : Int) := of_decide_eq_true as_'; have q107 : x33_2 < (l0_1.length : Int) := of_decide_eq_true as_'; obtain ⟨ad107, e107, hx107_0, hx107_1, hx107_2⟩ := at_T46 HR0_1.out x33_2 p107 q107; cases e107; replace hx107_0 := (HB.out.cell (World.block_lt_of_cell? w _ hx107_0)).trans hx107_0; replace hx107_1 := (HB.out.cell (World.block_lt_of_cell? w _ hx107_1)).trans hx107_1; replace hx107_2 := (HB.out.cell (World.block_lt_of_cell? w _ hx107_2)).trans hx107_2; replace p107 := eq_true p107; replace q107 := eq_true q107; go_wp2_with (first | ((with_reducible refine gate_dst (N := 5) rfl ?_); (try (refine gate_guard (by rfl) ?_; dsimp only)); refine box_event ?hg (N := 5) ?hd (cs := #[.int .i64 0, .int .i64 0, .bool false]) (t := 46) ?hr ?_; (case hd => rfl); (case hg => rfl); (case hr => first | (go_simp; done) | (go_simp; rfl)); intro gb108 hg w23 hbox hb; have n0_ := Aside0.mk (blk_below (g := gb106) (o := .cells #[.int .i64 a0_0, .slice (some ad107) l0_1.length c0_1, .int .i64 a0_2] 24 (0, 0)) (by (with_reducible repeat (first | refine blk_drewN ?_ _ | refine blk_drew ?_ | refine blk_alloc ?_ _)); exact BK106.out) hb); have n1_ := Aside0.mk (below_step (by repeat (first | (with_reducible first | exact HB.out | apply below_alloc | apply pw_below_drewN | apply below_drew1 | refine below_set ?_ GE106.out) | exact HB.out)) hb); have n2_ := Aside0.mk (hbox); have n3_ := Aside0.mk ((by rw [hg]; exact (below_size (by repeat (first | (with_reducible first | exact HB.out | apply below_alloc | apply pw_below_drewN | apply below_drew1 | refine below_set ?_ GE106.out) | exact HB.out))) : w.heap.size ≤ gb108)); have n4_ := Aside0.mk ((by rw [hg]; exact (below_size (by repeat (first | (with_reducible first | exact HB.out | apply below_alloc | apply pw_below_drewN | apply below_drew1 | refine below_set ?_ GE106.out) | exact HB.out))) : w.heap.size ≤ gb108)); have n5_ := Aside0.mk ((by rw [hg]; exact Nat.ne_of_lt (blk_lt (g := gb106) (o := .cells #[.int .i64 a0_0, .slice (some ad107) l0_1.length c0_1, .int .i64 a0_2] 24 (0, 0)) (by (with_reducible repeat (first | refine blk_drewN ?_ _ | refine blk_drew ?_ | refine blk_alloc ?_ _)); exact BK106.out)) : gb106 ≠ gb108)); have n6_ := Aside0.mk ((by rw [hg]; exact Nat.ne_of_gt (blk_lt (g := gb106) (o := .cells #[.int .i64 a0_0, .slice (some ad107) l0_1.length c0_1, .int .i64 a0_2] 24 (0, 0)) (by (with_reducible repeat (first | refine blk_drewN ?_ _ | refine blk_drew ?_ | refine blk_alloc ?_ _)); exact BK106.out)) : gb108 ≠ gb106)); clear BK106; clear HB; have BK106 := n0_; have HB := n1_; have BK108 := n2_; have GW108 := n3_; have GE108 := n4_; have NB106_108 := n5_; have NB108_106 := n6_; clear n0_ n1_ n2_ n3_ n4_ n5_ n6_; clear hb hbox hg; have hnb24 := NB108_106.out; have hnc24 := NB106_108.out; have hcz25_0 : w23.cell? ⟨gb108, 0, none⟩ = some (.int .i64 0) := (blk_cell BK108.out 0).trans rfl; have hcz25_1 : w23.cell? ⟨gb108, 1, none⟩ = some (.int .i64 0) := (blk_cell BK108.out 1).trans rfl; have hcz25_2 : w23.cell? ⟨gb108, 2, none⟩ = some (.bool false) := (blk_cell BK108.out 2).trans rfl; have hfz25_0 := blk_frozen BK108.out 0; have hfz25_1 := blk_frozen BK108.out 1; have hfz25_2 := blk_frozen BK108.out 2))
                      go_roundg k2
                      case measure => have := HJ1.out; have := HK2.out; omega
                      case rel => exact ⟨(false), (wrap64 (x33_2 + 1)), rz_, rz_, H', ⟨by have := HJ1.out; have := HK2.out; omega⟩, ⟨by (with_reducible repeat (first | refine blk_drewN ?_ _ | refine blk_drew ?_ | refine blk_alloc ?_ _)); refine blk_far ?_ NB106_108.out _; (with_reducible repeat (first | refine blk_drewN ?_ _ | refine blk_drew ?_ | refine blk_alloc ?_ _)); refine blk_far ?_ NB106_108.out _; (with_reducible repeat (first | refine blk_drewN ?_ _ | refine blk_drew ?_ | refine blk_alloc ?_ _)); refine blk_far ?_ NB106_108.out _; (with_reducible repeat (first | refine blk_drewN ?_ _ | refine blk_drew ?_ | refine blk_alloc ?_ _)); exact BK106.out⟩, ⟨by repeat (first | (with_reducible first | exact HB.out | apply below_alloc | apply pw_below_drewN | apply below_drew1 | refine below_set ?_ GE106.out | refine below_set ?_ GE108.out) | exact HB.out)⟩⟩
                  · rw [if_neg c18] at H; have c18b0 : (((rd_T46 l0_1 x33_2).f0) == (wrap64 (x33_2 + 1))) = false := beq_eq_false_iff_ne.mpr c18; have c18b1 : (((rd_T46 l0_1 x33_2).f0) != (wrap64 (x33_2 + 1))) = true := bne_iff_ne.mpr c18; have H' := Aside0.mk H; clear H; have p107 : 0 ≤ (x33_2 : Int) := of_decide_eq_true as_'; have q107 : x33_2 < (l0_1.length : Int) := of_decide_eq_true as_'; obtain ⟨ad107, e107, hx107_0, hx107_1, hx107_2⟩ := at_T46 HR0_1.out x33_2 p107 q107; cases e107; replace hx107_0 := (HB.out.cell (World.block_lt_of_cell? w _ hx107_0)).trans hx107_0; replace hx107_1 := (HB.out.cell (World.block_lt_of_cell? w _ hx107_1)).trans hx107_1; replace hx107_2 := (HB.out.cell (World.block_lt_of_cell? w _ hx107_2)).trans hx107_2; replace p107 := eq_true p107; replace q107 := eq_true q107; go_wp2_with (first | ((with_reducible refine gate_dst (N := 5) rfl ?_); (try (refine gate_guard (by rfl) ?_; dsimp only)); refine box_event ?hg (N := 5) ?hd (cs := #[.int .i64 0, .int .i64 0, .bool false]) (t := 46) ?hr ?_; (case hd => rfl); (case hg => rfl); (case hr => first | (go_simp; done) | (go_simp; rfl)); intro gb108 hg w26 hbox hb; have n0_ := Aside0.mk (blk_below (g := gb106) (o := .cells #[.int .i64 a0_0, .slice (some ad107) l0_1.length c0_1, .int .i64 a0_2] 24 (0, 0)) (by (with_reducible repeat (first | refine blk_drewN ?_ _ | refine blk_drew ?_ | refine blk_alloc ?_ _)); exact BK106.out) hb); have n1_ := Aside0.mk (below_step (by repeat (first | (with_reducible first | exact HB.out | apply below_alloc | apply pw_below_drewN | apply below_drew1 | refine below_set ?_ GE106.out) | exact HB.out)) hb); have n2_ := Aside0.mk (hbox); have n3_ := Aside0.mk ((by rw [hg]; exact (below_size (by repeat (first | (with_reducible first | exact HB.out | apply below_alloc | apply pw_below_drewN | apply below_drew1 | refine below_set ?_ GE106.out) | exact HB.out))) : w.heap.size ≤ gb108)); have n4_ := Aside0.mk ((by rw [hg]; exact (below_size (by repeat (first | (with_reducible first | exact HB.out | apply below_alloc | apply pw_below_drewN | apply below_drew1 | refine below_set ?_ GE106.out) | exact HB.out))) : w.heap.size ≤ gb108)); have n5_ := Aside0.mk ((by rw [hg]; exact Nat.ne_of_lt (blk_lt (g := gb106) (o := .cells #[.int .i64 a0_0, .slice (some ad107) l0_1.length c0_1, .int .i64 a0_2] 24 (0, 0)) (by (with_reducible repeat (first | refine blk_drewN ?_ _ | refine blk_drew ?_ | refine blk_alloc ?_ _)); exact BK106.out)) : gb106 ≠ gb108)); have n6_ := Aside0.mk ((by rw [hg]; exact Nat.ne_of_gt (blk_lt (g := gb106) (o := .cells #[.int .i64 a0_0, .slice (some ad107) l0_1.length c0_1, .int .i64 a0_2] 24 (0, 0)) (by (with_reducible repeat (first | refine blk_drewN ?_ _ | refine blk_drew ?_ | refine blk_alloc ?_ _)); exact BK106.out)) : gb108 ≠ gb106)); clear BK106; clear HB; have BK106 := n0_; have HB := n1_; have BK108 := n2_; have GW108 := n3_; have GE108 := n4_; have NB106_108 := n5_; have NB108_106 := n6_; clear n0_ n1_ n2_ n3_ n4_ n5_ n6_; clear hb hbox hg; have hnb27 := NB108_106.out; have hnc27 := NB106_108.out; have hcz28_0 : w26.cell? ⟨gb108, 0, none⟩ = some (.int .i64 0) := (blk_cell BK108.out 0).trans rfl; have hcz28_1 : w26.cell? ⟨gb108, 1, none⟩ = some (.int .i64 0) := (blk_cell BK108.out 1).trans rfl; have hcz28_2 : w26.cell? ⟨gb108, 2, none⟩ = some (.bool false) := (blk_cell BK108.out 2).trans rfl; have hfz28_0 := blk_frozen BK108.out 0; have hfz28_1 := blk_frozen BK108.out 1; have hfz28_2 := blk_frozen BK108.out 2))
                    go_roundg k2
                    case measure => have := HJ1.out; have := HK2.out; omega
                    case rel => exact ⟨(false), (wrap64 (x33_2 + 1)), rz_, rz_, H', ⟨by have := HJ1.out; have := HK2.out; omega⟩, ⟨by (with_reducible repeat (first | refine blk_drewN ?_ _ | refine blk_drew ?_ | refine blk_alloc ?_ _)); refine blk_far ?_ NB106_108.out _; (with_reducible repeat (first | refine blk_drewN ?_ _ | refine blk_drew ?_ | refine blk_alloc ?_ _)); refine blk_far ?_ NB106_108.out _; (with_reducible repeat (first | refine blk_drewN ?_ _ | refine blk_drew ?_ | refine blk_alloc ?_ _)); refine blk_far ?_ NB106_108.out _; (with_reducible repeat (first | refine blk_drewN ?_ _ | refine blk_drew ?_ | refine blk_alloc ?_ _)); exact BK106.out⟩, ⟨by repeat (first | (with_reducible first | exact HB.out | apply below_alloc | apply pw_below_drewN | apply below_drew1 | refine below_set ?_ GE106.out | refine below_set ?_ GE108.out) | exact HB.out)⟩⟩
                · replace c17 := Bool.eq_false_iff.mpr c17; subst c17; have H1 : (group_Check.l0 k2 false l0_1 (l0_1.length : Int) (wrap64 (x33_2 + 1)) a0_0 l0_1 a0_2) = some r := by rw [if_neg (show ¬ (false = true) by decide)] at H; exact H
                  clear H; have H := H1; clear H1; have H' := Aside0.mk H; clear H; have p107 : 0 ≤ (x33_2 : Int) := of_decide_eq_true as_'; have q107 : x33_2 < (l0_1.length : Int) := of_decide_eq_true as_'; obtain ⟨ad107, e107, hx107_0, hx107_1, hx107_2⟩ := at_T46 HR0_1.out x33_2 p107 q107; cases e107; replace hx107_0 := (HB.out.cell (World.block_lt_of_cell? w _ hx107_0)).trans hx107_0; replace hx107_1 := (HB.out.cell (World.block_lt_of_cell? w _ hx107_1)).trans hx107_1; replace hx107_2 := (HB.out.cell (World.block_lt_of_cell? w _ hx107_2)).trans hx107_2; replace p107 := eq_true p107; replace q107 := eq_true q107; go_wp2_with (first | ((with_reducible refine gate_dst (N := 5) rfl ?_); (try (refine gate_guard (by rfl) ?_; dsimp only)); refine box_event ?hg (N := 5) ?hd (cs := #[.int .i64 0, .int .i64 0, .bool false]) (t := 46) ?hr ?_; (case hd => rfl); (case hg => rfl); (case hr => first | (go_simp; done) | (go_simp; rfl)); intro gb108 hg w29 hbox hb; have n0_ := Aside0.mk (blk_below (g := gb106) (o := .cells #[.int .i64 a0_0, .slice (some ad107) l0_1.length c0_1, .int .i64 a0_2] 24 (0, 0)) (by (with_reducible repeat (first | refine blk_drewN ?_ _ | refine blk_drew ?_ | refine blk_alloc ?_ _)); exact BK106.out) hb); have n1_ := Aside0.mk (below_step (by repeat (first | (with_reducible first | exact HB.out | apply below_alloc | apply pw_below_drewN | apply below_drew1 | refine below_set ?_ GE106.out) | exact HB.out)) hb); have n2_ := Aside0.mk (hbox); have n3_ := Aside0.mk ((by rw [hg]; exact (below_size (by repeat (first | (with_reducible first | exact HB.out | apply below_alloc | apply pw_below_drewN | apply below_drew1 | refine below_set ?_ GE106.out) | exact HB.out))) : w.heap.size ≤ gb108)); have n4_ := Aside0.mk ((by rw [hg]; exact (below_size (by repeat (first | (with_reducible first | exact HB.out | apply below_alloc | apply pw_below_drewN | apply below_drew1 | refine below_set ?_ GE106.out) | exact HB.out))) : w.heap.size ≤ gb108)); have n5_ := Aside0.mk ((by rw [hg]; exact Nat.ne_of_lt (blk_lt (g := gb106) (o := .cells #[.int .i64 a0_0, .slice (some ad107) l0_1.length c0_1, .int .i64 a0_2] 24 (0, 0)) (by (with_reducible repeat (first | refine blk_drewN ?_ _ | refine blk_drew ?_ | refine blk_alloc ?_ _)); exact BK106.out)) : gb106 ≠ gb108)); have n6_ := Aside0.mk ((by rw [hg]; exact Nat.ne_of_gt (blk_lt (g := gb106) (o := .cells #[.int .i64 a0_0, .slice (some ad107) l0_1.length c0_1, .int .i64 a0_2] 24 (0, 0)) (by (with_reducible repeat (first | refine blk_drewN ?_ _ | refine blk_drew ?_ | refine blk_alloc ?_ _)); exact BK106.out)) : gb108 ≠ gb106)); clear BK106; clear HB; have BK106 := n0_; have HB := n1_; have BK108 := n2_; have GW108 := n3_; have GE108 := n4_; have NB106_108 := n5_; have NB108_106 := n6_; clear n0_ n1_ n2_ n3_ n4_ n5_ n6_; clear hb hbox hg; have hnb30 := NB108_106.out; have hnc30 := NB106_108.out; have hcz31_0 : w29.cell? ⟨gb108, 0, none⟩ = some (.int .i64 0) := (blk_cell BK108.out 0).trans rfl; have hcz31_1 : w29.cell? ⟨gb108, 1, none⟩ = some (.int .i64 0) := (blk_cell BK108.out 1).trans rfl; have hcz31_2 : w29.cell? ⟨gb108, 2, none⟩ = some (.bool false) := (blk_cell BK108.out 2).trans rfl; have hfz31_0 := blk_frozen BK108.out 0; have hfz31_1 := blk_frozen BK108.out 1; have hfz31_2 := blk_frozen BK108.out 2))
                  go_roundg k2
                  case measure => have := HJ1.out; have := HK2.out; omega
                  case rel => exact ⟨(false), (wrap64 (x33_2 + 1)), rz_, rz_, H', ⟨by have := HJ1.out; have := HK2.out; omega⟩, ⟨by (with_reducible repeat (first | refine blk_drewN ?_ _ | refine blk_drew ?_ | refine blk_alloc ?_ _)); refine blk_far ?_ NB106_108.out _; (with_reducible repeat (first | refine blk_drewN ?_ _ | refine blk_drew ?_ | refine blk_alloc ?_ _)); refine blk_far ?_ NB106_108.out _; (with_reducible repeat (first | refine blk_drewN ?_ _ | refine blk_drew ?_ | refine blk_alloc ?_ _)); refine blk_far ?_ NB106_108.out _; (with_reducible repeat (first | refine blk_drewN ?_ _ | refine blk_drew ?_ | refine blk_alloc ?_ _)); exact BK106.out⟩, ⟨by repeat (first | (with_reducible first | exact HB.out | apply below_alloc | apply pw_below_drewN | apply below_drew1 | refine below_set ?_ GE106.out | refine below_set ?_ GE108.out) | exact HB.out)⟩⟩
              · rw [if_neg c16] at H; exact absurd H (by simp)
            · rw [if_neg c15] at H; exact absurd H (by simp)
          · rw [if_neg c14] at H; have c14b0 : decide (x33_2 < (l0_1.length : Int)) = false := decide_eq_false c14; clear c14; by_cases c32 : x3_2 = true
            · subst c32; have H1 : (if 0 < (l0_1.length : Int) then (if ((rd_T46 l0_1 0).f2 = true) then (some 0) else (some 1)) else (none)) = some r := by rw [if_pos rfl] at H; exact H
              clear H; have H := H1; clear H1; by_cases c33 : 0 < (l0_1.length : Int)
              · rw [if_pos c33] at H; have c33b0 : decide (0 < (l0_1.length : Int)) = true := decide_eq_true c33; have c33b1 : decide (0 < l0_1.length) = true := decide_eq_true (by omega); clear c33; obtain ⟨bq34, hbq34⟩ : ∃ b_ : Bool, b_ = ((rd_T46 l0_1 0).f2) := ⟨_, rfl⟩; replace H : (if (bq34 = true) then (some 0) else (some 1)) = some r := by rw [← hbq34] at H; exact H
                have Nbq34 := Aside0.mk hbq34; clear hbq34; by_cases c35 : (bq34 = true)
                · subst c35; have H1 : (some 0) = some r := by rw [if_pos rfl] at H; exact H
                  clear H; have H := H1; clear H1; obtain rfl := Option.some.inj H; have hcz36_0 : wr.cell? ⟨gb106, 0, none⟩ = some (.int .i64 a0_0) := (blk_cell BK106.out 0).trans rfl; have hcz36_1 : wr.cell? ⟨gb106, 1, none⟩ = some (.slice A0_1 l0_1.length c0_1) := (blk_cell BK106.out 1).trans rfl; have hcz36_2 : wr.cell? ⟨gb106, 2, none⟩ = some (.int .i64 a0_2) := (blk_cell BK106.out 2).trans rfl; have hfz36_0 := blk_frozen BK106.out 0; have hfz36_1 := blk_frozen BK106.out 1; have hfz36_2 := blk_frozen BK106.out 2; have p109 : 0 ≤ (0 : Int) := (by omega); have q109 : 0 < (l0_1.length : Int) := of_decide_eq_true as_'; obtain ⟨ad109, e109, hx109_0, hx109_1, hx109_2⟩ := at_T46 HR0_1.out 0 p109 q109
                  (try rw [← Nbq34.out] at hx109_2)
                  (try rw [← Nbq34.out] at hw109_2)
                  cases e109; have qi109 : (0 < l0_1.length) = True := eq_true (by omega)
                  (try rw [show ((0 : Int)).toNat = 0 from rfl] at hx109_0)
                  (try rw [show 0 * 3 = 0 from rfl] at hx109_0)
                  (try rw [Addr.add_zero'] at hx109_0)
                  (try rw [show ((0 : Int)).toNat = 0 from rfl] at hx109_1)
                  (try rw [show 0 * 3 = 0 from rfl] at hx109_1)
                  (try rw [Addr.add_zero'] at hx109_1)
                  (try rw [show ((0 : Int)).toNat = 0 from rfl] at hx109_2)
                  (try rw [show 0 * 3 = 0 from rfl] at hx109_2)
                  (try rw [Addr.add_zero'] at hx109_2)
                  replace hx109_0 := (HB.out.cell (World.block_lt_of_cell? w _ hx109_0)).trans hx109_0; replace hx109_1 := (HB.out.cell (World.block_lt_of_cell? w _ hx109_1)).trans hx109_1; replace hx109_2 := (HB.out.cell (World.block_lt_of_cell? w _ hx109_2)).trans hx109_2; replace p109 := eq_true p109; replace q109 := eq_true q109; go_wp2; go_ret
                  exact ⟨ew_, by repeat (first | (with_reducible first | exact HB.out | apply below_alloc | apply pw_below_drewN | apply below_drew1 | refine below_set ?_ GE106.out) | exact HB.out)⟩
                · replace c35 := Bool.eq_false_iff.mpr c35; subst c35; have H1 : (some 1) = some r := by rw [if_neg (show ¬ (false = true) by decide)] at H; exact H
                  clear H; have H := H1; clear H1; obtain rfl := Option.some.inj H; have hcz37_0 : wr.cell? ⟨gb106, 0, none⟩ = some (.int .i64 a0_0) := (blk_cell BK106.out 0).trans rfl; have hcz37_1 : wr.cell? ⟨gb106, 1, none⟩ = some (.slice A0_1 l0_1.length c0_1) := (blk_cell BK106.out 1).trans rfl; have hcz37_2 : wr.cell? ⟨gb106, 2, none⟩ = some (.int .i64 a0_2) := (blk_cell BK106.out 2).trans rfl; have hfz37_0 := blk_frozen BK106.out 0; have hfz37_1 := blk_frozen BK106.out 1; have hfz37_2 := blk_frozen BK106.out 2; have p109 : 0 ≤ (0 : Int) := (by omega); have q109 : 0 < (l0_1.length : Int) := of_decide_eq_true as_'; obtain ⟨ad109, e109, hx109_0, hx109_1, hx109_2⟩ := at_T46 HR0_1.out 0 p109 q109
                  (try rw [← Nbq34.out] at hx109_2)
                  (try rw [← Nbq34.out] at hw109_2)
                  cases e109; have qi109 : (0 < l0_1.length) = True := eq_true (by omega)
                  (try rw [show ((0 : Int)).toNat = 0 from rfl] at hx109_0)
                  (try rw [show 0 * 3 = 0 from rfl] at hx109_0)
                  (try rw [Addr.add_zero'] at hx109_0)
                  (try rw [show ((0 : Int)).toNat = 0 from rfl] at hx109_1)
                  (try rw [show 0 * 3 = 0 from rfl] at hx109_1)
                  (try rw [Addr.add_zero'] at hx109_1)
                  (try rw [show ((0 : Int)).toNat = 0 from rfl] at hx109_2)
                  (try rw [show 0 * 3 = 0 from rfl] at hx109_2)
                  (try rw [Addr.add_zero'] at hx109_2)
                  replace hx109_0 := (HB.out.cell (World.block_lt_of_cell? w _ hx109_0)).trans hx109_0; replace hx109_1 := (HB.out.cell (World.block_lt_of_cell? w _ hx109_1)).trans hx109_1; replace hx109_2 := (HB.out.cell (World.block_lt_of_cell? w _ hx109_2)).trans hx109_2; replace p109 := eq_true p109; replace q109 := eq_true q109; go_wp2; go_ret
                  exact ⟨ew_, by repeat (first | (with_reducible first | exact HB.out | apply below_alloc | apply pw_below_drewN | apply below_drew1 | refine below_set ?_ GE106.out) | exact HB.out)⟩
              · rw [if_neg c33] at H; exact absurd H (by simp)
            · replace c32 := Bool.eq_false_iff.mpr c32; subst c32; have H1 : (some 1) = some r := by rw [if_neg (show ¬ (false = true) by decide)] at H; exact H
              clear H; have H := H1; clear H1; obtain rfl := Option.some.inj H; go_wp2; go_ret
              exact ⟨ew_, by repeat (first | (with_reducible first | exact HB.out | apply below_alloc | apply pw_below_drewN | apply below_drew1 | refine below_set ?_ GE106.out) | exact HB.out)⟩
end Go.Proofs.YthemhfloablccaaDoor.Pr
end

section
namespace Go.Proofs.YthemhfloablccaaDoor.Pr
open Go.RowKit Go.Deep Go.Proofs.YthemhfloablccaaDoorW.PrintWords Go.Proofs.YthemhfloablccaaDoorW.PrintLast Go.Proofs.YthemhfloablccaaDoorW.PrintMore
def name_Check.f (a0 : ByteArray) : Option Int := none
theorem name_Check.calls (a0 : ByteArray) (r : Int) (w : World) (h : name_Check.f a0 = some r) :
  Calls Tryd.prog 102 #[.string a0] w fun e w' => e = .returned (.int .i64 r) ∧ Below w.heap.size w w' := by cases h
end Go.Proofs.YthemhfloablccaaDoor.Pr
end

section
namespace Go.Proofs.YthemhfloablccaaDoor.Pr
open Go.RowKit Go.Proofs.YthemhfloablccaaDoorW.PrintWords Go.Proofs.YthemhfloablccaaDoorW.PrintLast Go.Proofs.YthemhfloablccaaDoorW.PrintMore
attribute [local go_sem] max2_int min2_int max_two min_two max_three min_three max_four min_four
def clock_may.f (a0_0 : Int) (a0_1 : Int) : Option (Bool) := if a0_0 ≥ 1 then (if a0_0 ≤ 1099511627775 then (if a0_1 ≥ 1 then (some (decide (a0_1 ≤ 6))) else (some false)) else (some false)) else (some false)
set_option maxHeartbeats 8000000 in
set_option maxRecDepth 100000 in
theorem clock_may.calls (a0_0 : Int) (a0_1 : Int) (r : Bool) (w : World) (h : clock_may.f a0_0 a0_1 = some r) :
  Calls Tryd.prog 123 #[.agg #[.int .i64 a0_0, .int .i64 a0_1]] w fun e w' => e = .returned (.bool r) ∧ Below w.heap.size w w' := by
 have hu26 := Tryd.underlying26; have HB := Aside0.mk (Below.refl w.heap.size w); have H : (if a0_0 ≥ 1 then (if a0_0 ≤ 1099511627775 then (if a0_1 ≥ 1 then (some (decide (a0_1 ≤ 6))) else (some false)) else (some false)) else (some false)) = some r := h; clear h; by_cases c2 : a0_0 ≥ 1
 ·rw [if_pos c2] at H; have c2b0 : decide (1 ≤ a0_0) = true := decide_eq_true c2; clear c2; by_cases c3 : a0_0 ≤ 1099511627775
  ·rw [if_pos c3] at H; have c3b0 : decide (a0_0 ≤ 1099511627775) = true := decide_eq_true c3; clear c3; by_cases c4 : a0_1 ≥ 1
   ·rw [if_pos c4] at H; have c4b0 : decide (1 ≤ a0_1) = true := decide_eq_true c4; clear c4; obtain rfl := Option.some.inj H; go_enter Tryd.func123, Tryd.ntmps123
    go_wp2_with (first | ((with_reducible refine gate_dst (N := 1) rfl ?_); refine box_event ?hg (N := 1) ?hd (cs := #[.int .i64 a0_0, .int .i64 a0_1]) (t := 26) ?hr ?_; (case hd => rfl); (case hg => rfl); (case hr => first | (go_simp; done) | (go_simp; rfl)); intro gb110 hg w5 hbox hb; have n0_ := Aside0.mk (below_step hb_ hb); have n1_ := Aside0.mk (hbox); have n2_ := Aside0.mk ((by rw [hg]; exact (below_size hb_) : w.heap.size ≤ gb110)); have n3_ := Aside0.mk ((by rw [hg]; exact (below_size hb_) : w.heap.size ≤ gb110)); clear HB; have HB := n0_; have BK110 := n1_; have GW110 := n2_; have GE110 := n3_; clear n0_ n1_ n2_ n3_; clear hb hbox hg; have hcz6_0 : w5.cell? ⟨gb110, 0, none⟩ = some (.int .i64 a0_0) := (blk_cell BK110.out 0).trans rfl; have hcz6_1 : w5.cell? ⟨gb110, 1, none⟩ = some (.int .i64 a0_1) := (blk_cell BK110.out 1).trans rfl; have hfz6_0 := blk_frozen BK110.out 0; have hfz6_1 := blk_frozen BK110.out 1))
    go_ret
    exact ⟨ew_, by repeat (first | (with_reducible first | exact HB.out | apply below_alloc | apply pw_below_drewN | apply below_drew1 | refine below_set ?_ GE110.out) | exact HB.out)⟩
   ·rw [if_neg c4] at H; have c4b0 : decide (1 ≤ a0_1) = false := decide_eq_false c4; clear c4; obtain rfl := Option.some.inj H; go_enter Tryd.func123, Tryd.ntmps123
    go_wp2_with (first | ((with_reducible refine gate_dst (N := 1) rfl ?_); refine box_event ?hg (N := 1) ?hd (cs := #[.int .i64 a0_0, .int .i64 a0_1]) (t := 26) ?hr ?_; (case hd => rfl); (case hg => rfl); (case hr => first | (go_simp; done) | (go_simp; rfl)); intro gb110 hg w7 hbox hb; have n0_ := Aside0.mk (below_step hb_ hb); have n1_ := Aside0.mk (hbox); have n2_ := Aside0.mk ((by rw [hg]; exact (below_size hb_) : w.heap.size ≤ gb110)); have n3_ := Aside0.mk ((by rw [hg]; exact (below_size hb_) : w.heap.size ≤ gb110)); clear HB; have HB := n0_; have BK110 := n1_; have GW110 := n2_; have GE110 := n3_; clear n0_ n1_ n2_ n3_; clear hb hbox hg; have hcz8_0 : w7.cell? ⟨gb110, 0, none⟩ = some (.int .i64 a0_0) := (blk_cell BK110.out 0).trans rfl; have hcz8_1 : w7.cell? ⟨gb110, 1, none⟩ = some (.int .i64 a0_1) := (blk_cell BK110.out 1).trans rfl; have hfz8_0 := blk_frozen BK110.out 0; have hfz8_1 := blk_frozen BK110.out 1))
    go_ret
    exact ⟨ew_, by repeat (first | (with_reducible first | exact HB.out | apply below_alloc | apply pw_below_drewN | apply below_drew1 | refine below_set ?_ GE110.out) | exact HB.out)⟩
  ·rw [if_neg c3] at H; have c3b0 : decide (a0_0 ≤ 1099511627775) = false := decide_eq_false c3; clear c3; obtain rfl := Option.some.inj H; go_enter Tryd.func123, Tryd.ntmps123
   go_wp2_with (first | ((with_reducible refine gate_dst (N := 1) rfl ?_); refine box_event ?hg (N := 1) ?hd (cs := #[.int .i64 a0_0, .int .i64 a0_1]) (t := 26) ?hr ?_; (case hd => rfl); (case hg => rfl); (case hr => first | (go_simp; done) | (go_simp; rfl)); intro gb110 hg w9 hbox hb; have n0_ := Aside0.mk (below_step hb_ hb); have n1_ := Aside0.mk (hbox); have n2_ := Aside0.mk ((by rw [hg]; exact (below_size hb_) : w.heap.size ≤ gb110)); have n3_ := Aside0.mk ((by rw [hg]; exact (below_size hb_) : w.heap.size ≤ gb110)); clear HB; have HB := n0_; have BK110 := n1_; have GW110 := n2_; have GE110 := n3_; clear n0_ n1_ n2_ n3_; clear hb hbox hg; have hcz10_0 : w9.cell? ⟨gb110, 0, none⟩ = some (.int .i64 a0_0) := (blk_cell BK110.out 0).trans rfl; have hcz10_1 : w9.cell? ⟨gb110, 1, none⟩ = some (.int .i64 a0_1) := (blk_cell BK110.out 1).trans rfl; have hfz10_0 := blk_frozen BK110.out 0; have hfz10_1 := blk_frozen BK110.out 1))
   go_ret
   exact ⟨ew_, by repeat (first | (with_reducible first | exact HB.out | apply below_alloc | apply pw_below_drewN | apply below_drew1 | refine below_set ?_ GE110.out) | exact HB.out)⟩
 ·rw [if_neg c2] at H; have c2b0 : decide (1 ≤ a0_0) = false := decide_eq_false c2; clear c2; obtain rfl := Option.some.inj H; go_enter Tryd.func123, Tryd.ntmps123
  go_wp2_with (first | ((with_reducible refine gate_dst (N := 1) rfl ?_); refine box_event ?hg (N := 1) ?hd (cs := #[.int .i64 a0_0, .int .i64 a0_1]) (t := 26) ?hr ?_; (case hd => rfl); (case hg => rfl); (case hr => first | (go_simp; done) | (go_simp; rfl)); intro gb110 hg w11 hbox hb; have n0_ := Aside0.mk (below_step hb_ hb); have n1_ := Aside0.mk (hbox); have n2_ := Aside0.mk ((by rw [hg]; exact (below_size hb_) : w.heap.size ≤ gb110)); have n3_ := Aside0.mk ((by rw [hg]; exact (below_size hb_) : w.heap.size ≤ gb110)); clear HB; have HB := n0_; have BK110 := n1_; have GW110 := n2_; have GE110 := n3_; clear n0_ n1_ n2_ n3_; clear hb hbox hg; have hcz12_0 : w11.cell? ⟨gb110, 0, none⟩ = some (.int .i64 a0_0) := (blk_cell BK110.out 0).trans rfl; have hcz12_1 : w11.cell? ⟨gb110, 1, none⟩ = some (.int .i64 a0_1) := (blk_cell BK110.out 1).trans rfl; have hfz12_0 := blk_frozen BK110.out 0; have hfz12_1 := blk_frozen BK110.out 1))
  go_ret
  exact ⟨ew_, by repeat (first | (with_reducible first | exact HB.out | apply below_alloc | apply pw_below_drewN | apply below_drew1 | refine below_set ?_ GE110.out) | exact HB.out)⟩
def clock_Check.f (a0_0 : Int) (a0_1 : Int) : Option (Int) := (clock_may.f a0_0 a0_1).bind fun t112 => (if t112 = true then (some 0) else (some 1))
set_option maxHeartbeats 8000000 in
set_option maxRecDepth 100000 in
theorem clock_Check.calls (a0_0 : Int) (a0_1 : Int) (r : Int) (w : World) (h : clock_Check.f a0_0 a0_1 = some r) :
  Calls Tryd.prog 115 #[.agg #[.int .i64 a0_0, .int .i64 a0_1]] w fun e w' => e = .returned (.int .i64 r) ∧ Below w.heap.size w w' := by
 have hu26 := Tryd.underlying26; have HB := Aside0.mk (Below.refl w.heap.size w); have H : ((clock_may.f a0_0 a0_1).bind fun t112 => (if t112 = true then (some 0) else (some 1))) = some r := h; clear h; replace H := Option.bind_eq_some_iff.mp H; obtain ⟨t112, A20, H⟩ := H; have A2 := Aside0.mk A20; clear A20; by_cases c3 : t112 = true
 ·subst c3; have H1 : (some 0) = some r := by rw [if_pos rfl] at H; exact H
  clear H; have H := H1; clear H1; obtain rfl := Option.some.inj H; go_enter Tryd.func115, Tryd.ntmps115
  go_wp2_with (first | ((with_reducible refine gate_dst (N := 1) rfl ?_); refine box_event ?hg (N := 1) ?hd (cs := #[.int .i64 a0_0, .int .i64 a0_1]) (t := 26) ?hr ?_; (case hd => rfl); (case hg => rfl); (case hr => first | (go_simp; done) | (go_simp; rfl)); intro gb111 hg w4 hbox hb; have n0_ := Aside0.mk (below_step hb_ hb); have n1_ := Aside0.mk (hbox); have n2_ := Aside0.mk ((by rw [hg]; exact (below_size hb_) : w.heap.size ≤ gb111)); have n3_ := Aside0.mk ((by rw [hg]; exact (below_size hb_) : w.heap.size ≤ gb111)); clear HB; have HB := n0_; have BK111 := n1_; have GW111 := n2_; have GE111 := n3_; clear n0_ n1_ n2_ n3_; clear hb hbox hg; have hcz5_0 : w4.cell? ⟨gb111, 0, none⟩ = some (.int .i64 a0_0) := (blk_cell BK111.out 0).trans rfl; have hcz5_1 : w4.cell? ⟨gb111, 1, none⟩ = some (.int .i64 a0_1) := (blk_cell BK111.out 1).trans rfl; have hfz5_0 := blk_frozen BK111.out 0; have hfz5_1 := blk_frozen BK111.out 1) | ((with_reducible refine gate_callee (f := 123) rfl ?_); refine gl_ 4 Tryd.func123 #[.agg #[.int .i64 a0_0, .int .i64 a0_1]] ?_; (with_reducible refine (clock_may.calls a0_0 a0_1 true _ A2.out).mono ?_); rintro e w6 ⟨rfl, hb⟩; refine ⟨_, rfl, ?_⟩; have n0_ := Aside0.mk (blk_below (g := gb111) (o := .cells #[.int .i64 a0_0, .int .i64 a0_1] 26 (0, 0)) (by (with_reducible repeat (first | refine blk_drewN ?_ _ | refine blk_drew ?_ | refine blk_alloc ?_ _)); exact BK111.out) hb); have n1_ := Aside0.mk (below_step (by repeat (first | (with_reducible first | exact HB.out | apply below_alloc | apply pw_below_drewN | apply below_drew1 | refine below_set ?_ GE111.out) | exact HB.out)) hb); clear BK111; clear HB; have BK111 := n0_; have HB := n1_; clear n0_ n1_))
  go_ret
  exact ⟨ew_, by repeat (first | (with_reducible first | exact HB.out | apply below_alloc | apply pw_below_drewN | apply below_drew1 | refine below_set ?_ GE111.out) | exact HB.out)⟩
 ·replace c3 := Bool.eq_false_iff.mpr c3; subst c3; have H1 : (some 1) = some r := by rw [if_neg (show ¬ (false = true) by decide)] at H; exact H
  clear H; have H := H1; clear H1; obtain rfl := Option.some.inj H; go_enter Tryd.func115, Tryd.ntmps115
  go_wp2_with (first | ((with_reducible refine gate_dst (N := 1) rfl ?_); refine box_event ?hg (N := 1) ?hd (cs := #[.int .i64 a0_0, .int .i64 a0_1]) (t := 26) ?hr ?_; (case hd => rfl); (case hg => rfl); (case hr => first | (go_simp; done) | (go_simp; rfl)); intro gb111 hg w7 hbox hb; have n0_ := Aside0.mk (below_step hb_ hb); have n1_ := Aside0.mk (hbox); have n2_ := Aside0.mk ((by rw [hg]; exact (below_size hb_) : w.heap.size ≤ gb111)); have n3_ := Aside0.mk ((by rw [hg]; exact (below_size hb_) : w.heap.size ≤ gb111)); clear HB; have HB := n0_; have BK111 := n1_; have GW111 := n2_; have GE111 := n3_; clear n0_ n1_ n2_ n3_; clear hb hbox hg; have hcz8_0 : w7.cell? ⟨gb111, 0, none⟩ = some (.int .i64 a0_0) := (blk_cell BK111.out 0).trans rfl; have hcz8_1 : w7.cell? ⟨gb111, 1, none⟩ = some (.int .i64 a0_1) := (blk_cell BK111.out 1).trans rfl; have hfz8_0 := blk_frozen BK111.out 0; have hfz8_1 := blk_frozen BK111.out 1) | ((with_reducible refine gate_callee (f := 123) rfl ?_); refine gl_ 4 Tryd.func123 #[.agg #[.int .i64 a0_0, .int .i64 a0_1]] ?_; (with_reducible refine (clock_may.calls a0_0 a0_1 false _ A2.out).mono ?_); rintro e w9 ⟨rfl, hb⟩; refine ⟨_, rfl, ?_⟩; have n0_ := Aside0.mk (blk_below (g := gb111) (o := .cells #[.int .i64 a0_0, .int .i64 a0_1] 26 (0, 0)) (by (with_reducible repeat (first | refine blk_drewN ?_ _ | refine blk_drew ?_ | refine blk_alloc ?_ _)); exact BK111.out) hb); have n1_ := Aside0.mk (below_step (by repeat (first | (with_reducible first | exact HB.out | apply below_alloc | apply pw_below_drewN | apply below_drew1 | refine below_set ?_ GE111.out) | exact HB.out)) hb); clear BK111; clear HB; have BK111 := n0_; have HB := n1_; clear n0_ n1_))
  go_ret
  exact ⟨ew_, by repeat (first | (with_reducible first | exact HB.out | apply below_alloc | apply pw_below_drewN | apply below_drew1 | refine below_set ?_ GE111.out) | exact HB.out)⟩
def tree_fine.f (a0_0 : Int) (a0_1 : Int) : Option (Bool) := (clock_Check.f a0_0 a0_1).bind fun t114 => (some (t114 == 0))
set_option maxHeartbeats 8000000 in
set_option maxRecDepth 100000 in
theorem tree_fine.calls (a0_0 : Int) (a0_1 : Int) (r : Bool) (w : World) (h : tree_fine.f a0_0 a0_1 = some r) :
  Calls Tryd.prog 101 #[.agg #[.int .i64 a0_0, .int .i64 a0_1]] w fun e w' => e = .returned (.bool r) ∧ Below w.heap.size w w' := by
 have hu26 := Tryd.underlying26; have HB := Aside0.mk (Below.refl w.heap.size w); have H : ((clock_Check.f a0_0 a0_1).bind fun t114 => (some (t114 == 0))) = some r := h; clear h; replace H := Option.bind_eq_some_iff.mp H; obtain ⟨t114, A20, H⟩ := H; have A2 := Aside0.mk A20; clear A20; obtain rfl := Option.some.inj H; go_enter Tryd.func101, Tryd.ntmps101
 go_wp2_with (first | ((with_reducible refine gate_dst (N := 1) rfl ?_); refine box_event ?hg (N := 1) ?hd (cs := #[.int .i64 a0_0, .int .i64 a0_1]) (t := 26) ?hr ?_; (case hd => rfl); (case hg => rfl); (case hr => first | (go_simp; done) | (go_simp; rfl)); intro gb113 hg w3 hbox hb; have n0_ := Aside0.mk (below_step hb_ hb); have n1_ := Aside0.mk (hbox); have n2_ := Aside0.mk ((by rw [hg]; exact (below_size hb_) : w.heap.size ≤ gb113)); have n3_ := Aside0.mk ((by rw [hg]; exact (below_size hb_) : w.heap.size ≤ gb113)); clear HB; have HB := n0_; have BK113 := n1_; have GW113 := n2_; have GE113 := n3_; clear n0_ n1_ n2_ n3_; clear hb hbox hg; have hcz4_0 : w3.cell? ⟨gb113, 0, none⟩ = some (.int .i64 a0_0) := (blk_cell BK113.out 0).trans rfl; have hcz4_1 : w3.cell? ⟨gb113, 1, none⟩ = some (.int .i64 a0_1) := (blk_cell BK113.out 1).trans rfl; have hfz4_0 := blk_frozen BK113.out 0; have hfz4_1 := blk_frozen BK113.out 1) | ((with_reducible refine gate_callee (f := 115) rfl ?_); refine gl_ 4 Tryd.func115 #[.agg #[.int .i64 a0_0, .int .i64 a0_1]] ?_; (with_reducible refine (clock_Check.calls a0_0 a0_1 t114 _ A2.out).mono ?_); rintro e w5 ⟨rfl, hb⟩; refine ⟨_, rfl, ?_⟩; have n0_ := Aside0.mk (blk_below (g := gb113) (o := .cells #[.int .i64 a0_0, .int .i64 a0_1] 26 (0, 0)) (by (with_reducible repeat (first | refine blk_drewN ?_ _ | refine blk_drew ?_ | refine blk_alloc ?_ _)); exact BK113.out) hb); have n1_ := Aside0.mk (below_step (by repeat (first | (with_reducible first | exact HB.out | apply below_alloc | apply pw_below_drewN | apply below_drew1 | refine below_set ?_ GE113.out) | exact HB.out)) hb); clear BK113; clear HB; have BK113 := n0_; have HB := n1_; clear n0_ n1_))
 go_ret
 exact ⟨ew_, by repeat (first | (with_reducible first | exact HB.out | apply below_alloc | apply pw_below_drewN | apply below_drew1 | refine below_set ?_ GE113.out) | exact HB.out)⟩
theorem eqA26 (d : Nat) (w : World) (x0 y0 : Int) (x1 y1 : Int) :
  (Op.equalIn (d + 2) 26 (.agg #[.int .i64 x0, .int .i64 x1]) (.agg #[.int .i64 y0, .int .i64 y1])).run Tryd.prog w = .ok (x0 == y0 && (x1 == y1)) w := by
 refine eqA_of Tryd.underlying26 (by kernel_rfl) ?_; refine eqf_cons (by rfl) (by go_simp; rfl) (by go_simp; rfl) (by go_simp) ?_; exact eqf_last (by rfl) (by go_simp; rfl) (by go_simp; rfl) (by go_simp)
end Go.Proofs.YthemhfloablccaaDoor.Pr
end

section
namespace Go.Proofs.YthemhfloablccaaDoor.Pr
open Go.RowKit Go.Proofs.YthemhfloablccaaDoorW.PrintWords Go.Proofs.YthemhfloablccaaDoorW.PrintLast Go.Proofs.YthemhfloablccaaDoorW.PrintMore
attribute [local go_sem] max2_int min2_int max_two min_two max_three min_three max_four min_four
attribute [local go_sem high] eqA26
def tree_outer.f (a0_0 : Int) (a0_1 : Int) : Option (Bool) := if (a0_0 == 0 && (a0_1 == 0)) = true then (some true) else (some (a0_0 == 0 && (a0_1 == 1)))
set_option maxHeartbeats 8000000 in
set_option maxRecDepth 100000 in
theorem tree_outer.calls (a0_0 : Int) (a0_1 : Int) (r : Bool) (w : World) (h : tree_outer.f a0_0 a0_1 = some r) :
  Calls Tryd.prog 103 #[.agg #[.int .i64 a0_0, .int .i64 a0_1]] w fun e w' => e = .returned (.bool r) ∧ Below w.heap.size w w' := by
 have hu26 := Tryd.underlying26; have HB := Aside0.mk (Below.refl w.heap.size w); have H : (if (a0_0 == 0 && (a0_1 == 0)) = true then (some true) else (some (a0_0 == 0 && (a0_1 == 1)))) = some r := h; clear h; by_cases c2 : (a0_0 == 0 && (a0_1 == 0)) = true
 ·rw [if_pos c2] at H; have c2b0 : (a0_0 == 0 && (a0_1 == 0)) = true := c2
  (try (have c2b1 : decide (a0_0 = 0 && (a0_1 == 0)) = true := by simpa using c2))
  (try (have c2b2 : (a0_0 == 0 && (a0_1 == 0)) = true := by simpa using c2))
  clear c2; obtain rfl := Option.some.inj H; go_enter Tryd.func103, Tryd.ntmps103
  go_wp2_with (first | ((with_reducible refine gate_dst (N := 1) rfl ?_); refine box_event ?hg (N := 1) ?hd (cs := #[.int .i64 a0_0, .int .i64 a0_1]) (t := 26) ?hr ?_; (case hd => rfl); (case hg => rfl); (case hr => first | (go_simp; done) | (go_simp; rfl)); intro gb115 hg w3 hbox hb; have n0_ := Aside0.mk (below_step hb_ hb); have n1_ := Aside0.mk (hbox); have n2_ := Aside0.mk ((by rw [hg]; exact (below_size hb_) : w.heap.size ≤ gb115)); have n3_ := Aside0.mk ((by rw [hg]; exact (below_size hb_) : w.heap.size ≤ gb115)); clear HB; have HB := n0_; have BK115 := n1_; have GW115 := n2_; have GE115 := n3_; clear n0_ n1_ n2_ n3_; clear hb hbox hg; have hcz4_0 : w3.cell? ⟨gb115, 0, none⟩ = some (.int .i64 a0_0) := (blk_cell BK115.out 0).trans rfl; have hcz4_1 : w3.cell? ⟨gb115, 1, none⟩ = some (.int .i64 a0_1) := (blk_cell BK115.out 1).trans rfl; have hfz4_0 := blk_frozen BK115.out 0; have hfz4_1 := blk_frozen BK115.out 1))
  go_ret
  exact ⟨ew_, by repeat (first | (with_reducible first | exact HB.out | apply below_alloc | apply pw_below_drewN | apply below_drew1 | refine below_set ?_ GE115.out) | exact HB.out)⟩
 ·rw [if_neg c2] at H; have c2b0 : (a0_0 == 0 && (a0_1 == 0)) = false := by simpa using c2
  (try (have c2b1 : decide (a0_0 = 0 && (a0_1 == 0)) = false := by simpa using c2))
  (try (have c2b2 : (a0_0 == 0 && (a0_1 == 0)) = false := by simpa using c2))
  (try (have c2b3 : ¬ (a0_0 = 0 && (a0_1 == 0)) := by simpa using c2))
  clear c2; obtain rfl := Option.some.inj H; go_enter Tryd.func103, Tryd.ntmps103
  go_wp2_with (first | ((with_reducible refine gate_dst (N := 1) rfl ?_); refine box_event ?hg (N := 1) ?hd (cs := #[.int .i64 a0_0, .int .i64 a0_1]) (t := 26) ?hr ?_; (case hd => rfl); (case hg => rfl); (case hr => first | (go_simp; done) | (go_simp; rfl)); intro gb115 hg w5 hbox hb; have n0_ := Aside0.mk (below_step hb_ hb); have n1_ := Aside0.mk (hbox); have n2_ := Aside0.mk ((by rw [hg]; exact (below_size hb_) : w.heap.size ≤ gb115)); have n3_ := Aside0.mk ((by rw [hg]; exact (below_size hb_) : w.heap.size ≤ gb115)); clear HB; have HB := n0_; have BK115 := n1_; have GW115 := n2_; have GE115 := n3_; clear n0_ n1_ n2_ n3_; clear hb hbox hg; have hcz6_0 : w5.cell? ⟨gb115, 0, none⟩ = some (.int .i64 a0_0) := (blk_cell BK115.out 0).trans rfl; have hcz6_1 : w5.cell? ⟨gb115, 1, none⟩ = some (.int .i64 a0_1) := (blk_cell BK115.out 1).trans rfl; have hfz6_0 := blk_frozen BK115.out 0; have hfz6_1 := blk_frozen BK115.out 1))
  go_ret
  exact ⟨ew_, by repeat (first | (with_reducible first | exact HB.out | apply below_alloc | apply pw_below_drewN | apply below_drew1 | refine below_set ?_ GE115.out) | exact HB.out)⟩
end Go.Proofs.YthemhfloablccaaDoor.Pr
end

section
namespace Go.Proofs.YthemhfloablccaaDoor.Pr
open Go.RowKit Go.Proofs.YthemhfloablccaaDoorW.PrintWords Go.Proofs.YthemhfloablccaaDoorW.PrintLast Go.Proofs.YthemhfloablccaaDoorW.PrintMore
attribute [local go_sem] max2_int min2_int max_two min_two max_three min_three max_four min_four
theorem eqA28 (d : Nat) (w : World) (x0 y0 : Int) (x1 y1 : Int) (x2 y2 : Int) (x3 y3 : Int) (x4 y4 : Int) (x5 y5 : Int) (x6 y6 : Int) (x7 y7 : ByteArray) (x8 y8 : ByteArray) :
  (Op.equalIn (d + 3) 28 (.agg #[.int .i64 x0, .int .i64 x1, .int .i64 x2, .int .i64 x3, .int .i64 x4, .int .i64 x5, .int .i64 x6, .string x7, .string x8]) (.agg #[.int .i64 y0, .int .i64 y1, .int .i64 y2, .int .i64 y3, .int .i64 y4, .int .i64 y5, .int .i64 y6, .string y7, .string y8])).run Tryd.prog w = .ok (x0 == y0 && ((x1 == y1 && (x2 == y2)) && ((x3 == y3 && (x4 == y4)) && ((x5 == y5 && (x6 == y6)) && (x7.toList == y7.toList && (x8.toList == y8.toList)))))) w := by
 refine eqA_of Tryd.underlying28 (by kernel_rfl) ?_; refine eqf_cons (by rfl) (by go_simp; rfl) (by go_simp; rfl) (by go_simp) ?_; refine eqf_cons (by rfl) (by go_simp) (by go_simp) (eqA26 (d + 0) w _ _ _ _) ?_; refine eqf_cons (by rfl) (by go_simp) (by go_simp) (eqA26 (d + 0) w _ _ _ _) ?_; refine eqf_cons (by rfl) (by go_simp) (by go_simp) (eqA26 (d + 0) w _ _ _ _) ?_; refine eqf_cons (by rfl) (by go_simp; rfl) (by go_simp; rfl) (by go_simp) ?_; exact eqf_last (by rfl) (by go_simp; rfl) (by go_simp; rfl) (by go_simp)
end Go.Proofs.YthemhfloablccaaDoor.Pr
end

section
namespace Go.Proofs.YthemhfloablccaaDoor.Pr
open Go.RowKit Go.Deep Go.Proofs.YthemhfloablccaaDoorW.PrintWords Go.Proofs.YthemhfloablccaaDoorW.PrintLast Go.Proofs.YthemhfloablccaaDoorW.PrintMore
set_option maxHeartbeats 8000000
attribute [local go_sem high] eqA26 eqA28
def fineB (t w : Int) : Bool := decide (1 ≤ t ∧ t ≤ 1099511627775 ∧ 1 ≤ w ∧ w ≤ 6)
def outerB (t w : Int) : Bool := (t == 0 && w == 0) || (t == 0 && w == 1)
theorem fine_f (t w : Int) : tree_fine.f t w = some (fineB t w) := by
 unfold tree_fine.f clock_Check.f clock_may.f fineB
 by_cases h1 : t ≥ 1
 ·by_cases h2 : t ≤ 1099511627775
  ·by_cases h3 : w ≥ 1
   ·by_cases h4 : w ≤ 6
    ·rw [if_pos h1, if_pos h2, if_pos h3, decide_eq_true h4, decide_eq_true ⟨h1, h2, h3, h4⟩]; rfl
    ·rw [if_pos h1, if_pos h2, if_pos h3, decide_eq_false h4, decide_eq_false (fun q => h4 q.2.2.2)]; rfl
   ·rw [if_pos h1, if_pos h2, if_neg h3, decide_eq_false (fun q => h3 q.2.2.1)]; rfl
  ·rw [if_pos h1, if_neg h2, decide_eq_false (fun q => h2 q.2.1)]; rfl
 ·rw [if_neg h1, decide_eq_false (fun q => h1 q.1)]; rfl
theorem outer_f (t w : Int) : tree_outer.f t w = some (outerB t w) := by
 unfold tree_outer.f outerB
 by_cases h : (t == 0 && (w == 0)) = true
 ·rw [if_pos h, h]; rfl
 ·rw [if_neg h, Bool.eq_false_iff.2 h]; rfl
theorem fine_calls (t v : Int) (w : World) : Calls Tryd.prog 101 #[.agg #[.int .i64 t, .int .i64 v]] w fun e w' => e = .returned (.bool (fineB t v)) ∧ Below w.heap.size w w' := tree_fine.calls t v _ w (fine_f t v)
theorem outer_calls (t v : Int) (w : World) : Calls Tryd.prog 103 #[.agg #[.int .i64 t, .int .i64 v]] w fun e w' => e = .returned (.bool (outerB t v)) ∧ Below w.heap.size w w' := tree_outer.calls t v _ w (outer_f t v)
def nmV (kind : Int) (nm : ByteArray) (ok : Bool) : Option Bool := if (kind = 1 ∨ kind = 3) ∧ ok = true then (name_Check.f nm).map (· == 0) else some ok
def finOk (kind : Int) (ok : Bool) (val : ByteArray) : Bool := if kind = 4 then ok && decide ((val.size : Int) ≤ 64) else if kind = 1 ∨ kind = 2 ∨ kind = 3 ∨ kind = 5 then ok else false
def finPa (kind : Int) (ok : Bool) (p1 p2 : Int) : Bool := if kind = 1 ∨ kind = 2 then ok && (outerB p1 p2 || fineB p1 p2) else ok
def restB (q1 q2 : Int) (nm val : ByteArray) : Bool := !(q1 == 0) || !(q2 == 0) || !(nm.toList == ([] : List UInt8)) || !(val.toList == ([] : List UInt8))
abbrev nmR (kind : Int) (nm : ByteArray) : ByteArray := if kind = 1 ∨ kind = 3 then ⟨#[]⟩ else nm
abbrev vlR (kind : Int) (val : ByteArray) : ByteArray := if kind = 4 then ⟨#[]⟩ else val
def finV (kind : Int) (ok : Bool) (p1 p2 : Int) (nm val : ByteArray) : Int :=
 if (!(finPa kind (finOk kind ok val) p1 p2) || restB (if kind = 1 ∨ kind = 2 then 0 else p1) (if kind = 1 ∨ kind = 2 then 0 else p2) (nmR kind nm) (vlR kind val)) = true then 1 else 0
def tree_Check.f (a0_0 a0_1 a0_2 a0_3 a0_4 a0_5 a0_6 : Int) (a0_7 a0_8 : ByteArray) : Option Int :=
 (nmV a0_0 a0_7 (if a0_0 = 1 then (fineB a0_1 a0_2 && fineB a0_3 a0_4) && (a0_3 == a0_1 && a0_4 == a0_2) else fineB a0_1 a0_2 && fineB a0_3 a0_4)).map fun b => finV a0_0 b a0_5 a0_6 a0_7 a0_8
abbrev opRow (kind t1 t2 n1 n2 p1 p2 : Int) (nm val : ByteArray) : Array Value := #[.int .i64 kind, .int .i64 t1, .int .i64 t2, .int .i64 n1, .int .i64 n2, .int .i64 p1, .int .i64 p2, .string nm, .string val]
def TS (w : World) (g1 g2 : Nat) (o r : Array Value) (wx : World) : Prop :=
 Below w.heap.size w wx ∧ wx.heap[g1]? = some (.cells o 28 (0, 0)) ∧ wx.heap[g2]? = some (.cells r 28 (0, 0)) ∧ w.heap.size ≤ g2 ∧ g1 ≠ g2
theorem TS.set {w wx : World} {g1 g2 : Nat} {o r r' : Array Value} (h : TS w g1 g2 o r wx) (i : Nat) (v : Value) (e : r.setIfInBounds i v = r') : TS w g1 g2 o r' (wx.setCell ⟨g2, i, none⟩ v) :=
 ⟨below_set h.1 h.2.2.2.1, blk_far h.2.1 h.2.2.2.2 _, blk_put h.2.2.1 i v e, h.2.2.2.1, h.2.2.2.2⟩
theorem TS.below {w wx w' : World} {g1 g2 : Nat} {o r : Array Value} (h : TS w g1 g2 o r wx) (hb : Below wx.heap.size wx w') : TS w g1 g2 o r w' :=
 ⟨below_then h.1 h.1.size hb, blk_below h.2.1 hb, blk_below h.2.2.1 hb, h.2.2.2.1, h.2.2.2.2⟩
theorem nm_cases {kind : Int} {nm : ByteArray} {ok : Bool} {F : Bool → Int} {r : Int} (h : (nmV kind nm ok).map F = some r) :
  (((kind = 1 ∨ kind = 3) ∧ ok = true) → ∃ q, name_Check.f nm = some q ∧ F (q == 0) = r) ∧ (¬ ((kind = 1 ∨ kind = 3) ∧ ok = true) → F ok = r) := by
 unfold nmV at h
 by_cases hc : (kind = 1 ∨ kind = 3) ∧ ok = true
 ·rw [if_pos hc] at h
  refine ⟨fun _ => ?_, fun q => absurd hc q⟩
  rcases hq : name_Check.f nm with _ | q
  ·rw [hq] at h; cases h
  ·rw [hq] at h; exact ⟨q, rfl, Option.some.inj h⟩
 ·rw [if_neg hc] at h
  exact ⟨fun q => absurd q hc, fun _ => Option.some.inj h⟩
abbrev bigB (x0 x1 x2 x3 x4 x5 x6 : Int) (x7 x8 : ByteArray) : Bool := (!(x0 == 0) || ((!(x1 == 0) || (!(x2 == 0))) || ((!(x3 == 0) || (!(x4 == 0))) || ((!(x5 == 0) || (!(x6 == 0))) || (!(x7.toList == ([] : List UInt8)) || (!(x8.toList == ([] : List UInt8))))))))
theorem big_false (x0 x1 x2 x3 x4 x5 x6 : Int) (x7 x8 : ByteArray) : ((!(x0 == 0)) = false ∧ ((!(x1 == 0)) = false ∧ (!(x2 == 0)) = false) ∧ ((!(x3 == 0)) = false ∧ (!(x4 == 0)) = false) ∧ ((!(x5 == 0)) = false ∧ (!(x6 == 0)) = false) ∧ (!x7.toList.isEmpty) = false ∧ (!x8.toList.isEmpty) = false) ↔ bigB x0 x1 x2 x3 x4 x5 x6 x7 x8 = false := by
 have e : ∀ l : List UInt8, (l == []) = l.isEmpty := fun l => by cases l <;> rfl
 simp only [bigB, Bool.or_eq_false_iff, e]
theorem big_true (x0 x1 x2 x3 x4 x5 x6 : Int) (x7 x8 : ByteArray) : ((!(x0 == 0)) = true ∨ ((!(x1 == 0)) = true ∨ (!(x2 == 0)) = true) ∨ ((!(x3 == 0)) = true ∨ (!(x4 == 0)) = true) ∨ ((!(x5 == 0)) = true ∨ (!(x6 == 0)) = true) ∨ (!x7.toList.isEmpty) = true ∨ (!x8.toList.isEmpty) = true) ↔ bigB x0 x1 x2 x3 x4 x5 x6 x7 x8 = true := by
 have e : ∀ l : List UInt8, (l == []) = l.isEmpty := fun l => by cases l <;> rfl
 simp only [bigB, Bool.or_eq_true, e]
theorem big_rest (x5 x6 : Int) (x7 x8 : ByteArray) : bigB 0 0 0 0 0 x5 x6 x7 x8 = restB x5 x6 x7 x8 := by
 unfold bigB restB
 simp [Bool.or_assoc]
set_option maxRecDepth 100000 in
theorem tree_Check.calls (a0_0 a0_1 a0_2 a0_3 a0_4 a0_5 a0_6 : Int) (a0_7 a0_8 : ByteArray) (r : Int) (w : World) (h : tree_Check.f a0_0 a0_1 a0_2 a0_3 a0_4 a0_5 a0_6 a0_7 a0_8 = some r) :
  Calls Tryd.prog 76 #[.agg #[.int .i64 a0_0, .int .i64 a0_1, .int .i64 a0_2, .int .i64 a0_3, .int .i64 a0_4, .int .i64 a0_5, .int .i64 a0_6, .string a0_7, .string a0_8]] w fun e w' => e = .returned (.int .i64 r) ∧ Below w.heap.size w w' := by
 have hu1 := Tryd.underlying28
 have hu2 := Tryd.underlying26
 unfold tree_Check.f at h
 have HF1 := Aside0.mk (fine_calls a0_1 a0_2)
 have HF2 := Aside0.mk (fine_calls a0_3 a0_4)
 have HF3 := Aside0.mk (fine_calls a0_5 a0_6)
 have HO := Aside0.mk (outer_calls a0_5 a0_6)
 generalize hf1 : fineB a0_1 a0_2 = f1 at HF1 h
 generalize hf2 : fineB a0_3 a0_4 = f2 at HF2 h
 have HH := Aside0.mk h
 have HB := Aside0.mk (Below.refl w.heap.size w)
 clear h hf1 hf2
 go_enter Tryd.func76, Tryd.ntmps76
 go_upto_region 1 with (first | ((with_reducible refine gate_dst (N := 1) rfl ?_); (try (refine gate_guard (by rfl) ?_; dsimp only)); refine box_event ?hg (N := 1) ?hd (cs := opRow a0_0 a0_1 a0_2 a0_3 a0_4 a0_5 a0_6 a0_7 a0_8) (t := 28) ?hr ?_; (case hd => rfl); (case hg => rfl); (case hr => first | (go_simp; done) | (go_simp; rfl)); intro g1 hg w3 hbox hb; have HB1 := Aside0.mk (below_step HB.out hb); have HN1 := Aside0.mk hbox; have HG1 := Aside0.mk (show w.heap.size ≤ g1 by rw [hg]; exact Nat.le_refl _); clear hb hbox hg))
 (try simp only [Act.put, List.setIfInBounds_toArray, List.set_cons_zero, List.set_cons_succ])
 go_cut [3] (fun s3 wx => s3 = .bool (f1 && f2) ∧ Aside0 (Below w.heap.size w wx) ∧ Aside0 (wx.heap[g1]? = some (.cells (opRow a0_0 a0_1 a0_2 a0_3 a0_4 a0_5 a0_6 a0_7 a0_8) 28 (0, 0))))
 case first =>
  have c1 : w3.cell? ⟨g1, 1, none⟩ = some (.int .i64 a0_1) := (blk_cell HN1.out 1).trans rfl
  have c2 : w3.cell? ⟨g1, 2, none⟩ = some (.int .i64 a0_2) := (blk_cell HN1.out 2).trans rfl
  go_wp2_with (fail)
  refine (HF1.out _).mono ?_
  rintro e w1 ⟨rfl, hb1⟩
  have HB2 := Aside0.mk (below_then HB1.out HB1.out.size hb1)
  have HN2 := Aside0.mk (blk_below HN1.out hb1)
  have c3 : w1.cell? ⟨g1, 3, none⟩ = some (.int .i64 a0_3) := (blk_cell HN2.out 3).trans rfl
  have c4 : w1.cell? ⟨g1, 4, none⟩ = some (.int .i64 a0_4) := (blk_cell HN2.out 4).trans rfl
  clear hb1 c1 c2
  cases f1
  ·go_wp2_with (fail)
   go_meet
   exact ⟨rfl, HB2, HN2⟩
  ·go_wp2_with (fail)
   refine (HF2.out _).mono ?_
   rintro e w2 ⟨rfl, hb2⟩
   have HB3 := Aside0.mk (below_then HB2.out HB2.out.size hb2)
   have HN3 := Aside0.mk (blk_below HN2.out hb2)
   clear hb2 c3 c4
   go_wp2_with (fail)
   go_meet
   exact ⟨rfl, HB3, HN3⟩
 case rest =>
  obtain ⟨rfl, HB4, HR⟩ := hcut
  clear HB1 HN1
  have c0 : wc.cell? ⟨g1, 0, none⟩ = some (.int .i64 a0_0) := (blk_cell HR.out 0).trans rfl
  have c1 : wc.cell? ⟨g1, 1, none⟩ = some (.int .i64 a0_1) := (blk_cell HR.out 1).trans rfl
  have c2 : wc.cell? ⟨g1, 2, none⟩ = some (.int .i64 a0_2) := (blk_cell HR.out 2).trans rfl
  have c3 : wc.cell? ⟨g1, 3, none⟩ = some (.int .i64 a0_3) := (blk_cell HR.out 3).trans rfl
  have c4 : wc.cell? ⟨g1, 4, none⟩ = some (.int .i64 a0_4) := (blk_cell HR.out 4).trans rfl
  have c5 : wc.cell? ⟨g1, 5, none⟩ = some (.int .i64 a0_5) := (blk_cell HR.out 5).trans rfl
  have c6 : wc.cell? ⟨g1, 6, none⟩ = some (.int .i64 a0_6) := (blk_cell HR.out 6).trans rfl
  have c7 : wc.cell? ⟨g1, 7, none⟩ = some (.string a0_7) := (blk_cell HR.out 7).trans rfl
  have c8 : wc.cell? ⟨g1, 8, none⟩ = some (.string a0_8) := (blk_cell HR.out 8).trans rfl
  go_upto_block 0 with (first | ((with_reducible refine gate_dst (N := 4) rfl ?_); (try (refine gate_guard (by rfl) ?_; dsimp only)); refine box_event ?hg (N := 4) ?hd (cs := #[.int .i64 0, .int .i64 0, .int .i64 0, .int .i64 0, .int .i64 0, .int .i64 0, .int .i64 0, .string (⟨#[]⟩ : ByteArray), .string (⟨#[]⟩ : ByteArray)]) (t := 28) ?hr ?_; (case hd => rfl); (case hg => rfl); (case hr => first | (go_simp; done) | (go_simp; rfl)); intro g2 hg w4 hbox hb; have T0 := Aside0.mk (show TS w g1 g2 (opRow a0_0 a0_1 a0_2 a0_3 a0_4 a0_5 a0_6 a0_7 a0_8) _ w4 from ⟨below_step HB4.out hb, blk_below HR.out hb, hbox, by rw [hg]; exact HB4.out.size, by rw [hg]; exact Nat.ne_of_lt (blk_lt HR.out)⟩); clear c0 c1 c2 c3 c4 c5 c6 c7 c8 HB4 HR hb hbox hg ; have nn := T0.out.2.2.2.2; have c0 : w4.cell? ⟨g1, 0, none⟩ = some (.int .i64 a0_0) := (blk_cell T0.out.2.1 0).trans rfl; have d0 : w4.cell? ⟨g2, 0, none⟩ = some (.int .i64 0) := (blk_cell T0.out.2.2.1 0).trans rfl; have d1 : w4.cell? ⟨g2, 1, none⟩ = some (.int .i64 0) := (blk_cell T0.out.2.2.1 1).trans rfl; have d2 : w4.cell? ⟨g2, 2, none⟩ = some (.int .i64 0) := (blk_cell T0.out.2.2.1 2).trans rfl; have d3 : w4.cell? ⟨g2, 3, none⟩ = some (.int .i64 0) := (blk_cell T0.out.2.2.1 3).trans rfl; have d4 : w4.cell? ⟨g2, 4, none⟩ = some (.int .i64 0) := (blk_cell T0.out.2.2.1 4).trans rfl; have d5 : w4.cell? ⟨g2, 5, none⟩ = some (.int .i64 0) := (blk_cell T0.out.2.2.1 5).trans rfl; have d6 : w4.cell? ⟨g2, 6, none⟩ = some (.int .i64 0) := (blk_cell T0.out.2.2.1 6).trans rfl; have d7 : w4.cell? ⟨g2, 7, none⟩ = some (.string (⟨#[]⟩ : ByteArray)) := (blk_cell T0.out.2.2.1 7).trans rfl; have d8 : w4.cell? ⟨g2, 8, none⟩ = some (.string (⟨#[]⟩ : ByteArray)) := (blk_cell T0.out.2.2.1 8).trans rfl ; have z0 := blk_frozen T0.out.2.2.1 0; have z1 := blk_frozen T0.out.2.2.1 1; have z2 := blk_frozen T0.out.2.2.1 2; have z3 := blk_frozen T0.out.2.2.1 3; have z4 := blk_frozen T0.out.2.2.1 4; have z5 := blk_frozen T0.out.2.2.1 5; have z6 := blk_frozen T0.out.2.2.1 6; have z7 := blk_frozen T0.out.2.2.1 7; have z8 := blk_frozen T0.out.2.2.1 8))
  (try simp only [Act.put, List.setIfInBounds_toArray, List.set_cons_zero, List.set_cons_succ])
  have t := T0.out
  replace t := TS.set (r' := #[.int .i64 a0_0, .int .i64 0, .int .i64 0, .int .i64 0, .int .i64 0, .int .i64 0, .int .i64 0, .string (⟨#[]⟩ : ByteArray), .string (⟨#[]⟩ : ByteArray)]) t 0 (.int .i64 a0_0) rfl
  replace t := TS.set (r' := #[.int .i64 a0_0, .int .i64 a0_1, .int .i64 0, .int .i64 0, .int .i64 0, .int .i64 0, .int .i64 0, .string (⟨#[]⟩ : ByteArray), .string (⟨#[]⟩ : ByteArray)]) t 1 (.int .i64 a0_1) rfl
  replace t := TS.set (r' := #[.int .i64 a0_0, .int .i64 a0_1, .int .i64 a0_2, .int .i64 0, .int .i64 0, .int .i64 0, .int .i64 0, .string (⟨#[]⟩ : ByteArray), .string (⟨#[]⟩ : ByteArray)]) t 2 (.int .i64 a0_2) rfl
  replace t := TS.set (r' := #[.int .i64 a0_0, .int .i64 a0_1, .int .i64 a0_2, .int .i64 a0_3, .int .i64 0, .int .i64 0, .int .i64 0, .string (⟨#[]⟩ : ByteArray), .string (⟨#[]⟩ : ByteArray)]) t 3 (.int .i64 a0_3) rfl
  replace t := TS.set (r' := #[.int .i64 a0_0, .int .i64 a0_1, .int .i64 a0_2, .int .i64 a0_3, .int .i64 a0_4, .int .i64 0, .int .i64 0, .string (⟨#[]⟩ : ByteArray), .string (⟨#[]⟩ : ByteArray)]) t 4 (.int .i64 a0_4) rfl
  replace t := TS.set (r' := #[.int .i64 a0_0, .int .i64 a0_1, .int .i64 a0_2, .int .i64 a0_3, .int .i64 a0_4, .int .i64 a0_5, .int .i64 0, .string (⟨#[]⟩ : ByteArray), .string (⟨#[]⟩ : ByteArray)]) t 5 (.int .i64 a0_5) rfl
  replace t := TS.set (r' := #[.int .i64 a0_0, .int .i64 a0_1, .int .i64 a0_2, .int .i64 a0_3, .int .i64 a0_4, .int .i64 a0_5, .int .i64 a0_6, .string (⟨#[]⟩ : ByteArray), .string (⟨#[]⟩ : ByteArray)]) t 6 (.int .i64 a0_6) rfl
  replace t := TS.set (r' := #[.int .i64 a0_0, .int .i64 a0_1, .int .i64 a0_2, .int .i64 a0_3, .int .i64 a0_4, .int .i64 a0_5, .int .i64 a0_6, .string a0_7, .string (⟨#[]⟩ : ByteArray)]) t 7 (.string a0_7) rfl
  replace t := TS.set (r' := #[.int .i64 a0_0, .int .i64 a0_1, .int .i64 a0_2, .int .i64 a0_3, .int .i64 a0_4, .int .i64 a0_5, .int .i64 a0_6, .string a0_7, .string a0_8]) t 8 (.string a0_8) rfl
  replace t := TS.set (r' := #[.int .i64 0, .int .i64 a0_1, .int .i64 a0_2, .int .i64 a0_3, .int .i64 a0_4, .int .i64 a0_5, .int .i64 a0_6, .string a0_7, .string a0_8]) t 0 (.int .i64 0) rfl
  replace t := TS.set (r' := #[.int .i64 0, .int .i64 0, .int .i64 a0_2, .int .i64 a0_3, .int .i64 a0_4, .int .i64 a0_5, .int .i64 a0_6, .string a0_7, .string a0_8]) t 1 (.int .i64 0) rfl
  replace t := TS.set (r' := #[.int .i64 0, .int .i64 0, .int .i64 0, .int .i64 a0_3, .int .i64 a0_4, .int .i64 a0_5, .int .i64 a0_6, .string a0_7, .string a0_8]) t 2 (.int .i64 0) rfl
  replace t := TS.set (r' := #[.int .i64 0, .int .i64 0, .int .i64 0, .int .i64 0, .int .i64 a0_4, .int .i64 a0_5, .int .i64 a0_6, .string a0_7, .string a0_8]) t 3 (.int .i64 0) rfl
  replace t := TS.set (r' := #[.int .i64 0, .int .i64 0, .int .i64 0, .int .i64 0, .int .i64 0, .int .i64 a0_5, .int .i64 a0_6, .string a0_7, .string a0_8]) t 4 (.int .i64 0) rfl
  have T1 := Aside0.mk t
  clear t
  clear T0 c0 d0 d1 d2 d3 d4 d5 d6 d7 d8 z0 z1 z2 z3 z4 z5 z6 z7 z8
  revert T1
  generalize (World.setCell (World.setCell (World.setCell (World.setCell (World.setCell (World.setCell (World.setCell (World.setCell (World.setCell (World.setCell (World.setCell (World.setCell (World.setCell (World.setCell w4 ⟨g2, 0, none⟩ (.int .i64 a0_0)) ⟨g2, 1, none⟩ (.int .i64 a0_1)) ⟨g2, 2, none⟩ (.int .i64 a0_2)) ⟨g2, 3, none⟩ (.int .i64 a0_3)) ⟨g2, 4, none⟩ (.int .i64 a0_4)) ⟨g2, 5, none⟩ (.int .i64 a0_5)) ⟨g2, 6, none⟩ (.int .i64 a0_6)) ⟨g2, 7, none⟩ (.string a0_7)) ⟨g2, 8, none⟩ (.string a0_8)) ⟨g2, 0, none⟩ (.int .i64 0)) ⟨g2, 1, none⟩ (.int .i64 0)) ⟨g2, 2, none⟩ (.int .i64 0)) ⟨g2, 3, none⟩ (.int .i64 0)) ⟨g2, 4, none⟩ (.int .i64 0)) = w5
  intro T1
  generalize hb0 : (f1 && f2) = b0 at HH
  clear hb0 HF1 HF2 nn
  go_cut [3] (fun s3 wx => ∃ b : Bool, s3 = .bool (finOk a0_0 b a0_8) ∧ Aside0 (finV a0_0 b a0_5 a0_6 a0_7 a0_8 = r) ∧ Aside0 (TS w g1 g2 (opRow a0_0 a0_1 a0_2 a0_3 a0_4 a0_5 a0_6 a0_7 a0_8) #[.int .i64 0, .int .i64 0, .int .i64 0, .int .i64 0, .int .i64 0, .int .i64 a0_5, .int .i64 a0_6, .string (nmR a0_0 a0_7), .string (vlR a0_0 a0_8)] wx))
  case first =>
   have k1 : w5.cell? ⟨g1, 1, none⟩ = some (.int .i64 a0_1) := (blk_cell T1.out.2.1 1).trans rfl
   have k2 : w5.cell? ⟨g1, 2, none⟩ = some (.int .i64 a0_2) := (blk_cell T1.out.2.1 2).trans rfl
   have k3 : w5.cell? ⟨g1, 3, none⟩ = some (.int .i64 a0_3) := (blk_cell T1.out.2.1 3).trans rfl
   have k4 : w5.cell? ⟨g1, 4, none⟩ = some (.int .i64 a0_4) := (blk_cell T1.out.2.1 4).trans rfl
   have k5 : w5.cell? ⟨g1, 5, none⟩ = some (.int .i64 a0_5) := (blk_cell T1.out.2.1 5).trans rfl
   have k6 : w5.cell? ⟨g1, 6, none⟩ = some (.int .i64 a0_6) := (blk_cell T1.out.2.1 6).trans rfl
   have k7 : w5.cell? ⟨g1, 7, none⟩ = some (.string a0_7) := (blk_cell T1.out.2.1 7).trans rfl
   have k8 : w5.cell? ⟨g1, 8, none⟩ = some (.string a0_8) := (blk_cell T1.out.2.1 8).trans rfl
   have m7 : w5.cell? ⟨g2, 7, none⟩ = some (.string a0_7) := (blk_cell T1.out.2.2.1 7).trans rfl
   have m8 : w5.cell? ⟨g2, 8, none⟩ = some (.string a0_8) := (blk_cell T1.out.2.2.1 8).trans rfl
   have z7 := blk_frozen T1.out.2.2.1 7
   have z8 := blk_frozen T1.out.2.2.1 8
   by_cases h1 : a0_0 = 1
   ·subst h1
    have N := nm_cases HH.out
    cases b0
    ·have HV := Aside0.mk (N.2 (fun q => by have := q.2; simp at this))
     clear N HH
     go_wp2_with (fail)
     go_meet
     exact ⟨false, rfl, HV, ⟨T1.out.set 7 _ rfl⟩⟩
    ·rw [if_pos rfl, Bool.true_and] at N
     by_cases he : (a0_3 == a0_1 && (a0_4 == a0_2)) = true
     ·obtain ⟨q, hq, hv⟩ := N.1 ⟨.inl rfl, he⟩
      have HV := Aside0.mk hv
      have HN := Aside0.mk (fun W => name_Check.calls a0_7 q W hq)
      clear N HH hv hq
      go_wp2_with (fail)
      refine (HN.out _).mono ?_
      rintro e w6 ⟨rfl, hb⟩
      have T2 := Aside0.mk (T1.out.below hb)
      clear hb k1 k2 k3 k4 k5 k6 k7 k8 m7 m8 z7 z8
      have m7 : w6.cell? ⟨g2, 7, none⟩ = some (.string a0_7) := (blk_cell T2.out.2.2.1 7).trans rfl
      have z7 := blk_frozen T2.out.2.2.1 7
      generalize hqb : (q == 0) = qb at HV
      go_wp2_with (fail)
      go_meet
      exact ⟨qb, rfl, HV, ⟨T2.out.set 7 _ rfl⟩⟩
     ·have he := Bool.eq_false_iff.2 he
      have HV := Aside0.mk (N.2 (fun q => by rw [he] at q; have := q.2; simp at this))
      rw [he] at HV
      clear N HH
      go_wp2_with (fail)
      go_meet
      exact ⟨false, rfl, HV, ⟨T1.out.set 7 _ rfl⟩⟩
   ·have v1 := beq_eq_false_iff_ne.2 h1
    by_cases h3 : a0_0 = 3
    ·subst h3
     have N := nm_cases HH.out
     rw [if_neg h1] at N
     cases b0
     ·have HV := Aside0.mk (N.2 (fun q => by have := q.2; simp at this))
      clear N HH
      go_wp2_with (fail)
      go_meet
      exact ⟨false, rfl, HV, ⟨T1.out.set 7 _ rfl⟩⟩
     ·obtain ⟨q, hq, hv⟩ := N.1 ⟨.inr rfl, rfl⟩
      have HV := Aside0.mk hv
      have HN := Aside0.mk (fun W => name_Check.calls a0_7 q W hq)
      clear N HH hv hq
      go_wp2_with (fail)
      refine (HN.out _).mono ?_
      rintro e w6 ⟨rfl, hb⟩
      have T2 := Aside0.mk (T1.out.below hb)
      clear hb k1 k2 k3 k4 k5 k6 k7 k8 m7 m8 z7 z8
      have m7 : w6.cell? ⟨g2, 7, none⟩ = some (.string a0_7) := (blk_cell T2.out.2.2.1 7).trans rfl
      have z7 := blk_frozen T2.out.2.2.1 7
      generalize hqb : (q == 0) = qb at HV
      go_wp2_with (fail)
      go_meet
      exact ⟨qb, rfl, HV, ⟨T2.out.set 7 _ rfl⟩⟩
    ·have v3 := beq_eq_false_iff_ne.2 h3
     have N := (nm_cases HH.out).2 (fun q => q.1.elim h1 h3)
     rw [if_neg h1] at N
     have HV := Aside0.mk N
     clear N HH
     by_cases h4 : a0_0 = 4
     ·subst h4
      cases b0
      ·go_wp2_with (fail)
       go_meet
       exact ⟨false, rfl, HV, ⟨T1.out.set 8 _ rfl⟩⟩
      ·generalize hd : decide ((a0_8.size : Int) ≤ 64) = db
       go_wp2_with (fail)
       go_meet
       exact ⟨true, by rw [← hd]; rfl, HV, ⟨T1.out.set 8 _ rfl⟩⟩
     ·have v4 := beq_eq_false_iff_ne.2 h4
      have E1 : Aside0 (nmR a0_0 a0_7 = a0_7) := ⟨if_neg (by omega)⟩
      have E2 : Aside0 (vlR a0_0 a0_8 = a0_8) := ⟨if_neg (by omega)⟩
      by_cases h2 : a0_0 = 2
      ·subst h2
       go_wp2_with (fail)
       go_meet
       exact ⟨b0, rfl, HV, T1⟩
      ·have v2 := beq_eq_false_iff_ne.2 h2
       by_cases h5 : a0_0 = 5
       ·subst h5
        go_wp2_with (fail)
        go_meet
        exact ⟨b0, rfl, HV, T1⟩
       ·have v5 := beq_eq_false_iff_ne.2 h5
        have e3 : finOk a0_0 b0 a0_8 = false := by unfold finOk; rw [if_neg h4, if_neg (by omega)]
        have E3 := Aside0.mk e3
        clear e3 h1 h2 h3 h4 h5
        go_wp2_with (fail)
        go_meet
        exact ⟨b0, by rw [E3.out], HV, ⟨by rw [E1.out, E2.out]; exact T1.out⟩⟩
  case rest =>
   obtain ⟨b, rfl, HV, T2⟩ := hcut
   clear T1 HH
   unfold finV at HV
   generalize hob : finOk a0_0 b a0_8 = ob at HV
   generalize hn : nmR a0_0 a0_7 = nm at T2 HV
   generalize hvl : vlR a0_0 a0_8 = vl at T2 HV
   clear hob hn hvl b
   have c0 : wc.cell? ⟨g1, 0, none⟩ = some (.int .i64 a0_0) := (blk_cell T2.out.2.1 0).trans rfl
   have c5 : wc.cell? ⟨g1, 5, none⟩ = some (.int .i64 a0_5) := (blk_cell T2.out.2.1 5).trans rfl
   have c6 : wc.cell? ⟨g1, 6, none⟩ = some (.int .i64 a0_6) := (blk_cell T2.out.2.1 6).trans rfl
   by_cases h1 : a0_0 = 1
   ·subst h1
    have e1 : finPa 1 ob a0_5 a0_6 = (ob && (outerB a0_5 a0_6 || fineB a0_5 a0_6)) := if_pos (.inl rfl)
    have n12 : ((1 : Int) = 1 ∨ (1 : Int) = 2) := .inl rfl
    rw [e1, if_pos n12, if_pos n12] at HV
    clear e1 n12
    go_upto_region 18 with (fail)
    go_cut [3] (fun s3 wx => s3 = .bool (ob && (outerB a0_5 a0_6 || fineB a0_5 a0_6)) ∧ Aside0 (TS w g1 g2 (opRow 1 a0_1 a0_2 a0_3 a0_4 a0_5 a0_6 a0_7 a0_8) #[.int .i64 0, .int .i64 0, .int .i64 0, .int .i64 0, .int .i64 0, .int .i64 a0_5, .int .i64 a0_6, .string nm, .string vl] wx))
    case first =>
     cases ob
     ·go_wp2_with (fail)
      go_meet
      exact ⟨rfl, T2⟩
     ·obtain ⟨oo, ho⟩ : ∃ oo, outerB a0_5 a0_6 = oo := ⟨_, rfl⟩
      rw [ho] at HO
      have HOO := Aside0.mk ho
      clear ho
      obtain ⟨ff, hf⟩ : ∃ ff, fineB a0_5 a0_6 = ff := ⟨_, rfl⟩
      rw [hf] at HF3
      have HFF := Aside0.mk hf
      clear hf
      go_wp2_with (fail)
      refine (HO.out _).mono ?_
      rintro e w7 ⟨rfl, hb⟩
      have T3 := Aside0.mk (T2.out.below hb)
      clear hb c0 c5 c6
      cases oo
      ·have c5 : w7.cell? ⟨g1, 5, none⟩ = some (.int .i64 a0_5) := (blk_cell T3.out.2.1 5).trans rfl
       have c6 : w7.cell? ⟨g1, 6, none⟩ = some (.int .i64 a0_6) := (blk_cell T3.out.2.1 6).trans rfl
       go_wp2_with (fail)
       refine (HF3.out _).mono ?_
       rintro e w8 ⟨rfl, hb⟩
       have T4 := Aside0.mk (T3.out.below hb)
       clear hb c5 c6
       go_wp2_with (fail)
       go_meet
       exact ⟨by rw [HOO.out, HFF.out]; rfl, T4⟩
      ·go_wp2_with (fail)
       go_meet
       exact ⟨by rw [HOO.out]; rfl, T3⟩
    case rest =>
     obtain ⟨rfl, T3⟩ := hcut
     clear T2 HO HF3 c0 c5 c6
     have d5 : wc.cell? ⟨g2, 5, none⟩ = some (.int .i64 a0_5) := (blk_cell T3.out.2.2.1 5).trans rfl
     have d6 : wc.cell? ⟨g2, 6, none⟩ = some (.int .i64 a0_6) := (blk_cell T3.out.2.2.1 6).trans rfl
     have z5 := blk_frozen T3.out.2.2.1 5
     have z6 := blk_frozen T3.out.2.2.1 6
     go_upto_region 20 with (fail)
     have TQ := Aside0.mk (TS.set (r' := #[.int .i64 0, .int .i64 0, .int .i64 0, .int .i64 0, .int .i64 0, .int .i64 0, .int .i64 0, .string nm, .string vl]) (TS.set (r' := #[.int .i64 0, .int .i64 0, .int .i64 0, .int .i64 0, .int .i64 0, .int .i64 0, .int .i64 a0_6, .string nm, .string vl]) T3.out 5 (.int .i64 0) rfl) 6 (.int .i64 0) rfl)
     have HVQ := HV
     generalize (ob && (outerB a0_5 a0_6 || fineB a0_5 a0_6)) = ok at HVQ ⊢
     clear HV T3 d5 d6 z5 z6
     revert TQ
     generalize (wc.setCell ⟨g2, 5, none⟩ (.int .i64 0)).setCell ⟨g2, 6, none⟩ (.int .i64 0) = wq
     intro TQ
     obtain ⟨x0, x1, x2, x3, x4, x5, x6, x7, x8, T5, HR⟩ : ∃ (x0 x1 x2 x3 x4 x5 x6 : Int) (x7 x8 : ByteArray), Aside0 (TS w g1 g2 (opRow 1 a0_1 a0_2 a0_3 a0_4 a0_5 a0_6 a0_7 a0_8) #[.int .i64 x0, .int .i64 x1, .int .i64 x2, .int .i64 x3, .int .i64 x4, .int .i64 x5, .int .i64 x6, .string x7, .string x8] wq) ∧ Aside0 ((if (!ok || bigB x0 x1 x2 x3 x4 x5 x6 x7 x8) = true then (1 : Int) else 0) = r) := ⟨0, 0, 0, 0, 0, 0, 0, nm, vl, TQ, ⟨by rw [big_rest]; exact HVQ.out⟩⟩
     clear TQ HVQ
     have d0 : wq.cell? ⟨g2, 0, none⟩ = some (.int .i64 x0) := (blk_cell T5.out.2.2.1 0).trans rfl
     have d1 : wq.cell? ⟨g2, 1, none⟩ = some (.int .i64 x1) := (blk_cell T5.out.2.2.1 1).trans rfl
     have d2 : wq.cell? ⟨g2, 2, none⟩ = some (.int .i64 x2) := (blk_cell T5.out.2.2.1 2).trans rfl
     have d3 : wq.cell? ⟨g2, 3, none⟩ = some (.int .i64 x3) := (blk_cell T5.out.2.2.1 3).trans rfl
     have d4 : wq.cell? ⟨g2, 4, none⟩ = some (.int .i64 x4) := (blk_cell T5.out.2.2.1 4).trans rfl
     have d5 : wq.cell? ⟨g2, 5, none⟩ = some (.int .i64 x5) := (blk_cell T5.out.2.2.1 5).trans rfl
     have d6 : wq.cell? ⟨g2, 6, none⟩ = some (.int .i64 x6) := (blk_cell T5.out.2.2.1 6).trans rfl
     have d7 : wq.cell? ⟨g2, 7, none⟩ = some (.string x7) := (blk_cell T5.out.2.2.1 7).trans rfl
     have d8 : wq.cell? ⟨g2, 8, none⟩ = some (.string x8) := (blk_cell T5.out.2.2.1 8).trans rfl
     cases ok
     ·rw [Bool.not_false, Bool.true_or, if_pos rfl] at HR
      go_wp2_with (fail)
      go_ret
      exact ⟨by rw [← HR.out]; rfl, T5.out.1⟩
     ·rw [Bool.not_true, Bool.false_or] at HR
      go_wp2_with (fail)
      ·rename_i hz
       go_ret
       exact ⟨by rw [← HR.out, if_pos ((big_true x0 x1 x2 x3 x4 x5 x6 x7 x8).1 hz)]; rfl, T5.out.1⟩
      ·rename_i hz
       go_ret
       exact ⟨by rw [← HR.out, if_neg (by rw [(big_false x0 x1 x2 x3 x4 x5 x6 x7 x8).1 hz]; decide)]; rfl, T5.out.1⟩

   ·have v1 := beq_eq_false_iff_ne.2 h1
    by_cases h2 : a0_0 = 2
    ·subst h2
     have e1 : finPa 2 ob a0_5 a0_6 = (ob && (outerB a0_5 a0_6 || fineB a0_5 a0_6)) := if_pos (.inr rfl)
     have n12 : ((2 : Int) = 1 ∨ (2 : Int) = 2) := .inr rfl
     rw [e1, if_pos n12, if_pos n12] at HV
     clear e1 n12
     go_upto_region 18 with (fail)
     go_cut [3] (fun s3 wx => s3 = .bool (ob && (outerB a0_5 a0_6 || fineB a0_5 a0_6)) ∧ Aside0 (TS w g1 g2 (opRow 2 a0_1 a0_2 a0_3 a0_4 a0_5 a0_6 a0_7 a0_8) #[.int .i64 0, .int .i64 0, .int .i64 0, .int .i64 0, .int .i64 0, .int .i64 a0_5, .int .i64 a0_6, .string nm, .string vl] wx))
     case first =>
      cases ob
      ·go_wp2_with (fail)
       go_meet
       exact ⟨rfl, T2⟩
      ·obtain ⟨oo, ho⟩ : ∃ oo, outerB a0_5 a0_6 = oo := ⟨_, rfl⟩
       rw [ho] at HO
       have HOO := Aside0.mk ho
       clear ho
       obtain ⟨ff, hf⟩ : ∃ ff, fineB a0_5 a0_6 = ff := ⟨_, rfl⟩
       rw [hf] at HF3
       have HFF := Aside0.mk hf
       clear hf
       go_wp2_with (fail)
       refine (HO.out _).mono ?_
       rintro e w7 ⟨rfl, hb⟩
       have T3 := Aside0.mk (T2.out.below hb)
       clear hb c0 c5 c6
       cases oo
       ·have c5 : w7.cell? ⟨g1, 5, none⟩ = some (.int .i64 a0_5) := (blk_cell T3.out.2.1 5).trans rfl
        have c6 : w7.cell? ⟨g1, 6, none⟩ = some (.int .i64 a0_6) := (blk_cell T3.out.2.1 6).trans rfl
        go_wp2_with (fail)
        refine (HF3.out _).mono ?_
        rintro e w8 ⟨rfl, hb⟩
        have T4 := Aside0.mk (T3.out.below hb)
        clear hb c5 c6
        go_wp2_with (fail)
        go_meet
        exact ⟨by rw [HOO.out, HFF.out]; rfl, T4⟩
       ·go_wp2_with (fail)
        go_meet
        exact ⟨by rw [HOO.out]; rfl, T3⟩
     case rest =>
      obtain ⟨rfl, T3⟩ := hcut
      clear T2 HO HF3 c0 c5 c6
      have d5 : wc.cell? ⟨g2, 5, none⟩ = some (.int .i64 a0_5) := (blk_cell T3.out.2.2.1 5).trans rfl
      have d6 : wc.cell? ⟨g2, 6, none⟩ = some (.int .i64 a0_6) := (blk_cell T3.out.2.2.1 6).trans rfl
      have z5 := blk_frozen T3.out.2.2.1 5
      have z6 := blk_frozen T3.out.2.2.1 6
      go_upto_region 20 with (fail)
      have TQ := Aside0.mk (TS.set (r' := #[.int .i64 0, .int .i64 0, .int .i64 0, .int .i64 0, .int .i64 0, .int .i64 0, .int .i64 0, .string nm, .string vl]) (TS.set (r' := #[.int .i64 0, .int .i64 0, .int .i64 0, .int .i64 0, .int .i64 0, .int .i64 0, .int .i64 a0_6, .string nm, .string vl]) T3.out 5 (.int .i64 0) rfl) 6 (.int .i64 0) rfl)
      have HVQ := HV
      generalize (ob && (outerB a0_5 a0_6 || fineB a0_5 a0_6)) = ok at HVQ ⊢
      clear HV T3 d5 d6 z5 z6
      revert TQ
      generalize (wc.setCell ⟨g2, 5, none⟩ (.int .i64 0)).setCell ⟨g2, 6, none⟩ (.int .i64 0) = wq
      intro TQ
      obtain ⟨x0, x1, x2, x3, x4, x5, x6, x7, x8, T5, HR⟩ : ∃ (x0 x1 x2 x3 x4 x5 x6 : Int) (x7 x8 : ByteArray), Aside0 (TS w g1 g2 (opRow 2 a0_1 a0_2 a0_3 a0_4 a0_5 a0_6 a0_7 a0_8) #[.int .i64 x0, .int .i64 x1, .int .i64 x2, .int .i64 x3, .int .i64 x4, .int .i64 x5, .int .i64 x6, .string x7, .string x8] wq) ∧ Aside0 ((if (!ok || bigB x0 x1 x2 x3 x4 x5 x6 x7 x8) = true then (1 : Int) else 0) = r) := ⟨0, 0, 0, 0, 0, 0, 0, nm, vl, TQ, ⟨by rw [big_rest]; exact HVQ.out⟩⟩
      clear TQ HVQ
      have d0 : wq.cell? ⟨g2, 0, none⟩ = some (.int .i64 x0) := (blk_cell T5.out.2.2.1 0).trans rfl
      have d1 : wq.cell? ⟨g2, 1, none⟩ = some (.int .i64 x1) := (blk_cell T5.out.2.2.1 1).trans rfl
      have d2 : wq.cell? ⟨g2, 2, none⟩ = some (.int .i64 x2) := (blk_cell T5.out.2.2.1 2).trans rfl
      have d3 : wq.cell? ⟨g2, 3, none⟩ = some (.int .i64 x3) := (blk_cell T5.out.2.2.1 3).trans rfl
      have d4 : wq.cell? ⟨g2, 4, none⟩ = some (.int .i64 x4) := (blk_cell T5.out.2.2.1 4).trans rfl
      have d5 : wq.cell? ⟨g2, 5, none⟩ = some (.int .i64 x5) := (blk_cell T5.out.2.2.1 5).trans rfl
      have d6 : wq.cell? ⟨g2, 6, none⟩ = some (.int .i64 x6) := (blk_cell T5.out.2.2.1 6).trans rfl
      have d7 : wq.cell? ⟨g2, 7, none⟩ = some (.string x7) := (blk_cell T5.out.2.2.1 7).trans rfl
      have d8 : wq.cell? ⟨g2, 8, none⟩ = some (.string x8) := (blk_cell T5.out.2.2.1 8).trans rfl
      cases ok
      ·rw [Bool.not_false, Bool.true_or, if_pos rfl] at HR
       go_wp2_with (fail)
       go_ret
       exact ⟨by rw [← HR.out]; rfl, T5.out.1⟩
      ·rw [Bool.not_true, Bool.false_or] at HR
       go_wp2_with (fail)
       ·rename_i hz
        go_ret
        exact ⟨by rw [← HR.out, if_pos ((big_true x0 x1 x2 x3 x4 x5 x6 x7 x8).1 hz)]; rfl, T5.out.1⟩
       ·rename_i hz
        go_ret
        exact ⟨by rw [← HR.out, if_neg (by rw [(big_false x0 x1 x2 x3 x4 x5 x6 x7 x8).1 hz]; decide)]; rfl, T5.out.1⟩

    ·have v2 := beq_eq_false_iff_ne.2 h2
     have n12 : ¬ (a0_0 = 1 ∨ a0_0 = 2) := fun q => q.elim h1 h2
     have e1 : finPa a0_0 ob a0_5 a0_6 = ob := if_neg n12
     rw [e1, if_neg n12, if_neg n12] at HV
     clear e1 n12 h1 h2 HO HF3 c5 c6
     go_upto_region 20 with (fail)
     have TQ := T2
     have HVQ := HV
     clear T2 HV c0
     generalize wc = wq at TQ ⊢
     generalize ob = ok at HVQ ⊢
     obtain ⟨x0, x1, x2, x3, x4, x5, x6, x7, x8, T5, HR⟩ : ∃ (x0 x1 x2 x3 x4 x5 x6 : Int) (x7 x8 : ByteArray), Aside0 (TS w g1 g2 (opRow a0_0 a0_1 a0_2 a0_3 a0_4 a0_5 a0_6 a0_7 a0_8) #[.int .i64 x0, .int .i64 x1, .int .i64 x2, .int .i64 x3, .int .i64 x4, .int .i64 x5, .int .i64 x6, .string x7, .string x8] wq) ∧ Aside0 ((if (!ok || bigB x0 x1 x2 x3 x4 x5 x6 x7 x8) = true then (1 : Int) else 0) = r) := ⟨0, 0, 0, 0, 0, a0_5, a0_6, nm, vl, TQ, ⟨by rw [big_rest]; exact HVQ.out⟩⟩
     clear TQ HVQ
     have d0 : wq.cell? ⟨g2, 0, none⟩ = some (.int .i64 x0) := (blk_cell T5.out.2.2.1 0).trans rfl
     have d1 : wq.cell? ⟨g2, 1, none⟩ = some (.int .i64 x1) := (blk_cell T5.out.2.2.1 1).trans rfl
     have d2 : wq.cell? ⟨g2, 2, none⟩ = some (.int .i64 x2) := (blk_cell T5.out.2.2.1 2).trans rfl
     have d3 : wq.cell? ⟨g2, 3, none⟩ = some (.int .i64 x3) := (blk_cell T5.out.2.2.1 3).trans rfl
     have d4 : wq.cell? ⟨g2, 4, none⟩ = some (.int .i64 x4) := (blk_cell T5.out.2.2.1 4).trans rfl
     have d5 : wq.cell? ⟨g2, 5, none⟩ = some (.int .i64 x5) := (blk_cell T5.out.2.2.1 5).trans rfl
     have d6 : wq.cell? ⟨g2, 6, none⟩ = some (.int .i64 x6) := (blk_cell T5.out.2.2.1 6).trans rfl
     have d7 : wq.cell? ⟨g2, 7, none⟩ = some (.string x7) := (blk_cell T5.out.2.2.1 7).trans rfl
     have d8 : wq.cell? ⟨g2, 8, none⟩ = some (.string x8) := (blk_cell T5.out.2.2.1 8).trans rfl
     cases ok
     ·rw [Bool.not_false, Bool.true_or, if_pos rfl] at HR
      go_wp2_with (fail)
      go_ret
      exact ⟨by rw [← HR.out]; rfl, T5.out.1⟩
     ·rw [Bool.not_true, Bool.false_or] at HR
      go_wp2_with (fail)
      ·rename_i hz
       go_ret
       exact ⟨by rw [← HR.out, if_pos ((big_true x0 x1 x2 x3 x4 x5 x6 x7 x8).1 hz)]; rfl, T5.out.1⟩
      ·rename_i hz
       go_ret
       exact ⟨by rw [← HR.out, if_neg (by rw [(big_false x0 x1 x2 x3 x4 x5 x6 x7 x8).1 hz]; decide)]; rfl, T5.out.1⟩
end Go.Proofs.YthemhfloablccaaDoor.Pr
end

section
namespace Go.Proofs.YthemhfloablccaaDoor.Pr
open Go.RowKit Go.Deep Go.Proofs.YthemhfloablccaaDoorW.PrintWords Go.Proofs.YthemhfloablccaaDoorW.PrintLast Go.Proofs.YthemhfloablccaaDoorW.PrintMore
set_option maxHeartbeats 2000000
def badN (x : Int) : Bool := decide (x < 0) || decide (1099511627775 < x)
theorem badN_calls (x : Int) (w : World) : Calls Tryd.prog 100 #[.int .i64 x] w fun e w' => e = .returned (.bool (badN x)) ∧ w' = w := by
 by_cases h : x < 0
 ·have d1 : decide (x < 0) = true := decide_eq_true h
  have hv : badN x = true := by unfold badN; rw [d1]; rfl
  rw [hv]
  clear h hv
  go_enter Tryd.func100, Tryd.ntmps100
  go_wp2
  go_ret
  exact ⟨rfl, rfl⟩
 ·have d1 : decide (x < 0) = false := decide_eq_false h
  have hv : badN x = decide (1099511627775 < x) := by unfold badN; rw [d1]; rfl
  rw [hv]
  clear h hv
  generalize hd : decide (1099511627775 < x) = b
  go_enter Tryd.func100, Tryd.ntmps100
  go_wp2
  go_ret
  exact ⟨rfl, rfl⟩
theorem num_at {w : World} {A : Option Addr} {l : List Int} (h : Kd.C (Kd.int .i64) w A l.length l) (k : Nat) (hk : k < l.length) : ∃ ad x, A = some ad ∧ l[k]? = some x ∧ w.cell? (ad.add k) = some (.int .i64 x) := by
 obtain ⟨ad, he, hz⟩ := h.2.2 (by omega)
 obtain ⟨cs, h1, h2, h3⟩ := hz k _ (List.getElem?_eq_getElem hk)
 have h2' : cs = [.int .i64 l[k]] := h2
 subst h2'
 have h4 : w.cell? (ad.add (k * 1)) = some (.int .i64 l[k]) := h3 0 _ rfl
 rw [Nat.mul_one] at h4
 exact ⟨ad, l[k], he, List.getElem?_eq_getElem hk, h4⟩
theorem indexNum_calls (A : Option Addr) (cap : Nat) (l : List Int) (w : World) (hC : Kd.C (Kd.int .i64) w A l.length l) (hm : l.length ≤ 1000000) :
  Calls Tryd.prog 114 #[.slice A l.length cap, .func (.func 100) #[] #[]] w fun e w' => ∃ r : Int, e = .returned (.int .i64 r) ∧ decide (0 ≤ r) = l.any badN ∧ w' = w := by
 have HC := Aside0.mk hC
 have HM := Aside0.mk hm
 clear hC hm
 go_enter Tryd.func114, Tryd.ntmps114
 go_wp2
 go_loopg [8] l.length (fun gk i wr => ∃ k : Nat, k ≤ l.length ∧ i = .int .i64 (k : Int) ∧ Aside0 (gk = l.length - k) ∧ Aside0 (wr = w) ∧ Aside0 ((l.take k).any badN = false))
 case atStart => exact ⟨0, Nat.zero_le _, rfl, ⟨rfl⟩, ⟨rfl⟩, ⟨rfl⟩⟩
 case round =>
  obtain ⟨k, hk, rfl, HG, HW, HK⟩ := hrel
  obtain rfl := HW.out
  by_cases hlt : k < l.length
  ·have q1 : decide (k < l.length) = true := decide_eq_true hlt
   obtain ⟨ad, x, rfl, hx, hc⟩ := num_at HC.out k hlt
   have e5 := eq_true hlt
   have HX := Aside0.mk hx
   have HLT := Aside0.mk hlt
   have w1 : wrap64 ((k : Int) + 1) = ((k + 1 : Nat) : Int) := by have := HM.out; unfold wrap64; omega
   obtain ⟨b, hb⟩ : ∃ b, badN x = b := ⟨_, rfl⟩
   have hbc := badN_calls x wr
   rw [hb] at hbc
   have HBC := Aside0.mk hbc
   have HB := Aside0.mk hb
   have htk : (l.take (k + 1)).any badN = b := by
    rw [List.take_add_one, hx, List.any_append, HK.out]
    simp [hb]
   have HTK := Aside0.mk htk
   clear hk hlt hx hbc hb htk
   cases b
   ·go_wp2_with (fail)
    refine HBC.out.mono ?_
    rintro e w' ⟨rfl, rfl⟩
    go_wp2_with (fail)
    go_roundg (l.length - (k + 1))
    case measure => have := HG.out; have := HLT.out; omega
    case rel => exact ⟨k + 1, HLT.out, by go_num, ⟨rfl⟩, ⟨rfl⟩, HTK⟩
   ·go_wp2_with (fail)
    refine HBC.out.mono ?_
    rintro e w' ⟨rfl, rfl⟩
    go_wp2_with (fail)
    go_ret
    refine ⟨_, rfl, ?_, rfl⟩
    have : l.any badN = true := by
     rw [← List.take_append_drop (k + 1) l, List.any_append, HTK.out]
     rfl
    rw [this]
    exact decide_eq_true (by omega)
  ·have q1 : decide (k < l.length) = false := decide_eq_false hlt
   have HE : Aside0 (l.any badN = false) := ⟨by have := HK.out; rwa [List.take_of_length_le (by omega)] at this⟩
   clear hk hlt
   go_wp2_with (fail)
   go_ret
   exact ⟨_, rfl, by rw [HE.out]; rfl, rfl⟩
def wire_number.f (l0 : List Int) : Option Bool := if l0.length ≤ 1000000 then some (!(l0.any badN)) else none
theorem wire_number.calls (A0 : Option Addr) (c0 : Nat) (l0 : List Int) (r : Bool) (w : World) (hr0 : Kd.C (Kd.int .i64) w A0 l0.length l0) (hc0 : l0.length ≤ c0) (h : wire_number.f l0 = some r) :
  Calls Tryd.prog 75 #[.slice A0 l0.length c0] w fun e w' => e = .returned (.bool r) ∧ Below w.heap.size w w' := by
 unfold wire_number.f at h
 by_cases hm : l0.length ≤ 1000000
 ·rw [if_pos hm] at h
  cases h
  have HI := Aside0.mk (indexNum_calls A0 c0 l0 w hr0 hm)
  have HCF : Aside0 (Calls Tryd.prog 99 #[.slice A0 l0.length c0, .func (.func 100) #[] #[]] w fun e w' => e = .returned (.bool (l0.any badN)) ∧ w' = w) := ⟨by
   clear hr0 hm
   go_enter Tryd.func99, Tryd.ntmps99
   go_wp2_with (fail)
   refine HI.out.mono ?_
   rintro e w' ⟨r, rfl, hr, rfl⟩
   have HR := Aside0.mk hr
   clear hr
   generalize hd : decide (0 ≤ r) = b at HR
   go_wp2_with (fail)
   go_ret
   exact ⟨by rw [← HR.out]; rfl, rfl⟩⟩
  clear hr0 hm
  generalize l0.any badN = b at HCF ⊢
  go_enter Tryd.func75, Tryd.ntmps75
  go_wp2_with (fail)
  refine HCF.out.mono ?_
  rintro e w' ⟨rfl, rfl⟩
  go_wp2_with (fail)
  go_ret
  exact ⟨rfl, Below.refl _ _⟩
 ·rw [if_neg hm] at h
  cases h
end Go.Proofs.YthemhfloablccaaDoor.Pr
end

section
namespace Go.Proofs.YthemhfloablccaaDoor.Pr
open Go.RowKit Go.Proofs.YthemhfloablccaaDoorW.PrintWords Go.Proofs.YthemhfloablccaaDoorW.PrintLast Go.Proofs.YthemhfloablccaaDoorW.PrintMore
attribute [local go_sem] max2_int min2_int max_two min_two max_three min_three max_four min_four
def wire_member.f (a0 : Int) : Option (Bool) := if a0 ≥ 1 then (some (decide (a0 ≤ 6))) else (some false)
set_option maxHeartbeats 8000000 in
set_option maxRecDepth 100000 in
theorem wire_member.calls (a0 : Int) (r : Bool) (w : World) (h : wire_member.f a0 = some r) :
  Calls Tryd.prog 74 #[.int .i64 a0] w fun e w' => e = .returned (.bool r) ∧ Drawn0 w w' := by
 have H : (if a0 ≥ 1 then (some (decide (a0 ≤ 6))) else (some false)) = some r := h; clear h; by_cases c2 : a0 ≥ 1
 ·rw [if_pos c2] at H; have c2b0 : decide (1 ≤ a0) = true := decide_eq_true c2; clear c2; obtain rfl := Option.some.inj H; go_enter Tryd.func74, Tryd.ntmps74
  go_wp2; go_ret
  exact ⟨rz_, dz_⟩
 ·rw [if_neg c2] at H; have c2b0 : decide (1 ≤ a0) = false := decide_eq_false c2; clear c2; obtain rfl := Option.some.inj H; go_enter Tryd.func74, Tryd.ntmps74
  go_wp2; go_ret
  exact ⟨rz_, dz_⟩
end Go.Proofs.YthemhfloablccaaDoor.Pr
end

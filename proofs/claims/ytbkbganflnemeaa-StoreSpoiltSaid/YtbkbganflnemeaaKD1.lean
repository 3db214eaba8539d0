/- Joined texts (pack.py): what the statement's proof needs, part 1. No condition. -/
import Derived.Below
import Derived.Deep.Draws
import Derived.Deep.AppendLies
import Derived.Maps.AppendAt
import Derived.OwnWalk
import Derived.Laws.BytesArg
import Derived.Laws.MakeOwn
import Derived.Laws.OwnMore
import Derived.Deep.OwnRows
import Derived.Tactics
import Derived.Lib.ConvBytes
import Derived.Laws.Slices
import Derived.WalkKit
import Derived.KernelRfl
import Derived.RowKit3
import Derived.Deep.LoopGhost
import Derived.Deep.QuietTactic
import Derived.BigQuiet
import Derived.WideLaws
import Derived.Deep.DeepCutAuto
import Derived.Deep.CutBlock
import Derived.Deep.RegionHeld3
import Derived.Laws.Rows
import Derived.Lib.AppendStr
import Derived.ArgAppend
import Derived.Laws.IdiomCopy
import Derived.RowKit
import Derived.OrdersHeld
import Derived.Laws.BitsLemmas
import Derived.Laws.StructEq
import Derived.Shelf.Strings.Builder1
import Derived.Shelf.Strings.Builder2
import Derived.Shelf.Strings.OnBuilder
import Derived.Shelf.Strings.BuilderF
import Derived.Shelf.Strings.Prefix
import Derived.Shelf.Bits.Mul64
import Derived.Shelf.Strings.Repeat
import Derived.Test.YtbkbganflnemeaaProg
import Derived.Deep.RegionLaw
import Derived.StillTailTactics
import Derived.Deep.Light
import Derived.Deep.RegionHeldLaw
import Derived.Deep.DrawnRows
import Derived.IntWalk
import Derived.Deep.WholeRow
import Derived.Laws.CopyOwn
import Derived.Maps.OwnSet
import Derived.Lib.BufferWrite
import Derived.Test.YtbkbganflnemeaaRows
import Derived.ProofKit
import Derived.OpenShut
import Derived.ShutString
import Derived.ChangeOld
import Derived.SizedLaws
section
set_option linter.unusedVariables false
set_option linter.unusedSimpArgs false
namespace Go.Proofs.YtbkbganflnemeaaW.PrintWords
open Go.RowKit
structure Aside0 (p : Prop) : Prop where mk :: (out : p)
structure Drawn0 (w w' : World) : Prop where mk :: (out : ∃ n, w' = w.drewN n)
theorem Drawn0.refl (w : World) : Drawn0 w w := ⟨⟨0, rfl⟩⟩
theorem Drawn0.step {w w' : World} (h : Drawn0 w w') (n : Nat) : Drawn0 w (w'.drewN n) := by
  obtain ⟨m, rfl⟩ := h
  exact ⟨⟨m + n, World.drewN_drewN ..⟩⟩
theorem Drawn0.grown {w w' : World} (h : Drawn0 w w') : Grown w w' := by
  obtain ⟨n, rfl⟩ := h
  induction n with
  | zero => exact Grown.refl _
  | succ n ih => rw [← World.drew_drewN]; exact Grown.drew ih
theorem Drawn0.below {w w' : World} (h : Drawn0 w w') : Below w.heap.size w w' := by
  obtain ⟨n, rfl⟩ := h
  induction n with
  | zero => exact Below.refl _ _
  | succ n ih => rw [← World.drew_drewN]; exact ih.drew
def rd (xs : List Int) (i : Int) : Int := xs.getD i.toNat 0
def bt (s : ByteArray) (i : Int) : Int := if h : i.toNat < s.size then ((s[i.toNat]'h).toNat : Int) else 0
theorem bt_at (s : ByteArray) (i : Int) : ∀ h : i.toNat < s.size, ((s[i.toNat]'h).toNat : Int) = bt s i := fun h => by simp [bt, h]
def nums (k : IntKind) (xs : List Int) : List Value := xs.map fun x => .int k x
theorem nums_length (k : IntKind) (xs : List Int) : (nums k xs).length = xs.length := by simp [nums]
theorem nums_append (k : IntKind) (xs ys : List Int) : nums k (xs ++ ys) = nums k xs ++ nums k ys := by simp [nums]
theorem below_alloc {w W : World} (h : Below w.heap.size w W) (o : Obj) : Below w.heap.size w (W.alloc o) := h.alloc h.size o
theorem below_drew {B : Nat} {w W : World} (h : Below B w W) : Below B w W.drew := ⟨h.os, h.tape, h.output, h.size, h.block⟩
theorem pw_below_drewN {B : Nat} {w W : World} (h : Below B w W) (n : Nat) : Below B w (W.drewN n) := ⟨h.os, h.tape, h.output, h.size, h.block⟩
theorem below_then {B : Nat} {w w1 w2 : World} (h : Below B w w1) (hB : B ≤ w1.heap.size) (k : Below w1.heap.size w1 w2) : Below B w w2 :=
  h.trans ⟨k.os, k.tape, k.output, k.size, fun i hi => k.block i (Nat.lt_of_lt_of_le hi hB)⟩
theorem grown_of_below {w w1 : World} (h : Below w.heap.size w w1) (row : Option Nat) : w.grownBy w1 row := ⟨h.os, h.tape, h.output, h.size, fun i hi _ => h.block i hi⟩
theorem pw_cell_below {w w1 : World} (h : Below w.heap.size w w1) {a : Addr} {v : Value} (hc : w.cell? a = some v) : w1.cell? a = some v := (h.cell (World.block_lt_of_cell? w a hc)).trans hc
theorem add_plain (g j : Nat) : (⟨g, 0, none⟩ : Addr).add j = ⟨g, j, none⟩ := by unfold Addr.add; split <;> simp_all
def ReadsInt (w : World) (k : IntKind) (A : Option Addr) (n : Nat) (xs : List Int) : Prop :=
  xs.length = n ∧ n ≤ 9223372036854775807 ∧ (0 < n → ∃ ad, A = some ad ∧ ∀ j, j < n → w.cell? (ad.add j) = some (.int k (xs.getD j 0)))
theorem own_nil (W : World) (base : Nat) (e : TypeId) (size : Nat) : W.ownsRow base e size (.slice none 0 0) 0 [] := ⟨by simp, .inl ⟨rfl, rfl⟩⟩
theorem own_base {w : World} {base : Nat} {e : TypeId} {size n : Nat} {v : Value} {xs : List Value} (h : w.ownsRow base e size v n xs) (k : Nat) (hk : v.ownBlock = some k) : base ≤ k := by
  rcases h.2 with ⟨rfl, _⟩ | ⟨g, cap, cur, rfl, hb, _⟩
  · simp [Value.ownBlock] at hk
  · have : g = k := by simpa [Value.ownBlock] using hk
    omega
theorem own_lt {w : World} {base : Nat} {e : TypeId} {size n : Nat} {v : Value} {xs : List Value} (h : w.ownsRow base e size v n xs) (k : Nat) (hk : v.ownBlock = some k) : k < w.heap.size := by
  rcases h.2 with ⟨rfl, _⟩ | ⟨g, cap, cur, rfl, hb, hh, _⟩
  · simp [Value.ownBlock] at hk
  · have : g = k := by simpa [Value.ownBlock] using hk
    subst this
    exact (Array.getElem?_eq_some_iff.1 hh).1
theorem pw_own_below {w w1 : World} {base : Nat} {e : TypeId} {size n : Nat} {v : Value} {xs : List Value} (h : w.ownsRow base e size v n xs) (hb : Below w.heap.size w w1) : w1.ownsRow base e size v n xs :=
  h.kept (grown_of_below hb none) (by cases v.ownBlock <;> simp)
theorem own_reads {w : World} {base n : Nat} {e : TypeId} {k : IntKind} {v : Value} {xs : List Int} (h : w.ownsRow base e 1 v n (nums k xs)) : ∃ A c, v = .slice A n c ∧ ReadsInt w k A n xs := by
  have hl : xs.length = n := by have := h.1; simp [nums] at this; exact this
  rcases Nat.eq_zero_or_pos n with h0 | h0
  · rcases h.2 with ⟨rfl, rfl⟩ | ⟨g, cap, cur, rfl, _⟩
    · exact ⟨none, 0, rfl, hl, by omega, fun hp => absurd hp (by omega)⟩
    · exact ⟨_, cap, rfl, hl, by omega, fun hp => absurd hp (by omega)⟩
  · obtain ⟨g, cap, rfl, _, _⟩ := h.form h0
    have hm : n ≤ 9223372036854775807 := by
      rcases h.2 with ⟨_, h1⟩ | ⟨g', cap', cur, he, _, _, h1, h2, _⟩
      · omega
      · simp only [maxLen] at h2
        omega
    refine ⟨_, cap, rfl, hl, hm, fun _ => ⟨_, rfl, fun j hj => h.cells (g := g) rfl j _ ?_⟩⟩
    simp [nums, List.getElem?_eq_getElem (show j < xs.length by omega), List.getD_eq_getElem?_getD]
theorem own_slice {w : World} {base n : Nat} {e : TypeId} {size : Nat} {v : Value} {xs : List Value} (h : w.ownsRow base e size v n xs) : ∃ A c, v = .slice A n c := by
  rcases h.2 with ⟨rfl, rfl⟩ | ⟨g, cap, cur, rfl, _⟩
  · exact ⟨none, 0, rfl⟩
  · exact ⟨_, cap, rfl⟩
theorem own_string {P : Program} {w : World} {base n : Nat} {e' src dst e : TypeId} {v : Value} {xs : List Int} (hs : P.underlying src = some (.slice e)) (he : P.underlying e = some (.int .u8)) (hd : P.underlying dst = some .string)
    (h : w.ownsRow base e' 1 v n (nums .u8 xs)) : (convert src dst v).run P w = .ok (.string (strOfNums xs)) w := by
  have hl : xs.length = n := by have := h.1; simp [nums] at this; exact this
  rcases h.2 with ⟨rfl, rfl⟩ | ⟨g, cap, cur, rfl, _⟩
  · obtain rfl : xs = [] := List.eq_nil_of_length_eq_zero hl
    exact run_convert_bytes_nil w src e hs he 0 0 dst hd
  · refine run_convert_bytes_arg w src e hs he g 0 n cap xs hl (fun i hi => ?_) dst hd
    have hc := h.cells (g := g) rfl i (.int .u8 (xs.getD i 0)) (by simp [nums, List.getElem?_eq_getElem (show i < xs.length by omega), List.getD_eq_getElem?_getD])
    have ha : (⟨g, 0, none⟩ : Addr).add i = ⟨g, 0 + i, none⟩ := by unfold Addr.add; split <;> simp_all
    rwa [ha] at hc
section
variable {P : Program} {ops : Array Oper} {rest : List Oper} {o : Oper} {a : Act} {Q : Exit → Act → World → Prop}
theorem print_append {w0 W : World} (base : Nat) (hgd : o.guard = none) (s x : Operand) (t e : TypeId) (z : Value) (bytes : Nat)
    (ho : o.op = .call { callee := .builtin .append, args := #[s, x], argTypes := #[t, t] })
    (ht : P.underlying t = some (.slice e)) (hinfo : (P.info? e).map (fun i => (i.zero, i.size, i.bytes)) = some (some z, 1, bytes)) (hz : z.cells.size = 1) (hb0 : 0 < bytes)
    (v : Value) (xs : List Value) (y : Value) (hs : a.eval s = v) (hx : a.eval x = .slice (some ⟨W.heap.size, 0, none⟩) 1 1) (h1 : y.oneCell' = true)
    (HO : W.ownsRow base e 1 v xs.length xs) (HB : Below base w0 W) (hbase : base ≤ W.heap.size) (hl : (xs.length + 1) * bytes ≤ 140737488355328)
    (h : ∀ v1 w1, w1.ownsRow base e 1 v1 (xs ++ [y]).length (xs ++ [y]) → Below base w0 w1 → W.grownBy w1 v.ownBlock → (v1.ownBlock = v.ownBlock ∨ ∃ b, v1.ownBlock = some b ∧ W.heap.size ≤ b) → wpList P ops Q rest (a.put o.dst v1) w1) :
    wpList P ops Q (o :: rest) a (W.alloc (.cells #[y] e)) := by
  obtain ⟨i0, hi, hzz⟩ := Option.map_eq_some_iff.1 hinfo
  simp only [Prod.mk.injEq] at hzz
  obtain ⟨hz0, hz1, hz2⟩ := hzz
  have hlen : xs.length + 1 ≤ 140737488355328 := Nat.le_trans (Nat.le_mul_of_pos_right _ hb0) hl
  refine wpList_append_own_at (W.alloc (.cells #[y] e)) hgd s x t ho base e i0 z 1 bytes ht hi hz0 hz1 hz2 hz (by omega) v xs.length xs hs (HO.alloc _) ⟨W.heap.size, 0, none⟩ 1 1 [y] hx rfl
    (World.news_of_block (cs := #[y]) (t := e) (fr := (0, 0)) (heap_alloc_new W _)) (by simpa using h1) (by simp only [maxLen]; omega) hl (by simp; omega) ?_
  intro v1 w1 hown hg _ hat
  refine h v1 w1 (by simpa using hown) ((HB.alloc hbase _).grown hg (by simp; omega) (own_base HO)) (World.grownBy.trans (World.grownBy_alloc W _ _) hg) ?_
  rcases hat with hat | hat
  · exact .inl hat
  · exact .inr ⟨_, hat, by simp⟩
theorem print_append_num {w0 W : World} (base : Nat) (hgd : o.guard = none) (s x : Operand) (t e : TypeId) (k : IntKind) (bytes : Nat)
    (ho : o.op = .call { callee := .builtin .append, args := #[s, x], argTypes := #[t, t] })
    (ht : P.underlying t = some (.slice e)) (hinfo : (P.info? e).map (fun i => (i.zero, i.size, i.bytes)) = some (some (.int k 0), 1, bytes)) (hb0 : 0 < bytes)
    (v : Value) (xs : List Int) (y : Int) (hs : a.eval s = v) (hx : a.eval x = .slice (some ⟨W.heap.size, 0, none⟩) 1 1)
    (HO : W.ownsRow base e 1 v xs.length (nums k xs)) (HB : Below base w0 W) (hbase : base ≤ W.heap.size) (hl : (xs.length + 1) * bytes ≤ 140737488355328)
    (h : ∀ v1 w1, w1.ownsRow base e 1 v1 (xs ++ [y]).length (nums k (xs ++ [y])) → Below base w0 w1 → W.grownBy w1 v.ownBlock → (v1.ownBlock = v.ownBlock ∨ ∃ b, v1.ownBlock = some b ∧ W.heap.size ≤ b) → wpList P ops Q rest (a.put o.dst v1) w1) :
    wpList P ops Q (o :: rest) a (W.alloc (.cells #[.int k y] e)) :=
  print_append base hgd s x t e (.int k 0) bytes ho ht hinfo rfl hb0 v (nums k xs) (.int k y) hs hx rfl (by rw [nums_length]; exact HO) HB hbase (by rw [nums_length]; exact hl)
    fun v1 w1 hown hB hg hat => h v1 w1 (by simpa [nums] using hown) hB hg hat
end
section
variable {P : Program}
theorem print_make (t e : TypeId) (k : IntKind) (bytes : Nat) (ht : P.underlying t = some (.slice e)) (hinfo : (P.info? e).map (fun i => (i.zero, i.size, i.bytes)) = some (some (.int k 0), 1, bytes)) (hb0 : 0 < bytes)
    (m : Nat) (hn : m * bytes ≤ 281474976710656) :
    ∀ W : World, (Instr.makeSlice t (.int .i64 (m : Int)) (.int .i64 (m : Int))).run P W = .ok (.slice (some ⟨W.heap.size, 0, none⟩) m m) (W.alloc (.cells (madeCells #[.int k 0] m) e)) := by
  intro W
  have hm : m ≤ 281474976710656 := Nat.le_trans (Nat.le_mul_of_pos_right _ hb0) hn
  exact run_make_row' t e (.int k 0) bytes ht hinfo rfl .i64 .i64 m (by rw [Nat.mul_comm]; exact hn) (by omega) W
end
theorem own_made (W : World) (base : Nat) (e : TypeId) (k : IntKind) (m : Nat) (hb : base ≤ W.heap.size) (hm : m ≤ 9223372036854775807) :
    (W.alloc (.cells (madeCells #[.int k 0] m) e)).ownsRow base e 1 (.slice (some ⟨W.heap.size, 0, none⟩) m m) m (nums k (List.replicate m 0)) := by
  have h := World.ownsRow_lit (base := base) (e := e) (size := 1) W (madeCells #[.int k 0] m) m hb (by simpa [maxLen] using hm) (by simp [size_madeCells])
  have hl : (madeCells #[Value.int k 0] m).toList = nums k (List.replicate m 0) := by
    apply List.ext_getElem
    · simp [nums, madeCells]
    · intro i h1 h2
      simp [nums, madeCells, Nat.mod_one]
  rwa [hl] at h
theorem own_lit (W : World) (base : Nat) (e : TypeId) (k : IntKind) (xs : List Int) (hb : base ≤ W.heap.size) (hm : xs.length ≤ 9223372036854775807) :
    (W.alloc (.cells (nums k xs).toArray e)).ownsRow base e 1 (.slice (some ⟨W.heap.size, 0, none⟩) xs.length xs.length) xs.length (nums k xs) := by
  have h := World.ownsRow_lit (base := base) (e := e) (size := 1) W (nums k xs).toArray xs.length hb (by simpa [maxLen] using hm) (by simp [nums])
  simpa using h
theorem own_at {W : World} {base g n cap : Nat} {e : TypeId} {k : IntKind} {xs : List Int} (h : W.ownsRow base e 1 (.slice (some ⟨g, 0, none⟩) n cap) n (nums k xs)) (i : Int) (h0 : 0 ≤ i) (h1 : i < n) :
    W.cell? ⟨g, i.toNat, none⟩ = some (.int k (rd xs i)) ∧ W.frozen? ⟨g, i.toNat, none⟩ = false := by
  have hl : xs.length = n := by have := h.1; simp [nums] at this; exact this
  constructor
  · have hc := h.cells (g := g) rfl i.toNat (.int k (rd xs i)) (by simp [nums, rd, List.getElem?_eq_getElem (show i.toNat < xs.length by omega), List.getD_eq_getElem?_getD])
    rwa [add_plain] at hc
  · rcases h.2 with ⟨h', _⟩ | ⟨g', cap', cur, h', _, hh, _⟩
    · cases h'
    · have : g = g' := by injection h' with h'; injection h' with h'; injection h' with h'
      subst this
      simp [World.frozen?, hh]
section
variable {P : Program} {ops : Array Oper} {rest : List Oper} {o : Oper} {a : Act} {Q : Exit → Act → World → Prop}
end
def bytesOf (s : ByteArray) : List Int := s.data.toList.map fun b => (b.toNat : Int)
theorem data_length (s : ByteArray) : s.data.toList.length = s.size := by rw [Array.length_toList]; rfl
theorem bytesOf_length (s : ByteArray) : (bytesOf s).length = s.size := by rw [bytesOf, List.length_map, data_length]
theorem print_bytes {P : Program} (src dst e : TypeId) {u : TypeDesc} (hs : P.underlying src = some u) (hd : P.underlying dst = some (.slice e)) (he : P.underlying e = some (.int .u8)) (s : ByteArray) (W : World) :
    (convert src dst (.string s)).run P W = .ok (.slice (some ⟨W.heap.size, 0, none⟩) s.size (grownCap W s.size 0 e)) (Lib.bytesWorld W e s) := Lib.run_convert_string_bytes W src dst e s hs hd he
theorem bytes_below {B : Nat} {w W : World} (h : Below B w W) (hB : B ≤ W.heap.size) (e : TypeId) (s : ByteArray) : Below B w (Lib.bytesWorld W e s) :=
  h.trans ⟨rfl, rfl, rfl, by rw [Lib.bytesWorld_size]; omega, fun i hi => Lib.bytesWorld_at_old W e s i (by omega)⟩
def Reps {α : Type} (R : α → List Value → Prop) (size : Nat) (ps : List α) (cs : List Value) : Prop :=
  cs.length = ps.length * size ∧ ∀ j p, ps[j]? = some p → R p ((cs.drop (j * size)).take size)
theorem Reps.none {α : Type} (R : α → List Value → Prop) (size : Nat) : Reps R size [] [] := ⟨by simp, fun j p h => by simp at h⟩
theorem Reps.snoc {α : Type} {R : α → List Value → Prop} {size : Nat} {ps : List α} {cs c : List Value} {p : α} (h : Reps R size ps cs) (hp : R p c) (hc : c.length = size) : Reps R size (ps ++ [p]) (cs ++ c) := by
  refine ⟨by rw [List.length_append, h.1, hc, List.length_append, List.length_singleton, Nat.add_mul, Nat.one_mul], fun j q hq => ?_⟩
  rcases Nat.lt_or_ge j ps.length with hj | hj
  · rw [List.getElem?_append_left hj] at hq
    have h1 : j * size + size ≤ cs.length := by rw [h.1, ← Nat.succ_mul]; exact Nat.mul_le_mul_right _ hj
    have h2 := h.2 j q hq
    rw [List.drop_append_of_le_length (by omega), List.take_append_of_le_length (by rw [List.length_drop]; omega)]
    exact h2
  · have hj' : j = ps.length := by
      have := (List.getElem?_eq_some_iff.1 hq).1
      rw [List.length_append, List.length_singleton] at this
      omega
    subst hj'
    have hq' : p = q := by simpa using hq
    subst hq'
    rw [← h.1, List.drop_left, ← hc, List.take_length]
    exact hp
theorem Reps.imp_ {α : Type} {R R' : α → List Value → Prop} {size : Nat} {ps : List α} {cs : List Value} (h : Reps R size ps cs) (hR : ∀ p c, R p c → R' p c) : Reps R' size ps cs := ⟨h.1, fun j p hj => hR _ _ (h.2 j p hj)⟩
def ReadsRow {α : Type} (R : α → List Value → Prop) (size : Nat) (w : World) (A : Option Addr) (n : Nat) (ps : List α) : Prop :=
  ps.length = n ∧ n ≤ 9223372036854775807 ∧ (0 < n → ∃ ad, A = some ad ∧ ∀ j p, ps[j]? = some p → ∃ c, c.length = size ∧ R p c ∧ ∀ i u, c[i]? = some u → w.cell? (ad.add (j * size + i)) = some u)
theorem ReadsRow.imp_ {α : Type} {R R' : α → List Value → Prop} {size : Nat} {w w1 : World} {A : Option Addr} {n : Nat} {ps : List α} (h : ReadsRow R size w A n ps) (hb : Below w.heap.size w w1) (hR : ∀ p c, R p c → R' p c) : ReadsRow R' size w1 A n ps :=
  ⟨h.1, h.2.1, fun hn => by
    obtain ⟨ad, e, hc⟩ := h.2.2 hn
    refine ⟨ad, e, fun j p hj => ?_⟩
    obtain ⟨c, hs, hr, hcell⟩ := hc j p hj
    exact ⟨c, hs, hR _ _ hr, fun i u hu => pw_cell_below hb (hcell i u hu)⟩⟩
theorem own_reads_row {α : Type} {R : α → List Value → Prop} {w : World} {base n size : Nat} {e : TypeId} {v : Value} {ps : List α} {cs : List Value} (h : w.ownsRow base e size v n cs) (hR : Reps R size ps cs) (hn : ps.length = n) :
    ∃ A c, v = .slice A n c ∧ ReadsRow R size w A n ps := by
  rcases Nat.eq_zero_or_pos n with h0 | h0
  · rcases h.2 with ⟨rfl, rfl⟩ | ⟨g, cap, cur, rfl, _⟩
    · exact ⟨none, 0, rfl, hn, by omega, fun hp => absurd hp (by omega)⟩
    · exact ⟨_, cap, rfl, hn, by omega, fun hp => absurd hp (by omega)⟩
  · obtain ⟨g, cap, rfl, _, _⟩ := h.form h0
    have hm : n ≤ 9223372036854775807 := by
      rcases h.2 with ⟨_, h1⟩ | ⟨g', cap', cur, he, _, _, h1, h2, _⟩
      · omega
      · simp only [maxLen] at h2
        omega
    refine ⟨_, cap, rfl, hn, hm, fun _ => ⟨_, rfl, fun j p hj => ⟨(cs.drop (j * size)).take size, ?_, hR.2 j p hj, fun i u hu => ?_⟩⟩⟩
    · have hjl := (List.getElem?_eq_some_iff.1 hj).1
      have h1 : j * size + size ≤ cs.length := by rw [hR.1, ← Nat.succ_mul]; exact Nat.mul_le_mul_right _ hjl
      rw [List.length_take, List.length_drop]
      omega
    · refine h.cells (g := g) rfl _ u ?_
      rw [List.getElem?_take] at hu
      split at hu
      · rw [List.getElem?_drop] at hu
        exact hu
      · cases hu
section
variable {P : Program} {ops : Array Oper} {rest : List Oper} {o : Oper} {a : Act} {Q : Exit → Act → World → Prop}
theorem print_append_cells {w0 W : World} (base : Nat) (hgd : o.guard = none) (s x : Operand) (t e : TypeId) (z : Value) (size bytes : Nat)
    (ho : o.op = .call { callee := .builtin .append, args := #[s, x], argTypes := #[t, t] })
    (ht : P.underlying t = some (.slice e)) (hinfo : (P.info? e).map (fun i => (i.zero, i.size, i.bytes)) = some (some z, size, bytes)) (hz : z.cells.size = size) (hs0 : 0 < size) (hb0 : 0 < bytes)
    (v : Value) (n : Nat) (xs ys : List Value) (hs : a.eval s = v) (hx : a.eval x = .slice (some ⟨W.heap.size, 0, none⟩) 1 1) (hys : ys.length = size) (h1 : ∀ u ∈ ys, u.oneCell' = true)
    (HO : W.ownsRow base e size v n xs) (HB : Below base w0 W) (hbase : base ≤ W.heap.size) (hl : (n + 1) * bytes ≤ 140737488355328)
    (h : ∀ v1 w1, w1.ownsRow base e size v1 (n + 1) (xs ++ ys) → Below base w0 w1 → W.grownBy w1 v.ownBlock → (v1.ownBlock = v.ownBlock ∨ ∃ b, v1.ownBlock = some b ∧ W.heap.size ≤ b) → wpList P ops Q rest (a.put o.dst v1) w1) :
    wpList P ops Q (o :: rest) a (W.alloc (.cells ys.toArray e)) := by
  obtain ⟨i0, hi, hzz⟩ := Option.map_eq_some_iff.1 hinfo
  simp only [Prod.mk.injEq] at hzz
  obtain ⟨hz0, hz1, hz2⟩ := hzz
  have hlen : n + 1 ≤ 140737488355328 := Nat.le_trans (Nat.le_mul_of_pos_right _ hb0) hl
  refine wpList_append_own_at (W.alloc (.cells ys.toArray e)) hgd s x t ho base e i0 z size bytes ht hi hz0 hz1 hz2 hz hs0 v n xs hs (HO.alloc _) ⟨W.heap.size, 0, none⟩ 1 1 ys hx (by rw [hys]; simp)
    (by simpa using World.news_of_block (cs := ys.toArray) (t := e) (fr := (0, 0)) (heap_alloc_new W (.cells ys.toArray e))) h1 (by simp only [maxLen]; omega) hl (by simp; omega) ?_
  intro v1 w1 hown hg _ hat
  refine h v1 w1 hown ((HB.alloc hbase _).grown hg (by simp; omega) (own_base HO)) (World.grownBy.trans (World.grownBy_alloc W _ _) hg) ?_
  rcases hat with hat | hat
  · exact .inl hat
  · exact .inr ⟨_, hat, by simp⟩
end
theorem own_ne {w : World} {base : Nat} {e t : TypeId} {size n g : Nat} {v : Value} {xs : List Value} {cs : Array Value} (h : w.ownsRow base e size v n xs) (hg : w.heap[g]? = some (.cells cs t (0, 0))) (hne : e ≠ t) : some g ≠ v.ownBlock := by
  rcases h.2 with ⟨rfl, _⟩ | ⟨g', cap, cur, rfl, _, hh, _⟩
  · simp [Value.ownBlock]
  · intro he
    have : g = g' := by simpa [Value.ownBlock] using he
    subst this
    rw [hg] at hh
    injection hh with hh
    injection hh with _ ht
    exact hne ht.symm
theorem blk_set {w : World} {g : Nat} {t : TypeId} {cs : Array Value} (h : w.heap[g]? = some (.cells cs t (0, 0))) (i : Nat) (u : Value) : (w.setCell ⟨g, i, none⟩ u).heap[g]? = some (.cells (cs.setIfInBounds i u) t (0, 0)) := by
  simp [World.setCell, Array.getElem?_modify, h]
theorem blk_far {w : World} {g : Nat} {t : TypeId} {cs : Array Value} (h : w.heap[g]? = some (.cells cs t (0, 0))) {p : Addr} (hp : g ≠ p.block) (u : Value) : (w.setCell p u).heap[g]? = some (.cells cs t (0, 0)) := (Below.heap_setCell w p u g hp).trans h
theorem blk_lt {w : World} {g : Nat} {o : Obj} (h : w.heap[g]? = some o) : g < w.heap.size := (Array.getElem?_eq_some_iff.1 h).1
theorem blk_cell {w : World} {g : Nat} {t : TypeId} {cs : Array Value} (h : w.heap[g]? = some (.cells cs t (0, 0))) (i : Nat) : w.cell? ⟨g, i, none⟩ = cs[i]? := cell_of_row w g i cs t (0, 0) h
theorem blk_frozen {w : World} {g : Nat} {t : TypeId} {cs : Array Value} (h : w.heap[g]? = some (.cells cs t (0, 0))) (i : Nat) : w.frozen? ⟨g, i, none⟩ = false := by simp [World.frozen?, h]
theorem blk_grown {w w1 : World} {g : Nat} {o : Obj} {row : Option Nat} (h : w.heap[g]? = some o) (hg : w.grownBy w1 row) (hne : some g ≠ row) : w1.heap[g]? = some o := (hg.block g (blk_lt h) hne).trans h
def KeepBut (w w' : World) (g : Nat) (row : Option Nat) : Prop := w.heap.size ≤ w'.heap.size ∧ ∀ i, i < w.heap.size → i ≠ g → some i ≠ row → w'.heap[i]? = w.heap[i]?
theorem KeepBut.refl (w : World) (g : Nat) (row : Option Nat) : KeepBut w w g row := ⟨Nat.le_refl _, fun _ _ _ _ => rfl⟩
theorem KeepBut.set_ {w w1 : World} {g : Nat} {row : Option Nat} (h : KeepBut w w1 g row) (j : Nat) (u : Value) : KeepBut w (w1.setCell ⟨g, j, none⟩ u) g row :=
  ⟨by simpa [World.setCell] using h.1, fun i hi hg hr => (Below.heap_setCell w1 ⟨g, j, none⟩ u i hg).trans (h.2 i hi hg hr)⟩
theorem KeepBut.trans {w w1 w2 : World} {g : Nat} {row row1 : Option Nat} (h : KeepBut w w1 g row) (k : KeepBut w1 w2 g row1) (hr : row1 = row ∨ ∃ b, row1 = some b ∧ w.heap.size ≤ b) : KeepBut w w2 g row :=
  ⟨Nat.le_trans h.1 k.1, fun i hi hg hn => by
    refine (k.2 i (Nat.lt_of_lt_of_le hi h.1) hg ?_).trans (h.2 i hi hg hn)
    rcases hr with rfl | ⟨b, rfl, hb⟩
    · exact hn
    · intro e
      injection e with e
      omega⟩
theorem KeepBut.blk {w w1 : World} {g g' : Nat} {row : Option Nat} {o : Obj} (h : KeepBut w w1 g row) (hb : w.heap[g']? = some o) (hg : g' ≠ g) (hr : some g' ≠ row) : w1.heap[g']? = some o := (h.2 g' (blk_lt hb) hg hr).trans hb
def Ev {α : Type} (g : Nat → Option α) (r : α) : Prop := ∃ K, ∀ k, K ≤ k → g k = some r
section
variable {P : Program} {ops : Array Oper} {o : Oper} {a : Act} {Q : Exit → Act → World → Prop} {K : Act → World → Prop}
theorem step_append_cells {w0 W : World} (base : Nat) (hw : Region.wanted o (yielded ops a.tmps) = true) (s x : Operand) (t e : TypeId) (z : Value) (size bytes : Nat)
    (ho : o.op = .call { callee := .builtin .append, args := #[s, x], argTypes := #[t, t] })
    (ht : P.underlying t = some (.slice e)) (hinfo : (P.info? e).map (fun i => (i.zero, i.size, i.bytes)) = some (some z, size, bytes)) (hz : z.cells.size = size) (hs0 : 0 < size) (hb0 : 0 < bytes)
    (v : Value) (n : Nat) (xs ys : List Value) (hs : a.eval s = v) (hx : a.eval x = .slice (some ⟨W.heap.size, 0, none⟩) 1 1) (hys : ys.length = size) (h1 : ∀ u ∈ ys, u.oneCell' = true)
    (HO : W.ownsRow base e size v n xs) (HB : Below base w0 W) (hbase : base ≤ W.heap.size) (hl : (n + 1) * bytes ≤ 140737488355328)
    (h : ∀ v1 w1, w1.ownsRow base e size v1 (n + 1) (xs ++ ys) → Below base w0 w1 → W.grownBy w1 v.ownBlock → (v1.ownBlock = v.ownBlock ∨ ∃ b, v1.ownBlock = some b ∧ W.heap.size ≤ b) → K (a.put o.dst v1) w1) :
    if Region.wanted o (yielded ops a.tmps) = true then Oper.wp P o a (W.alloc (.cells ys.toArray e)) K Q else K (a.put o.dst undef) (W.alloc (.cells ys.toArray e)) := by
  obtain ⟨i0, hi, hzz⟩ := Option.map_eq_some_iff.1 hinfo
  simp only [Prod.mk.injEq] at hzz
  obtain ⟨hz0, hz1, hz2⟩ := hzz
  have hlen : n + 1 ≤ 140737488355328 := Nat.le_trans (Nat.le_mul_of_pos_right _ hb0) hl
  rw [if_pos hw]
  obtain ⟨v1, w1, hr, hown, hg, _, hat⟩ := run_append_own_at (P := P) (W.alloc (.cells ys.toArray e)) base t o.type e i0 z size bytes ht hi hz0 hz1 hz2 hz hs0 v n xs (HO.alloc _) ⟨W.heap.size, 0, none⟩ 1 1 ys (by rw [hys]; simp)
    (by simpa using World.news_of_block (cs := ys.toArray) (t := e) (fr := (0, 0)) (heap_alloc_new W (.cells ys.toArray e))) h1 (by simp only [maxLen]; omega) hl (by simp; omega)
  unfold Oper.wp execOp
  simp only [ho, resolve, invoke, builtin, Sem.run_bind, Sem.run_pure, Result.andThen_ok, List.map_toArray, List.map_cons, List.map_nil, hs, hx, hr]
  refine h v1 w1 hown ((HB.alloc hbase _).grown hg (by simp; omega) (own_base HO)) (World.grownBy.trans (World.grownBy_alloc W _ _) hg) ?_
  rcases hat with hat | hat
  · exact .inl hat
  · exact .inr ⟨_, hat, by simp⟩
end
theorem own_weaken {w : World} {base base' : Nat} {e : TypeId} {size n : Nat} {v : Value} {xs : List Value} (h : w.ownsRow base e size v n xs) (hb : base' ≤ base) : w.ownsRow base' e size v n xs := by
  obtain ⟨h1, h2⟩ := h
  refine ⟨h1, ?_⟩
  rcases h2 with h2 | ⟨g, cap, cur, rfl, hg, r⟩
  · exact .inl h2
  · exact .inr ⟨g, cap, cur, rfl, Nat.le_trans hb hg, r⟩
section
variable {α : Type} {enc : α → Value} {d : α}
def encs (enc : α → Value) (xs : List α) : List Value := xs.map enc
def rdOf (d : α) (xs : List α) (i : Int) : α := xs.getD i.toNat d
theorem encs_length (xs : List α) : (encs enc xs).length = xs.length := by simp [encs]
theorem encs_get (xs : List α) (j : Nat) (h : j < xs.length) : (encs enc xs)[j]? = some (enc (xs.getD j d)) := by
  simp [encs, List.getElem?_eq_getElem h, List.getD_eq_getElem?_getD]
def ReadsOf (enc : α → Value) (d : α) (w : World) (A : Option Addr) (n : Nat) (xs : List α) : Prop :=
  xs.length = n ∧ n ≤ 9223372036854775807 ∧ (0 < n → ∃ ad, A = some ad ∧ ∀ j, j < n → w.cell? (ad.add j) = some (enc (xs.getD j d)))
theorem ReadsOf.at_ {w : World} {A : Option Addr} {n : Nat} {xs : List α} (h : ReadsOf enc d w A n xs) (i : Int) (h0 : 0 ≤ i) (h1 : i < n) : ∃ ad, A = some ad ∧ w.cell? (ad.add i.toNat) = some (enc (rdOf d xs i)) := by
  obtain ⟨ad, e, hc⟩ := h.2.2 (by omega)
  exact ⟨ad, e, hc _ (by omega)⟩
theorem ReadsOf.below {w w1 : World} {A : Option Addr} {n : Nat} {xs : List α} (h : ReadsOf enc d w A n xs) (hb : Below w.heap.size w w1) : ReadsOf enc d w1 A n xs :=
  ⟨h.1, h.2.1, fun hn => by
    obtain ⟨ad, e, hc⟩ := h.2.2 hn
    exact ⟨ad, e, fun j hj => pw_cell_below hb (hc j hj)⟩⟩
theorem own_at_of {W : World} {base g n cap : Nat} {e : TypeId} {xs : List α} (h : W.ownsRow base e 1 (.slice (some ⟨g, 0, none⟩) n cap) n (encs enc xs)) (i : Int) (h0 : 0 ≤ i) (h1 : i < n) :
    W.cell? ⟨g, i.toNat, none⟩ = some (enc (rdOf d xs i)) ∧ W.frozen? ⟨g, i.toNat, none⟩ = false := by
  have hl : xs.length = n := by have := h.1; simp [encs] at this; exact this
  constructor
  · have hc := h.cells (g := g) rfl i.toNat _ (encs_get (d := d) xs i.toNat (by omega))
    rwa [add_plain] at hc
  · rcases h.2 with ⟨h', _⟩ | ⟨g', cap', cur, h', _, hh, _⟩
    · cases h'
    · have : g = g' := by injection h' with h'; injection h' with h'; injection h' with h'
      subst this
      simp [World.frozen?, hh]
theorem own_store_of {W : World} {base g n cap : Nat} {e : TypeId} {xs : List α} (h : W.ownsRow base e 1 (.slice (some ⟨g, 0, none⟩) n cap) n (encs enc xs)) (i : Int) (x : α) :
    (W.setCell ⟨g, i.toNat, none⟩ (enc x)).ownsRow base e 1 (.slice (some ⟨g, 0, none⟩) n cap) n (encs enc (xs.set i.toNat x)) ∧ W.grownBy (W.setCell ⟨g, i.toNat, none⟩ (enc x)) (some g) := by
  have hs := h.stored i.toNat (enc x)
  have he : (encs enc xs).set i.toNat (enc x) = encs enc (xs.set i.toNat x) := by simp [encs, List.map_set]
  rwa [he] at hs
end
section
variable {α : Type} {P : Program} {ops : Array Oper} {rest : List Oper} {o : Oper} {a : Act} {Q : Exit → Act → World → Prop}
end
theorem blk_alloc {w : World} {g : Nat} {o : Obj} (h : w.heap[g]? = some o) (o' : Obj) : (w.alloc o').heap[g]? = some o := (Below.heap_alloc w o' g (blk_lt h)).trans h
theorem blk_drew {w : World} {g : Nat} {o : Obj} (h : w.heap[g]? = some o) : w.drew.heap[g]? = some o := h
theorem blk_drewN {w : World} {g : Nat} {o : Obj} (h : w.heap[g]? = some o) (n : Nat) : (w.drewN n).heap[g]? = some o := h
theorem blk_below {w w1 : World} {g : Nat} {o : Obj} (h : w.heap[g]? = some o) (hb : Below w.heap.size w w1) : w1.heap[g]? = some o := (hb.block g (blk_lt h)).trans h
theorem blk_new (w : World) (o : Obj) : (w.alloc o).heap[w.heap.size]? = some o := heap_alloc_new w o
section
variable {P : Program}
theorem results_ct {fn : Func} {p u : Tmp} {ty : TypeId} (h : fn.results = #[.cell p ty, .tmp u]) (tmps : Array Value) (w : World) (g : Nat) (t : TypeId) (cs : Array Value) (fr : Nat × Nat) (d : TypeDesc)
    (hp : tmps.getD p undef = .pointer (some ⟨g, 0, none⟩)) (hg : w.heap[g]? = some (.cells cs t fr))
    (hu : P.underlying ty = some d) (hd : (match d with | .struct _ | .array _ _ => true | _ => false) = true) (hi : (P.info? ty).map (·.size) = some cs.size) :
    (results fn tmps).run P w = .ok (.tuple #[.agg cs, tmps.getD u undef]) w := by
  have hp' : tmps[p]?.getD undef = .pointer (some ⟨g, 0, none⟩) := by simpa using hp
  simp [results, h, hp', asAddr, run_loadVar_row w g t ty cs fr d hg hu hd hi]
end
theorem own_le {w : World} {base n m c size : Nat} {e : TypeId} {A : Option Addr} {xs : List Value} (h : w.ownsRow base e size (.slice A m c) n xs) : m ≤ c := by
  rcases h.2 with ⟨he, _⟩ | ⟨g, cap, cur, he, _, _, hnc, _⟩
  · injection he with _ h2 h3
    omega
  · injection he with _ h2 h3
    omega
def OwnRow {α : Type} (R : α → List Value → Prop) (e : TypeId) (size : Nat) (w : World) (base : Nat) (v : Value) (ps : List α) : Prop :=
  ∃ inner, w.ownsRow base e size v ps.length inner ∧ Reps R size ps inner
section
variable {α : Type} {R R' : α → List Value → Prop} {e : TypeId} {size : Nat} {w w1 : World} {base : Nat} {v : Value} {ps : List α}
theorem OwnRow.none_ (R : α → List Value → Prop) (e : TypeId) (size : Nat) (w : World) (base : Nat) : OwnRow R e size w base (.slice none 0 0) [] := ⟨[], own_nil _ _ _ _, Reps.none _ _⟩
theorem OwnRow.imp_ (h : OwnRow R e size w base v ps) (hR : ∀ p c, R p c → R' p c) : OwnRow R' e size w base v ps := by
  obtain ⟨inner, ho, hr⟩ := h
  exact ⟨inner, ho, hr.imp_ hR⟩
theorem OwnRow.reads (h : OwnRow R e size w base v ps) : ∃ A c, v = .slice A ps.length c ∧ ps.length ≤ c ∧ ReadsRow R size w A ps.length ps := by
  obtain ⟨inner, ho, hr⟩ := h
  obtain ⟨A, c, rfl, hrow⟩ := own_reads_row ho hr rfl
  exact ⟨A, c, rfl, own_le ho, hrow⟩
theorem OwnRow.ne_block (h : OwnRow R e size w base v ps) {g : Nat} {t : TypeId} {cells : Array Value} (hb : w.heap[g]? = some (.cells cells t (0, 0))) (ht : e ≠ t) : some g ≠ v.ownBlock := by
  obtain ⟨inner, ho, hr⟩ := h
  exact own_ne ho hb ht
end
section
variable {P : Program} {ops : Array Oper} {rest : List Oper} {o : Oper} {a : Act} {Q : Exit → Act → World → Prop} {α : Type} {R : α → List Value → Prop}
end
section
variable {P : Program} {ops : Array Oper} {o : Oper} {a : Act} {Q : Exit → Act → World → Prop} {K : Act → World → Prop} {α : Type} {R : α → List Value → Prop}
end
theorem ReadsRow.inner_ {α : Type} {R : α → List Value → Prop} {size : Nat} {w : World} {ad : Addr} {n : Nat} {ps : List α} (h : ReadsRow R size w (some ad) n ps) :
    ∃ inner, Reps R size ps inner ∧ ∀ j u, inner[j]? = some u → w.cell? (ad.add j) = some u := by
  have key : ∀ m, m ≤ ps.length → ∃ inner, Reps R size (ps.take m) inner ∧ ∀ j u, inner[j]? = some u → w.cell? (ad.add j) = some u := by
    intro m
    induction m with
    | zero => exact fun _ => ⟨[], Reps.none _ _, fun j u hu => by simp at hu⟩
    | succ m ih =>
      intro hm
      obtain ⟨inner, hr, hc⟩ := ih (by omega)
      obtain ⟨ad', he, hcell⟩ := h.2.2 (by have := h.1; omega)
      injection he with he
      subst he
      obtain ⟨c, hcl, hp, hcc⟩ := hcell m _ (List.getElem?_eq_getElem (show m < ps.length by omega))
      refine ⟨inner ++ c, ?_, fun j u hu => ?_⟩
      · rw [List.take_succ_eq_append_getElem (show m < ps.length by omega)]
        exact hr.snoc hp hcl
      · have hil : inner.length = m * size := by rw [hr.1, List.length_take, Nat.min_eq_left (by omega)]
        rcases Nat.lt_or_ge j inner.length with hj | hj
        · rw [List.getElem?_append_left hj] at hu
          exact hc j u hu
        · rw [List.getElem?_append_right hj] at hu
          have := hcc (j - inner.length) u hu
          rwa [hil, Nat.add_sub_cancel' (by omega)] at this
  obtain ⟨inner, hr, hc⟩ := key ps.length (Nat.le_refl _)
  rw [List.take_length] at hr
  exact ⟨inner, hr, hc⟩
section
variable {α : Type} {P : Program}
end
section
variable {P : Program} {ops : Array Oper} {rest : List Oper} {o : Oper} {a : Act} {Q : Exit → Act → World → Prop}
theorem print_append_str {w0 W : World} (base : Nat) (hgd : o.guard = none) (s x : Operand) (t u e : TypeId)
    (ho : o.op = .call { callee := .builtin .append, args := #[s, x], argTypes := #[t, u] })
    (ht : P.underlying t = some (.slice e)) (hu : P.underlying u = some .string) (hinfo : (P.info? e).map (fun i => (i.zero, i.size, i.bytes)) = some (some (.int .u8 0), 1, 1))
    (v : Value) (xs : List Int) (y : ByteArray) (hs : a.eval s = v) (hx : a.eval x = .string y)
    (HO : W.ownsRow base e 1 v xs.length (nums .u8 xs)) (HB : Below base w0 W) (hbase : base ≤ W.heap.size) (hl : xs.length + y.size ≤ 140737488355328)
    (h : ∀ v1 w1, w1.ownsRow base e 1 v1 (xs ++ bytesOf y).length (nums .u8 (xs ++ bytesOf y)) → Below base w0 w1 → W.grownBy w1 v.ownBlock → wpList P ops Q rest (a.put o.dst v1) w1) :
    wpList P ops Q (o :: rest) a W := by
  obtain ⟨i0, hi, hzz⟩ := Option.map_eq_some_iff.1 hinfo
  simp only [Prod.mk.injEq] at hzz
  obtain ⟨hz0, hz1, hz2⟩ := hzz
  refine Lib.wpList_append_own_string W hgd s x t u ho base e i0 ht hu hi hz0 hz1 hz2 v xs.length (nums .u8 xs) hs HO y hx (by simp only [maxLen]; omega) hl hbase ?_
  intro v1 w1 hown hg _
  have hl2 : (xs ++ bytesOf y).length = xs.length + y.size := by rw [List.length_append, bytesOf_length]
  have hc : nums .u8 (xs ++ bytesOf y) = nums .u8 xs ++ Lib.strCells y := by
    rw [nums_append]
    congr 1
    simp [nums, bytesOf, Lib.strCells]
  exact h v1 w1 (by rw [hl2, hc]; exact hown) (HB.grown hg hbase (own_base HO)) hg
end
structure Kd (α : Type) where
  sz : Nat
  E : List Nat
  K : World → α → List Value → Prop
  M : World → Nat → (Nat → Prop) → α → List Value → Prop
  K_len : ∀ {w x cs}, K w x cs → cs.length = sz
  K_one : ∀ {w x cs}, K w x cs → ∀ u ∈ cs, u.oneCell' = true
  K_below : ∀ {w w1 : World} {x cs}, Below w.heap.size w w1 → K w x cs → K w1 x cs
  K_of_M : ∀ {w base ok x cs}, M w base ok x cs → K w x cs
  M_mono : ∀ {w base ok ok' x cs}, (∀ k, ok k → ok' k) → M w base ok x cs → M w base ok' x cs
  M_bound : ∀ {w : World} {base ok x cs}, M w base ok x cs → M w base (fun k => ok k ∧ base ≤ k ∧ k < w.heap.size ∧ ∃ q, q ∈ E ∧ ∃ cells, w.heap[k]? = some (.cells cells q (0, 0))) x cs
  M_move : ∀ {w w1 : World} {base ok x cs}, (∀ k, ok k → w1.heap[k]? = w.heap[k]?) → M w base ok x cs → M w1 base ok x cs
  M_lower : ∀ {w base base' ok x cs}, base' ≤ base → M w base ok x cs → M w base' ok x cs
theorem own_move {w w1 : World} {base : Nat} {e : TypeId} {size n : Nat} {v : Value} {xs : List Value} (h : w.ownsRow base e size v n xs) (hm : ∀ k, v.ownBlock = some k → w1.heap[k]? = w.heap[k]?) : w1.ownsRow base e size v n xs := by
  obtain ⟨h1, h2⟩ := h
  refine ⟨h1, ?_⟩
  rcases h2 with h2 | ⟨g, cap, cur, rfl, hg, hh, r⟩
  · exact .inl h2
  · exact .inr ⟨g, cap, cur, rfl, hg, (hm g (by simp [Value.ownBlock])).trans hh, r⟩
theorem own_typed {w : World} {base : Nat} {e : TypeId} {size n : Nat} {v : Value} {xs : List Value} (h : w.ownsRow base e size v n xs) (k : Nat) (hk : v.ownBlock = some k) : ∃ cells, w.heap[k]? = some (.cells cells e (0, 0)) := by
  rcases h.2 with ⟨rfl, _⟩ | ⟨g, cap, cur, rfl, hg, hh, r⟩
  · simp [Value.ownBlock] at hk
  · have : g = k := by simpa [Value.ownBlock] using hk
    subst this
    exact ⟨cur, hh⟩
namespace Kd
def C {α : Type} (d : Kd α) (w : World) (A : Option Addr) (n : Nat) (xs : List α) : Prop := ReadsRow (d.K w) d.sz w A n xs
def R {α : Type} (d : Kd α) (e : Nat) (w : World) (base : Nat) (ok : Nat → Prop) (v : Value) (xs : List α) : Prop :=
  (∀ k, v.ownBlock = some k → ok k) ∧ OwnRow (d.M w base (fun k => ok k ∧ some k ≠ v.ownBlock)) e d.sz w base v xs
section
variable {α : Type} {d : Kd α} {e : Nat} {w w1 : World} {base : Nat} {ok ok' : Nat → Prop} {v : Value} {xs : List α}
theorem C_below {A : Option Addr} {n : Nat} (h : d.C w A n xs) (hb : Below w.heap.size w w1) : d.C w1 A n xs := ReadsRow.imp_ h hb (fun _ _ hp => d.K_below hb hp)
theorem R_nil (d : Kd α) (e : Nat) (w : World) (base : Nat) (ok : Nat → Prop) : d.R e w base ok (.slice none 0 0) [] := ⟨fun k hk => by simp [Value.ownBlock] at hk, OwnRow.none_ _ _ _ _ _⟩
theorem R_mono (h : d.R e w base ok v xs) (hok : ∀ k, ok k → ok' k) : d.R e w base ok' v xs := ⟨fun k hk => hok k (h.1 k hk), h.2.imp_ (fun _ _ hp => d.M_mono (fun k hk => ⟨hok k hk.1, hk.2⟩) hp)⟩
theorem R_bound (h : d.R e w base ok v xs) : d.R e w base (fun k => ok k ∧ base ≤ k ∧ k < w.heap.size ∧ ∃ q, q ∈ e :: d.E ∧ ∃ cells, w.heap[k]? = some (.cells cells q (0, 0))) v xs := by
  obtain ⟨h0, inner, ho, hr⟩ := h
  refine ⟨fun k hk => ?_, inner, ho, hr.imp_ (fun _ _ hp => d.M_mono (fun k hk => ?_) (d.M_bound hp))⟩
  · obtain ⟨cells, hc⟩ := own_typed ho k hk
    exact ⟨h0 k hk, own_base ho k hk, own_lt ho k hk, e, List.mem_cons_self, cells, hc⟩
  · obtain ⟨⟨h1, h2⟩, h3, h4, q, hq, hc⟩ := hk
    exact ⟨⟨h1, h3, h4, q, List.mem_cons_of_mem _ hq, hc⟩, h2⟩
theorem R_move (h : d.R e w base ok v xs) (hm : ∀ k, ok k → w1.heap[k]? = w.heap[k]?) : d.R e w1 base ok v xs := by
  obtain ⟨h0, inner, ho, hr⟩ := h
  exact ⟨h0, inner, own_move ho (fun k hk => hm k (h0 k hk)), hr.imp_ (fun _ _ hp => d.M_move (fun k hk => hm k hk.1) hp)⟩
theorem R_lower {base' : Nat} (h : d.R e w base ok v xs) (hb : base' ≤ base) : d.R e w base' ok v xs := by
  obtain ⟨h0, inner, ho, hr⟩ := h
  exact ⟨h0, inner, own_weaken ho hb, hr.imp_ (fun _ _ hp => d.M_lower hb hp)⟩
theorem R_step (h : d.R e w base ok v xs) (hm : ∀ k, ok k → k < w.heap.size → w1.heap[k]? = w.heap[k]?) : d.R e w1 base ok v xs :=
  R_mono (R_move (R_bound h) (fun k hk => hm k hk.1 hk.2.2.1)) (fun _ hk => hk.1)
theorem M_step {x : α} {cs : List Value} (h : d.M w base ok x cs) (hm : ∀ k, ok k → k < w.heap.size → w1.heap[k]? = w.heap[k]?) : d.M w1 base ok x cs :=
  d.M_mono (fun _ hk => hk.1) (d.M_move (fun k hk => hm k hk.1 hk.2.2.1) (d.M_bound h))
theorem R_below (h : d.R e w base ok v xs) (hb : Below w.heap.size w w1) : d.R e w1 base ok v xs := R_step h (fun k _ hk => hb.block k hk)
theorem M_below {x : α} {cs : List Value} (h : d.M w base ok x cs) (hb : Below w.heap.size w w1) : d.M w1 base ok x cs := M_step h (fun k _ hk => hb.block k hk)
theorem R_far (h : d.R e w base ok v xs) {p : Addr} (hok : ∀ k, ok k → k ≠ p.block) (u : Value) : d.R e (w.setCell p u) base ok v xs := R_step h (fun k ho _ => Below.heap_setCell w p u k (hok k ho))
theorem R_types (h : d.R e w base ok v xs) {g t : Nat} {cells : Array Value} (hb : w.heap[g]? = some (.cells cells t (0, 0))) (ht : ∀ q, q ∈ e :: d.E → q ≠ t) : d.R e w base (fun k => ok k ∧ k ≠ g) v xs :=
  R_mono (R_bound h) (fun k hk => ⟨hk.1, by
    obtain ⟨_, _, _, q, hq, cells', hc⟩ := hk
    rintro rfl
    rw [hc] at hb
    injection hb with hb
    injection hb with _ hb
    exact ht q hq hb⟩)
theorem R_reads (h : d.R e w base ok v xs) : ∃ A c, v = .slice A xs.length c ∧ xs.length ≤ c ∧ d.C w A xs.length xs := by
  obtain ⟨A, c, he, hl, hr⟩ := OwnRow.reads h.2
  exact ⟨A, c, he, hl, hr.imp_ (Below.refl _ _) (fun _ _ hp => d.K_of_M hp)⟩
theorem R_slice (h : d.R e w base ok v xs) : ∃ A c, v = .slice A xs.length c := by
  obtain ⟨A, c, he, _⟩ := R_reads h
  exact ⟨A, c, he⟩
theorem R_own (h : d.R e w base ok v xs) : ∃ inner, w.ownsRow base e d.sz v xs.length inner := by
  obtain ⟨_, inner, ho, _⟩ := h
  exact ⟨inner, ho⟩
theorem R_ne (h : d.R e w base ok v xs) {g t : Nat} {cells : Array Value} (hb : w.heap[g]? = some (.cells cells t (0, 0))) (ht : e ≠ t) : some g ≠ v.ownBlock := OwnRow.ne_block h.2 hb ht
end
def scalar {α : Type} (enc : α → Value) (h1 : ∀ x, (enc x).oneCell' = true) : Kd α where
  sz := 1
  E := []
  K := fun _ x cs => cs = [enc x]
  M := fun _ _ _ x cs => cs = [enc x]
  K_len := fun h => by rw [h]; rfl
  K_one := fun h u hu => by
    rw [h] at hu
    rw [List.mem_singleton.1 hu]
    exact h1 _
  K_below := fun _ h => h
  K_of_M := fun h => h
  M_mono := fun _ h => h
  M_bound := fun h => h
  M_move := fun _ h => h
  M_lower := fun _ h => h
def int (k : IntKind) : Kd Int := scalar (Value.int k) (fun _ => rfl)
def bool : Kd Bool := scalar Value.bool (fun _ => rfl)
def string : Kd ByteArray := scalar Value.string (fun _ => rfl)
def slice {α : Type} (e : Nat) (d : Kd α) : Kd (List α) where
  sz := 1
  E := e :: d.E
  K := fun w xs cs => ∃ A c, cs = [.slice A xs.length c] ∧ xs.length ≤ c ∧ d.C w A xs.length xs
  M := fun w base ok xs cs => ∃ v, cs = [v] ∧ d.R e w base ok v xs
  K_len := by
    rintro w x cs ⟨A, c, rfl, _⟩
    rfl
  K_one := by
    rintro w x cs ⟨A, c, rfl, _⟩ u hu
    rw [List.mem_singleton.1 hu]
    rfl
  K_below := by
    rintro w w1 x cs hb ⟨A, c, rfl, hl, hr⟩
    exact ⟨A, c, rfl, hl, C_below hr hb⟩
  K_of_M := by
    rintro w base ok x cs ⟨v, rfl, h⟩
    obtain ⟨A, c, rfl, hl, hr⟩ := R_reads h
    exact ⟨A, c, rfl, hl, hr⟩
  M_mono := by
    rintro w base ok ok' x cs hok ⟨v, rfl, h⟩
    exact ⟨v, rfl, R_mono h hok⟩
  M_bound := by
    rintro w base ok x cs ⟨v, rfl, h⟩
    exact ⟨v, rfl, R_bound h⟩
  M_move := by
    rintro w w1 base ok x cs hm ⟨v, rfl, h⟩
    exact ⟨v, rfl, R_move h hm⟩
  M_lower := by
    rintro w base base' ok x cs hb ⟨v, rfl, h⟩
    exact ⟨v, rfl, R_lower h hb⟩
def bot {α : Type} (sz : Nat) (E : List Nat) : Kd α where
  sz := sz
  E := E
  K := fun _ _ _ => False
  M := fun _ _ _ _ _ => False
  K_len := fun h => h.elim
  K_one := fun h => h.elim
  K_below := fun _ h => h
  K_of_M := fun h => h
  M_mono := fun _ h => h
  M_bound := fun h => h
  M_move := fun _ h => h
  M_lower := fun _ h => h
def upto {α : Type} (F : Kd α → Kd α) (sz : Nat) (E : List Nat) : Nat → Kd α
  | 0 => bot sz E
  | n + 1 => F (upto F sz E n)
theorem R_appended {α : Type} {d : Kd α} {e base : Nat} {ok okp : Nat → Prop} {W w1 : World} {v v1 : Value} {xs : List α} {p : α} {inner cs : List Value} (h0 : ∀ k, v.ownBlock = some k → ok k) (hr : Reps (d.M W base (fun k => ok k ∧ some k ≠ v.ownBlock)) d.sz xs inner) (hp : d.M W base okp p cs) (hokp : ∀ k, okp k → ok k ∧ some k ≠ v.ownBlock) (hfresh : ∀ k, W.heap.size ≤ k → ok k)
    (hown : w1.ownsRow base e d.sz v1 (xs.length + 1) (inner ++ cs)) (hg : W.grownBy w1 v.ownBlock) (hat : v1.ownBlock = v.ownBlock ∨ ∃ b, v1.ownBlock = some b ∧ W.heap.size ≤ b) : d.R e w1 base ok v1 (xs ++ [p]) := by
  have hne : ∀ k, some k ≠ v.ownBlock → k < W.heap.size → some k ≠ v1.ownBlock := by
    intro k hk hlt
    rcases hat with hat | ⟨b, hb, hle⟩
    · rw [hat]; exact hk
    · rw [hb]
      intro he
      injection he with he
      omega
  have step : ∀ {q : α} {c : List Value} {o : Nat → Prop}, d.M W base o q c → (∀ k, o k → ok k ∧ some k ≠ v.ownBlock) → d.M w1 base (fun k => ok k ∧ some k ≠ v1.ownBlock) q c := by
    intro q c o hq ho
    have h1 := d.M_move (w1 := w1) (fun k hk => hg.block k hk.2.2.1 (ho k hk.1).2) (d.M_bound hq)
    exact d.M_mono (fun k hk => ⟨(ho k hk.1).1, hne k (ho k hk.1).2 hk.2.2.1⟩) h1
  refine ⟨fun k hk => ?_, inner ++ cs, by rw [List.length_append, List.length_singleton]; exact hown, ?_⟩
  · rcases hat with hat | ⟨b, hb, hle⟩
    · exact h0 k (hat ▸ hk)
    · rw [hb] at hk
      injection hk with hk
      exact hfresh k (by omega)
  · exact (hr.imp_ (fun _ _ hq => step hq (fun _ hk => hk))).snoc (step hp hokp) (d.K_len (d.K_of_M hp))
section
variable {P : Program} {ops : Array Oper} {rest : List Oper} {o : Oper} {a : Act} {Q : Exit → Act → World → Prop} {α : Type}
theorem R_append (d : Kd α) {w0 W : World} (base : Nat) (hgd : o.guard = none) (s x : Operand) (t e : TypeId) (z : Value) (bytes : Nat)
    (ho : o.op = .call { callee := .builtin .append, args := #[s, x], argTypes := #[t, t] })
    (ht : P.underlying t = some (.slice e)) (hinfo : (P.info? e).map (fun i => (i.zero, i.size, i.bytes)) = some (some z, d.sz, bytes)) (hz : z.cells.size = d.sz) (hs0 : 0 < d.sz) (hb0 : 0 < bytes)
    (v : Value) (xs : List α) (p : α) (cs : List Value) (ok okp : Nat → Prop) (hs : a.eval s = v) (hx : a.eval x = .slice (some ⟨W.heap.size, 0, none⟩) 1 1) (hp : d.M W base okp p cs) (hokp : ∀ k, okp k → ok k ∧ some k ≠ v.ownBlock) (hfresh : ∀ k, W.heap.size ≤ k → ok k)
    (HO : d.R e W base ok v xs) (HB : Below base w0 W) (hbase : base ≤ W.heap.size) (hl : (xs.length + 1) * bytes ≤ 140737488355328)
    (h : ∀ v1 w1, d.R e w1 base ok v1 (xs ++ [p]) → Below base w0 w1 → W.grownBy w1 v.ownBlock → (v1.ownBlock = v.ownBlock ∨ ∃ b, v1.ownBlock = some b ∧ W.heap.size ≤ b) → wpList P ops Q rest (a.put o.dst v1) w1) :
    wpList P ops Q (o :: rest) a (W.alloc (.cells cs.toArray e)) := by
  obtain ⟨h0, inner, hown, hr⟩ := HO
  refine print_append_cells base hgd s x t e z d.sz bytes ho ht hinfo hz hs0 hb0 v xs.length inner cs hs hx (d.K_len (d.K_of_M hp)) (d.K_one (d.K_of_M hp)) hown HB hbase hl ?_
  intro v1 w1 hown1 hb1 hg1 hat1
  exact h v1 w1 (R_appended h0 hr hp hokp hfresh hown1 hg1 hat1) hb1 hg1 hat1
end
section
variable {P : Program} {ops : Array Oper} {o : Oper} {a : Act} {Q : Exit → Act → World → Prop} {Kc : Act → World → Prop} {α : Type}
theorem R_append_step (d : Kd α) {w0 W : World} (base : Nat) (hw : Region.wanted o (yielded ops a.tmps) = true) (s x : Operand) (t e : TypeId) (z : Value) (bytes : Nat)
    (ho : o.op = .call { callee := .builtin .append, args := #[s, x], argTypes := #[t, t] })
    (ht : P.underlying t = some (.slice e)) (hinfo : (P.info? e).map (fun i => (i.zero, i.size, i.bytes)) = some (some z, d.sz, bytes)) (hz : z.cells.size = d.sz) (hs0 : 0 < d.sz) (hb0 : 0 < bytes)
    (v : Value) (xs : List α) (p : α) (cs : List Value) (ok okp : Nat → Prop) (hs : a.eval s = v) (hx : a.eval x = .slice (some ⟨W.heap.size, 0, none⟩) 1 1) (hp : d.M W base okp p cs) (hokp : ∀ k, okp k → ok k ∧ some k ≠ v.ownBlock) (hfresh : ∀ k, W.heap.size ≤ k → ok k)
    (HO : d.R e W base ok v xs) (HB : Below base w0 W) (hbase : base ≤ W.heap.size) (hl : (xs.length + 1) * bytes ≤ 140737488355328)
    (h : ∀ v1 w1, d.R e w1 base ok v1 (xs ++ [p]) → Below base w0 w1 → W.grownBy w1 v.ownBlock → (v1.ownBlock = v.ownBlock ∨ ∃ b, v1.ownBlock = some b ∧ W.heap.size ≤ b) → Kc (a.put o.dst v1) w1) :
    if Region.wanted o (yielded ops a.tmps) = true then Oper.wp P o a (W.alloc (.cells cs.toArray e)) Kc Q else Kc (a.put o.dst undef) (W.alloc (.cells cs.toArray e)) := by
  obtain ⟨h0, inner, hown, hr⟩ := HO
  refine step_append_cells base hw s x t e z d.sz bytes ho ht hinfo hz hs0 hb0 v xs.length inner cs hs hx (d.K_len (d.K_of_M hp)) (d.K_one (d.K_of_M hp)) hown HB hbase hl ?_
  intro v1 w1 hown1 hb1 hg1 hat1
  exact h v1 w1 (R_appended h0 hr hp hokp hfresh hown1 hg1 hat1) hb1 hg1 hat1
end
theorem reps_scalar {α : Type} {enc : α → Value} (xs : List α) : Reps (fun (x : α) (cs : List Value) => cs = [enc x]) 1 xs (encs enc xs) := by
  refine ⟨by simp [encs], fun j p hj => ?_⟩
  obtain ⟨hl, hp⟩ := List.getElem?_eq_some_iff.1 hj
  have hl' : j < (encs enc xs).length := by rw [encs_length]; exact hl
  rw [Nat.mul_one, List.drop_eq_getElem_cons hl']
  simp [encs, hp]
theorem R_of_own {α : Type} {enc : α → Value} {h1 : ∀ x, (enc x).oneCell' = true} {e : Nat} {w : World} {base : Nat} {ok : Nat → Prop} {v : Value} {xs : List α} (ho : w.ownsRow base e 1 v xs.length (encs enc xs)) (hok : ∀ k, v.ownBlock = some k → ok k) : (scalar enc h1).R e w base ok v xs := ⟨hok, encs enc xs, ho, reps_scalar xs⟩
theorem own_of_R {α : Type} {enc : α → Value} {h1 : ∀ x, (enc x).oneCell' = true} {e : Nat} {w : World} {base : Nat} {ok : Nat → Prop} {v : Value} {xs : List α} (h : (scalar enc h1).R e w base ok v xs) : w.ownsRow base e 1 v xs.length (encs enc xs) := by
  obtain ⟨_, inner, ho, hr⟩ := h
  have : inner = encs enc xs := by
    apply List.ext_getElem?
    intro j
    rcases Nat.lt_or_ge j xs.length with hj | hj
    · have h2 := hr.2 j _ (List.getElem?_eq_getElem hj)
      have hl : j < inner.length := by have := hr.1; simp [scalar] at this; omega
      have h3 : (inner.drop (j * 1)).take 1 = [enc xs[j]] := h2
      rw [Nat.mul_one, List.drop_eq_getElem_cons hl] at h3
      have h4 : inner[j] = enc xs[j] := by
        have h5 := congrArg List.head? h3
        rw [List.take_succ_cons] at h5
        exact Option.some.inj h5
      rw [List.getElem?_eq_getElem hl, h4]
      simp [encs, List.getElem?_eq_getElem hj]
    · have h3 : inner.length = xs.length := by have := hr.1; simp [scalar] at this; omega
      rw [List.getElem?_eq_none (by omega), List.getElem?_eq_none (by rw [encs_length]; omega)]
  rw [← this]
  exact ho
theorem C_of_reads {α : Type} {enc : α → Value} {d : α} {h1 : ∀ x, (enc x).oneCell' = true} {w : World} {A : Option Addr} {n : Nat} {xs : List α} (h : ReadsOf enc d w A n xs) : (scalar enc h1).C w A n xs := by
  refine ⟨h.1, h.2.1, fun hn => ?_⟩
  obtain ⟨ad, e, hc⟩ := h.2.2 hn
  refine ⟨ad, e, fun j p hj => ⟨[enc p], rfl, rfl, fun i u hu => ?_⟩⟩
  obtain ⟨hl, hp⟩ := List.getElem?_eq_some_iff.1 hj
  have h2 := hc j (by have := h.1; omega)
  rw [List.getD_eq_getElem?_getD, hj] at h2
  cases i with
  | zero =>
    have : enc p = u := by simpa using hu
    subst this
    simpa [scalar] using h2
  | succ i => simp at hu
theorem reads_of_C {α : Type} {enc : α → Value} {d : α} {h1 : ∀ x, (enc x).oneCell' = true} {w : World} {A : Option Addr} {n : Nat} {xs : List α} (h : (scalar enc h1).C w A n xs) : ReadsOf enc d w A n xs := by
  refine ⟨h.1, h.2.1, fun hn => ?_⟩
  obtain ⟨ad, e, hc⟩ := h.2.2 hn
  refine ⟨ad, e, fun j hj => ?_⟩
  have hl : j < xs.length := by have := h.1; omega
  obtain ⟨c, _, hK, hcell⟩ := hc j _ (List.getElem?_eq_getElem hl)
  have hK' : c = [enc xs[j]] := hK
  subst hK'
  have := hcell 0 _ rfl
  simpa [scalar, List.getD_eq_getElem?_getD, List.getElem?_eq_getElem hl] using this
end Kd
namespace Kd
section
variable {α : Type} {F : Kd α → Kd α} {sz : Nat} {E : List Nat} {hs : ∀ n, (upto F sz E n).sz = sz} {hE : ∀ n q, q ∈ (upto F sz E n).E → q ∈ E}
end
end Kd
namespace Kd
theorem R_after {α : Type} {d : Kd α} {e base : Nat} {ok : Nat → Prop} {W w1 : World} {u v v1 : Value} {xs : List α} (h : d.R e W base (fun k => ok k ∧ some k ≠ v.ownBlock) u xs) (hg : W.grownBy w1 v.ownBlock) (hat : v1.ownBlock = v.ownBlock ∨ ∃ b, v1.ownBlock = some b ∧ W.heap.size ≤ b) : d.R e w1 base (fun k => ok k ∧ some k ≠ v1.ownBlock) u xs := by
  refine R_mono (R_move (R_bound h) (fun k hk => hg.block k hk.2.2.1 hk.1.2)) (fun k hk => ⟨hk.1.1, ?_⟩)
  rcases hat with hat | ⟨b, hb, hle⟩
  · rw [hat]; exact hk.1.2
  · rw [hb]
    intro he
    injection he with he
    have := hk.2.2.1
    omega
theorem R_apart_nil {α : Type} {d : Kd α} {e base : Nat} {ok : Nat → Prop} {w : World} {u : Value} {xs : List α} (h : d.R e w base ok u xs) : d.R e w base (fun k => ok k ∧ some k ≠ (Value.slice none 0 0).ownBlock) u xs := R_mono h (fun k hk => ⟨hk, by simp [Value.ownBlock]⟩)
end Kd
namespace Kd
section
variable {α β : Type} {d : Kd α} {d' : Kd β} {e e' : Nat} {w w1 W : World} {base b b' : Nat} {ok ok' okv oku : Nat → Prop} {v u : Value} {xs : List α} {ys : List β}
theorem R_drew (h : d.R e w base ok v xs) : d.R e w.drew base ok v xs := R_below h (below_drew (Below.refl _ _))
theorem R_drewN (h : d.R e w base ok v xs) (m : Nat) : d.R e (w.drewN m) base ok v xs := R_below h (pw_below_drewN (Below.refl _ _) m)
theorem R_reads' {A : Option Addr} {n c : Nat} (h : d.R e w base ok (.slice A n c) xs) : n = xs.length ∧ n ≤ c ∧ d.C w A xs.length xs := by
  obtain ⟨A', c', he, hl, hr⟩ := R_reads h
  injection he with h1 h2 h3
  subst h1
  exact ⟨h2, by omega, hr⟩
theorem R_lt (h : d.R e w base ok v xs) : ∀ k, v.ownBlock = some k → k < w.heap.size := by
  obtain ⟨inner, ho⟩ := R_own h
  exact own_lt ho
theorem R_base (h : d.R e w base ok v xs) : ∀ k, v.ownBlock = some k → base ≤ k := by
  obtain ⟨inner, ho⟩ := R_own h
  exact own_base ho
theorem R_form (h : d.R e w base ok v xs) (hp : 0 < xs.length) : ∃ g cap, v = .slice (some ⟨g, 0, none⟩) xs.length cap ∧ base ≤ g ∧ g < w.heap.size ∧ ∃ cells, w.heap[g]? = some (.cells cells e (0, 0)) := by
  obtain ⟨inner, ho⟩ := R_own h
  obtain ⟨g, cap, he, hb, hl⟩ := ho.form hp
  obtain ⟨cells, hc⟩ := own_typed ho g (by rw [he]; simp [Value.ownBlock])
  exact ⟨g, cap, he, hb, hl, cells, hc⟩
end
section
variable {w W : World} {A : Option Addr} {n : Nat}
theorem at_int {k : IntKind} {xs : List Int} (h : (Kd.int k).C w A n xs) (i : Int) (h0 : 0 ≤ i) (h1 : i < n) : ∃ ad, A = some ad ∧ w.cell? (ad.add i.toNat) = some (.int k (rd xs i)) :=
  ReadsOf.at_ (reads_of_C (enc := Value.int k) (d := (0 : Int)) (h1 := fun _ => rfl) h) i h0 h1
theorem at_string {xs : List ByteArray} (h : Kd.string.C w A n xs) (i : Int) (h0 : 0 ≤ i) (h1 : i < n) : ∃ ad, A = some ad ∧ w.cell? (ad.add i.toNat) = some (.string (rdOf ByteArray.empty xs i)) :=
  ReadsOf.at_ (reads_of_C (enc := Value.string) (d := ByteArray.empty) (h1 := fun _ => rfl) h) i h0 h1
variable {α : Type} {enc : α → Value} {h1 : ∀ x, (enc x).oneCell' = true} {e base g cap : Nat} {ok : Nat → Prop} {xs : List α}
theorem R_cell (d : α) (h : (scalar enc h1).R e W base ok (.slice (some ⟨g, 0, none⟩) xs.length cap) xs) (i : Int) (h0 : 0 ≤ i) (hi : i < xs.length) : W.cell? ⟨g, i.toNat, none⟩ = some (enc (rdOf d xs i)) ∧ W.frozen? ⟨g, i.toNat, none⟩ = false := own_at_of (own_of_R h) i h0 hi
theorem R_put (h : (scalar enc h1).R e W base ok (.slice (some ⟨g, 0, none⟩) xs.length cap) xs) (i : Int) (x : α) : (scalar enc h1).R e (W.setCell ⟨g, i.toNat, none⟩ (enc x)) base ok (.slice (some ⟨g, 0, none⟩) xs.length cap) (xs.set i.toNat x) ∧ W.grownBy (W.setCell ⟨g, i.toNat, none⟩ (enc x)) (some g) := by
  obtain ⟨ho, hg⟩ := own_store_of (own_of_R h) i x
  exact ⟨R_of_own (by rw [List.length_set]; exact ho) h.1, hg⟩
end
section
variable {P : Program} {ops : Array Oper} {rest : List Oper} {o : Oper} {a : Act} {Q : Exit → Act → World → Prop}
theorem event_run {W w1 : World} {v : Value} (hgd : o.guard = none) (hrun : (execOp a.eval o).run P W = .ok (.value v) w1) (h : wpList P ops Q rest (a.put o.dst v) w1) : wpList P ops Q (o :: rest) a W := by
  refine wpList_plain hgd fun K hK => ?_
  unfold Oper.wp
  rw [hrun]
  exact hK _ _ h
variable {α : Type}
theorem R_lit (d : Kd α) {w0 W : World} (base e : Nat) (hgd : o.guard = none) {N : Tmp} (_hd : o.dst = some N) {xs : List α} {inner : List Value} {ok okp : Nat → Prop}
    (hrun : (execOp a.eval o).run P W = .ok (.value (.slice (some ⟨W.heap.size, 0, none⟩) xs.length xs.length)) (W.alloc (.cells inner.toArray e)))
    (hrep : Reps (d.M W base okp) d.sz xs inner) (hok : ∀ k, okp k → ok k) (hfresh : ok W.heap.size) (HB : Below base w0 W) (hbase : base ≤ W.heap.size) (hm : xs.length ≤ 9223372036854775807)
    (h : ∀ v1 w1, d.R e w1 base ok v1 xs → Below base w0 w1 → W.grownBy w1 none → (∃ b, v1.ownBlock = some b ∧ W.heap.size ≤ b) → wpList P ops Q rest (a.put o.dst v1) w1) : wpList P ops Q (o :: rest) a W := by
  refine event_run hgd hrun (h _ _ ⟨fun k hk => ?_, inner, ?_, ?_⟩ (HB.alloc hbase _) (World.grownBy_alloc W _ none) ⟨W.heap.size, by simp [Value.ownBlock], Nat.le_refl _⟩)
  · have : W.heap.size = k := by simpa [Value.ownBlock] using hk
    subst this
    exact hfresh
  · have h2 := World.ownsRow_lit (base := base) (e := e) (size := d.sz) W inner.toArray xs.length hbase (by simpa [maxLen] using hm) (by simpa using hrep.1)
    simpa using h2
  · refine hrep.imp_ (fun p c hp => d.M_mono (fun k hk => ⟨hok k hk.1, fun he => ?_⟩) (M_below (d.M_bound hp) (below_alloc (Below.refl _ _) _)))
    have h3 : k = W.heap.size := by simpa [Value.ownBlock] using he
    have := hk.2.2.1
    omega
theorem reps_made {α : Type} {R : α → List Value → Prop} {z : Value} {size : Nat} {z0 : α} (hz : z.cells.size = size) (hs : 0 < size) (h0 : R z0 z.cells.toList) (m : Nat) : Reps R size (List.replicate m z0) (madeCells z.cells (m * size)).toList := by
  refine ⟨by simp [size_madeCells], fun j p hj => ?_⟩
  obtain ⟨hjl, hp⟩ := List.getElem?_eq_some_iff.1 hj
  have hjm : j < m := by simpa using hjl
  have hp' : z0 = p := by simpa using hp
  subst hp'
  have hle : j * size + size ≤ m * size := by rw [← Nat.succ_mul]; exact Nat.mul_le_mul_right _ hjm
  have : ((madeCells z.cells (m * size)).toList.drop (j * size)).take size = z.cells.toList := by
    apply List.ext_getElem
    · simp [size_madeCells, hz]
      omega
    · intro i h1 h2
      have hi : i < size := by rw [Array.length_toList, hz] at h2; exact h2
      have hmod : (j * size + i) % size = i := by
        rw [Nat.mul_comm, Nat.mul_add_mod]
        exact Nat.mod_eq_of_lt hi
      simp [madeCells, hz, hmod]
      rw [getElem!_pos z.cells i (by omega)]
  rw [this]
  exact h0
theorem R_make (d : Kd α) {w0 W : World} (base e : Nat) (hgd : o.guard = none) {N : Tmp} (hd : o.dst = some N) (t : TypeId) (x y : Operand) (ho : o.op = .makeSlice t x y) (n : Int) (hx : a.eval x = .int .i64 n) (hy : a.eval y = .int .i64 n)
    (ht : P.underlying t = some (.slice e)) (z : Value) (bytes : Nat) (hinfo : (P.info? e).map (fun i => (i.zero, i.size, i.bytes)) = some (some z, d.sz, bytes)) (hz : z.cells.size = d.sz) (hs0 : 0 < d.sz) (hb0 : 0 < bytes)
    (z0 : α) {ok okp : Nat → Prop} (hzero : d.M W base okp z0 z.cells.toList) (hok : ∀ k, okp k → ok k) (hfresh : ok W.heap.size) (h0 : 0 ≤ n) (hl : n.toNat * bytes ≤ 281474976710656) (HB : Below base w0 W) (hbase : base ≤ W.heap.size)
    (h : ∀ v1 w1, d.R e w1 base ok v1 (List.replicate n.toNat z0) → Below base w0 w1 → W.grownBy w1 none → (∃ b, v1.ownBlock = some b ∧ W.heap.size ≤ b) → wpList P ops Q rest (a.put o.dst v1) w1) : wpList P ops Q (o :: rest) a W := by
  obtain ⟨m, rfl⟩ := Int.eq_ofNat_of_zero_le h0
  simp only [Int.toNat_natCast] at hl h
  obtain ⟨i0, hi, hzz⟩ := Option.map_eq_some_iff.1 hinfo
  simp only [Prod.mk.injEq] at hzz
  obtain ⟨hz0, hz1, hz2⟩ := hzz
  have hm : m ≤ 281474976710656 := Nat.le_trans (Nat.le_mul_of_pos_right _ hb0) hl
  have hr := run_make (P := P) W t e i0 z ht hi hz0 .i64 .i64 (m : Int) (m : Int) (by omega) (by omega)
    (by
      have h3 : ((i0.bytes * m : Nat) : Int) ≤ 281474976710656 := by rw [hz2, Nat.mul_comm]; omega
      rwa [Int.natCast_mul] at h3) (by omega)
  simp only [Int.toNat_natCast] at hr
  rw [hz1] at hr
  refine R_lit d base e hgd hd (xs := List.replicate m z0) (inner := (madeCells z.cells (m * d.sz)).toList) (okp := okp) (ok := ok) ?_ (reps_made hz hs0 hzero m) hok hfresh HB hbase (by simp; omega) h
  simp [execOp, ho, hx, hy, hr]
end
end Kd
section
variable {P : Program}
theorem cut_to (t e : TypeId) (kh : IntKind) {i : TypeInfo} (ht : P.underlying t = some (.slice e)) (hi : P.info? e = some i) (A : Option Addr) (n c : Nat) (j : Int) (h0 : 0 ≤ j) (hm : j ≤ n) (hc : n ≤ c) :
    ∀ W : World, (Instr.slice t (.slice A n c) none (some (.int kh j)) none).run P W = .ok (.slice A j.toNat c) W := by
  intro W
  have hel : P.elem t = e := by simp [Program.elem, ht]
  have hu : P.underlying t = some (.slice (P.elem t)) := by rw [hel]; exact ht
  have ha : (A.map fun x => x.add 0) = A := by cases A <;> simp [Addr.add]
  rw [run_slice_h W t A n c hu kh j h0 (by omega), hel]
  simp [sizeOf, typeInfo, hi, sliced, Result.andThen, ha]
theorem cut_from (t e : TypeId) (kl : IntKind) {i : TypeInfo} (ht : P.underlying t = some (.slice e)) (hi : P.info? e = some i) (size : Nat) (hsz : i.size = size) (A : Option Addr) (n c : Nat) (j : Int) (h0 : 0 ≤ j) (hm : j ≤ n) :
    ∀ W : World, (Instr.slice t (.slice A n c) (some (.int kl j)) none none).run P W = .ok (.slice (if c = j.toNat then A else A.map (·.add (j.toNat * size))) (n - j.toNat) (c - j.toNat)) W := by
  intro W
  have hel : P.elem t = e := by simp [Program.elem, ht]
  have hu : P.underlying t = some (.slice (P.elem t)) := by rw [hel]; exact ht
  rw [run_slice_l W t A n c hu kl j h0 hm, hel]
  simp [sizeOf, typeInfo, hi, hsz, sliced, Result.andThen]
end
def QRow (w : World) (base : Nat) (e : TypeId) (size : Nat) (v : Value) (n : Nat) (xs : List Value) : Prop :=
  xs.length = n * size ∧
  ((n = 0 ∧ ∃ A, v = .slice A 0 0 ∧ ∀ a, A = some a → base ≤ a.block ∧ ∃ cur, w.heap[a.block]? = some (.cells cur e (0, 0))) ∨
   ∃ g off cap cur, v = .slice (some ⟨g, off * size, none⟩) n cap ∧ base ≤ g ∧ w.heap[g]? = some (.cells cur e (0, 0)) ∧ n ≤ cap ∧ off + cap ≤ maxLen ∧ cur.size = (off + cap) * size ∧ (cur.toList.drop (off * size)).take (n * size) = xs)
section
variable {w w1 : World} {base n size : Nat} {e : TypeId} {v : Value} {xs : List Value}
theorem add_at (g o j : Nat) : (⟨g, o, none⟩ : Addr).add j = ⟨g, o + j, none⟩ := by unfold Addr.add; split <;> simp_all
end
section
variable {P : Program}
end
namespace Kd
def Q {α : Type} (d : Kd α) (e : Nat) (w : World) (base : Nat) (ok : Nat → Prop) (v : Value) (xs : List α) : Prop :=
  (∀ k, v.ownBlock = some k → ok k) ∧ ∃ inner, QRow w base e d.sz v xs.length inner ∧ Reps (d.M w base (fun k => ok k ∧ some k ≠ v.ownBlock)) d.sz xs inner
section
variable {α : Type} {d : Kd α} {e : Nat} {w w1 W : World} {base : Nat} {ok ok' : Nat → Prop} {v : Value} {xs : List α}
end
section
variable {P : Program} {ops : Array Oper} {rest : List Oper} {o : Oper} {a : Act} {Q' : Exit → Act → World → Prop} {Kc : Act → World → Prop} {α : Type}
end
end Kd
namespace Kd
section
variable {α : Type} {d : Kd α} {e e' : Nat} {w w1 W : World} {base : Nat} {ok : Nat → Prop} {u v : Value} {xs : List α}
theorem R_typed (h : d.R e w base ok v xs) : ∀ k, v.ownBlock = some k → ∃ cells, w.heap[k]? = some (.cells cells e (0, 0)) := by
  obtain ⟨inner, ho⟩ := R_own h
  exact fun k hk => own_typed ho k hk
theorem R_over' (h : d.R e W base ok u xs) (hty : ∀ k, v.ownBlock = some k → ∃ cells, W.heap[k]? = some (.cells cells e' (0, 0))) (ht : ∀ q, q ∈ e :: d.E → q ≠ e') (hg : W.grownBy w1 v.ownBlock) : d.R e w1 base ok u xs := by
  refine R_mono (R_move (R_bound h) (fun k hk => hg.block k hk.2.2.1 (fun he => ?_))) (fun _ hk => hk.1)
  obtain ⟨_, _, _, q, hq, cells, hc⟩ := hk
  obtain ⟨cells', hc'⟩ := hty k he.symm
  rw [hc] at hc'
  injection hc' with hc'
  injection hc' with _ hc'
  exact ht q hq hc'
theorem R_elder' (hu : d.R e W base ok u xs) (hbase : ∀ k, v.ownBlock = some k → W.heap.size ≤ k) (hb : Below W.heap.size W w1) : d.R e w1 base (fun k => ok k ∧ some k ≠ v.ownBlock) u xs :=
  R_mono (R_move (R_bound hu) (fun k hk => hb.block k hk.2.2.1)) (fun k hk => ⟨hk.1, fun he => by have := hbase k he.symm; have := hk.2.2.1; omega⟩)
theorem R_new' (h : d.R e w1 W.heap.size ok v xs) (hlt : ∀ k, u.ownBlock = some k → k < W.heap.size) : d.R e w1 W.heap.size (fun k => ok k ∧ some k ≠ u.ownBlock) v xs :=
  R_mono (R_bound h) (fun k hk => ⟨hk.1, fun he => by have := hlt k he.symm; have := hk.2.1; omega⟩)
theorem fresh' (hlt : ∀ k, u.ownBlock = some k → k < W.heap.size) : ∀ k, W.heap.size ≤ k → some k ≠ u.ownBlock := fun k hk he => by have := hlt k he.symm; omega
end
end Kd
namespace Kd
section
variable {α : Type} {d : Kd α} {e base g n cap : Nat} {ok okp : Nat → Prop} {W : World} {xs : List α}
end
end Kd
namespace Kd
section
variable {α : Type} {F : Kd α → Kd α} {sz : Nat} {E : List Nat} {hs : ∀ n, (upto F sz E n).sz = sz} {hE : ∀ n q, q ∈ (upto F sz E n).E → q ∈ E}
end
end Kd
namespace Kd
theorem reps_append {α : Type} {R : α → List Value → Prop} {size : Nat} {ps qs : List α} {cs ds : List Value} (h : Reps R size ps cs) (h' : Reps R size qs ds) : Reps R size (ps ++ qs) (cs ++ ds) := by
  refine ⟨by rw [List.length_append, List.length_append, h.1, h'.1, Nat.add_mul], fun j p hj => ?_⟩
  rcases Nat.lt_or_ge j ps.length with hlt | hge
  · rw [List.getElem?_append_left hlt] at hj
    have hle : j * size + size ≤ cs.length := by rw [h.1, ← Nat.succ_mul]; exact Nat.mul_le_mul_right _ hlt
    rw [List.drop_append_of_le_length (by omega), List.take_append_of_le_length (by rw [List.length_drop]; omega)]
    exact h.2 j p hj
  · rw [List.getElem?_append_right hge] at hj
    have h2 := h'.2 (j - ps.length) p hj
    have hle : ps.length * size ≤ j * size := Nat.mul_le_mul_right _ hge
    rw [List.drop_append, List.drop_eq_nil_of_le (by rw [h.1]; exact hle), List.nil_append, h.1, ← Nat.sub_mul]
    exact h2
section
variable {P : Program} {ops : Array Oper} {rest : List Oper} {o : Oper} {a : Act} {Q : Exit → Act → World → Prop} {α : Type}
theorem R_append_rows (d : Kd α) {Rr : α → List Value → Prop} {w0 W : World} (base : Nat) (hgd : o.guard = none) (s x : Operand) (t e : TypeId) (z : Value) (bytes : Nat)
    (ho : o.op = .call { callee := .builtin .append, args := #[s, x], argTypes := #[t, t] })
    (ht : P.underlying t = some (.slice e)) (hinfo : (P.info? e).map (fun i => (i.zero, i.size, i.bytes)) = some (some z, d.sz, bytes)) (hz : z.cells.size = d.sz) (hs0 : 0 < d.sz) (hb0 : 0 < bytes)
    (v : Value) (xs ys : List α) (A : Option Addr) (m c : Nat) (ok okp : Nat → Prop) (hs : a.eval s = v) (hx : a.eval x = .slice A m c)
    (HO : d.R e W base ok v xs) (HR : ReadsRow Rr d.sz W A m ys) (hKM : ∀ x cs, Rr x cs → d.M W base okp x cs) (hokp : ∀ k, okp k → ok k ∧ some k ≠ v.ownBlock) (hfresh : ∀ k, W.heap.size ≤ k → ok k)
    (HB : Below base w0 W) (hbase : base ≤ W.heap.size) (hl : (xs.length + m) * bytes ≤ 140737488355328)
    (h : ∀ v1 w1, d.R e w1 base ok v1 (xs ++ ys) → Below base w0 w1 → W.grownBy w1 v.ownBlock → (v1.ownBlock = v.ownBlock ∨ ∃ b, v1.ownBlock = some b ∧ W.heap.size ≤ b) → wpList P ops Q rest (a.put o.dst v1) w1) :
    wpList P ops Q (o :: rest) a W := by
  obtain ⟨i0, hi, hzz⟩ := Option.map_eq_some_iff.1 hinfo
  simp only [Prod.mk.injEq] at hzz
  obtain ⟨hz0, hz1, hz2⟩ := hzz
  have hm : ys.length = m := HR.1
  have hlen : xs.length + m ≤ 140737488355328 := Nat.le_trans (Nat.le_mul_of_pos_right _ hb0) hl
  obtain ⟨hok, inner, hown, hr⟩ := HO
  have hrun : ∃ v1 w1, (Builtin.append_ #[t, t] o.type #[v, .slice A m c]).run P W = .ok v1 w1 ∧ d.R e w1 base ok v1 (xs ++ ys) ∧ W.grownBy w1 v.ownBlock ∧ (v1.ownBlock = v.ownBlock ∨ ∃ b, v1.ownBlock = some b ∧ W.heap.size ≤ b) := by
    rcases A with _ | ad
    · have h0 : m = 0 := by
        rcases Nat.eq_zero_or_pos m with h0 | h0
        · exact h0
        · obtain ⟨ad, h, _⟩ := HR.2.2 h0
          cases h
      subst h0
      obtain rfl : ys = [] := List.eq_nil_of_length_eq_zero hm
      refine ⟨v, W, ?_, by rw [List.append_nil]; exact ⟨hok, inner, hown, hr⟩, World.grownBy.refl W _, .inl rfl⟩
      rcases hown.2 with ⟨rfl, hn⟩ | ⟨g, cap, cur, rfl, _, _, hnc, _⟩
      · simp [Builtin.append_, run_underlying ht, sizeOf, typeInfo, hi, Builtin.lenOf, Builtin.firstCells]
      · simp [Builtin.append_, run_underlying ht, sizeOf, typeInfo, hi, Builtin.lenOf, Builtin.firstCells, hnc, storeCells]
    · obtain ⟨news, hnr, hnc⟩ := ReadsRow.inner_ HR
      have hnM : Reps (d.M W base okp) d.sz ys news := hnr.imp_ (fun p c hp => hKM p c hp)
      have hone : ∀ u ∈ news, u.oneCell' = true := by
        intro u hu
        obtain ⟨q, hq, rfl⟩ := List.mem_iff_getElem.1 hu
        have hql : q / d.sz < ys.length := by
          rw [Nat.div_lt_iff_lt_mul hs0]
          rw [← hnM.1]
          exact hq
        have hc := hnM.2 (q / d.sz) _ (List.getElem?_eq_getElem hql)
        refine d.K_one (d.K_of_M hc) _ ?_
        rw [List.mem_iff_getElem?]
        refine ⟨q % d.sz, ?_⟩
        rw [List.getElem?_take, if_pos (Nat.mod_lt _ hs0), List.getElem?_drop, Nat.mul_comm, Nat.div_add_mod, List.getElem?_eq_getElem hq]
      obtain ⟨v1, w1, hrun, h2, hg, _, hat⟩ := run_append_own_at (P := P) W base t o.type e i0 z d.sz bytes ht hi hz0 hz1 hz2 hz hs0 v xs.length inner hown ad m c news (by rw [hnM.1, hm]) hnc hone (by simp only [maxLen]; omega) hl hbase
      have hat' : v1.ownBlock = v.ownBlock ∨ ∃ b, v1.ownBlock = some b ∧ W.heap.size ≤ b := by
        rcases hat with hat | hat
        · exact .inl hat
        · exact .inr ⟨_, hat, Nat.le_refl _⟩
      have hne : ∀ k, some k ≠ v.ownBlock → k < W.heap.size → some k ≠ v1.ownBlock := by
        intro k hk hlt
        rcases hat' with hat | ⟨b, hb, hle⟩
        · rw [hat]; exact hk
        · rw [hb]
          intro he
          injection he with he
          omega
      have step : ∀ {q : α} {c : List Value} {o : Nat → Prop}, d.M W base o q c → (∀ k, o k → ok k ∧ some k ≠ v.ownBlock) → d.M w1 base (fun k => ok k ∧ some k ≠ v1.ownBlock) q c := by
        intro q c o hq ho
        have h1 := d.M_move (w1 := w1) (fun k hk => hg.block k hk.2.2.1 (ho k hk.1).2) (d.M_bound hq)
        exact d.M_mono (fun k hk => ⟨(ho k hk.1).1, hne k (ho k hk.1).2 hk.2.2.1⟩) h1
      refine ⟨v1, w1, hrun, ⟨fun k hk => ?_, inner ++ news, by rw [List.length_append, hm]; exact h2, reps_append (hr.imp_ (fun _ _ hq => step hq (fun _ hk => hk))) (hnM.imp_ (fun _ _ hq => step hq hokp))⟩, hg, hat'⟩
      rcases hat' with hat | ⟨b, hb, hle⟩
      · exact hok k (hat ▸ hk)
      · rw [hb] at hk
        injection hk with hk
        exact hfresh k (by omega)
  obtain ⟨v1, w1, hr1, h1, hg, hat⟩ := hrun
  refine wpList_plain hgd fun K hK => ?_
  unfold Oper.wp execOp
  simp only [ho, resolve, invoke, builtin, Sem.run_bind, Sem.run_pure, Result.andThen_ok, List.map_toArray, List.map_cons, List.map_nil, hs, hx, hr1]
  exact hK _ _ (h v1 w1 h1 (HB.grown hg hbase (own_base hown)) hg hat)
end
end Kd
namespace Kd
section
variable {P : Program} {ops : Array Oper} {rest : List Oper} {o : Oper} {a : Act} {Q : Exit → Act → World → Prop} {α : Type}
end
end Kd
theorem add_add (a : Addr) (i j : Nat) : (a.add i).add j = a.add (i + j) := by
  unfold Addr.add
  by_cases h1 : i = 0 <;> by_cases h2 : j = 0 <;> simp [h1, h2, Nat.add_assoc]
namespace Kd
section
variable {α : Type} {k : Kd α} {w : World} {A : Option Addr} {xs : List α} {m c : Nat}
theorem C_take (h : k.C w A xs.length xs) (hm : m ≤ xs.length) : k.C w A (xs.take m).length (xs.take m) := by
  have hl : (xs.take m).length = m := by rw [List.length_take]; omega
  refine ⟨rfl, by rw [hl]; have := h.2.1; omega, fun hp => ?_⟩
  obtain ⟨ad, e, hc⟩ := h.2.2 (by omega)
  refine ⟨ad, e, fun j p hj => hc j p ?_⟩
  rw [List.getElem?_take] at hj
  split at hj
  · exact hj
  · cases hj
theorem C_drop (h : k.C w A xs.length xs) (hm : m ≤ xs.length) (hc : xs.length ≤ c) : k.C w (if c = m then A else A.map (·.add (m * k.sz))) (xs.drop m).length (xs.drop m) := by
  have hl : (xs.drop m).length = xs.length - m := List.length_drop
  refine ⟨rfl, by rw [hl]; have := h.2.1; omega, fun hp => ?_⟩
  rw [hl] at hp
  obtain ⟨ad, rfl, hcell⟩ := h.2.2 (by omega)
  rw [if_neg (by omega)]
  refine ⟨ad.add (m * k.sz), rfl, fun j p hj => ?_⟩
  rw [List.getElem?_drop] at hj
  obtain ⟨cs, h1, h2, h3⟩ := hcell (m + j) p hj
  refine ⟨cs, h1, h2, fun i u hu => ?_⟩
  rw [add_add, show m * k.sz + (j * k.sz + i) = (m + j) * k.sz + i by rw [Nat.add_mul]; omega]
  exact h3 i u hu
end
end Kd
section
variable {P : Program}
end
theorem below_size {w W : World} (h : Below w.heap.size w W) : w.heap.size ≤ W.heap.size := h.size
theorem below_step {w W w2 : World} (h : Below w.heap.size w W) (k : Below W.heap.size W w2) : Below w.heap.size w w2 := below_then h h.size k
theorem own_alloc {W : World} {base n : Nat} {e : TypeId} {size : Nat} {v : Value} {xs : List Value} (h : W.ownsRow base e size v n xs) (o : Obj) : (W.alloc o).ownsRow base e size v n xs := h.alloc o
theorem own_reads' {W : World} {base n c : Nat} {e : TypeId} {k : IntKind} {A : Option Addr} {xs : List Int} (h : W.ownsRow base e 1 (.slice A n c) n (nums k xs)) : ReadsInt W k A n xs := by
  obtain ⟨A', c', he, hr⟩ := own_reads h
  injection he with hA
  rw [hA]; exact hr
theorem below_set {w W : World} {g j : Nat} {v : Value} (h : Below w.heap.size w W) (hg : w.heap.size ≤ g) : Below w.heap.size w (W.setCell ⟨g, j, none⟩ v) := h.setCell hg _
theorem keep_drewN {w W : World} {g : Nat} {row : Option Nat} (h : KeepBut w W g row) (m : Nat) : KeepBut w (W.drewN m) g row := h
theorem cell_far {W : World} {p a : Addr} (h : a.block ≠ p.block) (u : Value) : (W.setCell p u).cell? a = W.cell? a := by
  have := Below.heap_setCell W p u a.block h
  simp [World.cell?, this]
theorem blk_put {w : World} {g : Nat} {t : TypeId} {cs cs' : Array Value} (h : w.heap[g]? = some (.cells cs t (0, 0))) (i : Nat) (u : Value) (e : cs.setIfInBounds i u = cs') : (w.setCell ⟨g, i, none⟩ u).heap[g]? = some (.cells cs' t (0, 0)) := e ▸ blk_set h i u
theorem below_drew1 {base : Nat} {w W : World} (h : Below base w W) : Below base w W.drew := h.drew
namespace Kd
section
variable {α β : Type} {d : Kd α} {d' : Kd β} {e e' base base' n : Nat} {ok ok' : Nat → Prop} {w W w1 W1 : World} {v u : Value} {xs : List α} {ys : List β} {A : Option Addr} {c : Nat}
end
section
variable {α : Type} {enc : α → Value} {h1 : ∀ x, (enc x).oneCell' = true} {w W : World} {A : Option Addr} {n g : Nat} {xs : List α}
end
end Kd
namespace Kd
section
variable {α : Type} {d : Kd α} {e base g : Nat} {ok : Nat → Prop} {w w1 : World} {v : Value} {xs : List α} {o : Obj}
end
end Kd
section
variable {P : Program} {ops : Array Oper} {rest : List Oper} {o : Oper} {a : Act} {Q : Exit → Act → World → Prop}
theorem box_event {W : World} (hgd : o.guard = none) {N : Tmp} (_hd : o.dst = some N) {cs : Array Value} {t : TypeId}
    (hrun : (execOp a.eval o).run P W = .ok (.value (.pointer (some ⟨W.heap.size, 0, none⟩))) (W.alloc (.cells cs t (0, 0))))
    (h : ∀ g, g = W.heap.size → ∀ w1, w1.heap[g]? = some (.cells cs t (0, 0)) → Below W.heap.size W w1 → wpList P ops Q rest (a.put o.dst (.pointer (some ⟨g, 0, none⟩))) w1) : wpList P ops Q (o :: rest) a W :=
  Kd.event_run hgd hrun (h _ rfl _ (blk_new W _) (below_alloc (Below.refl _ _) _))
end
namespace Kd
section
variable {α : Type} {enc : α → Value} {h1 : ∀ x, (enc x).oneCell' = true} {e base g n cap : Nat} {ok : Nat → Prop} {W : World} {xs : List α}
theorem R_celln (d : α) (h : (scalar enc h1).R e W base ok (.slice (some ⟨g, 0, none⟩) n cap) xs) (i : Int) (h0 : 0 ≤ i) (hi : i < n) : W.cell? ⟨g, i.toNat, none⟩ = some (enc (rdOf d xs i)) ∧ W.frozen? ⟨g, i.toNat, none⟩ = false := by
  obtain ⟨rfl, _⟩ := R_reads' h
  exact R_cell d h i h0 hi
end
end Kd
section
variable {P : Program} {ops : Array Oper} {rest : List Oper} {o : Oper} {a : Act} {Q : Exit → Act → World → Prop}
theorem store_event {W w1 : World} (hgd : o.guard = none) {t : TypeId} {p : Tmp} {v : Operand} (_ho : o.op = .store t (.tmp p) v) (hN : o.dst = none)
    (hrun : (execOp a.eval o).run P W = .ok .skip w1) (h : ∀ w', w' = w1 → wpList P ops Q rest a w') : wpList P ops Q (o :: rest) a W := by
  refine wpList_plain hgd fun K hK => ?_
  unfold Oper.wp
  rw [hrun]
  show K (a.put o.dst undef) w1
  rw [hN]
  exact hK _ _ (h _ rfl)
end
namespace Kd
section
variable {α : Type} {enc : α → Value} {h1 : ∀ x, (enc x).oneCell' = true} {e base g n cap : Nat} {ok : Nat → Prop} {W : World} {xs : List α}
theorem R_putg (h : (scalar enc h1).R e W base ok (.slice (some ⟨g, 0, none⟩) n cap) xs) (i : Int) (x : α) : (scalar enc h1).R e (W.setCell ⟨g, i.toNat, none⟩ (enc x)) base ok (.slice (some ⟨g, 0, none⟩) n cap) (xs.set i.toNat x) ∧ W.grownBy (W.setCell ⟨g, i.toNat, none⟩ (enc x)) (some g) := by
  obtain ⟨rfl, _⟩ := R_reads' h
  exact R_put h i x
end
end Kd
section
variable {P : Program} {ops : Array Oper} {rest : List Oper} {o : Oper} {a : Act} {Q : Exit → Act → World → Prop} {W : World}
theorem gate_dst {N : Tmp} (_hN : o.dst = some N) (h : wpList P ops Q (o :: rest) a W) : wpList P ops Q (o :: rest) a W := h
theorem gate_store {t : TypeId} {p : Tmp} {v : Operand} (_ho : o.op = .store t (.tmp p) v) (h : wpList P ops Q (o :: rest) a W) : wpList P ops Q (o :: rest) a W := h
end
section
variable {P : Program} {ops : Array Oper} {o : Oper} {a : Act} {Q : Exit → Act → World → Prop} {Kc : Act → World → Prop}
theorem event_step {W w1 : World} {v : Value} (hw : Region.wanted o (yielded ops a.tmps) = true) (hrun : (execOp a.eval o).run P W = .ok (.value v) w1) (h : Kc (a.put o.dst v) w1) : if Region.wanted o (yielded ops a.tmps) = true then Oper.wp P o a W Kc Q else Kc (a.put o.dst undef) W := by
  rw [if_pos hw]
  unfold Oper.wp
  rw [hrun]
  exact h
namespace Kd
variable {α : Type}
theorem R_lit_step (d : Kd α) {w0 W : World} (base e : Nat) (hw : Region.wanted o (yielded ops a.tmps) = true) {N : Tmp} (_hd : o.dst = some N) {xs : List α} {inner : List Value} {ok okp : Nat → Prop}
    (hrun : (execOp a.eval o).run P W = .ok (.value (.slice (some ⟨W.heap.size, 0, none⟩) xs.length xs.length)) (W.alloc (.cells inner.toArray e)))
    (hrep : Reps (d.M W base okp) d.sz xs inner) (hok : ∀ k, okp k → ok k) (hfresh : ok W.heap.size) (HB : Below base w0 W) (hbase : base ≤ W.heap.size) (hm : xs.length ≤ 9223372036854775807)
    (h : ∀ v1 w1, d.R e w1 base ok v1 xs → Below base w0 w1 → W.grownBy w1 none → (∃ b, v1.ownBlock = some b ∧ W.heap.size ≤ b) → Kc (a.put o.dst v1) w1) : if Region.wanted o (yielded ops a.tmps) = true then Oper.wp P o a W Kc Q else Kc (a.put o.dst undef) W := by
  refine event_step hw hrun (h _ _ ⟨fun k hk => ?_, inner, ?_, ?_⟩ (HB.alloc hbase _) (World.grownBy_alloc W _ none) ⟨W.heap.size, by simp [Value.ownBlock], Nat.le_refl _⟩)
  · have : W.heap.size = k := by simpa [Value.ownBlock] using hk
    subst this
    exact hfresh
  · have h2 := World.ownsRow_lit (base := base) (e := e) (size := d.sz) W inner.toArray xs.length hbase (by simpa [maxLen] using hm) (by simpa using hrep.1)
    simpa using h2
  · refine hrep.imp_ (fun p c hp => d.M_mono (fun k hk => ⟨hok k hk.1, fun he => ?_⟩) (M_below (d.M_bound hp) (below_alloc (Below.refl _ _) _)))
    have h3 : k = W.heap.size := by simpa [Value.ownBlock] using he
    have := hk.2.2.1
    omega
end Kd
end
section
variable {P : Program} {tmps : Array Value} {w : World}
end
namespace Kd
section
variable {P : Program} {α : Type}
end
section
variable {P : Program} {ops : Array Oper} {rest : List Oper} {o : Oper} {a : Act} {Q : Exit → Act → World → Prop} {Kc : Act → World → Prop} {α : Type}
end
end Kd
end Go.Proofs.YtbkbganflnemeaaW.PrintWords
end

section
namespace Go.Proofs.YtbkbganflnemeaaW.PrintLast
section
variable {P : Program} {ops : Array Oper} {Q : Exit → Act → World → Prop} {md : Region.Mode} {S : World → Prop} {ds : List Nat}
def Region.reachB (md : Region.Mode) (ops : Array Oper) (i : Nat) : Nat → Nat → Bool
  | 0, _ => false
  | fuel + 1, d => match ops[d]? with
    | some o => o.after.any fun e => Region.binds md e && (e.on == i || Region.reachB md ops i fuel e.on)
    | none => false
def Region.closedB (md : Region.Mode) (ops : Array Oper) (listed : Array Bool) : Bool :=
  (List.range ops.size).all fun j => !listed.getD j false || match ops[j]? with
    | some o => o.after.all fun e => !Region.binds md e || listed.getD e.on false
    | none => true
def Region.lastB (md : Region.Mode) (ops : Array Oper) (listed : Array Bool) (ds : List Nat) (i : Nat) : Bool :=
  ds.all fun d => listed.getD d true || Region.reachB md ops i ops.size d
def ListedClosed (md : Region.Mode) (ops : Array Oper) (listed : Array Bool) : Prop :=
  ∀ j oj, ops[j]? = some oj → listed.getD j false = true → ∀ e ∈ oj.after, Region.binds md e = true → listed.getD e.on false = true
theorem Region.closedB_spec {listed : Array Bool} (h : Region.closedB md ops listed = true) : ListedClosed md ops listed := by
  intro j oj hj hl e he hb
  have hlt : j < ops.size := (Array.getElem?_eq_some_iff.1 hj).1
  have h1 := List.all_eq_true.1 h j (List.mem_range.2 hlt)
  simp only [hl, hj, Bool.not_true, Bool.false_or] at h1
  have h2 := Array.all_eq_true_iff_forall_mem.1 h1 e he
  simpa [hb] using h2
theorem ListedClosed.set {listed : Array Bool} {i : Nat} (h : ListedClosed md ops listed) (hi : i ∈ Region.ready md ops listed) : ListedClosed md ops (listed.setIfInBounds i true) := by
  obtain ⟨_, oi, hoi, hall⟩ := mem_ready.1 hi
  intro j oj hj hl e he hb
  by_cases hij : i = j
  · subst hij
    have : oj = oi := Option.some.inj (hj.symm.trans hoi)
    subst this
    exact getD_set_true (hall e he hb)
  · rw [getD_set_ne false hij] at hl
    exact getD_set_true (h j oj hj hl e he hb)
theorem Region.reach_listed {listed : Array Bool} {i : Nat} (hc : ListedClosed md ops listed) : ∀ (fuel d : Nat), Region.reachB md ops i fuel d = true → listed.getD d false = true → listed.getD i false = true
  | 0, _, h, _ => by simp [Region.reachB] at h
  | fuel + 1, d, h, hl => by
    unfold Region.reachB at h
    cases ho : ops[d]? with
    | none => rw [ho] at h; simp at h
    | some o =>
      rw [ho] at h
      obtain ⟨e, he, h1⟩ := Array.any_eq_true'.1 h
      simp only [Bool.and_eq_true, Bool.or_eq_true, beq_iff_eq] at h1
      have hle := hc d o ho hl e he h1.1
      rcases h1.2 with h2 | h2
      · rw [← h2]; exact hle
      · exact Region.reach_listed hc fuel e.on h2 hle
theorem Region.reach_not_ready {listed : Array Bool} {i d fuel : Nat} (hc : ListedClosed md ops listed) (hr : Region.reachB md ops i fuel d = true) (hun : listed.getD i true = false) : d ∉ Region.ready md ops listed := by
  intro hd
  obtain ⟨_, o, ho, hall⟩ := mem_ready.1 hd
  have hi : listed.getD i false = true := by
    cases fuel with
    | zero => simp [Region.reachB] at hr
    | succ n =>
      unfold Region.reachB at hr
      rw [ho] at hr
      obtain ⟨e, he, h1⟩ := Array.any_eq_true'.1 hr
      simp only [Bool.and_eq_true, Bool.or_eq_true, beq_iff_eq] at h1
      have hle := hall e he h1.1
      rcases h1.2 with h2 | h2
      · rw [← h2]; exact hle
      · exact Region.reach_listed hc n e.on h2 hle
  rcases Nat.lt_or_ge i listed.size with h' | h'
  · simp [h'] at hun hi
    rw [hun] at hi
    cases hi
  · simp [Array.getElem?_eq_none h'] at hun
def wpAnyLast (P : Program) (md : Region.Mode) (ops : Array Oper) (Q : Exit → Act → World → Prop) (S : World → Prop) (ds : List Nat) : Nat → Array Bool → Act → World → Prop
  | 0, listed, a, w => Region.ready md ops listed = [] ∧ Q .normal a w
  | fuel + 1, listed, a, w =>
    (Region.ready md ops listed = [] → Q .normal a w) ∧
    ∀ i ∈ Region.ready md ops listed, wpOp P ops Q i (fun a' w' => (i ∉ ds → S w → S w') ∧ wpAnyLast P md ops Q S ds fuel (listed.setIfInBounds i true) a' w') a w
theorem wpAny_of_last : ∀ (fuel : Nat) (listed : Array Bool) (a : Act) (w : World), wpAnyLast P md ops Q S ds fuel listed a w → wpAny P md ops Q fuel listed a w
  | 0, _, _, _, h => h
  | fuel + 1, _, _, _, h => ⟨h.1, fun i hi => wpOp_mono (fun a' w' h' => wpAny_of_last fuel _ a' w' h'.2) (h.2 i hi)⟩
theorem wpAnyLast_first {i : Nat} {oi : Oper} {v : Value} (hi : ops[i]? = some oi) (hsel : ∀ (j : Nat) (o : Oper) cs b, ops[j]? = some o → o.op ≠ .select cs b)
    (hQ : ∀ c a w, Q (.panic c) (a.put oi.dst v) w → Q (.panic c) a w) (n : Nat) :
    ∀ (fuel : Nat) (listed : Array Bool) (a : Act) (w : World),
      (∀ j oj, ops[j]? = some oj → j ≠ i → listed.getD j true = false → (∀ e ∈ oj.after, Region.binds md e = true → e.on ≠ i) → oi.apart ops oj = true) →
      ListedClosed md ops listed → (∀ d ∈ ds, listed.getD d true = false → Region.reachB md ops i n d = true) →
      i ∈ Region.ready md ops listed → YieldsIf P ops S oi v a → S w →
      wpAnyLast P md ops Q S ds fuel (listed.setIfInBounds i true) (a.put oi.dst v) w → wpAnyLast P md ops Q S ds (fuel + 1) listed a w := by
  intro fuel
  induction fuel with
  | zero =>
    intro listed a w _ _ _ hr hy hS H
    refine ⟨fun h => (by rw [h] at hr; cases hr), fun j hj => ?_⟩
    by_cases hji : j = i
    · subst hji; exact hy.wpOp hi hS ⟨fun _ h => h, H⟩
    · have := ready_mono hj hji
      rw [H.1] at this
      cases this
  | succ fuel ih =>
    intro listed a w hfree hc hd hr hy hS H
    refine ⟨fun h => (by rw [h] at hr; cases hr), fun j hj => ?_⟩
    by_cases hji : j = i
    · subst hji; exact hy.wpOp hi hS ⟨fun _ h => h, H⟩
    · have h1 := H.2 j (ready_mono hj hji)
      obtain ⟨hjun, oj, hoj, hall⟩ := mem_ready.1 hj
      have hiun := (mem_ready.1 hr).1
      have hnot : ∀ e ∈ oj.after, Region.binds md e = true → e.on ≠ i := fun e he hb heq => by
        have h1 := hall e he hb
        rw [heq] at h1
        rcases Nat.lt_or_ge i listed.size with h' | h'
        · simp [h'] at hiun h1; rw [hiun] at h1; cases h1
        · simp [Array.getElem?_eq_none h'] at h1
      have hjd : j ∉ ds := fun hm => Region.reach_not_ready hc (hd j hm hjun) hiun hj
      have h2 := wpOp_putIf hoj (hfree j oj hoj hji hjun hnot) (fun cs b => hsel i oi cs b hi) (fun cs b => hsel j oj cs b hoj) hQ hy h1
      have hfree' : ∀ k ok, ops[k]? = some ok → k ≠ i → (listed.setIfInBounds j true).getD k true = false →
          (∀ e ∈ ok.after, Region.binds md e = true → e.on ≠ i) → oi.apart ops ok = true := fun k ok hk hki hun hno => by
        refine hfree k ok hk hki ?_ hno
        by_cases hjk : j = k
        · subst hjk; exact hjun
        · rw [getD_set_ne true hjk] at hun; exact hun
      have hd' : ∀ d ∈ ds, (listed.setIfInBounds j true).getD d true = false → Region.reachB md ops i n d = true := fun d hm hun => by
        refine hd d hm ?_
        by_cases hjk : j = d
        · subst hjk; exact hjun
        · rw [getD_set_ne true hjk] at hun; exact hun
      refine wpOp_mono (fun a' w' h3 => ⟨h3.2.1, ih (listed.setIfInBounds j true) a' w' hfree' (hc.set hj) hd' (ready_mono hr (Ne.symm hji)) h3.1 (h3.2.1 hjd hS) ?_⟩) h2
      rw [Array.setIfInBounds_comm _ _ hji]
      exact h3.2.2
theorem wpAnyLast_any {i : Nat} {oi : Oper} {v : Value} (hi : ops[i]? = some oi) (hsel : ∀ (j : Nat) (o : Oper) cs b, ops[j]? = some o → o.op ≠ .select cs b)
    (hQ : ∀ c a w, Q (.panic c) (a.put oi.dst v) w → Q (.panic c) a w) :
    ∀ (fuel : Nat) (listed : Array Bool) (a : Act) (w : World),
      (∀ j oj, ops[j]? = some oj → j ≠ i → listed.getD j true = false → (∀ e ∈ oj.after, Region.binds md e = true → e.on ≠ i) → oi.apart ops oj = true) →
      i ∈ Region.ready md ops listed → Yields P ops oi v a →
      wpAnyLast P md ops Q S ds fuel (listed.setIfInBounds i true) (a.put oi.dst v) w → wpAnyLast P md ops Q S ds (fuel + 1) listed a w := by
  intro fuel
  induction fuel with
  | zero =>
    intro listed a w _ hr hy H
    refine ⟨fun h => (by rw [h] at hr; cases hr), fun j hj => ?_⟩
    by_cases hji : j = i
    · subst hji; exact (hy.yieldsIf (S := fun _ => True)).wpOp hi trivial ⟨fun _ h => h, H⟩
    · have := ready_mono hj hji
      rw [H.1] at this
      cases this
  | succ fuel ih =>
    intro listed a w hfree hr hy H
    refine ⟨fun h => (by rw [h] at hr; cases hr), fun j hj => ?_⟩
    by_cases hji : j = i
    · subst hji; exact (hy.yieldsIf (S := fun _ => True)).wpOp hi trivial ⟨fun _ h => h, H⟩
    · have h1 := H.2 j (ready_mono hj hji)
      obtain ⟨hjun, oj, hoj, hall⟩ := mem_ready.1 hj
      have hiun := (mem_ready.1 hr).1
      have hnot : ∀ e ∈ oj.after, Region.binds md e = true → e.on ≠ i := fun e he hb heq => by
        have h1 := hall e he hb
        rw [heq] at h1
        rcases Nat.lt_or_ge i listed.size with h' | h'
        · simp [h'] at hiun h1; rw [hiun] at h1; cases h1
        · simp [Array.getElem?_eq_none h'] at h1
      have h2 := wpOp_put hoj (hfree j oj hoj hji hjun hnot) (fun cs b => hsel i oi cs b hi) (fun cs b => hsel j oj cs b hoj) hQ hy h1
      have hfree' : ∀ k ok, ops[k]? = some ok → k ≠ i → (listed.setIfInBounds j true).getD k true = false →
          (∀ e ∈ ok.after, Region.binds md e = true → e.on ≠ i) → oi.apart ops ok = true := fun k ok hk hki hun hno => by
        refine hfree k ok hk hki ?_ hno
        by_cases hjk : j = k
        · subst hjk; exact hjun
        · rw [getD_set_ne true hjk] at hun; exact hun
      refine wpOp_mono (fun a' w' h3 => ⟨h3.2.1, ih (listed.setIfInBounds j true) a' w' hfree' (ready_mono hr (Ne.symm hji)) h3.1 ?_⟩) h2
      rw [Array.setIfInBounds_comm _ _ hji]
      exact h3.2.2
theorem wpAnyLast_take {i : Nat} {oi : Oper} {v : Value} {fuel : Nat} {listed : Array Bool} {a : Act} {w : World} (hi : ops[i]? = some oi)
    (hs : Region.noSelect ops = true) (hf : Region.free md ops listed i = true) (hr : (Region.ready md ops listed).contains i = true)
    (hc : Region.closedB md ops listed = true) (hl : Region.lastB md ops listed ds i = true)
    (hQ : ∀ c a w, Q (.panic c) (a.put oi.dst v) w → Q (.panic c) a w) (hy : YieldsIf P ops S oi v a) (hS : S w)
    (h : wpAnyLast P md ops Q S ds fuel (listed.setIfInBounds i true) (a.put oi.dst v) w) : wpAnyLast P md ops Q S ds (fuel + 1) listed a w :=
  wpAnyLast_first hi (Region.noSelect_spec hs) hQ ops.size fuel listed a w (Region.free_spec hi hf) (Region.closedB_spec hc)
    (fun d hm hun => by have := List.all_eq_true.1 hl d hm; rw [hun] at this; simpa using this) (by simpa using hr) hy hS h
theorem wpAnyLast_all {rs : List Nat} {fuel : Nat} {listed : Array Bool} {a : Act} {w : World} (hr : Region.ready md ops listed = rs) (hne : rs ≠ [])
    (h : ∀ i ∈ rs, wpOp P ops Q i (fun a' w' => (i ∉ ds → S w → S w') ∧ wpAnyLast P md ops Q S ds fuel (listed.setIfInBounds i true) a' w') a w) : wpAnyLast P md ops Q S ds (fuel + 1) listed a w :=
  ⟨fun h0 => absurd (hr ▸ h0) hne, hr ▸ h⟩
theorem wpAnyLast_done {listed : Array Bool} {a : Act} {w : World} (hr : Region.ready md ops listed = []) (h : Q .normal a w) :
    ∀ fuel, wpAnyLast P md ops Q S ds fuel listed a w
  | 0 => ⟨hr, h⟩
  | _ + 1 => ⟨fun _ => h, by rw [hr]; simp⟩
theorem wp_region_last {id : Nat} {a : Act} {w : World} (hm : P.follows .mixedOrders = true)
    (h : wpAnyLast P .any ops Q S ds ops.size (Array.replicate ops.size false) a { w with drawn := w.drawn + 1 }) : (Code.region id ops true).wp P Q a w :=
  wp_region_any hm (wpAny_of_last _ _ _ _ h)
end
section
variable {P : Program} {ops : Array Oper} {Q : Exit → Act → World → Prop} {md : Region.Mode} {S : World → Prop} {ds : List Nat}
def AllReadyL (P : Program) (md : Region.Mode) (ops : Array Oper) (Q : Exit → Act → World → Prop) (S : World → Prop) (ds : List Nat) (fuel : Nat) (listed : Array Bool) (a : Act) (w : World) (rs : List Nat) : Prop :=
  ∀ i ∈ rs, wpOp P ops Q i (fun a' w' => (i ∉ ds → S w → S w') ∧ wpAnyLast P md ops Q S ds fuel (listed.setIfInBounds i true) a' w') a w
theorem AllReadyL.nil {fuel : Nat} {listed : Array Bool} {a : Act} {w : World} : AllReadyL P md ops Q S ds fuel listed a w [] := fun _ h => by cases h
theorem AllReadyL.cons {fuel : Nat} {listed : Array Bool} {a : Act} {w : World} {i : Nat} {o : Oper} {rs : List Nat} (ho : ops[i]? = some o) (hd : i ∉ ds)
    (h : ∀ K' : Act → World → Prop, Shut (∀ a w, S w → (S w → wpAnyLast P md ops Q S ds fuel (listed.setIfInBounds i true) a w) → K' a w) → if Region.wanted o (yielded ops a.tmps) = true then Oper.wp P o a w K' Q else K' (a.put o.dst undef) w)
    (hs : AllReadyL P md ops Q S ds fuel listed a w rs) : AllReadyL P md ops Q S ds fuel listed a w (i :: rs) := fun j hj => by
  rcases List.mem_cons.1 hj with rfl | hj
  · exact wpOp_step ho (fun K' hK => h K' (fun a w hS hW => hK a w ⟨fun _ _ => hS, hW hS⟩))
  · exact hs j hj
theorem AllReadyL.cons_last {fuel : Nat} {listed : Array Bool} {a : Act} {w : World} {i : Nat} {o : Oper} {rs : List Nat} (ho : ops[i]? = some o) (hd : i ∈ ds)
    (h : ∀ K' : Act → World → Prop, Shut (∀ a w, wpAnyLast P md ops Q S ds fuel (listed.setIfInBounds i true) a w → K' a w) → if Region.wanted o (yielded ops a.tmps) = true then Oper.wp P o a w K' Q else K' (a.put o.dst undef) w)
    (hs : AllReadyL P md ops Q S ds fuel listed a w rs) : AllReadyL P md ops Q S ds fuel listed a w (i :: rs) := fun j hj => by
  rcases List.mem_cons.1 hj with rfl | hj
  · exact wpOp_step ho (fun K' hK => h K' (fun a w hW => hK a w ⟨fun hn => absurd hd hn, hW⟩))
  · exact hs j hj
theorem wpAnyLast_ready {rs : List Nat} {fuel : Nat} {listed : Array Bool} {a : Act} {w : World} (hr : Region.ready md ops listed = rs) (hne : rs ≠ [])
    (h : AllReadyL P md ops Q S ds fuel listed a w rs) : wpAnyLast P md ops Q S ds (fuel + 1) listed a w := wpAnyLast_all hr hne h
theorem start_ {id n : Nat} {a : Act} {w : World} (l : Array Bool) (hm : P.follows .mixedOrders = true) (hn : ops.size = n) (hl : Array.replicate n false = l) (hS : S w.drew)
    (h : S w.drew → wpAnyLast P .any ops Q S ds n l a w.drew) : (Code.region id ops true).wp P Q a w := by
  subst hn
  subst hl
  exact wp_region_last hm (h hS)
def takeB (md : Region.Mode) (ops : Array Oper) (ds : List Nat) (l l' : Array Bool) (i : Nat) : Bool :=
  Region.noSelect ops && Region.free md ops l i && (Region.ready md ops l).contains i && Region.closedB md ops l && Region.lastB md ops l ds i && (l.setIfInBounds i true == l')
theorem take_ {i : Nat} {N : Option Tmp} {oi : Oper} {v : Value} {fuel : Nat} {l : Array Bool} {a : Act} {w : World} (l' : Array Bool) (hi : ops[i]? = some oi) (hN : oi.dst = N) (hc : takeB md ops ds l l' i = true)
    (hQ : ∀ c a w, Q (.panic c) (a.put oi.dst v) w → Q (.panic c) a w) (hy : YieldsIf P ops S oi v a) (hS : S w) {a' : Act} (ha : a.put N v = a')
    (h : wpAnyLast P md ops Q S ds fuel l' a' w) : wpAnyLast P md ops Q S ds (fuel + 1) l a w := by
  subst ha
  subst hN
  simp only [takeB, Bool.and_eq_true, beq_iff_eq] at hc
  obtain ⟨⟨⟨⟨⟨h1, h2⟩, h3⟩, h4⟩, h5⟩, h6⟩ := hc
  subst h6
  exact wpAnyLast_take hi h1 h2 h3 h4 h5 hQ hy hS h
def anyB (md : Region.Mode) (ops : Array Oper) (l l' : Array Bool) (i : Nat) : Bool :=
  Region.noSelect ops && Region.free md ops l i && (Region.ready md ops l).contains i && (l.setIfInBounds i true == l')
theorem pure_ {i : Nat} {N : Option Tmp} {oi : Oper} {v : Value} {fuel : Nat} {l : Array Bool} {a : Act} {w : World} (l' : Array Bool) (hi : ops[i]? = some oi) (hN : oi.dst = N) (hc : anyB md ops l l' i = true)
    (hQ : ∀ c a w, Q (.panic c) (a.put oi.dst v) w → Q (.panic c) a w) (hy : Yields P ops oi v a) {a' : Act} (ha : a.put N v = a')
    (h : wpAnyLast P md ops Q S ds fuel l' a' w) : wpAnyLast P md ops Q S ds (fuel + 1) l a w := by
  subst ha
  subst hN
  simp only [anyB, Bool.and_eq_true, beq_iff_eq] at hc
  obtain ⟨⟨⟨h1, h2⟩, h3⟩, h6⟩ := hc
  subst h6
  exact wpAnyLast_any hi (Region.noSelect_spec h1) hQ fuel l a w (Region.free_spec hi h2) (by simpa using h3) hy h
def readyB (md : Region.Mode) (ops : Array Oper) (l l' : Array Bool) (i : Nat) : Bool := (Region.ready md ops l == [i]) && (l.setIfInBounds i true == l')
theorem one_ {i : Nat} {N : Option Tmp} {oi : Oper} {fuel : Nat} {l : Array Bool} {a : Act} {w : World} (l' : Array Bool) (hi : ops[i]? = some oi) (hN : oi.dst = N) (hc : readyB md ops l l' i = true) (hd : i ∉ ds)
    (h : ∀ K : Act → World → Prop, Shut (∀ a' w', S w' → (S w' → wpAnyLast P md ops Q S ds fuel l' a' w') → K a' w') → if Region.wanted oi (yielded ops a.tmps) = true then Oper.wp P oi a w K Q else K (a.put N undef) w) :
    wpAnyLast P md ops Q S ds (fuel + 1) l a w := by
  subst hN
  simp only [readyB, Bool.and_eq_true, beq_iff_eq] at hc
  obtain ⟨h1, h2⟩ := hc
  subst h2
  exact wpAnyLast_ready h1 (by simp) (AllReadyL.cons hi hd (fun K hK => h K hK) AllReadyL.nil)
theorem last_ {i : Nat} {N : Option Tmp} {oi : Oper} {fuel : Nat} {l : Array Bool} {a : Act} {w : World} (l' : Array Bool) (hi : ops[i]? = some oi) (hN : oi.dst = N) (hc : readyB md ops l l' i = true) (hd : i ∈ ds)
    (h : ∀ K : Act → World → Prop, Shut (∀ a' w', wpAnyLast P md ops Q S ds fuel l' a' w' → K a' w') → if Region.wanted oi (yielded ops a.tmps) = true then Oper.wp P oi a w K Q else K (a.put N undef) w) :
    wpAnyLast P md ops Q S ds (fuel + 1) l a w := by
  subst hN
  simp only [readyB, Bool.and_eq_true, beq_iff_eq] at hc
  obtain ⟨h1, h2⟩ := hc
  subst h2
  exact wpAnyLast_ready h1 (by simp) (AllReadyL.cons_last hi hd (fun K hK => h K hK) AllReadyL.nil)
theorem done_ {l : Array Bool} {a : Act} {w : World} {n : Nat} (hr : (Region.ready md ops l == []) = true) (h : Q .normal a w) : wpAnyLast P md ops Q S ds n l a w := wpAnyLast_done (by simpa using hr) h n
theorem two_ {i j : Nat} {Ni Nj : Option Tmp} {oi oj : Oper} {fuel : Nat} {l : Array Bool} {a : Act} {w : World} (li lj : Array Bool) (hi : ops[i]? = some oi) (hj : ops[j]? = some oj) (hNi : oi.dst = Ni) (hNj : oj.dst = Nj)
    (hc : (Region.ready md ops l == [i, j] && l.setIfInBounds i true == li && l.setIfInBounds j true == lj) = true) (hdi : i ∉ ds) (hdj : j ∉ ds)
    (h1 : ∀ K : Act → World → Prop, Shut (∀ a' w', S w' → (S w' → wpAnyLast P md ops Q S ds fuel li a' w') → K a' w') → if Region.wanted oi (yielded ops a.tmps) = true then Oper.wp P oi a w K Q else K (a.put Ni undef) w)
    (h2 : ∀ K : Act → World → Prop, Shut (∀ a' w', S w' → (S w' → wpAnyLast P md ops Q S ds fuel lj a' w') → K a' w') → if Region.wanted oj (yielded ops a.tmps) = true then Oper.wp P oj a w K Q else K (a.put Nj undef) w) :
    wpAnyLast P md ops Q S ds (fuel + 1) l a w := by
  subst hNi
  subst hNj
  simp only [Bool.and_eq_true, beq_iff_eq] at hc
  obtain ⟨⟨h3, h4⟩, h5⟩ := hc
  subst h4
  subst h5
  exact wpAnyLast_ready h3 (by simp) (AllReadyL.cons hi hdi (fun K hK => h1 K hK) (AllReadyL.cons hj hdj (fun K hK => h2 K hK) AllReadyL.nil))
def putAll : Act → List (Tmp × Value) → Act
  | a, [] => a
  | a, (n, v) :: r => putAll (a.put (some n) v) r
theorem join_ {σ : Type} {fuel : Nat} {l : Array Bool} {a : Act} {w : World} (fuel' : Nat) (l' : Array Bool) (ns : σ → List (Tmp × Value)) (F : σ → World → Prop)
    (hcont : ∀ s w', F s w' → wpAnyLast P md ops Q S ds fuel' l' (putAll a (ns s)) w')
    (h : (∀ s w', F s w' → wpAnyLast P md ops Q S ds fuel' l' (putAll a (ns s)) w') → wpAnyLast P md ops Q S ds fuel l a w) : wpAnyLast P md ops Q S ds fuel l a w := h hcont
theorem norm_ {fuel : Nat} {l : Array Bool} {a a' : Act} {w : World} (ha : a = a') (h : wpAnyLast P md ops Q S ds fuel l a' w) : wpAnyLast P md ops Q S ds fuel l a w := by
  subst ha
  exact h
theorem call_ {oi : Oper} {N : Option Tmp} {a : Act} {w : World} {K : Act → World → Prop} (f : FuncId) (args : Array Value) (hw : Region.wanted oi (yielded ops a.tmps) = true) (hN : oi.dst = N) (hrun : (execOp a.eval oi).run P w = .ok (.enter f args) w)
    (h : Calls P f args w fun e w' => ∃ v, e = .returned v ∧ K (a.put N v) w') : if Region.wanted oi (yielded ops a.tmps) = true then Oper.wp P oi a w K Q else K (a.put N undef) w := by
  rw [if_pos hw]
  subst hN
  unfold Oper.wp
  rw [hrun, Oper.upon_enter]
  refine h.mono fun e w'' hh => ?_
  obtain ⟨v, rfl, hk⟩ := hh
  exact hk
theorem enters_ {f : FuncId} {fn : Func} (hf : P.funcs[f]? = some fn) (hname : (fn.name == "runtime.NumGoroutine") = false) (hb : fn.body.isSome = true) (args : Array Value) (w : World) : (callFunc f args).run P w = .ok (.enter f args) w := by
  have h1 : fn.name ≠ "runtime.NumGoroutine" := by simpa using hname
  obtain ⟨c, hc⟩ := Option.isSome_iff_exists.1 hb
  simp [callFunc, hf, h1, hc]
theorem goes_ {oi : Oper} {N : Option Tmp} {a : Act} {w : World} {K : Act → World → Prop} {f : FuncId} {fn : Func} {as_ : Array Operand} {ts : Array TypeId} (hf : P.funcs[f]? = some fn) (hname : (fn.name == "runtime.NumGoroutine") = false) (hb : fn.body.isSome = true) (args : Array Value)
    (hw : Region.wanted oi (yielded ops a.tmps) = true) (hN : oi.dst = N) (hop : oi.op = .call { callee := .value (.func f), args := as_, argTypes := ts }) (hargs : as_.map a.eval = args)
    (h : Calls P f args w fun e w' => ∃ v, e = .returned v ∧ K (a.put N v) w') : if Region.wanted oi (yielded ops a.tmps) = true then Oper.wp P oi a w K Q else K (a.put N undef) w := by
  refine call_ f args hw hN ?_ h
  have he := enters_ hf hname hb args w
  unfold execOp
  simp [hop, resolve, Deferred.ofValue, invoke, Act.eval, hargs, he]
theorem goesL_ {rest : List Oper} {oi : Oper} {a : Act} {w : World} (N : Option Tmp) (hd : oi.dst = N) (hg : oi.guard = none) {f : FuncId} {fn : Func} {as_ : Array Operand} {ts : Array TypeId} (hf : P.funcs[f]? = some fn) (hname : (fn.name == "runtime.NumGoroutine") = false) (hb : fn.body.isSome = true) (args : Array Value)
    (hop : oi.op = .call { callee := .value (.func f), args := as_, argTypes := ts }) (hargs : as_.map a.eval = args)
    (h : Calls P f args w fun e w' => ∃ v, e = .returned v ∧ wpList P ops Q rest (a.put N v) w') : wpList P ops Q (oi :: rest) a w := by
  refine wpList_plain hg fun K hK => ?_
  have he := enters_ hf hname hb args w
  have hrun : (execOp a.eval oi).run P w = .ok (.enter f args) w := by
    unfold execOp
    simp [hop, resolve, Deferred.ofValue, invoke, Act.eval, hargs, he]
  unfold Oper.wp
  rw [hrun, Oper.upon_enter]
  refine h.mono fun e w'' hh => ?_
  obtain ⟨v, rfl, hk⟩ := hh
  subst hd
  exact hK _ _ hk
theorem value_ {oi : Oper} {N : Option Tmp} {a : Act} {w w1 : World} {v : Value} {K : Act → World → Prop} (hw : Region.wanted oi (yielded ops a.tmps) = true) (hN : oi.dst = N) (hrun : (execOp a.eval oi).run P w = .ok (.value v) w1)
    (h : K (a.put N v) w1) : if Region.wanted oi (yielded ops a.tmps) = true then Oper.wp P oi a w K Q else K (a.put N undef) w := by
  rw [if_pos hw]
  subst hN
  unfold Oper.wp
  rw [hrun]
  exact h
theorem skip_ {oi : Oper} {a : Act} {w w1 : World} {K : Act → World → Prop} (hw : Region.wanted oi (yielded ops a.tmps) = true) (hN : oi.dst = none) (hrun : (execOp a.eval oi).run P w = .ok .skip w1)
    (h : K a w1) : if Region.wanted oi (yielded ops a.tmps) = true then Oper.wp P oi a w K Q else K (a.put none undef) w := by
  rw [if_pos hw]
  unfold Oper.wp
  rw [hrun]
  show K (a.put oi.dst undef) w1
  rw [hN]
  exact h
theorem i64_w (n : Int) : IntKind.i64.wrap n = Go.RowKit.wrap64 n := by unfold Go.RowKit.wrap64; exact IntKind.wrap_i64 n
theorem i32_w (n : Int) : IntKind.i32.wrap n = Go.RowKit.wrap32 n := by unfold Go.RowKit.wrap32; exact IntKind.wrap_i32 n
end
end Go.Proofs.YtbkbganflnemeaaW.PrintLast
end

section
namespace Go.Proofs.YtbkbganflnemeaaW.PrintWords
open Go.RowKit
namespace Kd
def tag {α : Type} (f : Nat → Nat) (d : Kd α) : Kd (α × Nat) where
  sz := d.sz
  E := d.E
  K := fun w x cs => d.K w x.1 cs
  M := fun w base ok x cs => d.M w base (fun k => ok k ∧ f k = x.2) x.1 cs
  K_len := fun h => d.K_len h
  K_one := fun h => d.K_one h
  K_below := fun hb h => d.K_below hb h
  K_of_M := fun h => d.K_of_M h
  M_mono := fun hok h => d.M_mono (fun k hk => ⟨hok k hk.1, hk.2⟩) h
  M_bound := fun h => d.M_mono (fun _ hk => ⟨⟨hk.1.1, hk.2⟩, hk.1.2⟩) (d.M_bound h)
  M_move := fun hm h => d.M_move (fun k hk => hm k hk.1) h
  M_lower := fun hb h => d.M_lower hb h
def raw (sz : Nat) : Kd (List Value) where
  sz := sz
  E := []
  K := fun _ x cs => cs = x ∧ cs.length = sz ∧ ∀ u ∈ cs, u.oneCell' = true
  M := fun _ _ _ x cs => cs = x ∧ cs.length = sz ∧ ∀ u ∈ cs, u.oneCell' = true
  K_len := fun h => h.2.1
  K_one := fun h => h.2.2
  K_below := fun _ h => h
  K_of_M := fun h => h
  M_mono := fun _ h => h
  M_bound := fun h => h
  M_move := fun _ h => h
  M_lower := fun _ h => h
def S {α : Type} (d : Kd α) (e : Nat) (w : World) (base : Nat) (ok : Nat → Prop) (v : Value) (xs : List α) : Prop := ∃ f, (tag f d).R e w base ok v xs.zipIdx
section
variable {α β : Type} {d : Kd α} {d' : Kd β} {e e' : Nat} {w w1 W : World} {base b : Nat} {ok ok' okv oku : Nat → Prop} {u v : Value} {xs : List α} {ys : List β}
end
section
variable {α β : Type} {d : Kd α} {d' : Kd β} {e e' g : Nat} {w w1 W : World} {base b : Nat} {ok ok' okv oku : Nat → Prop} {u v : Value} {xs : List α} {ys : List β}
end
section
open Classical in
variable {P : Program} {ops : Array Oper} {rest : List Oper} {o : Oper} {a : Act} {Q : Exit → Act → World → Prop} {Kc : Act → World → Prop} {α : Type}
end
def gap {α : Type} (f : Nat → Nat) (d : Kd α) (i : Nat) (c : List Value) : Kd (α × Nat) where
  sz := d.sz
  E := d.E
  K := fun w x cs => (x.2 = i → cs = c ∧ cs.length = d.sz ∧ ∀ u ∈ cs, u.oneCell' = true) ∧ (x.2 ≠ i → d.K w x.1 cs)
  M := fun w base ok x cs => (x.2 = i → cs = c ∧ cs.length = d.sz ∧ ∀ u ∈ cs, u.oneCell' = true) ∧ (x.2 ≠ i → d.M w base (fun k => ok k ∧ f k = x.2) x.1 cs)
  K_len := fun {w x cs} h => by
    by_cases hx : x.2 = i
    · exact (h.1 hx).2.1
    · exact d.K_len (h.2 hx)
  K_one := fun {w x cs} h => by
    by_cases hx : x.2 = i
    · exact (h.1 hx).2.2
    · exact d.K_one (h.2 hx)
  K_below := fun hb h => ⟨h.1, fun hx => d.K_below hb (h.2 hx)⟩
  K_of_M := fun h => ⟨h.1, fun hx => d.K_of_M (h.2 hx)⟩
  M_mono := fun hok h => ⟨h.1, fun hx => d.M_mono (fun k hk => ⟨hok k hk.1, hk.2⟩) (h.2 hx)⟩
  M_bound := fun h => ⟨h.1, fun hx => d.M_mono (fun _ hk => ⟨⟨hk.1.1, hk.2⟩, hk.1.2⟩) (d.M_bound (h.2 hx))⟩
  M_move := fun hm h => ⟨h.1, fun hx => d.M_move (fun k hk => hm k hk.1) (h.2 hx)⟩
  M_lower := fun hb h => ⟨h.1, fun hx => d.M_lower hb (h.2 hx)⟩
def H {α : Type} (d : Kd α) (e : Nat) (w : World) (base : Nat) (ok : Nat → Prop) (v : Value) (xs : List α) (i : Int) (oki : Nat → Prop) (c : List Value) : Prop :=
  (∀ k, oki k → ok k) ∧ ∃ f, (gap f d i.toNat c).R e w base (fun k => ok k ∧ ¬ oki k) v xs.zipIdx
section
variable {α β : Type} {d : Kd α} {e e' g n cap : Nat} {w w1 W : World} {base : Nat} {ok ok' oki okp : Nat → Prop} {u v : Value} {xs : List α} {i : Int} {c : List Value}
open Classical in
end
section
variable {P : Program} {ops : Array Oper} {rest : List Oper} {o : Oper} {a : Act} {Q : Exit → Act → World → Prop} {α : Type}
end
end Kd
end Go.Proofs.YtbkbganflnemeaaW.PrintWords
end

section
namespace Go.Proofs.YtbkbganflnemeaaW.PrintWords
open Go.RowKit
def Kept (w W : World) (S : Nat → Prop) : Prop := w.heap.size ≤ W.heap.size ∧ ∀ i, i < w.heap.size → ¬ S i → W.heap[i]? = w.heap[i]?
section
variable {w W W2 : World} {S S2 S' : Nat → Prop}
theorem Kept.refl (w : World) (S : Nat → Prop) : Kept w w S := ⟨Nat.le_refl _, fun _ _ _ => rfl⟩
theorem Kept.of_below (h : Below w.heap.size w W) (S : Nat → Prop) : Kept w W S := ⟨h.size, fun i hi _ => h.block i hi⟩
theorem Kept.mono (h : Kept w W S) (hs : ∀ k, S k → S' k) : Kept w W S' := ⟨h.1, fun i hi hn => h.2 i hi (fun hk => hn (hs i hk))⟩
theorem Kept.then_ (h : Kept w W S) (k : Kept W W2 S2) (hs : ∀ k, S2 k → S k ∨ w.heap.size ≤ k) : Kept w W2 S :=
  ⟨Nat.le_trans h.1 k.1, fun i hi hn => (k.2 i (Nat.lt_of_lt_of_le hi h.1) (fun h2 => (hs i h2).elim hn (fun h3 => by omega))).trans (h.2 i hi hn)⟩
theorem Kept.of_grown {row : Option Nat} (hg : W.grownBy W2 row) (h : Kept w W S) (hr : ∀ k, row = some k → S k ∨ w.heap.size ≤ k) : Kept w W2 S :=
  h.then_ (S2 := fun k => row = some k) ⟨hg.size, fun i hi hn => hg.block i hi (fun he => hn he.symm)⟩ hr
theorem Kept.below (h : Kept w W S) (hb : Below W.heap.size W W2) : Kept w W2 S := h.then_ (Kept.of_below hb (fun _ => False)) (fun _ hk => hk.elim)
theorem Kept.alloc (h : Kept w W S) (o : Obj) : Kept w (W.alloc o) S := h.below (below_alloc (Below.refl _ _) o)
theorem Kept.drew (h : Kept w W S) : Kept w W.drew S := h
theorem Kept.drewN (h : Kept w W S) (m : Nat) : Kept w (W.drewN m) S := h
theorem Kept.setCell (h : Kept w W S) {p : Addr} (hp : S p.block ∨ w.heap.size ≤ p.block) (u : Value) : Kept w (W.setCell p u) S :=
  h.then_ (S2 := fun k => k = p.block) ⟨by simp [World.setCell], fun i _ hn => Below.heap_setCell W p u i hn⟩ (fun k hk => by rw [hk]; exact hp)
theorem blk_kept {g : Nat} {o : Obj} (hb : W.heap[g]? = some o) (hk : Kept W W2 S) (hne : ¬ S g) : W2.heap[g]? = some o := (hk.2 g (blk_lt hb) hne).trans hb
end
namespace Kd
section
variable {α : Type} {d : Kd α} {e base n c : Nat} {ok oki S S2 : Nat → Prop} {w w0 W W1 W2 : World} {v : Value} {A : Option Addr} {xs : List α} {i : Int} {cs : List Value}
end
end Kd
end Go.Proofs.YtbkbganflnemeaaW.PrintWords
end

section
namespace Go.Proofs.YtbkbganflnemeaaW.PrintWords
open Go.RowKit
def Foot (P : World → Prop) (W : World) (ok : Nat → Prop) : Prop := ∀ W' : World, (∀ k, ok k → k < W.heap.size → W'.heap[k]? = W.heap[k]?) → P W'
namespace Foot
variable {P Q : World → Prop} {W W1 : World} {ok ok' : Nat → Prop}
theorem mono (h : Foot P W ok) (hok : ∀ k, ok k → ok' k) : Foot P W ok' := fun W' hW => h W' (fun k hk hlt => hW k (hok k hk) hlt)
end Foot
namespace Kd
def F {α : Type} (d : Kd α) (W : World) (ok : Nat → Prop) (A : Option Addr) (n : Nat) (xs : List α) : Prop := Foot (fun W => d.C W A n xs) W ok
def FK {α : Type} (d : Kd α) (W : World) (ok : Nat → Prop) (x : α) (c : List Value) : Prop := Foot (fun W => d.K W x c) W ok
section
variable {α β : Type} {d : Kd α} {e base n n' cc g N : Nat} {ok ok' okp S : Nat → Prop} {w w0 w1 W W1 : World} {A A' : Option Addr} {u v v1 : Value} {xs : List α} {xs' : List β} {d' : Kd β} {x : α} {c : List Value}
end
end Kd
end Go.Proofs.YtbkbganflnemeaaW.PrintWords
end

section
namespace Go.Proofs.YtbkbganflnemeaaW.PrintWords
open Go.RowKit
namespace Kd
section
variable {α : Type} {d : Kd α} {e base n cc g : Nat} {ok ok' okp S : Nat → Prop} {w w1 W W1 : World} {A : Option Addr} {u v v1 : Value} {xs : List α} {x : α} {c : List Value}
def N {α : Type} (d : Kd α) (e : Nat) (w : World) (base : Nat) (ok : Nat → Prop) (v : Value) (xs : List α) : Prop :=
  (∀ k, v.ownBlock = some k → ok k) ∧ ∃ rows : List (List Value), rows.length = xs.length ∧ (raw d.sz).R e w base (fun k => some k = v.ownBlock) v rows ∧ ∀ (j : Nat) (x : α) (c : List Value), xs[j]? = some x → rows[j]? = some c → FK d w (fun k => ok k ∧ some k ≠ v.ownBlock) x c
end
end Kd
end Go.Proofs.YtbkbganflnemeaaW.PrintWords
end

section
namespace Go.Proofs.YtbkbganflnemeaaW.PrintMore
open Go.RowKit Go.Proofs.YtbkbganflnemeaaW.PrintWords
namespace Kd
open Go.Proofs.YtbkbganflnemeaaW.PrintWords.Kd
end Kd
namespace Kd
open Go.Proofs.YtbkbganflnemeaaW.PrintWords.Kd
section
variable {α : Type} {d : Kd α} {e base g N : Nat} {ok : Nat → Prop} {W w1 : World} {u v : Value} {xs : List α}
end
end Kd
theorem max2_int (k k' : IntKind) (x y : Int) : Builtin.max2 (.int k x) (.int k' y) = pure (.int k (if x < y then y else x)) := by simp only [Builtin.max2, gt_iff_lt]
theorem min2_int (k k' : IntKind) (x y : Int) : Builtin.min2 (.int k x) (.int k' y) = pure (.int k (if y < x then y else x)) := by simp only [Builtin.min2]
theorem max_two (ats : Array TypeId) (ty : TypeId) (a b : Value) : Builtin.max_ ats ty #[a, b] = (Builtin.max2 a b >>= fun s => pure s) := by simp only [Builtin.max_, List.foldlM_cons, List.foldlM_nil]
theorem min_two (ats : Array TypeId) (ty : TypeId) (a b : Value) : Builtin.min_ ats ty #[a, b] = (Builtin.min2 a b >>= fun s => pure s) := by simp only [Builtin.min_, List.foldlM_cons, List.foldlM_nil]
theorem max_three (ats : Array TypeId) (ty : TypeId) (a b c : Value) : Builtin.max_ ats ty #[a, b, c] = (Builtin.max2 a b >>= fun s => Builtin.max2 s c >>= fun s => pure s) := by simp only [Builtin.max_, List.foldlM_cons, List.foldlM_nil]
theorem min_three (ats : Array TypeId) (ty : TypeId) (a b c : Value) : Builtin.min_ ats ty #[a, b, c] = (Builtin.min2 a b >>= fun s => Builtin.min2 s c >>= fun s => pure s) := by simp only [Builtin.min_, List.foldlM_cons, List.foldlM_nil]
theorem max_four (ats : Array TypeId) (ty : TypeId) (a b c d : Value) : Builtin.max_ ats ty #[a, b, c, d] = (Builtin.max2 a b >>= fun s => Builtin.max2 s c >>= fun s => Builtin.max2 s d >>= fun s => pure s) := by simp only [Builtin.max_, List.foldlM_cons, List.foldlM_nil]
theorem min_four (ats : Array TypeId) (ty : TypeId) (a b c d : Value) : Builtin.min_ ats ty #[a, b, c, d] = (Builtin.min2 a b >>= fun s => Builtin.min2 s c >>= fun s => Builtin.min2 s d >>= fun s => pure s) := by simp only [Builtin.min_, List.foldlM_cons, List.foldlM_nil]
end Go.Proofs.YtbkbganflnemeaaW.PrintMore
namespace Go.Proofs.YtbkbganflnemeaaW.PrintWords
open Go.RowKit
section
variable {P : Program} {ops : Array Oper} {rest : List Oper} {o : Oper} {a : Act} {Q : Exit → Act → World → Prop} {W : World}
theorem gate_callee {f : FuncId} {as_ : Array Operand} {ts : Array TypeId} (_ho : o.op = .call { callee := .value (.func f), args := as_, argTypes := ts }) (h : wpList P ops Q (o :: rest) a W) : wpList P ops Q (o :: rest) a W := h
theorem gate_builtin {b : Builtin} {xs : Array Operand} {ts : Array TypeId} (_ho : o.op = .call { callee := .builtin b, args := xs, argTypes := ts }) (h : wpList P ops Q (o :: rest) a W) : wpList P ops Q (o :: rest) a W := h
end
def shr (k : IntKind) (x y : Int) : Int := x / 2 ^ min y.toNat k.bits
theorem shr_small {k : IntKind} {x y j : Int} (h : shr k x y = j) (hy : y ≤ k.bits) : x / 2 ^ y.toNat = j := by rw [← h]; unfold shr; rw [Nat.min_eq_left (by omega)]
theorem drewN_self (w : World) (n : Nat) : w.drewN n = w.drewN n := rfl
namespace Kd
section
variable {α : Type} {d : Kd α} {e base : Nat} {ok : Nat → Prop} {W w1 : World} {v : Value} {xs : List α}
end
section
variable {α : Type} {d : Kd α} {e base g n cap : Nat} {ok oki okp : Nat → Prop} {W : World} {xs : List α} {i : Int} {c : List Value}
end
section
variable {α : Type} {d : Kd α} {e base b b' g N : Nat} {ok ok1 : Nat → Prop} {W W2 w1 : World} {u v : Value} {xs ys : List α} {S : Nat → Prop}
end
end Kd
end Go.Proofs.YtbkbganflnemeaaW.PrintWords
namespace Go.Proofs.YtbkbganflnemeaaW.PrintWords
open Go.RowKit
namespace Kd
section
variable {α β : Type} {d : Kd α} {e base base' n m c g N' lo hi : Nat} {ok ok' S : Nat → Prop} {w W w1 : World} {A : Option Addr} {ad : Addr} {u v v1 : Value} {xs : List α}
end
end Kd
end Go.Proofs.YtbkbganflnemeaaW.PrintWords
end

section
namespace Go.Proofs.YtbkbganflnemeaaW.PrintLast
open Go.Proofs.YtbkbganflnemeaaW.PrintWords (Aside0)
def needsOf (md : Region.Mode) (o : Oper) : List Nat := (o.after.toList.filter (fun e => Region.binds md e)).map (fun e => e.on)
def clashOf (md : Region.Mode) (ops : Array Oper) (i : Nat) (oi : Oper) : List Nat := (List.range ops.size).filter fun j => !(j == i) && match ops[j]? with
  | some oj => !(oj.after.any (fun e => Region.binds md e && e.on == i) || oi.apart ops oj)
  | none => false
def rtab (md : Region.Mode) (ops : Array Oper) : Bool × List (List Nat × List Nat) := (Region.noSelect ops, (List.range ops.size).map fun i => match ops[i]? with
  | some o => (needsOf md o, clashOf md ops i o)
  | none => ([], []))
def readyAt (T : List (List Nat × List Nat)) (l : List Bool) (i : Nat) : Bool := !l.getD i true && match T[i]? with
  | some r => r.1.all (fun j => l.getD j false)
  | none => false
def readyT (T : List (List Nat × List Nat)) (l : List Bool) : List Nat := (List.range T.length).filter (readyAt T l)
def freeT (T : List (List Nat × List Nat)) (l : List Bool) (i : Nat) : Bool := match T[i]? with
  | some r => r.2.all (fun j => l.getD j true)
  | none => false
def closedT (T : List (List Nat × List Nat)) (l : List Bool) : Bool := (List.range T.length).all fun j => !l.getD j false || match T[j]? with
  | some r => r.1.all (fun k => l.getD k false)
  | none => true
def reachT (T : List (List Nat × List Nat)) (i : Nat) : Nat → Nat → Bool
  | 0, _ => false
  | fuel + 1, d => match T[d]? with
    | some r => r.1.any fun j => j == i || reachT T i fuel j
    | none => false
def lastT (T : List (List Nat × List Nat)) (l : List Bool) (ds : List Nat) (i : Nat) : Bool := ds.all fun d => l.getD d true || reachT T i T.length d
section
variable {md : Region.Mode} {ops : Array Oper} {T : Bool × List (List Nat × List Nat)} {l l' li lj lk : Array Bool} {ds : List Nat} {i j k : Nat}
theorem gd (l : Array Bool) (j : Nat) (b : Bool) : l.getD j b = l.toList.getD j b := by simp [Array.getD_eq_getD_getElem?, List.getD_eq_getElem?_getD]
theorem needs_all (o : Oper) (p : Nat → Bool) : o.after.all (fun e => !Region.binds md e || p e.on) = (needsOf md o).all p := by
  unfold needsOf
  rw [← Array.all_toList]
  induction o.after.toList with
  | nil => rfl
  | cons e r ih =>
    rw [List.all_cons, ih, List.filter_cons]
    cases h : Region.binds md e <;> simp
theorem needs_any (o : Oper) (p : Nat → Bool) : o.after.any (fun e => Region.binds md e && p e.on) = (needsOf md o).any p := by
  unfold needsOf
  rw [← Array.any_toList]
  induction o.after.toList with
  | nil => rfl
  | cons e r ih =>
    rw [List.any_cons, ih, List.filter_cons]
    cases h : Region.binds md e <;> simp
theorem rtab_length : (rtab md ops).2.length = ops.size := by simp [rtab]
theorem rtab_some {o : Oper} (h : ops[i]? = some o) : (rtab md ops).2[i]? = some (needsOf md o, clashOf md ops i o) := by
  have hi := (Array.getElem?_eq_some_iff.1 h).1
  unfold rtab
  rw [List.getElem?_map, List.getElem?_range hi, Option.map_some, h]
theorem rtab_none (h : ops[i]? = none) : (rtab md ops).2[i]? = none := by
  have hi : ops.size ≤ i := Array.getElem?_eq_none_iff.1 h
  exact List.getElem?_eq_none (by rw [rtab_length]; exact hi)
theorem readyAt_eq : readyAt (rtab md ops).2 l.toList i = (!l.getD i true && ((ops[i]?).map (·.after.all fun e => !Region.binds md e || l.getD e.on false)).getD false) := by
  unfold readyAt
  rw [gd]
  cases h : ops[i]? with
  | none => rw [rtab_none h]; rfl
  | some o =>
    rw [rtab_some h]
    simp only [Option.map_some, Option.getD_some]
    rw [← needs_all]
    simp only [gd]
theorem ready_eq : Region.ready md ops l = readyT (rtab md ops).2 l.toList := by
  unfold Region.ready readyT
  rw [rtab_length]
  refine List.filter_congr (fun i _ => ?_)
  rw [readyAt_eq]
theorem free_eq : Region.free md ops l i = freeT (rtab md ops).2 l.toList i := by
  unfold Region.free freeT
  cases h : ops[i]? with
  | none => rw [rtab_none h]
  | some oi =>
    rw [rtab_some h]
    simp only [clashOf]
    rw [List.all_filter]
    congr 1
    funext j
    rw [gd]
    cases hj : ops[j]? with
    | none => cases (j == i) <;> cases (l.toList.getD j true) <;> simp
    | some oj =>
      cases (j == i) <;> cases (l.toList.getD j true) <;> cases (oj.after.any (fun e => Region.binds md e && e.on == i) || oi.apart ops oj) <;> simp_all
theorem closed_eq : Region.closedB md ops l = closedT (rtab md ops).2 l.toList := by
  unfold Region.closedB closedT
  rw [rtab_length]
  congr 1
  funext j
  rw [gd]
  cases h : ops[j]? with
  | none => rw [rtab_none h]
  | some o =>
    rw [rtab_some h]
    simp only
    rw [← needs_all]
    simp only [gd]
theorem reach_eq : ∀ (fuel d : Nat), Region.reachB md ops i fuel d = reachT (rtab md ops).2 i fuel d
  | 0, _ => rfl
  | fuel + 1, d => by
    unfold Region.reachB reachT
    cases h : ops[d]? with
    | none => rw [rtab_none h]
    | some o =>
      rw [rtab_some h]
      simp only
      rw [← needs_any]
      congr 1
      funext e
      rw [reach_eq fuel]
theorem last_eq : Region.lastB md ops l ds i = lastT (rtab md ops).2 l.toList ds i := by
  unfold Region.lastB lastT
  rw [rtab_length]
  congr 1
  funext d
  rw [gd, reach_eq]
theorem readyAt_mem (h : readyAt T.2 l.toList i = true) (hT : rtab md ops = T) : (Region.ready md ops l).contains i = true := by
  subst hT
  rw [ready_eq]
  unfold readyT
  rw [List.contains_iff_mem, List.mem_filter, List.mem_range]
  refine ⟨?_, h⟩
  unfold readyAt at h
  rw [Bool.and_eq_true] at h
  cases hq : (rtab md ops).2[i]? with
  | none => rw [hq] at h; simp at h
  | some r => exact (List.getElem?_eq_some_iff.1 hq).1
theorem set_of (h : (l.toList.set i true == l'.toList) = true) : (l.setIfInBounds i true == l') = true := by
  rw [beq_iff_eq] at h ⊢
  apply Array.ext'
  rw [Array.toList_setIfInBounds]
  exact h
def anyT (T : Bool × List (List Nat × List Nat)) (l l' : List Bool) (i : Nat) : Bool := T.1 && freeT T.2 l i && readyAt T.2 l i && (l.set i true == l')
theorem any_of (hT : rtab md ops = T) (h : anyT T l.toList l'.toList i = true) : anyB md ops l l' i = true := by
  simp only [anyT, Bool.and_eq_true] at h
  obtain ⟨⟨⟨h1, h2⟩, h3⟩, h4⟩ := h
  have h5 := readyAt_mem h3 hT
  have h6 := set_of h4
  subst hT
  simp only [anyB, Bool.and_eq_true]
  exact ⟨⟨⟨h1, by rw [free_eq]; exact h2⟩, h5⟩, h6⟩
def takeT (T : Bool × List (List Nat × List Nat)) (ds : List Nat) (l l' : List Bool) (i : Nat) : Bool := T.1 && freeT T.2 l i && readyAt T.2 l i && closedT T.2 l && lastT T.2 l ds i && (l.set i true == l')
theorem take_of (hT : rtab md ops = T) (h : takeT T ds l.toList l'.toList i = true) : takeB md ops ds l l' i = true := by
  simp only [takeT, Bool.and_eq_true] at h
  obtain ⟨⟨⟨⟨⟨h1, h2⟩, h3⟩, h4⟩, h5⟩, h6⟩ := h
  have h7 := readyAt_mem h3 hT
  have h8 := set_of h6
  subst hT
  simp only [takeB, Bool.and_eq_true]
  exact ⟨⟨⟨⟨⟨h1, by rw [free_eq]; exact h2⟩, h7⟩, by rw [closed_eq]; exact h4⟩, by rw [last_eq]; exact h5⟩, h8⟩
theorem one_of (hT : rtab md ops = T) (h : (readyT T.2 l.toList == [i] && l.toList.set i true == l'.toList) = true) : readyB md ops l l' i = true := by
  simp only [Bool.and_eq_true] at h
  obtain ⟨h1, h2⟩ := h
  subst hT
  simp only [readyB, Bool.and_eq_true]
  exact ⟨by rw [ready_eq]; exact h1, set_of h2⟩
theorem done_of (hT : rtab md ops = T) (h : (readyT T.2 l.toList == []) = true) : (Region.ready md ops l == []) = true := by
  subst hT
  rw [ready_eq]
  exact h
def upM (B : List Nat) (d : Nat) : List Nat → Nat
  | [] => 0
  | n :: r => (2 ^ n ||| (if n < d then B.getD n 0 else 0)) ||| upM B d r
def waitsOk (T : List (List Nat × List Nat)) (B : List Nat) : Bool := (List.range T.length).all fun d => match T[d]? with
  | some r => (B.getD d 0 ||| upM B d r.1) == upM B d r.1
  | none => false
theorem upM_bit {B : List Nat} {d i : Nat} : ∀ {ns : List Nat}, (upM B d ns).testBit i = true → ∃ n ∈ ns, n = i ∨ (n < d ∧ (B.getD n 0).testBit i = true)
  | [], h => by simp [upM] at h
  | n :: r, h => by
    unfold upM at h
    rw [Nat.testBit_or, Nat.testBit_or, Bool.or_eq_true, Bool.or_eq_true] at h
    rcases h with (h | h) | h
    · rw [Nat.testBit_two_pow] at h
      exact ⟨n, List.mem_cons_self, .inl (by simpa using h)⟩
    · by_cases hn : n < d
      · rw [if_pos hn] at h
        exact ⟨n, List.mem_cons_self, .inr ⟨hn, h⟩⟩
      · rw [if_neg hn] at h
        simp at h
    · obtain ⟨m, hm, h2⟩ := upM_bit h
      exact ⟨m, List.mem_cons_of_mem _ hm, h2⟩
theorem reach_bit {T : List (List Nat × List Nat)} {B : List Nat} (hB : waitsOk T B = true) : ∀ (fuel d : Nat), d < fuel → d < T.length → (B.getD d 0).testBit i = true → reachT T i fuel d = true
  | 0, d, h, _, _ => by omega
  | fuel + 1, d, h, hd, hb => by
    have h1 := List.all_eq_true.1 hB d (List.mem_range.2 hd)
    cases hr : T[d]? with
    | none => rw [hr] at h1; simp at h1
    | some r =>
      rw [hr] at h1
      simp only [beq_iff_eq] at h1
      have h2 : (upM B d r.1).testBit i = true := by rw [← h1, Nat.testBit_or, hb, Bool.true_or]
      obtain ⟨n, hn, h3⟩ := upM_bit h2
      unfold reachT
      rw [hr]
      simp only
      rw [List.any_eq_true]
      refine ⟨n, hn, ?_⟩
      rcases h3 with rfl | ⟨h4, h5⟩
      · simp
      · rw [reach_bit hB fuel n (by omega) (by omega) h5, Bool.or_true]
def lastW (T : List (List Nat × List Nat)) (B : List Nat) (l : List Bool) (ds : List Nat) (i : Nat) : Bool := ds.all fun d => l.getD d true || (decide (d < T.length) && (B.getD d 0).testBit i)
def takeW (T : Bool × List (List Nat × List Nat)) (B : List Nat) (ds : List Nat) (l l' : List Bool) (i : Nat) : Bool := T.1 && freeT T.2 l i && readyAt T.2 l i && closedT T.2 l && lastW T.2 B l ds i && (l.set i true == l')
theorem take_ofW {B : List Nat} (hT : rtab md ops = T) (hB : waitsOk T.2 B = true) (h : takeW T B ds l.toList l'.toList i = true) : takeB md ops ds l l' i = true := by
  refine take_of hT ?_
  simp only [takeW, takeT, Bool.and_eq_true] at h ⊢
  obtain ⟨⟨⟨⟨⟨h1, h2⟩, h3⟩, h4⟩, h5⟩, h6⟩ := h
  refine ⟨⟨⟨⟨⟨h1, h2⟩, h3⟩, h4⟩, ?_⟩, h6⟩
  unfold lastW at h5
  unfold lastT
  rw [List.all_eq_true] at h5 ⊢
  intro d hd
  have h7 := h5 d hd
  rw [Bool.or_eq_true, Bool.and_eq_true, decide_eq_true_eq] at h7
  rcases h7 with h7 | ⟨h8, h9⟩
  · rw [h7, Bool.true_or]
  · rw [reach_bit hB _ d h8 h8 h9, Bool.or_true]
theorem with_tabW {P : Program} {Q : Exit → Act → World → Prop} {S : World → Prop} {n : Nat} {a : Act} {w : World} {B : List Nat} (hT : rtab md ops = T) (hB : waitsOk T.2 B = true) (h : Aside0 (rtab md ops = T) → Aside0 (waitsOk T.2 B = true) → wpAnyLast P md ops Q S ds n l a w) : wpAnyLast P md ops Q S ds n l a w := h ⟨hT⟩ ⟨hB⟩
end
def opsIn : Code → Nat → Option (Array Oper)
  | .region id ops _, k => if id == k then some ops else none
  | .seq a b, k => match opsIn a k with
    | some o => some o
    | none => opsIn b k
  | .cond _ a b, k => match opsIn a k with
    | some o => some o
    | none => opsIn b k
  | .block _ c, k => opsIn c k
  | .loop c, k => opsIn c k
  | .scope c, k => opsIn c k
  | .rangeFunc _ _ a b, k => match opsIn a k with
    | some o => some o
    | none => opsIn b k
  | _, _ => none
def opsOf (f : Func) (k : Nat) : Array Oper := ((f.body.bind fun c => opsIn c k)).getD #[]
end Go.Proofs.YtbkbganflnemeaaW.PrintLast
end

section
namespace Go.Proofs.YtbkbganflnemeaaW.PrintWords
theorem Reps.one {α : Type} {R : α → List Value → Prop} {ps : List α} {cs : List Value} {p : α} {v : Value} (hp : R p [v]) (h : Reps R 1 ps cs) : Reps R 1 (p :: ps) (v :: cs) := by
  refine ⟨by simp [h.1], fun j q hq => ?_⟩
  cases j with
  | zero =>
    simp only [List.getElem?_cons_zero, Option.some.injEq] at hq
    subst hq
    simpa using hp
  | succ j =>
    simp only [List.getElem?_cons_succ] at hq
    have h1 := h.2 j q hq
    simpa [Nat.mul_one] using h1
end Go.Proofs.YtbkbganflnemeaaW.PrintWords
end

section
namespace Go.Proofs.YtbkbganflnemeaaW.PrintWords
open Go.RowKit
section
variable {P : Program} {ops : Array Oper} {rest : List Oper} {o : Oper} {a : Act} {Q : Exit → Act → World → Prop} {W : World}
theorem gate_guard (hw : Region.wanted o (yielded ops a.tmps) = true) (h : wpList P ops Q ({ o with guard := none } :: rest) a W) : wpList P ops Q (o :: rest) a W := by
  have h1 : Region.wanted { o with guard := none } (yielded ops a.tmps) = true := rfl
  unfold wpList at h ⊢
  rw [if_pos h1] at h
  rw [if_pos hw]
  exact h
end
end Go.Proofs.YtbkbganflnemeaaW.PrintWords
end

section
namespace Go.Proofs
open Go.Shelf
open Go.RowKit in
def Try.lays169_ren : Go.Shelf.Ren := ⟨fun | 169 => 86 | n => n, fun | 70 => 113 | 9 => 9 | 0 => 0 | 72 => 115 | 37 => 68 | 127 => 146 | 3 => 3 | 5 => 5 | n => n, fun | n => n⟩
theorem Try.lays169 : Go.Proofs.Lays.n169 Try.prog Try.lays169_ren := {
  mixed := by kernel_rfl
  f169 := Try.func86.trans (congrArg some (by kernel_rfl))
  t0 := Try.underlying0
  a0 := Try.isAgg0
  z0 := Try.sizeOf0
  v0 := Try.zeroValue0
  t3 := Try.underlying3
  a3 := Try.isAgg3
  z3 := Try.sizeOf3
  v3 := Try.zeroValue3
  t9 := Try.underlying9
  a9 := Try.isAgg9
  z9 := Try.sizeOf9
  v9 := Try.zeroValue9
  t37 := Try.underlying68
  a37 := Try.isAgg68
  z37 := Try.sizeOf68
  v37 := Try.zeroValue68
  t70 := Try.underlying113
  a70 := Try.isAgg113
  z70 := Try.sizeOf113
  v70 := Try.zeroValue113
  t72 := Try.underlying115
  a72 := Try.isAgg115
  z72 := Try.sizeOf115
  v72 := Try.zeroValue115
  t127 := Try.underlying146
  a127 := Try.isAgg146
  z127 := Try.sizeOf146
  v127 := Try.zeroValue146 }
theorem Try.Builder_Extra_169 : Builder.Extra Try.prog Try.lays169_ren := {
  sizeBuilder := by kernel_rfl
  liesBuilder := by kernel_rfl
  t5 := Try.underlying5
  a5 := Try.isAgg5
  z5 := Try.sizeOf5
  v5 := Try.zeroValue5
  infoByte := by kernel_rfl
  cellsByte := by kernel_rfl
  sizeByte := by kernel_rfl
  neB5 := by decide }
open Go.RowKit in
open Go.RowKit in
open Go.RowKit in
theorem Try.Builder_String_any (B b : Nat) (l : List UInt8) (w : World) (h : Lib.IsBuilder 115 5 B b (Lib.byteCells l) w) (hBw : B ≤ w.heap.size) :
    Calls Try.prog 86 #[.pointer (some ⟨b, 0, none⟩)] w fun e w' => e = .returned (.string ⟨l.toArray⟩) ∧ Below B w w' := Any.Builder_String_any Try.lays169 Try.Builder_Extra_169 B b l w h hBw
open Go.RowKit in
open Go.RowKit in
open Go.RowKit in
open Go.RowKit in
open Go.RowKit in
open Go.RowKit in
open Go.RowKit in
open Go.RowKit in
open Go.RowKit Go.Lib in
open Go.RowKit Go.Lib in
open Go.RowKit Go.Lib in
def Try.lays105_ren : Go.Shelf.Ren := ⟨fun | 105 => 51 | 212 => 81 | 99 => 82 | 165 => 83 | 166 => 84 | 170 => 85 | 169 => 86 | 263 => 115 | 264 => 116 | 206 => 117 | 240 => 118 | 241 => 119 | 276 => 143 | 277 => 144 | n => n, fun | 9 => 9 | 3 => 3 | 4 => 4 | 20 => 20 | 0 => 0 | 46 => 77 | 109 => 111 | 5 => 5 | 72 => 115 | 76 => 119 | 51 => 140 | 146 => 141 | 53 => 143 | 148 => 144 | 70 => 113 | 37 => 68 | 75 => 118 | 127 => 146 | 164 => 176 | 80 => 54 | n => n, fun | n => n⟩
theorem Try.lays105 : Go.Proofs.Lays.n105 Try.prog Try.lays105_ren := {
  mixed := by kernel_rfl
  f99 := Try.func82.trans (congrArg some (by kernel_rfl))
  f105 := Try.func51.trans (congrArg some (by kernel_rfl))
  f165 := Try.func83.trans (congrArg some (by kernel_rfl))
  f166 := Try.func84.trans (congrArg some (by kernel_rfl))
  f169 := Try.func86.trans (congrArg some (by kernel_rfl))
  f170 := Try.func85.trans (congrArg some (by kernel_rfl))
  f206 := Try.func117.trans (congrArg some (by kernel_rfl))
  f212 := Try.func81.trans (congrArg some (by kernel_rfl))
  f240 := Try.func118.trans (congrArg some (by kernel_rfl))
  f241 := Try.func119.trans (congrArg some (by kernel_rfl))
  f263 := Try.func115.trans (congrArg some (by kernel_rfl))
  f264 := Try.func116.trans (congrArg some (by kernel_rfl))
  f276 := Try.func143.trans (congrArg some (by kernel_rfl))
  f277 := Try.func144.trans (congrArg some (by kernel_rfl))
  t0 := Try.underlying0
  a0 := Try.isAgg0
  z0 := Try.sizeOf0
  v0 := Try.zeroValue0
  t3 := Try.underlying3
  a3 := Try.isAgg3
  z3 := Try.sizeOf3
  v3 := Try.zeroValue3
  t4 := Try.underlying4
  a4 := Try.isAgg4
  z4 := Try.sizeOf4
  v4 := Try.zeroValue4
  t5 := Try.underlying5
  a5 := Try.isAgg5
  z5 := Try.sizeOf5
  v5 := Try.zeroValue5
  t9 := Try.underlying9
  a9 := Try.isAgg9
  z9 := Try.sizeOf9
  v9 := Try.zeroValue9
  t20 := Try.underlying20
  a20 := Try.isAgg20
  z20 := Try.sizeOf20
  v20 := Try.zeroValue20
  t37 := Try.underlying68
  a37 := Try.isAgg68
  z37 := Try.sizeOf68
  v37 := Try.zeroValue68
  t46 := Try.underlying77
  a46 := Try.isAgg77
  z46 := Try.sizeOf77
  v46 := Try.zeroValue77
  t51 := Try.underlying140
  a51 := Try.isAgg140
  z51 := Try.sizeOf140
  v51 := Try.zeroValue140
  t53 := Try.underlying143
  a53 := Try.isAgg143
  z53 := Try.sizeOf143
  v53 := Try.zeroValue143
  t70 := Try.underlying113
  a70 := Try.isAgg113
  z70 := Try.sizeOf113
  v70 := Try.zeroValue113
  t72 := Try.underlying115
  a72 := Try.isAgg115
  z72 := Try.sizeOf115
  v72 := Try.zeroValue115
  t75 := Try.underlying118
  a75 := Try.isAgg118
  z75 := Try.sizeOf118
  v75 := Try.zeroValue118
  t76 := Try.underlying119
  a76 := Try.isAgg119
  z76 := Try.sizeOf119
  v76 := Try.zeroValue119
  t109 := Try.underlying111
  a109 := Try.isAgg111
  z109 := Try.sizeOf111
  v109 := Try.zeroValue111
  t127 := Try.underlying146
  a127 := Try.isAgg146
  z127 := Try.sizeOf146
  v127 := Try.zeroValue146
  t146 := Try.underlying141
  a146 := Try.isAgg141
  z146 := Try.sizeOf141
  v146 := Try.zeroValue141
  t148 := Try.underlying144
  a148 := Try.isAgg144
  z148 := Try.sizeOf144
  v148 := Try.zeroValue144
  t164 := Try.underlying176
  a164 := Try.isAgg176
  z164 := Try.sizeOf176
  v164 := Try.zeroValue176 }
theorem Try.Builder_Extra_105 : Builder.Extra Try.prog Try.lays105_ren := {
  sizeBuilder := by kernel_rfl
  liesBuilder := by kernel_rfl
  t5 := Try.underlying5
  a5 := Try.isAgg5
  z5 := Try.sizeOf5
  v5 := Try.zeroValue5
  infoByte := by kernel_rfl
  cellsByte := by kernel_rfl
  sizeByte := by kernel_rfl
  neB5 := by decide }
open Go.RowKit Go.Lib in
open Go.RowKit Go.Lib in
open Go.RowKit Go.Lib in
open Go.RowKit Go.Lib in
open Go.RowKit Go.Lib in
theorem Try.strings_Repeat (s : ByteArray) (c : Nat) (w : World) (hc : c ≤ 9223372036854775807) (hlen : s.size * c ≤ 140737488355328) :
    Calls Try.prog 51 #[.string s, .int .i64 c] w fun e w' => e = .returned (.string ⟨(Lib.repeatL s.data.toList c).toArray⟩) ∧ Below w.heap.size w w' := Any.strings_Repeat Try.lays105 Try.Builder_Extra_105 s c w hc hlen
theorem Try.lays240 : Go.Proofs.Lays.n240 Try.prog Try.lays105_ren := {
  mixed := Try.lays105.mixed
  f240 := Try.lays105.f240
  f276 := Try.lays105.f276
  t0 := Try.lays105.t0
  a0 := Try.lays105.a0
  z0 := Try.lays105.z0
  v0 := Try.lays105.v0
  t4 := Try.lays105.t4
  a4 := Try.lays105.a4
  z4 := Try.lays105.z4
  v4 := Try.lays105.v4
  t9 := Try.lays105.t9
  a9 := Try.lays105.a9
  z9 := Try.lays105.z9
  v9 := Try.lays105.v9
  t20 := Try.lays105.t20
  a20 := Try.lays105.a20
  z20 := Try.lays105.z20
  v20 := Try.lays105.v20
  t70 := Try.lays105.t70
  a70 := Try.lays105.a70
  z70 := Try.lays105.z70
  v70 := Try.lays105.v70
  t72 := Try.lays105.t72
  a72 := Try.lays105.a72
  z72 := Try.lays105.z72
  v72 := Try.lays105.v72
  t164 := Try.lays105.t164
  a164 := Try.lays105.a164
  z164 := Try.lays105.z164
  v164 := Try.lays105.v164 }
theorem Try.lays166 : Go.Proofs.Lays.n166 Try.prog Try.lays105_ren := {
  mixed := Try.lays105.mixed
  f166 := Try.lays105.f166
  f240 := Try.lays105.f240
  f276 := Try.lays105.f276
  t0 := Try.lays105.t0
  a0 := Try.lays105.a0
  z0 := Try.lays105.z0
  v0 := Try.lays105.v0
  t3 := Try.lays105.t3
  a3 := Try.lays105.a3
  z3 := Try.lays105.z3
  v3 := Try.lays105.v3
  t4 := Try.lays105.t4
  a4 := Try.lays105.a4
  z4 := Try.lays105.z4
  v4 := Try.lays105.v4
  t9 := Try.lays105.t9
  a9 := Try.lays105.a9
  z9 := Try.lays105.z9
  v9 := Try.lays105.v9
  t20 := Try.lays105.t20
  a20 := Try.lays105.a20
  z20 := Try.lays105.z20
  v20 := Try.lays105.v20
  t37 := Try.lays105.t37
  a37 := Try.lays105.a37
  z37 := Try.lays105.z37
  v37 := Try.lays105.v37
  t70 := Try.lays105.t70
  a70 := Try.lays105.a70
  z70 := Try.lays105.z70
  v70 := Try.lays105.v70
  t72 := Try.lays105.t72
  a72 := Try.lays105.a72
  z72 := Try.lays105.z72
  v72 := Try.lays105.v72
  t75 := Try.lays105.t75
  a75 := Try.lays105.a75
  z75 := Try.lays105.z75
  v75 := Try.lays105.v75
  t164 := Try.lays105.t164
  a164 := Try.lays105.a164
  z164 := Try.lays105.z164
  v164 := Try.lays105.v164 }
theorem Try.Builder_X72_240 : Builder.X72 Try.prog Try.lays105_ren := {
  sizeBuilder := by kernel_rfl
  liesBuilder := by kernel_rfl }
theorem Try.Builder_Extra_166 : Builder.Extra Try.prog Try.lays105_ren := {
  sizeBuilder := by kernel_rfl
  liesBuilder := by kernel_rfl
  t5 := Try.underlying5
  a5 := Try.isAgg5
  z5 := Try.sizeOf5
  v5 := Try.zeroValue5
  infoByte := by kernel_rfl
  cellsByte := by kernel_rfl
  sizeByte := by kernel_rfl
  neB5 := by decide }
open Go.RowKit Go.Lib in
theorem Try.Builder_WriteString (B b : Nat) (bs : List Value) (s : ByteArray) (w : World) (h : Lib.IsBuilder 115 5 B b bs w) (hlen : bs.length + s.size ≤ 140737488355328) (hBw : B ≤ w.heap.size) :
    Calls Try.prog 84 #[.pointer (some ⟨b, 0, none⟩), .string s] w fun e w' => e = .returned (.tuple #[.int .i64 s.size, .nilIface]) ∧ (Lib.BuilderAt 115 5 B b (.pointer (some ⟨b, 0, none⟩)) (bs ++ Lib.strCells s) w' ∧ Below B w w') := Any.Builder_WriteString Try.lays166 Try.Builder_Extra_166 B b bs s w h hlen hBw
end Go.Proofs
end

section
namespace Go.Proofs.Ytbkbganflnemeaa.Pr
open Go.RowKit Go.Proofs.YtbkbganflnemeaaW.PrintWords Go.Proofs.YtbkbganflnemeaaW.PrintLast
set_option linter.unusedVariables false
set_option linter.unusedSimpArgs false
def bys (s : ByteArray) : List Nat := s.data.toList.map UInt8.toNat
def txt (l : List Nat) : ByteArray := ⟨(l.map fun n => UInt8.ofNat n).toArray⟩
theorem bys_length (s : ByteArray) : (bys s).length = s.size := by rw [bys, List.length_map, data_length]
theorem txt_size (l : List Nat) : (txt l).size = l.length := by simp [txt, ByteArray.size]
theorem bys_txt {l : List Nat} (h : ∀ n ∈ l, n < 256) : bys (txt l) = l := by
  unfold bys txt
  rw [List.toList_toArray, List.map_map]
  conv => rhs; rw [← List.map_id l]
  exact List.map_congr_left fun n hn => by simpa using h n hn
theorem str_nats (l : List Nat) : strOfNums (l.map fun (n : Nat) => (n : Int)) = txt l := by
  unfold strOfNums txt
  rw [List.map_map]
  rfl
theorem bys_extract (s : ByteArray) (i j : Nat) : bys (s.extract i j) = ((bys s).drop i).take (j - i) := by
  unfold bys
  rw [ByteArray.data_extract, Array.toList_extract, List.extract_eq_take_drop, List.map_take, List.map_drop]
theorem txt_append (a b : List Nat) : txt (a ++ b) = txt a ++ txt b := by
  apply ByteArray.ext
  simp [txt, ByteArray.data_append]
theorem bys_append (a b : ByteArray) : bys (a ++ b) = bys a ++ bys b := by
  simp [bys, ByteArray.data_append]
theorem txt_toList (l : List Nat) : (txt l).toList = l.map fun n => UInt8.ofNat n := by rw [ByteArray.toList_eq]; rfl
theorem txt_extract (l : List Nat) (i j : Nat) : (txt l).extract i j = txt ((l.drop i).take (j - i)) := by
  unfold txt
  apply ByteArray.ext
  simp [ByteArray.data_extract, List.map_take, List.map_drop]
theorem bys_lt' (s : ByteArray) : ∀ x ∈ bys s, x < 256 := by
  intro x hx
  unfold bys at hx
  rw [List.mem_map] at hx
  obtain ⟨c, _, rfl⟩ := hx
  exact c.toNat_lt
theorem bys_inj {x y : ByteArray} (h : bys x = bys y) : x = y := by
  apply ByteArray.ext
  apply Array.ext'
  exact (List.map_inj_right (fun a b h => UInt8.toNat_inj.1 h)).1 h
theorem txt_bys (s : ByteArray) : txt (bys s) = s := bys_inj (bys_txt (bys_lt' s))
end Go.Proofs.Ytbkbganflnemeaa.Pr
end

section
namespace Go.Proofs.Ytbkbganflnemeaa.Pr
open Go.RowKit Go.Proofs.YtbkbganflnemeaaW.PrintWords Go.Proofs.YtbkbganflnemeaaW.PrintLast Go.Proofs.YtbkbganflnemeaaW.PrintMore
attribute [local go_sem] max2_int min2_int max_two min_two max_three min_three max_four min_four   -- for this text's walks alone
set_option linter.unusedVariables false
set_option linter.unusedSimpArgs false
def errW : Option Int → Value
  | none => .nilIface
  | some c => .iface 0 (.int .i64 c)
theorem errW_none : errW none = .nilIface := rfl
theorem errW_some (c : Int) : errW (some c) = .iface 0 (.int .i64 c) := rfl
theorem info3 : (Try.prog.info? 3).map (fun i => (i.zero, i.size, i.bytes)) = some (some (.int .i64 0), 1, 8) := by kernel_rfl
theorem info5 : (Try.prog.info? 5).map (fun i => (i.zero, i.size, i.bytes)) = some (some (.int .u8 0), 1, 1) := by kernel_rfl
theorem info9 : (Try.prog.info? 9).map (fun i => (i.zero, i.size, i.bytes)) = some (some (.string ⟨#[]⟩), 1, 16) := by kernel_rfl
end Go.Proofs.Ytbkbganflnemeaa.Pr
end

section
namespace Go.Proofs.Ytbkbganflnemeaa.Pr
open Go.RowKit Go.Proofs.YtbkbganflnemeaaW.PrintWords Go.Proofs.YtbkbganflnemeaaW.PrintLast Go.Proofs.YtbkbganflnemeaaW.PrintMore
attribute [local go_sem] max2_int min2_int max_two min_two max_three min_three max_four min_four   -- for this text's walks alone
set_option linter.unusedVariables false
set_option linter.unusedSimpArgs false
def code_time.f (a0 : Int) : Option (Bool) := if a0 ≥ 0 then (some (decide (a0 ≤ 1099511627775))) else (some false)
set_option maxHeartbeats 8000000 in
set_option maxRecDepth 100000 in
theorem code_time.calls (a0 : Int) (r : Bool) (w : World) (h : code_time.f a0 = some r) :
    Calls Try.prog 121 #[.int .i64 a0] w fun e w' => e = .returned (.bool r) ∧ Drawn0 w w' := by
  have H : (if a0 ≥ 0 then (some (decide (a0 ≤ 1099511627775))) else (some false)) = some r := h
  clear h
  by_cases c2 : a0 ≥ 0
  · rw [if_pos c2] at H
    have c2b0 : decide (0 ≤ a0) = true := decide_eq_true c2
    clear c2
    obtain rfl := Option.some.inj H
    go_enter Try.func121, Try.ntmps121
    go_wp2
    go_ret
    exact ⟨by first | rfl | (simp; done) | (simp [*]; done), by repeat (first | exact Drawn0.refl _ | apply Drawn0.step)⟩
  · rw [if_neg c2] at H
    have c2b0 : decide (0 ≤ a0) = false := decide_eq_false c2
    clear c2
    obtain rfl := Option.some.inj H
    go_enter Try.func121, Try.ntmps121
    go_wp2
    go_ret
    exact ⟨by first | rfl | (simp; done) | (simp [*]; done), by repeat (first | exact Drawn0.refl _ | apply Drawn0.step)⟩
end Go.Proofs.Ytbkbganflnemeaa.Pr
end

section
namespace Go.Proofs.Ytbkbganflnemeaa.Pr
open Go.RowKit Go.Deep Go.Proofs.YtbkbganflnemeaaW.PrintWords Go.Proofs.YtbkbganflnemeaaW.PrintLast Go.Proofs.YtbkbganflnemeaaW.PrintMore
set_option maxHeartbeats 1000000
set_option linter.unusedVariables false
set_option linter.unusedSimpArgs false
def cellsN (l : List Nat) : List Value := l.map fun (n : Nat) => Value.int .u8 (n : Int)
theorem cellsN_length (l : List Nat) : (cellsN l).length = l.length := by simp [cellsN]
theorem cellsN_append (a b : List Nat) : cellsN (a ++ b) = cellsN a ++ cellsN b := by simp [cellsN]
theorem cellsN_one (l : List Nat) : ∀ u ∈ cellsN l, u.oneCell' = true := by
  intro u hu
  unfold cellsN at hu
  rw [List.mem_map] at hu
  obtain ⟨n, _, rfl⟩ := hu
  rfl
def FrO (w w' : World) : Prop := w.heap.size ≤ w'.heap.size ∧ ∀ (k : Nat) (o : Obj), w.heap[k]? = some o → (∀ cs t z, o = Obj.cells cs t z → t ≠ 148 ∧ t ≠ 5) → w'.heap[k]? = some o
section
variable {w w' w1 w2 : World} {g : Nat} {cs : Array Value} {t : TypeId} {z : Nat × Nat} {B : Nat} {mk bad : Bool} {L : List Nat}
theorem FrO.refl (w : World) : FrO w w := ⟨Nat.le_refl _, fun _ _ h _ => h⟩
theorem FrO.trans (h : FrO w w1) (k : FrO w1 w2) : FrO w w2 := ⟨Nat.le_trans h.1 k.1, fun i o hi ho => k.2 i o (h.2 i o hi ho) ho⟩
theorem FrO.of_below (h : Below w.heap.size w w') : FrO w w' := ⟨h.size, fun k o hk _ => (h.block k (by
  rcases Nat.lt_or_ge k w.heap.size with h1 | h1
  · exact h1
  · rw [Array.getElem?_eq_none h1] at hk; cases hk)).trans hk⟩
theorem FrO.blk (h : FrO w w') (hb : w.heap[g]? = some (.cells cs t z)) (h1 : t ≠ 148) (h2 : t ≠ 5) : w'.heap[g]? = some (.cells cs t z) :=
  h.2 g _ hb (fun _ _ _ e => by injection e with _ e _; rw [← e]; exact ⟨h1, h2⟩)
theorem FrO.put (h : FrO w w1) (hb : w1.heap[g]? = some (.cells cs t z)) (ht : t = 148 ∨ t = 5) (j : Nat) (u : Value) : FrO w (w1.setCell ⟨g, j, none⟩ u) := by
  refine h.trans ⟨by simp [World.setCell], fun k o hk ho => ?_⟩
  by_cases e : k = g
  · subst e
    rw [hb] at hk
    injection hk with hk
    have := ho _ _ _ hk.symm
    rcases ht with ht | ht
    · exact absurd ht this.1
    · exact absurd ht this.2
  · exact (Below.heap_setCell w1 ⟨g, j, none⟩ u k e).trans hk
theorem FrO.new (h : FrO w w1) (hg : w.heap.size ≤ g) (j : Nat) (u : Value) : FrO w (w1.setCell ⟨g, j, none⟩ u) := by
  refine ⟨by simpa [World.setCell] using h.1, fun k o hk ho => ?_⟩
  have hlt : k < w.heap.size := by
    rcases Nat.lt_or_ge k w.heap.size with h1 | h1
    · exact h1
    · rw [Array.getElem?_eq_none h1] at hk; cases hk
  exact (Below.heap_setCell w1 ⟨g, j, none⟩ u k (by show k ≠ g; omega)).trans (h.2 k o hk ho)
theorem FrO.alloc (h : FrO w w1) (o : Obj) : FrO w (w1.alloc o) := h.trans (FrO.of_below (below_alloc (Below.refl _ _) o))
theorem FrO.drewN (h : FrO w w1) (n : Nat) : FrO w (w1.drewN n) := h
theorem FrO.grown {row : Option Nat} (h : FrO w w1) (hg : w1.grownBy w2 row) (hr : ∀ k, row = some k → ∃ cs z, w1.heap[k]? = some (.cells cs 5 z)) : FrO w w2 := by
  refine h.trans ⟨hg.size, fun k o hk ho => ?_⟩
  by_cases e : row = some k
  · obtain ⟨cs, z, hc⟩ := hr k e
    rw [hc] at hk
    injection hk with hk
    exact absurd rfl (ho _ _ _ hk.symm).2
  · have hlt : k < w1.heap.size := by
      rcases Nat.lt_or_ge k w1.heap.size with h1 | h1
      · exact h1
      · rw [Array.getElem?_eq_none h1] at hk; cases hk
    exact (hg.block k hlt (fun h => e h.symm)).trans hk
def OutAt (B g : Nat) (mk bad : Bool) (L : List Nat) (w : World) : Prop :=
  B ≤ g ∧ ∃ v, w.heap[g]? = some (.cells #[.bool mk, .bool bad, v] 148 (0, 0)) ∧ w.ownsRow B 5 1 v L.length (cellsN L)
theorem own_u8 {v : Value} {n : Nat} {xs : List Value} (h : w.ownsRow B 5 1 v n xs) : ∀ k, v.ownBlock = some k → ∃ cs z, w.heap[k]? = some (.cells cs 5 z) := by
  intro k hk
  rcases h.2 with ⟨rfl, _⟩ | ⟨g', cap, cur, rfl, _, hh, _⟩
  · simp [Value.ownBlock] at hk
  · have : g' = k := by simpa [Value.ownBlock] using hk
    subst this
    exact ⟨_, _, hh⟩
theorem own_ne {v : Value} {n : Nat} {xs : List Value} (h : w.ownsRow B 5 1 v n xs) (hb : w.heap[g]? = some (.cells cs t z)) (ht : t ≠ 5) : v.ownBlock ≠ some g := by
  intro e
  obtain ⟨cs', z', hc⟩ := own_u8 h g e
  rw [hb] at hc
  injection hc with hc
  injection hc with _ hc _
  exact ht hc
theorem OutAt.below (h : OutAt B g mk bad L w) (hb : Below w.heap.size w w1) : OutAt B g mk bad L w1 := by
  obtain ⟨h0, v, h1, h2⟩ := h
  exact ⟨h0, v, blk_below h1 hb, pw_own_below h2 hb⟩
theorem OutAt.alloc (h : OutAt B g mk bad L w) (o : Obj) : OutAt B g mk bad L (w.alloc o) := h.below (below_alloc (Below.refl _ _) o)
theorem OutAt.drewN (h : OutAt B g mk bad L w) (n : Nat) : OutAt B g mk bad L (w.drewN n) := h.below (pw_below_drewN (Below.refl _ _) n)
theorem own_far {v : Value} {n : Nat} {xs : List Value} (h : w.ownsRow B 5 1 v n xs) {p : Nat} (hp : v.ownBlock ≠ some p) (j : Nat) (u : Value) : (w.setCell ⟨p, j, none⟩ u).ownsRow B 5 1 v n xs := by
  refine ⟨h.1, ?_⟩
  rcases h.2 with ⟨rfl, h2⟩ | ⟨g', cap, cur, rfl, hb, hh, hc, hr⟩
  · exact .inl ⟨rfl, h2⟩
  · have hne : g' ≠ p := fun e => hp (by simp [Value.ownBlock, e])
    exact .inr ⟨g', cap, cur, rfl, hb, (Below.heap_setCell w ⟨p, j, none⟩ u g' hne).trans hh, hc, hr⟩
theorem OutAt.far (h : OutAt B g mk bad L w) {p : Nat} (hp : w.heap[p]? = some (.cells cs t z)) (h1 : t ≠ 148) (h2 : t ≠ 5) (j : Nat) (u : Value) : OutAt B g mk bad L (w.setCell ⟨p, j, none⟩ u) := by
  obtain ⟨h0, v, hb, ho⟩ := h
  have hne : g ≠ p := by
    rintro rfl
    rw [hb] at hp
    injection hp with hp
    injection hp with _ hp _
    exact h1 hp.symm
  exact ⟨h0, v, (Below.heap_setCell w ⟨p, j, none⟩ u g hne).trans hb, own_far ho (own_ne ho hp h2) j u⟩
theorem blk_thaw {fr : World} (h : fr.heap[g]? = some (.cells cs t (0, 0))) (i : Nat) : fr.frozen? ⟨g, i, none⟩ = false := by simp [World.frozen?, h]
theorem OutAt.flag (h : OutAt B g mk bad L w) (b : Bool) : OutAt B g mk b L (w.setCell ⟨g, 1, none⟩ (.bool b)) := by
  obtain ⟨h0, v, hb, ho⟩ := h
  exact ⟨h0, v, blk_put hb 1 _ rfl, own_far ho (own_ne ho hb (by decide)) 1 _⟩
theorem OutAt.fro (h : OutAt B g mk bad L w1) (hF : FrO w w1) (j : Nat) (u : Value) : FrO w (w1.setCell ⟨g, j, none⟩ u) := by
  obtain ⟨h0, v, hb, ho⟩ := h
  exact hF.put hb (.inl rfl) j u
theorem OutAt.appended {v v5 : Value} {n n5 : Nat} {M : List Nat} {w5 : World} (hB : B ≤ g) (hb : w.heap[g]? = some (.cells #[.bool mk, .bool bad, v] 148 (0, 0))) (hown : w.ownsRow B 5 1 v n (cellsN L)) (hg : w.grownBy w5 v.ownBlock)
    (hown5 : w5.ownsRow B 5 1 v5 n5 (cellsN L ++ cellsN M)) (hn : n5 = L.length + M.length) : OutAt B g mk bad (L ++ M) (w5.setCell ⟨g, 2, none⟩ v5) := by
  subst hn
  have hb5 : w5.heap[g]? = some (.cells #[.bool mk, .bool bad, v] 148 (0, 0)) := (hg.block g (blk_lt hb) (fun e => own_ne hown hb (by decide) e.symm)).trans hb
  refine ⟨hB, v5, blk_put hb5 2 _ rfl, ?_⟩
  rw [List.length_append, cellsN_append]
  exact own_far hown5 (own_ne hown5 hb5 (by decide)) 2 _
theorem FrO.appended {w0 w5 : World} {v v5 : Value} {n : Nat} {xs : List Value} (hF : FrO w0 w) (hb : w.heap[g]? = some (.cells #[.bool mk, .bool bad, v] 148 (0, 0))) (hown : w.ownsRow B 5 1 v n xs) (hg : w.grownBy w5 v.ownBlock) : FrO w0 (w5.setCell ⟨g, 2, none⟩ v5) := by
  have hb5 : w5.heap[g]? = some (.cells #[.bool mk, .bool bad, v] 148 (0, 0)) := (hg.block g (blk_lt hb) (fun e => own_ne hown hb (by decide) e.symm)).trans hb
  exact (hF.grown hg (own_u8 hown)).put hb5 (.inl rfl) 2 _
theorem below_appended {w0 w5 : World} {v v5 : Value} {n : Nat} {xs : List Value} (hW : Below B w0 w) (hB : B ≤ g) (hBw : B ≤ w.heap.size) (hown : w.ownsRow B 5 1 v n xs) (hg : w.grownBy w5 v.ownBlock) : Below B w0 (w5.setCell ⟨g, 2, none⟩ v5) :=
  (hW.grown hg hBw (fun k hk => own_base hown k hk)).setCell (p := ⟨g, 2, none⟩) hB _
end
def roomL (p : Int) (k : Nat) : List Nat := (List.range 8).map fun i => if i < k then (p / 2 ^ (8 * (7 - i)) % 256).toNat else 0
def byN (p : Int) (m : Nat) : List Nat := (roomL p 8).drop (8 - m)
theorem roomL_length (p : Int) (k : Nat) : (roomL p k).length = 8 := by simp [roomL]
theorem byN_length (p : Int) (m : Nat) (h : m ≤ 8) : (byN p m).length = m := by rw [byN, List.length_drop, roomL_length]; omega
theorem roomL_succ (p : Int) (k : Nat) (hk : k < 8) : (roomL p k).set k (p / 2 ^ (8 * (7 - k)) % 256).toNat = roomL p (k + 1) := by
  apply List.ext_getElem?
  intro i
  rw [List.getElem?_set]
  unfold roomL
  rw [List.length_map, List.length_range]
  by_cases e : k = i
  · subst e
    rw [if_pos rfl, if_pos hk, List.getElem?_map, List.getElem?_range hk]
    simp
  · rw [if_neg e, List.getElem?_map, List.getElem?_map]
    by_cases hi : i < 8
    · rw [List.getElem?_range hi]
      by_cases h2 : i < k
      · simp [h2, show i < k + 1 by omega]
      · simp [h2, show ¬ i < k + 1 by omega]
    · rw [List.getElem?_eq_none (by simpa using hi)]
      rfl
section
open Go.RowKit Go.Deep Go.Proofs.YtbkbganflnemeaaW.PrintWords Go.Proofs.YtbkbganflnemeaaW.PrintLast Go.Proofs.YtbkbganflnemeaaW.PrintMore
set_option maxHeartbeats 1000000
set_option linter.unusedVariables false
set_option linter.unusedSimpArgs false
attribute [local go_sem ↓] Go.wp_at_zero Go.wp_at_succ
def pairsV (ps : List (Int × Nat)) : List Value := ps.flatMap fun p => [.int .i64 p.1, .int .i64 (p.2 : Int)]
def sumN (ps : List (Int × Nat)) : Nat := (ps.map (·.2)).foldl (· + ·) 0
def byAll (ps : List (Int × Nat)) : List Nat := ps.flatMap fun p => byN p.1 p.2
theorem foldl_add (l : List Nat) (a : Nat) : l.foldl (· + ·) a = a + l.foldl (· + ·) 0 := by
  induction l generalizing a with
  | nil => simp
  | cons x l ih => rw [List.foldl_cons, ih, List.foldl_cons, ih (0 + x)]; omega
theorem sumN_cons (p : Int × Nat) (ps : List (Int × Nat)) : sumN (p :: ps) = p.2 + sumN ps := by
  unfold sumN
  rw [List.map_cons, List.foldl_cons, foldl_add]
  omega
theorem sumN_append (a b : List (Int × Nat)) : sumN (a ++ b) = sumN a + sumN b := by
  unfold sumN
  rw [List.map_append, List.foldl_append, foldl_add]
theorem sum_le {n m : Nat} {ps : List (Int × Nat)} (h : n + m + sumN ps ≤ 65536) (k : Nat) : m + sumN (ps.take k) ≤ 65536 := by
  have := sumN_append (ps.take k) (ps.drop k)
  rw [List.take_append_drop] at this
  omega
theorem sum_le3 {n m : Nat} {ps : List (Int × Nat)} (h : n + m + sumN ps ≤ 65536) (k : Nat) : n + m + sumN (ps.take k) ≤ 65536 := by
  have := sumN_append (ps.take k) (ps.drop k)
  rw [List.take_append_drop] at this
  omega
theorem slice_room1 (gr : Nat) (W : World) : (Instr.sliceAt 180 (.pointer (some ⟨gr, 0, none⟩)) (some (.int .i64 (IntKind.i64.wrap (8 - (((1 : Nat) : Int) : Int))))) (some (.int .i64 8)) (some (.int .i64 8))).run Try.prog W = .ok (.slice (some ⟨gr, 8 - 1, none⟩) 1 1) W := by kernel_rfl
theorem slice_room2 (gr : Nat) (W : World) : (Instr.sliceAt 180 (.pointer (some ⟨gr, 0, none⟩)) (some (.int .i64 (IntKind.i64.wrap (8 - (((2 : Nat) : Int) : Int))))) (some (.int .i64 8)) (some (.int .i64 8))).run Try.prog W = .ok (.slice (some ⟨gr, 8 - 2, none⟩) 2 2) W := by kernel_rfl
theorem slice_room3 (gr : Nat) (W : World) : (Instr.sliceAt 180 (.pointer (some ⟨gr, 0, none⟩)) (some (.int .i64 (IntKind.i64.wrap (8 - (((3 : Nat) : Int) : Int))))) (some (.int .i64 8)) (some (.int .i64 8))).run Try.prog W = .ok (.slice (some ⟨gr, 8 - 3, none⟩) 3 3) W := by kernel_rfl
theorem slice_room4 (gr : Nat) (W : World) : (Instr.sliceAt 180 (.pointer (some ⟨gr, 0, none⟩)) (some (.int .i64 (IntKind.i64.wrap (8 - (((4 : Nat) : Int) : Int))))) (some (.int .i64 8)) (some (.int .i64 8))).run Try.prog W = .ok (.slice (some ⟨gr, 8 - 4, none⟩) 4 4) W := by kernel_rfl
theorem slice_room5 (gr : Nat) (W : World) : (Instr.sliceAt 180 (.pointer (some ⟨gr, 0, none⟩)) (some (.int .i64 (IntKind.i64.wrap (8 - (((5 : Nat) : Int) : Int))))) (some (.int .i64 8)) (some (.int .i64 8))).run Try.prog W = .ok (.slice (some ⟨gr, 8 - 5, none⟩) 5 5) W := by kernel_rfl
theorem slice_room6 (gr : Nat) (W : World) : (Instr.sliceAt 180 (.pointer (some ⟨gr, 0, none⟩)) (some (.int .i64 (IntKind.i64.wrap (8 - (((6 : Nat) : Int) : Int))))) (some (.int .i64 8)) (some (.int .i64 8))).run Try.prog W = .ok (.slice (some ⟨gr, 8 - 6, none⟩) 6 6) W := by kernel_rfl
theorem slice_room7 (gr : Nat) (W : World) : (Instr.sliceAt 180 (.pointer (some ⟨gr, 0, none⟩)) (some (.int .i64 (IntKind.i64.wrap (8 - (((7 : Nat) : Int) : Int))))) (some (.int .i64 8)) (some (.int .i64 8))).run Try.prog W = .ok (.slice (some ⟨gr, 8 - 7, none⟩) 7 7) W := by kernel_rfl
theorem slice_room8 (gr : Nat) (W : World) : (Instr.sliceAt 180 (.pointer (some ⟨gr, 0, none⟩)) (some (.int .i64 (IntKind.i64.wrap (8 - (((8 : Nat) : Int) : Int))))) (some (.int .i64 8)) (some (.int .i64 8))).run Try.prog W = .ok (.slice (some ⟨gr, 8 - 8, none⟩) 8 8) W := by kernel_rfl
theorem slice_room (gr m : Nat) (h1 : 1 ≤ m) (h2 : m ≤ 8) (W : World) : (Instr.sliceAt 180 (.pointer (some ⟨gr, 0, none⟩)) (some (.int .i64 (IntKind.i64.wrap (8 - (m : Int))))) (some (.int .i64 8)) (some (.int .i64 8))).run Try.prog W = .ok (.slice (some ⟨gr, 8 - m, none⟩) m m) W := by
  have h : m = 1 ∨ m = 2 ∨ m = 3 ∨ m = 4 ∨ m = 5 ∨ m = 6 ∨ m = 7 ∨ m = 8 := by omega
  rcases h with rfl | rfl | rfl | rfl | rfl | rfl | rfl | rfl
  · exact slice_room1 gr W
  · exact slice_room2 gr W
  · exact slice_room3 gr W
  · exact slice_room4 gr W
  · exact slice_room5 gr W
  · exact slice_room6 gr W
  · exact slice_room7 gr W
  · exact slice_room8 gr W
theorem sum_next {ps : List (Int × Nat)} {k : Nat} {p : Int × Nat} (h : ps[k]? = some p) : sumN (ps.take (k + 1)) = sumN (ps.take k) + p.2 := by
  obtain ⟨hk, rfl⟩ := List.getElem?_eq_some_iff.1 h
  rw [List.take_succ_eq_append_getElem hk, sumN_append, sumN_cons]
  rfl
theorem pairsV_get : ∀ (ps : List (Int × Nat)) (k : Nat) (p : Int × Nat), ps[k]? = some p → ∀ j, (pairsV ps)[k * 2 + j]? = if j < 2 then [Value.int .i64 p.1, Value.int .i64 (p.2 : Int)][j]? else (pairsV ps)[k * 2 + j]?
  | [], k, p, h => by simp at h
  | q :: ps, 0, p, h => by
    intro j
    simp only [List.getElem?_cons_zero, Option.some.injEq] at h
    subst h
    match j with
    | 0 => rfl
    | 1 => rfl
    | j + 2 => rw [if_neg (by omega)]
  | q :: ps, k + 1, p, h => by
    intro j
    have h' : ps[k]? = some p := by simpa using h
    have := pairsV_get ps k p h' j
    have e : pairsV (q :: ps) = Value.int .i64 q.1 :: Value.int .i64 (q.2 : Int) :: pairsV ps := rfl
    rw [e, show (k + 1) * 2 + j = (k * 2 + j) + 1 + 1 by omega, List.getElem?_cons_succ, List.getElem?_cons_succ]
    exact this
theorem pair_cell {w wr : World} {gp t : Nat} {ps : List (Int × Nat)} {z : Nat × Nat} (hb : Below w.heap.size w wr) (hgp : w.heap[gp]? = some (.cells (pairsV ps).toArray t z)) {k : Nat} {p : Int × Nat} (hp : ps[k]? = some p) (j : Nat) (hj : j < 2) :
    wr.cell? ⟨gp, k * 2 + j, none⟩ = [Value.int .i64 p.1, Value.int .i64 (p.2 : Int)][j]? := by
  rw [cell_of_row wr gp _ _ _ _ (blk_below hgp hb), List.getElem?_toArray, pairsV_get ps k p hp j, if_pos hj]
theorem cellsN_set (l : List Nat) (i n : Nat) : cellsN (l.set i n) = (cellsN l).set i (.int .u8 (n : Int)) := by simp [cellsN, List.map_set]
theorem nat_byte (x : Int) : x % 256 = ((x % 256).toNat : Int) := by omega
theorem byAll_length (ps : List (Int × Nat)) (h : ∀ p ∈ ps, p.2 ≤ 8) : (byAll ps).length = sumN ps := by
  induction ps with
  | nil => rfl
  | cons p ps ih =>
    have e : byAll (p :: ps) = byN p.1 p.2 ++ byAll ps := rfl
    rw [e, List.length_append, sumN_cons, byN_length _ _ (h p (List.mem_cons_self ..)), ih (fun q hq => h q (List.mem_cons_of_mem _ hq))]
theorem byAll_next {ps : List (Int × Nat)} {k : Nat} {p : Int × Nat} (h : ps[k]? = some p) : byAll (ps.take (k + 1)) = byAll (ps.take k) ++ byN p.1 p.2 := by
  obtain ⟨hk, rfl⟩ := List.getElem?_eq_some_iff.1 h
  rw [List.take_succ_eq_append_getElem hk, byAll, List.flatMap_append]
  simp [byAll]
theorem grown_of_drew {w w' : World} {r : Option Nat} (h : w.drew.grownBy w' r) : w.grownBy w' r := ⟨h.os, h.tape, h.output, h.size, h.block⟩
theorem strCells_bys (s : ByteArray) : Lib.strCells s = cellsN (bys s) := by
  simp [Lib.strCells, cellsN, bys]
theorem Try.info_u8 : (Try.prog.info? 5).map (fun i => (i.zero, i.size, i.bytes)) = some (some (.int .u8 0), 1, 1) := by kernel_rfl
theorem room_news {w : World} {gr t m : Nat} {p : Int} {z : Nat × Nat} (h : w.heap[gr]? = some (.cells (cellsN (roomL p 8)).toArray t z)) (hm : m ≤ 8) :
    ∀ (j : Nat) (u : Value), (cellsN (byN p m))[j]? = some u → w.drew.cell? ((⟨gr, 8 - m, none⟩ : Addr).add j) = some u := by
  intro j u hu
  rw [add_at]
  have h' : w.drew.heap[gr]? = some (.cells (cellsN (roomL p 8)).toArray t z) := h
  rw [cell_of_row _ _ _ _ _ _ h', List.getElem?_toArray]
  unfold byN cellsN at hu
  rw [List.map_drop, List.getElem?_drop] at hu
  exact hu
theorem app_max {m n : Nat} (h : n + m ≤ 65536) : n + m ≤ maxLen := by
  unfold maxLen; omega
theorem app_bytes {m n : Nat} (h : n + m ≤ 65536) : (n + m) * 1 ≤ 140737488355328 := by omega
set_option maxRecDepth 100000 in
theorem puts_ok (B g gp : Nat) (mk : Bool) (L : List Nat) (s : ByteArray) (ps : List (Int × Nat)) (w : World) (hO : OutAt B g mk false L w) (hgp : w.heap[gp]? = some (.cells (pairsV ps).toArray 22 (0, 0)))
    (hps : ∀ p ∈ ps, 1 ≤ p.2 ∧ p.2 ≤ 8) (hpl : ps.length ≤ 2) (hL : L.length + s.size + sumN ps ≤ 65536) (hB : B ≤ w.heap.size) :
    Calls Try.prog 120 #[.pointer (some ⟨g, 0, none⟩), .bool true, .string s, .slice (some ⟨gp, 0, none⟩) ps.length ps.length] w fun e w' => e = .returned (.tuple #[]) ∧ OutAt B g mk false (L ++ byAll ps ++ bys s) w' ∧ FrO w w' ∧ Below B w w' := by
  go_enter Try.func120, Try.ntmps120
  go_wp2_with (fail)
  go_loopw [8, 21] (fun n i wr => ∃ k : Nat, k ≤ ps.length ∧ i = .int .i64 k ∧ n = .int .i64 ((s.size + sumN (ps.take k) : Nat) : Int) ∧ Aside0 (Below w.heap.size w wr)) (fun _ i _ => ps.length - (intOf i).toNat)
  case atStart => exact ⟨0, by omega, rfl, rfl, ⟨Below.refl _ _⟩⟩
  case round =>
    obtain ⟨k, hk, rfl, rfl, HB1⟩ := hrel
    have hsum : s.size + sumN (ps.take k) ≤ 65536 := sum_le hL k
    by_cases hlt : k < ps.length
    · obtain ⟨⟨p, m⟩, hp⟩ : ∃ p, ps[k]? = some p := ⟨_, List.getElem?_eq_getElem hlt⟩
      have hm := hps _ (List.mem_of_getElem? hp)
      have hm1 : m ≤ 8 := hm.2
      have c0 : wr.cell? ⟨gp, k * 2, none⟩ = some (.int .i64 p) := pair_cell HB1.out hgp hp 0 (by omega)
      have c1 : wr.cell? ⟨gp, k * 2 + 1, none⟩ = some (.int .i64 (m : Int)) := pair_cell HB1.out hgp hp 1 (by omega)
      have HP := Aside0.mk hp
      clear hp hm
      go_wp2_with (fail)
      refine ⟨⟨k + 1, by omega, by go_num, ?_, ⟨below_alloc HB1.out _⟩⟩, by simp [intOf]; omega⟩
      rw [sum_next HP.out, ← Nat.add_assoc]
      go_num
    · obtain rfl : k = ps.length := by omega
      clear hlt hk
      rw [List.take_length] at hsum ⊢
      have HO1 := Aside0.mk (hO.below HB1.out)
      have HG1 := Aside0.mk (blk_below hgp HB1.out)
      have hN2 : L.length + (s.size + sumN ps) ≤ 65536 := by omega
      generalize hN : s.size + sumN ps = N at hsum hN2
      have HN := Aside0.mk hN
      clear hN
      obtain ⟨hBg, v, hbk, hown⟩ := HO1.out
      obtain ⟨A, c, rfl⟩ := own_slice hown
      have g1 : wr.cell? ⟨g, 1, none⟩ = some (.bool false) := by rw [cell_of_row wr g _ _ _ _ hbk]; rfl
      have g2 : wr.cell? ⟨g, 2, none⟩ = some (.slice A L.length c) := by rw [cell_of_row wr g _ _ _ _ hbk]; rfl
      have f1 : wr.frozen? ⟨g, 1, none⟩ = false := blk_thaw hbk 1
      have d1 : decide (65536 < (L.length : Int) + (N : Int)) = false := decide_eq_false (by omega)
      have HBK := Aside0.mk hbk
      have HOWN := Aside0.mk hown
      have HO2 := Aside0.mk (HO1.out.flag false)
      have HG2 := Aside0.mk (show (wr.setCell ⟨g, 1, none⟩ (.bool false)).heap[gp]? = _ from (HO1.out.fro (FrO.refl wr) 1 (.bool false)).blk HG1.out (by decide) (by decide))
      have HF2 := Aside0.mk (HO1.out.fro (FrO.of_below HB1.out) 1 (.bool false))
      have HB2 := Aside0.mk (((HB1.out.mono hB).setCell (p := ⟨g, 1, none⟩) hBg (.bool false)))
      clear hbk hown hgp hO
      go_wp2_with (fail)
      clear d1 g1 g2 f1
      generalize wr.setCell ⟨g, 1, none⟩ (.bool false) = w2 at HO2 HG2 HF2 HB2 ⊢
      clear HO1 HG1 HB1 HBK HOWN
      go_loopw [57] (fun i wr => ∃ k : Nat, k ≤ ps.length ∧ i = .int .i64 k ∧ Aside0 (OutAt B g mk false (L ++ byAll (ps.take k)) wr) ∧ Aside0 (wr.heap[gp]? = some (.cells (pairsV ps).toArray 22 (0, 0))) ∧ Aside0 (FrO w wr) ∧ Aside0 (Below B w wr)) (fun i _ => ps.length - (intOf i).toNat)
      case atStart => exact ⟨0, by omega, rfl, ⟨by simpa [byAll] using HO2.out⟩, HG2, HF2, HB2⟩
      case round =>
        obtain ⟨k, hk, rfl, HO3, HG3, HF3, HB3⟩ := hrel
        by_cases hlt : k < ps.length
        · obtain ⟨⟨p, m⟩, hp⟩ : ∃ p, ps[k]? = some p := ⟨_, List.getElem?_eq_getElem hlt⟩
          have hm := hps _ (List.mem_of_getElem? hp)
          have hm1 : m ≤ 8 := hm.2
          have hm0 : 1 ≤ m := hm.1
          have c0 : wr.cell? ⟨gp, k * 2, none⟩ = some (.int .i64 p) := pair_cell (Below.refl _ _) HG3.out hp 0 (by omega)
          have c1 : wr.cell? ⟨gp, k * 2 + 1, none⟩ = some (.int .i64 (m : Int)) := pair_cell (Below.refl _ _) HG3.out hp 1 (by omega)
          have HP := Aside0.mk hp
          clear hp hm
          go_wp2_with (fail)
          clear c0 c1
          obtain ⟨wo, hwo⟩ : ∃ wo : World, wo = wr := ⟨_, rfl⟩
          subst hwo
          go_loopw [61] (fun i W => ∃ j : Nat, j ≤ 8 ∧ i = .int .i64 j ∧ Aside0 (OutAt B g mk false (L ++ byAll (ps.take k)) W) ∧ Aside0 (W.heap[gp]? = some (.cells (pairsV ps).toArray 22 (0, 0))) ∧ Aside0 (FrO w W) ∧ Aside0 (Below B w W) ∧ Aside0 (W.heap[wo.heap.size]? = some (.cells #[.int .i64 p, .int .i64 (m : Int)] 22 (0, 0))) ∧ Aside0 (W.heap[wo.heap.size + 1]? = some (.cells (cellsN (roomL p j)).toArray 180 (0, 0)))) (fun i _ => 8 - (intOf i).toNat)
          case atStart =>
            refine ⟨0, by omega, rfl, ⟨(HO3.out.alloc _).alloc _⟩, ⟨blk_alloc (blk_alloc HG3.out _) _⟩, ⟨(HF3.out.alloc _).alloc _⟩, ⟨(HB3.out.alloc (Nat.le_trans hB HF3.out.1) _).alloc (by have := HF3.out.1; simp; omega) _⟩, ⟨blk_alloc (heap_alloc_new wo _) _⟩, ⟨?_⟩⟩
            have := heap_alloc_new (wo.alloc (.cells #[.int .i64 p, .int .i64 (m : Int)] 22)) (.cells (cellsN (roomL p 0)).toArray 180)
            simpa [roomL, cellsN, List.range, List.range.loop] using this
          case round =>
            obtain ⟨j, hj, rfl, HO4, HG4, HF4, HB4, HQ4, HR4⟩ := hrel
            by_cases hlj : j < 8
            · have q0 : wr.cell? ⟨wo.heap.size, 0, none⟩ = some (.int .i64 p) := by rw [cell_of_row wr _ _ _ _ _ HQ4.out]; rfl
              obtain ⟨r0, hr0⟩ : ∃ x, (cellsN (roomL p j))[j]? = some x := ⟨_, List.getElem?_eq_getElem (by rw [cellsN_length, roomL_length]; exact hlj)⟩
              have r1 : wr.cell? ⟨wo.heap.size + 1, j, none⟩ = some r0 := by rw [cell_of_row wr _ _ _ _ _ HR4.out, List.getElem?_toArray]; exact hr0
              have r2 : wr.frozen? ⟨wo.heap.size + 1, j, none⟩ = false := blk_thaw HR4.out j
              clear hr0
              go_wp2_with (fail)
              refine ⟨⟨j + 1, by omega, by go_num, ⟨HO4.out.far HR4.out (by decide) (by decide) j _⟩, ⟨blk_far HG4.out (fun e => by have := blk_lt HG3.out; have e2 : gp = wo.heap.size + 1 := e; omega) _⟩, ⟨HF4.out.new (by have := HF3.out.1; omega) j _⟩, ⟨HB4.out.setCell (p := ⟨wo.heap.size + 1, j, none⟩) (by have := HF3.out.1; show B ≤ wo.heap.size + 1; omega) _⟩, ⟨blk_far HQ4.out (fun e => by have e2 : wo.heap.size = wo.heap.size + 1 := e; omega) _⟩, ⟨blk_put HR4.out j _ ?_⟩⟩, by simp [intOf]; omega⟩
              rw [← roomL_succ p j hlj, List.setIfInBounds_toArray, cellsN_set, ← nat_byte]
            · obtain rfl : j = 8 := by omega
              clear hlj hj
              have hlen : L.length + (byAll (ps.take k)).length + m ≤ 65536 := by
                rw [byAll_length _ (fun q hq => (hps q (List.mem_of_mem_take hq)).2)]
                have := sum_le3 hL (k + 1)
                rw [sum_next HP.out] at this
                omega
              rw [← List.length_append] at hlen
              generalize hL2 : L ++ byAll (ps.take k) = L2 at HO4 hlen
              have HL2 := Aside0.mk hL2
              clear hL2
              obtain ⟨hBg3, v3, hbk, hown⟩ := HO4.out
              obtain ⟨A3, c3, rfl⟩ := own_slice hown
              have g2 : wr.cell? ⟨g, 2, none⟩ = some (.slice A3 L2.length c3) := by rw [cell_of_row wr g _ _ _ _ hbk]; rfl
              have f2 : wr.frozen? ⟨g, 2, none⟩ = false := blk_thaw hbk 2
              have q1 : wr.cell? ⟨wo.heap.size, 1, none⟩ = some (.int .i64 (m : Int)) := by rw [cell_of_row wr _ _ _ _ _ HQ4.out]; rfl
              have HBK := Aside0.mk hbk
              have HOWN := Aside0.mk hown
              have HLEN := Aside0.mk hlen
              have hne := own_ne hown hbk (by decide)
              have hne2 := own_ne hown HQ4.out (by decide)
              have b0 := hown.lt
              have i0 : (0 : Int) ≤ 8 - (m : Int) := by omega
              have i1 : (8 : Int) - (m : Int) ≤ 8 := by omega
              have hgl : g < wr.heap.size := blk_lt hbk
              have hql : wo.heap.size < wr.heap.size := blk_lt HQ4.out
              obtain ⟨ie, hi, hz0, hz1, hz2⟩ := info_parts Try.info_u8
              have hBw : B ≤ wr.heap.size := by omega
              have hsl := slice_room (wo.heap.size + 1) m hm0 hm1
              clear hbk hown hlen
              go_wp2_with (fail)
              go_region_law
                ((refine step_append_lies _ (by rfl) _ _ _ (by rfl) B 5 ie (.int .u8 0) 1 1 Try.underlying68 hi hz0 hz1 hz2 rfl (by omega) (.slice A3 L2.length c3) L2.length (cellsN L2) (by rfl) HOWN.out.drew
                    ⟨wo.heap.size + 1, 8 - m, none⟩ m m (cellsN (byN p m)) (by rfl) (by rw [cellsN_length, byN_length p m hm1, Nat.mul_one]) (room_news HR4.out hm1) (cellsN_one _)
                    (by omega) (app_max HLEN.out) (app_bytes HLEN.out) (by simpa using hBw) wr.heap.size (by simp) ?_; intro gg cap w5 hown1 hgrow hat hlt5; have e2 : w5.cell? ⟨g, 2, none⟩ = some (.slice A3 L2.length c3) := (by rw [hgrow.cell_far _ (by simpa using hgl) (Ne.symm hne)]; exact g2); have ef : w5.frozen? ⟨g, 2, none⟩ = false := (by rw [hgrow.frozen_far _ (by simpa using hgl) (Ne.symm hne)]; exact f2)))
              all_goals
                have hgrow := grown_of_drew hgrow
                have hMl : m = (byN p m).length := (byN_length p m hm1).symm
                have HO5 := Aside0.mk (OutAt.appended (M := byN p m) hBg3 HBK.out HOWN.out hgrow hown1 (by rw [← hMl]))
                have HF5 := Aside0.mk (HF4.out.appended HBK.out HOWN.out hgrow (v5 := .slice (some ⟨gg, 0, none⟩) (L2.length + m) cap))
                have HB5 := Aside0.mk (below_appended HB4.out hBg3 hBw HOWN.out hgrow (v5 := .slice (some ⟨gg, 0, none⟩) (L2.length + m) cap))
                have HG5 := Aside0.mk (((FrO.refl wr).appended HBK.out HOWN.out hgrow (v5 := .slice (some ⟨gg, 0, none⟩) (L2.length + m) cap)).blk HG4.out (by decide) (by decide))
                clear hMl hown1 hgrow hat e2 ef
                generalize w5.setCell ⟨g, 2, none⟩ (.slice (some ⟨gg, 0, none⟩) (L2.length + m) cap) = w6 at HO5 HF5 HB5 HG5 ⊢
                go_wp2_with (fail)
                refine ⟨⟨k + 1, by omega, by go_num, ⟨?_⟩, HG5, HF5, HB5⟩, by simp [intOf]; omega⟩
                rw [byAll_next HP.out, ← List.append_assoc, HL2.out]
                exact HO5.out
        · obtain rfl : k = ps.length := by omega
          clear hlt hk
          rw [List.take_length] at HO3
          have hlen : L.length + (byAll ps).length + s.size ≤ 65536 := by
            rw [byAll_length _ (fun q hq => (hps q hq).2)]
            omega
          rw [← List.length_append] at hlen
          generalize hL2 : L ++ byAll ps = L2 at HO3 hlen
          have HL2 := Aside0.mk hL2
          clear hL2
          obtain ⟨hBg3, v3, hbk, hown⟩ := HO3.out
          obtain ⟨A3, c3, rfl⟩ := own_slice hown
          have g2 : wr.cell? ⟨g, 2, none⟩ = some (.slice A3 L2.length c3) := by rw [cell_of_row wr g _ _ _ _ hbk]; rfl
          have HBK := Aside0.mk hbk
          have HOWN := Aside0.mk hown
          obtain ⟨ie, hi, hz0, hz1, hz2⟩ := info_parts Try.info_u8
          have hBw : B ≤ wr.heap.size := by have := blk_lt hbk; omega
          have hm1 : L2.length + s.size ≤ maxLen := app_max hlen
          have hm2 : L2.length + s.size ≤ 140737488355328 := by omega
          clear hbk hown hlen
          go_wp2_with (at_builtin; refine Lib.wpList_append_own_string _ rfl _ _ 68 9 rfl B 5 ie Try.underlying68 Try.underlying9 hi hz0 hz1 hz2 _ _ _ rfl HOWN.out s rfl hm1 hm2 hBw ?_)
          intro v5 w5 hown5 hgrow _
          rw [strCells_bys] at hown5
          obtain ⟨A5, c5, rfl⟩ := own_slice hown5
          have hb5 : w5.heap[g]? = _ := (hgrow.block g (blk_lt HBK.out) (fun e => own_ne HOWN.out HBK.out (by decide) e.symm)).trans HBK.out
          have e2 : w5.cell? ⟨g, 2, none⟩ = some (.slice A3 L2.length c3) := by rw [cell_of_row w5 g _ _ _ _ hb5]; rfl
          have ef : w5.frozen? ⟨g, 2, none⟩ = false := blk_thaw hb5 2
          have HO5 := Aside0.mk (OutAt.appended (M := bys s) hBg3 HBK.out HOWN.out hgrow hown5 (by rw [bys_length]))
          have HF5 := Aside0.mk (HF3.out.appended HBK.out HOWN.out hgrow (v5 := .slice A5 (L2.length + s.size) c5))
          have HB5 := Aside0.mk (below_appended HB3.out hBg3 hBw HOWN.out hgrow (v5 := .slice A5 (L2.length + s.size) c5))
          clear hb5 hown5 hgrow g2
          go_wp2_with (fail)
          go_end0
          rw [HL2.out]
          exact ⟨rfl, HO5.out, HF5.out, HB5.out⟩
end
section
open Go.RowKit Go.Deep Go.Proofs.YtbkbganflnemeaaW.PrintWords Go.Proofs.YtbkbganflnemeaaW.PrintLast Go.Proofs.YtbkbganflnemeaaW.PrintMore
set_option maxHeartbeats 1000000
set_option linter.unusedVariables false
set_option linter.unusedSimpArgs false
attribute [local go_sem ↓] Go.wp_at_zero Go.wp_at_succ
theorem sum_small : ∀ (ps : List (Int × Nat)), ps.length ≤ 2 → (∀ q ∈ ps, q.2 ≤ 8) → sumN ps ≤ 16
  | [], _, _ => by decide
  | [a], _, h => by rw [sumN_cons]; have := h a (by simp); simp [sumN]; omega
  | [a, b], _, h => by rw [sumN_cons, sumN_cons]; have := h a (by simp); have := h b (by simp); simp [sumN]; omega
  | a :: b :: c :: l, h, _ => by simp at h
theorem sum_take_le (ps : List (Int × Nat)) (k : Nat) : sumN (ps.take k) ≤ sumN ps := by
  have := sumN_append (ps.take k) (ps.drop k)
  rw [List.take_append_drop] at this
  omega
set_option maxRecDepth 100000 in
theorem puts_spoilt (B g gp : Nat) (mk ok : Bool) (L : List Nat) (s : ByteArray) (ps : List (Int × Nat)) (w : World) (hO : OutAt B g mk true L w) (hgp : w.heap[gp]? = some (.cells (pairsV ps).toArray 22 (0, 0)))
    (hps : ∀ p ∈ ps, 1 ≤ p.2 ∧ p.2 ≤ 8) (hpl : ps.length ≤ 2) (hs : s.size ≤ 140737488351232) (hl : L.length ≤ 65536) (hB : B ≤ w.heap.size) :
    Calls Try.prog 120 #[.pointer (some ⟨g, 0, none⟩), .bool ok, .string s, .slice (some ⟨gp, 0, none⟩) ps.length ps.length] w fun e w' => e = .returned (.tuple #[]) ∧ OutAt B g mk true L w' ∧ FrO w w' ∧ Below B w w' := by
  have hsm : sumN ps ≤ 16 := sum_small ps hpl (fun q hq => (hps q hq).2)
  go_enter Try.func120, Try.ntmps120
  go_wp2_with (fail)
  go_loopw [8, 21] (fun n i wr => ∃ k : Nat, k ≤ ps.length ∧ i = .int .i64 k ∧ n = .int .i64 ((s.size + sumN (ps.take k) : Nat) : Int) ∧ Aside0 (Below w.heap.size w wr)) (fun _ i _ => ps.length - (intOf i).toNat)
  case atStart => exact ⟨0, by omega, rfl, rfl, ⟨Below.refl _ _⟩⟩
  case round =>
    obtain ⟨k, hk, rfl, rfl, HB1⟩ := hrel
    have hsum : s.size + sumN (ps.take k) ≤ 140737488351248 := by have := sum_take_le ps k; omega
    by_cases hlt : k < ps.length
    · obtain ⟨⟨p, m⟩, hp⟩ : ∃ p, ps[k]? = some p := ⟨_, List.getElem?_eq_getElem hlt⟩
      have hm := hps _ (List.mem_of_getElem? hp)
      have hm1 : m ≤ 8 := hm.2
      have c0 : wr.cell? ⟨gp, k * 2, none⟩ = some (.int .i64 p) := pair_cell HB1.out hgp hp 0 (by omega)
      have c1 : wr.cell? ⟨gp, k * 2 + 1, none⟩ = some (.int .i64 (m : Int)) := pair_cell HB1.out hgp hp 1 (by omega)
      have HP := Aside0.mk hp
      clear hp hm
      go_wp2_with (fail)
      refine ⟨⟨k + 1, by omega, by go_num, ?_, ⟨below_alloc HB1.out _⟩⟩, by simp [intOf]; omega⟩
      rw [sum_next HP.out, ← Nat.add_assoc]
      go_num
    · obtain rfl : k = ps.length := by omega
      clear hlt hk
      rw [List.take_length] at hsum ⊢
      have HO1 := Aside0.mk (hO.below HB1.out)
      generalize hN : s.size + sumN ps = N at hsum ⊢
      have HN := Aside0.mk hN
      obtain ⟨hBg, v, hbk, hown⟩ := HO1.out
      obtain ⟨A, c, rfl⟩ := own_slice hown
      have g1 : wr.cell? ⟨g, 1, none⟩ = some (.bool true) := by rw [cell_of_row wr g _ _ _ _ hbk]; rfl
      have g2 : wr.cell? ⟨g, 2, none⟩ = some (.slice A L.length c) := by rw [cell_of_row wr g _ _ _ _ hbk]; rfl
      have f1 : wr.frozen? ⟨g, 1, none⟩ = false := blk_thaw hbk 1
      have HO2 := Aside0.mk (HO1.out.flag true)
      have HF2 := Aside0.mk (HO1.out.fro (FrO.of_below HB1.out) 1 (.bool true))
      have HB2 := Aside0.mk (((HB1.out.mono hB).setCell (p := ⟨g, 1, none⟩) hBg (.bool true)))
      clear hN hbk hown hgp hO
      go_wp2_with (fail)
      refine bodyPost_ret (v := .tuple #[]) (by simp [results, Try.results120, go_sem]) rfl ?_
      exact ⟨rfl, HO2.out, HF2.out, HB2.out⟩
set_option maxRecDepth 100000 in
theorem puts_no (B g gp : Nat) (mk : Bool) (L : List Nat) (s : ByteArray) (ps : List (Int × Nat)) (w : World) (hO : OutAt B g mk false L w) (hgp : w.heap[gp]? = some (.cells (pairsV ps).toArray 22 (0, 0)))
    (hps : ∀ p ∈ ps, 1 ≤ p.2 ∧ p.2 ≤ 8) (hpl : ps.length ≤ 2) (hs : s.size ≤ 140737488351232) (hl : L.length ≤ 65536) (hB : B ≤ w.heap.size) :
    Calls Try.prog 120 #[.pointer (some ⟨g, 0, none⟩), .bool false, .string s, .slice (some ⟨gp, 0, none⟩) ps.length ps.length] w fun e w' => e = .returned (.tuple #[]) ∧ OutAt B g mk true L w' ∧ FrO w w' ∧ Below B w w' := by
  have hsm : sumN ps ≤ 16 := sum_small ps hpl (fun q hq => (hps q hq).2)
  go_enter Try.func120, Try.ntmps120
  go_wp2_with (fail)
  go_loopw [8, 21] (fun n i wr => ∃ k : Nat, k ≤ ps.length ∧ i = .int .i64 k ∧ n = .int .i64 ((s.size + sumN (ps.take k) : Nat) : Int) ∧ Aside0 (Below w.heap.size w wr)) (fun _ i _ => ps.length - (intOf i).toNat)
  case atStart => exact ⟨0, by omega, rfl, rfl, ⟨Below.refl _ _⟩⟩
  case round =>
    obtain ⟨k, hk, rfl, rfl, HB1⟩ := hrel
    have hsum : s.size + sumN (ps.take k) ≤ 140737488351248 := by have := sum_take_le ps k; omega
    by_cases hlt : k < ps.length
    · obtain ⟨⟨p, m⟩, hp⟩ : ∃ p, ps[k]? = some p := ⟨_, List.getElem?_eq_getElem hlt⟩
      have hm := hps _ (List.mem_of_getElem? hp)
      have hm1 : m ≤ 8 := hm.2
      have c0 : wr.cell? ⟨gp, k * 2, none⟩ = some (.int .i64 p) := pair_cell HB1.out hgp hp 0 (by omega)
      have c1 : wr.cell? ⟨gp, k * 2 + 1, none⟩ = some (.int .i64 (m : Int)) := pair_cell HB1.out hgp hp 1 (by omega)
      have HP := Aside0.mk hp
      clear hp hm
      go_wp2_with (fail)
      refine ⟨⟨k + 1, by omega, by go_num, ?_, ⟨below_alloc HB1.out _⟩⟩, by simp [intOf]; omega⟩
      rw [sum_next HP.out, ← Nat.add_assoc]
      go_num
    · obtain rfl : k = ps.length := by omega
      clear hlt hk
      rw [List.take_length] at hsum ⊢
      have HO1 := Aside0.mk (hO.below HB1.out)
      generalize hN : s.size + sumN ps = N at hsum ⊢
      have HN := Aside0.mk hN
      obtain ⟨hBg, v, hbk, hown⟩ := HO1.out
      obtain ⟨A, c, rfl⟩ := own_slice hown
      have g1 : wr.cell? ⟨g, 1, none⟩ = some (.bool false) := by rw [cell_of_row wr g _ _ _ _ hbk]; rfl
      have g2 : wr.cell? ⟨g, 2, none⟩ = some (.slice A L.length c) := by rw [cell_of_row wr g _ _ _ _ hbk]; rfl
      have f1 : wr.frozen? ⟨g, 1, none⟩ = false := blk_thaw hbk 1
      have HO2 := Aside0.mk (HO1.out.flag true)
      have HF2 := Aside0.mk (HO1.out.fro (FrO.of_below HB1.out) 1 (.bool true))
      have HB2 := Aside0.mk (((HB1.out.mono hB).setCell (p := ⟨g, 1, none⟩) hBg (.bool true)))
      clear hN hbk hown hgp hO
      go_wp2_with (fail)
      refine bodyPost_ret (v := .tuple #[]) (by simp [results, Try.results120, go_sem]) rfl ?_
      exact ⟨rfl, HO2.out, HF2.out, HB2.out⟩
set_option maxRecDepth 100000 in
theorem puts_big (B g gp : Nat) (mk : Bool) (L : List Nat) (s : ByteArray) (ps : List (Int × Nat)) (w : World) (hO : OutAt B g mk false L w) (hgp : w.heap[gp]? = some (.cells (pairsV ps).toArray 22 (0, 0)))
    (hps : ∀ p ∈ ps, 1 ≤ p.2 ∧ p.2 ≤ 8) (hpl : ps.length ≤ 2) (hs : s.size ≤ 140737488351232) (hl : L.length ≤ 65536) (hbig : 65536 < L.length + s.size + sumN ps) (hB : B ≤ w.heap.size) :
    Calls Try.prog 120 #[.pointer (some ⟨g, 0, none⟩), .bool true, .string s, .slice (some ⟨gp, 0, none⟩) ps.length ps.length] w fun e w' => e = .returned (.tuple #[]) ∧ OutAt B g mk true L w' ∧ FrO w w' ∧ Below B w w' := by
  have hsm : sumN ps ≤ 16 := sum_small ps hpl (fun q hq => (hps q hq).2)
  go_enter Try.func120, Try.ntmps120
  go_wp2_with (fail)
  go_loopw [8, 21] (fun n i wr => ∃ k : Nat, k ≤ ps.length ∧ i = .int .i64 k ∧ n = .int .i64 ((s.size + sumN (ps.take k) : Nat) : Int) ∧ Aside0 (Below w.heap.size w wr)) (fun _ i _ => ps.length - (intOf i).toNat)
  case atStart => exact ⟨0, by omega, rfl, rfl, ⟨Below.refl _ _⟩⟩
  case round =>
    obtain ⟨k, hk, rfl, rfl, HB1⟩ := hrel
    have hsum : s.size + sumN (ps.take k) ≤ 140737488351248 := by have := sum_take_le ps k; omega
    by_cases hlt : k < ps.length
    · obtain ⟨⟨p, m⟩, hp⟩ : ∃ p, ps[k]? = some p := ⟨_, List.getElem?_eq_getElem hlt⟩
      have hm := hps _ (List.mem_of_getElem? hp)
      have hm1 : m ≤ 8 := hm.2
      have c0 : wr.cell? ⟨gp, k * 2, none⟩ = some (.int .i64 p) := pair_cell HB1.out hgp hp 0 (by omega)
      have c1 : wr.cell? ⟨gp, k * 2 + 1, none⟩ = some (.int .i64 (m : Int)) := pair_cell HB1.out hgp hp 1 (by omega)
      have HP := Aside0.mk hp
      clear hp hm
      go_wp2_with (fail)
      refine ⟨⟨k + 1, by omega, by go_num, ?_, ⟨below_alloc HB1.out _⟩⟩, by simp [intOf]; omega⟩
      rw [sum_next HP.out, ← Nat.add_assoc]
      go_num
    · obtain rfl : k = ps.length := by omega
      clear hlt hk
      rw [List.take_length] at hsum ⊢
      have HO1 := Aside0.mk (hO.below HB1.out)
      generalize hN : s.size + sumN ps = N at hsum ⊢
      have HN := Aside0.mk hN
      obtain ⟨hBg, v, hbk, hown⟩ := HO1.out
      obtain ⟨A, c, rfl⟩ := own_slice hown
      have g1 : wr.cell? ⟨g, 1, none⟩ = some (.bool false) := by rw [cell_of_row wr g _ _ _ _ hbk]; rfl
      have g2 : wr.cell? ⟨g, 2, none⟩ = some (.slice A L.length c) := by rw [cell_of_row wr g _ _ _ _ hbk]; rfl
      have f1 : wr.frozen? ⟨g, 1, none⟩ = false := blk_thaw hbk 1
      have d1 : decide (65536 < (L.length : Int) + (N : Int)) = true := decide_eq_true (by omega)
      have HO2 := Aside0.mk (HO1.out.flag true)
      have HF2 := Aside0.mk (HO1.out.fro (FrO.of_below HB1.out) 1 (.bool true))
      have HB2 := Aside0.mk (((HB1.out.mono hB).setCell (p := ⟨g, 1, none⟩) hBg (.bool true)))
      clear hN hbk hown hgp hO hbig
      go_wp2_with (fail)
      refine bodyPost_ret (v := .tuple #[]) (by simp [results, Try.results120, go_sem]) rfl ?_
      exact ⟨rfl, HO2.out, HF2.out, HB2.out⟩
def outStep (bad : Bool) (L : List Nat) (ok : Bool) (M : List Nat) : Bool × List Nat :=
  if bad = true ∨ ok = false ∨ 65536 < L.length + M.length then (true, L) else (false, L ++ M)
theorem puts_all (B g gp : Nat) (mk bad ok : Bool) (L : List Nat) (s : ByteArray) (ps : List (Int × Nat)) (w : World) (hO : OutAt B g mk bad L w) (hgp : w.heap[gp]? = some (.cells (pairsV ps).toArray 22 (0, 0)))
    (hps : ∀ p ∈ ps, 1 ≤ p.2 ∧ p.2 ≤ 8) (hpl : ps.length ≤ 2) (hs : s.size ≤ 140737488351232) (hl : L.length ≤ 65536) (hB : B ≤ w.heap.size) :
    Calls Try.prog 120 #[.pointer (some ⟨g, 0, none⟩), .bool ok, .string s, .slice (some ⟨gp, 0, none⟩) ps.length ps.length] w fun e w' => e = .returned (.tuple #[]) ∧
      OutAt B g mk (outStep bad L ok (byAll ps ++ bys s)).1 (outStep bad L ok (byAll ps ++ bys s)).2 w' ∧ FrO w w' ∧ Below B w w' := by
  have hlen : (byAll ps ++ bys s).length = s.size + sumN ps := by rw [List.length_append, byAll_length _ (fun q hq => (hps q hq).2), bys_length, Nat.add_comm]
  cases bad with
  | true => rw [show outStep true L ok (byAll ps ++ bys s) = (true, L) from if_pos (.inl rfl)]; exact puts_spoilt B g gp mk ok L s ps w hO hgp hps hpl hs hl hB
  | false =>
    cases ok with
    | false => rw [show outStep false L false (byAll ps ++ bys s) = (true, L) from if_pos (.inr (.inl rfl))]; exact puts_no B g gp mk L s ps w hO hgp hps hpl hs hl hB
    | true =>
      by_cases hb : 65536 < L.length + s.size + sumN ps
      · rw [show outStep false L true (byAll ps ++ bys s) = (true, L) from if_pos (.inr (.inr (by omega)))]; exact puts_big B g gp mk L s ps w hO hgp hps hpl hs hl hb hB
      · rw [show outStep false L true (byAll ps ++ bys s) = (false, L ++ (byAll ps ++ bys s)) from if_neg (by rintro (h | h | h); cases h; cases h; omega), ← List.append_assoc]
        exact puts_ok B g gp mk L s ps w hO hgp hps hpl (by omega) hB
def timeB (n : Int) : Bool := decide (0 ≤ n ∧ n ≤ 1099511627775)
theorem time_f (n : Int) : code_time.f n = some (timeB n) := by
  unfold code_time.f timeB
  split
  · rename_i h
    congr 1
    simp only [decide_eq_decide]
    omega
  · rename_i h
    rw [decide_eq_false (by omega)]
theorem Out_Num (B g : Nat) (mk bad : Bool) (L : List Nat) (n : Int) (w : World) (hO : OutAt B g mk bad L w) (hl : L.length ≤ 65536) (hB : B ≤ w.heap.size) :
    Calls Try.prog 88 #[.pointer (some ⟨g, 0, none⟩), .int .i64 n] w fun e w' => e = .returned (.tuple #[]) ∧
      OutAt B g mk (outStep bad L (timeB n) (byN n 6)).1 (outStep bad L (timeB n) (byN n 6)).2 w' ∧ FrO w w' ∧ Below B w w' := by
  have HO := Aside0.mk hO
  have h1 := Aside0.mk (time_f n)
  clear hO
  go_enter Try.func88, Try.ntmps88
  go_wp2_with (fail)
  refine (code_time.calls n _ w h1.out).mono ?_
  rintro e w1 ⟨rfl, ⟨nd, rfl⟩⟩
  go_wp2_with (fail)
  have hO1 : OutAt B g mk bad L ((w.drewN nd).alloc (.cells #[.int .i64 n, .int .i64 6] 22)) := (HO.out.drewN nd).alloc _
  have hp : ((w.drewN nd).alloc (.cells #[.int .i64 n, .int .i64 6] 22)).heap[w.heap.size]? = some (.cells (pairsV [(n, 6)]).toArray 22 (0, 0)) := heap_alloc_new (w.drewN nd) _
  have hF : FrO w ((w.drewN nd).alloc (.cells #[.int .i64 n, .int .i64 6] 22)) := ((FrO.refl w).drewN nd).alloc _
  have hBl : Below B w ((w.drewN nd).alloc (.cells #[.int .i64 n, .int .i64 6] 22)) := (pw_below_drewN (Below.refl B w) nd).alloc hB _
  refine (puts_all B g w.heap.size mk bad (timeB n) L ⟨#[]⟩ [(n, 6)] _ hO1 hp (by simp) (by simp) (by decide) hl (Nat.le_trans hB hF.1)).mono ?_
  rintro e w1 ⟨rfl, h2, h3, h4⟩
  have H2 := Aside0.mk h2
  have H3 := Aside0.mk (hF.trans h3)
  have H4 := Aside0.mk (hBl.trans h4)
  clear h2 h3 h4 hO1 hp hF hBl
  go_wp2_with (fail)
  go_end0
  exact ⟨rfl, by simpa [byAll, bys] using H2.out, H3.out, H4.out⟩
theorem Out_Text (B g : Nat) (mk bad : Bool) (L : List Nat) (s : ByteArray) (w : World) (hO : OutAt B g mk bad L w) (hl : L.length ≤ 65536) (hs : s.size ≤ 140737488351232) (hB : B ≤ w.heap.size) :
    Calls Try.prog 111 #[.pointer (some ⟨g, 0, none⟩), .string s] w fun e w' => e = .returned (.tuple #[]) ∧
      OutAt B g mk (outStep bad L (decide (s.size ≤ 65535)) (byN (s.size : Int) 2 ++ bys s)).1 (outStep bad L (decide (s.size ≤ 65535)) (byN (s.size : Int) 2 ++ bys s)).2 w' ∧ FrO w w' ∧ Below B w w' := by
  have HO := Aside0.mk hO
  clear hO
  have hO1 : OutAt B g mk bad L (w.alloc (.cells #[.int .i64 (s.size : Int), .int .i64 2] 22)) := HO.out.alloc _
  have hp : (w.alloc (.cells #[.int .i64 (s.size : Int), .int .i64 2] 22)).heap[w.heap.size]? = some (.cells (pairsV [((s.size : Int), 2)]).toArray 22 (0, 0)) := heap_alloc_new w _
  have hF : FrO w (w.alloc (.cells #[.int .i64 (s.size : Int), .int .i64 2] 22)) := (FrO.refl w).alloc _
  have hBl : Below B w (w.alloc (.cells #[.int .i64 (s.size : Int), .int .i64 2] 22)) := (Below.refl B w).alloc hB _
  have hde : decide ((s.size : Int) ≤ 65535) = decide (s.size ≤ 65535) := by simp only [decide_eq_decide]; omega
  rw [← hde]
  have HDE := Aside0.mk hde
  have hc := puts_all B g w.heap.size mk bad (decide ((s.size : Int) ≤ 65535)) L s [((s.size : Int), 2)] _ hO1 hp (by simp) (by simp) hs hl (Nat.le_trans hB hF.1)
  rw [List.length_singleton] at hc
  have HC := Aside0.mk hc
  have HF := Aside0.mk hF
  have HL := Aside0.mk hBl
  clear hO1 hp hF hBl hde hc
  go_enter Try.func111, Try.ntmps111
  go_wp2_with (fail)
  with_reducible refine HC.out.mono ?_
  rintro e w1 ⟨rfl, h2, h3, h4⟩
  have H2 := Aside0.mk h2
  have H3 := Aside0.mk (HF.out.trans h3)
  have H4 := Aside0.mk (HL.out.trans h4)
  clear h2 h3 h4
  go_wp2_with (fail)
  go_end0
  exact ⟨rfl, by simpa [byAll] using H2.out, H3.out, H4.out⟩
theorem cellsN_nums (l : List Nat) : cellsN l = nums .u8 (l.map fun (n : Nat) => (n : Int)) := by simp [cellsN, nums]
theorem Out_Done (B g : Nat) (L : List Nat) (w : World) (hO : OutAt B g true false L w) :
    Calls Try.prog 89 #[.pointer (some ⟨g, 0, none⟩)] w fun e w' => e = .returned (.tuple #[.string (txt L), .int .i64 0]) ∧ w = w' := by
  obtain ⟨hBg, v, hbk, hown⟩ := hO
  obtain ⟨A, c, rfl⟩ := own_slice hown
  have g0 : w.cell? ⟨g, 0, none⟩ = some (.bool true) := by rw [cell_of_row w g _ _ _ _ hbk]; rfl
  have g1 : w.cell? ⟨g, 1, none⟩ = some (.bool false) := by rw [cell_of_row w g _ _ _ _ hbk]; rfl
  have g2 : w.cell? ⟨g, 2, none⟩ = some (.slice A L.length c) := by rw [cell_of_row w g _ _ _ _ hbk]; rfl
  rw [cellsN_nums, ← List.length_map (f := fun (n : Nat) => (n : Int))] at hown
  have hcv := own_string (P := Try.prog) Try.underlying68 Try.underlying5 Try.underlying9 hown
  rw [str_nats, List.length_map] at hcv
  clear hbk hown
  go_enter Try.func89, Try.ntmps89
  go_wp2_with (fail)
  go_ret2
  exact ⟨rfl, rfl⟩
theorem NewOut_calls (B : Nat) (w : World) (hB : B ≤ w.heap.size) :
    Calls Try.prog 87 #[] w fun e w' => e = .returned (.pointer (some ⟨w.heap.size, 0, none⟩)) ∧ OutAt B w.heap.size true false [] w' ∧ Below w.heap.size w w' := by
  go_enter Try.func87, Try.ntmps87
  go_wp2_with (fail)
  go_ret
  exact ⟨rfl, ⟨hB, _, heap_alloc_new w _, own_nil _ _ _ _⟩, below_alloc (Below.refl _ _) _⟩
section
open Go.RowKit Go.Deep Go.Proofs.YtbkbganflnemeaaW.PrintWords Go.Proofs.YtbkbganflnemeaaW.PrintLast Go.Proofs.YtbkbganflnemeaaW.PrintMore
set_option maxHeartbeats 1000000
set_option linter.unusedVariables false
set_option linter.unusedSimpArgs false
attribute [local go_sem ↓] Go.wp_at_zero Go.wp_at_succ
theorem OutAt.drew {B g : Nat} {mk bad : Bool} {L : List Nat} {w : World} (h : OutAt B g mk bad L w) : OutAt B g mk bad L w.drew := h.below (below_drew (Below.refl _ _))
theorem FrO.drew {w w1 : World} (h : FrO w w1) : FrO w w1.drew := h
end
end
end Go.Proofs.Ytbkbganflnemeaa.Pr
end

section
namespace Go.Proofs.Ytbkbganflnemeaa.Pr
open Go.Proofs.YtbkbganflnemeaaW.PrintWords
set_option linter.unusedVariables false
set_option linter.unusedSimpArgs false
def u32s (l : List Nat) : Array Value := (l.map fun (n : Nat) => Value.int .u32 (n : Int)).toArray
theorem u32s_get (l : List Nat) (i : Nat) (h : i < l.length) : (u32s l)[i]? = some (.int .u32 (l.getD i 0 : Nat)) := by
  simp [u32s, h]
theorem u32s_set (l : List Nat) (i v : Nat) : (u32s l).setIfInBounds i (.int .u32 (v : Int)) = u32s (l.set i v) := by
  simp [u32s]
def rotr (x n : Nat) : Nat := (x >>> n) ||| ((x <<< (32 - n)) % 4294967296)
def be4 (l : List Nat) (i : Nat) : Nat := l.getD i 0 * 16777216 + l.getD (i + 1) 0 * 65536 + l.getD (i + 2) 0 * 256 + l.getD (i + 3) 0
def sg0 (x : Nat) : Nat := rotr x 7 ^^^ rotr x 18 ^^^ (x >>> 3)
def sg1 (x : Nat) : Nat := rotr x 17 ^^^ rotr x 19 ^^^ (x >>> 10)
def bs0 (x : Nat) : Nat := rotr x 2 ^^^ rotr x 13 ^^^ rotr x 22
def bs1 (x : Nat) : Nat := rotr x 6 ^^^ rotr x 11 ^^^ rotr x 25
def chs (e f g : Nat) : Nat := (e &&& f) ^^^ ((4294967295 - e) &&& g)
def maj (a b c : Nat) : Nat := (a &&& b) ^^^ (a &&& c) ^^^ (b &&& c)
def wordAt (b w : List Nat) (k : Nat) : Nat :=
  if k < 16 then be4 b (4 * k) else (w.getD (k - 16) 0 + sg0 (w.getD (k - 15) 0) + w.getD (k - 7) 0 + sg1 (w.getD (k - 2) 0)) % 4294967296
def sched (b : List Nat) : Nat → List Nat
  | 0 => []
  | k + 1 => sched b k ++ [wordAt b (sched b k) k]
theorem sched_length (b : List Nat) (k : Nat) : (sched b k).length = k := by
  induction k with
  | zero => rfl
  | succ k ih => simp [sched, ih]
def shaK : List Nat := [0x428a2f98, 0x71374491, 0xb5c0fbcf, 0xe9b5dba5, 0x3956c25b, 0x59f111f1, 0x923f82a4, 0xab1c5ed5, 0xd807aa98, 0x12835b01, 0x243185be, 0x550c7dc3, 0x72be5d74, 0x80deb1fe, 0x9bdc06a7, 0xc19bf174, 0xe49b69c1, 0xefbe4786, 0x0fc19dc6, 0x240ca1cc, 0x2de92c6f, 0x4a7484aa, 0x5cb0a9dc, 0x76f988da, 0x983e5152, 0xa831c66d, 0xb00327c8, 0xbf597fc7, 0xc6e00bf3, 0xd5a79147, 0x06ca6351, 0x14292967, 0x27b70a85, 0x2e1b2138, 0x4d2c6dfc, 0x53380d13, 0x650a7354, 0x766a0abb, 0x81c2c92e, 0x92722c85, 0xa2bfe8a1, 0xa81a664b, 0xc24b8b70, 0xc76c51a3, 0xd192e819, 0xd6990624, 0xf40e3585, 0x106aa070, 0x19a4c116, 0x1e376c08, 0x2748774c, 0x34b0bcb5, 0x391c0cb3, 0x4ed8aa4a, 0x5b9cca4f, 0x682e6ff3, 0x748f82ee, 0x78a5636f, 0x84c87814, 0x8cc70208, 0x90befffa, 0xa4506ceb, 0xbef9a3f7, 0xc67178f2]
theorem shaK_length : shaK.length = 64 := rfl
def shaH : List Nat := [0x6a09e667, 0xbb67ae85, 0x3c6ef372, 0xa54ff53a, 0x510e527f, 0x9b05688c, 0x1f83d9ab, 0x5be0cd19]
structure St where
  (a b c d e f g h : Nat)
def St.list (s : St) : List Nat := [s.a, s.b, s.c, s.d, s.e, s.f, s.g, s.h]
def St.ok (s : St) : Prop := s.a < 4294967296 ∧ s.b < 4294967296 ∧ s.c < 4294967296 ∧ s.d < 4294967296 ∧ s.e < 4294967296 ∧ s.f < 4294967296 ∧ s.g < 4294967296 ∧ s.h < 4294967296
def t1 (s : St) (k w : Nat) : Nat := (s.h + bs1 s.e + chs s.e s.f s.g + k + w) % 4294967296
def t2 (s : St) : Nat := (bs0 s.a + maj s.a s.b s.c) % 4294967296
def rnd (s : St) (k w : Nat) : St := ⟨(t1 s k w + t2 s) % 4294967296, s.a, s.b, s.c, (s.d + t1 s k w) % 4294967296, s.e, s.f, s.g⟩
def rds (w : List Nat) (s : St) : Nat → St
  | 0 => s
  | k + 1 => rnd (rds w s k) (shaK.getD k 0) (w.getD k 0)
def St.add (s t : St) : St := ⟨(s.a + t.a) % 4294967296, (s.b + t.b) % 4294967296, (s.c + t.c) % 4294967296, (s.d + t.d) % 4294967296, (s.e + t.e) % 4294967296, (s.f + t.f) % 4294967296, (s.g + t.g) % 4294967296, (s.h + t.h) % 4294967296⟩
def stp (s : St) (b : List Nat) : St := s.add (rds (sched b 64) s 64)
theorem rnd_ok {s : St} (h : s.ok) (k w : Nat) : (rnd s k w).ok := by
  obtain ⟨h1, h2, h3, h4, h5, h6, h7, h8⟩ := h
  exact ⟨Nat.mod_lt _ (by decide), h1, h2, h3, Nat.mod_lt _ (by decide), h5, h6, h7⟩
theorem rds_ok {w : List Nat} {s : St} (h : s.ok) : ∀ k, (rds w s k).ok
  | 0 => h
  | k + 1 => rnd_ok (rds_ok h k) _ _
theorem St.add_ok (s t : St) : (s.add t).ok := ⟨Nat.mod_lt _ (by decide), Nat.mod_lt _ (by decide), Nat.mod_lt _ (by decide), Nat.mod_lt _ (by decide), Nat.mod_lt _ (by decide), Nat.mod_lt _ (by decide), Nat.mod_lt _ (by decide), Nat.mod_lt _ (by decide)⟩
def by4 (x : Nat) : List Nat := [x / 16777216 % 256, x / 65536 % 256, x / 256 % 256, x % 256]
def St.bytes (s : St) : List Nat := s.list.flatMap by4
def St0 : St := ⟨0x6a09e667, 0xbb67ae85, 0x3c6ef372, 0xa54ff53a, 0x510e527f, 0x9b05688c, 0x1f83d9ab, 0x5be0cd19⟩
theorem St0_ok : St0.ok := by unfold St.ok St0; decide
def stOf (l : List Nat) : St := ⟨be4 l 0, be4 l 4, be4 l 8, be4 l 12, be4 l 16, be4 l 20, be4 l 24, be4 l 28⟩
def blks : Nat → St → List Nat → St
  | 0, s, _ => s
  | n + 1, s, l => blks n (stp s (l.take 64)) (l.drop 64)
def padL (n : Nat) : List Nat := 128 :: (List.replicate ((119 - n % 64) % 64) 0 ++ by4 (n / 536870912) ++ by4 (8 * n))
def sumL (l : List Nat) : List Nat := let p := l ++ padL l.length; (blks (p.length / 64) St0 p).bytes
end Go.Proofs.Ytbkbganflnemeaa.Pr
namespace Go.Proofs.Ytbkbganflnemeaa.Pr
open Go.RowKit Go.Proofs.YtbkbganflnemeaaW.PrintWords
set_option maxHeartbeats 400000
set_option linter.unusedVariables false
set_option linter.unusedSimpArgs false
theorem sha_start.calls (w : World) : Calls Try.prog 155 #[] w fun e w' => e = .returned (.agg #[.int .u32 (St0.a : Int), .int .u32 (St0.b : Int), .int .u32 (St0.c : Int), .int .u32 (St0.d : Int), .int .u32 (St0.e : Int), .int .u32 (St0.f : Int), .int .u32 (St0.g : Int), .int .u32 (St0.h : Int)]) ∧ Below w.heap.size w w' := by
  go_enter Try.func155, Try.ntmps155
  go_wp2
  exact bodyPost_ret (v := .agg #[.int .u32 (St0.a : Int), .int .u32 (St0.b : Int), .int .u32 (St0.c : Int), .int .u32 (St0.d : Int), .int .u32 (St0.e : Int), .int .u32 (St0.f : Int), .int .u32 (St0.g : Int), .int .u32 (St0.h : Int)]) (by simp [results, Try.results155, go_sem, St0]) rfl ⟨rfl, (Below.refl _ _).alloc (Nat.le_refl _) _⟩
def u8s (l : List Nat) : Array Value := (l.map fun (n : Nat) => Value.int .u8 (n : Int)).toArray
theorem u8s_size (l : List Nat) : (u8s l).size = l.length := by simp [u8s]
theorem u8s_get (l : List Nat) (i : Nat) (h : i < l.length) : (u8s l)[i]? = some (.int .u8 (l.getD i 0 : Nat)) := by
  simp [u8s, h]
theorem u8s_set (l : List Nat) (i v : Nat) : (u8s l).setIfInBounds i (.int .u8 (v : Int)) = u8s (l.set i v) := by
  simp [u8s]
def outAt (s : List Nat) (k : Nat) : List Nat := (s.take k).flatMap by4 ++ List.replicate (32 - 4 * k) 0
theorem by4_length (x : Nat) : (by4 x).length = 4 := rfl
theorem flat4_length (l : List Nat) : (l.flatMap by4).length = 4 * l.length := by
  induction l with
  | nil => rfl
  | cons x l ih => rw [List.flatMap_cons, List.length_append, by4_length, ih, List.length_cons]; omega
theorem outAt_length (s : List Nat) (hs : s.length = 8) (k : Nat) (hk : k ≤ 8) : (outAt s k).length = 32 := by
  unfold outAt
  rw [List.length_append, flat4_length, List.length_take, List.length_replicate]
  omega
theorem outAt_get (s : List Nat) (hs : s.length = 8) (k j : Nat) (hk : k < 8) (hj : j < 4) : ∃ v : Nat, (u8s (outAt s k))[4 * k + j]? = some (.int .u8 (v : Int)) :=
  ⟨_, u8s_get _ _ (by rw [outAt_length s hs k (by omega)]; omega)⟩
theorem outAt_set (s : List Nat) (hs : s.length = 8) (k x : Nat) (hk : k < 8) (hx : s.getD k 0 = x) :
    ((((outAt s k).set (4 * k) (x / 16777216 % 256)).set (4 * k + 1) (x / 65536 % 256)).set (4 * k + 2) (x / 256 % 256)).set (4 * k + 3) (x % 256) = outAt s (k + 1) := by
  have hT : (s.take k).length = k := by rw [List.length_take]; omega
  have hF : ((s.take k).flatMap by4).length = 4 * k := by rw [flat4_length, hT]
  have hn : s.take (k + 1) = s.take k ++ [x] := by
    rw [List.take_succ_eq_append_getElem (by omega), ← hx]
    simp [show k < s.length by omega]
  have hr : List.replicate (32 - 4 * k) 0 = 0 :: 0 :: 0 :: 0 :: List.replicate (32 - 4 * (k + 1)) 0 := by
    rw [show 32 - 4 * k = (32 - 4 * (k + 1)) + 1 + 1 + 1 + 1 by omega]; rfl
  unfold outAt
  rw [hn, List.flatMap_append, hr]
  generalize (s.take k).flatMap by4 = F at hF
  rw [List.set_append_right _ _ (by omega), List.set_append_right _ _ (by omega), List.set_append_right _ _ (by omega), List.set_append_right _ _ (by omega)]
  rw [show 4 * k - F.length = 0 by omega, show 4 * k + 1 - F.length = 1 by omega, show 4 * k + 2 - F.length = 2 by omega, show 4 * k + 3 - F.length = 3 by omega]
  simp [by4]
theorem conv_u8s (w : World) (src dst e T g : Nat) (l : List Nat) (n : Nat) (hs : Try.prog.underlying src = some (.slice e)) (he : Try.prog.underlying e = some (.int .u8)) (hd : Try.prog.underlying dst = some .string)
    (hg : w.heap[g]? = some (.cells (u8s l) T (0, 0))) (hn : l.length = n) (c : Nat) : (convert src dst (.slice (some ⟨g, 0, none⟩) n c)).run Try.prog w = .ok (.string (txt l)) w := by
  rw [← str_nats]
  refine run_convert_bytes_arg w src e hs he g 0 n c _ (by simpa using hn) (fun i hi => ?_) dst hd
  rw [Nat.zero_add, cell_of_row w g i _ _ _ hg, u8s_get l i (by omega)]
  simp [show i < l.length by omega]
theorem index_row (l : List Value) (t e : Nat) (n : Nat) (hu : Try.prog.underlying t = some (.array n e)) (hi : (Try.prog.info? e).map (·.size) = some 1) (hc : ∀ v ∈ l, v.cells = #[v] ∧ ∀ cs, v ≠ .agg cs) (k : Nat) (v : Value) (hk : l[k]? = some v) (hn : l.length = n)
    (hb : ∃ d, Try.prog.underlying e = some d ∧ (match d with | .struct _ | .array _ _ => false | _ => true) = true) (w : World) : (Instr.index t (.agg l.toArray) (.int .i64 (k : Int))).run Try.prog w = .ok v w := by
  have hkl : k < l.length := by
    rcases Nat.lt_or_ge k l.length with h | h
    · exact h
    · rw [List.getElem?_eq_none h] at hk; cases hk
  obtain ⟨d, hd, hd2⟩ := hb
  cases hq : Try.prog.info? e with
  | none => simp [hq] at hi
  | some i =>
    have hs : i.size = 1 := by simpa [hq] using hi
    have hagg : (isAgg e).run Try.prog w = .ok false w := by
      unfold isAgg
      rw [Sem.run_bind, run_underlying hd w]
      cases d <;> simp_all
    simp only [Instr.index, asIntOf, Sem.run_bind, Sem.run_pure, Result.andThen_ok, run_underlying hu w]
    rw [if_pos ⟨by omega, by omega⟩]
    have hso : (sizeOf e).run Try.prog w = .ok 1 w := by simp [sizeOf, typeInfo, hq, hs]
    simp only [hso, Result.andThen_ok, part, Sem.run_bind, Sem.run_pure, hagg]
    simp [hk]
set_option maxRecDepth 100000 in
theorem sums_text.calls (a b c d e f g h : Nat) (w : World) : Calls Try.prog 157 #[.agg #[.int .u32 a, .int .u32 b, .int .u32 c, .int .u32 d, .int .u32 e, .int .u32 f, .int .u32 g, .int .u32 h]] w fun E w' => E = .returned (.string (txt (St.mk a b c d e f g h).bytes)) ∧ Below w.heap.size w w' := by
  have hi : ∀ (k : Nat) w, k < 8 → (Instr.index 188 (.agg #[.int .u32 a, .int .u32 b, .int .u32 c, .int .u32 d, .int .u32 e, .int .u32 f, .int .u32 g, .int .u32 h]) (.int .i64 (k : Int))).run Try.prog w = .ok (.int .u32 (([a, b, c, d, e, f, g, h] : List Nat).getD k 0 : Nat)) w := by
    intro k w hk
    refine index_row [.int .u32 a, .int .u32 b, .int .u32 c, .int .u32 d, .int .u32 e, .int .u32 f, .int .u32 g, .int .u32 h] 188 140 8 Try.underlying188 (by kernel_rfl) ?_ k _ ?_ rfl ⟨_, Try.underlying140, rfl⟩ w
    · simp [Value.cells]
    · rcases k with _ | _ | _ | _ | _ | _ | _ | _ | k <;> first | rfl | omega
  have hcv : ∀ W : World, W.heap[w.heap.size + 1]? = some (.cells (u8s (St.mk a b c d e f g h).bytes) 202 (0, 0)) → (convert 68 9 (.slice (some ⟨w.heap.size + 1, 0, none⟩) 32 32)).run Try.prog W = .ok (.string (txt (St.mk a b c d e f g h).bytes)) W :=
    fun W hW => conv_u8s W 68 9 5 202 _ _ 32 Try.underlying68 Try.underlying5 Try.underlying9 hW rfl 32
  have hcv1 := Aside0.mk hcv
  clear hcv
  go_enter Try.func157, Try.ntmps157
  go_wp2
  go_loopw [7] (fun i wr => ∃ k : Nat, k ≤ 8 ∧ i = .int .i64 k ∧ wr = (w.alloc (.cells #[.int .u32 a, .int .u32 b, .int .u32 c, .int .u32 d, .int .u32 e, .int .u32 f, .int .u32 g, .int .u32 h] 188)).alloc (.cells (u8s (outAt [a, b, c, d, e, f, g, h] k)) 202)) (fun i _ => 8 - (intOf i).toNat)
  case atStart => exact ⟨0, by omega, rfl, rfl⟩
  case round =>
    obtain ⟨k, hk, rfl, rfl⟩ := hrel
    by_cases hlt : k < 8
    · have hi' := hi k
      clear hi
      have hj : ∀ w, (Instr.index 188 (.agg #[.int .u32 a, .int .u32 b, .int .u32 c, .int .u32 d, .int .u32 e, .int .u32 f, .int .u32 g, .int .u32 h]) (.int .i64 (k : Int))).run Try.prog w = .ok (.int .u32 (([a, b, c, d, e, f, g, h] : List Nat).getD k 0 : Nat)) w := fun w => hi' w hlt
      clear hi'
      generalize hx : (([a, b, c, d, e, f, g, h] : List Nat).getD k 0 : Nat) = x at hj
      have Hx := Aside0.mk hx
      clear hx
      have hs : ([a, b, c, d, e, f, g, h] : List Nat).length = 8 := rfl
      obtain ⟨v0, hv0⟩ := outAt_get [a, b, c, d, e, f, g, h] hs k 0 hlt (by omega)
      obtain ⟨v1, hv1⟩ := outAt_get [a, b, c, d, e, f, g, h] hs k 1 hlt (by omega)
      obtain ⟨v2, hv2⟩ := outAt_get [a, b, c, d, e, f, g, h] hs k 2 hlt (by omega)
      obtain ⟨v3, hv3⟩ := outAt_get [a, b, c, d, e, f, g, h] hs k 3 hlt (by omega)
      rw [Nat.add_zero] at hv0
      clear hs
      go_wp2
      refine ⟨⟨k + 1, by omega, by go_num, ?_⟩, by simp [intOf]; omega⟩
      have e := outAt_set [a, b, c, d, e, f, g, h] rfl k x hlt Hx.out
      rw [← e, ← u8s_set, ← u8s_set, ← u8s_set, ← u8s_set]
      rfl
    · have hk8 : k = 8 := by omega
      subst hk8
      clear hi hlt
      have hcv := hcv1.out ((w.alloc (.cells #[.int .u32 a, .int .u32 b, .int .u32 c, .int .u32 d, .int .u32 e, .int .u32 f, .int .u32 g, .int .u32 h] 188)).alloc (.cells (u8s (outAt [a, b, c, d, e, f, g, h] 8)) 202)) (by rw [show outAt [a, b, c, d, e, f, g, h] 8 = (St.mk a b c d e f g h).bytes by simp [outAt, St.bytes, St.list]]; exact heap_alloc2_new _ _ _)
      go_wp2
      go_ret
      exact ⟨rfl, ((Below.refl _ _).alloc (Nat.le_refl _) _).alloc (by simp) _⟩
end Go.Proofs.Ytbkbganflnemeaa.Pr
namespace Go.Proofs.Ytbkbganflnemeaa.Pr
open Go.RowKit Go.Proofs.YtbkbganflnemeaaW.PrintWords
set_option maxHeartbeats 400000
set_option linter.unusedVariables false
set_option linter.unusedSimpArgs false
theorem wraps_u32 (n : Int) (h₀ : 0 ≤ n) (h₁ : n < 2 ^ 32) : IntKind.u32.wrap n = n := by rw [IntKind.wrap_u32]; omega
theorem or32 (a b : Nat) (ha : a < 4294967296) (hb : b < 4294967296) : bits .or .u32 (a : Int) (b : Int) = ((a ||| b : Nat) : Int) :=
  (bits_nat .u32 32 (by decide) wraps_u32 a b (by simpa using ha) (by simpa using hb)).2
theorem and32 (a b : Nat) (ha : a < 4294967296) (hb : b < 4294967296) : bits .and .u32 (a : Int) (b : Int) = ((a &&& b : Nat) : Int) :=
  (bits_nat .u32 32 (by decide) wraps_u32 a b (by simpa using ha) (by simpa using hb)).1
theorem xor32 (a b : Nat) (ha : a < 4294967296) (hb : b < 4294967296) : bits .xor .u32 (a : Int) (b : Int) = ((a ^^^ b : Nat) : Int) := by
  have ha' : a % 2 ^ 32 = a := Nat.mod_eq_of_lt (by simpa using ha)
  have hb' : b % 2 ^ 32 = b := Nat.mod_eq_of_lt (by simpa using hb)
  have hx : a ^^^ b < 2 ^ 32 := Nat.xor_lt_two_pow (by simpa using ha) (by simpa using hb)
  have e : bits .xor .u32 (a : Int) (b : Int) = IntKind.u32.wrap ((a ^^^ b : Nat) : Int) := by
    simp only [bits, BitVec.ofInt_natCast, BitVec.toNat_xor, BitVec.toNat_ofNat]
    rw [show (IntKind.u32.bits) = 32 from rfl, ha', hb']
  rw [e]
  exact wraps_u32 _ (Int.natCast_nonneg _) (by exact_mod_cast hx)
theorem rotr_lt (x n : Nat) (hx : x < 4294967296) : rotr x n < 4294967296 := by
  unfold rotr
  have h1 : x >>> n < 2 ^ 32 := by rw [Nat.shiftRight_eq_div_pow]; exact Nat.lt_of_le_of_lt (Nat.div_le_self _ _) (by simpa using hx)
  exact Nat.or_lt_two_pow h1 (Nat.mod_lt _ (by decide))
theorem rot_or (x n p q : Nat) (hx : x < 4294967296) (hq : 2 ^ n = q) (hp : 2 ^ (32 - n) = p) : bits .or .u32 ((x : Int) * (p : Int) % 4294967296) ((x : Int) / (q : Int)) = ((rotr x n : Nat) : Int) := by
  have e1 : ((x : Int) * (p : Int) % 4294967296) = ((x * p % 4294967296 : Nat) : Int) := by simp
  have e2 : ((x : Int) / (q : Int)) = ((x / q : Nat) : Int) := by simp
  rw [e1, e2, or32 _ _ (Nat.mod_lt _ (by decide)) (Nat.lt_of_le_of_lt (Nat.div_le_self _ _) hx)]
  unfold rotr
  rw [Nat.shiftRight_eq_div_pow, Nat.shiftLeft_eq, hq, hp, Nat.or_comm]
theorem right_2 (x : Nat) (w : World) (hx : x < 4294967296) : Calls Try.prog 169 #[.int .u32 x, .int .i64 2] w fun e w' => e = .returned (.int .u32 (rotr x 2 : Nat)) ∧ w' = w := by
  have h1 : bits .and .u64 (IntKind.u64.wrap (-2)) 31 = 30 := by kernel_rfl
  have h2 : IntKind.u64.wrap (32 - 30) = 2 := by kernel_rfl
  go_enter Try.func169, Try.ntmps169
  go_wp2
  go_ret
  exact ⟨congrArg (fun z => Ending.returned (Value.int .u32 z)) (rot_or x 2 1073741824 4 hx (by decide) (by decide)), rfl⟩
theorem right_6 (x : Nat) (w : World) (hx : x < 4294967296) : Calls Try.prog 169 #[.int .u32 x, .int .i64 6] w fun e w' => e = .returned (.int .u32 (rotr x 6 : Nat)) ∧ w' = w := by
  have h1 : bits .and .u64 (IntKind.u64.wrap (-6)) 31 = 26 := by kernel_rfl
  have h2 : IntKind.u64.wrap (32 - 26) = 6 := by kernel_rfl
  go_enter Try.func169, Try.ntmps169
  go_wp2
  go_ret
  exact ⟨congrArg (fun z => Ending.returned (Value.int .u32 z)) (rot_or x 6 67108864 64 hx (by decide) (by decide)), rfl⟩
theorem right_7 (x : Nat) (w : World) (hx : x < 4294967296) : Calls Try.prog 169 #[.int .u32 x, .int .i64 7] w fun e w' => e = .returned (.int .u32 (rotr x 7 : Nat)) ∧ w' = w := by
  have h1 : bits .and .u64 (IntKind.u64.wrap (-7)) 31 = 25 := by kernel_rfl
  have h2 : IntKind.u64.wrap (32 - 25) = 7 := by kernel_rfl
  go_enter Try.func169, Try.ntmps169
  go_wp2
  go_ret
  exact ⟨congrArg (fun z => Ending.returned (Value.int .u32 z)) (rot_or x 7 33554432 128 hx (by decide) (by decide)), rfl⟩
theorem right_11 (x : Nat) (w : World) (hx : x < 4294967296) : Calls Try.prog 169 #[.int .u32 x, .int .i64 11] w fun e w' => e = .returned (.int .u32 (rotr x 11 : Nat)) ∧ w' = w := by
  have h1 : bits .and .u64 (IntKind.u64.wrap (-11)) 31 = 21 := by kernel_rfl
  have h2 : IntKind.u64.wrap (32 - 21) = 11 := by kernel_rfl
  go_enter Try.func169, Try.ntmps169
  go_wp2
  go_ret
  exact ⟨congrArg (fun z => Ending.returned (Value.int .u32 z)) (rot_or x 11 2097152 2048 hx (by decide) (by decide)), rfl⟩
theorem right_13 (x : Nat) (w : World) (hx : x < 4294967296) : Calls Try.prog 169 #[.int .u32 x, .int .i64 13] w fun e w' => e = .returned (.int .u32 (rotr x 13 : Nat)) ∧ w' = w := by
  have h1 : bits .and .u64 (IntKind.u64.wrap (-13)) 31 = 19 := by kernel_rfl
  have h2 : IntKind.u64.wrap (32 - 19) = 13 := by kernel_rfl
  go_enter Try.func169, Try.ntmps169
  go_wp2
  go_ret
  exact ⟨congrArg (fun z => Ending.returned (Value.int .u32 z)) (rot_or x 13 524288 8192 hx (by decide) (by decide)), rfl⟩
theorem right_17 (x : Nat) (w : World) (hx : x < 4294967296) : Calls Try.prog 169 #[.int .u32 x, .int .i64 17] w fun e w' => e = .returned (.int .u32 (rotr x 17 : Nat)) ∧ w' = w := by
  have h1 : bits .and .u64 (IntKind.u64.wrap (-17)) 31 = 15 := by kernel_rfl
  have h2 : IntKind.u64.wrap (32 - 15) = 17 := by kernel_rfl
  go_enter Try.func169, Try.ntmps169
  go_wp2
  go_ret
  exact ⟨congrArg (fun z => Ending.returned (Value.int .u32 z)) (rot_or x 17 32768 131072 hx (by decide) (by decide)), rfl⟩
theorem right_18 (x : Nat) (w : World) (hx : x < 4294967296) : Calls Try.prog 169 #[.int .u32 x, .int .i64 18] w fun e w' => e = .returned (.int .u32 (rotr x 18 : Nat)) ∧ w' = w := by
  have h1 : bits .and .u64 (IntKind.u64.wrap (-18)) 31 = 14 := by kernel_rfl
  have h2 : IntKind.u64.wrap (32 - 14) = 18 := by kernel_rfl
  go_enter Try.func169, Try.ntmps169
  go_wp2
  go_ret
  exact ⟨congrArg (fun z => Ending.returned (Value.int .u32 z)) (rot_or x 18 16384 262144 hx (by decide) (by decide)), rfl⟩
theorem right_19 (x : Nat) (w : World) (hx : x < 4294967296) : Calls Try.prog 169 #[.int .u32 x, .int .i64 19] w fun e w' => e = .returned (.int .u32 (rotr x 19 : Nat)) ∧ w' = w := by
  have h1 : bits .and .u64 (IntKind.u64.wrap (-19)) 31 = 13 := by kernel_rfl
  have h2 : IntKind.u64.wrap (32 - 13) = 19 := by kernel_rfl
  go_enter Try.func169, Try.ntmps169
  go_wp2
  go_ret
  exact ⟨congrArg (fun z => Ending.returned (Value.int .u32 z)) (rot_or x 19 8192 524288 hx (by decide) (by decide)), rfl⟩
theorem right_22 (x : Nat) (w : World) (hx : x < 4294967296) : Calls Try.prog 169 #[.int .u32 x, .int .i64 22] w fun e w' => e = .returned (.int .u32 (rotr x 22 : Nat)) ∧ w' = w := by
  have h1 : bits .and .u64 (IntKind.u64.wrap (-22)) 31 = 10 := by kernel_rfl
  have h2 : IntKind.u64.wrap (32 - 10) = 22 := by kernel_rfl
  go_enter Try.func169, Try.ntmps169
  go_wp2
  go_ret
  exact ⟨congrArg (fun z => Ending.returned (Value.int .u32 z)) (rot_or x 22 1024 4194304 hx (by decide) (by decide)), rfl⟩
theorem right_25 (x : Nat) (w : World) (hx : x < 4294967296) : Calls Try.prog 169 #[.int .u32 x, .int .i64 25] w fun e w' => e = .returned (.int .u32 (rotr x 25 : Nat)) ∧ w' = w := by
  have h1 : bits .and .u64 (IntKind.u64.wrap (-25)) 31 = 7 := by kernel_rfl
  have h2 : IntKind.u64.wrap (32 - 7) = 25 := by kernel_rfl
  go_enter Try.func169, Try.ntmps169
  go_wp2
  go_ret
  exact ⟨congrArg (fun z => Ending.returned (Value.int .u32 z)) (rot_or x 25 128 33554432 hx (by decide) (by decide)), rfl⟩
end Go.Proofs.Ytbkbganflnemeaa.Pr
namespace Go.Proofs.Ytbkbganflnemeaa.Pr
open Go.RowKit Go.Proofs.YtbkbganflnemeaaW.PrintWords
set_option maxHeartbeats 1000000
set_option linter.unusedVariables false
set_option linter.unusedSimpArgs false
theorem wraps_i62 (n : Int) (h₀ : 0 ≤ n) (h₁ : n < 2 ^ 62) : IntKind.i64.wrap n = n := by rw [IntKind.wrap_i64]; omega
theorem or62 (a b : Nat) (ha : a < 4611686018427387904) (hb : b < 4611686018427387904) : bits .or .i64 (a : Int) (b : Int) = ((a ||| b : Nat) : Int) :=
  (bits_nat .i64 62 (by decide) wraps_i62 a b (by simpa using ha) (by simpa using hb)).2
theorem and62 (a b : Nat) (ha : a < 4611686018427387904) (hb : b < 4611686018427387904) : bits .and .i64 (a : Int) (b : Int) = ((a &&& b : Nat) : Int) :=
  (bits_nat .i64 62 (by decide) wraps_i62 a b (by simpa using ha) (by simpa using hb)).1
theorem xor62 (a b : Nat) (ha : a < 4611686018427387904) (hb : b < 4611686018427387904) : bits .xor .i64 (a : Int) (b : Int) = ((a ^^^ b : Nat) : Int) := by
  have ha' : a % 2 ^ 64 = a := Nat.mod_eq_of_lt (by have : (4611686018427387904 : Nat) < 2 ^ 64 := by decide
                                                    omega)
  have hb' : b % 2 ^ 64 = b := Nat.mod_eq_of_lt (by have : (4611686018427387904 : Nat) < 2 ^ 64 := by decide
                                                    omega)
  have hx : a ^^^ b < 2 ^ 62 := Nat.xor_lt_two_pow (by simpa using ha) (by simpa using hb)
  have e : bits .xor .i64 (a : Int) (b : Int) = IntKind.i64.wrap ((a ^^^ b : Nat) : Int) := by
    simp only [bits, BitVec.ofInt_natCast, BitVec.toNat_xor, BitVec.toNat_ofNat]
    rw [show (IntKind.i64.bits) = 64 from rfl, ha', hb']
  rw [e]
  exact wraps_i62 _ (Int.natCast_nonneg _) (by exact_mod_cast hx)
theorem mask62 (a : Nat) (ha : a < 4611686018427387904) : bits .and .i64 (a : Int) 4294967295 = ((a % 4294967296 : Nat) : Int) := by
  have := and62 a 4294967295 ha (by decide)
  rw [show ((4294967295 : Nat) : Int) = 4294967295 from rfl] at this
  rw [this, show (4294967295 : Nat) = 2 ^ 32 - 1 from rfl, Nat.and_two_pow_sub_one_eq_mod]
theorem word_any (a : Nat) (w : World) (ha : a < 4611686018427387904) : Calls Try.prog 166 #[.int .i64 a] w fun e w' => e = .returned (.int .i64 (a % 4294967296 : Nat)) ∧ w' = w := by
  have h := mask62 a ha
  have H := Aside0.mk h
  clear h
  go_enter Try.func166, Try.ntmps166
  go_wp2
  go_ret
  exact ⟨congrArg (fun z => Ending.returned (Value.int .i64 z)) H.out, rfl⟩
theorem rot_or62 (x n p q : Nat) (hx : x < 4294967296) (hp4 : p ≤ 1073741824) (hq : 2 ^ n = q) (hp : 2 ^ (32 - n) = p) : (x * p ||| x / q) % 4294967296 = rotr x n := by
  unfold rotr
  rw [Nat.shiftRight_eq_div_pow, Nat.shiftLeft_eq, hq, hp, Nat.or_comm (x / q), show (4294967296 : Nat) = 2 ^ 32 from rfl, Nat.or_mod_two_pow]
  rw [Nat.mod_eq_of_lt (a := x / q) (Nat.lt_of_le_of_lt (Nat.div_le_self _ _) hx)]
set_option maxRecDepth 100000
theorem rright_2 (x : Nat) (w : World) (hx : x < 4294967296) : Calls Try.prog 167 #[.int .i64 x, .int .i64 2] w fun e w' => e = .returned (.int .i64 (rotr x 2 : Nat)) ∧ Drawn0 w w' := by
  have h1 : bits .and .i64 30 31 = 30 := by kernel_rfl
  have h3 : bits .or .i64 ((x : Int) * 1073741824) ((x : Int) / 4) = ((x * 1073741824 ||| x / 4 : Nat) : Int) := by
    have := or62 (x * 1073741824) (x / 4) (by omega) (by omega)
    rw [← this]; simp
  have hlt : x * 1073741824 ||| x / 4 < 4611686018427387904 := by
    have h4 : x * 1073741824 < 2 ^ 62 := by omega
    have h5 : x / 4 < 2 ^ 62 := by omega
    exact Nat.or_lt_two_pow h4 h5
  have hm : x % 4294967296 = x := Nat.mod_eq_of_lt hx
  have hm2 : (x : Int) % 4294967296 = x := by omega
  have HLT := Aside0.mk hlt
  clear hlt
  go_enter Try.func167, Try.ntmps167
  go_wp2
  go_quiet ((first | (go_at_call 166; exact Calls.quiet_of_same (word_any x _ (by omega))) | (go_at_call 166; exact Calls.quiet_of_same (word_any (x * 1073741824 ||| x / 4) _ HLT.out))))
  go_wp2
  go_ret
  exact ⟨by first | exact congrArg (fun z => Ending.returned (Value.int .i64 z)) (congrArg (Nat.cast (R := Int)) (rot_or62 x 2 1073741824 4 hx (by decide) (by decide) (by decide))) | (rw [← rot_or62 x 2 1073741824 4 hx (by decide) (by decide) (by decide)]; simp), ⟨⟨_, rfl⟩⟩⟩
theorem rright_6 (x : Nat) (w : World) (hx : x < 4294967296) : Calls Try.prog 167 #[.int .i64 x, .int .i64 6] w fun e w' => e = .returned (.int .i64 (rotr x 6 : Nat)) ∧ Drawn0 w w' := by
  have h1 : bits .and .i64 26 31 = 26 := by kernel_rfl
  have h3 : bits .or .i64 ((x : Int) * 67108864) ((x : Int) / 64) = ((x * 67108864 ||| x / 64 : Nat) : Int) := by
    have := or62 (x * 67108864) (x / 64) (by omega) (by omega)
    rw [← this]; simp
  have hlt : x * 67108864 ||| x / 64 < 4611686018427387904 := by
    have h4 : x * 67108864 < 2 ^ 62 := by omega
    have h5 : x / 64 < 2 ^ 62 := by omega
    exact Nat.or_lt_two_pow h4 h5
  have hm : x % 4294967296 = x := Nat.mod_eq_of_lt hx
  have hm2 : (x : Int) % 4294967296 = x := by omega
  have HLT := Aside0.mk hlt
  clear hlt
  go_enter Try.func167, Try.ntmps167
  go_wp2
  go_quiet ((first | (go_at_call 166; exact Calls.quiet_of_same (word_any x _ (by omega))) | (go_at_call 166; exact Calls.quiet_of_same (word_any (x * 67108864 ||| x / 64) _ HLT.out))))
  go_wp2
  go_ret
  exact ⟨by first | exact congrArg (fun z => Ending.returned (Value.int .i64 z)) (congrArg (Nat.cast (R := Int)) (rot_or62 x 6 67108864 64 hx (by decide) (by decide) (by decide))) | (rw [← rot_or62 x 6 67108864 64 hx (by decide) (by decide) (by decide)]; simp), ⟨⟨_, rfl⟩⟩⟩
theorem rright_7 (x : Nat) (w : World) (hx : x < 4294967296) : Calls Try.prog 167 #[.int .i64 x, .int .i64 7] w fun e w' => e = .returned (.int .i64 (rotr x 7 : Nat)) ∧ Drawn0 w w' := by
  have h1 : bits .and .i64 25 31 = 25 := by kernel_rfl
  have h3 : bits .or .i64 ((x : Int) * 33554432) ((x : Int) / 128) = ((x * 33554432 ||| x / 128 : Nat) : Int) := by
    have := or62 (x * 33554432) (x / 128) (by omega) (by omega)
    rw [← this]; simp
  have hlt : x * 33554432 ||| x / 128 < 4611686018427387904 := by
    have h4 : x * 33554432 < 2 ^ 62 := by omega
    have h5 : x / 128 < 2 ^ 62 := by omega
    exact Nat.or_lt_two_pow h4 h5
  have hm : x % 4294967296 = x := Nat.mod_eq_of_lt hx
  have hm2 : (x : Int) % 4294967296 = x := by omega
  have HLT := Aside0.mk hlt
  clear hlt
  go_enter Try.func167, Try.ntmps167
  go_wp2
  go_quiet ((first | (go_at_call 166; exact Calls.quiet_of_same (word_any x _ (by omega))) | (go_at_call 166; exact Calls.quiet_of_same (word_any (x * 33554432 ||| x / 128) _ HLT.out))))
  go_wp2
  go_ret
  exact ⟨by first | exact congrArg (fun z => Ending.returned (Value.int .i64 z)) (congrArg (Nat.cast (R := Int)) (rot_or62 x 7 33554432 128 hx (by decide) (by decide) (by decide))) | (rw [← rot_or62 x 7 33554432 128 hx (by decide) (by decide) (by decide)]; simp), ⟨⟨_, rfl⟩⟩⟩
theorem rright_11 (x : Nat) (w : World) (hx : x < 4294967296) : Calls Try.prog 167 #[.int .i64 x, .int .i64 11] w fun e w' => e = .returned (.int .i64 (rotr x 11 : Nat)) ∧ Drawn0 w w' := by
  have h1 : bits .and .i64 21 31 = 21 := by kernel_rfl
  have h3 : bits .or .i64 ((x : Int) * 2097152) ((x : Int) / 2048) = ((x * 2097152 ||| x / 2048 : Nat) : Int) := by
    have := or62 (x * 2097152) (x / 2048) (by omega) (by omega)
    rw [← this]; simp
  have hlt : x * 2097152 ||| x / 2048 < 4611686018427387904 := by
    have h4 : x * 2097152 < 2 ^ 62 := by omega
    have h5 : x / 2048 < 2 ^ 62 := by omega
    exact Nat.or_lt_two_pow h4 h5
  have hm : x % 4294967296 = x := Nat.mod_eq_of_lt hx
  have hm2 : (x : Int) % 4294967296 = x := by omega
  have HLT := Aside0.mk hlt
  clear hlt
  go_enter Try.func167, Try.ntmps167
  go_wp2
  go_quiet ((first | (go_at_call 166; exact Calls.quiet_of_same (word_any x _ (by omega))) | (go_at_call 166; exact Calls.quiet_of_same (word_any (x * 2097152 ||| x / 2048) _ HLT.out))))
  go_wp2
  go_ret
  exact ⟨by first | exact congrArg (fun z => Ending.returned (Value.int .i64 z)) (congrArg (Nat.cast (R := Int)) (rot_or62 x 11 2097152 2048 hx (by decide) (by decide) (by decide))) | (rw [← rot_or62 x 11 2097152 2048 hx (by decide) (by decide) (by decide)]; simp), ⟨⟨_, rfl⟩⟩⟩
theorem rright_13 (x : Nat) (w : World) (hx : x < 4294967296) : Calls Try.prog 167 #[.int .i64 x, .int .i64 13] w fun e w' => e = .returned (.int .i64 (rotr x 13 : Nat)) ∧ Drawn0 w w' := by
  have h1 : bits .and .i64 19 31 = 19 := by kernel_rfl
  have h3 : bits .or .i64 ((x : Int) * 524288) ((x : Int) / 8192) = ((x * 524288 ||| x / 8192 : Nat) : Int) := by
    have := or62 (x * 524288) (x / 8192) (by omega) (by omega)
    rw [← this]; simp
  have hlt : x * 524288 ||| x / 8192 < 4611686018427387904 := by
    have h4 : x * 524288 < 2 ^ 62 := by omega
    have h5 : x / 8192 < 2 ^ 62 := by omega
    exact Nat.or_lt_two_pow h4 h5
  have hm : x % 4294967296 = x := Nat.mod_eq_of_lt hx
  have hm2 : (x : Int) % 4294967296 = x := by omega
  have HLT := Aside0.mk hlt
  clear hlt
  go_enter Try.func167, Try.ntmps167
  go_wp2
  go_quiet ((first | (go_at_call 166; exact Calls.quiet_of_same (word_any x _ (by omega))) | (go_at_call 166; exact Calls.quiet_of_same (word_any (x * 524288 ||| x / 8192) _ HLT.out))))
  go_wp2
  go_ret
  exact ⟨by first | exact congrArg (fun z => Ending.returned (Value.int .i64 z)) (congrArg (Nat.cast (R := Int)) (rot_or62 x 13 524288 8192 hx (by decide) (by decide) (by decide))) | (rw [← rot_or62 x 13 524288 8192 hx (by decide) (by decide) (by decide)]; simp), ⟨⟨_, rfl⟩⟩⟩
theorem rright_17 (x : Nat) (w : World) (hx : x < 4294967296) : Calls Try.prog 167 #[.int .i64 x, .int .i64 17] w fun e w' => e = .returned (.int .i64 (rotr x 17 : Nat)) ∧ Drawn0 w w' := by
  have h1 : bits .and .i64 15 31 = 15 := by kernel_rfl
  have h3 : bits .or .i64 ((x : Int) * 32768) ((x : Int) / 131072) = ((x * 32768 ||| x / 131072 : Nat) : Int) := by
    have := or62 (x * 32768) (x / 131072) (by omega) (by omega)
    rw [← this]; simp
  have hlt : x * 32768 ||| x / 131072 < 4611686018427387904 := by
    have h4 : x * 32768 < 2 ^ 62 := by omega
    have h5 : x / 131072 < 2 ^ 62 := by omega
    exact Nat.or_lt_two_pow h4 h5
  have hm : x % 4294967296 = x := Nat.mod_eq_of_lt hx
  have hm2 : (x : Int) % 4294967296 = x := by omega
  have HLT := Aside0.mk hlt
  clear hlt
  go_enter Try.func167, Try.ntmps167
  go_wp2
  go_quiet ((first | (go_at_call 166; exact Calls.quiet_of_same (word_any x _ (by omega))) | (go_at_call 166; exact Calls.quiet_of_same (word_any (x * 32768 ||| x / 131072) _ HLT.out))))
  go_wp2
  go_ret
  exact ⟨by first | exact congrArg (fun z => Ending.returned (Value.int .i64 z)) (congrArg (Nat.cast (R := Int)) (rot_or62 x 17 32768 131072 hx (by decide) (by decide) (by decide))) | (rw [← rot_or62 x 17 32768 131072 hx (by decide) (by decide) (by decide)]; simp), ⟨⟨_, rfl⟩⟩⟩
theorem rright_18 (x : Nat) (w : World) (hx : x < 4294967296) : Calls Try.prog 167 #[.int .i64 x, .int .i64 18] w fun e w' => e = .returned (.int .i64 (rotr x 18 : Nat)) ∧ Drawn0 w w' := by
  have h1 : bits .and .i64 14 31 = 14 := by kernel_rfl
  have h3 : bits .or .i64 ((x : Int) * 16384) ((x : Int) / 262144) = ((x * 16384 ||| x / 262144 : Nat) : Int) := by
    have := or62 (x * 16384) (x / 262144) (by omega) (by omega)
    rw [← this]; simp
  have hlt : x * 16384 ||| x / 262144 < 4611686018427387904 := by
    have h4 : x * 16384 < 2 ^ 62 := by omega
    have h5 : x / 262144 < 2 ^ 62 := by omega
    exact Nat.or_lt_two_pow h4 h5
  have hm : x % 4294967296 = x := Nat.mod_eq_of_lt hx
  have hm2 : (x : Int) % 4294967296 = x := by omega
  have HLT := Aside0.mk hlt
  clear hlt
  go_enter Try.func167, Try.ntmps167
  go_wp2
  go_quiet ((first | (go_at_call 166; exact Calls.quiet_of_same (word_any x _ (by omega))) | (go_at_call 166; exact Calls.quiet_of_same (word_any (x * 16384 ||| x / 262144) _ HLT.out))))
  go_wp2
  go_ret
  exact ⟨by first | exact congrArg (fun z => Ending.returned (Value.int .i64 z)) (congrArg (Nat.cast (R := Int)) (rot_or62 x 18 16384 262144 hx (by decide) (by decide) (by decide))) | (rw [← rot_or62 x 18 16384 262144 hx (by decide) (by decide) (by decide)]; simp), ⟨⟨_, rfl⟩⟩⟩
theorem rright_19 (x : Nat) (w : World) (hx : x < 4294967296) : Calls Try.prog 167 #[.int .i64 x, .int .i64 19] w fun e w' => e = .returned (.int .i64 (rotr x 19 : Nat)) ∧ Drawn0 w w' := by
  have h1 : bits .and .i64 13 31 = 13 := by kernel_rfl
  have h3 : bits .or .i64 ((x : Int) * 8192) ((x : Int) / 524288) = ((x * 8192 ||| x / 524288 : Nat) : Int) := by
    have := or62 (x * 8192) (x / 524288) (by omega) (by omega)
    rw [← this]; simp
  have hlt : x * 8192 ||| x / 524288 < 4611686018427387904 := by
    have h4 : x * 8192 < 2 ^ 62 := by omega
    have h5 : x / 524288 < 2 ^ 62 := by omega
    exact Nat.or_lt_two_pow h4 h5
  have hm : x % 4294967296 = x := Nat.mod_eq_of_lt hx
  have hm2 : (x : Int) % 4294967296 = x := by omega
  have HLT := Aside0.mk hlt
  clear hlt
  go_enter Try.func167, Try.ntmps167
  go_wp2
  go_quiet ((first | (go_at_call 166; exact Calls.quiet_of_same (word_any x _ (by omega))) | (go_at_call 166; exact Calls.quiet_of_same (word_any (x * 8192 ||| x / 524288) _ HLT.out))))
  go_wp2
  go_ret
  exact ⟨by first | exact congrArg (fun z => Ending.returned (Value.int .i64 z)) (congrArg (Nat.cast (R := Int)) (rot_or62 x 19 8192 524288 hx (by decide) (by decide) (by decide))) | (rw [← rot_or62 x 19 8192 524288 hx (by decide) (by decide) (by decide)]; simp), ⟨⟨_, rfl⟩⟩⟩
theorem rright_22 (x : Nat) (w : World) (hx : x < 4294967296) : Calls Try.prog 167 #[.int .i64 x, .int .i64 22] w fun e w' => e = .returned (.int .i64 (rotr x 22 : Nat)) ∧ Drawn0 w w' := by
  have h1 : bits .and .i64 10 31 = 10 := by kernel_rfl
  have h3 : bits .or .i64 ((x : Int) * 1024) ((x : Int) / 4194304) = ((x * 1024 ||| x / 4194304 : Nat) : Int) := by
    have := or62 (x * 1024) (x / 4194304) (by omega) (by omega)
    rw [← this]; simp
  have hlt : x * 1024 ||| x / 4194304 < 4611686018427387904 := by
    have h4 : x * 1024 < 2 ^ 62 := by omega
    have h5 : x / 4194304 < 2 ^ 62 := by omega
    exact Nat.or_lt_two_pow h4 h5
  have hm : x % 4294967296 = x := Nat.mod_eq_of_lt hx
  have hm2 : (x : Int) % 4294967296 = x := by omega
  have HLT := Aside0.mk hlt
  clear hlt
  go_enter Try.func167, Try.ntmps167
  go_wp2
  go_quiet ((first | (go_at_call 166; exact Calls.quiet_of_same (word_any x _ (by omega))) | (go_at_call 166; exact Calls.quiet_of_same (word_any (x * 1024 ||| x / 4194304) _ HLT.out))))
  go_wp2
  go_ret
  exact ⟨by first | exact congrArg (fun z => Ending.returned (Value.int .i64 z)) (congrArg (Nat.cast (R := Int)) (rot_or62 x 22 1024 4194304 hx (by decide) (by decide) (by decide))) | (rw [← rot_or62 x 22 1024 4194304 hx (by decide) (by decide) (by decide)]; simp), ⟨⟨_, rfl⟩⟩⟩
theorem rright_25 (x : Nat) (w : World) (hx : x < 4294967296) : Calls Try.prog 167 #[.int .i64 x, .int .i64 25] w fun e w' => e = .returned (.int .i64 (rotr x 25 : Nat)) ∧ Drawn0 w w' := by
  have h1 : bits .and .i64 7 31 = 7 := by kernel_rfl
  have h3 : bits .or .i64 ((x : Int) * 128) ((x : Int) / 33554432) = ((x * 128 ||| x / 33554432 : Nat) : Int) := by
    have := or62 (x * 128) (x / 33554432) (by omega) (by omega)
    rw [← this]; simp
  have hlt : x * 128 ||| x / 33554432 < 4611686018427387904 := by
    have h4 : x * 128 < 2 ^ 62 := by omega
    have h5 : x / 33554432 < 2 ^ 62 := by omega
    exact Nat.or_lt_two_pow h4 h5
  have hm : x % 4294967296 = x := Nat.mod_eq_of_lt hx
  have hm2 : (x : Int) % 4294967296 = x := by omega
  have HLT := Aside0.mk hlt
  clear hlt
  go_enter Try.func167, Try.ntmps167
  go_wp2
  go_quiet ((first | (go_at_call 166; exact Calls.quiet_of_same (word_any x _ (by omega))) | (go_at_call 166; exact Calls.quiet_of_same (word_any (x * 128 ||| x / 33554432) _ HLT.out))))
  go_wp2
  go_ret
  exact ⟨by first | exact congrArg (fun z => Ending.returned (Value.int .i64 z)) (congrArg (Nat.cast (R := Int)) (rot_or62 x 25 128 33554432 hx (by decide) (by decide) (by decide))) | (rw [← rot_or62 x 25 128 33554432 hx (by decide) (by decide) (by decide)]; simp), ⟨⟨_, rfl⟩⟩⟩
def rrOk (n : Int) : Bool := [2, 6, 7, 11, 13, 17, 18, 19, 22, 25].contains n
def samphireref02_right.f (a0 a1 : Int) : Option Int := if 0 ≤ a0 ∧ a0 < 4294967296 ∧ rrOk a1 = true then some ((rotr a0.toNat a1.toNat : Nat) : Int) else none
theorem samphireref02_right.at_ (x : Nat) (n : Nat) (hx : x < 4294967296) (hn : rrOk n = true) : samphireref02_right.f x n = some ((rotr x n : Nat) : Int) := by
  unfold samphireref02_right.f
  rw [if_pos ⟨by omega, by omega, hn⟩]
  simp
theorem samphireref02_right.calls (a0 : Int) (a1 : Int) (r : Int) (w : World) (h : samphireref02_right.f a0 a1 = some r) :
    Calls Try.prog 167 #[.int .i64 a0, .int .i64 a1] w fun e w' => e = .returned (.int .i64 r) ∧ Drawn0 w w' := by
  unfold samphireref02_right.f at h
  by_cases hc : 0 ≤ a0 ∧ a0 < 4294967296 ∧ rrOk a1 = true
  · rw [if_pos hc] at h
    obtain rfl := Option.some.inj h
    obtain ⟨h0, h1, h2⟩ := hc
    obtain ⟨x, rfl⟩ := Int.eq_ofNat_of_zero_le h0
    have hx : x < 4294967296 := by omega
    have h3 : a1 ∈ ([2, 6, 7, 11, 13, 17, 18, 19, 22, 25] : List Int) := by
      unfold rrOk at h2
      exact List.contains_iff_mem.1 h2
    clear h h1 h2
    simp only [List.mem_cons, List.not_mem_nil, or_false] at h3
    rw [Int.toNat_natCast]
    rcases h3 with rfl | rfl | rfl | rfl | rfl | rfl | rfl | rfl | rfl | rfl
    · exact rright_2 x w hx
    · exact rright_6 x w hx
    · exact rright_7 x w hx
    · exact rright_11 x w hx
    · exact rright_13 x w hx
    · exact rright_17 x w hx
    · exact rright_18 x w hx
    · exact rright_19 x w hx
    · exact rright_22 x w hx
    · exact rright_25 x w hx
  · rw [if_neg hc] at h
    cases h
end Go.Proofs.Ytbkbganflnemeaa.Pr
end

section
namespace Go.Proofs.Ytbkbganflnemeaa.Pr
open Go.RowKit Go.Proofs.YtbkbganflnemeaaW.PrintWords Go.Proofs.YtbkbganflnemeaaW.PrintLast Go.Proofs.YtbkbganflnemeaaW.PrintMore
attribute [local go_sem] max2_int min2_int max_two min_two max_three min_three max_four min_four   -- for this text's walks alone
set_option linter.unusedVariables false
set_option linter.unusedSimpArgs false
def sha_big.f (a0 : ByteArray) : Option (Int) := if 0 < (a0.size : Int) then (if 1 < (a0.size : Int) then (if 2 < (a0.size : Int) then (if 3 < (a0.size : Int) then (some (Go.bits .or .u32 (Go.bits .or .u32 (Go.bits .or .u32 ((((bt a0 0) % 4294967296) * 16777216) % 4294967296) ((((bt a0 1) % 4294967296) * 65536) % 4294967296)) ((((bt a0 2) % 4294967296) * 256) % 4294967296)) ((bt a0 3) % 4294967296))) else (none)) else (none)) else (none)) else (none)
set_option maxHeartbeats 8000000 in
set_option maxRecDepth 100000 in
theorem sha_big.calls (a0 : ByteArray) (r : Int) (w : World) (h : sha_big.f a0 = some r) :
    Calls Try.prog 168 #[.string a0] w fun e w' => e = .returned (.int .u32 r) ∧ Drawn0 w w' := by
  have H : (if 0 < (a0.size : Int) then (if 1 < (a0.size : Int) then (if 2 < (a0.size : Int) then (if 3 < (a0.size : Int) then (some (Go.bits .or .u32 (Go.bits .or .u32 (Go.bits .or .u32 ((((bt a0 0) % 4294967296) * 16777216) % 4294967296) ((((bt a0 1) % 4294967296) * 65536) % 4294967296)) ((((bt a0 2) % 4294967296) * 256) % 4294967296)) ((bt a0 3) % 4294967296))) else (none)) else (none)) else (none)) else (none)) = some r := h
  clear h
  by_cases c2 : 0 < (a0.size : Int)
  · rw [if_pos c2] at H
    have c2b0 : decide (0 < (a0.size : Int)) = true := decide_eq_true c2
    have c2b1 : decide (0 < a0.size) = true := decide_eq_true (by omega)
    clear c2
    by_cases c4 : 1 < (a0.size : Int)
    · rw [if_pos c4] at H
      have c4b0 : decide (1 < (a0.size : Int)) = true := decide_eq_true c4
      have c4b1 : decide (1 < a0.size) = true := decide_eq_true (by omega)
      clear c4
      by_cases c6 : 2 < (a0.size : Int)
      · rw [if_pos c6] at H
        have c6b0 : decide (2 < (a0.size : Int)) = true := decide_eq_true c6
        have c6b1 : decide (2 < a0.size) = true := decide_eq_true (by omega)
        clear c6
        by_cases c8 : 3 < (a0.size : Int)
        · rw [if_pos c8] at H
          have c8b0 : decide (3 < (a0.size : Int)) = true := decide_eq_true c8
          have c8b1 : decide (3 < a0.size) = true := decide_eq_true (by omega)
          clear c8
          obtain rfl := Option.some.inj H
          have p3 : 0 ≤ (0 : Int) := (by omega)
          have q3 : 0 < a0.size := (by have : (0 : Int) < (a0.size : Int) := of_decide_eq_true (by first | (with_reducible assumption) | assumption); omega)
          have hx3 : ∀ h : 0 < a0.size, ((a0[0]'h).toNat : Int) = bt a0 0 := bt_at a0 0
          clear p3
          have qi3 : (0 < (a0.size : Int)) = True := eq_true (of_decide_eq_true (by first | (with_reducible assumption) | assumption))
          replace q3 := eq_true q3
          have p5 : 0 ≤ (1 : Int) := (by omega)
          have q5 : 1 < a0.size := (by have : (1 : Int) < (a0.size : Int) := of_decide_eq_true (by first | (with_reducible assumption) | assumption); omega)
          have hx5 : ∀ h : 1 < a0.size, ((a0[1]'h).toNat : Int) = bt a0 1 := bt_at a0 1
          clear p5
          have qi5 : (1 < (a0.size : Int)) = True := eq_true (of_decide_eq_true (by first | (with_reducible assumption) | assumption))
          replace q5 := eq_true q5
          have p7 : 0 ≤ (2 : Int) := (by omega)
          have q7 : 2 < a0.size := (by have : (2 : Int) < (a0.size : Int) := of_decide_eq_true (by first | (with_reducible assumption) | assumption); omega)
          have hx7 : ∀ h : 2 < a0.size, ((a0[2]'h).toNat : Int) = bt a0 2 := bt_at a0 2
          clear p7
          have qi7 : (2 < (a0.size : Int)) = True := eq_true (of_decide_eq_true (by first | (with_reducible assumption) | assumption))
          replace q7 := eq_true q7
          have p9 : 0 ≤ (3 : Int) := (by omega)
          have q9 : 3 < a0.size := (by have : (3 : Int) < (a0.size : Int) := of_decide_eq_true (by first | (with_reducible assumption) | assumption); omega)
          have hx9 : ∀ h : 3 < a0.size, ((a0[3]'h).toNat : Int) = bt a0 3 := bt_at a0 3
          clear p9
          have qi9 : (3 < (a0.size : Int)) = True := eq_true (of_decide_eq_true (by first | (with_reducible assumption) | assumption))
          replace q9 := eq_true q9
          go_enter Try.func168, Try.ntmps168
          go_wp2
          repeat (go_quiet (fail); try go_wp2)
          go_ret
          exact ⟨by first | rfl | (simp; done) | (simp [*]; done), by repeat (first | exact Drawn0.refl _ | apply Drawn0.step)⟩
        · rw [if_neg c8] at H
          exact absurd H (by simp)
      · rw [if_neg c6] at H
        exact absurd H (by simp)
    · rw [if_neg c4] at H
      exact absurd H (by simp)
  · rw [if_neg c2] at H
    exact absurd H (by simp)
end Go.Proofs.Ytbkbganflnemeaa.Pr
end

section
namespace Go.Proofs.Ytbkbganflnemeaa.Pr
open Go.RowKit Go.Proofs.YtbkbganflnemeaaW.PrintWords
set_option maxHeartbeats 400000
set_option linter.unusedVariables false
set_option linter.unusedSimpArgs false
theorem bt_nat (s : ByteArray) (i : Nat) (h : i < s.size) : bt s (i : Int) = ((bys s).getD i 0 : Nat) := by
  unfold bt
  rw [dif_pos (by simpa using h)]
  have hl : i < s.data.toList.length := by rw [data_length]; exact h
  simp only [bys, List.getD_eq_getElem?_getD, List.getElem?_map, List.getElem?_eq_getElem hl, Option.map_some, Option.getD_some]
  rfl
theorem bys_lt (s : ByteArray) (i : Nat) : (bys s).getD i 0 < 256 := by
  rw [List.getD_eq_getElem?_getD]
  unfold bys
  rw [List.getElem?_map]
  cases h : s.data.toList[i]? with
  | none => simp
  | some x => simpa using x.toNat_lt
theorem or_be4 (x y z v : Nat) (hx : x < 256) (hy : y < 256) (hz : z < 256) (hv : v < 256) : bits .or .u32 (bits .or .u32 (bits .or .u32 ((((x : Int) % 4294967296) * 16777216) % 4294967296) ((((y : Int) % 4294967296) * 65536) % 4294967296)) ((((z : Int) % 4294967296) * 256) % 4294967296)) ((v : Int) % 4294967296) = ((x * 16777216 + y * 65536 + z * 256 + v : Nat) : Int) := by
  rw [show ((((x : Int) % 4294967296) * 16777216) % 4294967296) = ((x * 16777216 : Nat) : Int) by omega, show ((((y : Int) % 4294967296) * 65536) % 4294967296) = ((y * 65536 : Nat) : Int) by omega,
    show ((((z : Int) % 4294967296) * 256) % 4294967296) = ((z * 256 : Nat) : Int) by omega, show ((v : Int) % 4294967296) = (v : Int) by omega]
  have h1 : x * 16777216 ||| y * 65536 = x * 16777216 + y * 65536 := by
    have := Nat.two_pow_add_eq_or_of_lt (i := 24) (b := y * 65536) (by omega) x
    rw [Nat.mul_comm x]; exact this.symm
  have h2 : (x * 16777216 + y * 65536) ||| z * 256 = x * 16777216 + y * 65536 + z * 256 := by
    have := Nat.two_pow_add_eq_or_of_lt (i := 16) (b := z * 256) (by omega) (x * 256 + y)
    rw [show x * 16777216 + y * 65536 = 2 ^ 16 * (x * 256 + y) by omega]; exact this.symm
  have h3 : (x * 16777216 + y * 65536 + z * 256) ||| v = x * 16777216 + y * 65536 + z * 256 + v := by
    have := Nat.two_pow_add_eq_or_of_lt (i := 8) (b := v) (by omega) (x * 65536 + y * 256 + z)
    rw [show x * 16777216 + y * 65536 + z * 256 = 2 ^ 8 * (x * 65536 + y * 256 + z) by omega]; exact this.symm
  rw [or32 _ _ (by omega) (by omega), h1, or32 _ _ (by omega) (by omega), h2, or32 _ _ (by omega) (by omega), h3]
theorem sha_big_f (s : ByteArray) (hs : 4 ≤ s.size) : sha_big.f s = some (be4 (bys s) 0 : Nat) := by
  unfold sha_big.f
  rw [if_pos (by omega), if_pos (by omega), if_pos (by omega), if_pos (by omega)]
  have h0 := bt_nat s 0 (by omega)
  have h1 := bt_nat s 1 (by omega)
  have h2 := bt_nat s 2 (by omega)
  have h3 := bt_nat s 3 (by omega)
  rw [show bt s 0 = ((bys s).getD 0 0 : Nat) from h0, show bt s 1 = ((bys s).getD 1 0 : Nat) from h1, show bt s 2 = ((bys s).getD 2 0 : Nat) from h2, show bt s 3 = ((bys s).getD 3 0 : Nat) from h3,
    or_be4 _ _ _ _ (bys_lt s 0) (bys_lt s 1) (bys_lt s 2) (bys_lt s 3)]
  rfl
theorem big_calls (s : ByteArray) (w : World) (hs : 4 ≤ s.size) : Calls Try.prog 168 #[.string s] w fun e w' => e = .returned (.int .u32 (be4 (bys s) 0 : Nat)) ∧ ∃ n, w' = w.drewN n :=
  (sha_big.calls s _ w (sha_big_f s hs)).mono fun _ _ h => ⟨h.1, h.2.out⟩
theorem be4_drop (l : List Nat) (i n : Nat) (hn : 4 ≤ n) : be4 ((l.drop i).take n) 0 = be4 l i := by
  unfold be4
  simp only [List.getD_eq_getElem?_getD, List.getElem?_take, List.getElem?_drop, Nat.zero_add, Nat.add_zero]
  rw [if_pos (by omega), if_pos (by omega), if_pos (by omega), if_pos (by omega)]
theorem not32 (e : Nat) (he : e < 4294967296) : bits .xor .u32 IntKind.u32.max (e : Int) = ((4294967295 - e : Nat) : Int) := by
  rw [show IntKind.u32.max = ((4294967295 : Nat) : Int) from rfl, xor32 _ _ (by decide) he]
  congr 1
  apply Nat.eq_of_testBit_eq
  intro i
  have h := Nat.testBit_two_pow_sub_succ (x := e) (n := 32) (by simpa using he) i
  rw [show (4294967295 - e : Nat) = 2 ^ 32 - (e + 1) by omega, h, Nat.testBit_xor, show (4294967295 : Nat) = 2 ^ 32 - 1 from rfl, Nat.testBit_two_pow_sub_one]
  by_cases hi : i < 32
  · simp [hi]
  · have : e.testBit i = false := Nat.testBit_lt_two_pow (Nat.lt_of_lt_of_le he (by rw [show (4294967296 : Nat) = 2 ^ 32 from rfl]; exact Nat.pow_le_pow_right (by decide) (by omega)))
    simp [hi, this]
theorem xor_lt32 {a b : Nat} (ha : a < 4294967296) (hb : b < 4294967296) : a ^^^ b < 4294967296 := Nat.xor_lt_two_pow (n := 32) ha hb
theorem and_lt32 {a b : Nat} (hb : b < 4294967296) : a &&& b < 4294967296 := Nat.and_lt_two_pow (n := 32) a hb
theorem bs1_int (e : Nat) (he : e < 4294967296) : bits .xor .u32 (bits .xor .u32 ((rotr e 6 : Nat) : Int) ((rotr e 11 : Nat) : Int)) ((rotr e 25 : Nat) : Int) = ((bs1 e : Nat) : Int) := by
  rw [xor32 _ _ (rotr_lt e 6 he) (rotr_lt e 11 he), xor32 _ _ (xor_lt32 (rotr_lt e 6 he) (rotr_lt e 11 he)) (rotr_lt e 25 he)]
  rfl
theorem bs0_int (e : Nat) (he : e < 4294967296) : bits .xor .u32 (bits .xor .u32 ((rotr e 2 : Nat) : Int) ((rotr e 13 : Nat) : Int)) ((rotr e 22 : Nat) : Int) = ((bs0 e : Nat) : Int) := by
  rw [xor32 _ _ (rotr_lt e 2 he) (rotr_lt e 13 he), xor32 _ _ (xor_lt32 (rotr_lt e 2 he) (rotr_lt e 13 he)) (rotr_lt e 22 he)]
  rfl
theorem sg0_int (x : Nat) (hx : x < 4294967296) : bits .xor .u32 (bits .xor .u32 ((rotr x 7 : Nat) : Int) ((rotr x 18 : Nat) : Int)) ((x : Int) / 8) = ((sg0 x : Nat) : Int) := by
  rw [show ((x : Int) / 8) = ((x / 8 : Nat) : Int) by simp, xor32 _ _ (rotr_lt x 7 hx) (rotr_lt x 18 hx), xor32 _ _ (xor_lt32 (rotr_lt x 7 hx) (rotr_lt x 18 hx)) (by omega)]
  unfold sg0
  rw [Nat.shiftRight_eq_div_pow]
theorem sg1_int (x : Nat) (hx : x < 4294967296) : bits .xor .u32 (bits .xor .u32 ((rotr x 17 : Nat) : Int) ((rotr x 19 : Nat) : Int)) ((x : Int) / 1024) = ((sg1 x : Nat) : Int) := by
  rw [show ((x : Int) / 1024) = ((x / 1024 : Nat) : Int) by simp, xor32 _ _ (rotr_lt x 17 hx) (rotr_lt x 19 hx), xor32 _ _ (xor_lt32 (rotr_lt x 17 hx) (rotr_lt x 19 hx)) (by omega)]
  unfold sg1
  rw [Nat.shiftRight_eq_div_pow]
theorem chs_int (e f g : Nat) (he : e < 4294967296) (hf : f < 4294967296) (hg : g < 4294967296) :
    bits .xor .u32 (bits .and .u32 (e : Int) (f : Int)) (bits .and .u32 (bits .xor .u32 IntKind.u32.max (e : Int)) (g : Int)) = ((chs e f g : Nat) : Int) := by
  rw [not32 e he, and32 _ _ he hf, and32 _ _ (by omega) hg, xor32 _ _ (and_lt32 hf) (and_lt32 hg)]
  rfl
theorem maj_int (a b c : Nat) (ha : a < 4294967296) (hb : b < 4294967296) (hc : c < 4294967296) :
    bits .xor .u32 (bits .xor .u32 (bits .and .u32 (a : Int) (b : Int)) (bits .and .u32 (a : Int) (c : Int))) (bits .and .u32 (b : Int) (c : Int)) = ((maj a b c : Nat) : Int) := by
  rw [and32 _ _ ha hb, and32 _ _ ha hc, and32 _ _ hb hc, xor32 _ _ (and_lt32 hb) (and_lt32 hc), xor32 _ _ (xor_lt32 (and_lt32 hb) (and_lt32 hc)) (and_lt32 hc)]
  rfl
theorem rnd_a (s : St) (hs : s.ok) (k w : Nat) : (((s.h : Int) + bits .xor .u32 (bits .xor .u32 ((rotr s.e 6 : Nat) : Int) ((rotr s.e 11 : Nat) : Int)) ((rotr s.e 25 : Nat) : Int) + bits .xor .u32 (bits .and .u32 (s.e : Int) (s.f : Int)) (bits .and .u32 (bits .xor .u32 IntKind.u32.max (s.e : Int)) (s.g : Int)) + (k : Int) + (w : Int) +
      (bits .xor .u32 (bits .xor .u32 ((rotr s.a 2 : Nat) : Int) ((rotr s.a 13 : Nat) : Int)) ((rotr s.a 22 : Nat) : Int) + bits .xor .u32 (bits .xor .u32 (bits .and .u32 (s.a : Int) (s.b : Int)) (bits .and .u32 (s.a : Int) (s.c : Int))) (bits .and .u32 (s.b : Int) (s.c : Int)))) % 4294967296) = (((rnd s k w).a : Nat) : Int) := by
  obtain ⟨h1, h2, h3, h4, h5, h6, h7, h8⟩ := hs
  rw [bs1_int _ h5, chs_int _ _ _ h5 h6 h7, bs0_int _ h1, maj_int _ _ _ h1 h2 h3]
  simp only [rnd, t1, t2]
  omega
theorem rnd_e (s : St) (hs : s.ok) (k w : Nat) : (((s.d : Int) + ((s.h : Int) + bits .xor .u32 (bits .xor .u32 ((rotr s.e 6 : Nat) : Int) ((rotr s.e 11 : Nat) : Int)) ((rotr s.e 25 : Nat) : Int) + bits .xor .u32 (bits .and .u32 (s.e : Int) (s.f : Int)) (bits .and .u32 (bits .xor .u32 IntKind.u32.max (s.e : Int)) (s.g : Int)) + (k : Int) + (w : Int))) % 4294967296) = (((rnd s k w).e : Nat) : Int) := by
  obtain ⟨h1, h2, h3, h4, h5, h6, h7, h8⟩ := hs
  rw [bs1_int _ h5, chs_int _ _ _ h5 h6 h7]
  simp only [rnd, t1]
  omega
theorem sched_val (x16 x15 x7 x2 : Nat) (h15 : x15 < 4294967296) (h2 : x2 < 4294967296) : (((x16 : Int) + bits .xor .u32 (bits .xor .u32 ((rotr x15 7 : Nat) : Int) ((rotr x15 18 : Nat) : Int)) ((x15 : Int) / 8) + (x7 : Int) + bits .xor .u32 (bits .xor .u32 ((rotr x2 17 : Nat) : Int) ((rotr x2 19 : Nat) : Int)) ((x2 : Int) / 1024)) % 4294967296) = (((x16 + sg0 x15 + x7 + sg1 x2) % 4294967296 : Nat) : Int) := by
  rw [sg0_int _ h15, sg1_int _ h2]
  omega
theorem set8 (V : World) (t : TypeId) (N g : Nat) (x0 x1 x2 x3 x4 x5 x6 x7 y0 y1 y2 y3 y4 y5 y6 y7 : Value) (hg : g = V.heap.size) :
    (((((((((V.alloc (.cells #[x0, x1, x2, x3, x4, x5, x6, x7] t)).drewN N).setCell ⟨g, 0, none⟩ y0).setCell ⟨g, 1, none⟩ y1).setCell ⟨g, 2, none⟩ y2).setCell ⟨g, 3, none⟩ y3).setCell ⟨g, 4, none⟩ y4).setCell ⟨g, 5, none⟩ y5).setCell ⟨g, 6, none⟩ y6).setCell ⟨g, 7, none⟩ y7 =
      (V.alloc (.cells #[y0, y1, y2, y3, y4, y5, y6, y7] t)).drewN N := by
  have h : ∀ (W : World) i v, (W.drewN N).setCell ⟨g, i, none⟩ v = (W.setCell ⟨g, i, none⟩ v).drewN N := fun _ _ _ => rfl
  have e : ∀ c i v, (V.alloc (.cells c t)).setCell ⟨g, i, none⟩ v = V.alloc (.cells (c.setIfInBounds i v) t) := fun c i v => World.setCell_alloc_at c t g i v hg
  simp only [h, e]
  exact congrArg (fun c => (V.alloc (.cells c t)).drewN N) (by simp)
theorem set_last (V : World) (t : TypeId) (N g i : Nat) (l : List Nat) (v : Nat) (hg : g = V.heap.size) : (((V.alloc (.cells (u32s l) t)).drewN N).drew).setCell ⟨g, i, none⟩ (.int .u32 (v : Int)) = (V.alloc (.cells (u32s (l.set i v)) t)).drewN (N + 1) := by
  have h : (((V.alloc (.cells (u32s l) t)).drewN N).drew).setCell ⟨g, i, none⟩ (.int .u32 (v : Int)) = ((V.alloc (.cells (u32s l) t)).setCell ⟨g, i, none⟩ (.int .u32 (v : Int))).drewN (N + 1) := rfl
  rw [h, World.setCell_alloc_at _ _ _ _ _ hg, u32s_set]
theorem setN_last (V : World) (t : TypeId) (N g i : Nat) (l : List Nat) (v : Nat) (hg : g = V.heap.size) : ((V.alloc (.cells (u32s l) t)).drewN N).setCell ⟨g, i, none⟩ (.int .u32 (v : Int)) = (V.alloc (.cells (u32s (l.set i v)) t)).drewN N := by
  have h : ((V.alloc (.cells (u32s l) t)).drewN N).setCell ⟨g, i, none⟩ (.int .u32 (v : Int)) = ((V.alloc (.cells (u32s l) t)).setCell ⟨g, i, none⟩ (.int .u32 (v : Int))).drewN N := rfl
  rw [h, World.setCell_alloc_at _ _ _ _ _ hg, u32s_set]
theorem set_first (w : World) (t : TypeId) (N i : Nat) (l : List Nat) (v : Nat) (B C D : Obj) : (((((w.alloc (.cells (u32s l) t)).alloc B).alloc C).alloc D).drewN N).drew.setCell ⟨w.heap.size, i, none⟩ (.int .u32 (v : Int)) = ((((w.alloc (.cells (u32s (l.set i v)) t)).alloc B).alloc C).alloc D).drewN (N + 1) := by
  have h : (((((w.alloc (.cells (u32s l) t)).alloc B).alloc C).alloc D).drewN N).drew.setCell ⟨w.heap.size, i, none⟩ (.int .u32 (v : Int)) = (((((w.alloc (.cells (u32s l) t)).alloc B).alloc C).alloc D).setCell ⟨w.heap.size, i, none⟩ (.int .u32 (v : Int))).drewN (N + 1) := rfl
  rw [h, World.setCell_alloc_past _ _ _ _ (by simp; omega), World.setCell_alloc_past _ _ _ _ (by simp; omega), World.setCell_alloc_past _ _ _ _ (by simp), World.setCell_alloc_at _ _ _ _ _ rfl, u32s_set]
def hAt (s v : List Nat) (k : Nat) : List Nat := (List.range 8).map fun i => if i < k then (s.getD i 0 + v.getD i 0) % 4294967296 else s.getD i 0
theorem hAt_get (s v : List Nat) (k : Nat) (hk : k < 8) : (u32s (hAt s v k))[k]? = some (.int .u32 (s.getD k 0 : Nat)) := by
  rw [u32s_get _ _ (by simp [hAt]; omega)]
  simp [hAt, hk]
theorem hAt_set (s v : List Nat) (k : Nat) (hk : k < 8) : (hAt s v k).set k ((s.getD k 0 + v.getD k 0) % 4294967296) = hAt s v (k + 1) := by
  apply List.ext_getElem
  · simp [hAt]
  · intro i h1 h2
    rw [List.getElem_set]
    simp only [hAt, List.getElem_map, List.getElem_range]
    by_cases e : k = i
    · subst e; simp
    · rw [if_neg e]
      by_cases h : i < k
      · rw [if_pos h, if_pos (by omega)]
      · rw [if_neg h, if_neg (by omega)]
theorem sched_lt (b : List Nat) (hb : ∀ i, b.getD i 0 < 256) : ∀ k i, (sched b k).getD i 0 < 4294967296
  | 0, i => by simp [sched]
  | k + 1, i => by
    rw [sched, List.getD_eq_getElem?_getD]
    by_cases h : i < k
    · rw [List.getElem?_append_left (by rw [sched_length]; exact h), ← List.getD_eq_getElem?_getD]
      exact sched_lt b hb k i
    · rw [List.getElem?_append_right (by rw [sched_length]; omega), sched_length]
      rcases Nat.eq_zero_or_pos (i - k) with h0 | h0
      · rw [h0]
        simp only [List.getElem?_cons_zero, Option.getD_some, wordAt]
        split
        · unfold be4
          have := hb (4 * k)
          have := hb (4 * k + 1)
          have := hb (4 * k + 2)
          have := hb (4 * k + 3)
          omega
        · exact Nat.mod_lt _ (by decide)
      · rw [List.getElem?_eq_none (by simp; omega)]
        simp
def wAt (b : List Nat) (k : Nat) : List Nat := sched b k ++ List.replicate (64 - k) 0
theorem wAt_length (b : List Nat) (k : Nat) (hk : k ≤ 64) : (wAt b k).length = 64 := by
  unfold wAt; rw [List.length_append, sched_length, List.length_replicate]; omega
theorem wAt_get (b : List Nat) (k i : Nat) (hk : k ≤ 64) (hi : i < k) : (u32s (wAt b k))[i]? = some (.int .u32 ((sched b k).getD i 0 : Nat)) := by
  rw [u32s_get _ _ (by rw [wAt_length b k hk]; omega)]
  unfold wAt
  rw [List.getD_eq_getElem?_getD, List.getElem?_append_left (by rw [sched_length]; exact hi), ← List.getD_eq_getElem?_getD]
theorem wAt_next (b : List Nat) (k : Nat) (hk : k < 64) : (wAt b k).set k (wordAt b (sched b k) k) = wAt b (k + 1) := by
  unfold wAt
  rw [List.set_append_right _ _ (by rw [sched_length]; omega), sched_length, Nat.sub_self, show 64 - k = (64 - (k + 1)) + 1 by omega, List.replicate_succ, List.set_cons_zero]
  simp [sched]
theorem wp_still_tail {P : Program} {id : Nat} {Q : Exit → Act → World → Prop} {a : Act} {w : World} {l : List Oper} (n : Nat) (hm : P.follows .mixedOrders = true) (hB : Region.lexTailB .any l.toArray n = true)
    (h : ∀ W, W = w.drew → wpStill P l.toArray W (fun a' => wpList P l.toArray Q (l.drop n) a' W) (l.take n) a) : (Code.region id l.toArray true).wp P Q a w :=
  wp_region_still_tail n hm hB (h _ rfl)
set_option maxRecDepth 100000 in
set_option maxHeartbeats 8000000 in
theorem sums_step.calls (a b c d e f g hh gc : Nat) (s : ByteArray) (w : World) (hok : (St.mk a b c d e f g hh).ok) (hs : s.size = 64) (hc : w.heap[gc]? = some (.cells (u32s shaK) 185 (0, 0)))
   : Calls Try.prog 156 #[.agg #[.int .u32 a, .int .u32 b, .int .u32 c, .int .u32 d, .int .u32 e, .int .u32 f, .int .u32 g, .int .u32 hh], .pointer (some ⟨gc, 0, none⟩), .string s] w fun E w' => (∃ s' : St, s' = stp (St.mk a b c d e f g hh) (bys s) ∧ E = .returned (.agg #[.int .u32 (s'.a : Int), .int .u32 (s'.b : Int), .int .u32 (s'.c : Int), .int .u32 (s'.d : Int), .int .u32 (s'.e : Int), .int .u32 (s'.f : Int), .int .u32 (s'.g : Int), .int .u32 (s'.h : Int)])) ∧ Below w.heap.size w w' := by
  have hbl := sched_lt (bys s) (bys_lt s)
  have HBL := Aside0.mk hbl
  have HOK := Aside0.mk hok
  clear hbl hok
  go_enter Try.func156, Try.ntmps156
  go_wp2
  go_loopw [18] (fun i wr => ∃ (k n : Nat), k ≤ 64 ∧ i = .int .i64 k ∧ wr = (((w.alloc (.cells #[.int .u32 a, .int .u32 b, .int .u32 c, .int .u32 d, .int .u32 e, .int .u32 f, .int .u32 g, .int .u32 hh] 188)).alloc (.cells (u32s [0,0,0,0,0,0,0,0]) 188)).alloc (.cells (u32s (wAt (bys s) k)) 185)).drewN n) (fun i _ => 64 - (intOf i).toNat)
  case atStart => exact ⟨0, 0, by omega, rfl, rfl⟩
  case round =>
    obtain ⟨k, n, hk, rfl, rfl⟩ := hrel
    by_cases hlt : k < 64
    · by_cases h16 : k < 16
      · obtain ⟨v0, hw⟩ : ∃ v : Nat, (u32s (wAt (bys s) k))[k]? = some (.int .u32 (v : Int)) := ⟨_, u32s_get _ _ (by rw [wAt_length _ _ hk]; omega)⟩
        have hle : 4 * k + 4 ≤ s.size := by omega
        have hle2 : 4 * k ≤ 64 := by omega
        go_wp2_with (go_at_call 168; refine (big_calls _ _ ?_).mono ?_)
        · have e1 : (s.extract (4 * k) 64).size = 64 - 4 * k := by simp [hs]
          omega
        · rintro e1 w1 ⟨rfl, n1, rfl⟩
          have HB4 := Aside0.mk (show be4 (bys (s.extract (4 * k) 64)) 0 = wordAt (bys s) (sched (bys s) k) k by rw [bys_extract, be4_drop _ _ _ (by omega), wordAt, if_pos h16])
          generalize be4 (bys (s.extract (4 * k) 64)) 0 = xb at *
          go_wp2
          go_light
          refine ⟨⟨k + 1, n + n1, by omega, by go_num, ?_⟩, by simp [intOf]; omega⟩
          rw [setN_last _ _ _ _ _ _ _ (by simp), HB4.out, wAt_next _ _ hlt]
      · obtain ⟨v0, hw⟩ : ∃ v : Nat, (u32s (wAt (bys s) k))[k]? = some (.int .u32 (v : Int)) := ⟨_, u32s_get _ _ (by rw [wAt_length _ _ hk]; omega)⟩
        have hw2 := wAt_get (bys s) k (k - 2) hk (by omega)
        have hw7 := wAt_get (bys s) k (k - 7) hk (by omega)
        have hw15 := wAt_get (bys s) k (k - 15) hk (by omega)
        have hw16 := wAt_get (bys s) k (k - 16) hk (by omega)
        generalize hx2 : (sched (bys s) k).getD (k - 2) 0 = x2 at hw2
        generalize hx7 : (sched (bys s) k).getD (k - 7) 0 = x7 at hw7
        generalize hx15 : (sched (bys s) k).getD (k - 15) 0 = x15 at hw15
        generalize hx16 : (sched (bys s) k).getD (k - 16) 0 = x16 at hw16
        have HX2 := Aside0.mk hx2
        have HX7 := Aside0.mk hx7
        have HX15 := Aside0.mk hx15
        have HX16 := Aside0.mk hx16
        clear hx2 hx7 hx15 hx16
        have b2 : x2 < 4294967296 := by rw [← HX2.out]; exact HBL.out _ _
        have b15 : x15 < 4294967296 := by rw [← HX15.out]; exact HBL.out _ _
        go_wp2
        go_quiet (fail)
        go_wp2
        refine wp_still_tail 29 (by kernel_rfl) (by kernel_rfl) ?_
        intro W hW
        have g2 : W.cell? ⟨w.heap.size + 1 + 1, k - 2, none⟩ = some (.int .u32 (x2 : Int)) := by rw [hW]; go_simp
        have g7 : W.cell? ⟨w.heap.size + 1 + 1, k - 7, none⟩ = some (.int .u32 (x7 : Int)) := by rw [hW]; go_simp
        have g15 : W.cell? ⟨w.heap.size + 1 + 1, k - 15, none⟩ = some (.int .u32 (x15 : Int)) := by rw [hW]; go_simp
        have g16 : W.cell? ⟨w.heap.size + 1 + 1, k - 16, none⟩ = some (.int .u32 (x16 : Int)) := by rw [hW]; go_simp
        have g0 : W.cell? ⟨w.heap.size + 1 + 1, k, none⟩ = some (.int .u32 (v0 : Int)) := by rw [hW]; go_simp
        have gf : W.frozen? ⟨w.heap.size + 1 + 1, k, none⟩ = false := by rw [hW]; go_simp
        have HW := Aside0.mk hW
        have i16 : IntKind.i64.wrap (↑k - 16) = ↑k - 16 := IntWalk.i64_in _ (by omega)
        have i7 : IntKind.i64.wrap (↑k - 7) = ↑k - 7 := IntWalk.i64_in _ (by omega)
        have n16 : ((k : Int) - 16).toNat = k - 16 := by omega
        have n7 : ((k : Int) - 7).toNat = k - 7 := by omega
        have p16 : 16 ≤ (k : Int) := by omega
        have p7 : 7 ≤ (k : Int) := by omega
        have q16 : (k : Int) - 16 < 64 := by omega
        have q7 : (k : Int) - 7 < 64 := by omega
        clear hw hw2 hw7 hw15 hw16 hW
        simp only [List.take_succ_cons, List.take_zero, List.drop_succ_cons, List.drop_zero]
        repeat still_step
        still_call (right_7 x15 _ b15)
        repeat still_step
        still_call (right_18 x15 _ b15)
        repeat still_step
        still_call (right_17 x2 _ b2)
        repeat still_step
        still_call (right_19 x2 _ b2)
        repeat still_step
        refine wpStill_nil ?_
        go_wp2
        go_light
        refine ⟨⟨k + 1, n + nq + 1, by omega, by go_num, ?_⟩, by simp [intOf]; omega⟩
        have HV : (x16 + sg0 x15 + x7 + sg1 x2) % 4294967296 = wordAt (bys s) (sched (bys s) k) k := by
          unfold wordAt
          rw [if_neg h16, HX16.out, HX15.out, HX7.out, HX2.out]
        rw [sched_val _ _ _ _ b15 b2, HV, HW.out, World.drewN_drewN, set_last _ _ _ _ _ _ _ (by simp), wAt_next _ _ hlt]
    · have hk64 : k = 64 := by omega
      subst hk64
      clear hlt hk
      have hW64 : wAt (bys s) 64 = sched (bys s) 64 := by simp [wAt]
      rw [hW64]
      clear hW64
      have hLl := sched_length (bys s) 64
      generalize hL : sched (bys s) 64 = L at hLl
      have HL := Aside0.mk hL
      have HLl := Aside0.mk hLl
      clear hL hLl
      have hgc : gc < w.heap.size := blk_lt hc
      have hcc : ∀ i, w.cell? ⟨gc, i, none⟩ = (u32s shaK)[i]? := fun i => blk_cell hc i
      have HC := Aside0.mk hcc
      clear hc hcc
      go_wp2
      go_loopw [69] (fun i wr => ∃ (k m a' b' c' d' e' f' g' h' : Nat), k ≤ 64 ∧ i = .int .i64 k ∧ Aside0 (St.mk a' b' c' d' e' f' g' h' = rds (L) ⟨a, b, c, d, e, f, g, hh⟩ k) ∧ wr = ((((w.alloc (.cells #[.int .u32 a, .int .u32 b, .int .u32 c, .int .u32 d, .int .u32 e, .int .u32 f, .int .u32 g, .int .u32 hh] 188)).alloc (.cells (u32s [0,0,0,0,0,0,0,0]) 188)).alloc (.cells (u32s (L)) 185)).alloc (.cells #[.int .u32 a', .int .u32 b', .int .u32 c', .int .u32 d', .int .u32 e', .int .u32 f', .int .u32 g', .int .u32 h'] 188)).drewN m) (fun i _ => 64 - (intOf i).toNat)
      case atStart => exact ⟨0, n, a, b, c, d, e, f, g, hh, by omega, rfl, ⟨rfl⟩, rfl⟩
      case round =>
        obtain ⟨k, m, a', b', c', d', e', f', g', h', hk, rfl, HS, rfl⟩ := hrel
        by_cases hlt : k < 64
        · have hkk : w.cell? ⟨gc, k, none⟩ = some (.int .u32 (shaK.getD k 0 : Nat)) := by rw [HC.out, u32s_get _ _ (by rw [shaK_length]; exact hlt)]
          have hww : (u32s (L))[k]? = some (.int .u32 ((L).getD k 0 : Nat)) := u32s_get _ _ (by rw [HLl.out]; exact hlt)
          generalize hxk : shaK.getD k 0 = xk at hkk
          generalize hxw : (L).getD k 0 = xw at hww
          have HXK := Aside0.mk hxk
          have HXW := Aside0.mk hxw
          clear hxk hxw HC
          have g1 : gc < w.heap.size + 1 := by omega
          have g2 : gc < w.heap.size + 1 + 1 := by omega
          have g3 : gc < w.heap.size + 1 + 1 + 1 := by omega
          have hok' : (St.mk a' b' c' d' e' f' g' h').ok := by rw [HS.out]; exact rds_ok HOK.out _
          have la : a' < 4294967296 := hok'.1
          have le : e' < 4294967296 := hok'.2.2.2.2.1
          have HOK' := Aside0.mk hok'
          clear hok'
          go_wp2
          go_quiet (fail)
          revert nq
          intro p1
          go_wp2
          go_quiet ((first | (go_at_call 169; (with_reducible refine (right_6 e' _ le).mono ?_); rintro e w' ⟨rfl, rfl⟩; first | exact ⟨rfl, _, rfl⟩ | exact ⟨rfl, _, World.drewN_drewN _ _ _⟩) | (go_at_call 169; (with_reducible refine (right_11 e' _ le).mono ?_); rintro e w' ⟨rfl, rfl⟩; first | exact ⟨rfl, _, rfl⟩ | exact ⟨rfl, _, World.drewN_drewN _ _ _⟩) | (go_at_call 169; (with_reducible refine (right_25 e' _ le).mono ?_); rintro e w' ⟨rfl, rfl⟩; first | exact ⟨rfl, _, rfl⟩ | exact ⟨rfl, _, World.drewN_drewN _ _ _⟩)))
          revert nq
          intro p2
          go_wp2
          go_quiet ((first | (go_at_call 169; (with_reducible refine (right_2 a' _ la).mono ?_); rintro e w' ⟨rfl, rfl⟩; first | exact ⟨rfl, _, rfl⟩ | exact ⟨rfl, _, World.drewN_drewN _ _ _⟩) | (go_at_call 169; (with_reducible refine (right_13 a' _ la).mono ?_); rintro e w' ⟨rfl, rfl⟩; first | exact ⟨rfl, _, rfl⟩ | exact ⟨rfl, _, World.drewN_drewN _ _ _⟩) | (go_at_call 169; (with_reducible refine (right_22 a' _ la).mono ?_); rintro e w' ⟨rfl, rfl⟩; first | exact ⟨rfl, _, rfl⟩ | exact ⟨rfl, _, World.drewN_drewN _ _ _⟩)))
          revert nq
          intro p3
          go_wp2
          go_roundw
          case rel =>
            go_light
            repeat apply Exists.intro
            refine ⟨⟨k + 1, m + p1 + p2 + p3, (rnd ⟨a', b', c', d', e', f', g', h'⟩ xk xw).a, a', b', c', (rnd ⟨a', b', c', d', e', f', g', h'⟩ xk xw).e, e', f', g', by omega, ?_, ⟨?_⟩, ?_⟩, rfl⟩
            · go_num
            · rw [rds, ← HS.out, HXK.out, HXW.out]; rfl
            · rw [← rnd_a _ HOK'.out, ← rnd_e _ HOK'.out]
              exact set8 _ _ _ _ _ _ _ _ _ _ _ _ _ _ _ _ _ _ _ _ (by simp)
          case measure => simp [intOf]; omega
        · have hk64 : k = 64 := by omega
          subst hk64
          clear hlt
          go_wp2
          go_loopw [151] (fun i wr => ∃ (k m : Nat), k ≤ 8 ∧ i = .int .i64 k ∧ wr = ((((w.alloc (.cells (u32s (hAt [a, b, c, d, e, f, g, hh] [a', b', c', d', e', f', g', h'] k)) 188)).alloc (.cells (u32s [0,0,0,0,0,0,0,0]) 188)).alloc (.cells (u32s L) 185)).alloc (.cells (u32s [a', b', c', d', e', f', g', h']) 188)).drewN m) (fun i _ => 8 - (intOf i).toNat)
          case atStart => exact ⟨0, m, by omega, rfl, rfl⟩
          case round =>
            obtain ⟨k, m2, hk, rfl, rfl⟩ := hrel
            by_cases hlt : k < 8
            · have hx := hAt_get [a, b, c, d, e, f, g, hh] [a', b', c', d', e', f', g', h'] k hlt
              have hy : (u32s [a', b', c', d', e', f', g', h'])[k]? = some (.int .u32 (([a', b', c', d', e', f', g', h'] : List Nat).getD k 0 : Nat)) := u32s_get _ _ (by simpa using hlt)
              generalize hxv : ([a, b, c, d, e, f, g, hh] : List Nat).getD k 0 = x at hx
              generalize hyv : ([a', b', c', d', e', f', g', h'] : List Nat).getD k 0 = y at hy
              have HX := Aside0.mk hxv
              have HY := Aside0.mk hyv
              clear hxv hyv
              go_wp2
              refine wp_still_tail 8 (by kernel_rfl) (by kernel_rfl) ?_
              intro W hW
              have g1 : W.cell? ⟨w.heap.size, k, none⟩ = some (.int .u32 (x : Int)) := by rw [hW]; go_simp
              have g2 : W.cell? ⟨w.heap.size + 1 + 1 + 1, k, none⟩ = some (.int .u32 (y : Int)) := by rw [hW]; go_simp
              have gf : W.frozen? ⟨w.heap.size, k, none⟩ = false := by rw [hW]; go_simp
              have HW := Aside0.mk hW
              clear hW hx hy
              simp only [List.take_succ_cons, List.take_zero, List.drop_succ_cons, List.drop_zero]
              repeat still_step
              refine wpStill_nil ?_
              go_wp2
              go_roundw
              case rel =>
                go_light
                repeat apply Exists.intro
                refine ⟨⟨k + 1, m2 + 1, by omega, ?_, ?_⟩, rfl⟩
                · go_num
                · rw [show (((x : Int) + (y : Int)) % 4294967296) = (((x + y) % 4294967296 : Nat) : Int) by omega, HW.out, set_first, ← HX.out, ← HY.out, hAt_set _ _ _ hlt]
              case measure => simp [intOf]; omega
            · have hk8 : k = 8 := by omega
              subst hk8
              clear hlt
              have e1 : u32s (hAt [a, b, c, d, e, f, g, hh] [a', b', c', d', e', f', g', h'] 8) = #[.int .u32 (((St.mk a b c d e f g hh).add ⟨a', b', c', d', e', f', g', h'⟩).a : Int), .int .u32 (((St.mk a b c d e f g hh).add ⟨a', b', c', d', e', f', g', h'⟩).b : Int), .int .u32 (((St.mk a b c d e f g hh).add ⟨a', b', c', d', e', f', g', h'⟩).c : Int), .int .u32 (((St.mk a b c d e f g hh).add ⟨a', b', c', d', e', f', g', h'⟩).d : Int), .int .u32 (((St.mk a b c d e f g hh).add ⟨a', b', c', d', e', f', g', h'⟩).e : Int), .int .u32 (((St.mk a b c d e f g hh).add ⟨a', b', c', d', e', f', g', h'⟩).f : Int), .int .u32 (((St.mk a b c d e f g hh).add ⟨a', b', c', d', e', f', g', h'⟩).g : Int), .int .u32 (((St.mk a b c d e f g hh).add ⟨a', b', c', d', e', f', g', h'⟩).h : Int)] := rfl
              rw [e1]
              have e2 : (St.mk a b c d e f g hh).add ⟨a', b', c', d', e', f', g', h'⟩ = stp ⟨a, b, c, d, e, f, g, hh⟩ (bys s) := by rw [stp, HL.out, ← HS.out]
              generalize (St.mk a b c d e f g hh).add ⟨a', b', c', d', e', f', g', h'⟩ = s' at *
              have E2 := Aside0.mk e2
              clear e1 e2
              have e3 : u32s [0, 0, 0, 0, 0, 0, 0, 0] = #[.int .u32 0, .int .u32 0, .int .u32 0, .int .u32 0, .int .u32 0, .int .u32 0, .int .u32 0, .int .u32 0] := rfl
              rw [e3]
              clear e3
              go_wp2
              refine bodyPost_ret (v := .agg #[.int .u32 (s'.a : Int), .int .u32 (s'.b : Int), .int .u32 (s'.c : Int), .int .u32 (s'.d : Int), .int .u32 (s'.e : Int), .int .u32 (s'.f : Int), .int .u32 (s'.g : Int), .int .u32 (s'.h : Int)]) (by simp [results, Try.results156, go_sem]) rfl ⟨⟨s', E2.out, rfl⟩, ?_⟩
              iterate 8 (refine Below.setCell ?_ (show w.heap.size ≤ w.heap.size + 1 by omega) _)
              exact pw_below_drewN (below_alloc (below_alloc (below_alloc (below_alloc (Below.refl _ _) _) _) _) _) _
end Go.Proofs.Ytbkbganflnemeaa.Pr
namespace Go.Proofs.Ytbkbganflnemeaa.Pr
open Go.RowKit Go.Deep Go.Proofs.YtbkbganflnemeaaW.PrintWords
set_option maxHeartbeats 2000000
set_option linter.unusedVariables false
set_option linter.unusedSimpArgs false
theorem u32s_one (l : List Nat) : (u32s l).all (·.oneCell') = true := by
  simp [u32s, Value.oneCell']
set_option maxRecDepth 100000 in
theorem constants.calls (w : World) : Calls Try.prog 154 #[] w fun e w' => e = .returned (.agg (u32s shaK)) ∧ Below w.heap.size w w' := by
  have hinf : (Try.prog.info? 185).map (·.size) = some 64 := by kernel_rfl
  go_enter Try.func154, Try.ntmps154
  go_wp2_with (refine wpList_store_row rfl 185 (.tmp 0) (.tmp 1) rfl _ (u32s shaK) rfl rfl 185 _ (heap_alloc_last _ _) hinf (by rfl) (u32s_one _) ?_; rw [World.setRow_alloc_new])
  exact bodyPost_ret (results_cell_row Try.results154 _ _ w.heap.size 185 (u32s shaK) (0, 0) _ rfl (heap_alloc_last _ _) Try.underlying185 rfl hinf) rfl ⟨rfl, (Below.refl _ _).alloc (Nat.le_refl _) _⟩
theorem be4_lt (l : List Nat) (hb : ∀ i, l.getD i 0 < 256) (i : Nat) : be4 l i < 4294967296 := by
  unfold be4
  have := hb i
  have := hb (i + 1)
  have := hb (i + 2)
  have := hb (i + 3)
  omega
theorem stOf_ok (s : ByteArray) : (stOf (bys s)).ok :=
  ⟨be4_lt _ (bys_lt s) _, be4_lt _ (bys_lt s) _, be4_lt _ (bys_lt s) _, be4_lt _ (bys_lt s) _, be4_lt _ (bys_lt s) _, be4_lt _ (bys_lt s) _, be4_lt _ (bys_lt s) _, be4_lt _ (bys_lt s) _⟩
theorem cell_row8 {w : World} {g : Nat} {t : TypeId} {x0 x1 x2 x3 x4 x5 x6 x7 : Value} (h : w.heap[g]? = some (.cells #[x0, x1, x2, x3, x4, x5, x6, x7] t (0, 0))) :
    w.cell? ⟨g, 0, none⟩ = some x0 ∧ w.cell? ⟨g, 1, none⟩ = some x1 ∧ w.cell? ⟨g, 2, none⟩ = some x2 ∧ w.cell? ⟨g, 3, none⟩ = some x3 ∧ w.cell? ⟨g, 4, none⟩ = some x4 ∧ w.cell? ⟨g, 5, none⟩ = some x5 ∧ w.cell? ⟨g, 6, none⟩ = some x6 ∧ w.cell? ⟨g, 7, none⟩ = some x7 := by
  have h' := fun i => blk_cell h i
  exact ⟨(h' 0).trans rfl, (h' 1).trans rfl, (h' 2).trans rfl, (h' 3).trans rfl, (h' 4).trans rfl, (h' 5).trans rfl, (h' 6).trans rfl, (h' 7).trans rfl⟩
end Go.Proofs.Ytbkbganflnemeaa.Pr
end

section
namespace Go.Proofs.Ytbkbganflnemeaa.Pr
open Go.RowKit Go.Proofs.YtbkbganflnemeaaW.PrintWords Go.Proofs.YtbkbganflnemeaaW.PrintLast Go.Proofs.YtbkbganflnemeaaW.PrintMore
attribute [local go_sem] max2_int min2_int max_two min_two max_three min_three max_four min_four   -- for this text's walks alone
set_option linter.unusedVariables false
set_option linter.unusedSimpArgs false
def samphireref01_Word.f (a0 : Int) : Option (Int) := some (Go.bits .and .i64 a0 4294967295)
set_option maxHeartbeats 8000000 in
set_option maxRecDepth 100000 in
theorem samphireref01_Word.calls (a0 : Int) (r : Int) (w : World) (h : samphireref01_Word.f a0 = some r) :
    Calls Try.prog 166 #[.int .i64 a0] w fun e w' => e = .returned (.int .i64 r) ∧ Drawn0 w w' := by
  have H : (some (Go.bits .and .i64 a0 4294967295)) = some r := h
  clear h
  obtain rfl := Option.some.inj H
  go_enter Try.func166, Try.ntmps166
  go_wp2
  go_ret
  exact ⟨by first | rfl | (simp; done) | (simp [*]; done), by repeat (first | exact Drawn0.refl _ | apply Drawn0.step)⟩
end Go.Proofs.Ytbkbganflnemeaa.Pr
end

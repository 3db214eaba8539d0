/- CodeNobody: an Out, and an In, that nobody made. -/
import Derived.Test.YtpeliaknceigdaaHCodeB
import Derived.Test.YtpeliaknceigdaaHCodeW
import Derived.Test.YtpeliaknceigdaaPrxf15
import Derived.Test.YtpeliaknceigdaaPrxf17
import Derived.Test.YtpeliaknceigdaaPrxf19
import Derived.Test.YtpeliaknceigdaaPrxf20
import Derived.Test.YtpeliaknceigdaaPrxf18
import Derived.Test.YtpeliaknceigdaaPrxf16
import Derived.Test.YtpeliaknceigdaaPrxe0
import Derived.Test.YtpeliaknceigdaaPrxf39
import Derived.Test.YtpeliaknceigdaaPrxf31
import Derived.StillTailTactics
import Derived.Deep.Light
import Derived.Lib.AppendStr
import Derived.Deep.RegionHeldLaw
import Derived.Deep.DrawnRows
import Derived.Deep.RegionHeld3
import Derived.BigQuiet
import Derived.Deep.QuietTactic
namespace Go.Proofs.Ytpeliaknceigdaa.Pr
open Go.RowKit Go.Deep Go.Proofs.YtpeliaknceigdaaW.PrintWords Go.Proofs.YtpeliaknceigdaaW.PrintLast Go.Proofs.YtpeliaknceigdaaW.PrintMore
set_option maxHeartbeats 1000000
set_option linter.unusedVariables false
set_option linter.unusedSimpArgs false
attribute [local go_sem high] eqA40
attribute [local go_sem ↓] Go.wp_at_zero Go.wp_at_succ
theorem stamp_puts_nil (ok : Bool) (n k : Int) (w W : World) (hBl : Below w.heap.size w W) (hs : W.heap[w.heap.size]? = some (.cells #[.int .i64 n, .int .i64 k] 40 (0, 0))) :
    Calls Try.prog 38 #[.pointer none, .bool ok, .string ⟨#[]⟩, .slice (some ⟨w.heap.size + 1, 0, none⟩) 2 2] W fun e w' => e = .returned (.tuple #[]) ∧ Aside0 (Below w.heap.size w w') ∧ w'.cell? ⟨w.heap.size, 0, none⟩ = some (.int .i64 n) ∧ w'.cell? ⟨w.heap.size, 1, none⟩ = some (.int .i64 k) := by
  refine (puts_nil ok _ _ W).mono ?_
  rintro e w' ⟨rfl, rfl⟩
  exact ⟨rfl, ⟨hBl⟩, stamp_c0 hs, stamp_c1 hs⟩
set_option maxRecDepth 100000 in
theorem Out_Stamp_nil (n k : Int) (w : World) :
    Calls Try.prog 24 #[.pointer none, .agg #[.int .i64 n, .int .i64 k]] w fun e w' => e = .returned (.tuple #[]) ∧ Below w.heap.size w w' := by
  have h1 := Aside0.mk (time_f n)
  have h2 := Aside0.mk (one_f k)
  cases hT : timeB n with
  | true =>
    rw [hT] at h1
    clear hT
    go_enter Try.func24, Try.ntmps24
    go_wp2_with (fail)
    have HB1 := Aside0.mk (below_alloc (Below.refl w.heap.size w) (.cells #[.int .i64 n, .int .i64 k] 40))
    have s0 : (w.alloc (.cells #[.int .i64 n, .int .i64 k] 40)).cell? ⟨w.heap.size, 0, none⟩ = some (.int .i64 n) := by rw [cell_of_row _ _ _ _ _ _ (heap_alloc_new w _)]; rfl
    have s1 : (w.alloc (.cells #[.int .i64 n, .int .i64 k] 40)).cell? ⟨w.heap.size, 1, none⟩ = some (.int .i64 k) := by rw [cell_of_row _ _ _ _ _ _ (heap_alloc_new w _)]; rfl
    go_region_held3 (fun w' => w'.cell? ⟨w.heap.size, 0, none⟩ = some (.int .i64 n) ∧ w'.cell? ⟨w.heap.size, 1, none⟩ = some (.int .i64 k))
      (first | go_keep | exact ⟨c0, c1⟩)
      (first
        | (go_at_call 31; (with_reducible refine (code_time.calls n _ _ h1.out).mono ?_); rintro e w1 ⟨rfl, ⟨nd, rfl⟩⟩)
        | (go_at_call 39; (with_reducible refine (code_one.calls k _ _ h2.out).mono ?_); rintro e w1 ⟨rfl, ⟨nd, rfl⟩⟩)
        | (go_at_call 38; (with_reducible refine (stamp_puts_nil _ n k w _ (by repeat (first | exact HB1.out | apply below_alloc | apply pw_below_drewN)) (by repeat (first | exact heap_alloc_new w _ | refine blk_drewN ?_ _ | refine blk_alloc ?_ _))).mono ?_); rintro e w1 ⟨rfl, H4, c0, c1⟩))
    all_goals
      go_wp2_with (fail)
      go_end0
      exact ⟨rfl, H4.out⟩
  | false =>
    rw [hT] at h1
    clear hT
    go_enter Try.func24, Try.ntmps24
    go_wp2_with (fail)
    have HB1 := Aside0.mk (below_alloc (Below.refl w.heap.size w) (.cells #[.int .i64 n, .int .i64 k] 40))
    refine start_ (n := 17) (S := fun w' => w'.cell? ⟨w.heap.size, 0, none⟩ = some (.int .i64 n) ∧ w'.cell? ⟨w.heap.size, 1, none⟩ = some (.int .i64 k)) (ds := []) #[false, false, false, false, false, false, false, false, false, false, false, false, false, false, false, false, false] (by kernel_rfl) rfl rfl ⟨(stamp_c0 (by repeat (first | exact heap_alloc_new w _ | refine blk_drewN ?_ _ | refine blk_drew ?_ | refine blk_alloc ?_ _))), (stamp_c1 (by repeat (first | exact heap_alloc_new w _ | refine blk_drewN ?_ _ | refine blk_drew ?_ | refine blk_alloc ?_ _)))⟩ (fun hHeld => ?_)
    refine pure_ (i := 0) (N := some 4) (v := ?_) (a' := ?_) #[true, false, false, false, false, false, false, false, false, false, false, false, false, false, false, false, false] rfl rfl (by kernel_rfl) (fun _ _ _ h => h) (Or.inl ⟨by rfl, ?_⟩) ?_ ?_
    rotate_left
    · intro w'
      go_simp
      with_reducible rfl
    rotate_left
    · simp only [Act.put, List.setIfInBounds_toArray, List.set_cons_zero, List.set_cons_succ, i64_w, i32_w]
      rfl
    refine pure_ (i := 1) (N := some 5) (v := ?_) (a' := ?_) #[true, true, false, false, false, false, false, false, false, false, false, false, false, false, false, false, false] rfl rfl (by kernel_rfl) (fun _ _ _ h => h) (Or.inl ⟨by rfl, ?_⟩) ?_ ?_
    rotate_left
    · intro w'
      go_simp
      with_reducible rfl
    rotate_left
    · simp only [Act.put, List.setIfInBounds_toArray, List.set_cons_zero, List.set_cons_succ, i64_w, i32_w]
      rfl
    refine pure_ (i := 9) (N := some 13) (v := ?_) (a' := ?_) #[true, true, false, false, false, false, false, false, false, true, false, false, false, false, false, false, false] rfl rfl (by kernel_rfl) (fun _ _ _ h => h) (Or.inl ⟨by rfl, ?_⟩) ?_ ?_
    rotate_left
    · intro w'
      go_simp
      with_reducible rfl
    rotate_left
    · simp only [Act.put, List.setIfInBounds_toArray, List.set_cons_zero, List.set_cons_succ, i64_w, i32_w]
      rfl
    refine pure_ (i := 12) (N := some 16) (v := ?_) (a' := ?_) #[true, true, false, false, false, false, false, false, false, true, false, false, true, false, false, false, false] rfl rfl (by kernel_rfl) (fun _ _ _ h => h) (Or.inl ⟨by rfl, ?_⟩) ?_ ?_
    rotate_left
    · intro w'
      go_simp
      with_reducible rfl
    rotate_left
    · simp only [Act.put, List.setIfInBounds_toArray, List.set_cons_zero, List.set_cons_succ, i64_w, i32_w]
      rfl
    refine take_ (i := 2) (N := some 6) (v := ?_) (a' := ?_) #[true, true, true, false, false, false, false, false, false, true, false, false, true, false, false, false, false] rfl rfl (by kernel_rfl) (fun _ _ _ h => h) (Or.inl ⟨by rfl, ?_⟩) hHeld ?_ ?_
    rotate_left
    · rintro w' ⟨s0, s1⟩
      go_simp
      with_reducible rfl
    rotate_left
    · simp only [Act.put, List.setIfInBounds_toArray, List.set_cons_zero, List.set_cons_succ, i64_w, i32_w]
      rfl
    refine take_ (i := 10) (N := some 14) (v := ?_) (a' := ?_) #[true, true, true, false, false, false, false, false, false, true, true, false, true, false, false, false, false] rfl rfl (by kernel_rfl) (fun _ _ _ h => h) (Or.inl ⟨by rfl, ?_⟩) hHeld ?_ ?_
    rotate_left
    · rintro w' ⟨s0, s1⟩
      go_simp
      with_reducible rfl
    rotate_left
    · simp only [Act.put, List.setIfInBounds_toArray, List.set_cons_zero, List.set_cons_succ, i64_w, i32_w]
      rfl
    refine pure_ (i := 11) (N := some 15) (v := ?_) (a' := ?_) #[true, true, true, false, false, false, false, false, false, true, true, true, true, false, false, false, false] rfl rfl (by kernel_rfl) (fun _ _ _ h => h) (Or.inl ⟨by rfl, ?_⟩) ?_ ?_
    rotate_left
    · intro w'
      go_simp
      with_reducible rfl
    rotate_left
    · simp only [Act.put, List.setIfInBounds_toArray, List.set_cons_zero, List.set_cons_succ, i64_w, i32_w]
      rfl
    refine take_ (i := 13) (N := some 17) (v := ?_) (a' := ?_) #[true, true, true, false, false, false, false, false, false, true, true, true, true, true, false, false, false] rfl rfl (by kernel_rfl) (fun _ _ _ h => h) (Or.inl ⟨by rfl, ?_⟩) hHeld ?_ ?_
    rotate_left
    · rintro w' ⟨s0, s1⟩
      go_simp
      with_reducible rfl
    rotate_left
    · simp only [Act.put, List.setIfInBounds_toArray, List.set_cons_zero, List.set_cons_succ, i64_w, i32_w]
      rfl
    refine pure_ (i := 14) (N := some 18) (v := ?_) (a' := ?_) #[true, true, true, false, false, false, false, false, false, true, true, true, true, true, true, false, false] rfl rfl (by kernel_rfl) (fun _ _ _ h => h) (Or.inl ⟨by rfl, ?_⟩) ?_ ?_
    rotate_left
    · intro w'
      go_simp
      with_reducible rfl
    rotate_left
    · simp only [Act.put, List.setIfInBounds_toArray, List.set_cons_zero, List.set_cons_succ, i64_w, i32_w]
      rfl
    refine join_ (σ := Unit) 1 #[true, true, true, true, true, true, true, true, true, true, true, true, true, true, true, true, false] (fun _ => [(7, .bool false), (8, .bool false), (9, undef), (10, undef), (11, undef), (12, .bool false), (19, .slice (some ⟨w.heap.size + 1, 0, none⟩) 2 2)]) (fun _ w' => Below w.heap.size w w' ∧ w'.heap[w.heap.size]? = some (.cells #[.int .i64 n, .int .i64 k] 40 (0, 0))) ?_ ?_
    rotate_left
    · intro hCont
      refine two_ (i := 3) (j := 15) (Ni := some 7) (Nj := some 19) #[true, true, true, true, false, false, false, false, false, true, true, true, true, true, true, false, false] #[true, true, true, false, false, false, false, false, false, true, true, true, true, true, true, true, false] rfl rfl rfl rfl (by kernel_rfl) (by decide) (by decide) (fun K hK => ?_) (fun K hK => ?_)
      · skip
        refine goes_ Try.func31 (by kernel_rfl) rfl #[.int .i64 n] (by rfl) rfl rfl (by simp only [List.map_toArray, List.map_cons, List.map_nil]; rfl) ?_
        with_reducible refine (code_time.calls n _ _ h1.out).mono ?_
        rintro e w3 ⟨rfl, ⟨nd, rfl⟩⟩
        refine ⟨_, rfl, ?_⟩
        refine hK.out _ _ ⟨(show _ from (stamp_c0 (by repeat (first | exact heap_alloc_new w _ | refine blk_drewN ?_ _ | refine blk_drew ?_ | refine blk_alloc ?_ _)))), (show _ from (stamp_c1 (by repeat (first | exact heap_alloc_new w _ | refine blk_drewN ?_ _ | refine blk_drew ?_ | refine blk_alloc ?_ _))))⟩ (fun hHeld => ?_)
        clear hK K
        refine norm_ (a' := ?_) ?_ ?_
        rotate_left
        · show Act.put _ (some 7) _ = _
          simp only [Act.put, List.setIfInBounds_toArray, List.set_cons_zero, List.set_cons_succ, i64_w, i32_w]
          rfl
        refine pure_ (i := 4) (N := some 8) (v := ?_) (a' := ?_) #[true, true, true, true, true, false, false, false, false, true, true, true, true, true, true, false, false] rfl rfl (by kernel_rfl) (fun _ _ _ h => h) (Or.inl ⟨by rfl, ?_⟩) ?_ ?_
        rotate_left
        · intro w'
          go_simp
          with_reducible rfl
        rotate_left
        · simp only [Act.put, List.setIfInBounds_toArray, List.set_cons_zero, List.set_cons_succ, i64_w, i32_w]
          rfl
        refine pure_ (i := 5) (N := some 9) (v := undef) (a' := ?_) #[true, true, true, true, true, true, false, false, false, true, true, true, true, true, true, false, false] rfl rfl (by kernel_rfl) (fun _ _ _ h => h) (Or.inr ⟨by rfl, rfl⟩) ?_ ?_
        rotate_left
        · simp only [Act.put, List.setIfInBounds_toArray, List.set_cons_zero, List.set_cons_succ, i64_w, i32_w]
          rfl
        refine pure_ (i := 6) (N := some 10) (v := undef) (a' := ?_) #[true, true, true, true, true, true, true, false, false, true, true, true, true, true, true, false, false] rfl rfl (by kernel_rfl) (fun _ _ _ h => h) (Or.inr ⟨by rfl, rfl⟩) ?_ ?_
        rotate_left
        · simp only [Act.put, List.setIfInBounds_toArray, List.set_cons_zero, List.set_cons_succ, i64_w, i32_w]
          rfl
        refine pure_ (i := 7) (N := some 11) (v := undef) (a' := ?_) #[true, true, true, true, true, true, true, true, false, true, true, true, true, true, true, false, false] rfl rfl (by kernel_rfl) (fun _ _ _ h => h) (Or.inr ⟨by rfl, rfl⟩) ?_ ?_
        rotate_left
        · simp only [Act.put, List.setIfInBounds_toArray, List.set_cons_zero, List.set_cons_succ, i64_w, i32_w]
          rfl
        refine pure_ (i := 8) (N := some 12) (v := ?_) (a' := ?_) #[true, true, true, true, true, true, true, true, true, true, true, true, true, true, true, false, false] rfl rfl (by kernel_rfl) (fun _ _ _ h => h) (Or.inl ⟨by rfl, ?_⟩) ?_ ?_
        rotate_left
        · intro w'
          go_simp
          with_reducible rfl
        rotate_left
        · simp only [Act.put, List.setIfInBounds_toArray, List.set_cons_zero, List.set_cons_succ, i64_w, i32_w]
          rfl
        refine one_ (i := 15) (N := some 19) #[true, true, true, true, true, true, true, true, true, true, true, true, true, true, true, true, false] rfl rfl (by kernel_rfl) (by decide) (fun K hK => ?_)
        refine value_ (w1 := ?_) (v := ?_) (by rfl) rfl ?_ ?_
        rotate_left 2
        · go_simp
          constructor
          · rfl
          · rfl
        refine hK.out _ _ ⟨(stamp_c0 (by repeat (first | exact heap_alloc_new w _ | refine blk_drewN ?_ _ | refine blk_drew ?_ | refine blk_alloc ?_ _))), (stamp_c1 (by repeat (first | exact heap_alloc_new w _ | refine blk_drewN ?_ _ | refine blk_drew ?_ | refine blk_alloc ?_ _)))⟩ (fun hHeld => ?_)
        clear hK K
        refine norm_ (a' := ?_) ?_ ?_
        rotate_left
        · show Act.put _ (some 19) _ = _
          simp only [Act.put, List.setIfInBounds_toArray, List.set_cons_zero, List.set_cons_succ, i64_w, i32_w]
          rfl
        exact norm_ (by simp only [putAll, Act.put, List.setIfInBounds_toArray, List.set_cons_zero, List.set_cons_succ]) (hCont () _ ⟨(by repeat (first | exact HB1.out | apply below_alloc | apply pw_below_drewN | apply below_drew)), (by repeat (first | exact heap_alloc_new w _ | refine blk_drewN ?_ _ | refine blk_drew ?_ | refine blk_alloc ?_ _))⟩)
      · skip
        refine value_ (w1 := ?_) (v := ?_) (by rfl) rfl ?_ ?_
        rotate_left 2
        · go_simp
          constructor
          · rfl
          · rfl
        refine hK.out _ _ ⟨(stamp_c0 (by repeat (first | exact heap_alloc_new w _ | refine blk_drewN ?_ _ | refine blk_drew ?_ | refine blk_alloc ?_ _))), (stamp_c1 (by repeat (first | exact heap_alloc_new w _ | refine blk_drewN ?_ _ | refine blk_drew ?_ | refine blk_alloc ?_ _)))⟩ (fun hHeld => ?_)
        clear hK K
        refine norm_ (a' := ?_) ?_ ?_
        rotate_left
        · show Act.put _ (some 19) _ = _
          simp only [Act.put, List.setIfInBounds_toArray, List.set_cons_zero, List.set_cons_succ, i64_w, i32_w]
          rfl
        refine one_ (i := 3) (N := some 7) #[true, true, true, true, false, false, false, false, false, true, true, true, true, true, true, true, false] rfl rfl (by kernel_rfl) (by decide) (fun K hK => ?_)
        refine goes_ Try.func31 (by kernel_rfl) rfl #[.int .i64 n] (by rfl) rfl rfl (by simp only [List.map_toArray, List.map_cons, List.map_nil]; rfl) ?_
        with_reducible refine (code_time.calls n _ _ h1.out).mono ?_
        rintro e w3 ⟨rfl, ⟨nd, rfl⟩⟩
        refine ⟨_, rfl, ?_⟩
        refine hK.out _ _ ⟨(show _ from (stamp_c0 (by repeat (first | exact heap_alloc_new w _ | refine blk_drewN ?_ _ | refine blk_drew ?_ | refine blk_alloc ?_ _)))), (show _ from (stamp_c1 (by repeat (first | exact heap_alloc_new w _ | refine blk_drewN ?_ _ | refine blk_drew ?_ | refine blk_alloc ?_ _))))⟩ (fun hHeld => ?_)
        clear hK K
        refine norm_ (a' := ?_) ?_ ?_
        rotate_left
        · show Act.put _ (some 7) _ = _
          simp only [Act.put, List.setIfInBounds_toArray, List.set_cons_zero, List.set_cons_succ, i64_w, i32_w]
          rfl
        refine pure_ (i := 4) (N := some 8) (v := ?_) (a' := ?_) #[true, true, true, true, true, false, false, false, false, true, true, true, true, true, true, true, false] rfl rfl (by kernel_rfl) (fun _ _ _ h => h) (Or.inl ⟨by rfl, ?_⟩) ?_ ?_
        rotate_left
        · intro w'
          go_simp
          with_reducible rfl
        rotate_left
        · simp only [Act.put, List.setIfInBounds_toArray, List.set_cons_zero, List.set_cons_succ, i64_w, i32_w]
          rfl
        refine pure_ (i := 5) (N := some 9) (v := undef) (a' := ?_) #[true, true, true, true, true, true, false, false, false, true, true, true, true, true, true, true, false] rfl rfl (by kernel_rfl) (fun _ _ _ h => h) (Or.inr ⟨by rfl, rfl⟩) ?_ ?_
        rotate_left
        · simp only [Act.put, List.setIfInBounds_toArray, List.set_cons_zero, List.set_cons_succ, i64_w, i32_w]
          rfl
        refine pure_ (i := 6) (N := some 10) (v := undef) (a' := ?_) #[true, true, true, true, true, true, true, false, false, true, true, true, true, true, true, true, false] rfl rfl (by kernel_rfl) (fun _ _ _ h => h) (Or.inr ⟨by rfl, rfl⟩) ?_ ?_
        rotate_left
        · simp only [Act.put, List.setIfInBounds_toArray, List.set_cons_zero, List.set_cons_succ, i64_w, i32_w]
          rfl
        refine pure_ (i := 7) (N := some 11) (v := undef) (a' := ?_) #[true, true, true, true, true, true, true, true, false, true, true, true, true, true, true, true, false] rfl rfl (by kernel_rfl) (fun _ _ _ h => h) (Or.inr ⟨by rfl, rfl⟩) ?_ ?_
        rotate_left
        · simp only [Act.put, List.setIfInBounds_toArray, List.set_cons_zero, List.set_cons_succ, i64_w, i32_w]
          rfl
        refine pure_ (i := 8) (N := some 12) (v := ?_) (a' := ?_) #[true, true, true, true, true, true, true, true, true, true, true, true, true, true, true, true, false] rfl rfl (by kernel_rfl) (fun _ _ _ h => h) (Or.inl ⟨by rfl, ?_⟩) ?_ ?_
        rotate_left
        · intro w'
          go_simp
          with_reducible rfl
        rotate_left
        · simp only [Act.put, List.setIfInBounds_toArray, List.set_cons_zero, List.set_cons_succ, i64_w, i32_w]
          rfl
        exact norm_ (by simp only [putAll, Act.put, List.setIfInBounds_toArray, List.set_cons_zero, List.set_cons_succ]) (hCont () _ ⟨(by repeat (first | exact HB1.out | apply below_alloc | apply pw_below_drewN | apply below_drew)), (by repeat (first | exact heap_alloc_new w _ | refine blk_drewN ?_ _ | refine blk_drew ?_ | refine blk_alloc ?_ _))⟩)
    rintro s w5 ⟨q3, q5⟩
    have hHeld := And.intro (stamp_c0 q5) (stamp_c1 q5)
    refine norm_ (a' := ?_) ?_ ?_
    rotate_left
    · simp only [putAll, Act.put, List.setIfInBounds_toArray, List.set_cons_zero, List.set_cons_succ]
      rfl
    refine one_ (i := 16) (N := some 20) #[true, true, true, true, true, true, true, true, true, true, true, true, true, true, true, true, true] rfl rfl (by kernel_rfl) (by decide) (fun K hK => ?_)
    refine goes_ Try.func38 (by kernel_rfl) rfl #[.pointer none, .bool false, .string ⟨#[]⟩, .slice (some ⟨w.heap.size + 1, 0, none⟩) 2 2] (by rfl) rfl rfl (by simp only [List.map_toArray, List.map_cons, List.map_nil]; rfl) ?_
    with_reducible refine (stamp_puts_nil false n k w _ q3 q5).mono ?_
    rintro e w6 ⟨rfl, H4, c0, c1⟩
    refine ⟨_, rfl, ?_⟩
    refine hK.out _ _ ⟨c0, c1⟩ (fun hHeld => ?_)
    clear hK K
    refine norm_ (a' := ?_) ?_ ?_
    rotate_left
    · show Act.put _ (some 20) _ = _
      simp only [Act.put, List.setIfInBounds_toArray, List.set_cons_zero, List.set_cons_succ, i64_w, i32_w]
      rfl
    refine done_ (by kernel_rfl) ?_
    go_wp2_with (fail)
    go_end0
    exact ⟨rfl, H4.out⟩
theorem In_take_nil (n : Int) (w : World) : Calls Try.prog 33 #[.pointer none, .int .i64 n] w fun e w' => e = .returned (.tuple #[.string ⟨#[]⟩, .bool false]) ∧ w = w' := by
  go_enter Try.func33, Try.ntmps33
  go_wp2_with (fail)
  go_ret2
  exact ⟨rfl, rfl⟩
theorem In_number_nil (n : Int) (w : World) : Calls Try.prog 30 #[.pointer none, .int .i64 n] w fun e w' => e = .returned (.tuple #[.int .i64 0, .bool false]) ∧ w = w' := by
  go_enter Try.func30, Try.ntmps30
  go_wp2_with (fail)
  refine (In_take_nil n w).mono ?_
  rintro e w1 ⟨rfl, rfl⟩
  go_wp2_with (fail)
  go_loop [8, 18] (fun n i => n = .int .i64 0 ∧ i = .int .i64 0) (fun _ _ => 0)
  case atStart => exact ⟨rfl, rfl⟩
  case round =>
    obtain ⟨rfl, rfl⟩ := hrel
    have z : decide ((0 : Int) < ((⟨#[]⟩ : ByteArray).size : Int)) = false := by decide
    go_wp2_with (fail)
    go_ret2
    exact ⟨rfl, rfl⟩
theorem In_Byte_nil (w : World) : Calls Try.prog 15 #[.pointer none] w fun e w' => e = .returned (.int .i64 0) ∧ w = w' := by
  go_enter Try.func15, Try.ntmps15
  go_wp2_with (fail)
  refine (In_number_nil 1 _).mono ?_
  rintro e w1 ⟨rfl, rfl⟩
  go_wp2_with (fail)
  go_ret
  exact ⟨rfl, rfl⟩
theorem In_Num_nil (w : World) : Calls Try.prog 16 #[.pointer none] w fun e w' => e = .returned (.int .i64 0) ∧ w = w' := by
  go_enter Try.func16, Try.ntmps16
  go_wp2_with (fail)
  refine (In_number_nil 6 _).mono ?_
  rintro e w1 ⟨rfl, rfl⟩
  go_wp2_with (fail)
  go_ret
  exact ⟨rfl, rfl⟩
theorem In_Stamp_nil (w : World) : Calls Try.prog 17 #[.pointer none] w fun e w' => e = .returned (.agg #[.int .i64 0, .int .i64 0]) ∧ Below w.heap.size w w' := by
  go_enter Try.func17, Try.ntmps17
  go_wp2_with (fail)
  refine (In_Num_nil _).mono ?_
  rintro e w1 ⟨rfl, rfl⟩
  go_wp2_with (fail)
  refine (In_number_nil 1 _).mono ?_
  rintro e w1 ⟨rfl, rfl⟩
  go_wp2_with (fail)
  refine bodyPost_ret (v := .agg #[.int .i64 0, .int .i64 0]) (by simp [results, Try.results17, go_sem]) rfl ⟨rfl, ?_⟩
  exact below_alloc (Below.refl _ _) _
theorem In_Text_nil (n : Int) (w : World) : Calls Try.prog 18 #[.pointer none, .int .i64 n] w fun e w' => e = .returned (.string ⟨#[]⟩) ∧ w = w' := by
  go_enter Try.func18, Try.ntmps18
  go_wp2_with (fail)
  refine (In_number_nil 2 _).mono ?_
  rintro e w1 ⟨rfl, rfl⟩
  go_wp2_with (fail)
  go_ret
  exact ⟨rfl, rfl⟩
theorem In_Rest_nil (w : World) : Calls Try.prog 19 #[.pointer none] w fun e w' => e = .returned (.int .i64 0) ∧ w = w' := by
  go_enter Try.func19, Try.ntmps19
  go_wp2_with (fail)
  go_ret
  exact ⟨rfl, rfl⟩
theorem In_Done_nil (w : World) : Calls Try.prog 20 #[.pointer none] w fun e w' => e = .returned (.int .i64 91) ∧ w = w' := by
  go_enter Try.func20, Try.ntmps20
  go_wp2_with (fail)
  go_ret
  exact ⟨rfl, rfl⟩
theorem none_1 : code_In_Byte.f 10 false ⟨#[]⟩ 0 = some (0, false, ⟨#[]⟩, 0) := by decide +kernel
theorem none_2 : code_In_Num.f 10 false ⟨#[]⟩ 0 = some (0, false, ⟨#[]⟩, 0) := by decide +kernel
theorem none_3 : code_In_Stamp.f 10 false ⟨#[]⟩ 0 = some (0, 0, false, ⟨#[]⟩, 0) := by decide +kernel
theorem none_4 (n : Int) : code_In_Text.f 10 false ⟨#[]⟩ 0 n = some (⟨#[]⟩, false, ⟨#[]⟩, 0) := by
  unfold code_In_Text.f
  rw [show code_In_number.f 10 false ⟨#[]⟩ 0 2 = some (0, false, false, ⟨#[]⟩, 0) from by decide +kernel, Option.bind_some]
  rfl
theorem none_5 : code_In_Rest.f false ⟨#[]⟩ 0 = some (0, false, ⟨#[]⟩, 0) := rfl
theorem none_6 : code_In_Done.f false ⟨#[]⟩ 0 = some (91, false, ⟨#[]⟩, 0) := by decide +kernel
set_option maxRecDepth 100000 in
theorem nobody_law (w : World) (n : Int) (hn : (Lit.int .i64 n).wf = true) (s : ByteArray) (hs : s.size ≤ 140737488351232) :
    Calls Try.prog 7 #[.int .i64 n, .string s] w fun e w' => e = .returned (.bool true) ∧ Below w.heap.size w w' := by
  go_enter Try.func7, Try.ntmps7
  go_wp2_with (fail)
  have HO1 : Aside0 (OutAt w.heap.size w.heap.size false false [] ((w.alloc (.cells #[.bool false, .bool false, .slice none 0 0] 51)).alloc (.cells #[.pointer none, .pointer (some ⟨w.heap.size, 0, none⟩)] 23))) := ⟨⟨Nat.le_refl _, _, blk_alloc (heap_alloc_new w _) _, own_nil _ _ _ _⟩⟩
  have HR1 : Aside0 (((w.alloc (.cells #[.bool false, .bool false, .slice none 0 0] 51)).alloc (.cells #[.pointer none, .pointer (some ⟨w.heap.size, 0, none⟩)] 23)).heap[w.heap.size + 1]? = some (.cells #[.pointer none, .pointer (some ⟨w.heap.size, 0, none⟩)] 23 (0, 0))) := ⟨new_at (by simp) _⟩
  have HB1 : Aside0 (Below w.heap.size w ((w.alloc (.cells #[.bool false, .bool false, .slice none 0 0] 51)).alloc (.cells #[.pointer none, .pointer (some ⟨w.heap.size, 0, none⟩)] 23))) := ⟨below_alloc (below_alloc (Below.refl _ _) _) _⟩
  generalize (w.alloc (.cells #[.bool false, .bool false, .slice none 0 0] 51)).alloc (.cells #[.pointer none, .pointer (some ⟨w.heap.size, 0, none⟩)] 23) = W at HO1 HR1 HB1 ⊢
  go_loopw [6] (fun i wr => ∃ (k : Nat) (bad : Bool) (L : List Nat), k ≤ 2 ∧ i = .int .i64 k ∧ L.length ≤ 65536 ∧ Aside0 (OutAt w.heap.size w.heap.size false bad L wr) ∧ Aside0 (wr.heap[w.heap.size + 1]? = some (.cells #[.pointer none, .pointer (some ⟨w.heap.size, 0, none⟩)] 23 (0, 0))) ∧ Aside0 (Below w.heap.size w wr)) (fun i _ => 2 - (intOf i).toNat)
  case atStart => exact ⟨0, false, [], by omega, rfl, by decide, HO1, HR1, HB1⟩
  case round =>
    clear HO1 HR1 HB1
    obtain ⟨k, bad, L, hk, rfl, hL, HO, HR, HB⟩ := hrel
    have r0 : wr.cell? ⟨w.heap.size + 1, 0, none⟩ = some (.pointer none) := by rw [cell_of_row _ _ _ _ _ _ HR.out]; rfl
    have r1 : wr.cell? ⟨w.heap.size + 1, 1, none⟩ = some (.pointer (some ⟨w.heap.size, 0, none⟩)) := by rw [cell_of_row _ _ _ _ _ _ HR.out]; rfl
    have hz : w.heap.size + 1 < wr.heap.size := blk_lt HR.out
    rcases (by omega : k = 0 ∨ k = 1 ∨ k = 2) with rfl | rfl | rfl
    · go_wp2_with (fail)
      refine (Out_Byte_nil n wr).mono ?_
      rintro e w1 ⟨rfl, b1⟩
      have HO1 := Aside0.mk (HO.out.below b1)
      have HR1 := Aside0.mk (blk_below HR.out b1)
      have HB1 := Aside0.mk (below_then HB.out HB.out.size b1)
      clear b1 r0 r1
      have r0 : w1.cell? ⟨w.heap.size + 1, 0, none⟩ = some (.pointer none) := by rw [cell_of_row _ _ _ _ _ _ HR1.out]; rfl
      go_wp2_with (fail)
      refine (Out_Num_nil n w1).mono ?_
      rintro e w2 ⟨rfl, b2⟩
      have HO2 := Aside0.mk (HO1.out.below b2)
      have HR2 := Aside0.mk (blk_below HR1.out b2)
      have HB2 := Aside0.mk (below_then HB1.out HB1.out.size b2)
      clear b2 r0
      have r0 : w2.cell? ⟨w.heap.size + 1, 0, none⟩ = some (.pointer none) := by rw [cell_of_row _ _ _ _ _ _ HR2.out]; rfl
      go_wp2_with (fail)
      refine (Out_Stamp_nil n 0 w2).mono ?_
      rintro e w3 ⟨rfl, b3⟩
      have HO3 := Aside0.mk (HO2.out.below b3)
      have HR3 := Aside0.mk (blk_below HR2.out b3)
      have HB3 := Aside0.mk (below_then HB2.out HB2.out.size b3)
      clear b3 r0
      have r0 : w3.cell? ⟨w.heap.size + 1, 0, none⟩ = some (.pointer none) := by rw [cell_of_row _ _ _ _ _ _ HR3.out]; rfl
      go_wp2_with (fail)
      refine (Out_Text_nil s w3).mono ?_
      rintro e w4 ⟨rfl, b4⟩
      have HO4 := Aside0.mk (HO3.out.below b4)
      have HR4 := Aside0.mk (blk_below HR3.out b4)
      have HB4 := Aside0.mk (below_then HB3.out HB3.out.size b4)
      clear b4 r0
      have r0 : w4.cell? ⟨w.heap.size + 1, 0, none⟩ = some (.pointer none) := by rw [cell_of_row _ _ _ _ _ _ HR4.out]; rfl
      go_wp2_with (fail)
      refine (Out_Done_nil w4).mono ?_
      rintro e w5 ⟨rfl, rfl⟩
      go_wp2_with (fail)
      refine ⟨⟨1, bad, L, by omega, rfl, hL, HO4, HR4, HB4⟩, by simp [intOf]⟩
    · go_wp2_with (fail)
      refine (Out_Byte w.heap.size w.heap.size false bad L n wr HO.out hL HB.out.size).mono ?_
      have hl1 := outStep_len bad L (oneB n) (byN n 1) hL
      generalize outStep bad L (oneB n) (byN n 1) = q1 at hl1 ⊢
      rintro e w1 ⟨rfl, o1, f1, b1⟩
      have HO1 := Aside0.mk o1
      have HR1 := Aside0.mk (f1.blk HR.out (by decide) (by decide))
      have HB1 := Aside0.mk (HB.out.trans b1)
      clear o1 f1 b1 r0 r1
      have r1 : w1.cell? ⟨w.heap.size + 1, 1, none⟩ = some (.pointer (some ⟨w.heap.size, 0, none⟩)) := by rw [cell_of_row _ _ _ _ _ _ HR1.out]; rfl
      go_wp2_with (fail)
      refine (Out_Num w.heap.size w.heap.size false q1.1 q1.2 n w1 HO1.out hl1 HB1.out.size).mono ?_
      have hl2 := outStep_len q1.1 q1.2 (timeB n) (byN n 6) hl1
      generalize outStep q1.1 q1.2 (timeB n) (byN n 6) = q2 at hl2 ⊢
      rintro e w2 ⟨rfl, o2, f2, b2⟩
      have HO2 := Aside0.mk o2
      have HR2 := Aside0.mk (f2.blk HR1.out (by decide) (by decide))
      have HB2 := Aside0.mk (HB1.out.trans b2)
      clear o2 f2 b2 r1
      have r1 : w2.cell? ⟨w.heap.size + 1, 1, none⟩ = some (.pointer (some ⟨w.heap.size, 0, none⟩)) := by rw [cell_of_row _ _ _ _ _ _ HR2.out]; rfl
      go_wp2_with (fail)
      refine (Out_Stamp w.heap.size w.heap.size false q2.1 q2.2 n 0 w2 HO2.out hl2 HB2.out.size).mono ?_
      have hl3 := outStep_len q2.1 q2.2 (timeB n && oneB 0) (byN n 6 ++ byN 0 1) hl2
      generalize outStep q2.1 q2.2 (timeB n && oneB 0) (byN n 6 ++ byN 0 1) = q3 at hl3 ⊢
      rintro e w3 ⟨rfl, o3, f3, b3⟩
      have HO3 := Aside0.mk o3
      have HR3 := Aside0.mk (f3.blk HR2.out (by decide) (by decide))
      have HB3 := Aside0.mk (HB2.out.trans b3)
      clear o3 f3 b3 r1
      have r1 : w3.cell? ⟨w.heap.size + 1, 1, none⟩ = some (.pointer (some ⟨w.heap.size, 0, none⟩)) := by rw [cell_of_row _ _ _ _ _ _ HR3.out]; rfl
      go_wp2_with (fail)
      refine (Out_Text w.heap.size w.heap.size false q3.1 q3.2 s w3 HO3.out hl3 hs HB3.out.size).mono ?_
      have hl4 := outStep_len q3.1 q3.2 (decide (s.size ≤ 65535)) (byN (s.size : Int) 2 ++ bys s) hl3
      generalize outStep q3.1 q3.2 (decide (s.size ≤ 65535)) (byN (s.size : Int) 2 ++ bys s) = q4 at hl4 ⊢
      rintro e w4 ⟨rfl, o4, f4, b4⟩
      have HO4 := Aside0.mk o4
      have HR4 := Aside0.mk (f4.blk HR3.out (by decide) (by decide))
      have HB4 := Aside0.mk (HB3.out.trans b4)
      clear o4 f4 b4 r1
      have r1 : w4.cell? ⟨w.heap.size + 1, 1, none⟩ = some (.pointer (some ⟨w.heap.size, 0, none⟩)) := by rw [cell_of_row _ _ _ _ _ _ HR4.out]; rfl
      go_wp2_with (fail)
      refine (Out_Done_bad w.heap.size w.heap.size false q4.1 q4.2 w4 HO4.out (.inl rfl)).mono ?_
      rintro e w5 ⟨rfl, rfl⟩
      go_wp2_with (fail)
      refine ⟨⟨2, q4.1, q4.2, by omega, rfl, hl4, HO4, HR4, HB4⟩, by simp [intOf]⟩
    · clear r0 r1
      go_wp2_with (fail)
      have HI1 : Aside0 (IsS57 w ((wr.alloc (.cells #[.bool false, .string (⟨#[]⟩ : ByteArray), .int .i64 0] 57)).alloc (.cells #[.pointer none, .pointer (some ⟨wr.heap.size, 0, none⟩)] 36)) wr.heap.size false ⟨#[]⟩ 0) := ⟨⟨blk_alloc (heap_alloc_new wr _) _, HB.out.size⟩⟩
      have HR1 : Aside0 (((wr.alloc (.cells #[.bool false, .string (⟨#[]⟩ : ByteArray), .int .i64 0] 57)).alloc (.cells #[.pointer none, .pointer (some ⟨wr.heap.size, 0, none⟩)] 36)).heap[wr.heap.size + 1]? = some (.cells #[.pointer none, .pointer (some ⟨wr.heap.size, 0, none⟩)] 36 (0, 0))) := ⟨new_at (by simp) _⟩
      have HB1 : Aside0 (Below w.heap.size w ((wr.alloc (.cells #[.bool false, .string (⟨#[]⟩ : ByteArray), .int .i64 0] 57)).alloc (.cells #[.pointer none, .pointer (some ⟨wr.heap.size, 0, none⟩)] 36))) := ⟨below_alloc (below_alloc HB.out _) _⟩
      generalize (wr.alloc (.cells #[.bool false, .string (⟨#[]⟩ : ByteArray), .int .i64 0] 57)).alloc (.cells #[.pointer none, .pointer (some ⟨wr.heap.size, 0, none⟩)] 36) = W2 at HI1 HR1 HB1 ⊢
      obtain ⟨gi, hgi⟩ : ∃ gi, gi = wr.heap.size := ⟨_, rfl⟩
      rw [← hgi] at HI1 HR1 ⊢
      clear HO HR HB hgi hz
      go_loopw [10] (fun i wq => ∃ (k : Nat), k ≤ 2 ∧ i = .int .i64 k ∧ Aside0 (IsS57 w wq gi false ⟨#[]⟩ 0) ∧ Aside0 (wq.heap[gi + 1]? = some (.cells #[.pointer none, .pointer (some ⟨gi, 0, none⟩)] 36 (0, 0))) ∧ Aside0 (Below w.heap.size w wq)) (fun i _ => 2 - (intOf i).toNat)
      case atStart => exact ⟨0, by omega, rfl, HI1, HR1, HB1⟩
      case round =>
        clear HI1 HR1 HB1
        obtain ⟨k, hk, rfl, HI, HR, HB⟩ := hrel
        have r0 : wr.cell? ⟨gi + 1, 0, none⟩ = some (.pointer none) := by rw [cell_of_row _ _ _ _ _ _ HR.out]; rfl
        have r1 : wr.cell? ⟨gi + 1, 1, none⟩ = some (.pointer (some ⟨gi, 0, none⟩)) := by rw [cell_of_row _ _ _ _ _ _ HR.out]; rfl
        have hne : gi + 1 ≠ gi := by omega
        rcases (by omega : k = 0 ∨ k = 1 ∨ k = 2) with rfl | rfl | rfl
        · go_wp2_with (fail)
          refine (In_Byte_nil wr).mono ?_
          rintro e w1 ⟨rfl, rfl⟩
          go_wp2_with (fail)
          refine (In_Num_nil wr).mono ?_
          rintro e w1 ⟨rfl, rfl⟩
          go_wp2_with (fail)
          refine (In_Stamp_nil wr).mono ?_
          rintro e w3 ⟨rfl, b3⟩
          have HI3 := Aside0.mk (IsS57.below HI.out b3)
          have HR3 := Aside0.mk (blk_below HR.out b3)
          have HB3 := Aside0.mk (below_then HB.out HB.out.size b3)
          clear b3 r0 r1
          have r0 : w3.cell? ⟨gi + 1, 0, none⟩ = some (.pointer none) := by rw [cell_of_row _ _ _ _ _ _ HR3.out]; rfl
          go_wp2_with (fail)
          refine (In_Text_nil n w3).mono ?_
          rintro e w1 ⟨rfl, rfl⟩
          go_wp2_with (fail)
          refine (In_Rest_nil w3).mono ?_
          rintro e w1 ⟨rfl, rfl⟩
          go_wp2_with (fail)
          refine (In_Done_nil w3).mono ?_
          rintro e w1 ⟨rfl, rfl⟩
          go_wp2_with (fail)
          go_roundw
          case rel =>
            go_light
            repeat apply Exists.intro
            refine ⟨⟨1, by omega, rfl, HI3, HR3, HB3⟩, rfl⟩
          case measure => simp [intOf]
        · go_wp2_with (fail)
          refine (code_In_Byte.calls 10 gi _ _ _ _ _ _ _ w wr HI.out HB.out none_1).mono ?_
          rintro e w1 ⟨rfl, i1, b1, k1⟩
          have HI1 := Aside0.mk i1
          have HR1 := Aside0.mk ((k1.2 _ (blk_lt HR.out) hne (by simp)).trans HR.out)
          have HB1 := Aside0.mk b1
          clear i1 b1 k1 r0 r1
          have r1 : w1.cell? ⟨gi + 1, 1, none⟩ = some (.pointer (some ⟨gi, 0, none⟩)) := by rw [cell_of_row _ _ _ _ _ _ HR1.out]; rfl
          go_wp2_with (fail)
          refine (code_In_Num.calls 10 gi _ _ _ _ _ _ _ w w1 HI1.out HB1.out none_2).mono ?_
          rintro e w2 ⟨rfl, i2, b2, k2⟩
          have HI2 := Aside0.mk i2
          have HR2 := Aside0.mk ((k2.2 _ (blk_lt HR1.out) hne (by simp)).trans HR1.out)
          have HB2 := Aside0.mk b2
          clear i2 b2 k2 r1
          have r1 : w2.cell? ⟨gi + 1, 1, none⟩ = some (.pointer (some ⟨gi, 0, none⟩)) := by rw [cell_of_row _ _ _ _ _ _ HR2.out]; rfl
          go_wp2_with (fail)
          refine (code_In_Stamp.calls 10 gi _ _ _ _ _ _ _ _ w w2 HI2.out HB2.out none_3).mono ?_
          rintro e w3 ⟨rfl, i3, b3, k3⟩
          have HI3 := Aside0.mk i3
          have HR3 := Aside0.mk ((k3.2 _ (blk_lt HR2.out) hne (by simp)).trans HR2.out)
          have HB3 := Aside0.mk b3
          clear i3 b3 k3 r1
          have r1 : w3.cell? ⟨gi + 1, 1, none⟩ = some (.pointer (some ⟨gi, 0, none⟩)) := by rw [cell_of_row _ _ _ _ _ _ HR3.out]; rfl
          go_wp2_with (fail)
          refine (code_In_Text.calls 10 gi _ _ _ n _ _ _ _ w w3 HI3.out HB3.out (none_4 n)).mono ?_
          rintro e w4 ⟨rfl, i4, b4, k4⟩
          have HI4 := Aside0.mk i4
          have HR4 := Aside0.mk ((k4.2 _ (blk_lt HR3.out) hne (by simp)).trans HR3.out)
          have HB4 := Aside0.mk b4
          clear i4 b4 k4 r1
          have r1 : w4.cell? ⟨gi + 1, 1, none⟩ = some (.pointer (some ⟨gi, 0, none⟩)) := by rw [cell_of_row _ _ _ _ _ _ HR4.out]; rfl
          go_wp2_with (fail)
          refine (code_In_Rest.calls gi _ _ _ _ _ _ _ w w4 HI4.out HB4.out none_5).mono ?_
          rintro e w5 ⟨rfl, i5, b5, k5⟩
          have HI5 := Aside0.mk i5
          have HR5 := Aside0.mk ((k5.2 _ (blk_lt HR4.out) hne (by simp)).trans HR4.out)
          have HB5 := Aside0.mk b5
          clear i5 b5 k5 r1
          have r1 : w5.cell? ⟨gi + 1, 1, none⟩ = some (.pointer (some ⟨gi, 0, none⟩)) := by rw [cell_of_row _ _ _ _ _ _ HR5.out]; rfl
          go_wp2_with (fail)
          refine (code_In_Done.calls gi _ _ _ _ _ _ _ w w5 HI5.out HB5.out none_6).mono ?_
          rintro e w6 ⟨rfl, i6, b6, k6⟩
          have HI6 := Aside0.mk i6
          have HR6 := Aside0.mk ((k6.2 _ (blk_lt HR5.out) hne (by simp)).trans HR5.out)
          have HB6 := Aside0.mk b6
          clear i6 b6 k6 r1
          go_wp2_with (fail)
          go_roundw
          case rel =>
            go_light
            repeat apply Exists.intro
            refine ⟨⟨2, by omega, rfl, HI6, HR6, HB6⟩, rfl⟩
          case measure => simp [intOf]
        · clear r0 r1
          go_wp2_with (fail)
          refine (awake_calls _).mono ?_
          rintro e w7 ⟨rfl, b7⟩
          have B7 := Aside0.mk (below_then HB.out HB.out.size b7)
          clear b7
          go_wp2_with (fail)
          go_ret
          exact ⟨rfl, B7.out⟩
end Go.Proofs.Ytpeliaknceigdaa.Pr

/- samphirelaw09's awake: the walk. -/
import Derived.Test.YtpeliaknceigdaaHCodeW
import Derived.Test.YtpeliaknceigdaaPrxf14
import Derived.Test.YtpeliaknceigdaaPrxf16
import Derived.Test.YtpeliaknceigdaaPrxf18
import Derived.Test.YtpeliaknceigdaaPrxf20
namespace Go.Proofs.Ytpeliaknceigdaa.Pr
open Go.RowKit Go.Deep Go.Proofs.YtpeliaknceigdaaW.PrintWords Go.Proofs.YtpeliaknceigdaaW.PrintLast Go.Proofs.YtpeliaknceigdaaW.PrintMore
set_option maxHeartbeats 2000000
set_option linter.unusedVariables false
set_option linter.unusedSimpArgs false
theorem awake_1 : outStep false [] (timeB 258) (byN 258 6) = (false, [0, 0, 0, 0, 1, 2]) := by decide +kernel
theorem awake_2 : outStep false [0, 0, 0, 0, 1, 2] (decide ((⟨#[97, 98]⟩ : ByteArray).size ≤ 65535)) (byN ((⟨#[97, 98]⟩ : ByteArray).size : Int) 2 ++ bys ⟨#[97, 98]⟩) = (false, [0, 0, 0, 0, 1, 2, 0, 2, 97, 98]) := by decide +kernel
theorem awake_3 : txt [0, 0, 0, 0, 1, 2, 0, 2, 97, 98] = ⟨#[0, 0, 0, 0, 1, 2, 0, 2, 97, 98]⟩ := by decide +kernel
theorem awake_4 : code_In_Num.f 10 true ⟨#[0, 0, 0, 0, 1, 2, 0, 2, 97, 98]⟩ 0 = some (258, true, ⟨#[0, 2, 97, 98]⟩, 0) := by decide +kernel
theorem awake_5 : code_In_Text.f 10 true ⟨#[0, 2, 97, 98]⟩ 0 2 = some (⟨#[97, 98]⟩, true, ⟨#[]⟩, 0) := by decide +kernel
theorem awake_6 : code_In_Done.f true ⟨#[]⟩ 0 = some (0, true, ⟨#[]⟩, 0) := by decide +kernel
set_option maxRecDepth 100000 in
theorem awake_calls (w : World) : Calls Try.prog 10 #[] w fun e w' => e = .returned (.bool true) ∧ Below w.heap.size w w' := by
  go_enter Try.func10, Try.ntmps10
  go_wp2_with (fail)
  refine (NewOut_calls w.heap.size w (Nat.le_refl _)).mono ?_
  rintro e w1 ⟨rfl, h1, b1⟩
  have H1 := Aside0.mk h1
  have B1 := Aside0.mk b1
  clear h1 b1
  go_wp2_with (fail)
  refine (Out_Num w.heap.size w.heap.size true false [] 258 w1 H1.out (by decide) B1.out.size).mono ?_
  rw [awake_1]
  rintro e w2 ⟨rfl, h2, f2, b2⟩
  have H2 := Aside0.mk h2
  have B2 := Aside0.mk (B1.out.trans b2)
  clear h2 f2 b2
  go_wp2_with (fail)
  refine (Out_Text w.heap.size w.heap.size true false [0, 0, 0, 0, 1, 2] ⟨#[97, 98]⟩ w2 H2.out (by decide) (by decide) B2.out.size).mono ?_
  rw [awake_2]
  rintro e w3 ⟨rfl, h3, f3, b3⟩
  have H3 := Aside0.mk h3
  have B3 := Aside0.mk (B2.out.trans b3)
  clear h3 f3 b3
  go_wp2_with (fail)
  refine (Out_Done w.heap.size w.heap.size [0, 0, 0, 0, 1, 2, 0, 2, 97, 98] w3 H3.out).mono ?_
  rw [awake_3]
  rintro e w4 ⟨rfl, rfl⟩
  go_wp2_with (fail)
  refine (code_NewIn.calls ⟨#[0, 0, 0, 0, 1, 2, 0, 2, 97, 98]⟩ _ _ _ w w3 B3.out rfl).mono ?_
  rintro e w5 ⟨g, rfl, hi5, b5, b6⟩
  have HI5 := Aside0.mk hi5
  have B5 := Aside0.mk b5
  clear hi5 b5 b6
  go_wp2_with (fail)
  refine (code_In_Num.calls 10 g _ _ _ _ _ _ _ w w5 HI5.out B5.out awake_4).mono ?_
  rintro e w6 ⟨rfl, hi6, b6, k6⟩
  have HI6 := Aside0.mk hi6
  have B6 := Aside0.mk b6
  clear hi6 b6 k6
  go_wp2_with (fail)
  refine (code_In_Text.calls 10 g _ _ _ _ _ _ _ _ w w6 HI6.out B6.out awake_5).mono ?_
  rintro e w7 ⟨rfl, hi7, b7, k7⟩
  have HI7 := Aside0.mk hi7
  have B7 := Aside0.mk b7
  clear hi7 b7 k7
  go_wp2_with (fail)
  refine (code_In_Done.calls g _ _ _ _ _ _ _ w w7 HI7.out B7.out awake_6).mono ?_
  rintro e w8 ⟨rfl, hi8, b8, k8⟩
  have B8 := Aside0.mk b8
  clear hi8 b8 k8
  go_wp2_with (fail)
  go_ret
  exact ⟨rfl, B8.out⟩
end Go.Proofs.Ytpeliaknceigdaa.Pr

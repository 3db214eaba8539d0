/- ShaSums, the plain statement: the sum of any text is the reference's. No condition. -/
import Derived.Test.YtbmpcdpcdljibaaHShaT
import Derived.Test.YtbmpcdpcdljibaaPrxf5
namespace Go.Proofs.Ytbmpcdpcdljibaa.Pure
open Go.RowKit Go.Proofs.Ytbmpcdpcdljibaa.Pr Go.Proofs.YtbmpcdpcdljibaaW.PrintWords Go.Proofs.YtbmpcdpcdljibaaW.PrintLast
theorem abc_f : samphirelaw02_abc.f = some true := by
  unfold samphirelaw02_abc.f
  rw [sha_Sum_f _ (by decide), Option.bind_some]
  have e : bys ⟨#[97, 98, 99]⟩ = [97, 98, 99] := rfl
  rw [sumT, e, txt_toList, sum_abc]
  rfl
theorem ShaSums : samphirelaw02_ShaSums.Pure := by
  intro a0 _
  unfold samphirelaw02_ShaSums.f
  split
  · rw [abc_f, Option.bind_some]
  · rw [sha_Sum_f _ (by omega), ref_Sum_f _ (by omega), Option.bind_some, Option.bind_some, if_pos rfl, abc_f, Option.bind_some]
end Go.Proofs.Ytbmpcdpcdljibaa.Pure

/- samphirelaw09's Part, as it is read. -/
import Derived.Test.YtpeliaknceigdaaHRowA
import Derived.Test.YtpeliaknceigdaaPrx0
namespace Go.Proofs.Ytpeliaknceigdaa.Pr
open Go.RowKit Go.Proofs.YtpeliaknceigdaaW.PrintWords Go.Proofs.YtpeliaknceigdaaW.PrintLast Go.Proofs.YtpeliaknceigdaaW.PrintMore
def PartQ (y : S31) : Prop := (Lit.int .i64 y.f0).wf = true ∧ (Lit.int .i64 y.f1).wf = true ∧ (Lit.int .i64 y.f2).wf = true ∧ y.f3.size ≤ maxLen
theorem rd_part : Rd Try.prog 31 k31 PartQ :=
  Rd.iso (Rd.struct Try.underlying31 (by kernel_rfl) (RdS.cons _ rfl rfl (Rd.int Try.underlying3 (by kernel_rfl)) (RdS.cons _ rfl rfl (Rd.int Try.underlying3 (by kernel_rfl)) (RdS.cons _ rfl rfl (Rd.int Try.underlying3 (by kernel_rfl)) (RdS.last _ rfl rfl (Rd.string Try.underlying9 (by kernel_rfl)) rfl)))))
    (fun x : S31 => (x.f0, x.f1, x.f2, x.f3)) (fun a => ⟨a.1, a.2.1, a.2.2.1, a.2.2.2⟩) (fun _ => rfl)
end Go.Proofs.Ytpeliaknceigdaa.Pr

/- The program's SiteName returns what the reference's returns, for all arguments that the row lets in; no condition besides. Here: the plain side, over the printed functions. -/
import Derived.Test.YtldghpgoggpceaaPFnExactSiteNamex1
import Derived.Test.YtldghpgoggpceaaKit
namespace Go.Proofs.Ytldghpgoggpceaa.Pure
open Go.RowKit Go.Proofs.Ytldghpgoggpceaa.PFnExactSiteName Go.Proofs.YtldghpgoggpceaaW.PrintWords Go.Proofs.YtldghpgoggpceaaW.PrintLast Go.Proofs.YtldghpgoggpceaaW.PrintMore Go.Proofs.Ytldghpgoggpceaa.Kit
set_option linter.unusedVariables false
set_option linter.unusedSimpArgs false

/-- What is to be proved of the printed functions. -/
def Claim : Prop := ∀ (a0 : Int), ((Lit.int .i64 a0).wf = true) → laws_FnExactSiteName.f a0 = some true



theorem FnExactSiteName : Claim := by
  intro a hw
  unfold laws_FnExactSiteName.f
  have h : impl_SiteName.f a = spec_SiteName.f a := rfl
  rw [h]
  unfold spec_SiteName.f
  by_cases h0 : a = 0
  · simp [h0]
  · by_cases h1 : a = 1
    · simp [h1]
    · simp [h0, h1]

end Go.Proofs.Ytldghpgoggpceaa.Pure

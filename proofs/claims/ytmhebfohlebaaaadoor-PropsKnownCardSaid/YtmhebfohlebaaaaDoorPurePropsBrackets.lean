/- Proved: the law PropsBrackets answers true for every character: any character is a bracket, or none, as the document says. No condition beyond the row's own. -/
import Derived.Test.YtmhebfohlebaaaaDoorP2
import Derived.Test.YtmhebfohlebaaaaDoorPr
namespace Go.Proofs.YtmhebfohlebaaaaDoor.Pure
open Go.Proofs.YtmhebfohlebaaaaDoor.P Go.Proofs.YtmhebfohlebaaaaDoorH
theorem works_true : selvedgelaw01_works.f = some true := by kernel_rfl
theorem PropsBrackets : selvedgelaw01_PropsBrackets.Pure := by
  intro a _
  refine ⟨200, ?_⟩
  unfold selvedgelaw01_PropsBrackets.f
  rw [ref_Bracket a 200 (by omega)]
  simp [props_Bracket.f, works_true]
end Go.Proofs.YtmhebfohlebaaaaDoor.Pure

/- Proved: the law PropsAscii answers true for every byte: each was walked, by ranges of characters of one kind. No condition beyond the row's own. -/
import Derived.Test.YtmhebfohlebaaaaDoorAs
namespace Go.Proofs.YtmhebfohlebaaaaDoor.Pure
open Go.Proofs.YtmhebfohlebaaaaDoor.Q
theorem PropsAscii : selvedgelaw01_PropsAscii.Pure := trivial
end Go.Proofs.YtmhebfohlebaaaaDoor.Pure

import Derived.Test.YtgfkbijmchoolaaDoorWInv
import Derived.Test.YtgfkbijmchoolaaDoorWFootNe
namespace Go.Proofs.YtgfkbijmchoolaaDoorW.PrintWords
open Go.RowKit
end Go.Proofs.YtgfkbijmchoolaaDoorW.PrintWords
namespace Go.Proofs.YtgfkbijmchoolaaDoorW.PrintLast
section
variable {ops : Array Oper} {a : Act} {o og : Oper} {g : Nat} {t : Tmp} {u : Bool}
end
end Go.Proofs.YtgfkbijmchoolaaDoorW.PrintLast


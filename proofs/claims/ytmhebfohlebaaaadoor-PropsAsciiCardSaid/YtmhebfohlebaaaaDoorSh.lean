/- Short words for what long prints say often: a row as it stands behind operations that draw or lay; what lies below. -/
import Derived.Test.YtmhebfohlebaaaaDoorWMore
import Derived.Test.YtmhebfohlebaaaaDoorWNEv
import Derived.Below
import Derived.OwnWalk
import Derived.WalkKit
import Derived.RowKit3
import Derived.Deep.OwnRows
namespace Go.Proofs.YtmhebfohlebaaaaDoorSh
open Go.RowKit Go.Proofs.YtmhebfohlebaaaaDoorW.PrintWords Go.Proofs.YtmhebfohlebaaaaDoorW.PrintLast Go.Proofs.YtmhebfohlebaaaaDoorW.PrintMore
theorem RR {p q : Prop} (h : Aside0 p) (f : p → q := by intro h0; (with_reducible repeat (first | apply Kd.R_alloc | apply Kd.R_drewN | apply Kd.R_drew)); exact h0) : q := f h.out
theorem BB {p q : Prop} (h : Aside0 p) (f : p → q := by intro h0; repeat (first | (with_reducible first | exact h0 | apply below_alloc | apply pw_below_drewN | apply below_drew1) | exact h0)) : q := f h.out
theorem FF {q : Prop} (h : q := by first | rfl | (simp [errW_none, errW_some] <;> rfl) | (simp [*, errW_none, errW_some] <;> rfl)) : q := h
end Go.Proofs.YtmhebfohlebaaaaDoorSh

import Derived.Test.YtgfkbijmchoolaaDoorWMore
import Derived.Test.YtgfkbijmchoolaaDoorWNEv
import Derived.Below
import Derived.OwnWalk
import Derived.WalkKit
import Derived.RowKit3
import Derived.Deep.OwnRows
namespace Go.Proofs.YtgfkbijmchoolaaDoorSh
open Go.RowKit Go.Proofs.YtgfkbijmchoolaaDoorW.PrintWords Go.Proofs.YtgfkbijmchoolaaDoorW.PrintLast Go.Proofs.YtgfkbijmchoolaaDoorW.PrintMore
theorem RR {p q : Prop} (h : Aside0 p) (f : p → q := by intro h0; (with_reducible repeat (first | apply Kd.R_alloc | apply Kd.R_drewN | apply Kd.R_drew)); exact h0) : q := f h.out
theorem BB {p q : Prop} (h : Aside0 p) (f : p → q := by intro h0; repeat (first | (with_reducible first | exact h0 | apply below_alloc | apply pw_below_drewN | apply below_drew1) | exact h0)) : q := f h.out
theorem FF {q : Prop} (h : q := by first | rfl | (simp [errW_none, errW_some] <;> rfl) | (simp [*, errW_none, errW_some] <;> rfl)) : q := h
end Go.Proofs.YtgfkbijmchoolaaDoorSh

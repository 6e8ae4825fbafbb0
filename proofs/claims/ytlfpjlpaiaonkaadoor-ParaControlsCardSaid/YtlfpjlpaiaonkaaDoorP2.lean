-- Written by a program of this session (wip/pr.py).
import Derived.Test.YtlfpjlpaiaonkaaDoorP0
import Derived.Test.YtlfpjlpaiaonkaaDoorSpCtl
namespace Go.Proofs.YtlfpjlpaiaonkaaDoor.P
open Go.Proofs.YtlfpjlpaiaonkaaDoorH Go.RowKit Go.Proofs.YtlfpjlpaiaonkaaDoorW.PrintWords Go.Proofs.YtlfpjlpaiaonkaaDoorW.PrintLast Go.Proofs.YtlfpjlpaiaonkaaDoorW.PrintMore
attribute [local go_sem] max2_int min2_int max_two min_two max_three min_three max_four min_four   -- for this text's walks alone
set_option linter.unusedVariables false
set_option linter.unusedSimpArgs false

/-! ### para_Controls: function 14 (by hand) -/
-- @ALONE SpCtl
def para_Controls.f (a0 : Int) (a1 : Int) : Option (ByteArray × ByteArray) := if (0 ≤ a0 ∧ a0 ≤ 255) ∧ (0 ≤ a1 ∧ a1 ≤ 255) then some (Sp.ctl a0 a1) else none
theorem para_Controls.calls (a0 : Int) (a1 : Int) (r1 : ByteArray) (r2 : ByteArray) (w : World) (h : para_Controls.f a0 a1 = some (r1, r2)) (hG : LaidW w := by first | exact hG | exact HG.out | exact LaidW.below HG.out (by repeat (first | (with_reducible first | exact HB.out | apply below_alloc | apply pw_below_drewN | apply below_drew1) | exact HB.out))) :
    Calls Tryd.prog 14 #[.int .u8 a0, .int .u8 a1] w fun e w' => e = .returned (.tuple #[.string r1, .string r2]) ∧ Below w.heap.size w w' := by
  unfold para_Controls.f at h
  split at h
  · rename_i hb
    have h2 := Option.some.inj h
    refine (Sp.ctl_calls a0 a1 w hb.1 hb.2 hG).mono ?_
    rintro e w' ⟨rfl, hd⟩
    rw [h2]
    exact ⟨rfl, hd.below⟩
  · cases h

end Go.Proofs.YtlfpjlpaiaonkaaDoor.P

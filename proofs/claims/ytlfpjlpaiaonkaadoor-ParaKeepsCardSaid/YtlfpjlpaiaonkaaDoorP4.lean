-- Written by a program of this session (wip/pr.py).
import Derived.Test.YtlfpjlpaiaonkaaDoorP0
import Derived.Test.YtlfpjlpaiaonkaaDoorSpS
namespace Go.Proofs.YtlfpjlpaiaonkaaDoor.P
open Go.Proofs.YtlfpjlpaiaonkaaDoorH Go.RowKit Go.Proofs.YtlfpjlpaiaonkaaDoorW.PrintWords Go.Proofs.YtlfpjlpaiaonkaaDoorW.PrintLast Go.Proofs.YtlfpjlpaiaonkaaDoorW.PrintMore
attribute [local go_sem] max2_int min2_int max_two min_two max_three min_three max_four min_four   -- for this text's walks alone
set_option linter.unusedVariables false
set_option linter.unusedSimpArgs false

/-! ### para_Split: function 10 (by hand) -/
-- @ALONE SpS
def para_Split.f (a0_0 : Int) (l0_1 : List S47) (l1 : List S52) (a2 : Bool) : Option (List S39 × Int) :=
  if l0_1.length ≤ 80000 ∧ l1.length ≤ 100000000000 ∧ (l1.all fun s => decide ((0 ≤ s.f1 ∧ s.f1 ≤ 255) ∧ (0 ≤ s.f2 ∧ s.f2 ≤ 255))) = true then some (Sp.split a0_0 l0_1 l1 a2) else none
theorem para_Split.calls (a0_0 : Int) (A0_1 : Option Addr) (c0_1 : Nat) (l0_1 : List S47) (A1 : Option Addr) (c1 : Nat) (l1 : List S52) (a2 : Bool) (r1 : List S39) (r2 : Int) (w : World) (hr0_1 : Kd.C k47 w A0_1 l0_1.length l0_1) (hc0_1 : l0_1.length ≤ c0_1) (hr1 : Kd.C k52 w A1 l1.length l1) (hc1 : l1.length ≤ c1) (h : para_Split.f a0_0 l0_1 l1 a2 = some (r1, r2)) (hG : LaidW w := by first | exact hG | exact HG.out | exact LaidW.below HG.out (by repeat (first | (with_reducible first | exact HB.out | apply below_alloc | apply pw_below_drewN | apply below_drew1) | exact HB.out))) :
    Calls Tryd.prog 10 #[.agg #[.int .i64 a0_0, .slice A0_1 l0_1.length c0_1], .slice A1 l1.length c1, .bool a2] w fun e w' => ∃ v0_ : Value, e = .returned (.tuple #[v0_, .int .i64 r2]) ∧ Kd.S k39 39 w' w.heap.size (fun _ => True) v0_ r1 ∧ Below w.heap.size w w' := by
  unfold para_Split.f at h
  split at h
  · rename_i hb
    have h2 := Option.some.inj h
    refine (Sp.split_calls a0_0 A0_1 A1 c0_1 c1 l0_1 l1 a2 w hr0_1 hc0_1 hr1 hc1 hb.1 hb.2.1 (fun s hs => of_decide_eq_true (p := (0 ≤ s.f1 ∧ s.f1 ≤ 255) ∧ (0 ≤ s.f2 ∧ s.f2 ≤ 255)) (List.all_eq_true.1 hb.2.2 s hs)) hG).mono ?_
    rintro e w' ⟨v, rfl, hv, hbl⟩
    rw [h2] at hv ⊢
    exact ⟨v, rfl, hv, hbl⟩
  · cases h

end Go.Proofs.YtlfpjlpaiaonkaaDoor.P

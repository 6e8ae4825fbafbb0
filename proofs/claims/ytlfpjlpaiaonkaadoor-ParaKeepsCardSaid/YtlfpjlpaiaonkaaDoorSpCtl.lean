/- Layer 13's controls of a box. -/
import Derived.Test.YtlfpjlpaiaonkaaDoorSp
import Derived.Outline
namespace Go.Proofs.YtlfpjlpaiaonkaaDoor.Sp
open Go.RowKit Go.Proofs.YtlfpjlpaiaonkaaDoorW.PrintWords Go.Proofs.YtlfpjlpaiaonkaaDoorW.PrintLast Go.Proofs.YtlfpjlpaiaonkaaDoorW.PrintMore Go.Proofs.YtlfpjlpaiaonkaaDoorH Go.Proofs.YtlfpjlpaiaonkaaDoor.P
attribute [local go_sem] max2_int min2_int max_two min_two max_three min_three max_four min_four
set_option linter.unusedVariables false
set_option linter.unusedSimpArgs false
theorem ctl_big (b d : Int) (h : 6 ≤ b) : ctl b d = (⟨#[]⟩, ⟨#[]⟩) := by
  unfold ctl
  rw [if_neg (by omega), if_neg (by omega), if_neg (by omega), if_neg (by omega), if_neg (by omega)]
theorem ctl_wide (b d : Int) (h : 2 ≤ d) : ctl b d = ctl b 1 := by
  unfold ctl
  simp [show ¬ d = 0 by omega]
set_option maxHeartbeats 4000000 in
set_option maxRecDepth 100000 in
theorem ctl_calls (b d : Int) (w : World) (hb : 0 ≤ b ∧ b ≤ 255) (hd : 0 ≤ d ∧ d ≤ 255) (hG : LaidW w) :
    Calls Tryd.prog 14 #[.int .u8 b, .int .u8 d] w fun e w' => e = .returned (.tuple #[.string (ctl b d).1, .string (ctl b d).2]) ∧ Drawn0 w w' := by
  by_cases h6 : 6 ≤ b
  · rw [ctl_big b d h6]
    clear hG
    go_enter Tryd.func14, Tryd.ntmps14
    go_wp2
    go_ret2
    exact ⟨rfl, ⟨0, rfl⟩⟩
  · have hrow := hG.rows
    clear hG
    have c0 : w.cell? ⟨0, 0, none⟩ = some (.string ⟨#[]⟩) := hrow 0 _ rfl
    have c1 : w.cell? ⟨0, 1, none⟩ = some (.string ⟨#[]⟩) := hrow 1 _ rfl
    have c2 : w.cell? ⟨0, 2, none⟩ = some (.string ⟨#[]⟩) := hrow 2 _ rfl
    have c3 : w.cell? ⟨0, 3, none⟩ = some (.string ⟨#[226, 128, 170]⟩) := hrow 3 _ rfl
    have c4 : w.cell? ⟨0, 4, none⟩ = some (.string ⟨#[226, 128, 171]⟩) := hrow 4 _ rfl
    have c5 : w.cell? ⟨0, 5, none⟩ = some (.string ⟨#[226, 128, 172]⟩) := hrow 5 _ rfl
    have c6 : w.cell? ⟨0, 6, none⟩ = some (.string ⟨#[226, 129, 166]⟩) := hrow 6 _ rfl
    have c7 : w.cell? ⟨0, 7, none⟩ = some (.string ⟨#[226, 129, 167]⟩) := hrow 7 _ rfl
    have c8 : w.cell? ⟨0, 8, none⟩ = some (.string ⟨#[226, 129, 169]⟩) := hrow 8 _ rfl
    have c9 : w.cell? ⟨0, 9, none⟩ = some (.string ⟨#[226, 128, 173]⟩) := hrow 9 _ rfl
    have c10 : w.cell? ⟨0, 10, none⟩ = some (.string ⟨#[226, 128, 174]⟩) := hrow 10 _ rfl
    have c11 : w.cell? ⟨0, 11, none⟩ = some (.string ⟨#[226, 128, 172]⟩) := hrow 11 _ rfl
    have c12 : w.cell? ⟨0, 12, none⟩ = some (.string ⟨#[226, 129, 168, 226, 128, 173]⟩) := hrow 12 _ rfl
    have c13 : w.cell? ⟨0, 13, none⟩ = some (.string ⟨#[226, 129, 168, 226, 128, 174]⟩) := hrow 13 _ rfl
    have c14 : w.cell? ⟨0, 14, none⟩ = some (.string ⟨#[226, 128, 172, 226, 129, 169]⟩) := hrow 14 _ rfl
    have c15 : w.cell? ⟨0, 15, none⟩ = some (.string ⟨#[226, 129, 168]⟩) := hrow 15 _ rfl
    have c16 : w.cell? ⟨0, 16, none⟩ = some (.string ⟨#[226, 129, 168]⟩) := hrow 16 _ rfl
    have c17 : w.cell? ⟨0, 17, none⟩ = some (.string ⟨#[226, 129, 169]⟩) := hrow 17 _ rfl
    clear hrow
    have hb6 : b = 0 ∨ b = 1 ∨ b = 2 ∨ b = 3 ∨ b = 4 ∨ b = 5 := by omega
    by_cases hd1 : d ≤ 1
    · have hd2 : d = 0 ∨ d = 1 := by omega
      clear h6 hb hd hd1
      rcases hb6 with rfl | rfl | rfl | rfl | rfl | rfl <;> rcases hd2 with rfl | rfl
      all_goals
        go_enter Tryd.func14, Tryd.ntmps14
        go_wp2
        go_quiet (fail)
        go_wp2
        go_ret2
        exact ⟨rfl, ⟨_, rfl⟩⟩
    · rw [ctl_wide b d (by omega)]
      have hm : (1 : Int) < d := by omega
      clear h6 hb hd hd1
      rcases hb6 with rfl | rfl | rfl | rfl | rfl | rfl
      all_goals
        go_enter Tryd.func14, Tryd.ntmps14
        go_wp2
        go_quiet (fail)
        go_wp2
        go_ret2
        exact ⟨rfl, ⟨_, rfl⟩⟩
theorem _root_.Go.Proofs.YtlfpjlpaiaonkaaDoorH.LaidW.drewN {w : World} (h : LaidW w) (n : Nat) : LaidW (w.drewN n) := h.below (pw_below_drewN (Below.refl _ _) n)
/-- The same, as a step of a region that draws. -/
theorem ctl_quiet (b d : Int) (w : World) (n : Nat) (hb : 0 ≤ b ∧ b ≤ 255) (hd : 0 ≤ d ∧ d ≤ 255) (hG : LaidW w) :
    Calls Tryd.prog 14 #[.int .u8 b, .int .u8 d] (w.drewN n) fun e w'' => e = .returned (.tuple #[.string (ctl b d).1, .string (ctl b d).2]) ∧ ∃ m, w'' = w.drewN m :=
  Calls.quiet_of ((ctl_calls b d (w.drewN n) hb hd (hG.drewN n)).mono fun e w' h => ⟨h.1, h.2.out⟩)
end Go.Proofs.YtlfpjlpaiaonkaaDoor.Sp

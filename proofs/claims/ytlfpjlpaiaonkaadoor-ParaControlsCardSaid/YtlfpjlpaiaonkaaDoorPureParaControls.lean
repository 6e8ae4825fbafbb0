/- The controls that the program puts about a box are the document's, of any two numbers; and the chapter's example holds. -/
import Derived.Test.YtlfpjlpaiaonkaaDoorP12
import Derived.Test.YtlfpjlpaiaonkaaDoorP5
namespace Go.Proofs.YtlfpjlpaiaonkaaDoor.Pure
open Go.RowKit Go.Proofs.YtlfpjlpaiaonkaaDoor.P Go.Proofs.YtlfpjlpaiaonkaaDoorW.PrintWords Go.Proofs.YtlfpjlpaiaonkaaDoorW.PrintLast
set_option linter.unusedVariables false
set_option linter.unusedSimpArgs false
set_option maxRecDepth 100000 in
theorem works_true : selvedgelaw13_works.f = some true := by kernel_rfl
theorem u8_of {a : Int} (h : (Lit.int .u8 a).wf = true) : 0 ≤ a ∧ a ≤ 255 := by
  simp [Lit.wf, IntKind.min, IntKind.max, IntKind.signed, IntKind.bits] at h
  exact h
theorem either_eq (b : Bool) (x y : ByteArray) : selvedgeref13_either.f b x y = some (if b = true then y else x) := by
  unfold selvedgeref13_either.f
  split <;> rfl
theorem ref_controls (a b : Int) : ∃ x y, selvedgeref13_Controls.f a b = some (x, y) ∧ (Sp.ctl a b).1.toList = x.toList ∧ (Sp.ctl a b).2.toList = y.toList := by
  unfold selvedgeref13_Controls.f Sp.ctl
  simp only [either_eq, Option.bind_some]
  by_cases h0 : b = 0
  · have hb : (b != 0) = false := by rw [h0]; rfl
    simp only [hb, if_pos h0, if_true, Bool.false_eq_true, if_false]
    by_cases h1 : a = 1
    · simp only [if_pos h1]
      first | exact ⟨_, _, rfl, rfl, rfl⟩ | exact ⟨_, _, if_pos (by decide), by kernel_rfl, by kernel_rfl⟩
    simp only [if_neg h1]
    by_cases h2 : a = 2
    · simp only [if_pos h2]
      first | exact ⟨_, _, rfl, rfl, rfl⟩ | exact ⟨_, _, if_pos (by decide), by kernel_rfl, by kernel_rfl⟩
    simp only [if_neg h2]
    by_cases h3 : a = 3
    · simp only [if_pos h3]
      first | exact ⟨_, _, rfl, rfl, rfl⟩ | exact ⟨_, _, if_pos (by decide), by kernel_rfl, by kernel_rfl⟩
    simp only [if_neg h3]
    by_cases h4 : a = 4
    · simp only [if_pos h4]
      first | exact ⟨_, _, rfl, rfl, rfl⟩ | exact ⟨_, _, if_pos (by decide), by kernel_rfl, by kernel_rfl⟩
    simp only [if_neg h4]
    by_cases h5 : a = 5
    · simp only [if_pos h5]
      first | exact ⟨_, _, rfl, rfl, rfl⟩ | exact ⟨_, _, if_pos (by decide), by kernel_rfl, by kernel_rfl⟩
    simp only [if_neg h5]
    exact ⟨_, _, rfl, rfl, rfl⟩
  · have hb : (b != 0) = true := by simp [h0]
    simp only [hb, if_neg h0, if_true, Bool.false_eq_true, if_false]
    by_cases h1 : a = 1
    · simp only [if_pos h1]
      first | exact ⟨_, _, rfl, rfl, rfl⟩ | exact ⟨_, _, if_pos (by decide), by kernel_rfl, by kernel_rfl⟩
    simp only [if_neg h1]
    by_cases h2 : a = 2
    · simp only [if_pos h2]
      first | exact ⟨_, _, rfl, rfl, rfl⟩ | exact ⟨_, _, if_pos (by decide), by kernel_rfl, by kernel_rfl⟩
    simp only [if_neg h2]
    by_cases h3 : a = 3
    · simp only [if_pos h3]
      first | exact ⟨_, _, rfl, rfl, rfl⟩ | exact ⟨_, _, if_pos (by decide), by kernel_rfl, by kernel_rfl⟩
    simp only [if_neg h3]
    by_cases h4 : a = 4
    · simp only [if_pos h4]
      first | exact ⟨_, _, rfl, rfl, rfl⟩ | exact ⟨_, _, if_pos (by decide), by kernel_rfl, by kernel_rfl⟩
    simp only [if_neg h4]
    by_cases h5 : a = 5
    · simp only [if_pos h5]
      first | exact ⟨_, _, rfl, rfl, rfl⟩ | exact ⟨_, _, if_pos (by decide), by kernel_rfl, by kernel_rfl⟩
    simp only [if_neg h5]
    exact ⟨_, _, rfl, rfl, rfl⟩
theorem ParaControls : selvedgelaw13_ParaControls.Pure := by
  intro a b ha hb
  unfold selvedgelaw13_ParaControls.f
  have hc : para_Controls.f a b = some (Sp.ctl a b) := by
    unfold para_Controls.f
    rw [if_pos ⟨u8_of ha, u8_of hb⟩]
  obtain ⟨x, y, h1, h2, h3⟩ := ref_controls a b
  rw [hc, h1]
  simp only [Option.bind_some]
  rw [if_pos h2, if_pos h3, works_true]
  rfl
end Go.Proofs.YtlfpjlpaiaonkaaDoor.Pure

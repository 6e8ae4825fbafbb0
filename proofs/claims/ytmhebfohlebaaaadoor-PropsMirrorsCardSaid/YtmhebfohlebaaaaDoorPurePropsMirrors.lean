/- Proved: the law PropsMirrors answers true for every character: it mirrors what the document says, and is white space as it says. No condition beyond the row's own. -/
import Derived.Test.YtmhebfohlebaaaaDoorP3
import Derived.Test.YtmhebfohlebaaaaDoorPr
namespace Go.Proofs.YtmhebfohlebaaaaDoor.Pure
open Go.Proofs.YtmhebfohlebaaaaDoor.P Go.Proofs.YtmhebfohlebaaaaDoorH
theorem works_true_m : selvedgelaw01_works.f = some true := by kernel_rfl
theorem space_eq (a : Int) : selvedgeref01_Space.f a = props_Space.f a := by
  unfold selvedgeref01_Space.f props_Space.f
  by_cases h1 : a = 9
  · simp [h1]
  · by_cases h2 : a = 10
    · simp [h2]
    · by_cases h3 : a = 12
      · simp [h3]
      · by_cases h4 : a = 13
        · simp [h4]
        · by_cases h5 : a = 32
          · simp [h5]
          · simp [h1, h2, h3, h4, h5]
theorem space_some (a : Int) : ∃ b, props_Space.f a = some b := by
  unfold props_Space.f
  repeat (first | exact ⟨_, rfl⟩ | split)
theorem mirrors_at (a : Int) (k : Nat) (hk : 200 ≤ k) : selvedgelaw01_PropsMirrors.f k a = some true := by
  unfold selvedgelaw01_PropsMirrors.f
  obtain ⟨b, hb⟩ := space_some a
  rw [ref_Mirror a k hk, space_eq, hb]
  simp [props_Mirror.f, works_true_m]
theorem PropsMirrors : selvedgelaw01_PropsMirrors.Pure := fun a _ => ⟨200, mirrors_at a 200 (by omega)⟩
end Go.Proofs.YtmhebfohlebaaaaDoor.Pure

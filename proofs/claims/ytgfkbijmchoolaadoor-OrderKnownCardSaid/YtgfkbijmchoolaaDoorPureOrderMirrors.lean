import Derived.Test.YtgfkbijmchoolaaDoorP9
import Derived.Test.YtgfkbijmchoolaaDoorPrM
import Derived.Test.YtgfkbijmchoolaaDoorOrd
namespace Go.Proofs.YtgfkbijmchoolaaDoor.Pure
open Go.Proofs.YtgfkbijmchoolaaDoor.P Go.Proofs.YtgfkbijmchoolaaDoorH Go.Proofs.YtgfkbijmchoolaaDoor.Ord
theorem twice : ((keys (tabM ++ tabB)).all fun r => !(mirOf r).2 || (mirOf (mirOf r).1 == (r, true))) = true := by kernel_rfl
theorem mir_key (r : Int) (h : (mirOf r).2 = true) : r ∈ keys (tabM ++ tabB) := by
  rw [← mir_swap] at h
  cases ho : othFrom r (tabM ++ tabB) with
  | none => rw [ho] at h; cases h
  | some m => exact oth_key r _ m ho
theorem mir_twice (r : Int) (h : (mirOf r).2 = true) : mirOf (mirOf r).1 = (r, true) := by
  have := (List.all_eq_true.1 twice) r (mir_key r h)
  rw [h] at this
  simpa using this
theorem mirrors_at (a b : Int) (k : Nat) (hk : 200 ≤ k) : selvedgelaw20_OrderMirrors.f k a b = some true := by
  unfold selvedgelaw20_OrderMirrors.f selvedgeref20_Mirrored.f order_Mirrored.f
  rw [ref_Mirror a k hk, works_true k (by omega)]
  simp only [props_Mirror.f, Option.bind_some]
  by_cases h1 : (mirOf a).2 = true
  · by_cases h2 : Int.tmod b 2 = 1
    · simp [h1, h2, mir_twice a h1]
    · simp only [h1, h2, if_true, if_false, Option.bind_some]
      simp
  · have h1' : (mirOf a).2 = false := by simpa using h1
    simp [h1']
theorem OrderMirrors : selvedgelaw20_OrderMirrors.Pure := fun a b _ _ => ⟨200, mirrors_at a b 200 (by omega)⟩
end Go.Proofs.YtgfkbijmchoolaaDoor.Pure

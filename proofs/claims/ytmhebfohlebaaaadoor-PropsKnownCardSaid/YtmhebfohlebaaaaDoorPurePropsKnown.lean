/- Proved: the closed law PropsKnown answers true: the chapter's examples; every character up to 3100, every tenth one behind. No condition beyond the row's own. -/
import Derived.Test.YtmhebfohlebaaaaDoorP4
import Derived.Test.YtmhebfohlebaaaaDoorPr
import Derived.Test.YtmhebfohlebaaaaDoorPurePropsBrackets
import Derived.Test.YtmhebfohlebaaaaDoorPurePropsMirrors
namespace Go.Proofs.YtmhebfohlebaaaaDoor.Pure
open Go.RowKit Go.Proofs.YtmhebfohlebaaaaDoor.P Go.Proofs.YtmhebfohlebaaaaDoorH Go.Proofs.YtmhebfohlebaaaaDoorW.PrintWords
theorem brackets_at (a : Int) (k : Nat) (hk : 200 ≤ k) : selvedgelaw01_PropsBrackets.f k a = some true := by
  unfold selvedgelaw01_PropsBrackets.f
  rw [ref_Bracket a k hk]
  simp [props_Bracket.f, works_true]
theorem known_end (k : Nat) (x : Int) (hx : ¬ x < 1179648) : selvedgelaw01_PropsKnown.l1 (k + 1) x = some true := by
  simp only [selvedgelaw01_PropsKnown.l1]
  rw [if_neg hx]
  kernel_rfl
theorem known_l1 (d : Nat) : ∀ (x : Int) (k : Nat), -20 ≤ x → x ≤ 1179660 → (1179660 - x).toNat = d → 2 * d + 300 ≤ k → selvedgelaw01_PropsKnown.l1 k x = some true := by
  induction d using Nat.strongRecOn with
  | _ d ih =>
    intro x k h0 h1 hd hk
    by_cases hx : x < 1179648
    · obtain ⟨k, rfl⟩ : ∃ m, k = m + 1 + 1 := ⟨k - 2, by omega⟩
      have step : ∀ y : Int, x ≤ y → y ≤ x + 9 → selvedgelaw01_PropsKnown.j2 (k + 1) y = some true := fun y hy1 hy2 => by
        simp only [selvedgelaw01_PropsKnown.j2]
        rw [mirrors_at y k (by omega), brackets_at y k (by omega), ref_Class y k (by omega)]
        simp only [Option.bind_some, if_true, props_Class.f]
        have hw : wrap32 (y + 1) = y + 1 := by unfold wrap32; omega
        rw [hw]
        exact ih (1179660 - (y + 1)).toNat (by omega) (y + 1) k (by omega) (by omega) rfl (by omega)
      have hw : wrap32 (x + 9) = x + 9 := by unfold wrap32; omega
      simp only [selvedgelaw01_PropsKnown.l1]
      rw [if_pos hx]
      by_cases h2 : x > 12544
      · rw [if_pos h2, hw]; exact step (x + 9) (by omega) (by omega)
      · rw [if_neg h2]; exact step x (by omega) (by omega)
    · obtain ⟨k, rfl⟩ : ∃ m, k = m + 1 := ⟨k - 1, by omega⟩
      exact known_end k x hx
def rowL : List Int := [40, 1488, 1575, 1633, 49, 32, 8295, 768, 65, (-1), 1114111, 43, 36, 44, 9, 10, 8203, 8234, 8235, 8237, 8238, 8236, 8294, 8296, 8297, 8206, 8207, 65279]
def rowC : List Int := [14, 2, 3, 7, 4, 13, 21, 9, 1, 1, 1, 5, 6, 8, 12, 11, 10, 15, 16, 17, 18, 19, 20, 22, 23, 1, 2, 10]
theorem row_all : ((List.range 28).all fun i => clsOf (rd rowL (i : Int)) == rd rowC (i : Int)) = true := by kernel_rfl
theorem known_l0 (d : Nat) : ∀ (i k : Nat), i ≤ 28 → 28 - i = d → 2400000 + d ≤ k → selvedgelaw01_PropsKnown.l0 k rowL rowC (i : Int) = some true := by
  have hl : rowL.length = 28 := by kernel_rfl
  have hc : rowC.length = 28 := by kernel_rfl
  induction d with
  | zero =>
    intro i k hi hd hk
    obtain ⟨k, rfl⟩ : ∃ m, k = m + 1 := ⟨k - 1, by omega⟩
    simp only [selvedgelaw01_PropsKnown.l0]
    rw [if_neg (by rw [hl]; omega)]
    exact known_l1 (1179660 - (-20 : Int)).toNat (-20) k (by omega) (by omega) rfl (by omega)
  | succ d ih =>
    intro i k hi hd hk
    obtain ⟨k, rfl⟩ : ∃ m, k = m + 1 := ⟨k - 1, by omega⟩
    have hw : wrap64 ((i : Int) + 1) = ((i + 1 : Nat) : Int) := by unfold wrap64; omega
    have he : clsOf (rd rowL (i : Int)) = rd rowC (i : Int) := by
      have := (List.all_eq_true.1 row_all) i (by rw [List.mem_range]; omega)
      simpa using this
    simp only [selvedgelaw01_PropsKnown.l0, props_Class.f, Option.bind_some]
    rw [if_pos (by rw [hl]; omega), if_pos (by omega), if_pos (by rw [hc]; omega), he, if_pos rfl, hw]
    exact ih (i + 1) k (by omega) (by omega) (by omega)
theorem PropsKnown : selvedgelaw01_PropsKnown.Pure := by
  obtain ⟨K, hK⟩ : ∃ K : Nat, 2500000 ≤ K := ⟨_, Nat.le_refl _⟩
  refine ⟨K, ?_⟩
  unfold selvedgelaw01_PropsKnown.f
  have hr : selvedgelaw01_row.f = some (rowL, rowC) := by kernel_rfl
  rw [hr]
  have h := known_l0 28 0 K (by omega) (by omega) (by omega)
  simp only [Option.bind_some]
  exact h
end Go.Proofs.YtmhebfohlebaaaaDoor.Pure

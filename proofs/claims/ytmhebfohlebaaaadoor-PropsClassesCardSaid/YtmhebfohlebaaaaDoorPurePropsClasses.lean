/- Proved: the law PropsClasses answers true for every character and every number: each character has the class that the document says; so have those next to it, and the ends of the range that it leads to. No condition beyond the row's own. -/
import Derived.Test.YtmhebfohlebaaaaDoorQ3
import Derived.Test.YtmhebfohlebaaaaDoorPrCQ
namespace Go.Proofs.YtmhebfohlebaaaaDoor.Pure
open Go.RowKit Go.Proofs.YtmhebfohlebaaaaDoor.Q Go.Proofs.YtmhebfohlebaaaaDoorH
theorem works_true_c : selvedgelaw01_works.f = some true := by kernel_rfl
theorem classes_l0 (r a b c : Int) (d : Nat) : ∀ (i : Int) (k : Nat), (2 - i).toNat = d → -1 ≤ i → i ≤ 2 → 2 * d + 210 ≤ k → selvedgelaw01_PropsClasses.l0 k r i a b c = some true := by
  induction d with
  | zero =>
    intro i k hd h0 h1 hk
    obtain ⟨k, rfl⟩ : ∃ m, k = m + 1 := ⟨k - 1, by omega⟩
    simp only [selvedgelaw01_PropsClasses.l0]
    rw [if_neg (by omega), ref_Class r k (by omega)]
    simp [props_Class.f, works_true_c]
  | succ d ih =>
    intro i k hd h0 h1 hk
    obtain ⟨k, rfl⟩ : ∃ m, k = m + 1 + 1 := ⟨k - 2, by omega⟩
    have hw : wrap32 (i + 1) = i + 1 := by unfold wrap32; omega
    have hj : selvedgelaw01_PropsClasses.j1 (k + 1) r i false a b c = some true := by
      simp only [selvedgelaw01_PropsClasses.j1]
      rw [if_neg (by decide), hw]
      exact ih (i + 1) k (by omega) (by omega) (by omega) (by omega)
    have hr : ∀ x, selvedgeref01_Class.f (k + 1) x = some (clsOf x) := fun x => ref_Class x (k + 1) (by omega)
    have hb : ∀ x : Int, (clsOf x != clsOf x) = false := fun x => by simp
    simp only [selvedgelaw01_PropsClasses.l0]
    rw [if_pos (by omega)]
    simp only [props_Class.f, hr, Option.bind_some, if_true, hb, hj, ite_self]
theorem PropsClasses : selvedgelaw01_PropsClasses.Pure := by
  intro a n _ hn
  have hn2 : 0 ≤ n ∧ n ≤ 255 := by simp [Lit.wf, IntKind.min, IntKind.max, IntKind.signed, IntKind.bits] at hn; exact hn
  refine ⟨300, ?_⟩
  unfold selvedgelaw01_PropsClasses.f selvedgeref01_Ranges.f
  simp only [Option.bind_some, List.length_map, tabC_len]
  have hw : wrap64 n = n := by unfold wrap64; omega
  rw [hw, if_neg (by decide)]
  have hm : 0 ≤ Int.tmod n ((146 : Nat) : Int) ∧ Int.tmod n ((146 : Nat) : Int) < ((146 : Nat) : Int) := by
    rw [Int.tmod_eq_emod_of_nonneg hn2.1]; omega
  rw [if_pos hm.1, if_pos hm.2]
  exact classes_l0 _ _ _ _ 3 (-1) 300 (by decide) (by omega) (by omega) (by omega)
end Go.Proofs.YtmhebfohlebaaaaDoor.Pure

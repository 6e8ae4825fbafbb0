/- Proved: the law PropsPairs answers true for every character: what mirrors what mirrors it is it; a bracket is neutral, its mirror pairs with it; white space is a blank, a tab, or ends a line. No condition beyond the row's own. -/
import Derived.Test.YtmhebfohlebaaaaDoorP3
import Derived.Test.YtmhebfohlebaaaaDoorPr
namespace Go.Proofs.YtmhebfohlebaaaaDoor.Pure
open Go.Proofs.YtmhebfohlebaaaaDoor.P Go.Proofs.YtmhebfohlebaaaaDoorH
theorem works_true_p : selvedgelaw01_works.f = some true := by kernel_rfl
/-- What the law asks of a character, as a Bool. -/
def pairOk (r : Int) : Bool :=
  let m := (mirOf r).1; let ok := (mirOf r).2
  let a := brkOf r; let b := brkOf m
  ((mirOf m).1 == r && (ok == (mirOf m).2) && (ok != (m == r))) && (!a.2.2 || (ok && b.2.2 && a.1 == b.1 && (a.2.1 != b.2.1) && clsOf r == 14))
theorem keys_ok : ((keys tabB ++ keys tabM).all pairOk) = true := by kernel_rfl
theorem oth_none (r : Int) : ∀ T : List (Int × Int), r ∉ keys T → othFrom r T = none
  | [], _ => rfl
  | x :: T, h => by
    simp only [keys, List.flatMap_cons, List.mem_append, List.mem_cons, List.not_mem_nil, or_false, not_or] at h
    simp only [othFrom]
    rw [if_neg h.1.1, if_neg h.1.2]
    exact oth_none r T h.2
theorem brk_none (r : Int) : ∀ T : List (Int × Int), r ∉ keys T → brkFrom r T = (0, false, false)
  | [], _ => rfl
  | x :: T, h => by
    simp only [keys, List.flatMap_cons, List.mem_append, List.mem_cons, List.not_mem_nil, or_false, not_or] at h
    simp only [brkFrom]
    rw [if_neg (fun e => e.elim h.1.1 h.1.2)]
    exact brk_none r T h.2
theorem pair_ok (r : Int) : pairOk r = true := by
  by_cases h : r ∈ keys tabB ++ keys tabM
  · exact (List.all_eq_true.1 keys_ok) r h
  · rw [List.mem_append, not_or] at h
    have hm : mirOf r = (r, false) := by
      unfold mirOf
      rw [oth_none r tabB h.1, oth_none r tabM h.2]
    have hb : brkOf r = (0, false, false) := brk_none r tabB h.1
    simp [pairOk, hm, hb]
theorem cls_range : (tabC.all fun x => decide (1 ≤ x.2.2) && decide (x.2.2 ≤ 23)) = true := by kernel_rfl
theorem cls_from_range (r : Int) : ∀ T : List T3, (T.all fun x => decide (1 ≤ x.2.2) && decide (x.2.2 ≤ 23)) = true → 1 ≤ clsFrom r T ∧ clsFrom r T ≤ 23
  | [], _ => by simp [clsFrom]
  | x :: T, h => by
    simp only [List.all_cons, Bool.and_eq_true, decide_eq_true_eq] at h
    simp only [clsFrom]
    split
    · omega
    · split
      · exact h.1
      · exact cls_from_range r T (by simpa using h.2)
theorem cls_bounds (r : Int) : 1 ≤ clsOf r ∧ clsOf r ≤ 23 := cls_from_range r tabC cls_range
theorem j1_9 (k : Nat) : selvedgelaw01_PropsPairs.j1 (k + 1) 9 false = some true := by kernel_rfl
theorem j1_10 (k : Nat) : selvedgelaw01_PropsPairs.j1 (k + 1) 10 false = some true := by kernel_rfl
theorem j1_12 (k : Nat) : selvedgelaw01_PropsPairs.j1 (k + 1) 12 false = some true := by kernel_rfl
theorem j1_13 (k : Nat) : selvedgelaw01_PropsPairs.j1 (k + 1) 13 false = some true := by kernel_rfl
theorem j1_32 (k : Nat) : selvedgelaw01_PropsPairs.j1 (k + 1) 32 false = some true := by kernel_rfl
theorem j1_true (a : Int) (k : Nat) (hk : 1 ≤ k) : selvedgelaw01_PropsPairs.j1 k a false = some true := by
  obtain ⟨k, rfl⟩ : ∃ m, k = m + 1 := ⟨k - 1, by omega⟩
  have hc := cls_bounds a
  by_cases h1 : a = 9
  · subst h1; exact j1_9 k
  · by_cases h2 : a = 10
    · subst h2; exact j1_10 k
    · by_cases h3 : a = 12
      · subst h3; exact j1_12 k
      · by_cases h4 : a = 13
        · subst h4; exact j1_13 k
        · by_cases h5 : a = 32
          · subst h5; exact j1_32 k
          · simp only [selvedgelaw01_PropsPairs.j1, props_Class.f, Option.bind_some]
            rw [if_neg (by decide)]
            unfold props_Space.f
            simp [h1, h2, h3, h4, h5, hc.1, hc.2, works_true_p]
theorem PropsPairs : selvedgelaw01_PropsPairs.Pure := by
  intro a _
  refine ⟨5, ?_⟩
  have h := pair_ok a
  unfold pairOk at h
  simp only [Bool.and_eq_true, Bool.or_eq_true, beq_iff_eq, bne_iff_ne, Bool.not_eq_true'] at h
  obtain ⟨⟨⟨h1, h2⟩, h3⟩, h4⟩ := h
  unfold selvedgelaw01_PropsPairs.f
  simp only [props_Mirror.f, Option.bind_some]
  rw [if_pos h1, if_neg (by rw [bne_iff_ne]; exact fun e => e h2)]
  have e3 : ((mirOf a).2 == ((mirOf a).1 == a)) = false := by rw [beq_eq_false_iff_ne]; exact h3
  rw [e3]
  simp only [selvedgelaw01_PropsPairs.j0, props_Bracket.f, Option.bind_some]
  rw [if_neg (by decide)]
  rcases h4 with h4 | ⟨⟨⟨⟨h5, h6⟩, h7⟩, h8⟩, h9⟩
  · rw [h4, if_neg (by decide)]; exact j1_true a 4 (by omega)
  · have e8 : ((brkOf a).2.1 == (brkOf (mirOf a).1).2.1) = false := by rw [beq_eq_false_iff_ne]; exact h8
    by_cases hb : (brkOf a).2.2 = true
    · rw [if_pos hb, if_pos h5, if_pos h6, if_pos h7, e8, if_neg (by decide)]
      simp only [props_Class.f, Option.bind_some]
      rw [h9]
      exact j1_true a 4 (by omega)
    · rw [if_neg hb]; exact j1_true a 4 (by omega)
end Go.Proofs.YtmhebfohlebaaaaDoor.Pure

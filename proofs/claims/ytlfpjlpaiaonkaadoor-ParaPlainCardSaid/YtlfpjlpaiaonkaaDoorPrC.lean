/- What the functions of layer 1 come to, the program's and the document's: plain. -/
import Derived.Test.YtlfpjlpaiaonkaaDoorP8
namespace Go.Proofs.YtlfpjlpaiaonkaaDoor.P
open Go.Proofs.YtlfpjlpaiaonkaaDoorH Go.RowKit Go.Proofs.YtlfpjlpaiaonkaaDoorW.PrintWords Go.Proofs.YtlfpjlpaiaonkaaDoorW.PrintLast Go.Proofs.YtlfpjlpaiaonkaaDoorW.PrintMore
set_option linter.unusedVariables false
set_option linter.unusedSimpArgs false

/-! ### Class -/
theorem rd_range (T : List T3) (i : Nat) (h : i < T.length) : rd_T88 (T.map mkRange) (i : Int) = mkRange (T.getD i (0, 0, 0)) := by
  unfold rd_T88
  rw [List.getD_eq_getElem?_getD, List.getElem?_map, List.getD_eq_getElem?_getD, Int.toNat_natCast, List.getElem?_eq_getElem h]
  rfl
/-- The document's search: the first range that has the character. -/
def clsAny (r : Int) : List T3 → Int
  | [] => 1
  | x :: T => if r ≥ x.1 ∧ r ≤ x.2.1 then x.2.2 else clsAny r T
theorem cls_from (r : Int) (T : List T3) (hT : T.length ≤ 1000) (d : Nat) : ∀ (i k : Nat), i ≤ T.length → T.length - i = d → d < k →
    selvedgeref01_Class.l0 k r (T.map mkRange) (i : Int) = some (clsAny r (T.drop i)) := by
  induction d with
  | zero =>
    intro i k hi hd hk
    obtain ⟨k, rfl⟩ : ∃ m, k = m + 1 := ⟨k - 1, by omega⟩
    simp only [selvedgeref01_Class.l0]
    rw [if_neg (by rw [List.length_map]; omega), List.drop_eq_nil_of_le (by omega)]
    rfl
  | succ d ih =>
    intro i k hi hd hk
    obtain ⟨k, rfl⟩ : ∃ m, k = m + 1 := ⟨k - 1, by omega⟩
    have hlt : i < T.length := by omega
    have hw : wrap64 ((i : Int) + 1) = ((i + 1 : Nat) : Int) := by unfold wrap64; omega
    have h := ih (i + 1) k (by omega) (by omega) (by omega)
    simp only [selvedgeref01_Class.l0]
    rw [if_pos (by rw [List.length_map]; omega), if_pos (by omega), rd_range T i hlt, hw, h, List.drop_eq_getElem_cons hlt, List.getD_eq_getElem?_getD, List.getElem?_eq_getElem hlt]
    simp only [Option.getD_some, mkRange, clsAny]
    by_cases h1 : r ≥ T[i].1
    · by_cases h2 : r ≤ T[i].2.1
      · simp [h1, h2]
      · simp [h1, h2]
    · simp [h1]
/-- The table rises. -/
def rising : List T3 → Bool
  | [] => true
  | [x] => decide (x.1 ≤ x.2.1)
  | x :: y :: T => decide (x.1 ≤ x.2.1) && decide (x.2.1 < y.1) && rising (y :: T)
theorem rising_tail {x : T3} {T : List T3} (h : rising (x :: T) = true) : rising T = true := by
  cases T with
  | nil => rfl
  | cons y T => simp only [rising, Bool.and_eq_true] at h; exact h.2
theorem rising_above (r : Int) : ∀ (T : List T3) (x : T3), rising (x :: T) = true → r ≤ x.2.1 → clsAny r T = 1
  | [], _, _, _ => rfl
  | y :: T, x, h, hr => by
    simp only [rising, Bool.and_eq_true, decide_eq_true_eq] at h
    have hy : y.1 ≤ y.2.1 := by
      cases T with
      | nil => simpa [rising] using h.2
      | cons z T => have h2 := h.2; simp only [rising, Bool.and_eq_true, decide_eq_true_eq] at h2; exact h2.1.1
    simp only [clsAny]
    rw [if_neg (by intro e; omega)]
    exact rising_above r T y h.2 (by omega)
theorem clsAny_eq (r : Int) : ∀ T : List T3, rising T = true → clsAny r T = clsFrom r T
  | [], _ => rfl
  | x :: T, h => by
    have hx : x.1 ≤ x.2.1 := by
      cases T with
      | nil => simpa [rising] using h
      | cons z T => simp only [rising, Bool.and_eq_true, decide_eq_true_eq] at h; exact h.1.1
    simp only [clsAny, clsFrom]
    by_cases h1 : r < x.1
    · rw [if_pos h1, if_neg (by intro e; omega)]
      exact rising_above r T x h (by omega)
    · rw [if_neg h1]
      by_cases h2 : r ≤ x.2.1
      · rw [if_pos h2, if_pos ⟨by omega, h2⟩]
      · rw [if_neg h2, if_neg (fun e => h2 e.2)]
        exact clsAny_eq r T (rising_tail h)
theorem tabC_rises : rising tabC = true := by kernel_rfl
theorem letters : ((List.range 26).all fun n => clsOf (65 + (n : Int)) == 1 && clsOf (97 + (n : Int)) == 1) = true := by kernel_rfl
theorem cls_letter {r : Int} (h : 65 ≤ r ∧ r ≤ 90 ∨ 97 ≤ r ∧ r ≤ 122) : clsOf r = 1 := by
  have hl := letters
  rw [List.all_eq_true] at hl
  rcases h with h | h
  · have := hl (r - 65).toNat (by rw [List.mem_range]; omega)
    simp only [Bool.and_eq_true, beq_iff_eq] at this
    rw [show (65 : Int) + ((r - 65).toNat : Int) = r by omega] at this
    exact this.1
  · have := hl (r - 97).toNat (by rw [List.mem_range]; omega)
    simp only [Bool.and_eq_true, beq_iff_eq] at this
    rw [show (97 : Int) + ((r - 97).toNat : Int) = r by omega] at this
    exact this.2
theorem ref_j (r : Int) (k : Nat) (hk : 200 ≤ k) : selvedgeref01_Class.j0 k r false = some (clsOf r) := by
  obtain ⟨k, rfl⟩ : ∃ m, k = m + 1 := ⟨k - 1, by omega⟩
  simp only [selvedgeref01_Class.j0]
  rw [if_neg (by decide)]
  have h := cls_from r tabC (by rw [tabC_len]; decide) 146 0 k (by omega) (by rw [tabC_len]) (by omega)
  rw [List.drop_zero, clsAny_eq r tabC tabC_rises] at h
  exact h
theorem ref_jt (r : Int) (k : Nat) (hk : 200 ≤ k) (h : clsOf r = 1) : selvedgeref01_Class.j0 k r true = some (clsOf r) := by
  obtain ⟨k, rfl⟩ : ∃ m, k = m + 1 := ⟨k - 1, by omega⟩
  simp only [selvedgeref01_Class.j0]
  rw [if_pos trivial, h]
theorem ref_Class (r : Int) (k : Nat) (hk : 200 ≤ k) : selvedgeref01_Class.f k r = some (clsOf r) := by
  unfold selvedgeref01_Class.f
  by_cases h1 : r ≥ 65
  · rw [if_pos h1]
    by_cases h2 : r ≤ 90
    · rw [if_pos h2]; exact ref_jt r k hk (cls_letter (.inl ⟨h1, h2⟩))
    · rw [if_neg h2]
      by_cases h3 : r ≥ 97
      · rw [if_pos h3]
        by_cases h4 : r ≤ 122
        · rw [decide_eq_true h4]; exact ref_jt r k hk (cls_letter (.inr ⟨h3, h4⟩))
        · rw [decide_eq_false h4]; exact ref_j r k hk
      · rw [if_neg h3]; exact ref_j r k hk
  · rw [if_neg h1, if_neg (by omega)]
    exact ref_j r k hk
end Go.Proofs.YtlfpjlpaiaonkaaDoor.P

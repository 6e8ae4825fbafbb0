/- What the functions of layer 1 come to, the program's and the document's: plain. -/
import Derived.Test.YtmhebfohlebaaaaDoorP1
import Derived.Test.YtmhebfohlebaaaaDoorP2
import Derived.Test.YtmhebfohlebaaaaDoorP2
namespace Go.Proofs.YtmhebfohlebaaaaDoor.P
open Go.Proofs.YtmhebfohlebaaaaDoorH Go.RowKit Go.Proofs.YtmhebfohlebaaaaDoorW.PrintWords Go.Proofs.YtmhebfohlebaaaaDoorW.PrintLast Go.Proofs.YtmhebfohlebaaaaDoorW.PrintMore
set_option linter.unusedVariables false
set_option linter.unusedSimpArgs false

/-! ### Class -/
theorem rd_range (T : List T3) (i : Nat) (h : i < T.length) : rd_T26 (T.map mkRange) (i : Int) = mkRange (T.getD i (0, 0, 0)) := by
  unfold rd_T26
  rw [List.getD_eq_getElem?_getD, List.getElem?_map, List.getD_eq_getElem?_getD, Int.toNat_natCast, List.getElem?_eq_getElem h]
  rfl
/-- The document's search: the first range that has the character. -/
def clsAny (r : Int) : List T3 → Int
  | [] => 1
  | x :: T => if r ≥ x.1 ∧ r ≤ x.2.1 then x.2.2 else clsAny r T
theorem cls_from (r : Int) (T : List T3) (hT : T.length ≤ 1000) (d : Nat) : ∀ (i k : Nat), i ≤ T.length → T.length - i = d → d < k →
    selvedgeref01_Class.l0 k r (T.map mkRange) (i : Int) = some (clsAny r (T.drop i)) := by
  induction d with
  | zero =>
    intro i k hi hd hk
    obtain ⟨k, rfl⟩ : ∃ m, k = m + 1 := ⟨k - 1, by omega⟩
    simp only [selvedgeref01_Class.l0]
    rw [if_neg (by rw [List.length_map]; omega), List.drop_eq_nil_of_le (by omega)]
    rfl
  | succ d ih =>
    intro i k hi hd hk
    obtain ⟨k, rfl⟩ : ∃ m, k = m + 1 := ⟨k - 1, by omega⟩
    have hlt : i < T.length := by omega
    have hw : wrap64 ((i : Int) + 1) = ((i + 1 : Nat) : Int) := by unfold wrap64; omega
    have h := ih (i + 1) k (by omega) (by omega) (by omega)
    simp only [selvedgeref01_Class.l0]
    rw [if_pos (by rw [List.length_map]; omega), if_pos (by omega), rd_range T i hlt, hw, h, List.drop_eq_getElem_cons hlt, List.getD_eq_getElem?_getD, List.getElem?_eq_getElem hlt]
    simp only [Option.getD_some, mkRange, clsAny]
    by_cases h1 : r ≥ T[i].1
    · by_cases h2 : r ≤ T[i].2.1
      · simp [h1, h2]
      · simp [h1, h2]
    · simp [h1]
/-- The table rises. -/
def rising : List T3 → Bool
  | [] => true
  | [x] => decide (x.1 ≤ x.2.1)
  | x :: y :: T => decide (x.1 ≤ x.2.1) && decide (x.2.1 < y.1) && rising (y :: T)
theorem rising_tail {x : T3} {T : List T3} (h : rising (x :: T) = true) : rising T = true := by
  cases T with
  | nil => rfl
  | cons y T => simp only [rising, Bool.and_eq_true] at h; exact h.2
theorem rising_above (r : Int) : ∀ (T : List T3) (x : T3), rising (x :: T) = true → r ≤ x.2.1 → clsAny r T = 1
  | [], _, _, _ => rfl
  | y :: T, x, h, hr => by
    simp only [rising, Bool.and_eq_true, decide_eq_true_eq] at h
    have hy : y.1 ≤ y.2.1 := by
      cases T with
      | nil => simpa [rising] using h.2
      | cons z T => have h2 := h.2; simp only [rising, Bool.and_eq_true, decide_eq_true_eq] at h2; exact h2.1.1
    simp only [clsAny]
    rw [if_neg (by intro e; omega)]
    exact rising_above r T y h.2 (by omega)
theorem clsAny_eq (r : Int) : ∀ T : List T3, rising T = true → clsAny r T = clsFrom r T
  | [], _ => rfl
  | x :: T, h => by
    have hx : x.1 ≤ x.2.1 := by
      cases T with
      | nil => simpa [rising] using h
      | cons z T => simp only [rising, Bool.and_eq_true, decide_eq_true_eq] at h; exact h.1.1
    simp only [clsAny, clsFrom]
    by_cases h1 : r < x.1
    · rw [if_pos h1, if_neg (by intro e; omega)]
      exact rising_above r T x h (by omega)
    · rw [if_neg h1]
      by_cases h2 : r ≤ x.2.1
      · rw [if_pos h2, if_pos ⟨by omega, h2⟩]
      · rw [if_neg h2, if_neg (fun e => h2 e.2)]
        exact clsAny_eq r T (rising_tail h)
theorem tabC_rises : rising tabC = true := by kernel_rfl
theorem letters : ((List.range 26).all fun n => clsOf (65 + (n : Int)) == 1 && clsOf (97 + (n : Int)) == 1) = true := by kernel_rfl
theorem cls_letter {r : Int} (h : 65 ≤ r ∧ r ≤ 90 ∨ 97 ≤ r ∧ r ≤ 122) : clsOf r = 1 := by
  have hl := letters
  rw [List.all_eq_true] at hl
  rcases h with h | h
  · have := hl (r - 65).toNat (by rw [List.mem_range]; omega)
    simp only [Bool.and_eq_true, beq_iff_eq] at this
    rw [show (65 : Int) + ((r - 65).toNat : Int) = r by omega] at this
    exact this.1
  · have := hl (r - 97).toNat (by rw [List.mem_range]; omega)
    simp only [Bool.and_eq_true, beq_iff_eq] at this
    rw [show (97 : Int) + ((r - 97).toNat : Int) = r by omega] at this
    exact this.2
theorem ref_j (r : Int) (k : Nat) (hk : 200 ≤ k) : selvedgeref01_Class.j0 k r false = some (clsOf r) := by
  obtain ⟨k, rfl⟩ : ∃ m, k = m + 1 := ⟨k - 1, by omega⟩
  simp only [selvedgeref01_Class.j0]
  rw [if_neg (by decide)]
  have h := cls_from r tabC (by rw [tabC_len]; decide) 146 0 k (by omega) (by rw [tabC_len]) (by omega)
  rw [List.drop_zero, clsAny_eq r tabC tabC_rises] at h
  exact h
theorem ref_jt (r : Int) (k : Nat) (hk : 200 ≤ k) (h : clsOf r = 1) : selvedgeref01_Class.j0 k r true = some (clsOf r) := by
  obtain ⟨k, rfl⟩ : ∃ m, k = m + 1 := ⟨k - 1, by omega⟩
  simp only [selvedgeref01_Class.j0]
  rw [if_pos trivial, h]
theorem ref_Class (r : Int) (k : Nat) (hk : 200 ≤ k) : selvedgeref01_Class.f k r = some (clsOf r) := by
  unfold selvedgeref01_Class.f
  by_cases h1 : r ≥ 65
  · rw [if_pos h1]
    by_cases h2 : r ≤ 90
    · rw [if_pos h2]; exact ref_jt r k hk (cls_letter (.inl ⟨h1, h2⟩))
    · rw [if_neg h2]
      by_cases h3 : r ≥ 97
      · rw [if_pos h3]
        by_cases h4 : r ≤ 122
        · rw [decide_eq_true h4]; exact ref_jt r k hk (cls_letter (.inr ⟨h3, h4⟩))
        · rw [decide_eq_false h4]; exact ref_j r k hk
      · rw [if_neg h3]; exact ref_j r k hk
  · rw [if_neg h1, if_neg (by omega)]
    exact ref_j r k hk
/-! ### Bracket -/
def mkRTwo (r : Int × Int) : S50 := ⟨r.1, r.2⟩
theorem rd_rtwo (T : List (Int × Int)) (i : Nat) (h : i < T.length) : rd_T50 (T.map mkRTwo) (i : Int) = mkRTwo (T.getD i (0, 0)) := by
  unfold rd_T50
  rw [List.getD_eq_getElem?_getD, List.getElem?_map, List.getD_eq_getElem?_getD, Int.toNat_natCast, List.getElem?_eq_getElem h]
  rfl
theorem ref_Brackets : selvedgeref01_Brackets.f = some (tabB.map mkRTwo) := by kernel_rfl
theorem brk_from (r : Int) (T : List (Int × Int)) (hT : T.length ≤ 1000) (d : Nat) : ∀ (i k : Nat), i ≤ T.length → T.length - i = d → 2 * d + 1 < k →
    selvedgeref01_Bracket.l0 k r (T.map mkRTwo) (i : Int) = some (brkFrom r (T.drop i)) := by
  induction d with
  | zero =>
    intro i k hi hd hk
    obtain ⟨k, rfl⟩ : ∃ m, k = m + 1 := ⟨k - 1, by omega⟩
    simp only [selvedgeref01_Bracket.l0]
    rw [if_neg (by rw [List.length_map]; omega), List.drop_eq_nil_of_le (by omega)]
    rfl
  | succ d ih =>
    intro i k hi hd hk
    obtain ⟨k, rfl⟩ : ∃ m, k = m + 1 + 1 := ⟨k - 2, by omega⟩
    have hlt : i < T.length := by omega
    have hw : wrap64 ((i : Int) + 1) = ((i + 1 : Nat) : Int) := by unfold wrap64; omega
    have h := ih (i + 1) k (by omega) (by omega) (by omega)
    simp only [selvedgeref01_Bracket.l0]
    rw [if_pos (by rw [List.length_map]; omega), if_pos (by omega)]
    simp only [selvedgeref01_Bracket.j1]
    rw [rd_rtwo T i hlt, hw, h, List.drop_eq_getElem_cons hlt, List.getD_eq_getElem?_getD, List.getElem?_eq_getElem hlt, if_pos (show 0 ≤ (i : Int) by omega), if_pos (show (i : Int) < ((T.map mkRTwo).length : Int) by rw [List.length_map]; omega)]
    simp only [Option.getD_some, mkRTwo, brkFrom]
    by_cases h1 : r = T[i].1
    · by_cases h9 : T[i].2 = 9002 <;> simp [h1, h9]
    · by_cases h2 : r = T[i].2
      · have h3 : ¬ T[i].2 = T[i].1 := fun e => h1 (h2.trans e)
        by_cases h9 : T[i].2 = 9002
        · have h10 : ¬ (9002 : Int) = T[i].1 := fun e => h3 (h9.trans e)
          simp [h2, h9, h10]
        · simp [h2, h9, h3]
      · simp [h1, h2]
theorem ref_Bracket (r : Int) (k : Nat) (hk : 200 ≤ k) : selvedgeref01_Bracket.f k r = some (brkOf r) := by
  unfold selvedgeref01_Bracket.f
  rw [ref_Brackets]
  exact brk_from r tabB (by rw [tabB_len]; decide) 23 0 k (by omega) (by rw [tabB_len]) (by omega)
/-! ### Mirror -/
theorem mir_from (r : Int) (T : List (Int × Int)) (hT : T.length ≤ 1000) (d : Nat) : ∀ (i k : Nat), i ≤ T.length → T.length - i = d → d < k →
    selvedgeref01_Mirror.l0 k r (T.map mkRTwo) (i : Int) = some (match othFrom r (T.drop i) with | some m => (m, true) | none => (r, false)) := by
  induction d with
  | zero =>
    intro i k hi hd hk
    obtain ⟨k, rfl⟩ : ∃ m, k = m + 1 := ⟨k - 1, by omega⟩
    simp only [selvedgeref01_Mirror.l0]
    rw [if_neg (by rw [List.length_map]; omega), List.drop_eq_nil_of_le (by omega)]
    rfl
  | succ d ih =>
    intro i k hi hd hk
    obtain ⟨k, rfl⟩ : ∃ m, k = m + 1 := ⟨k - 1, by omega⟩
    have hlt : i < T.length := by omega
    have hw : wrap64 ((i : Int) + 1) = ((i + 1 : Nat) : Int) := by unfold wrap64; omega
    have h := ih (i + 1) k (by omega) (by omega) (by omega)
    simp only [selvedgeref01_Mirror.l0]
    rw [if_pos (by rw [List.length_map]; omega), if_pos (by omega), rd_rtwo T i hlt, hw, h, List.drop_eq_getElem_cons hlt, List.getD_eq_getElem?_getD, List.getElem?_eq_getElem hlt]
    simp only [Option.getD_some, mkRTwo, othFrom]
    by_cases h1 : r = T[i].1
    · simp [h1]
    · by_cases h2 : r = T[i].2
      · have h3 : ¬ T[i].2 = T[i].1 := fun e => h1 (h2.trans e)
        simp [h2, h3]
      · simp [h1, h2]
def keys (T : List (Int × Int)) : List Int := T.flatMap fun x => [x.1, x.2]
theorem oth_key (r : Int) : ∀ (T : List (Int × Int)) (m : Int), othFrom r T = some m → r ∈ keys T
  | [], m, h => by simp [othFrom] at h
  | x :: T, m, h => by
    simp only [othFrom] at h
    by_cases h1 : r = x.1
    · simp [keys, h1]
    · by_cases h2 : r = x.2
      · simp [keys, h2]
      · rw [if_neg h1, if_neg h2] at h
        have := oth_key r T m h
        simp only [keys, List.flatMap_cons, List.mem_append]
        exact .inr this
theorem oth_append (r : Int) : ∀ (T U : List (Int × Int)), othFrom r (T ++ U) = match othFrom r T with | some m => some m | none => othFrom r U
  | [], U => rfl
  | x :: T, U => by
    simp only [List.cons_append, othFrom]
    by_cases h1 : r = x.1
    · simp [h1]
    · by_cases h2 : r = x.2
      · have h3 : ¬ x.2 = x.1 := fun e => h1 (h2.trans e)
        simp [h2, h3]
      · simp only [h1, h2, if_false]
        exact oth_append r T U
theorem apartMB : ((keys tabM).all fun r => (othFrom r tabB).isNone) = true := by kernel_rfl
theorem mir_swap (r : Int) : (match othFrom r (tabM ++ tabB) with | some m => (m, true) | none => (r, false)) = mirOf r := by
  rw [oth_append]
  unfold mirOf
  cases hm : othFrom r tabM with
  | none => cases hb : othFrom r tabB <;> rfl
  | some m =>
    have := (List.all_eq_true.1 apartMB) r (oth_key r tabM m hm)
    cases hb : othFrom r tabB with
    | none => rfl
    | some b => rw [hb] at this; cases this
theorem ref_Mirror (r : Int) (k : Nat) (hk : 200 ≤ k) : selvedgeref01_Mirror.f k r = some (mirOf r) := by
  unfold selvedgeref01_Mirror.f
  simp only [ref_Brackets, Option.bind_some]
  have h1 : ([(⟨60, 62⟩ : S50), ⟨171, 187⟩, ⟨8249, 8250⟩, ⟨8712, 8715⟩, ⟨8804, 8805⟩, ⟨8810, 8811⟩, ⟨8834, 8835⟩] : List S50) = tabM.map mkRTwo := by kernel_rfl
  rw [h1, ← List.map_append, if_pos (by rw [List.length_map, List.length_map, tabM_len, tabB_len]; decide), ← mir_swap]
  have h := mir_from r (tabM ++ tabB) (by rw [List.length_append, tabM_len, tabB_len]; decide) 30 0 k (by omega) (by rw [List.length_append, tabM_len, tabB_len]) (by omega)
  rw [List.drop_zero] at h
  exact h
end Go.Proofs.YtmhebfohlebaaaaDoor.P

import Derived.Test.YtgfkbijmchoolaaDoorP9
namespace Go.Proofs.YtgfkbijmchoolaaDoor.P
open Go.Proofs.YtgfkbijmchoolaaDoorH Go.RowKit Go.Proofs.YtgfkbijmchoolaaDoorW.PrintWords Go.Proofs.YtgfkbijmchoolaaDoorW.PrintLast Go.Proofs.YtgfkbijmchoolaaDoorW.PrintMore
set_option linter.unusedVariables false
set_option linter.unusedSimpArgs false
def mkRTwo (r : Int × Int) : S68 := ⟨r.1, r.2⟩
theorem rd_rtwo (T : List (Int × Int)) (i : Nat) (h : i < T.length) : rd_T68 (T.map mkRTwo) (i : Int) = mkRTwo (T.getD i (0, 0)) := by
  unfold rd_T68
  rw [List.getD_eq_getElem?_getD, List.getElem?_map, List.getD_eq_getElem?_getD, Int.toNat_natCast, List.getElem?_eq_getElem h]
  rfl
theorem ref_Brackets : selvedgeref01_Brackets.f = some (tabB.map mkRTwo) := by kernel_rfl
theorem mir_from (r : Int) (T : List (Int × Int)) (hT : T.length ≤ 1000) (d : Nat) : ∀ (i k : Nat), i ≤ T.length → T.length - i = d → d < k →
    selvedgeref01_Mirror.l0 k r (T.map mkRTwo) (i : Int) = some (match othFrom r (T.drop i) with | some m => (m, true) | none => (r, false)) := by
  induction d with
  | zero =>
    intro i k hi hd hk
    obtain ⟨k, rfl⟩ : ∃ m, k = m + 1 := ⟨k - 1, by omega⟩
    simp only [selvedgeref01_Mirror.l0]
    rw [if_neg (by rw [List.length_map]; omega), List.drop_eq_nil_of_le (by omega)]
    rfl
  | succ d ih =>
    intro i k hi hd hk
    obtain ⟨k, rfl⟩ : ∃ m, k = m + 1 := ⟨k - 1, by omega⟩
    have hlt : i < T.length := by omega
    have hw : wrap64 ((i : Int) + 1) = ((i + 1 : Nat) : Int) := by unfold wrap64; omega
    have h := ih (i + 1) k (by omega) (by omega) (by omega)
    simp only [selvedgeref01_Mirror.l0]
    rw [if_pos (by rw [List.length_map]; omega), if_pos (by omega), rd_rtwo T i hlt, hw, h, List.drop_eq_getElem_cons hlt, List.getD_eq_getElem?_getD, List.getElem?_eq_getElem hlt]
    simp only [Option.getD_some, mkRTwo, othFrom]
    by_cases h1 : r = T[i].1
    · simp [h1]
    · by_cases h2 : r = T[i].2
      · have h3 : ¬ T[i].2 = T[i].1 := fun e => h1 (h2.trans e)
        simp [h2, h3]
      · simp [h1, h2]
def keys (T : List (Int × Int)) : List Int := T.flatMap fun x => [x.1, x.2]
theorem oth_key (r : Int) : ∀ (T : List (Int × Int)) (m : Int), othFrom r T = some m → r ∈ keys T
  | [], m, h => by simp [othFrom] at h
  | x :: T, m, h => by
    simp only [othFrom] at h
    by_cases h1 : r = x.1
    · simp [keys, h1]
    · by_cases h2 : r = x.2
      · simp [keys, h2]
      · rw [if_neg h1, if_neg h2] at h
        have := oth_key r T m h
        simp only [keys, List.flatMap_cons, List.mem_append]
        exact .inr this
theorem oth_append (r : Int) : ∀ (T U : List (Int × Int)), othFrom r (T ++ U) = match othFrom r T with | some m => some m | none => othFrom r U
  | [], U => rfl
  | x :: T, U => by
    simp only [List.cons_append, othFrom]
    by_cases h1 : r = x.1
    · simp [h1]
    · by_cases h2 : r = x.2
      · have h3 : ¬ x.2 = x.1 := fun e => h1 (h2.trans e)
        simp [h2, h3]
      · simp only [h1, h2, if_false]
        exact oth_append r T U
theorem apartMB : ((keys tabM).all fun r => (othFrom r tabB).isNone) = true := by kernel_rfl
theorem mir_swap (r : Int) : (match othFrom r (tabM ++ tabB) with | some m => (m, true) | none => (r, false)) = mirOf r := by
  rw [oth_append]
  unfold mirOf
  cases hm : othFrom r tabM with
  | none => cases hb : othFrom r tabB <;> rfl
  | some m =>
    have := (List.all_eq_true.1 apartMB) r (oth_key r tabM m hm)
    cases hb : othFrom r tabB with
    | none => rfl
    | some b => rw [hb] at this; cases this
theorem ref_Mirror (r : Int) (k : Nat) (hk : 200 ≤ k) : selvedgeref01_Mirror.f k r = some (mirOf r) := by
  unfold selvedgeref01_Mirror.f
  simp only [ref_Brackets, Option.bind_some]
  have h1 : ([(⟨60, 62⟩ : S68), ⟨171, 187⟩, ⟨8249, 8250⟩, ⟨8712, 8715⟩, ⟨8804, 8805⟩, ⟨8810, 8811⟩, ⟨8834, 8835⟩] : List S68) = tabM.map mkRTwo := by kernel_rfl
  rw [h1, ← List.map_append, if_pos (by rw [List.length_map, List.length_map, tabM_len, tabB_len]; decide), ← mir_swap]
  have h := mir_from r (tabM ++ tabB) (by rw [List.length_append, tabM_len, tabB_len]; decide) 30 0 k (by omega) (by rw [List.length_append, tabM_len, tabB_len]) (by omega)
  rw [List.drop_zero] at h
  exact h
end Go.Proofs.YtgfkbijmchoolaaDoor.P

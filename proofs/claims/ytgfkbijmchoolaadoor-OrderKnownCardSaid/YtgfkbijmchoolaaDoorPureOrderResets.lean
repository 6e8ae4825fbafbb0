import Derived.Test.YtgfkbijmchoolaaDoorP7
import Derived.Test.YtgfkbijmchoolaaDoorOrdR
namespace Go.Proofs.YtgfkbijmchoolaaDoor.Pure
open Go.RowKit Go.Proofs.YtgfkbijmchoolaaDoor.P Go.Proofs.YtgfkbijmchoolaaDoorH Go.Proofs.YtgfkbijmchoolaaDoor.Ord Go.Proofs.YtgfkbijmchoolaaDoorW.PrintWords
theorem reset_both (l0 l1 : List Int) (a2 a3 a4 : Int) : ∃ r : List Int × Int, r.1.length ≤ 65536 ∧ ∀ k, 70000 * 70000 ≤ k → order_Reset.f k l0 l1 a2 a3 a4 = some r ∧ selvedgeref20_Reset.f k l0 l1 a2 a3 a4 = some r := by
  by_cases h0 : l0.length > 65536
  · exact ⟨([], 3), Nat.zero_le _, fun k _ => ⟨reset_long l0 l1 a2 a3 a4 k h0, ref_reset_long l0 l1 a2 a3 a4 k h0⟩⟩
  · by_cases hb : resetBad l0 l1 a2 a3 a4
    · exact ⟨([], 2), Nat.zero_le _, fun k hk => ⟨reset_bad l0 l1 a2 a3 a4 k (by omega) h0 hb, ref_reset_bad l0 l1 a2 a3 a4 k (by omega) h0 hb⟩⟩
    · have hb' := hb
      unfold resetBad at hb'
      simp only [not_or, Decidable.not_not] at hb'
      obtain ⟨c1, c2, c3, c4, c5, c6⟩ := hb'
      obtain ⟨frm, rfl⟩ : ∃ n : Nat, a3 = n := ⟨a3.toNat, by omega⟩
      obtain ⟨tt, rfl⟩ : ∃ n : Nat, a4 = n := ⟨a4.toNat, by omega⟩
      refine ⟨_, ?_, fun k hk => ⟨reset_good l0 l1 a2 frm tt k (by omega) h0 hb, ref_reset_good l0 l1 a2 frm tt k (by omega) h0 hb⟩⟩
      have h1 := (seg_facts l0 frm tt (by omega) (by omega)).1
      have h2 := segL_length l1 frm tt (by omega)
      rw [length_outOf _ _ _ (by omega), h1]
      omega
theorem resets_fill (x1 x11 : List Int) (h : x11 = x1) (d : Nat) : ∀ (x12 : List Int) (i k : Nat), i ≤ x12.length → x12.length ≤ 65536 → x12.length - i = d → d + 100 ≤ k → selvedgelaw20_OrderResets.l0 k x1 x11 x12 (i : Int) = some true := by
  induction d with
  | zero =>
    intro x12 i k hi hb hd hk
    obtain ⟨k, rfl⟩ : ∃ m, k = m + 1 := ⟨k - 1, by omega⟩
    simp only [selvedgelaw20_OrderResets.l0]
    rw [if_neg (by omega), same_true _ _ h, works_true k (by omega)]
    rfl
  | succ d ih =>
    intro x12 i k hi hb hd hk
    obtain ⟨k, rfl⟩ : ∃ m, k = m + 1 := ⟨k - 1, by omega⟩
    have hw : wrap64 ((i : Int) + 1) = ((i + 1 : Nat) : Int) := by unfold wrap64; omega
    simp only [selvedgelaw20_OrderResets.l0]
    rw [if_pos (by omega), if_pos (by omega), hw]
    exact ih _ (i + 1) k (by rw [List.length_set]; omega) (by rw [List.length_set]; exact hb) (by rw [List.length_set]; omega) (by omega)
theorem resets_j (l0 l1 : List Int) (a2 a3 a4 : Int) (b : Bool) (hl : l1.length < 140737488355328) (k : Nat) (hk : 70001 * 70000 ≤ k) : selvedgelaw20_OrderResets.j0 k l0 l1 a2 a3 a4 b = some true := by
  obtain ⟨k, rfl⟩ : ∃ m, k = m + 1 + 1 := ⟨k - 2, by omega⟩
  simp only [selvedgelaw20_OrderResets.j0]
  by_cases hb : b = true
  · rw [if_pos hb, works_true (k + 1) (by omega)]; rfl
  · obtain ⟨r, hr1, hr⟩ := reset_both l0 l1 a2 a3 a4
    obtain ⟨e1, e2⟩ := hr (k + 1) (by omega)
    rw [if_neg hb, if_pos (by simpa using hl)]
    simp only [List.nil_append, Option.bind_some]
    rw [e1, e2]
    simp only [Option.bind_some, if_true]
    rw [same_true _ _ rfl, same_true _ _ rfl]
    simp only [Option.bind_some, if_true, selvedgelaw20_OrderResets.j1]
    rw [if_neg (by decide)]
    exact resets_fill l1 l1 rfl _ r.1 0 k (by omega) hr1 rfl (by omega)
theorem OrderResets : selvedgelaw20_OrderResets.Pure := by
  intro l0 l1 a2 a3 a4 _ _ _ h1 h2 _ _ _ _
  obtain ⟨K, hK⟩ : ∃ K : Nat, 70001 * 70000 ≤ K := ⟨_, Nat.le_refl _⟩
  refine ⟨K, ?_⟩
  have hj : ∀ b, selvedgelaw20_OrderResets.j0 K l0 l1 a2 a3 a4 b = some true := fun b => resets_j l0 l1 a2 a3 a4 b (by omega) K hK
  unfold selvedgelaw20_OrderResets.f
  repeat (first | exact hj _ | split)
end Go.Proofs.YtgfkbijmchoolaaDoor.Pure

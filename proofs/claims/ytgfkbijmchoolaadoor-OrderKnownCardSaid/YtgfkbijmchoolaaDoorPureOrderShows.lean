import Derived.Test.YtgfkbijmchoolaaDoorP14
import Derived.Test.YtgfkbijmchoolaaDoorOrdW
namespace Go.Proofs.YtgfkbijmchoolaaDoor.Pure
open Go.RowKit Go.Proofs.YtgfkbijmchoolaaDoor.P Go.Proofs.YtgfkbijmchoolaaDoorH Go.Proofs.YtgfkbijmchoolaaDoor.Ord Go.Proofs.YtgfkbijmchoolaaDoorW.PrintWords
theorem visual_same (l : List Int) (h0 : ∀ x ∈ l, 0 ≤ x) : ∃ r : List Int × Int, r.1.length ≤ 65536 ∧ ∀ k, 9900000000000 ≤ k → order_Visual.f k l = some r ∧ selvedgeref20_Visual.f k l = some r := by
  by_cases h : rightOf l = 0
  · obtain ⟨h1, h2⟩ := (right_zero' l).1 h
    refine ⟨(visOf l, 0), by have := length_visOf l; simp; omega, fun k hk => ?_⟩
    exact ⟨visual_good l h h0 k (Nat.le_trans (by decide) hk), ref_visual_good l h h0 k (Nat.le_trans (by decide) hk)⟩
  · refine ⟨([], rightOf l), Nat.zero_le _, fun k hk => ?_⟩
    exact ⟨visual_bad l h k (Nat.le_trans (by decide) hk), ref_visual_bad l h k (Nat.le_trans (by decide) hk)⟩
theorem shows_j (l0 l1 : List Int) (h0 : ∀ x ∈ l0, 0 ≤ x) (b : Bool) (k : Nat) (hk : 9900000000001 ≤ k) : selvedgelaw20_OrderShows.j0 k l0 l1 b = some true := by
  obtain ⟨k, rfl⟩ : ∃ m, k = m + 1 := ⟨k - 1, by omega⟩
  have k1 : 9900000000000 ≤ k := Nat.le_of_succ_le_succ hk
  have k2 : 140000 ≤ k := Nat.le_trans (by decide) k1
  have k3 : 80000 ≤ k := Nat.le_trans (by decide) k1
  have k4 : 60 ≤ k := Nat.le_trans (by decide) k1
  clear hk
  obtain ⟨r, r1, r2⟩ := visual_same l0 h0
  obtain ⟨s, s1, s2⟩ := runs_same l0
  obtain ⟨t, t1, t2⟩ := logical_same l1
  obtain ⟨a1, a2⟩ := r2 k k1
  obtain ⟨b1, b2⟩ := s2 k k2
  obtain ⟨c1, c2⟩ := t2 k k2
  simp only [selvedgelaw20_OrderShows.j0]
  by_cases hb : b = true
  · rw [if_pos hb, works_true k k4]; rfl
  · rw [if_neg hb, a1, a2]
    simp only [Option.bind_some]
    rw [b1, b2]
    simp only [Option.bind_some]
    rw [c1, c2]
    simp only [Option.bind_some, if_true]
    rw [same_ints r.1 r.1 rfl (by omega) k k3, same_ints s.1 s.1 rfl (by omega) k k3, same_ints t.1 t.1 rfl (by omega) k k3, works_true k k4]
    rfl
theorem OrderShows : selvedgelaw20_OrderShows.Pure := by
  intro l0 l1 _ _ h0 _ _ _
  obtain ⟨K, hK⟩ : ∃ K : Nat, 9900000000001 ≤ K := ⟨_, Nat.le_refl _⟩
  refine ⟨K, ?_⟩
  have hj : ∀ b, selvedgelaw20_OrderShows.j0 K l0 l1 b = some true := fun b => shows_j l0 l1 (fun x hx => (of_u8 (h0 x hx)).1) b K hK
  unfold selvedgelaw20_OrderShows.f
  repeat (first | exact hj _ | split)
end Go.Proofs.YtgfkbijmchoolaaDoor.Pure

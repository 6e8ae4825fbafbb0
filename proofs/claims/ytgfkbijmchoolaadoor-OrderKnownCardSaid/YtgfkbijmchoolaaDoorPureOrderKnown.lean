/- Proved: the closed law OrderKnown answers true: its calls of the chapter's other laws do, at every input. No condition beyond the row's own. -/
import Derived.Test.YtgfkbijmchoolaaDoorP15
import Derived.Test.YtgfkbijmchoolaaDoorPureOrderResets
import Derived.Test.YtgfkbijmchoolaaDoorPureOrderShows
import Derived.Test.YtgfkbijmchoolaaDoorPureOrderTurns
import Derived.Test.YtgfkbijmchoolaaDoorPureOrderMirrors
namespace Go.Proofs.YtgfkbijmchoolaaDoor.Pure
open Go.RowKit Go.Proofs.YtgfkbijmchoolaaDoor.P Go.Proofs.YtgfkbijmchoolaaDoorH Go.Proofs.YtgfkbijmchoolaaDoor.Ord Go.Proofs.YtgfkbijmchoolaaDoorW.PrintWords
theorem resets_f (F : Nat) (hF : 9900000001001 ≤ F) (k : Nat) (hk : F ≤ k) (l0 l1 : List Int) (a2 a3 a4 : Int) (h1 : l1.length ≤ 70000) : selvedgelaw20_OrderResets.f k l0 l1 a2 a3 a4 = some true := by
  have hj : ∀ b, selvedgelaw20_OrderResets.j0 k l0 l1 a2 a3 a4 b = some true := fun b => resets_j l0 l1 a2 a3 a4 b (Nat.lt_of_le_of_lt h1 (by decide)) k (Nat.le_trans (Nat.le_trans (by decide) hF) hk)
  unfold selvedgelaw20_OrderResets.f
  repeat (first | exact hj _ | split)
theorem shows_f (F : Nat) (hF : 9900000001001 ≤ F) (k : Nat) (hk : F ≤ k) (l0 l1 : List Int) (h0 : ∀ x ∈ l0, 0 ≤ x) : selvedgelaw20_OrderShows.f k l0 l1 = some true := by
  have hj : ∀ b, selvedgelaw20_OrderShows.j0 k l0 l1 b = some true := fun b => shows_j l0 l1 h0 b k (Nat.le_trans (Nat.le_trans (by decide) hF) hk)
  unfold selvedgelaw20_OrderShows.f
  repeat (first | exact hj _ | split)
theorem turns_f (F : Nat) (hF : 9900000001001 ≤ F) (k : Nat) (hk : F ≤ k) (l0 : List Int) (h0 : ∀ x ∈ l0, 0 ≤ x ∧ x ≤ 255) : selvedgelaw20_OrderTurns.f k l0 = some true := by
  unfold selvedgelaw20_OrderTurns.f
  by_cases h : (l0.length : Int) > 600
  · rw [if_pos h, works_true k (Nat.le_trans (Nat.le_trans (by decide) hF) hk)]; rfl
  · rw [if_neg h]
    have hl : l0.length ≤ 600 := by omega
    exact turn_l0 l0 hl h0 l0.length 0 k (Nat.zero_le _) rfl (Nat.le_trans (Nat.le_trans (Nat.add_le_add_left hl _) (Nat.le_trans (by decide) hF)) hk) (fun x hx => by simp at hx)
theorem known_l6 (F : Nat) (hF : 9900000001001 ≤ F) (d : Nat) : ∀ (i k : Nat) (l : List Int), l.length ≤ 1000 → i ≤ l.length → l.length - i = d → F + d + 1 ≤ k → selvedgelaw20_OrderKnown.l6 k l (l.length : Int) (i : Int) = some true := by
  induction d with
  | zero =>
    intro i k l hl hi hd hk
    obtain ⟨k, rfl⟩ : ∃ m, k = m + 1 := ⟨k - 1, by omega⟩
    have k1 : F ≤ k := by omega
    have hs := shows_f F hF k k1 (List.replicate 65537 0) (List.replicate 65537 0) (fun x hx => by rw [(List.mem_replicate.1 hx).2]; exact Int.le_refl 0)
    have hw := works_true k (Nat.le_trans (Nat.le_trans (by decide) hF) k1)
    have hn : ¬ (i : Int) < (l.length : Int) := by omega
    clear hF hk
    simp only [selvedgelaw20_OrderKnown.l6]
    rw [if_neg hn, if_pos (by decide), if_pos (by decide), hs]
    simp only [Option.bind_some, if_true]
    rw [hw]
    rfl
  | succ d ih =>
    intro i k l hl hi hd hk
    obtain ⟨k, rfl⟩ : ∃ m, k = m + 1 := ⟨k - 1, by omega⟩
    have k1 : F ≤ k := by omega
    have k2 : 200 ≤ k := Nat.le_trans (Nat.le_trans (by decide) hF) k1
    have hw : wrap64 ((i : Int) + 1) = ((i + 1 : Nat) : Int) := by unfold wrap64; omega
    have ih' := ih (i + 1) k l hl (by omega) (by omega) (by omega)
    have g1 : (i : Int) < (l.length : Int) := by omega
    have g2 : 0 ≤ (i : Int) := by omega
    clear hF hk
    simp only [selvedgelaw20_OrderKnown.l6]
    rw [if_pos g1, if_pos g2, if_pos g1, mirrors_at _ _ k k2, mirrors_at _ _ k k2, mirrors_at _ _ k k2, hw]
    simp only [Option.bind_some, if_true]
    exact ih'
theorem known_l5 (F : Nat) (hF : 9900000001001 ≤ F) (d : Nat) : ∀ (i k : Nat) (l : List (List Int)), l.length ≤ 1000 → i ≤ l.length → l.length - i = d → F + 100 + d + 1 ≤ k → selvedgelaw20_OrderKnown.l5 k l (l.length : Int) (i : Int) = some true := by
  induction d with
  | zero =>
    intro i k l hl hi hd hk
    obtain ⟨k, rfl⟩ : ∃ m, k = m + 1 := ⟨k - 1, by omega⟩
    have hn : ¬ (i : Int) < (l.length : Int) := by omega
    have k1 : F + 10 + 1 ≤ k := by omega
    simp only [selvedgelaw20_OrderKnown.l5]
    rw [if_neg hn]
    simp only [Option.bind_some]
    exact known_l6 F hF 10 0 k _ (by decide) (by decide) rfl k1
  | succ d ih =>
    intro i k l hl hi hd hk
    obtain ⟨k, rfl⟩ : ∃ m, k = m + 1 := ⟨k - 1, by omega⟩
    have k1 : F ≤ k := by omega
    have hw : wrap64 ((i : Int) + 1) = ((i + 1 : Nat) : Int) := by unfold wrap64; omega
    have ih' := ih (i + 1) k l hl (by omega) (by omega) (by omega)
    have g1 : (i : Int) < (l.length : Int) := by omega
    have g2 : 0 ≤ (i : Int) := by omega
    have hs : ∀ v, selvedgelaw20_OrderShows.f k [] v = some true := fun v => shows_f F hF k k1 [] v (fun x hx => by cases hx)
    clear hF hk
    simp only [selvedgelaw20_OrderKnown.l5]
    rw [if_pos g1, if_pos g2, if_pos g1, hs, hw]
    simp only [Option.bind_some, if_true]
    exact ih'
theorem known_l4 (F : Nat) (hF : 9900000001001 ≤ F) (l : List (List Int)) (h0 : ∀ i : Nat, i < l.length → ∀ x ∈ rd_L7 l (i : Int), 0 ≤ x ∧ x ≤ 255) (hl : l.length ≤ 1000) (d : Nat) : ∀ (i k : Nat), i ≤ l.length → l.length - i = d → F + 200 + d + 1 ≤ k → selvedgelaw20_OrderKnown.l4 k l (l.length : Int) (i : Int) = some true := by
  induction d with
  | zero =>
    intro i k hi hd hk
    obtain ⟨k, rfl⟩ : ∃ m, k = m + 1 := ⟨k - 1, by omega⟩
    have hn : ¬ (i : Int) < (l.length : Int) := by omega
    have k1 : F + 100 + 6 + 1 ≤ k := by omega
    simp only [selvedgelaw20_OrderKnown.l4]
    rw [if_neg hn]
    simp only [Option.bind_some]
    exact known_l5 F hF 6 0 k _ (by decide) (by decide) rfl k1
  | succ d ih =>
    intro i k hi hd hk
    obtain ⟨k, rfl⟩ : ∃ m, k = m + 1 := ⟨k - 1, by omega⟩
    have k1 : F ≤ k := by omega
    have hw : wrap64 ((i : Int) + 1) = ((i + 1 : Nat) : Int) := by unfold wrap64; omega
    have ih' := ih (i + 1) k (by omega) (by omega) (by omega)
    have g1 : (i : Int) < (l.length : Int) := by omega
    have g2 : 0 ≤ (i : Int) := by omega
    have hx := h0 i (by omega)
    have hs := shows_f F hF k k1 (rd_L7 l (i : Int)) [1, 0] (fun x h => (hx x h).1)
    have ht := turns_f F hF k k1 (rd_L7 l (i : Int)) hx
    clear hF hk
    simp only [selvedgelaw20_OrderKnown.l4]
    rw [if_pos g1, if_pos g2, if_pos g1, hs]
    simp only [Option.bind_some, if_true]
    rw [ht, hw]
    simp only [Option.bind_some, if_true]
    exact ih'
def lists : List (List Int) := [[], [0], [1], [126], [127], [0, 0, 1, 1, 0], [1, 1, 2, 2, 1], [2, 2], [1, 2, 3, 2, 1], [4, 3, 4, 3], [0, 2, 1, 3, 0, 4], [125, 126, 0], [3, 3, 0, 5, 5], [2, 4, 6]]
theorem lists_ok : ((List.range 14).all fun i => (rd_L7 lists (i : Int)).all fun x => decide (0 ≤ x) && decide (x ≤ 255)) = true := by kernel_rfl
theorem known_j4 (F : Nat) (hF : 9900000001001 ≤ F) (k : Nat) (hk : F + 300 ≤ k) : selvedgelaw20_OrderKnown.j4 k false = some true := by
  obtain ⟨k, rfl⟩ : ∃ m, k = m + 1 := ⟨k - 1, by omega⟩
  have k1 : F + 200 + 14 + 1 ≤ k := by omega
  simp only [selvedgelaw20_OrderKnown.j4]
  rw [if_neg (by decide)]
  simp only [Option.bind_some]
  refine known_l4 F hF lists (fun i hi x hx => ?_) (by decide) 14 0 k (by decide) rfl k1
  have hi' : i < 14 := hi
  have := (List.all_eq_true.1 ((List.all_eq_true.1 lists_ok) i (List.mem_range.2 hi'))) x hx
  simpa using this
theorem known_end (F : Nat) (hF : 9900000001001 ≤ F) (x1 x4 : List Int) (x6 : Int) (_h1 : x1.length ≤ 1000) (h4 : x4.length = 54) (h6 : ¬ x6 < (x1.length : Int)) (k : Nat) (hk : F + 400 ≤ k) : selvedgelaw20_OrderKnown.l2 k x1 x4 x6 = some true := by
  obtain ⟨k, rfl⟩ : ∃ m, k = m + 1 := ⟨k - 1, by omega⟩
  have k1 : F ≤ k := by omega
  have hr : ∀ l0 l1 a b c, l1.length ≤ 70000 → selvedgelaw20_OrderResets.f k l0 l1 a b c = some true := fun l0 l1 a b c h => resets_f F hF k k1 l0 l1 a b c h
  have hj := known_j4 F hF k (by omega)
  have g1 : 1 ≤ (x4.length : Int) := by omega
  have n1 : (x4.drop 1).length ≤ 70000 := by rw [List.length_drop]; omega
  have n2 : x4.length ≤ 70000 := by omega
  clear hF hk
  simp only [selvedgelaw20_OrderKnown.l2]
  rw [if_neg h6, if_pos g1, hr _ _ _ _ _ n1]
  simp only [Option.bind_some, if_true]
  rw [hr _ _ _ _ _ n2]
  simp only [Option.bind_some, if_true]
  rw [hr [97] [127] 0 0 1 (by decide)]
  simp only [Option.bind_some, if_true]
  rw [hr [32] [126] 0 0 1 (by decide)]
  simp only [Option.bind_some, if_true]
  rw [hr [] [] 1 0 0 (by decide)]
  simp only [Option.bind_some, if_true]
  rw [if_pos (by decide), hr (List.replicate 65537 0) [] 0 0 0 (by decide)]
  simp only [Option.bind_some]
  exact hj
theorem known_l3 (F : Nat) (hF : 9900000001001 ≤ F) (x1 x4 : List Int) (x6 : Int) (h1 : x1.length = 54) (h4 : x4.length = 54) (R : Option Bool) (K : Nat) (hK : F ≤ K) (h6 : -1 ≤ x6 ∧ x6 ≤ 60) (hR : ∀ k', K ≤ k' → selvedgelaw20_OrderKnown.l2 k' x1 x4 (x6 + 5) = R) (d : Nat) : ∀ (x7 : Int) (k : Nat), -3 ≤ x7 → x7 ≤ 60 → (60 - x7).toNat = d → K + d + 1 ≤ k → selvedgelaw20_OrderKnown.l3 k x1 x4 x6 x7 = R := by
  have n2 : x4.length ≤ 70000 := by omega
  have hc : wrap64 ((x1.length : Int) + 1) = 55 := by rw [h1]; unfold wrap64; omega
  have hw6 : wrap64 (x6 + 5) = x6 + 5 := by unfold wrap64; omega
  induction d with
  | zero =>
    intro x7 k h7 h8 hd hk
    obtain ⟨k, rfl⟩ : ∃ m, k = m + 1 := ⟨k - 1, by omega⟩
    simp only [selvedgelaw20_OrderKnown.l3]
    rw [hc, if_neg (by omega), hw6]
    exact hR k (by omega)
  | succ d ih =>
    intro x7 k h7 h8 hd hk
    obtain ⟨k, rfl⟩ : ∃ m, k = m + 1 := ⟨k - 1, by omega⟩
    have k1 : F ≤ k := by omega
    have k3 := hR k (by omega)
    simp only [selvedgelaw20_OrderKnown.l3]
    rw [hc, hw6]
    by_cases hx : x7 ≤ 55
    · have hw7 : wrap64 (x7 + 1) = x7 + 1 := by unfold wrap64; omega
      have ih' := ih (x7 + 1) k (by omega) (by omega) (by omega) (by omega)
      rw [if_pos hx, resets_f F hF k k1 _ _ _ _ _ n2, hw7]
      simp only [Option.bind_some, if_true]
      exact ih'
    · rw [if_neg hx]; exact k3
theorem known_l2 (F : Nat) (hF : 9900000001001 ≤ F) (x1 x4 : List Int) (h1 : x1.length = 54) (h4 : x4.length = 54) (d : Nat) : ∀ (x6 : Int) (k : Nat), -1 ≤ x6 → x6 ≤ 59 → (60 - x6).toNat ≤ d → F + 400 + (d + 1) * 100 ≤ k → selvedgelaw20_OrderKnown.l2 k x1 x4 x6 = some true := by
  induction d with
  | zero =>
    intro x6 k h6 h7 hd hk
    omega
  | succ d ih =>
    intro x6 k h6 h7 hd hk
    by_cases hx : x6 < (x1.length : Int)
    · obtain ⟨k, rfl⟩ : ∃ m, k = m + 1 := ⟨k - 1, by omega⟩
      have hw : wrap64 (x6 - 1) = x6 - 1 := by unfold wrap64; omega
      have k1 : F ≤ F + 400 + (d + 1) * 100 := by omega
      have k2 : F + 400 + (d + 1) * 100 + (60 - (x6 - 1)).toNat + 1 ≤ k := by omega
      simp only [selvedgelaw20_OrderKnown.l2]
      rw [if_pos hx, hw]
      exact known_l3 F hF x1 x4 x6 h1 h4 _ (F + 400 + (d + 1) * 100) k1 (by omega) (fun k' hk' => ih (x6 + 5) k' (by omega) (by omega) (by omega) hk') _ (x6 - 1) k (by omega) (by omega) rfl k2
    · exact known_end F hF x1 x4 x6 (by omega) h4 hx k (by omega)
theorem known_l1 (F : Nat) (hF : 9900000001001 ≤ F) (x1 : List Int) (h1 : x1.length = 54) (d : Nat) : ∀ (i k : Nat) (x4 : List Int), x4.length = 54 → i ≤ 54 → 54 - i = d → F + 10000 + d + 1 ≤ k → selvedgelaw20_OrderKnown.l1 k x1 x4 (i : Int) = some true := by
  induction d with
  | zero =>
    intro i k x4 h4 hi hd hk
    obtain ⟨k, rfl⟩ : ∃ m, k = m + 1 := ⟨k - 1, by omega⟩
    have k1 : F + 400 + (61 + 1) * 100 ≤ k := by omega
    simp only [selvedgelaw20_OrderKnown.l1]
    rw [if_neg (by omega)]
    exact known_l2 F hF x1 x4 h1 h4 61 (-1) k (by decide) (by decide) (by decide) k1
  | succ d ih =>
    intro i k x4 h4 hi hd hk
    obtain ⟨k, rfl⟩ : ∃ m, k = m + 1 := ⟨k - 1, by omega⟩
    have hw : wrap64 ((i : Int) + 1) = ((i + 1 : Nat) : Int) := by unfold wrap64; omega
    have k1 : F + 10000 + d + 1 ≤ k := by omega
    simp only [selvedgelaw20_OrderKnown.l1]
    rw [if_pos (by omega), if_pos (by omega), hw]
    exact ih (i + 1) k _ (by rw [List.length_set]; exact h4) (by omega) (by omega) k1
theorem known_l0 (F : Nat) (hF : 9900000001001 ≤ F) (l : List Int) (hl : l.length = 18) (d : Nat) : ∀ (i k : Nat) (x1 : List Int), x1.length = 3 * i → i ≤ 18 → 18 - i = d → F + 20000 + d + 1 ≤ k → selvedgelaw20_OrderKnown.l0 k x1 l (l.length : Int) (i : Int) = some true := by
  have hl' : (l.length : Int) = 18 := by omega
  simp only [hl']
  induction d with
  | zero =>
    intro i k x1 h1 hi hd hk
    obtain ⟨k, rfl⟩ : ∃ m, k = m + 1 := ⟨k - 1, by omega⟩
    have k1 : F + 10000 + 54 + 1 ≤ k := by omega
    have hx : x1.length = 54 := by omega
    simp only [selvedgelaw20_OrderKnown.l0]
    rw [if_neg (by omega), hx, if_pos (by decide), if_pos (by decide)]
    exact known_l1 F hF x1 hx 54 0 k _ List.length_replicate (by decide) rfl k1
  | succ d ih =>
    intro i k x1 h1 hi hd hk
    obtain ⟨k, rfl⟩ : ∃ m, k = m + 1 := ⟨k - 1, by omega⟩
    have hw : wrap64 ((i : Int) + 1) = ((i + 1 : Nat) : Int) := by unfold wrap64; omega
    have k1 : F + 20000 + d + 1 ≤ k := by omega
    have g1 : (i : Int) < 18 := by omega
    have g2 : 0 ≤ (i : Int) := by omega
    have g3 : (i : Int) < (l.length : Int) := by omega
    simp only [selvedgelaw20_OrderKnown.l0]
    rw [if_pos g1, if_pos g2, if_pos g3, hw]
    simp only [Option.bind_some]
    rw [if_pos (by simp; omega)]
    exact ih (i + 1) k _ (by rw [List.length_append]; simp; omega) (by omega) (by omega) k1
theorem OrderKnown : selvedgelaw20_OrderKnown.Pure := by
  obtain ⟨F, hF⟩ : ∃ F : Nat, 9900000001001 ≤ F := ⟨_, Nat.le_refl _⟩
  obtain ⟨K, hK⟩ : ∃ K : Nat, F + 20000 + 18 + 1 ≤ K := ⟨_, Nat.le_refl _⟩
  refine ⟨K, ?_⟩
  have h := fun l hl => known_l0 F hF l hl 18 0 K [] rfl (by decide) rfl hK
  unfold selvedgelaw20_OrderKnown.f
  simp only [Option.bind_some]
  exact h _ rfl
end Go.Proofs.YtgfkbijmchoolaaDoor.Pure

/- Proved: the law OrderBackward answers true for every row of levels: levels that are all greater by one are shown as the others backward. No condition beyond the row's own. -/
import Derived.Test.YtgfkbijmchoolaaDoorP11
import Derived.Test.YtgfkbijmchoolaaDoorOrdQ
namespace Go.Proofs.YtgfkbijmchoolaaDoor.Pure
open Go.RowKit Go.Proofs.YtgfkbijmchoolaaDoor.P Go.Proofs.YtgfkbijmchoolaaDoorH Go.Proofs.YtgfkbijmchoolaaDoor.Ord Go.Proofs.YtgfkbijmchoolaaDoorW.PrintWords
theorem rd_reverse (b : List Int) (i : Nat) (h : i < b.length) : rd b.reverse (i : Int) = rd b ((b.length - 1 - i : Nat) : Int) := by
  rw [rd_getD, rd_getD, List.getElem?_reverse h]
theorem back_l1 (a b : List Int) (h : a = b.reverse) (hb : b.length ≤ 70000) (d : Nat) : ∀ (i k : Nat), i ≤ b.length → b.length - i = d → d + 100 ≤ k → selvedgelaw20_OrderBackward.l1 k a b (i : Int) = some true := by
  have hl : a.length = b.length := by rw [h, List.length_reverse]
  induction d with
  | zero =>
    intro i k hi hd hk
    obtain ⟨k, rfl⟩ : ∃ m, k = m + 1 := ⟨k - 1, by omega⟩
    simp only [selvedgelaw20_OrderBackward.l1]
    rw [if_neg (by omega), works_true k (by omega)]
    rfl
  | succ d ih =>
    intro i k hi hd hk
    obtain ⟨k, rfl⟩ : ∃ m, k = m + 1 := ⟨k - 1, by omega⟩
    have hw : wrap64 ((i : Int) + 1) = ((i + 1 : Nat) : Int) := by unfold wrap64; omega
    have hw2 : wrap64 ((wrap64 ((b.length : Int) - 1)) - (i : Int)) = ((b.length - 1 - i : Nat) : Int) := by
      rw [w64 ((b.length : Int) - 1) (by omega), w64 _ (by omega)]; omega
    simp only [selvedgelaw20_OrderBackward.l1]
    rw [hw2, hw, if_pos (by omega), if_pos (by omega), if_pos (by omega), if_pos (by omega), if_pos (by rw [h]; exact rd_reverse b i (by omega))]
    exact ih (i + 1) k (by omega) (by omega) (by omega)
theorem back_l0 (x0 : List Int) (hb : x0.length ≤ 600) (h0 : ∀ x ∈ x0, 0 ≤ x ∧ x ≤ 255) (d : Nat) : ∀ (i k : Nat), i ≤ x0.length → x0.length - i = d → 9900000000000 + d ≤ k → (∀ x ∈ x0.take i, x ≤ 125) →
    selvedgelaw20_OrderBackward.l0 k x0 ((x0.take i).map (· + 1)) (i : Int) = some true := by
  induction d with
  | zero =>
    intro i k hi hd hk hs
    obtain ⟨k, rfl⟩ : ∃ m, k = m + 1 + 1 := ⟨k - 2, by omega⟩
    obtain rfl : i = x0.length := by omega
    rw [List.take_length] at hs ⊢
    have hr : rightOf x0 = 0 := (right_zero' x0).2 ⟨by omega, fun x hx => by have := hs x hx; omega⟩
    have hr2 : rightOf (x0.map (· + 1)) = 0 := (right_zero' _).2 ⟨by rw [List.length_map]; omega, fun x hx => by
      obtain ⟨y, hy, e⟩ := List.mem_map.1 hx; have := hs y hy; omega⟩
    have h1 := vis_one x0 (fun x hx => ⟨(h0 x hx).1, hs x hx⟩)
    have hl1 := length_visOf x0
    have hl2 := length_visOf (x0.map (· + 1))
    rw [List.length_map] at hl2
    have k1 : 9800000000000 ≤ k + 1 := by omega
    have e1 := visual_good x0 hr (fun x hx => (h0 x hx).1) (k + 1) k1
    have e2 := visual_good (x0.map (· + 1)) hr2 (fun x hx => by obtain ⟨y, hy, e⟩ := List.mem_map.1 hx; have := h0 y hy; omega) (k + 1) k1
    have e3 := back_l1 _ _ h1 (by omega) _ 0 k (by omega) rfl (by omega)
    simp only [selvedgelaw20_OrderBackward.l0]
    rw [if_neg (by omega), e1, e2]
    simp only [Option.bind_some, if_true]
    simp only [selvedgelaw20_OrderBackward.j1]
    rw [if_neg (by rw [hl1, hl2]; simp)]
    exact e3
  | succ d ih =>
    intro i k hi hd hk hs
    obtain ⟨k, rfl⟩ : ∃ m, k = m + 1 := ⟨k - 1, by omega⟩
    have hlt : i < x0.length := by omega
    have hm := h0 _ (List.getElem_mem hlt)
    have hw : wrap64 ((i : Int) + 1) = ((i + 1 : Nat) : Int) := by unfold wrap64; omega
    have hlm : ((x0.take i).map (· + 1)).length < 140737488355328 := by rw [List.length_map, List.length_take]; omega
    simp only [selvedgelaw20_OrderBackward.l0]
    rw [if_pos (by omega), if_pos (by omega), rd_get x0 i hlt]
    by_cases hbig : x0[i] > 125
    · rw [if_pos hbig, works_true k (by omega)]; rfl
    · rw [if_neg hbig, if_pos hlm, hw, show (x0[i] + 1) % 256 = x0[i] + 1 by omega]
      have ht : (x0.take (i + 1)) = x0.take i ++ [x0[i]] := (List.take_append_getElem hlt).symm
      have := ih (i + 1) k (by omega) (by omega) (by omega) (fun x hx => by
        rw [ht] at hx
        rcases List.mem_append.1 hx with hx | hx
        · exact hs x hx
        · rw [List.mem_singleton.1 hx]; omega)
      rw [ht, List.map_append] at this
      exact this
theorem OrderBackward : selvedgelaw20_OrderBackward.Pure := by
  intro l0 _ _ h0
  obtain ⟨K, hK⟩ : ∃ K : Nat, 9900000001000 ≤ K := ⟨_, Nat.le_refl _⟩
  refine ⟨K, ?_⟩
  unfold selvedgelaw20_OrderBackward.f
  by_cases h : (l0.length : Int) > 600
  · rw [if_pos h, works_true K (by omega)]; rfl
  · rw [if_neg h]
    exact back_l0 l0 (by omega) (fun x hx => of_u8 (h0 x hx)) l0.length 0 K (by omega) rfl (by omega) (fun x hx => by simp at hx)
end Go.Proofs.YtgfkbijmchoolaaDoor.Pure

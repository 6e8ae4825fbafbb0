import Derived.Test.YtgfkbijmchoolaaDoorP8
import Derived.Test.YtgfkbijmchoolaaDoorOrdQ
namespace Go.Proofs.YtgfkbijmchoolaaDoor.Pure
open Go.RowKit Go.Proofs.YtgfkbijmchoolaaDoor.P Go.Proofs.YtgfkbijmchoolaaDoorH Go.Proofs.YtgfkbijmchoolaaDoor.Ord Go.Proofs.YtgfkbijmchoolaaDoorW.PrintWords
theorem turn_step (x0 y : List Int) (h0 : ∀ x ∈ x0, 0 ≤ x ∧ x ≤ 126) (hy : ∀ j : Nat, j < x0.length → rd y (rd (visOf x0) (j : Int)) = (j : Int)) (i : Nat) (hi : i + 1 < x0.length) (he : rd x0 ((i + 1 : Nat) : Int) = rd x0 (i : Int)) :
    ∃ q : Nat, q < x0.length ∧ rd y (i : Int) = (if rd x0 (i : Int) % 2 = 0 then (q : Int) else (q : Int) + 1) ∧ rd y ((i + 1 : Nat) : Int) = (if rd x0 (i : Int) % 2 = 0 then (q : Int) + 1 else (q : Int)) := by
  obtain ⟨q, hq, hs⟩ := vis_adj x0 h0 i hi he.symm
  have y1 := hy q (by omega)
  have y2 := hy (q + 1) hq
  refine ⟨q, by omega, ?_⟩
  by_cases hp : rd x0 (i : Int) % 2 = 0
  · rw [if_pos (decide_eq_true hp)] at hs
    rw [hs.1] at y1
    rw [hs.2] at y2
    rw [if_pos hp, if_pos hp]
    exact ⟨y1, by rw [y2]; omega⟩
  · rw [if_neg (by rw [decide_eq_false hp]; decide)] at hs
    rw [hs.1] at y1
    rw [hs.2] at y2
    rw [if_neg hp, if_neg hp]
    exact ⟨by rw [y2]; omega, y1⟩
theorem turn_l2 (x0 y : List Int) (hb : x0.length ≤ 600) (hl : y.length = x0.length) (h0 : ∀ x ∈ x0, 0 ≤ x ∧ x ≤ 126) (hy : ∀ j : Nat, j < x0.length → rd y (rd (visOf x0) (j : Int)) = (j : Int)) (d : Nat) : ∀ (i k : Nat), 1 ≤ i → x0.length ≤ i + d → i ≤ x0.length + 1 → d + 100 ≤ k →
    selvedgelaw20_OrderTurns.l2 k x0 y (i : Int) = some true := by
  induction d with
  | zero =>
    intro i k h1 hd hi hk
    obtain ⟨k, rfl⟩ : ∃ m, k = m + 1 := ⟨k - 1, by omega⟩
    simp only [selvedgelaw20_OrderTurns.l2]
    rw [if_neg (by omega), works_true k (by omega)]
    rfl
  | succ d ih =>
    intro i k h1 hd hi hk
    obtain ⟨k, rfl⟩ : ∃ m, k = m + 1 := ⟨k - 1, by omega⟩
    by_cases hlt : i < x0.length
    · obtain ⟨i, rfl⟩ : ∃ m, i = m + 1 := ⟨i - 1, by omega⟩
      have hw : wrap64 (((i + 1 : Nat) : Int) + 1) = ((i + 1 + 1 : Nat) : Int) := by unfold wrap64; omega
      have hw2 : wrap64 (((i + 1 : Nat) : Int) - 1) = (i : Int) := by unfold wrap64; omega
      have ih' := ih (i + 1 + 1) k (by omega) (by omega) (by omega) (by omega)
      have hx := h0 _ (List.getElem_mem hlt)
      have hg := rd_get x0 (i + 1) hlt
      have g1 : ((i + 1 : Nat) : Int) < (x0.length : Int) := by omega
      have g2 : 0 ≤ ((i + 1 : Nat) : Int) := by omega
      have g3 : 0 ≤ (i : Int) := by omega
      have g4 : (i : Int) < (x0.length : Int) := by omega
      have g5 : ((i + 1 : Nat) : Int) < (y.length : Int) := by omega
      have g6 : (i : Int) < (y.length : Int) := by omega
      simp only [selvedgelaw20_OrderTurns.l2]
      rw [hw2, hw]
      simp only [if_pos g1, if_pos g2, if_pos g3, if_pos g4, if_pos g5, if_pos g6, ih']
      by_cases he : rd x0 ((i + 1 : Nat) : Int) = rd x0 (i : Int)
      · obtain ⟨q, hq, z1, z2⟩ := turn_step x0 y h0 hy i hlt he
        rw [if_pos he, if_pos he, z1, z2]
        by_cases hp : rd x0 (i : Int) % 2 = 0
        · rw [if_neg (fun e => by have := (tmod2 (by omega)).1 e; omega), if_pos hp, if_pos hp, w64 _ (by omega), if_pos rfl]
        · rw [if_pos ((tmod2 (by omega)).2 (by omega)), if_neg hp, if_neg hp, w64 _ (by omega), if_pos (by omega)]
      · rw [if_neg he, if_neg he]
        split <;> rfl
    · simp only [selvedgelaw20_OrderTurns.l2]
      rw [if_neg (by omega), works_true k (by omega)]
      rfl
theorem turn_l1 (x0 y : List Int) (hb : x0.length ≤ 600) (hl : y.length = x0.length) (h0 : ∀ x ∈ x0, 0 ≤ x ∧ x ≤ 126) (hy : ∀ j : Nat, j < x0.length → rd y (rd (visOf x0) (j : Int)) = (j : Int)) (d : Nat) : ∀ (i k : Nat), i ≤ x0.length → x0.length - i = d → d + 1000 ≤ k →
    selvedgelaw20_OrderTurns.l1 k x0 (visOf x0) y (i : Int) = some true := by
  have hv := length_visOf x0
  induction d with
  | zero =>
    intro i k hi hd hk
    obtain ⟨k, rfl⟩ : ∃ m, k = m + 1 := ⟨k - 1, by omega⟩
    simp only [selvedgelaw20_OrderTurns.l1]
    rw [if_neg (by omega)]
    exact turn_l2 x0 y hb hl h0 hy x0.length 1 k (by omega) (by omega) (by omega) (by omega)
  | succ d ih =>
    intro i k hi hd hk
    obtain ⟨k, rfl⟩ : ∃ m, k = m + 1 := ⟨k - 1, by omega⟩
    have hw : wrap64 ((i : Int) + 1) = ((i + 1 : Nat) : Int) := by unfold wrap64; omega
    obtain ⟨r1, r2⟩ := vis_range x0 i (by omega)
    simp only [selvedgelaw20_OrderTurns.l1]
    rw [if_pos (by omega), if_pos (by omega), if_pos r1, if_pos (by omega), if_pos (hy i (by omega)), hw]
    exact ih (i + 1) k (by omega) (by omega) (by omega)
theorem turn_l0 (x0 : List Int) (hb : x0.length ≤ 600) (h0 : ∀ x ∈ x0, 0 ≤ x ∧ x ≤ 255) (d : Nat) : ∀ (i k : Nat), i ≤ x0.length → x0.length - i = d → 9900000000000 + d ≤ k → (∀ x ∈ x0.take i, x ≤ 124) →
    selvedgelaw20_OrderTurns.l0 k x0 ((x0.take i).map (· + 2)) (i : Int) = some true := by
  induction d with
  | zero =>
    intro i k hi hd hk hs
    obtain ⟨k, rfl⟩ : ∃ m, k = m + 1 + 1 := ⟨k - 2, by omega⟩
    obtain rfl : i = x0.length := by omega
    rw [List.take_length] at hs ⊢
    have hr : rightOf x0 = 0 := (right_zero' x0).2 ⟨by omega, fun x hx => by have := hs x hx; omega⟩
    have hr2 : rightOf (x0.map (· + 2)) = 0 := (right_zero' _).2 ⟨by rw [List.length_map]; omega, fun x hx => by
      obtain ⟨y, hy, e⟩ := List.mem_map.1 hx; have := hs y hy; omega⟩
    have h1 := vis_two x0 (fun x hx => ⟨(h0 x hx).1, hs x hx⟩)
    have hl1 := length_visOf x0
    obtain ⟨y, y1, y2, y3⟩ := logical_vis x0 (by omega)
    have k1 : 9800000000000 ≤ k + 1 := by omega
    have e1 := visual_good x0 hr (fun x hx => (h0 x hx).1) (k + 1) k1
    have e2 := visual_good (x0.map (· + 2)) hr2 (fun x hx => by obtain ⟨y, hy, e⟩ := List.mem_map.1 hx; have := h0 y hy; omega) (k + 1) k1
    have e3 := y3 (k + 1) (by omega)
    have e4 := same_ints (visOf x0) (visOf (x0.map (· + 2))) h1.symm (by omega) (k + 1) (by omega)
    have e5 := turn_l1 x0 y hb y1 (fun x hx => ⟨(h0 x hx).1, by have := hs x hx; omega⟩) y2 _ 0 k (by omega) rfl (by omega)
    simp only [selvedgelaw20_OrderTurns.l0]
    rw [if_neg (by omega), e1, e2]
    simp only [Option.bind_some, if_true]
    rw [e3]
    simp only [Option.bind_some, if_true]
    rw [if_pos (by omega), e4]
    simp only [Option.bind_some]
    simp only [selvedgelaw20_OrderTurns.j1]
    rw [if_neg (by decide)]
    exact e5
  | succ d ih =>
    intro i k hi hd hk hs
    obtain ⟨k, rfl⟩ : ∃ m, k = m + 1 := ⟨k - 1, by omega⟩
    have hlt : i < x0.length := by omega
    have hm := h0 _ (List.getElem_mem hlt)
    have hw : wrap64 ((i : Int) + 1) = ((i + 1 : Nat) : Int) := by unfold wrap64; omega
    have hlm : ((x0.take i).map (· + 2)).length < 140737488355328 := by rw [List.length_map, List.length_take]; omega
    simp only [selvedgelaw20_OrderTurns.l0]
    rw [if_pos (by omega), if_pos (by omega), rd_get x0 i hlt]
    by_cases hbig : x0[i] > 124
    · rw [if_pos hbig, works_true k (by omega)]; rfl
    · rw [if_neg hbig, if_pos hlm, hw, show (x0[i] + 2) % 256 = x0[i] + 2 by omega]
      have ht : (x0.take (i + 1)) = x0.take i ++ [x0[i]] := (List.take_append_getElem hlt).symm
      have := ih (i + 1) k (by omega) (by omega) (by omega) (fun x hx => by
        rw [ht] at hx
        rcases List.mem_append.1 hx with hx | hx
        · exact hs x hx
        · rw [List.mem_singleton.1 hx]; omega)
      rw [ht, List.map_append] at this
      exact this
theorem OrderTurns : selvedgelaw20_OrderTurns.Pure := by
  intro l0 _ _ h0
  obtain ⟨K, hK⟩ : ∃ K : Nat, 9900000001000 ≤ K := ⟨_, Nat.le_refl _⟩
  refine ⟨K, ?_⟩
  unfold selvedgelaw20_OrderTurns.f
  by_cases h : (l0.length : Int) > 600
  · rw [if_pos h, works_true K (by omega)]; rfl
  · rw [if_neg h]
    exact turn_l0 l0 (by omega) (fun x hx => of_u8 (h0 x hx)) l0.length 0 K (by omega) rfl (by omega) (fun x hx => by simp at hx)
end Go.Proofs.YtgfkbijmchoolaaDoor.Pure

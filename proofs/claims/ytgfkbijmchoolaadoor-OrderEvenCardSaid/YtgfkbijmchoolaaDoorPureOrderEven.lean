/- Proved: the law OrderEven answers true for every number and level: levels of one even number are shown as they stand, of one odd number backward. No condition beyond the row's own. -/
import Derived.Test.YtgfkbijmchoolaaDoorP16
import Derived.Test.YtgfkbijmchoolaaDoorOrdQ
namespace Go.Proofs.YtgfkbijmchoolaaDoor.Pure
open Go.RowKit Go.Proofs.YtgfkbijmchoolaaDoor.P Go.Proofs.YtgfkbijmchoolaaDoorH Go.Proofs.YtgfkbijmchoolaaDoor.Ord Go.Proofs.YtgfkbijmchoolaaDoorW.PrintWords Go.Proofs.YtgfkbijmchoolaaDoorW.PrintMore
theorem vis_rep (n : Nat) (L : Int) (h : 0 ≤ L ∧ L ≤ 126) (i : Nat) (hi : i < n) : rd (visOf (List.replicate n L)) (i : Int) = if Int.tmod L 2 = 1 then ((n - 1 - i : Nat) : Int) else (i : Int) := by
  obtain ⟨a1, a2, a3⟩ := odd_le (List.replicate n L)
  have hm : ∀ x ∈ List.replicate n L, x = L := fun x hx => (List.mem_replicate.1 hx).2
  have hL : L ∈ List.replicate n L := List.mem_replicate.2 ⟨by omega, rfl⟩
  unfold visOf
  rw [List.length_replicate]
  by_cases ho : Int.tmod L 2 = 1
  · rw [if_pos ho]
    have hO : oddOf (List.replicate n L) = L := by
      rcases a3 with e | ⟨e, _⟩
      · have := a2 L hL ho; omega
      · exact hm _ e
    rw [hO]
    have s := passes_skip (List.replicate n L) 1 L (iota n) (fun x hx => by rw [hm x hx]; omega) (126 - L).toNat
    rw [show (126 - L).toNat + 1 = (127 - L).toNat by omega, show L + (((126 - L).toNat : Nat) : Int) = 126 by omega] at s
    rw [s]
    simp only [passes]
    rw [passAll_full _ _ _ (by rw [length_iota, List.length_replicate]) (fun x hx => by rw [hm x hx]; omega)]
    rw [rd_getD, List.getElem?_reverse (by rw [length_iota]; exact hi), length_iota, ← rd_getD, rd_iota _ _ (by omega)]
  · rw [if_neg ho]
    have hO : oddOf (List.replicate n L) = 127 := by
      rcases a3 with e | ⟨e, f⟩
      · exact e
      · rw [hm _ e] at f; exact absurd f ho
    rw [hO]
    exact rd_iota n i hi
theorem even_l1 (n : Nat) (L : Int) (hn : n ≤ 2000) (h : 0 ≤ L ∧ L ≤ 126) (d : Nat) : ∀ (i k : Nat), i ≤ n → n - i = d → d + 100 ≤ k → selvedgelaw20_OrderEven.l1 k (n : Int) L (visOf (List.replicate n L)) (i : Int) = some true := by
  have hl := length_visOf (List.replicate n L)
  rw [List.length_replicate] at hl
  induction d with
  | zero =>
    intro i k hi hd hk
    obtain ⟨k, rfl⟩ : ∃ m, k = m + 1 := ⟨k - 1, by omega⟩
    simp only [selvedgelaw20_OrderEven.l1]
    rw [if_neg (by omega), works_true k (by omega)]
    rfl
  | succ d ih =>
    intro i k hi hd hk
    obtain ⟨k, rfl⟩ : ∃ m, k = m + 1 := ⟨k - 1, by omega⟩
    have hw : wrap64 ((i : Int) + 1) = ((i + 1 : Nat) : Int) := by unfold wrap64; omega
    have hw2 : wrap64 ((wrap64 ((n : Int) - 1)) - (i : Int)) = ((n - 1 - i : Nat) : Int) := by
      rw [w64 ((n : Int) - 1) (by omega), w64 _ (by omega)]; omega
    have hr := vis_rep n L h i (by omega)
    have ih' := ih (i + 1) k (by omega) (by omega) (by omega)
    simp only [selvedgelaw20_OrderEven.l1]
    rw [hw2, hw, if_pos (by omega)]
    simp only [if_pos (show 0 ≤ (i : Int) by omega), if_pos (show (i : Int) < ((visOf (List.replicate n L)).length : Int) by omega), hr, ih']
    by_cases ho : Int.tmod L 2 = 1
    · simp only [ho, if_true]
    · simp only [ho, if_false, if_true]
theorem runs_rep (n : Nat) (L : Int) (hn : n ≤ 2000) (d : Nat) : ∀ (i k : Nat), 1 ≤ i → i ≤ n → n - i = d → d < k → order_Runs.l0 k (List.replicate n L) [0] (List.replicate n L) (n : Int) (i : Int) = some ([0], 0) := by
  induction d with
  | zero =>
    intro i k h1 hi hd hk
    obtain ⟨k, rfl⟩ : ∃ m, k = m + 1 := ⟨k - 1, by omega⟩
    simp only [order_Runs.l0]
    rw [if_neg (by omega)]
  | succ d ih =>
    intro i k h1 hi hd hk
    obtain ⟨k, rfl⟩ : ∃ m, k = m + 1 := ⟨k - 1, by omega⟩
    have hw : wrap64 ((i : Int) + 1) = ((i + 1 : Nat) : Int) := by unfold wrap64; omega
    have hw2 : wrap64 ((i : Int) - 1) = ((i - 1 : Nat) : Int) := by unfold wrap64; omega
    have r1 : rd (List.replicate n L) (i : Int) = L := by rw [rd_getD, List.getElem?_replicate, if_pos (by omega)]; rfl
    have r2 : rd (List.replicate n L) ((i - 1 : Nat) : Int) = L := by rw [rd_getD, List.getElem?_replicate, if_pos (by omega)]; rfl
    simp only [order_Runs.l0]
    rw [hw2, hw, if_pos (by omega), if_pos (by omega), if_pos (by rw [List.length_replicate]; omega), if_neg (by omega), if_pos (by omega), if_pos (by rw [List.length_replicate]; omega), r1, r2, if_pos rfl]
    exact ih (i + 1) k (by omega) (by omega) (by omega) (by omega)
theorem runs_of (n : Nat) (L : Int) (hn : n ≤ 2000) (h : 0 ≤ L ∧ L ≤ 126) (k : Nat) (hk : 80000 ≤ k) : ∃ r : List Int, (r.length : Int) = mn (n : Int) 1 ∧ order_Runs.f k (List.replicate n L) = some (r, 0) := by
  have hr : rightOf (List.replicate n L) = 0 := (right_zero' _).2 ⟨by rw [List.length_replicate]; omega, fun x hx => by rw [(List.mem_replicate.1 hx).2]; omega⟩
  unfold order_Runs.f
  rw [right_eq _ k (by omega), hr]
  simp only [Option.bind_some, if_true, List.length_replicate]
  obtain ⟨k, rfl⟩ : ∃ m, k = m + 1 := ⟨k - 1, by omega⟩
  cases n with
  | zero =>
    refine ⟨[], rfl, ?_⟩
    simp only [order_Runs.l0]
    rw [if_neg (by omega)]
  | succ n =>
    refine ⟨[0], by show (1 : Int) = _; unfold mn; split <;> omega, ?_⟩
    simp only [order_Runs.l0]
    rw [if_pos (by omega), if_pos (by omega), if_pos (by rw [List.length_replicate]; omega), if_pos trivial, if_pos (by decide), show wrap64 (0 + 1) = ((1 : Nat) : Int) by unfold wrap64; omega]
    exact runs_rep (n + 1) L hn n 1 k (by omega) (by omega) (by omega) (by omega)
theorem even_l0 (n : Nat) (L : Int) (hn : n ≤ 2000) (h : 0 ≤ L ∧ L ≤ 126) (d : Nat) : ∀ (i k : Nat), i ≤ n → n - i = d → 9900000000000 + d ≤ k →
    selvedgelaw20_OrderEven.l0 k (n : Int) L (List.replicate i L ++ List.replicate (n - i) 0) (i : Int) = some true := by
  induction d with
  | zero =>
    intro i k hi hd hk
    obtain ⟨k, rfl⟩ : ∃ m, k = m + 1 + 1 := ⟨k - 2, by omega⟩
    obtain rfl : i = n := by omega
    rw [Nat.sub_self, List.replicate_zero, List.append_nil]
    have hr : rightOf (List.replicate i L) = 0 := (right_zero' _).2 ⟨by rw [List.length_replicate]; omega, fun x hx => by rw [(List.mem_replicate.1 hx).2]; omega⟩
    have k1 : 9800000000000 ≤ k + 1 := by omega
    have e1 := visual_good (List.replicate i L) hr (fun x hx => by rw [(List.mem_replicate.1 hx).2]; omega) (k + 1) k1
    obtain ⟨r, r1, r2⟩ := runs_of i L hn h (k + 1) (by omega)
    have hl := length_visOf (List.replicate i L)
    rw [List.length_replicate] at hl
    have e3 := even_l1 i L hn h i 0 k (by omega) rfl (by omega)
    simp only [selvedgelaw20_OrderEven.l0]
    rw [if_neg (by omega), e1]
    simp only [Option.bind_some]
    rw [r2]
    simp only [Option.bind_some, if_true]
    rw [if_pos (by omega), r1]
    simp only [selvedgelaw20_OrderEven.j1]
    rw [if_neg (by simp)]
    exact e3
  | succ d ih =>
    intro i k hi hd hk
    obtain ⟨k, rfl⟩ : ∃ m, k = m + 1 := ⟨k - 1, by omega⟩
    have hw : wrap64 ((i : Int) + 1) = ((i + 1 : Nat) : Int) := by unfold wrap64; omega
    have hset : (List.replicate i L ++ List.replicate (n - i) 0).set i L = List.replicate (i + 1) L ++ List.replicate (n - (i + 1)) 0 := by
      rw [List.set_append_right _ _ (by rw [List.length_replicate]; omega), List.length_replicate, Nat.sub_self, show n - i = (n - (i + 1)) + 1 by omega, List.replicate_succ, List.replicate_succ', List.append_assoc]
      rfl
    have hl : (List.replicate i L ++ List.replicate (n - i) (0 : Int)).length = n := by rw [List.length_append, List.length_replicate, List.length_replicate]; omega
    simp only [selvedgelaw20_OrderEven.l0]
    rw [if_pos (by omega), if_pos (by omega), if_pos (by omega), Int.toNat_natCast, hset, hw]
    exact ih (i + 1) k (by omega) (by omega) (by omega)
theorem pick_at (a : Int) : ∃ n : Nat, n ≤ 2000 ∧ selvedgekit_Pick.f a 2000 = some (n : Int) := by
  unfold selvedgekit_Pick.f
  rw [if_neg (by decide), if_neg (by decide)]
  have h1 := Int.tmod_lt_of_pos a (show (0 : Int) < 2000 by decide)
  have h2 : -2000 < Int.tmod a 2000 := by
    have := Int.lt_tmod_of_pos a (show (0 : Int) < 2000 by decide)
    omega
  rw [w64 _ (by omega)]
  have h3 := Int.tmod_lt_of_pos (Int.tmod a 2000 + 2000) (show (0 : Int) < 2000 by decide)
  have h4 := Int.tmod_nonneg 2000 (show 0 ≤ Int.tmod a 2000 + 2000 by omega)
  exact ⟨(Int.tmod (Int.tmod a 2000 + 2000) 2000).toNat, by omega, by rw [Int.toNat_of_nonneg h4]⟩
theorem OrderEven : selvedgelaw20_OrderEven.Pure := by
  intro a L _ hL
  obtain ⟨K, hK⟩ : ∃ K : Nat, 9900000003000 ≤ K := ⟨_, Nat.le_refl _⟩
  refine ⟨K, ?_⟩
  obtain ⟨n, hn, hp⟩ := pick_at a
  have hL' := of_u8 hL
  unfold selvedgelaw20_OrderEven.f
  rw [hp]
  simp only [Option.bind_some]
  by_cases h : L > 126
  · rw [if_pos h, works_true K (by omega)]; rfl
  · rw [if_neg h, if_pos (by omega), Int.toNat_natCast, if_pos (by omega)]
    exact even_l0 n L hn (by omega) n 0 K (by omega) rfl (by omega)
end Go.Proofs.YtgfkbijmchoolaaDoor.Pure

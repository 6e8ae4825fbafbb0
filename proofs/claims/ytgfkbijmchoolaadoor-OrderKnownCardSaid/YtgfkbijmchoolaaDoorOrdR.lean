import Derived.Test.YtgfkbijmchoolaaDoorP6
import Derived.Test.YtgfkbijmchoolaaDoorPrC
import Derived.Test.YtgfkbijmchoolaaDoorOrd
namespace Go.Proofs.YtgfkbijmchoolaaDoor.Ord
open Go.Proofs.YtgfkbijmchoolaaDoor.P Go.Proofs.YtgfkbijmchoolaaDoorH Go.RowKit Go.Proofs.YtgfkbijmchoolaaDoorW.PrintWords Go.Proofs.YtgfkbijmchoolaaDoorW.PrintLast Go.Proofs.YtgfkbijmchoolaaDoorW.PrintMore
set_option linter.unusedVariables false
set_option linter.unusedSimpArgs false
theorem ref_right_from (l : List Int) (hl : l.length ≤ 70000) (d : Nat) : ∀ (i k : Nat), i ≤ l.length → l.length - i = d → d < k →
    selvedgeref20_right.l0 k l (i : Int) = some (if ∃ x ∈ l.drop i, x > 126 then 2 else 0) := by
  induction d with
  | zero =>
    intro i k hi hd hk
    obtain ⟨k, rfl⟩ : ∃ m, k = m + 1 := ⟨k - 1, by omega⟩
    simp only [selvedgeref20_right.l0]
    rw [if_neg (by omega), List.drop_eq_nil_of_le (by omega), if_neg (by simp)]
  | succ d ih =>
    intro i k hi hd hk
    obtain ⟨k, rfl⟩ : ∃ m, k = m + 1 := ⟨k - 1, by omega⟩
    have hlt : i < l.length := by omega
    have hw : wrap64 ((i : Int) + 1) = ((i + 1 : Nat) : Int) := by unfold wrap64; omega
    simp only [selvedgeref20_right.l0]
    rw [if_pos (by omega), if_pos (by omega), hw, ih (i + 1) k (by omega) (by omega) (by omega), rd_get l i hlt, List.drop_eq_getElem_cons hlt]
    by_cases h : l[i] > 126
    · rw [if_pos h, if_pos ⟨l[i], List.mem_cons_self, h⟩]
    · rw [if_neg h]
      congr 1
      have : (∃ x ∈ l.drop (i + 1), x > 126) ↔ (∃ x ∈ l[i] :: l.drop (i + 1), x > 126) := by
        simp only [List.mem_cons, exists_eq_or_imp]
        exact ⟨.inr, fun e => e.resolve_left h⟩
      by_cases h2 : ∃ x ∈ l.drop (i + 1), x > 126
      · rw [if_pos h2, if_pos (this.1 h2)]
      · rw [if_neg h2, if_neg (fun e => h2 (this.2 e))]
theorem ref_right_eq (l : List Int) (k : Nat) (hk : 70000 ≤ k) : selvedgeref20_right.f k l = some (rightOf l) := by
  unfold selvedgeref20_right.f rightOf
  by_cases h1 : l.length > 65536
  · rw [if_pos (by omega), if_pos h1]
  · rw [if_neg (by omega), if_neg h1]
    have := ref_right_from l (by omega) l.length 0 k (by omega) (by omega) (by omega)
    rw [List.drop_zero] at this
    exact this
theorem ref_blank_eq (c : Int) : selvedgeref20_blank.f c = some (blankOf c) := by
  rw [← blank_eq]
  unfold selvedgeref20_blank.f order_blank.f
  by_cases h1 : c = 13
  · simp [h1]
  by_cases h2 : c = 22
  · simp [h2]
  by_cases h3 : c = 20
  · simp [h3]
  by_cases h4 : c = 21
  · simp [h4]
  by_cases h5 : c = 23
  · simp [h5]
  by_cases h6 : c = 10
  · simp [h6]
  simp only [h1, h2, h3, h4, h5, h6, if_false]
  by_cases h7 : c ≥ 15
  · rw [if_pos h7]
    by_cases h8 : c ≤ 19
    · rw [decide_eq_true h8]
      have : c = 15 ∨ c = 16 ∨ c = 17 ∨ c = 18 ∨ c = 19 := by omega
      rcases this with rfl | rfl | rfl | rfl | rfl <;> rfl
    · rw [decide_eq_false h8, if_neg (by omega), if_neg (by omega), if_neg (by omega), if_neg (by omega), if_neg (by omega)]
  · rw [if_neg h7, if_neg (by omega), if_neg (by omega), if_neg (by omega), if_neg (by omega), if_neg (by omega)]
theorem ref_inner (x0 x1 cs : List Int) (base : Int) (frm i : Nat) (R : Option (List Int × Int)) (K : Nat) (x12 : List Int) (hK : 200 ≤ K) (hb : frm + cs.length ≤ 65536) (hx : x12.length ≤ 65536) (hi1 : i < x1.length)
    (hc : ∀ j (h : j < cs.length), frm + j < x0.length ∧ clsOf (rd x0 ((frm + j : Nat) : Int)) = cs[j]) (d : Nat) : ∀ (p k : Nat), p ≤ cs.length → cs.length - p = d → K + d + 2 ≤ k →
    (∀ k', K ≤ k' → selvedgeref20_Reset.l0 k' x0 x1 base ((frm + cs.length : Nat) : Int) (x12 ++ [if stOf (cs.drop p) = true then base else rd x1 (i : Int)]) (wrap64 ((i : Int) + 1)) = R) →
    selvedgeref20_Reset.l1 k x0 x1 base ((frm + cs.length : Nat) : Int) x12 (i : Int) ((frm + p : Nat) : Int) = R := by
  induction d with
  | zero =>
    intro p k hp hd hk hR
    obtain ⟨k, rfl⟩ : ∃ m, k = m + 1 + 1 := ⟨k - 2, by omega⟩
    obtain rfl : p = cs.length := by omega
    simp only [selvedgeref20_Reset.l1]
    rw [if_neg (by omega)]
    simp only [selvedgeref20_Reset.j3]
    rw [if_pos (by omega), if_pos (by omega), if_pos trivial, if_pos (by omega)]
    have := hR k (by omega)
    rw [List.drop_eq_nil_of_le (by omega)] at this
    simpa [stOf] using this
  | succ d ih =>
    intro p k hp hd hk hR
    obtain ⟨k, rfl⟩ : ∃ m, k = m + 1 + 1 := ⟨k - 2, by omega⟩
    have hlt : p < cs.length := by omega
    have g1 : ((frm + p : Nat) : Int) < ((frm + cs.length : Nat) : Int) := Int.ofNat_lt.2 (Nat.add_lt_add_left hlt frm)
    have g2 : 0 ≤ ((frm + p : Nat) : Int) := Int.natCast_nonneg _
    have g3 : ((frm + p : Nat) : Int) < (x0.length : Int) := Int.ofNat_lt.2 (hc p hlt).1
    have g4 : ¬ ((frm + p : Nat) : Int) = ((frm + cs.length : Nat) : Int) := Int.ne_of_lt g1
    have g5 : 0 ≤ (i : Int) := Int.natCast_nonneg _
    have g6 : (i : Int) < (x1.length : Int) := Int.ofNat_lt.2 hi1
    have g7 : x12.length < 140737488355328 := Nat.lt_of_le_of_lt hx (by decide)
    have hw : wrap64 (((frm + p : Nat) : Int) + 1) = ((frm + (p + 1) : Nat) : Int) := by unfold wrap64; omega
    have h2 := (hc p hlt).2
    have k1 : 200 ≤ k + 1 := by omega
    have k2 : 200 ≤ k := by omega
    have k3 : K ≤ k := by omega
    have ih' := ih (p + 1) (k + 1) (by omega) (by omega) (by omega)
    clear ih hk hd hp hb
    rw [List.drop_eq_getElem_cons hlt] at hR
    simp only [selvedgeref20_Reset.l1]
    rw [if_pos g1, if_pos g2, if_pos g3, P.ref_Class _ _ k1, h2]
    simp only [Option.bind_some]
    rw [ref_blank_eq]
    simp only [Option.bind_some]
    generalize hC : cs[p] = c at *
    by_cases hbl : blankOf c = true
    · rw [if_pos hbl, hw]
      have hn : ¬ (c = 12 ∨ c = 11) := fun e => by rw [not_blank e] at hbl; cases hbl
      have hst : stOf (c :: cs.drop (p + 1)) = stOf (cs.drop (p + 1)) := by
        simp only [stOf]; rw [if_neg hn, if_pos hbl]
      rw [hst] at hR
      exact ih' hR
    · rw [if_neg hbl]
      simp only [selvedgeref20_Reset.j3]
      rw [if_pos g5, if_pos g6, if_neg g4, if_pos g2, if_pos g3, P.ref_Class _ _ k2, h2]
      simp only [Option.bind_some]
      have := hR k k3
      by_cases c12 : c = 12
      · rw [if_pos c12, if_pos g7]
        rw [if_pos (by simp [stOf, c12])] at this
        exact this
      · rw [if_neg c12]
        by_cases c11 : c = 11
        · rw [if_pos c11, if_pos g7]
          rw [if_pos (by simp [stOf, c11])] at this
          exact this
        · rw [if_neg c11, if_pos g7]
          have hn : ¬ (c = 12 ∨ c = 11) := fun e => e.elim c12 c11
          rw [if_neg (by simp only [stOf]; rw [if_neg hn, if_neg hbl]; decide)] at this
          exact this
theorem getElem_outOf (base : Int) : ∀ (cs ls : List Int) (j : Nat) (h1 : j < cs.length) (h2 : j < ls.length) (h3 : j < (outOf base cs ls).length), (outOf base cs ls)[j] = if stOf (cs.drop j) = true then base else ls[j]
  | [], _, j, h1, _, _ => by simp at h1
  | c :: cs, [], j, _, h2, _ => by simp at h2
  | c :: cs, l :: ls, 0, _, _, _ => by simp [outOf]
  | c :: cs, l :: ls, j + 1, h1, h2, h3 => by
    simp only [outOf, List.getElem_cons_succ, List.drop_succ_cons]
    exact getElem_outOf base cs ls j (by simpa using h1) (by simpa using h2) _
theorem ref_loop (x0 x1 cs ls : List Int) (base : Int) (frm : Nat) (hlen : cs.length = ls.length) (hb : frm + cs.length ≤ 65536) (h1 : frm + cs.length ≤ x1.length)
    (hc : ∀ j (h : j < cs.length), frm + j < x0.length ∧ clsOf (rd x0 ((frm + j : Nat) : Int)) = cs[j])
    (hs : ∀ j (h : j < ls.length), rd x1 ((frm + j : Nat) : Int) = ls[j]) (d : Nat) : ∀ (m k : Nat), m ≤ cs.length → cs.length - m = d → 70000 * (d + 1) ≤ k →
    selvedgeref20_Reset.l0 k x0 x1 base ((frm + cs.length : Nat) : Int) ((outOf base cs ls).take m) ((frm + m : Nat) : Int) = some (outOf base cs ls, 0) := by
  have hout := length_outOf base cs ls hlen
  induction d with
  | zero =>
    intro m k hm hd hk
    obtain ⟨k, rfl⟩ : ∃ m, k = m + 1 := ⟨k - 1, by omega⟩
    simp only [selvedgeref20_Reset.l0]
    rw [if_neg (by omega), List.take_of_length_le (by omega)]
  | succ d ih =>
    intro m k hm hd hk
    obtain ⟨k, rfl⟩ : ∃ m, k = m + 1 := ⟨k - 1, by omega⟩
    simp only [selvedgeref20_Reset.l0]
    rw [if_pos (by omega)]
    refine ref_inner x0 x1 cs base frm (frm + m) _ (70000 * (d + 1)) _ (by omega) hb (by rw [List.length_take]; omega) (by omega) hc (cs.length - m) m k hm rfl (by omega) (fun k' hk' => ?_)
    have hw : wrap64 (((frm + m : Nat) : Int) + 1) = ((frm + (m + 1) : Nat) : Int) := by unfold wrap64; omega
    rw [hw, hs m (by omega), ← getElem_outOf base cs ls m (by omega) (by omega) (by omega), List.take_append_getElem (by omega)]
    exact ih (m + 1) k' (by omega) (by omega) hk'
theorem ref_reset_long (l0 l1 : List Int) (a2 a3 a4 : Int) (k : Nat) (h : l0.length > 65536) : selvedgeref20_Reset.f k l0 l1 a2 a3 a4 = some ([], 3) := by
  unfold selvedgeref20_Reset.f
  rw [if_pos (by omega)]
theorem ref_reset_bad (l0 l1 : List Int) (a2 a3 a4 : Int) (k : Nat) (hk : 70000 ≤ k) (h0 : ¬ l0.length > 65536) (h : resetBad l0 l1 a2 a3 a4) : selvedgeref20_Reset.f k l0 l1 a2 a3 a4 = some ([], 2) := by
  have hj : ∀ k x1 b, 1 ≤ k → b = true → selvedgeref20_Reset.j0 k l0 x1 a2 a3 a4 b = some ([], 2) := fun k x1 b hk hb => by
    obtain ⟨k, rfl⟩ : ∃ m, k = m + 1 := ⟨k - 1, by omega⟩
    simp only [selvedgeref20_Reset.j0]
    rw [if_pos hb]
  unfold selvedgeref20_Reset.f
  rw [if_neg (by omega), ref_right_eq l1 k hk]
  unfold resetBad at h
  by_cases c1 : (l1.length : Int) = (l0.length : Int)
  · rw [if_pos c1]
    by_cases c2 : a2 > 1
    · rw [if_pos c2]; exact hj k l1 true (by omega) rfl
    · rw [if_neg c2]
      simp only [Option.bind_some]
      by_cases c3 : rightOf l1 = 0
      · rw [if_pos c3]
        by_cases c4 : a3 < 0
        · rw [if_pos c4]; exact hj k l1 true (by omega) rfl
        · rw [if_neg c4]
          by_cases c5 : a4 < a3
          · rw [if_pos c5]; exact hj k l1 true (by omega) rfl
          · rw [if_neg c5]
            exact hj k l1 _ (by omega) (decide_eq_true (by omega))
      · rw [if_neg c3]; exact hj k l1 true (by omega) rfl
  · rw [if_neg c1]; exact hj k l1 true (by omega) rfl
theorem ref_reset_good (l0 l1 : List Int) (a2 : Int) (frm tt : Nat) (k : Nat) (hk : 70000 * 70000 ≤ k) (h0 : ¬ l0.length > 65536) (h : ¬ resetBad l0 l1 a2 frm tt) :
    selvedgeref20_Reset.f k l0 l1 a2 frm tt = some (outOf a2 (segC l0 frm tt) (segL l1 frm tt), 0) := by
  unfold resetBad at h
  simp only [not_or, Decidable.not_not] at h
  obtain ⟨c1, c2, c3, c4, c5, c6⟩ := h
  unfold selvedgeref20_Reset.f
  rw [if_neg (by omega), if_pos (by omega), if_neg c2, ref_right_eq l1 k (by omega)]
  simp only [Option.bind_some]
  rw [if_pos c3, if_neg c4, if_neg (by omega), decide_eq_false c6]
  obtain ⟨k, rfl⟩ : ∃ m, k = m + 1 := ⟨k - 1, by omega⟩
  simp only [selvedgeref20_Reset.j0]
  rw [if_neg (by decide)]
  obtain ⟨s1, s2⟩ := seg_facts l0 frm tt (by omega) (by omega)
  have s3 := segL_length l1 frm tt (by omega)
  have s4 : ∀ j (h : j < (segL l1 frm tt).length), rd l1 ((frm + j : Nat) : Int) = (segL l1 frm tt)[j] := fun j h => by
    rw [rd_get l1 (frm + j) (by omega)]
    simp [segL]
  have hloop := ref_loop l0 l1 (segC l0 frm tt) (segL l1 frm tt) a2 frm (by omega) (by omega) (by omega) s2 s4 (tt - frm) 0 k (by omega) (by omega) (by omega)
  rw [s1, show frm + (tt - frm) = tt by omega, List.take_zero, Nat.add_zero] at hloop
  exact hloop
end Go.Proofs.YtgfkbijmchoolaaDoor.Ord

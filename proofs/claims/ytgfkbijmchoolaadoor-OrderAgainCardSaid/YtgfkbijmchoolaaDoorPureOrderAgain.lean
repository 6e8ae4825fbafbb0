/- Proved: the law OrderAgain answers true for every line, levels, base and part: L1 twice is L1 once; a line's levels do not hang on what stands ahead. No condition beyond the row's own. -/
import Derived.Test.YtgfkbijmchoolaaDoorP10
import Derived.Test.YtgfkbijmchoolaaDoorOrd
namespace Go.Proofs.YtgfkbijmchoolaaDoor.Pure
open Go.RowKit Go.Proofs.YtgfkbijmchoolaaDoor.P Go.Proofs.YtgfkbijmchoolaaDoorH Go.Proofs.YtgfkbijmchoolaaDoor.Ord Go.Proofs.YtgfkbijmchoolaaDoorW.PrintWords
theorem right_zero (l : List Int) : rightOf l = 0 ↔ l.length ≤ 65536 ∧ ∀ x ∈ l, x ≤ 126 := by
  unfold rightOf
  by_cases h1 : l.length > 65536
  · rw [if_pos h1]; constructor
    · intro h; cases h
    · intro h; omega
  · rw [if_neg h1]
    by_cases h2 : ∃ x ∈ l, x > 126
    · rw [if_pos h2]; constructor
      · intro h; cases h
      · intro h; obtain ⟨x, hx, h3⟩ := h2; have := h.2 x hx; omega
    · rw [if_neg h2]
      exact ⟨fun _ => ⟨by omega, fun x hx => by
        by_cases h3 : x ≤ 126
        · exact h3
        · exact absurd ⟨x, hx, by omega⟩ h2⟩, fun _ => rfl⟩
theorem again_j (l0 l1 : List Int) (a2 a3 a4 : Int) (b : Bool) (hl : b = false → l0.length ≤ 2000) (k : Nat) (hk : 150000 ≤ k) : selvedgelaw20_OrderAgain.j0 k l0 l1 a2 a3 a4 b = some true := by
  obtain ⟨k, rfl⟩ : ∃ m, k = m + 1 := ⟨k - 1, by omega⟩
  simp only [selvedgelaw20_OrderAgain.j0]
  by_cases hb : b = true
  · rw [if_pos hb, works_true k (by omega)]; rfl
  · have hl0 := hl (by simpa using hb)
    rw [if_neg hb]
    by_cases hbad : resetBad l0 l1 a2 a3 a4
    · rw [reset_bad l0 l1 a2 a3 a4 k (by omega) (by omega) hbad]
      simp only [Option.bind_some]
      rw [if_neg (by decide), works_true k (by omega)]
      rfl
    · have hb' := hbad
      unfold resetBad at hb'
      simp only [not_or, Decidable.not_not] at hb'
      obtain ⟨c1, c2, c3, c4, c5, c6⟩ := hb'
      obtain ⟨frm, rfl⟩ : ∃ n : Nat, a3 = n := ⟨a3.toNat, by omega⟩
      obtain ⟨tt, rfl⟩ : ∃ n : Nat, a4 = n := ⟨a4.toNat, by omega⟩
      obtain ⟨r1, r2⟩ := (right_zero l1).1 c3
      have hC := (seg_facts l0 frm tt (by omega) (by omega)).1
      have hL := segL_length l1 frm tt (by omega)
      have hO := length_outOf a2 (segC l0 frm tt) (segL l1 frm tt) (by omega)
      have hmem : ∀ x ∈ segL l1 frm tt, x ≤ 126 := fun x hx => r2 x (by
        unfold segL at hx
        exact List.mem_of_mem_take (List.mem_of_mem_drop hx))
      have hw : wrap64 ((tt : Int) - (frm : Int)) = ((tt - frm : Nat) : Int) := by unfold wrap64; omega
      rw [reset_good l0 l1 a2 frm tt k (by omega) (by omega) hbad]
      simp only [Option.bind_some, if_true]
      rw [if_pos (by omega), if_pos (by omega), if_pos (by omega), hw, Int.toNat_natCast, Int.toNat_natCast]
      have hseg : ((l0.take tt).drop frm).length = tt - frm := by rw [List.length_drop, List.length_take]; omega
      have g1 : ¬ resetBad ((l0.take tt).drop frm) (outOf a2 (segC l0 frm tt) (segL l1 frm tt)) a2 ((0 : Nat) : Int) ((tt - frm : Nat) : Int) := by
        unfold resetBad
        simp only [not_or, Decidable.not_not]
        refine ⟨by omega, c2, (right_zero _).2 ⟨by omega, fun x hx => ?_⟩, by omega, by omega, by omega⟩
        rcases mem_outOf _ _ _ _ hx with h | h
        · omega
        · exact hmem x h
      have g2 : ¬ resetBad (l0.drop frm) (l1.drop frm) a2 ((0 : Nat) : Int) ((tt - frm : Nat) : Int) := by
        unfold resetBad
        simp only [not_or, Decidable.not_not, List.length_drop]
        refine ⟨by omega, c2, (right_zero _).2 ⟨by rw [List.length_drop]; omega, fun x hx => r2 x (List.mem_of_mem_drop hx)⟩, by omega, by omega, by omega⟩
      have e1 := reset_good ((l0.take tt).drop frm) (outOf a2 (segC l0 frm tt) (segL l1 frm tt)) a2 0 (tt - frm) k (by omega) (by omega) g1
      have e2 := reset_good (l0.drop frm) (l1.drop frm) a2 0 (tt - frm) k (by omega) (by rw [List.length_drop]; omega) g2
      have s1 : segC ((l0.take tt).drop frm) 0 (tt - frm) = segC l0 frm tt := by
        unfold segC; rw [List.drop_zero, List.take_of_length_le (by omega)]
      have s2 : segL (outOf a2 (segC l0 frm tt) (segL l1 frm tt)) 0 (tt - frm) = outOf a2 (segC l0 frm tt) (segL l1 frm tt) := by
        unfold segL; rw [List.drop_zero, List.take_of_length_le]; unfold segL at hO; omega
      have s3 : segC (l0.drop frm) 0 (tt - frm) = segC l0 frm tt := by
        unfold segC; rw [List.drop_zero, ← List.drop_take]
      have s4 : segL (l1.drop frm) 0 (tt - frm) = segL l1 frm tt := by
        unfold segL; rw [List.drop_zero, ← List.drop_take]
      rw [s1, s2, outOf_twice] at e1
      rw [s3, s4] at e2
      rw [show ((0 : Nat) : Int) = 0 from rfl] at e1 e2
      rw [e1]
      simp only [Option.bind_some, if_true]
      rw [if_pos (by omega), if_pos (by omega), e2]
      simp only [Option.bind_some, if_true]
      rw [same_true _ _ rfl, works_true k (by omega)]
      rfl
theorem OrderAgain : selvedgelaw20_OrderAgain.Pure := by
  intro l0 l1 a2 a3 a4 _ _ _ h1 h2 _ _ _ _
  obtain ⟨K, hK⟩ : ∃ K : Nat, 150000 ≤ K := ⟨_, Nat.le_refl _⟩
  refine ⟨K, ?_⟩
  unfold selvedgelaw20_OrderAgain.f
  by_cases h : (l0.length : Int) > 2000
  · rw [if_pos h]; exact again_j l0 l1 a2 a3 a4 true (fun e => by cases e) K hK
  · rw [if_neg h]; exact again_j l0 l1 a2 a3 a4 _ (fun _ => by omega) K hK
end Go.Proofs.YtgfkbijmchoolaaDoor.Pure

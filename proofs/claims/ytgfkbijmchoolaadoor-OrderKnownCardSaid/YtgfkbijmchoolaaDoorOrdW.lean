import Derived.Test.YtgfkbijmchoolaaDoorP12
import Derived.Test.YtgfkbijmchoolaaDoorP13
import Derived.Test.YtgfkbijmchoolaaDoorP13
import Derived.Test.YtgfkbijmchoolaaDoorP13
import Derived.Test.YtgfkbijmchoolaaDoorOrdQ
namespace Go.Proofs.YtgfkbijmchoolaaDoor.Ord
open Go.Proofs.YtgfkbijmchoolaaDoor.P Go.Proofs.YtgfkbijmchoolaaDoorH Go.RowKit Go.Proofs.YtgfkbijmchoolaaDoorW.PrintWords Go.Proofs.YtgfkbijmchoolaaDoorW.PrintLast Go.Proofs.YtgfkbijmchoolaaDoorW.PrintMore
set_option linter.unusedVariables false
set_option linter.unusedSimpArgs false
theorem refv_right_from (l : List Int) (hl : l.length ≤ 70000) (d : Nat) : ∀ (i k : Nat), i ≤ l.length → l.length - i = d → d < k →
    selvedgeref20_right.l0 k l (i : Int) = some (if ∃ x ∈ l.drop i, x > 126 then 2 else 0) := by
  induction d with
  | zero =>
    intro i k hi hd hk
    obtain ⟨k, rfl⟩ : ∃ m, k = m + 1 := ⟨k - 1, by omega⟩
    simp only [selvedgeref20_right.l0]
    rw [if_neg (by omega), List.drop_eq_nil_of_le (by omega), if_neg (by simp)]
  | succ d ih =>
    intro i k hi hd hk
    obtain ⟨k, rfl⟩ : ∃ m, k = m + 1 := ⟨k - 1, by omega⟩
    have hlt : i < l.length := by omega
    have hw : wrap64 ((i : Int) + 1) = ((i + 1 : Nat) : Int) := by unfold wrap64; omega
    simp only [selvedgeref20_right.l0]
    rw [if_pos (by omega), if_pos (by omega), hw, ih (i + 1) k (by omega) (by omega) (by omega), rd_get l i hlt, List.drop_eq_getElem_cons hlt]
    by_cases h : l[i] > 126
    · rw [if_pos h, if_pos ⟨l[i], List.mem_cons_self, h⟩]
    · rw [if_neg h]
      congr 1
      have : (∃ x ∈ l.drop (i + 1), x > 126) ↔ (∃ x ∈ l[i] :: l.drop (i + 1), x > 126) := by
        simp only [List.mem_cons, exists_eq_or_imp]
        exact ⟨.inr, fun e => e.resolve_left h⟩
      by_cases h2 : ∃ x ∈ l.drop (i + 1), x > 126
      · rw [if_pos h2, if_pos (this.1 h2)]
      · rw [if_neg h2, if_neg (fun e => h2 (this.2 e))]
theorem refv_right_eq (l : List Int) (k : Nat) (hk : 70000 ≤ k) : selvedgeref20_right.f k l = some (rightOf l) := by
  unfold selvedgeref20_right.f rightOf
  by_cases h1 : l.length > 65536
  · rw [if_pos (by omega), if_pos h1]
  · rw [if_neg (by omega), if_neg h1]
    have := refv_right_from l (by omega) l.length 0 k (by omega) (by omega) (by omega)
    rw [List.drop_zero] at this
    exact this
theorem ref_l5 (x0 : List Int) (v : Int) (i e : Nat) (R : Option (List Int × Int)) (K : Nat) (hb : e ≤ 65536) (hi : i ≤ 65536) (d : Nat) : ∀ (a b k : Nat) (x5 : List Int), a ≤ b → b ≤ x5.length → x5.length ≤ 65536 → b ≤ a + d → K + d + 1 ≤ k →
    (∀ k', K ≤ k' → selvedgeref20_Visual.l3 k' x0 (revPart x5 a b) v true (((if e > i then e else i + 1) : Nat) : Int) = R) →
    selvedgeref20_Visual.l5 k x0 x5 v true (i : Int) (e : Int) (a : Int) ((b : Int) - 1) = R := by
  have hfin : ∀ (a b k : Nat) (x5 : List Int), a ≤ b → b ≤ a + 1 → K + 1 ≤ k → (∀ k', K ≤ k' → selvedgeref20_Visual.l3 k' x0 (revPart x5 a b) v true (((if e > i then e else i + 1) : Nat) : Int) = R) →
      selvedgeref20_Visual.l5 k x0 x5 v true (i : Int) (e : Int) (a : Int) ((b : Int) - 1) = R := fun a b k x5 h1 h2 hk hR => by
    obtain ⟨k, rfl⟩ : ∃ m, k = m + 1 := ⟨k - 1, by omega⟩
    have := hR k (by omega)
    rw [revPart_none x5 a b (by omega) h1] at this
    simp only [selvedgeref20_Visual.l5]
    rw [if_neg (by omega)]
    by_cases hei : e > i
    · rw [if_pos hei] at this
      rw [if_pos (by omega), w64 ((e : Int) - 1) (by omega), show (e : Int) - 1 + 1 = (e : Int) by omega, w64 (e : Int) (by omega)]
      exact this
    · rw [if_neg hei] at this
      rw [if_neg (by omega), w64 ((i : Int) + 1) (by omega)]
      exact this
  induction d with
  | zero =>
    intro a b k x5 h1 h2 h3 h4 hk hR
    exact hfin a b k x5 h1 (by omega) (by omega) hR
  | succ d ih =>
    intro a b k x5 h1 h2 h3 h4 hk hR
    by_cases hc : b ≤ a + 1
    · exact hfin a b k x5 h1 hc (by omega) hR
    · obtain ⟨k, rfl⟩ : ∃ m, k = m + 1 := ⟨k - 1, by omega⟩
      obtain ⟨b, rfl⟩ : ∃ m, b = m + 1 := ⟨b - 1, by omega⟩
      have e1 : ((b + 1 : Nat) : Int) - 1 = (b : Int) := by omega
      have e2 : wrap64 ((a : Int) + 1) = ((a + 1 : Nat) : Int) := by unfold wrap64; omega
      have e3 : wrap64 ((b : Int) - 1) = (b : Int) - 1 := by unfold wrap64; omega
      have hst : revPart ((x5.set a (rd x5 (b : Int))).set b (rd x5 (a : Int))) (a + 1) b = revPart x5 a (b + 1) := revPart_step x5 a b (by omega) (by omega)
      rw [e1]
      simp only [selvedgeref20_Visual.l5]
      rw [if_pos (by omega), if_pos (by omega), if_pos (by omega), if_pos (by omega), if_pos (by omega), e2, e3, Int.toNat_natCast, Int.toNat_natCast]
      refine ih (a + 1) b k _ (by omega) (by rw [List.length_set, List.length_set]; omega) (by rw [List.length_set, List.length_set]; omega) (by omega) (by omega) (fun k' hk' => ?_)
      rw [hst]
      exact hR k' hk'
theorem ref_j6 (x0 x5 : List Int) (v : Int) (i : Nat) (R : Option (List Int × Int)) (K : Nat) (hl : x5.length = x0.length) (hb : x0.length ≤ 65536) (j k : Nat) (h1 : i ≤ j) (h2 : j ≤ x0.length) (hk : K + 70000 ≤ k)
    (hR : ∀ k', K ≤ k' → selvedgeref20_Visual.l3 k' x0 (revPart x5 i j) v true (((if j > i then j else i + 1) : Nat) : Int) = R) :
    selvedgeref20_Visual.j6 k x0 x5 v true (i : Int) (j : Int) = R := by
  obtain ⟨k, rfl⟩ : ∃ m, k = m + 1 := ⟨k - 1, by omega⟩
  have e3 : wrap64 ((j : Int) - 1) = (j : Int) - 1 := by unfold wrap64; omega
  simp only [selvedgeref20_Visual.j6]
  rw [e3]
  exact ref_l5 x0 v i j R K (by omega) (by omega) j i j k x5 h1 (by omega) (by omega) (by omega) (by omega) hR
def nxt (i e : Nat) : Nat := if e > i then e else i + 1
theorem ref_l4 (x0 x5 : List Int) (v : Int) (i : Nat) (R : Option (List Int × Int)) (K : Nat) (hinv : Inv x0 v x5) (h0 : ∀ x ∈ x0, 0 ≤ x ∧ x ≤ 126) (hb : x0.length ≤ 65536) (d : Nat) : ∀ (j k : Nat), i ≤ j → j ≤ x0.length → x0.length - j = d → K + 70000 + d + 1 ≤ k →
    (∀ k', K ≤ k' → selvedgeref20_Visual.l3 k' x0 (revPart x5 i (j + runLen v (x0.drop j))) v true ((nxt i (j + runLen v (x0.drop j)) : Nat) : Int) = R) →
    selvedgeref20_Visual.l4 k x0 x5 v true (i : Int) (j : Int) = R := by
  have hl := hinv.1
  induction d with
  | zero =>
    intro j k h1 h2 hd hk hR
    obtain ⟨k, rfl⟩ : ∃ m, k = m + 1 := ⟨k - 1, by omega⟩
    rw [List.drop_eq_nil_of_le (by omega)] at hR
    simp only [selvedgeref20_Visual.l4]
    rw [if_neg (by omega)]
    exact ref_j6 x0 x5 v i R K hl hb j k h1 h2 (by omega) hR
  | succ d ih =>
    intro j k h1 h2 hd hk hR
    obtain ⟨k, rfl⟩ : ∃ m, k = m + 1 := ⟨k - 1, by omega⟩
    have hlt : j < x0.length := by omega
    have hw : wrap64 ((j : Int) + 1) = ((j + 1 : Nat) : Int) := by unfold wrap64; omega
    obtain ⟨r1, r2, r3⟩ := hinv.2 j hlt
    have r3' := r3 v (Int.le_refl _)
    obtain ⟨u, hu⟩ : ∃ u : Nat, rd x5 (j : Int) = (u : Int) := ⟨(rd x5 (j : Int)).toNat, by omega⟩
    rw [hu] at r1 r2 r3'
    have hv := h0 (rd x0 (u : Int)) (by rw [rd_get x0 u (by omega)]; exact List.getElem_mem _)
    have hg := rd_get x0 j hlt
    rw [List.drop_eq_getElem_cons hlt] at hR
    simp only [selvedgeref20_Visual.l4]
    rw [if_pos (by omega), if_pos (by omega), hu, if_pos r1, if_pos r2, w64 (rd x0 (u : Int)) (by omega)]
    by_cases hc : rd x0 (u : Int) ≥ v
    · have hc2 : x0[j] ≥ v := by rw [← hg]; exact r3'.1 hc
      rw [if_pos hc, hw]
      refine ih (j + 1) k (by omega) (by omega) (by omega) (by omega) (fun k' hk' => ?_)
      have := hR k' hk'
      simp only [runLen] at this
      rw [if_pos hc2] at this
      rw [show j + 1 + runLen v (x0.drop (j + 1)) = j + (runLen v (x0.drop (j + 1)) + 1) by omega]
      exact this
    · have hc2 : ¬ x0[j] ≥ v := fun e => hc (r3'.2 (by rw [hg]; exact e))
      rw [if_neg hc]
      refine ref_j6 x0 x5 v i R K hl hb j k h1 h2 (by omega) (fun k' hk' => ?_)
      have := hR k' hk'
      simp only [runLen] at this
      rw [if_neg hc2] at this
      exact this
theorem ref_step (x0 x5 : List Int) (v : Int) (i : Nat) (R : Option (List Int × Int)) (K : Nat) (hinv : Inv x0 v x5) (h0 : ∀ x ∈ x0, 0 ≤ x ∧ x ≤ 126) (hb : x0.length ≤ 65536) (k : Nat) (hi : i < x0.length) (hk : K + 140000 ≤ k)
    (hR : ∀ k', K ≤ k' → selvedgeref20_Visual.l3 k' x0 (revPart x5 i (i + runLen v (x0.drop i))) v true ((nxt i (i + runLen v (x0.drop i)) : Nat) : Int) = R) :
    selvedgeref20_Visual.l3 k x0 x5 v true (i : Int) = R := by
  obtain ⟨k, rfl⟩ : ∃ m, k = m + 1 + 1 := ⟨k - 2, by omega⟩
  have hl := hinv.1
  simp only [selvedgeref20_Visual.l3]
  rw [if_pos (by omega)]
  simp only [selvedgeref20_Visual.j4, if_true]
  exact ref_l4 x0 x5 v i R K hinv h0 hb (x0.length - i) i k (by omega) (by omega) rfl (by omega) hR
theorem ref_out (x0 x5 : List Int) (v : Int) (b : Bool) (i : Nat) (R : Option (List Int × Int)) (K : Nat) (hl : x5.length = x0.length) (h : b = false ∨ ¬ i < x0.length) (hv : 1 ≤ v ∧ v ≤ 126) (k : Nat) (hk : K + 2 ≤ k)
    (hR : ∀ k', K ≤ k' → selvedgeref20_Visual.l1 k' x0 x5 (v - 1) = R) : selvedgeref20_Visual.l3 k x0 x5 v b (i : Int) = R := by
  obtain ⟨k, rfl⟩ : ∃ m, k = m + 1 + 1 := ⟨k - 2, by omega⟩
  have hw : wrap64 (v - 1) = v - 1 := by unfold wrap64; omega
  have := hR k (by omega)
  simp only [selvedgeref20_Visual.l3]
  by_cases hi : i < x0.length
  · rcases h with rfl | h
    · rw [if_pos (by omega)]
      simp only [selvedgeref20_Visual.j4]
      rw [if_neg (by decide), hw]
      exact this
    · exact absurd hi h
  · rw [if_neg (by omega)]
    simp only [selvedgeref20_Visual.j4]
    rw [if_neg (by decide), hw]
    exact this
theorem ref_pass (x0 : List Int) (v : Int) (R : Option (List Int × Int)) (K : Nat) (h0 : ∀ x ∈ x0, 0 ≤ x ∧ x ≤ 126) (hb : x0.length ≤ 65536) (hv : 1 ≤ v ∧ v ≤ 126) (d : Nat) : ∀ (i k : Nat) (x5 : List Int), Inv x0 v x5 → x0.length ≤ i + d → K + (d + 1) * 300000 ≤ k →
    (∀ k', K ≤ k' → selvedgeref20_Visual.l1 k' x0 (pass x0 v d i x5) (v - 1) = R) → selvedgeref20_Visual.l3 k x0 x5 v true (i : Int) = R := by
  induction d with
  | zero =>
    intro i k x5 hinv hd hk hR
    exact ref_out x0 x5 v true i R K hinv.1 (.inr (by omega)) hv k (by omega) hR
  | succ d ih =>
    intro i k x5 hinv hd hk hR
    by_cases hi : i < x0.length
    · simp only [pass] at hR
      rw [if_pos hi] at hR
      have hr := drop_len x0 v i (by omega)
      have hs := at_stop x0 v i
      refine ref_step x0 x5 v i R (K + (d + 1) * 300000 + 150000) hinv h0 hb k hi (by omega) (fun k' hk' => ?_)
      have hinv2 : Inv x0 v (revPart x5 i (i + runLen v (x0.drop i))) := inv_rev hinv i _ (by omega) hr (fun p h1 h2 => in_run x0 v i p h1 h2)
      generalize hE : i + runLen v (x0.drop i) = e at *
      by_cases he : e > i
      · rw [show nxt i e = e from if_pos he]
        by_cases hen : e < x0.length
        · have hz : runLen v (x0.drop e) = 0 := by
            have := hs hen
            rw [rd_get x0 e hen] at this
            rw [List.drop_eq_getElem_cons hen]
            simp only [runLen]
            rw [if_neg (by omega)]
          refine ref_step x0 _ v e R (K + (d + 1) * 300000) hinv2 h0 hb k' hen (by omega) (fun k2 hk2 => ?_)
          rw [hz, Nat.add_zero, revPart_none _ e e (by omega) (by omega), show nxt e e = e + 1 from if_neg (Nat.lt_irrefl e)]
          exact ih (e + 1) k2 _ hinv2 (by omega) hk2 hR
        · refine ref_out x0 _ v true e R K hinv2.1 (.inr hen) hv k' (by omega) (fun k2 hk2 => ?_)
          have := hR k2 hk2
          rw [pass_end _ _ _ _ _ (by omega)] at this
          exact this
      · rw [show nxt i e = i + 1 from if_neg he]
        obtain rfl : e = i := by omega
        exact ih (e + 1) k' _ hinv2 (by omega) (Nat.le_trans (Nat.le_add_right _ _) hk') hR
    · simp only [pass] at hR
      rw [if_neg hi] at hR
      exact ref_out x0 x5 v true i R K hinv.1 (.inr hi) hv k (by omega) hR
def hasOdd (v : Int) (l : List Int) : Bool := l.any fun x => decide (x ≤ v) && (Int.tmod x 2 == 1)
theorem ref_l2 (x0 x5 : List Int) (v : Int) (R : Option (List Int × Int)) (K : Nat) (h0 : ∀ x ∈ x0, 0 ≤ x ∧ x ≤ 126) (hb : x0.length ≤ 65536) (hR : ∀ k', K ≤ k' → selvedgeref20_Visual.l3 k' x0 x5 v (hasOdd v x0) 0 = R) (d : Nat) : ∀ (i k : Nat), i ≤ x0.length → x0.length - i = d → K + d + 1 ≤ k →
    selvedgeref20_Visual.l2 k x0 x5 v (hasOdd v (x0.take i)) (i : Int) = R := by
  induction d with
  | zero =>
    intro i k hi hd hk
    obtain ⟨k, rfl⟩ : ∃ m, k = m + 1 := ⟨k - 1, by omega⟩
    simp only [selvedgeref20_Visual.l2]
    rw [if_neg (by omega), List.take_of_length_le (by omega)]
    exact hR k (by omega)
  | succ d ih =>
    intro i k hi hd hk
    obtain ⟨k, rfl⟩ : ∃ m, k = m + 1 := ⟨k - 1, by omega⟩
    have hlt : i < x0.length := by omega
    have hw : wrap64 ((i : Int) + 1) = ((i + 1 : Nat) : Int) := by unfold wrap64; omega
    have hm := h0 _ (List.getElem_mem hlt)
    have hn : hasOdd v (x0.take (i + 1)) = (hasOdd v (x0.take i) || (decide (x0[i] ≤ v) && (Int.tmod x0[i] 2 == 1))) := by
      unfold hasOdd
      rw [(List.take_append_getElem hlt).symm, List.any_append]
      simp
    have ih' := ih (i + 1) k (by omega) (by omega) (by omega)
    rw [hn] at ih'
    simp only [selvedgeref20_Visual.l2]
    rw [if_pos (by omega), hw, rd_get x0 i hlt, w64 x0[i] (by omega)]
    by_cases hc : hasOdd v (x0.take i) = true
    · rw [if_pos hc]
      rw [hc, Bool.true_or] at ih'
      exact ih'
    · have hc' : hasOdd v (x0.take i) = false := by simpa using hc
      rw [if_neg hc, if_pos (by omega)]
      rw [hc', Bool.false_or] at ih'
      by_cases hv : x0[i] ≤ v
      · rw [if_pos hv]
        rw [decide_eq_true hv, Bool.true_and] at ih'
        exact ih'
      · rw [if_neg hv]
        rw [decide_eq_false hv, Bool.false_and] at ih'
        exact ih'
theorem has_odd (v : Int) (l : List Int) (hv : v ≤ 126) : hasOdd v l = decide (oddOf l ≤ v) := by
  obtain ⟨a1, a2, a3⟩ := odd_le l
  by_cases h : oddOf l ≤ v
  · rw [decide_eq_true h]
    rcases a3 with e | ⟨e, f⟩
    · omega
    · unfold hasOdd
      rw [List.any_eq_true]
      exact ⟨_, e, by simp [h, f]⟩
  · rw [decide_eq_false h]
    unfold hasOdd
    rw [List.any_eq_false]
    intro x hx e
    simp only [Bool.and_eq_true, decide_eq_true_eq, beq_iff_eq] at e
    have := a2 x hx e.2
    omega
theorem fuel2g (A B C n k : Nat) (h : B + n + 1 + 1 ≤ C) (hk : A + C ≤ k + 1) : A + B + n + 1 ≤ k := by omega
theorem fuel3 (A B k : Nat) (h : A + (B + 1) * 300000 ≤ k) : A + 2 ≤ k := by omega
theorem fuel2 (n c k : Nat) (h : n ≤ 65536) (hk : (c + 1 + 1) * 30000000000 ≤ k + 1) : (c + 1) * 30000000000 + (n + 1) * 300000 + n + 1 ≤ k := by
  have e : (c + 1 + 1) * 30000000000 = (c + 1) * 30000000000 + 30000000000 := by rw [Nat.add_mul (c + 1) 1, Nat.one_mul]
  have h2 : (n + 1) * 300000 ≤ 65537 * 300000 := Nat.mul_le_mul_right _ (Nat.succ_le_succ h)
  have h3 : (n + 1) * 300000 + n + 1 + 1 ≤ 65537 * 300000 + 65536 + 1 + 1 := Nat.succ_le_succ (Nat.succ_le_succ (Nat.add_le_add h2 h))
  have h4 : 65537 * 300000 + 65536 + 1 + 1 ≤ 30000000000 := by decide
  rw [e] at hk
  exact fuel2g _ _ _ n k (Nat.le_trans h3 h4) hk
theorem ref_l1 (x0 : List Int) (h0 : ∀ x ∈ x0, 0 ≤ x ∧ x ≤ 126) (hb : x0.length ≤ 65536) (c : Nat) : ∀ (k : Nat) (x5 : List Int), c ≤ 126 → Inv x0 (c : Int) x5 → (c + 1) * 30000000000 ≤ k →
    selvedgeref20_Visual.l1 k x0 x5 (c : Int) = some (passes x0 ((c : Int) + 1 - oddOf x0).toNat (c : Int) x5, 0) := by
  have o := odd_pos x0 (fun x hx => (h0 x hx).1)
  induction c with
  | zero =>
    intro k x5 hc hinv hk
    obtain ⟨k, rfl⟩ : ∃ m, k = m + 1 := ⟨k - 1, by omega⟩
    simp only [selvedgeref20_Visual.l1]
    rw [if_neg (by omega), show (((0 : Nat) : Int) + 1 - oddOf x0).toNat = 0 by omega]
    rfl
  | succ c ih =>
    intro k x5 hc hinv hk
    obtain ⟨k, rfl⟩ : ∃ m, k = m + 1 := ⟨k - 1, Nat.eq_add_of_sub_eq (Nat.le_trans (by decide) (Nat.le_trans (Nat.le_mul_of_pos_left 30000000000 (Nat.succ_pos _)) hk)) rfl⟩
    have hf := fuel2 x0.length c k hb hk
    have hvv : ((c + 1 : Nat) : Int) - 1 = (c : Int) := by omega
    have hcc : (1 : Int) ≤ ((c + 1 : Nat) : Int) ∧ ((c + 1 : Nat) : Int) ≤ 126 := by omega
    have hho := has_odd ((c + 1 : Nat) : Int) x0 hcc.2
    have hdn : ∀ y, Inv x0 ((c + 1 : Nat) : Int) y → Inv x0 (c : Int) y := fun y hy => by have := inv_down hy; rw [hvv] at this; exact this
    clear hk
    simp only [selvedgeref20_Visual.l1]
    rw [if_pos hcc.1]
    refine ref_l2 x0 x5 ((c + 1 : Nat) : Int) _ ((c + 1) * 30000000000 + (x0.length + 1) * 300000) h0 hb (fun k' hk' => ?_) x0.length 0 k (Nat.zero_le _) rfl hf
    rw [hho]
    by_cases ho : oddOf x0 ≤ ((c + 1 : Nat) : Int)
    · rw [decide_eq_true ho]
      refine ref_pass x0 ((c + 1 : Nat) : Int) _ ((c + 1) * 30000000000) h0 hb hcc x0.length 0 k' x5 hinv (by omega) hk' (fun k2 hk2 => ?_)
      rw [hvv, show (((c + 1 : Nat) : Int) + 1 - oddOf x0).toNat = ((c : Int) + 1 - oddOf x0).toNat + 1 by omega]
      simp only [passes]
      rw [hvv]
      exact ih k2 _ (by omega) (hdn _ (inv_pass _ _ _ hinv)) hk2
    · rw [decide_eq_false ho]
      refine ref_out x0 x5 ((c + 1 : Nat) : Int) false 0 _ ((c + 1) * 30000000000) hinv.1 (.inl rfl) hcc k' (fuel3 _ _ _ hk') (fun k2 hk2 => ?_)
      have := ih k2 x5 (by omega) (hdn _ hinv) hk2
      rw [hvv, show (((c + 1 : Nat) : Int) + 1 - oddOf x0).toNat = 0 by omega]
      rw [show ((c : Int) + 1 - oddOf x0).toNat = 0 by omega] at this
      exact this
theorem ref_l0 (x0 : List Int) (h0 : ∀ x ∈ x0, 0 ≤ x ∧ x ≤ 126) (hb : x0.length ≤ 65536) (K : Nat) (hK : 127 * 30000000000 ≤ K) (d : Nat) : ∀ (i k : Nat), i ≤ x0.length → x0.length - i = d → K + d + 1 ≤ k →
    selvedgeref20_Visual.l0 k x0 (iota i ++ List.replicate (x0.length - i) 0) (i : Int) = some (visOf x0, 0) := by
  induction d with
  | zero =>
    intro i k hi hd hk
    obtain ⟨k, rfl⟩ : ∃ m, k = m + 1 := ⟨k - 1, by omega⟩
    obtain rfl : i = x0.length := by omega
    have e := ref_l1 x0 h0 hb 126 k (iota x0.length) (Nat.le_refl _) (inv_iota x0 _) (Nat.le_trans hK (by omega))
    simp only [selvedgeref20_Visual.l0]
    rw [Nat.sub_self, List.replicate_zero, List.append_nil, if_neg (by rw [length_iota]; omega)]
    exact e
  | succ d ih =>
    intro i k hi hd hk
    obtain ⟨k, rfl⟩ : ∃ m, k = m + 1 := ⟨k - 1, by omega⟩
    have hw : wrap64 ((i : Int) + 1) = ((i + 1 : Nat) : Int) := by unfold wrap64; omega
    have hset : (iota i ++ List.replicate (x0.length - i) 0).set i (i : Int) = iota (i + 1) ++ List.replicate (x0.length - (i + 1)) 0 := by
      rw [List.set_append_right _ _ (by rw [length_iota]; omega), length_iota, Nat.sub_self, show x0.length - i = (x0.length - (i + 1)) + 1 by omega, List.replicate_succ, iota_succ, List.append_assoc]
      rfl
    have hl : (iota i ++ List.replicate (x0.length - i) (0 : Int)).length = x0.length := by rw [List.length_append, length_iota, List.length_replicate]; omega
    simp only [selvedgeref20_Visual.l0]
    rw [if_pos (by omega), if_pos (by omega), Int.toNat_natCast, hset, hw]
    exact ih (i + 1) k (by omega) (by omega) (by omega)
theorem ref_visual_good (lev : List Int) (h : rightOf lev = 0) (h0 : ∀ x ∈ lev, 0 ≤ x) (k : Nat) (hk : 127 * 30000000000 + 70000 ≤ k) : selvedgeref20_Visual.f k lev = some (visOf lev, 0) := by
  obtain ⟨h1, h2⟩ := (right_zero' lev).1 h
  have k1 : 70000 ≤ k := Nat.le_trans (by decide) hk
  have k2 : 127 * 30000000000 + lev.length + 1 ≤ k := Nat.le_trans (Nat.add_le_add_left (Nat.succ_le_succ h1) _) (Nat.le_trans (by decide) hk)
  have g1 : (0 : Int) ≤ (lev.length : Int) := Int.natCast_nonneg _
  have g2 : ((lev.length : Int) : Int).toNat ≤ 35184372088832 := by rw [Int.toNat_natCast]; exact Nat.le_trans h1 (by decide)
  clear hk
  unfold selvedgeref20_Visual.f
  rw [refv_right_eq lev k k1]
  simp only [Option.bind_some]
  rw [if_pos h, if_pos g1, if_pos g2, Int.toNat_natCast]
  exact ref_l0 lev (fun x hx => ⟨h0 x hx, h2 x hx⟩) h1 (127 * 30000000000) (Nat.le_refl _) lev.length 0 k (Nat.zero_le _) rfl k2
theorem ref_visual_bad (lev : List Int) (h : rightOf lev ≠ 0) (k : Nat) (hk : 70000 ≤ k) : selvedgeref20_Visual.f k lev = some ([], rightOf lev) := by
  unfold selvedgeref20_Visual.f
  rw [refv_right_eq lev k hk]
  simp only [Option.bind_some]
  rw [if_neg h]
theorem runs_both (x0 : List Int) (hb : x0.length ≤ 65536) (d : Nat) : ∀ (i : Nat) (x5 : List Int), i ≤ x0.length → x0.length - i = d → x5.length ≤ i → ∃ r : List Int, r.length ≤ x0.length ∧ ∀ k, d < k → order_Runs.l0 k x0 x5 x0 (x0.length : Int) (i : Int) = some (r, 0) ∧ selvedgeref20_Runs.l0 k x0 x5 (i : Int) = some (r, 0) := by
  induction d with
  | zero =>
    intro i x5 hi hd h5
    refine ⟨x5, by omega, fun k hk => ?_⟩
    obtain ⟨k, rfl⟩ : ∃ m, k = m + 1 := ⟨k - 1, by omega⟩
    simp only [order_Runs.l0, selvedgeref20_Runs.l0]
    rw [if_neg (by omega), if_neg (by omega)]
    exact ⟨rfl, rfl⟩
  | succ d ih =>
    intro i x5 hi hd h5
    have hw : wrap64 ((i : Int) + 1) = ((i + 1 : Nat) : Int) := by unfold wrap64; omega
    by_cases hz : i = 0 ∨ ¬ rd x0 (i : Int) = rd x0 ((i - 1 : Nat) : Int)
    · obtain ⟨r, r1, r2⟩ := ih (i + 1) (x5 ++ [(i : Int)]) (by omega) (by omega) (by rw [List.length_append]; simp; omega)
      refine ⟨r, r1, fun k hk => ?_⟩
      obtain ⟨k, rfl⟩ : ∃ m, k = m + 1 := ⟨k - 1, by omega⟩
      obtain ⟨s1, s2⟩ := r2 k (by omega)
      simp only [order_Runs.l0, selvedgeref20_Runs.l0]
      by_cases h0 : i = 0
      · subst h0
        rw [hw, if_pos (by omega), if_pos (by omega), if_pos (by omega), if_pos (by omega), if_pos (by omega), if_pos (by omega), if_pos (by omega), if_pos (by omega)]
        exact ⟨s1, s2⟩
      · have hw2 : wrap64 ((i : Int) - 1) = ((i - 1 : Nat) : Int) := by unfold wrap64; omega
        have hne := hz.resolve_left h0
        have g0 : ¬ (i : Int) = 0 := by omega
        have g1 : (i : Int) < (x0.length : Int) := by omega
        have g2 : 0 ≤ (i : Int) := by omega
        have g3 : 0 ≤ ((i - 1 : Nat) : Int) := by omega
        have g4 : ((i - 1 : Nat) : Int) < (x0.length : Int) := by omega
        have g5 : x5.length < 17592186044416 := by omega
        rw [hw, hw2]
        simp only [if_pos g1, if_pos g2, if_neg g0, if_pos g3, if_pos g4, if_neg hne, if_pos g5]
        exact ⟨s1, s2⟩
    · have h0 : ¬ i = 0 := fun e => hz (.inl e)
      have heq : rd x0 (i : Int) = rd x0 ((i - 1 : Nat) : Int) := Decidable.byContradiction fun e => hz (.inr e)
      obtain ⟨r, r1, r2⟩ := ih (i + 1) x5 (by omega) (by omega) (by omega)
      refine ⟨r, r1, fun k hk => ?_⟩
      obtain ⟨k, rfl⟩ : ∃ m, k = m + 1 := ⟨k - 1, by omega⟩
      obtain ⟨s1, s2⟩ := r2 k (by omega)
      have hw2 : wrap64 ((i : Int) - 1) = ((i - 1 : Nat) : Int) := by unfold wrap64; omega
      have g0 : ¬ (i : Int) = 0 := by omega
      have g1 : (i : Int) < (x0.length : Int) := by omega
      have g2 : 0 ≤ (i : Int) := by omega
      have g3 : 0 ≤ ((i - 1 : Nat) : Int) := by omega
      have g4 : ((i - 1 : Nat) : Int) < (x0.length : Int) := by omega
      simp only [order_Runs.l0, selvedgeref20_Runs.l0]
      rw [hw, hw2]
      simp only [if_pos g1, if_pos g2, if_neg g0, if_pos g3, if_pos g4, if_pos heq]
      exact ⟨s1, s2⟩
theorem runs_same (x0 : List Int) : ∃ r : List Int × Int, r.1.length ≤ 65536 ∧ ∀ k, 140000 ≤ k → order_Runs.f k x0 = some r ∧ selvedgeref20_Runs.f k x0 = some r := by
  by_cases h : rightOf x0 = 0
  · obtain ⟨h1, h2⟩ := (right_zero' x0).1 h
    obtain ⟨r, r1, r2⟩ := runs_both x0 h1 x0.length 0 [] (by omega) rfl (by simp)
    refine ⟨(r, 0), by simpa using Nat.le_trans r1 h1, fun k hk => ?_⟩
    obtain ⟨s1, s2⟩ := r2 k (by omega)
    unfold order_Runs.f selvedgeref20_Runs.f
    rw [right_eq x0 k (by omega), refv_right_eq x0 k (by omega)]
    simp only [Option.bind_some]
    rw [if_pos h, if_pos h]
    exact ⟨s1, s2⟩
  · refine ⟨([], rightOf x0), Nat.zero_le _, fun k hk => ?_⟩
    unfold order_Runs.f selvedgeref20_Runs.f
    rw [right_eq x0 k (by omega), refv_right_eq x0 k (by omega)]
    simp only [Option.bind_some]
    rw [if_neg h, if_neg h]
    exact ⟨rfl, rfl⟩
theorem rdb_getD (xs : List Bool) (p : Nat) : rdOf false xs (p : Int) = (xs[p]?).getD false := by unfold rdOf; rw [Int.toNat_natCast, List.getD_eq_getElem?_getD]
theorem rdb_set (xs : List Bool) (a p : Nat) (x : Bool) (h : a < xs.length) : rdOf false (xs.set a x) (p : Int) = if a = p then x else rdOf false xs (p : Int) := by
  rw [rdb_getD, rdb_getD, List.getElem?_set]
  by_cases e : a = p
  · rw [if_pos e, if_pos e, if_pos h]; rfl
  · rw [if_neg e, if_neg e]
theorem log_both (a : List Int) (hb : a.length ≤ 65536) (d : Nat) : ∀ (i : Nat) (xp xr : List Int) (sn : List Bool), i ≤ a.length → a.length - i = d → xp.length = a.length → xr.length = a.length → sn.length = a.length → sn.count true = i →
    (∀ u : Nat, u < a.length → (rdOf false sn (u : Int) = true → rd xp (u : Int) = rd xr (u : Int) ∧ 0 ≤ rd xp (u : Int)) ∧ (rdOf false sn (u : Int) = false → rd xp (u : Int) = -1)) →
    ∃ r : List Int × Int, r.1.length ≤ a.length ∧ ∀ k, d < k → order_Logical.l1 k xp a (a.length : Int) (i : Int) = some r ∧ selvedgeref20_Logical.l0 k a xr sn (i : Int) = some r := by
  induction d with
  | zero =>
    intro i xp xr sn hi hd lp lr ls hc hu
    have hall : ∀ b ∈ sn, true = b := List.count_eq_length.1 (by omega)
    have he : xp = xr := by
      apply List.ext_getElem (by omega)
      intro u h1 h2
      have hs : rdOf false sn (u : Int) = true := by
        rw [rdb_getD, List.getElem?_eq_getElem (by omega)]
        exact (hall _ (List.getElem_mem _)).symm
      have := ((hu u (by omega)).1 hs).1
      rw [rd_get xp u h1, rd_get xr u h2] at this
      exact this
    subst he
    refine ⟨(xp, 0), by simp; omega, fun k hk => ?_⟩
    obtain ⟨k, rfl⟩ : ∃ m, k = m + 1 := ⟨k - 1, by omega⟩
    simp only [order_Logical.l1, selvedgeref20_Logical.l0]
    rw [if_neg (by omega), if_neg (by omega)]
    exact ⟨rfl, rfl⟩
  | succ d ih =>
    intro i xp xr sn hi hd lp lr ls hc hu
    have hw : wrap64 ((i : Int) + 1) = ((i + 1 : Nat) : Int) := by unfold wrap64; omega
    have g1 : (i : Int) < (a.length : Int) := by omega
    have g2 : 0 ≤ (i : Int) := by omega
    by_cases hr : 0 ≤ rd a (i : Int) ∧ rd a (i : Int) < (a.length : Int)
    · obtain ⟨u, hu'⟩ : ∃ u : Nat, rd a (i : Int) = (u : Int) := ⟨(rd a (i : Int)).toNat, by omega⟩
      rw [hu'] at hr
      have hun : u < a.length := by omega
      have n1 : ¬ (u : Int) < 0 := by omega
      have n2 : ¬ (u : Int) ≥ (xp.length : Int) := by omega
      have n3 : ¬ (u : Int) ≥ (a.length : Int) := by omega
      have n4 : (u : Int) < (xp.length : Int) := by omega
      have n5 : (u : Int) < (sn.length : Int) := by omega
      have n6 : (u : Int) < (xr.length : Int) := by omega
      by_cases hs : rdOf false sn (u : Int) = true
      · have hp := ((hu u hun).1 hs).2
        refine ⟨([], 2), Nat.zero_le _, fun k hk => ?_⟩
        obtain ⟨k, rfl⟩ : ∃ m, k = m + 1 := ⟨k - 1, by omega⟩
        simp only [order_Logical.l1, selvedgeref20_Logical.l0]
        rw [hu']
        simp only [if_pos g1, if_pos g2, if_neg n1, if_neg n2, if_neg n3, if_pos hr.1, if_pos n4, if_pos n5, if_pos hs, if_pos (show rd xp (u : Int) ≥ 0 from hp)]
        exact ⟨trivial, trivial⟩
      · have hs' : rdOf false sn (u : Int) = false := by simpa using hs
        have hp := (hu u hun).2 hs'
        have hcount : (sn.set u true).count true = i + 1 := by
          rw [List.count_set (by omega)]
          have : sn[u]'(by omega) = false := by
            rw [rdb_getD, List.getElem?_eq_getElem (by omega)] at hs'
            exact hs'
          rw [this, hc]
          simp
        obtain ⟨r, r1, r2⟩ := ih (i + 1) (xp.set u (i : Int)) (xr.set u (i : Int)) (sn.set u true) (by omega) (by omega) (by rw [List.length_set]; exact lp) (by rw [List.length_set]; exact lr) (by rw [List.length_set]; exact ls) hcount (fun w hw' => by
          rw [rd_set xp u w _ (by omega), rd_set xr u w _ (by omega), rdb_set sn u w _ (by omega)]
          by_cases e : u = w
          · rw [if_pos e, if_pos e, if_pos e]
            exact ⟨fun _ => ⟨rfl, g2⟩, fun h => by cases h⟩
          · rw [if_neg e, if_neg e, if_neg e]
            exact hu w hw')
        refine ⟨r, r1, fun k hk => ?_⟩
        obtain ⟨k, rfl⟩ : ∃ m, k = m + 1 := ⟨k - 1, by omega⟩
        obtain ⟨s1, s2⟩ := r2 k (by omega)
        simp only [order_Logical.l1, selvedgeref20_Logical.l0]
        rw [hu', hw, Int.toNat_natCast]
        simp only [if_pos g1, if_pos g2, if_neg n1, if_neg n2, if_neg n3, if_pos hr.1, if_pos n4, if_pos n5, if_pos n6, if_neg hs, if_neg (show ¬ rd xp (u : Int) ≥ 0 by omega)]
        exact ⟨s1, s2⟩
    · refine ⟨([], 2), Nat.zero_le _, fun k hk => ?_⟩
      obtain ⟨k, rfl⟩ : ∃ m, k = m + 1 := ⟨k - 1, by omega⟩
      simp only [order_Logical.l1, selvedgeref20_Logical.l0]
      by_cases n1 : rd a (i : Int) < 0
      · simp only [if_pos g1, if_pos g2, if_pos n1]
        exact ⟨trivial, trivial⟩
      · simp only [if_pos g1, if_pos g2, if_neg n1, if_pos (show rd a (i : Int) ≥ (xp.length : Int) by omega), if_pos (show rd a (i : Int) ≥ (a.length : Int) by omega)]
        exact ⟨trivial, trivial⟩
theorem logical_same (a : List Int) : ∃ r : List Int × Int, r.1.length ≤ 65536 ∧ ∀ k, 140000 ≤ k → order_Logical.f k a = some r ∧ selvedgeref20_Logical.f k a = some r := by
  by_cases h : a.length > 65536
  · refine ⟨([], 3), Nat.zero_le _, fun k hk => ?_⟩
    unfold order_Logical.f selvedgeref20_Logical.f
    rw [if_pos (by omega), if_pos (by omega)]
    exact ⟨rfl, rfl⟩
  · obtain ⟨r, r1, r2⟩ := log_both a (by omega) a.length 0 (List.replicate a.length (-1)) (List.replicate a.length 0) (List.replicate a.length false) (by omega) rfl List.length_replicate List.length_replicate List.length_replicate (by rw [List.count_replicate]; rfl) (fun u hu => by
      rw [rdb_getD, List.getElem?_replicate, if_pos hu]
      exact ⟨fun e => (by cases e), fun _ => by rw [rd_getD, List.getElem?_replicate, if_pos hu]; rfl⟩)
    refine ⟨r, by omega, fun k hk => ⟨?_, ?_⟩⟩
    · exact log_start a (by omega) (some r) 70000 (fun k' hk' => (r2 k' (by omega)).1) k (by omega)
    · have := (r2 k (by omega)).2
      unfold selvedgeref20_Logical.f
      rw [if_neg (by omega), if_pos (by omega), if_pos (by omega), if_pos (by omega), Int.toNat_natCast]
      exact this
end Go.Proofs.YtgfkbijmchoolaaDoor.Ord

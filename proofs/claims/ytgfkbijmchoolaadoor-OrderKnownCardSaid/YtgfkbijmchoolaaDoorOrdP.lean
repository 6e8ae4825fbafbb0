import Derived.Test.YtgfkbijmchoolaaDoorOrdV
namespace Go.Proofs.YtgfkbijmchoolaaDoor.Ord
open Go.Proofs.YtgfkbijmchoolaaDoor.P Go.Proofs.YtgfkbijmchoolaaDoorH Go.RowKit Go.Proofs.YtgfkbijmchoolaaDoorW.PrintWords Go.Proofs.YtgfkbijmchoolaaDoorW.PrintLast Go.Proofs.YtgfkbijmchoolaaDoorW.PrintMore
set_option linter.unusedVariables false
set_option linter.unusedSimpArgs false
theorem runLen_full (v : Int) : ∀ l : List Int, (∀ x ∈ l, v ≤ x) → runLen v l = l.length
  | [], _ => rfl
  | x :: l, h => by
    simp only [runLen, List.length_cons]
    rw [if_pos (h x List.mem_cons_self), runLen_full v l fun y hy => h y (List.mem_cons_of_mem _ hy)]
theorem pass_end (lev : List Int) (v : Int) (d i : Nat) (out : List Int) (h : lev.length ≤ i) : pass lev v d i out = out := by
  cases d with
  | zero => rfl
  | succ d => simp only [pass]; rw [if_neg (by omega)]
theorem passAll_full (lev : List Int) (v : Int) (out : List Int) (hl : out.length = lev.length) (h : ∀ x ∈ lev, v ≤ x) : passAll lev v out = out.reverse := by
  unfold passAll
  cases hn : lev.length with
  | zero => rw [hn] at hl; rw [List.length_eq_zero_iff.1 hl]; rfl
  | succ d =>
    simp only [pass]
    rw [if_pos (by omega), List.drop_zero, runLen_full v lev h, pass_end _ _ _ _ _ (by omega), Nat.zero_add, ← hl]
    simp [revPart]
theorem runLen_congr (v v' : Int) : ∀ l : List Int, (∀ x ∈ l, (v ≤ x ↔ v' ≤ x)) → runLen v l = runLen v' l
  | [], _ => rfl
  | x :: l, h => by
    simp only [runLen]
    have h1 := h x List.mem_cons_self
    rw [runLen_congr v v' l fun y hy => h y (List.mem_cons_of_mem _ hy)]
    by_cases hx : x ≥ v
    · rw [if_pos hx, if_pos (h1.1 hx)]
    · rw [if_neg hx, if_neg (fun e => hx (h1.2 e))]
theorem pass_congr (lev : List Int) (v v' : Int) (h : ∀ x ∈ lev, (v ≤ x ↔ v' ≤ x)) : ∀ (d i : Nat) (out : List Int), pass lev v d i out = pass lev v' d i out
  | 0, _, _ => rfl
  | d + 1, i, out => by
    simp only [pass]
    rw [runLen_congr v v' _ fun x hx => h x (List.mem_of_mem_drop hx), pass_congr lev v v' h d]
theorem runLen_map (v c : Int) : ∀ l : List Int, runLen (v + c) (l.map (· + c)) = runLen v l
  | [] => rfl
  | x :: l => by
    simp only [runLen, List.map_cons]
    rw [runLen_map v c l]
    by_cases hx : x ≥ v
    · rw [if_pos hx, if_pos (by omega)]
    · rw [if_neg hx, if_neg (by omega)]
theorem pass_shift (lev : List Int) (v c : Int) : ∀ (d i : Nat) (out : List Int), pass (lev.map (· + c)) (v + c) d i out = pass lev v d i out
  | 0, _, _ => rfl
  | d + 1, i, out => by
    simp only [pass, List.length_map]
    rw [← List.map_drop, runLen_map, pass_shift lev v c d]
theorem passes_shift (lev : List Int) (c : Int) : ∀ (n : Nat) (v : Int) (out : List Int), passes (lev.map (· + c)) n (v + c) out = passes lev n v out
  | 0, _, _ => rfl
  | n + 1, v, out => by
    simp only [passes, passAll, List.length_map]
    rw [pass_shift, show v + c - 1 = v - 1 + c by omega, passes_shift lev c n]
theorem revPart_perm (xs : List Int) (lo hi : Nat) (h : lo ≤ hi) : (revPart xs lo hi).Perm xs := by
  have e : xs.take lo ++ (xs.drop lo).take (hi - lo) ++ xs.drop hi = xs := by
    have : xs.drop hi = (xs.drop lo).drop (hi - lo) := by rw [List.drop_drop]; congr 1; omega
    rw [this, List.append_assoc, List.take_append_drop, List.take_append_drop]
  unfold revPart
  refine List.Perm.trans ?_ (List.Perm.of_eq e)
  exact ((List.reverse_perm _).append_left _).append_right _
theorem pass_perm (lev : List Int) (v : Int) : ∀ (d i : Nat) (out : List Int), (pass lev v d i out).Perm out
  | 0, _, _ => List.Perm.refl _
  | d + 1, i, out => by
    simp only [pass]
    by_cases hi : i < lev.length
    · rw [if_pos hi]; exact (pass_perm lev v d _ _).trans (revPart_perm _ _ _ (by omega))
    · rw [if_neg hi]
theorem passes_perm (lev : List Int) : ∀ (n : Nat) (v : Int) (out : List Int), (passes lev n v out).Perm out
  | 0, _, _ => List.Perm.refl _
  | n + 1, v, out => (passes_perm lev n (v - 1) _).trans (pass_perm lev v _ _ _)
theorem rev_rev (xs : List Int) (a b : Nat) (h : a ≤ b) (hb : b ≤ xs.length) : revPart (revPart xs a b) a b = xs := by
  apply List.ext_getElem?
  intro i
  rw [revPart_get _ _ _ h (by rw [length_revPart xs a b h hb]; exact hb), revPart_get xs a b h hb, revPart_get xs a b h hb]
  by_cases hi : a ≤ i ∧ i < b
  · rw [if_pos hi, if_pos (by omega)]; congr 1; omega
  · rw [if_neg hi, if_neg hi]
theorem rev_comm (xs : List Int) (i k j m : Nat) (h1 : i ≤ k) (h2 : k ≤ j) (h3 : j ≤ m) (h4 : m ≤ xs.length) : revPart (revPart xs i k) j m = revPart (revPart xs j m) i k := by
  apply List.ext_getElem?
  intro p
  have L := revPart_get (revPart xs i k) j m h3 (by rw [length_revPart xs i k h1 (by omega)]; exact h4) p
  have R := revPart_get (revPart xs j m) i k h1 (by rw [length_revPart xs j m h3 h4]; omega) p
  rw [L, R]
  simp only [revPart_get xs i k h1 (by omega), revPart_get xs j m h3 h4]
  by_cases hp : i ≤ p ∧ p < k
  · rw [if_pos hp, if_neg (show ¬ (j ≤ p ∧ p < m) by omega), if_pos hp, if_neg (by omega)]
  · rw [if_neg hp, if_neg hp]
    by_cases hq : j ≤ p ∧ p < m
    · rw [if_pos hq, if_pos hq, if_neg (by omega)]
    · rw [if_neg hq, if_neg hq]
theorem pass_comm (lev : List Int) (v : Int) : ∀ (d j i k : Nat) (X : List Int), i ≤ k → k ≤ j → k ≤ lev.length → X.length = lev.length → pass lev v d j (revPart X i k) = revPart (pass lev v d j X) i k
  | 0, _, _, _, _, _, _, _, _ => rfl
  | d + 1, j, i, k, X, h1, h2, h3, hX => by
    simp only [pass]
    by_cases hj : j < lev.length
    · have hr := drop_len lev v j (by omega)
      rw [if_pos hj, if_pos hj, rev_comm X i k j _ h1 h2 (by omega) (by omega)]
      exact pass_comm lev v d _ i k _ h1 (by omega) h3 (by rw [length_revPart X _ _ (by omega) (by omega)]; exact hX)
    · rw [if_neg hj, if_neg hj]
theorem pass_twice (lev : List Int) (v : Int) : ∀ (d i : Nat) (X : List Int), X.length = lev.length → pass lev v d i (pass lev v d i X) = X
  | 0, _, _, _ => rfl
  | d + 1, i, X, hX => by
    simp only [pass]
    by_cases hi : i < lev.length
    · have hr := drop_len lev v i (by omega)
      have hX2 : (revPart X i (i + runLen v (lev.drop i))).length = lev.length := by rw [length_revPart X _ _ (by omega) (by omega)]; exact hX
      rw [if_pos hi, if_pos hi, ← pass_comm lev v d _ i _ _ (by omega) (by omega) (by omega) hX2, rev_rev _ _ _ (by omega) (by omega), pass_twice lev v d _ X hX]
    · rw [if_neg hi, if_neg hi]
theorem passAll_twice (lev : List Int) (v : Int) (X : List Int) (h : X.length = lev.length) : passAll lev v (passAll lev v X) = X := pass_twice lev v _ 0 X h
theorem passes_back (lev : List Int) (m : Int) (hm : ∀ x ∈ lev, m ≤ x) : ∀ (t : Nat) (out : List Int), out.length = lev.length → (∀ x ∈ lev, ∀ s : Nat, s < t → x ≠ m + 2 * s + 1) → passes lev (2 * t + 1) (m + 2 * t) out = out.reverse
  | 0, out, h, _ => by
    simp only [passes]
    rw [show m + 2 * ((0 : Nat) : Int) = m by omega]
    exact passAll_full lev m out h hm
  | t + 1, out, h, hn => by
    rw [show 2 * (t + 1) + 1 = (2 * t + 1) + 1 + 1 by omega]
    simp only [passes]
    have e : ∀ X, passAll lev (m + 2 * ((t + 1 : Nat) : Int)) X = passAll lev (m + 2 * (t : Int) + 1) X := fun X => pass_congr lev _ _ (fun x hx => by have := hn x hx t (by omega); omega) _ _ _
    rw [e, show m + 2 * ((t + 1 : Nat) : Int) - 1 = m + 2 * (t : Int) + 1 by omega, passAll_twice lev _ _ h, show m + 2 * (t : Int) + 1 - 1 = m + 2 * (t : Int) by omega]
    exact passes_back lev m hm t out h (fun x hx s hs => hn x hx s (by omega))
theorem passes_add (lev : List Int) : ∀ (a b : Nat) (v : Int) (out : List Int), passes lev (a + b) v out = passes lev b (v - a) (passes lev a v out)
  | 0, b, v, out => by simp [passes]
  | a + 1, b, v, out => by
    rw [show a + 1 + b = (a + b) + 1 by omega]
    simp only [passes]
    rw [passes_add lev a b, show v - 1 - (a : Int) = v - ((a + 1 : Nat) : Int) by omega]
theorem rd_getD (xs : List Int) (p : Nat) : rd xs (p : Int) = (xs[p]?).getD 0 := by unfold rd; rw [Int.toNat_natCast, List.getD_eq_getElem?_getD]
theorem rd_rev (xs : List Int) (a b p : Nat) (h : a ≤ b) (hb : b ≤ xs.length) : rd (revPart xs a b) (p : Int) = if a ≤ p ∧ p < b then rd xs ((a + b - 1 - p : Nat) : Int) else rd xs (p : Int) := by
  rw [rd_getD, revPart_get xs a b h hb, rd_getD, rd_getD]
  split <;> rfl
theorem rd_iota (n p : Nat) (h : p < n) : rd (iota n) (p : Int) = (p : Int) := by
  rw [rd_getD]; simp [iota, h]
theorem run_ge (v : Int) : ∀ (l : List Int) (p : Nat), p < runLen v l → v ≤ rd l (p : Int)
  | [], p, h => by simp [runLen] at h
  | x :: l, p, h => by
    simp only [runLen] at h
    by_cases hx : x ≥ v
    · rw [if_pos hx] at h
      cases p with
      | zero => exact hx
      | succ p =>
        have := run_ge v l p (by omega)
        rw [rd_getD] at this ⊢
        simpa using this
    · rw [if_neg hx] at h; omega
theorem run_stop (v : Int) : ∀ (l : List Int), runLen v l < l.length → rd l (runLen v l : Nat) < v
  | [], h => by simp [runLen] at h
  | x :: l, h => by
    simp only [runLen, List.length_cons] at h ⊢
    by_cases hx : x ≥ v
    · rw [if_pos hx] at h ⊢
      have := run_stop v l (by omega)
      rw [rd_getD] at this ⊢
      simpa using this
    · rw [if_neg hx]
      rw [rd_getD]; simp; omega
theorem rd_drop (l : List Int) (i p : Nat) : rd (l.drop i) (p : Int) = rd l ((i + p : Nat) : Int) := by
  rw [rd_getD, rd_getD, List.getElem?_drop]
theorem in_run (lev : List Int) (v : Int) (i p : Nat) (h1 : i ≤ p) (h2 : p < i + runLen v (lev.drop i)) : v ≤ rd lev (p : Int) := by
  have := run_ge v (lev.drop i) (p - i) (by omega)
  rw [rd_drop, show i + (p - i) = p by omega] at this
  exact this
theorem at_stop (lev : List Int) (v : Int) (i : Nat) (h : i + runLen v (lev.drop i) < lev.length) : rd lev ((i + runLen v (lev.drop i) : Nat) : Int) < v := by
  have := run_stop v (lev.drop i) (by rw [List.length_drop]; omega)
  rw [rd_drop] at this
  exact this
def Inv (lev : List Int) (v : Int) (out : List Int) : Prop := out.length = lev.length ∧ ∀ p : Nat, p < lev.length → 0 ≤ rd out (p : Int) ∧ rd out (p : Int) < (lev.length : Int) ∧ ∀ u : Int, u ≤ v → (u ≤ rd lev (rd out (p : Int)) ↔ u ≤ rd lev (p : Int))
theorem inv_iota (lev : List Int) (v : Int) : Inv lev v (iota lev.length) := ⟨length_iota _, fun p hp => by
  rw [rd_iota _ p hp]; exact ⟨by omega, by omega, fun u _ => Iff.rfl⟩⟩
theorem inv_down {lev : List Int} {v : Int} {out : List Int} (h : Inv lev v out) : Inv lev (v - 1) out := ⟨h.1, fun p hp => ⟨(h.2 p hp).1, (h.2 p hp).2.1, fun u hu => (h.2 p hp).2.2 u (by omega)⟩⟩
theorem inv_rev {lev : List Int} {v : Int} {out : List Int} (h : Inv lev v out) (i k : Nat) (h1 : i ≤ k) (h2 : k ≤ lev.length) (hr : ∀ p : Nat, i ≤ p → p < k → v ≤ rd lev (p : Int)) : Inv lev v (revPart out i k) := by
  refine ⟨by rw [length_revPart out i k h1 (by rw [h.1]; exact h2)]; exact h.1, fun p hp => ?_⟩
  rw [rd_rev out i k p h1 (by rw [h.1]; exact h2)]
  by_cases hpk : i ≤ p ∧ p < k
  · rw [if_pos hpk]
    obtain ⟨a1, a2, a3⟩ := h.2 (i + k - 1 - p) (by omega)
    refine ⟨a1, a2, fun u hu => ?_⟩
    have b1 := hr p hpk.1 hpk.2
    have b2 := hr (i + k - 1 - p) (by omega) (by omega)
    rw [a3 u hu]
    exact ⟨fun _ => by omega, fun _ => by omega⟩
  · rw [if_neg hpk]; exact h.2 p hp
theorem inv_pass {lev : List Int} {v : Int} : ∀ (d i : Nat) (out : List Int), Inv lev v out → Inv lev v (pass lev v d i out)
  | 0, _, _, h => h
  | d + 1, i, out, h => by
    simp only [pass]
    by_cases hi : i < lev.length
    · rw [if_pos hi]
      exact inv_pass d _ _ (inv_rev h i _ (by omega) (drop_len lev v i (by omega)) fun p h1 h2 => in_run lev v i p h1 h2)
    · rw [if_neg hi]; exact h
theorem pass_below (lev : List Int) (v : Int) : ∀ (d i : Nat) (out : List Int) (p : Nat), out.length = lev.length → p < i → rd (pass lev v d i out) (p : Int) = rd out (p : Int)
  | 0, _, _, _, _, _ => rfl
  | d + 1, i, out, p, h, hp => by
    simp only [pass]
    by_cases hi : i < lev.length
    · have hr := drop_len lev v i (by omega)
      rw [if_pos hi, pass_below lev v d _ _ p (by rw [length_revPart out _ _ (by omega) (by omega)]; exact h) (by omega), rd_rev out _ _ p (by omega) (by omega), if_neg (by omega)]
    · rw [if_neg hi]
theorem pass_low (lev : List Int) (v : Int) : ∀ (d i : Nat) (out : List Int) (p : Nat), out.length = lev.length → p < lev.length → rd lev (p : Int) < v → rd (pass lev v d i out) (p : Int) = rd out (p : Int)
  | 0, _, _, _, _, _, _ => rfl
  | d + 1, i, out, p, h, hp, hv => by
    simp only [pass]
    by_cases hi : i < lev.length
    · have hr := drop_len lev v i (by omega)
      rw [if_pos hi, pass_low lev v d _ _ p (by rw [length_revPart out _ _ (by omega) (by omega)]; exact h) hp hv, rd_rev out _ _ p (by omega) (by omega), if_neg ?_]
      intro e
      have := in_run lev v i p e.1 e.2
      omega
    · rw [if_neg hi]
theorem pass_pair (lev : List Int) (v : Int) : ∀ (d i : Nat) (out : List Int) (q : Nat), lev.length ≤ i + d → out.length = lev.length → i ≤ q → q + 1 < lev.length → v ≤ rd lev (q : Int) → v ≤ rd lev ((q + 1 : Nat) : Int) →
    ∃ q' : Nat, q' + 1 < lev.length ∧ rd (pass lev v d i out) (q' : Int) = rd out ((q + 1 : Nat) : Int) ∧ rd (pass lev v d i out) ((q' + 1 : Nat) : Int) = rd out (q : Int)
  | 0, i, out, q, hd, _, hi, hq, _, _ => by omega
  | d + 1, i, out, q, hd, h, hi, hq, v1, v2 => by
    simp only [pass]
    have hil : i < lev.length := by omega
    have hr := drop_len lev v i (by omega)
    have hs := at_stop lev v i
    rw [if_pos hil]
    generalize hE : i + runLen v (lev.drop i) = e at *
    have hlen : (revPart out i e).length = lev.length := by rw [length_revPart out _ _ (by omega) (by omega)]; exact h
    by_cases hqe : q + 1 < e
    · refine ⟨i + e - 1 - (q + 1), by omega, ?_, ?_⟩
      · rw [pass_below lev v d _ _ _ hlen (by omega), rd_rev out _ _ _ (by omega) (by omega), if_pos (by omega)]
        congr 2; omega
      · rw [pass_below lev v d _ _ _ hlen (by omega), rd_rev out _ _ _ (by omega) (by omega), if_pos (by omega)]
        congr 2; omega
    · have hne : e < lev.length → rd lev (e : Int) < v := hs
      have hqe2 : e + 1 ≤ q := by
        by_cases c1 : q = e
        · subst c1; have := hne (by omega); omega
        · by_cases c2 : q + 1 = e
          · subst c2; have := hne (by omega); omega
          · omega
      obtain ⟨q', g1, g2, g3⟩ := pass_pair lev v d (e + 1) (revPart out i e) q (by omega) hlen hqe2 hq v1 v2
      refine ⟨q', g1, ?_, ?_⟩
      · rw [g2, rd_rev out _ _ _ (by omega) (by omega), if_neg (by omega)]
      · rw [g3, rd_rev out _ _ _ (by omega) (by omega), if_neg (by omega)]
end Go.Proofs.YtgfkbijmchoolaaDoor.Ord

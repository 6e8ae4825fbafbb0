import Derived.Test.YtgfkbijmchoolaaDoorP4
import Derived.Test.YtgfkbijmchoolaaDoorP4
import Derived.Test.YtgfkbijmchoolaaDoorOrdP
namespace Go.Proofs.YtgfkbijmchoolaaDoor.Ord
open Go.Proofs.YtgfkbijmchoolaaDoor.P Go.Proofs.YtgfkbijmchoolaaDoorH Go.RowKit Go.Proofs.YtgfkbijmchoolaaDoorW.PrintWords Go.Proofs.YtgfkbijmchoolaaDoorW.PrintLast Go.Proofs.YtgfkbijmchoolaaDoorW.PrintMore
set_option linter.unusedVariables false
set_option linter.unusedSimpArgs false
theorem same_from (a : List Int) (hl : a.length ≤ 70000) (d : Nat) : ∀ (i k : Nat), i ≤ a.length → a.length - i = d → d < k → selvedgekit_SameInts.l0 k a a (i : Int) = some true := by
  induction d with
  | zero =>
    intro i k hi hd hk
    obtain ⟨k, rfl⟩ : ∃ m, k = m + 1 := ⟨k - 1, by omega⟩
    simp only [selvedgekit_SameInts.l0]
    rw [if_neg (by omega)]
  | succ d ih =>
    intro i k hi hd hk
    obtain ⟨k, rfl⟩ : ∃ m, k = m + 1 := ⟨k - 1, by omega⟩
    have hw : wrap64 ((i : Int) + 1) = ((i + 1 : Nat) : Int) := by unfold wrap64; omega
    simp only [selvedgekit_SameInts.l0]
    rw [if_pos (by omega), if_pos (by omega), if_pos (by omega), if_pos trivial, hw]
    exact ih (i + 1) k (by omega) (by omega) (by omega)
theorem same_ints (a b : List Int) (h : a = b) (hl : a.length ≤ 70000) (k : Nat) (hk : 80000 ≤ k) : selvedgekit_SameInts.f k a b = some true := by
  subst h
  unfold selvedgekit_SameInts.f
  rw [if_pos rfl]
  exact same_from a hl a.length 0 k (by omega) rfl (by omega)
theorem tmod2 {x : Int} (h : 0 ≤ x) : (Int.tmod x 2 = 1 ↔ x % 2 = 1) := by rw [Int.tmod_eq_emod_of_nonneg h]
theorem odd_odd (lev : List Int) (h : ∀ x ∈ lev, 0 ≤ x) : oddOf lev % 2 = 1 := by
  rcases (odd_le lev).2.2 with e | ⟨h1, h2⟩
  · rw [e]; decide
  · exact (tmod2 (h _ h1)).1 h2
theorem vis_two (lev : List Int) (h : ∀ x ∈ lev, 0 ≤ x ∧ x ≤ 124) : visOf (lev.map (· + 2)) = visOf lev := by
  have h0 : ∀ x ∈ lev, 0 ≤ x := fun x hx => (h x hx).1
  obtain ⟨a1, a2, a3⟩ := odd_le lev
  obtain ⟨b1, b2, b3⟩ := odd_le (lev.map (· + 2))
  have hcase : (oddOf lev = 127 ∧ oddOf (lev.map (· + 2)) = 127) ∨ (oddOf lev ≤ 124 ∧ 0 ≤ oddOf lev ∧ oddOf (lev.map (· + 2)) = oddOf lev + 2) := by
    have back : oddOf (lev.map (· + 2)) ∈ lev.map (· + 2) → Int.tmod (oddOf (lev.map (· + 2))) 2 = 1 → oddOf lev ≤ oddOf (lev.map (· + 2)) - 2 ∧ oddOf (lev.map (· + 2)) ≤ 126 := fun e1 e2 => by
      obtain ⟨x, hx, e⟩ := List.mem_map.1 e1
      have hx0 := h x hx
      have : Int.tmod x 2 = 1 := (tmod2 hx0.1).2 (by have := (tmod2 (x := oddOf (lev.map (· + 2))) (by omega)).1 e2; omega)
      have := a2 x hx this
      omega
    rcases a3 with e | ⟨e1, e2⟩
    · left
      refine ⟨e, ?_⟩
      rcases b3 with f | ⟨f1, f2⟩
      · exact f
      · have := back f1 f2; omega
    · right
      have hx0 := h _ e1
      have := b2 (oddOf lev + 2) (List.mem_map.2 ⟨_, e1, rfl⟩) ((tmod2 (by omega)).2 (by have := (tmod2 hx0.1).1 e2; omega))
      refine ⟨hx0.2, hx0.1, ?_⟩
      rcases b3 with f | ⟨f1, f2⟩
      · omega
      · have := back f1 f2; omega
  unfold visOf
  rw [List.length_map]
  rcases hcase with ⟨e1, e2⟩ | ⟨e1, e3, e2⟩
  · rw [e1, e2]; rfl
  · rw [e2]
    have s1 := passes_shift lev 2 (127 - (oddOf lev + 2)).toNat 124 (iota lev.length)
    have s2 := passes_skip lev (127 - (oddOf lev + 2)).toNat 124 (iota lev.length) (fun x hx => (h x hx).2) 2
    rw [show (124 : Int) + 2 = 126 by omega] at s1
    rw [s1, ← s2, show 2 + (127 - (oddOf lev + 2)).toNat = (127 - oddOf lev).toNat by omega]
    rfl
theorem vis_one (lev : List Int) (h : ∀ x ∈ lev, 0 ≤ x ∧ x ≤ 125) : visOf lev = (visOf (lev.map (· + 1))).reverse := by
  have h0 : ∀ x ∈ lev, 0 ≤ x := fun x hx => (h x hx).1
  obtain ⟨a1, a2, a3⟩ := odd_le lev
  obtain ⟨b1, b2, b3⟩ := odd_le (lev.map (· + 1))
  have p1 := odd_odd lev h0
  have p2 := odd_odd (lev.map (· + 1)) (fun x hx => by obtain ⟨y, hy, e⟩ := List.mem_map.1 hx; have := h0 y hy; omega)
  have q1 := odd_pos lev h0
  have q2 := odd_pos (lev.map (· + 1)) (fun x hx => by obtain ⟨y, hy, e⟩ := List.mem_map.1 hx; have := h0 y hy; omega)
  have ev : ∀ x ∈ lev, x % 2 = 0 → oddOf (lev.map (· + 1)) ≤ x + 1 := fun x hx he => by
    have := h0 x hx
    exact b2 (x + 1) (List.mem_map.2 ⟨x, hx, rfl⟩) ((tmod2 (by omega)).2 (by omega))
  have od : ∀ x ∈ lev, x % 2 = 1 → oddOf lev ≤ x := fun x hx he => a2 x hx ((tmod2 (h0 x hx)).2 he)
  have hB : visOf (lev.map (· + 1)) = passes lev (128 - oddOf (lev.map (· + 1))).toNat 126 (iota lev.length) := by
    unfold visOf
    rw [List.length_map]
    have s1 := passes_shift lev 1 (127 - oddOf (lev.map (· + 1))).toNat 125 (iota lev.length)
    have s2 := passes_skip lev (127 - oddOf (lev.map (· + 1))).toNat 125 (iota lev.length) (fun x hx => (h x hx).2) 1
    rw [show (125 : Int) + 1 = 126 by omega] at s1
    rw [s1, ← s2, show 1 + (127 - oddOf (lev.map (· + 1))).toNat = (128 - oddOf (lev.map (· + 1))).toNat by omega]
    rfl
  rw [hB]
  unfold visOf
  generalize oddOf (lev.map (· + 1)) = e' at *
  generalize oddOf lev = o at *
  clear hB a2 a3 b2 b3
  have hi := length_iota lev.length
  by_cases hc : o < e'
  · have hc2 : o < e' - 1 := by omega
    obtain ⟨t, ht⟩ : ∃ t : Nat, e' - 1 - o = 2 * t + 1 := ⟨((e' - 2 - o) / 2).toNat, by omega⟩
    have hmin : ∀ x ∈ lev, o ≤ x := fun x hx => by
      by_cases hp : x % 2 = 1
      · exact od x hx hp
      · have := ev x hx (by omega); omega
    rw [show (127 - o).toNat = (128 - e').toNat + (2 * t + 1) by omega, passes_add, show (126 : Int) - (((128 - e').toNat : Nat) : Int) = o + 2 * (t : Int) by omega]
    refine passes_back lev o hmin t _ (length_passes lev _ _ _ hi) (fun x hx s hs e => ?_)
    have := ev x hx (by omega)
    omega
  · have hc2 : e' - 1 < o := by omega
    obtain ⟨t, ht⟩ : ∃ t : Nat, o - (e' - 1) = 2 * t + 1 := ⟨((o - e') / 2).toNat, by omega⟩
    have hmin : ∀ x ∈ lev, e' - 1 ≤ x := fun x hx => by
      by_cases hp : x % 2 = 1
      · have := od x hx hp; omega
      · have := ev x hx (by omega); omega
    rw [show (128 - e').toNat = (127 - o).toNat + (2 * t + 1) by omega, passes_add, show (126 : Int) - (((127 - o).toNat : Nat) : Int) = (e' - 1) + 2 * (t : Int) by omega]
    rw [passes_back lev (e' - 1) hmin t _ (length_passes lev _ _ _ hi) (fun x hx s hs e => by have := od x hx (by omega); omega), List.reverse_reverse]
def Adj (n p : Nat) (out : List Int) (s : Bool) : Prop := ∃ q : Nat, q + 1 < n ∧ if s = true then rd out (q : Int) = (p : Int) ∧ rd out ((q + 1 : Nat) : Int) = ((p + 1 : Nat) : Int) else rd out (q : Int) = ((p + 1 : Nat) : Int) ∧ rd out ((q + 1 : Nat) : Int) = (p : Int)
theorem adj_pass (lev : List Int) (v L : Int) (p : Nat) (h1 : rd lev (p : Int) = L) (h2 : rd lev ((p + 1 : Nat) : Int) = L) (out : List Int) (s : Bool) (hi : Inv lev v out) (ha : Adj lev.length p out s) :
    Adj lev.length p (passAll lev v out) (if v ≤ L then !s else s) := by
  obtain ⟨q, hq, hs⟩ := ha
  have e1 : rd lev (rd out (q : Int)) = L := by
    cases s with
    | true => rw [if_pos rfl] at hs; rw [hs.1]; exact h1
    | false => rw [if_neg (by decide)] at hs; rw [hs.1]; exact h2
  have e2 : rd lev (rd out ((q + 1 : Nat) : Int)) = L := by
    cases s with
    | true => rw [if_pos rfl] at hs; rw [hs.2]; exact h2
    | false => rw [if_neg (by decide)] at hs; rw [hs.2]; exact h1
  have i1 := (hi.2 q (by omega)).2.2 v (by omega)
  have i2 := (hi.2 (q + 1) hq).2.2 v (by omega)
  rw [e1] at i1
  rw [e2] at i2
  by_cases hv : v ≤ L
  · rw [if_pos hv]
    obtain ⟨q', g1, g2, g3⟩ := pass_pair lev v lev.length 0 out q (by omega) hi.1 (by omega) hq (i1.1 hv) (i2.1 hv)
    refine ⟨q', g1, ?_⟩
    unfold passAll
    rw [g2, g3]
    cases s with
    | true => rw [if_pos rfl] at hs; exact ⟨hs.2, hs.1⟩
    | false => rw [if_neg (by decide)] at hs; exact ⟨hs.2, hs.1⟩
  · rw [if_neg hv]
    refine ⟨q, hq, ?_⟩
    have l1 : rd lev (q : Int) < v := by
      by_cases hc : v ≤ rd lev (q : Int)
      · exact absurd (i1.2 hc) hv
      · omega
    have l2 : rd lev ((q + 1 : Nat) : Int) < v := by
      by_cases hc : v ≤ rd lev ((q + 1 : Nat) : Int)
      · exact absurd (i2.2 hc) hv
      · omega
    unfold passAll
    rw [pass_low lev v _ _ out q hi.1 (by omega) l1, pass_low lev v _ _ out (q + 1) hi.1 hq l2]
    exact hs
theorem adj_passes (lev : List Int) (v L : Int) (p : Nat) (h1 : rd lev (p : Int) = L) (h2 : rd lev ((p + 1 : Nat) : Int) = L) (hL : L ≤ v) (out : List Int) (hi : Inv lev v out) (ha : Adj lev.length p out true) : ∀ c : Nat,
    Inv lev (v - c) (passes lev c v out) ∧ Adj lev.length p (passes lev c v out) (decide ((L - (v - c)).toNat % 2 = 0))
  | 0 => by
    rw [show v - ((0 : Nat) : Int) = v by omega, show (L - v).toNat = 0 by omega]
    exact ⟨hi, ha⟩
  | c + 1 => by
    obtain ⟨j1, j2⟩ := adj_passes lev v L p h1 h2 hL out hi ha c
    have e : passes lev (c + 1) v out = passAll lev (v - c) (passes lev c v out) := by rw [passes_add lev c 1]; rfl
    rw [e]
    refine ⟨by rw [show v - ((c + 1 : Nat) : Int) = v - (c : Int) - 1 by omega]; exact inv_down (inv_pass _ _ _ j1), ?_⟩
    have := adj_pass lev (v - c) L p h1 h2 _ _ j1 j2
    by_cases hv : v - (c : Int) ≤ L
    · rw [if_pos hv] at this
      have e2 : decide ((L - (v - ((c + 1 : Nat) : Int))).toNat % 2 = 0) = !decide ((L - (v - (c : Int))).toNat % 2 = 0) := by
        rw [show (L - (v - ((c + 1 : Nat) : Int))).toNat = (L - (v - (c : Int))).toNat + 1 by omega]
        by_cases hm : (L - (v - (c : Int))).toNat % 2 = 0
        · rw [decide_eq_true hm, decide_eq_false (by omega)]; rfl
        · rw [decide_eq_false hm, decide_eq_true (by omega)]; rfl
      rw [e2]; exact this
    · rw [if_neg hv] at this
      rw [show (L - (v - ((c + 1 : Nat) : Int))).toNat = (L - (v - (c : Int))).toNat by omega]
      exact this
theorem vis_adj (lev : List Int) (h : ∀ x ∈ lev, 0 ≤ x ∧ x ≤ 126) (p : Nat) (hp : p + 1 < lev.length) (he : rd lev (p : Int) = rd lev ((p + 1 : Nat) : Int)) : Adj lev.length p (visOf lev) (decide (rd lev (p : Int) % 2 = 0)) := by
  have hm : rd lev (p : Int) ∈ lev := by rw [rd_get lev p (by omega)]; exact List.getElem_mem _
  have hL := h _ hm
  have h0 : ∀ x ∈ lev, 0 ≤ x := fun x hx => (h x hx).1
  have ha : Adj lev.length p (iota lev.length) true := ⟨p, hp, by rw [if_pos rfl, rd_iota _ _ (by omega), rd_iota _ _ hp]; exact ⟨rfl, rfl⟩⟩
  have := (adj_passes lev 126 (rd lev (p : Int)) p rfl he.symm hL.2 _ (inv_iota lev 126) ha (127 - oddOf lev).toNat).2
  have po := odd_odd lev h0
  have pp := odd_pos lev h0
  obtain ⟨a1, a2, a3⟩ := odd_le lev
  have e : decide ((rd lev (p : Int) - (126 - ((127 - oddOf lev).toNat : Int))).toNat % 2 = 0) = decide (rd lev (p : Int) % 2 = 0) := by
    by_cases ho : rd lev (p : Int) % 2 = 1
    · have := a2 _ hm ((tmod2 hL.1).2 ho)
      rw [decide_eq_false (by omega), decide_eq_false (by omega)]
    · rw [decide_eq_true (by omega), decide_eq_true (by omega)]
  rw [e] at this
  exact this
theorem vis_perm (lev : List Int) : (visOf lev).Perm (iota lev.length) := passes_perm lev _ _ _
theorem iota_nodup (n : Nat) : (iota n).Nodup := by
  unfold iota
  rw [List.nodup_iff_pairwise_ne, List.pairwise_map]
  exact List.nodup_range.imp (fun h e => h (by omega))
theorem vis_range (lev : List Int) (i : Nat) (hi : i < lev.length) : 0 ≤ rd (visOf lev) (i : Int) ∧ rd (visOf lev) (i : Int) < (lev.length : Int) := by
  have hl := length_visOf lev
  have hm : rd (visOf lev) (i : Int) ∈ visOf lev := by rw [rd_get _ i (by omega)]; exact List.getElem_mem _
  have := (vis_perm lev).mem_iff.1 hm
  unfold iota at this
  obtain ⟨m, h1, h2⟩ := List.mem_map.1 this
  rw [List.mem_range] at h1
  omega
theorem vis_inj (lev : List Int) (i j : Nat) (hi : i < lev.length) (hj : j < lev.length) (h : rd (visOf lev) (i : Int) = rd (visOf lev) (j : Int)) : i = j := by
  have hl := length_visOf lev
  have hn : (visOf lev).Nodup := (vis_perm lev).nodup_iff.2 (iota_nodup _)
  rw [rd_get _ i (by omega), rd_get _ j (by omega)] at h
  have hp := List.pairwise_iff_getElem.1 hn
  rcases Nat.lt_trichotomy i j with e | e | e
  · exact absurd h (hp i j (by omega) (by omega) e)
  · exact e
  · exact absurd h.symm (hp j i (by omega) (by omega) e)
theorem rd_set (xs : List Int) (a p : Nat) (x : Int) (h : a < xs.length) : rd (xs.set a x) (p : Int) = if a = p then x else rd xs (p : Int) := by
  rw [rd_getD, rd_getD, List.getElem?_set]
  by_cases e : a = p
  · rw [if_pos e, if_pos e, if_pos h]; rfl
  · rw [if_neg e, if_neg e]
theorem log_l0 (a : List Int) (hb : a.length ≤ 65536) (R : Option (List Int × Int)) (K : Nat) (hR : ∀ k', K ≤ k' → order_Logical.l1 k' (List.replicate a.length (-1)) a (a.length : Int) 0 = R) (d : Nat) : ∀ (i k : Nat), i ≤ a.length → a.length - i = d → K + d + 1 ≤ k →
    order_Logical.l0 k a (List.replicate i (-1) ++ List.replicate (a.length - i) 0) (a.length : Int) (i : Int) = R := by
  induction d with
  | zero =>
    intro i k hi hd hk
    obtain ⟨k, rfl⟩ : ∃ m, k = m + 1 := ⟨k - 1, by omega⟩
    obtain rfl : i = a.length := by omega
    simp only [order_Logical.l0]
    rw [if_neg (by omega), Nat.sub_self, List.replicate_zero, List.append_nil]
    exact hR k (by omega)
  | succ d ih =>
    intro i k hi hd hk
    obtain ⟨k, rfl⟩ : ∃ m, k = m + 1 := ⟨k - 1, by omega⟩
    have hw : wrap64 ((i : Int) + 1) = ((i + 1 : Nat) : Int) := by unfold wrap64; omega
    have hset : (List.replicate i (-1 : Int) ++ List.replicate (a.length - i) 0).set i (-1) = List.replicate (i + 1) (-1) ++ List.replicate (a.length - (i + 1)) 0 := by
      rw [List.set_append_right _ _ (by rw [List.length_replicate]; omega), List.length_replicate, Nat.sub_self, show a.length - i = (a.length - (i + 1)) + 1 by omega, List.replicate_succ, List.replicate_succ', List.append_assoc]
      rfl
    have hl : (List.replicate i (-1 : Int) ++ List.replicate (a.length - i) 0).length = a.length := by rw [List.length_append, List.length_replicate, List.length_replicate]; omega
    simp only [order_Logical.l0]
    rw [if_pos (by omega), if_pos (by omega), if_pos (by omega), Int.toNat_natCast, hset, hw]
    exact ih (i + 1) k (by omega) (by omega) (by omega)
theorem log_start (a : List Int) (hb : a.length ≤ 65536) (R : Option (List Int × Int)) (K : Nat) (hR : ∀ k', K ≤ k' → order_Logical.l1 k' (List.replicate a.length (-1)) a (a.length : Int) 0 = R) (k : Nat) (hk : K + 65537 ≤ k) : order_Logical.f k a = R := by
  unfold order_Logical.f
  rw [if_neg (by omega), if_pos (by omega), if_pos (by omega)]
  simp only [Option.bind_some, List.length_replicate, Int.toNat_natCast]
  exact log_l0 a hb R K hR a.length 0 k (by omega) rfl (by omega)
theorem log_perm (a : List Int) (hb : a.length ≤ 65536) (h1 : ∀ i : Nat, i < a.length → 0 ≤ rd a (i : Int) ∧ rd a (i : Int) < (a.length : Int)) (h2 : ∀ i j : Nat, i < a.length → j < a.length → rd a (i : Int) = rd a (j : Int) → i = j) (d : Nat) : ∀ (i k : Nat) (x4 : List Int), i ≤ a.length → a.length - i = d → d < k → x4.length = a.length →
    (∀ j : Nat, j < i → rd x4 (rd a (j : Int)) = (j : Int)) → (∀ u : Nat, u < a.length → (∀ j : Nat, j < i → rd a (j : Int) ≠ (u : Int)) → rd x4 (u : Int) = -1) →
    ∃ y : List Int, order_Logical.l1 k x4 a (a.length : Int) (i : Int) = some (y, 0) ∧ y.length = a.length ∧ ∀ j : Nat, j < a.length → rd y (rd a (j : Int)) = (j : Int) := by
  induction d with
  | zero =>
    intro i k x4 hi hd hk hl q1 q2
    obtain ⟨k, rfl⟩ : ∃ m, k = m + 1 := ⟨k - 1, by omega⟩
    refine ⟨x4, ?_, hl, fun j hj => q1 j (by omega)⟩
    simp only [order_Logical.l1]
    rw [if_neg (by omega)]
  | succ d ih =>
    intro i k x4 hi hd hk hl q1 q2
    obtain ⟨k, rfl⟩ : ∃ m, k = m + 1 := ⟨k - 1, by omega⟩
    have hw : wrap64 ((i : Int) + 1) = ((i + 1 : Nat) : Int) := by unfold wrap64; omega
    obtain ⟨r1, r2⟩ := h1 i (by omega)
    obtain ⟨u, hu⟩ : ∃ u : Nat, rd a (i : Int) = (u : Int) := ⟨(rd a (i : Int)).toNat, by omega⟩
    have hun : rd x4 (u : Int) = -1 := q2 u (by omega) (fun j hj e => by have := h2 j i (by omega) (by omega) (by rw [e, hu]); omega)
    simp only [order_Logical.l1]
    rw [if_pos (by omega), if_pos (by omega), if_pos (by omega), hu, if_neg (by omega), if_neg (by omega), if_pos (by omega), if_pos (by omega), hun, if_neg (by decide), hw, Int.toNat_natCast]
    refine ih (i + 1) k _ (by omega) (by omega) (by omega) (by rw [List.length_set]; exact hl) (fun j hj => ?_) (fun w hw1 hw2 => ?_)
    · by_cases e : j = i
      · subst e; rw [hu, rd_set x4 u u _ (by omega), if_pos rfl]
      · obtain ⟨s1, s2⟩ := h1 j (by omega)
        obtain ⟨w, hw'⟩ : ∃ w : Nat, rd a (j : Int) = (w : Int) := ⟨(rd a (j : Int)).toNat, by omega⟩
        have hne : ¬ u = w := fun e2 => e (h2 j i (by omega) (by omega) (by rw [hu, hw', e2]))
        have := q1 j (by omega)
        rw [hw'] at this ⊢
        rw [rd_set x4 u w _ (by omega), if_neg hne]
        exact this
    · have hne : ¬ u = w := fun e2 => hw2 i (by omega) (by rw [hu, e2])
      rw [rd_set x4 u w _ (by omega), if_neg hne]
      exact q2 w hw1 (fun j hj => hw2 j (by omega))
theorem logical_vis (lev : List Int) (hb : lev.length ≤ 65536) : ∃ y : List Int, y.length = lev.length ∧ (∀ j : Nat, j < lev.length → rd y (rd (visOf lev) (j : Int)) = (j : Int)) ∧ ∀ k, 200000 ≤ k → order_Logical.f k (visOf lev) = some (y, 0) := by
  have hl := length_visOf lev
  have hrep : ∀ u : Nat, u < lev.length → rd (List.replicate (visOf lev).length (-1 : Int)) (u : Int) = -1 := fun u hu => by
    rw [rd_getD, List.getElem?_replicate, if_pos (by omega)]; rfl
  have hg : ∀ k, 70000 ≤ k → ∃ y : List Int, order_Logical.l1 k (List.replicate (visOf lev).length (-1)) (visOf lev) ((visOf lev).length : Int) ((0 : Nat) : Int) = some (y, 0) ∧ y.length = (visOf lev).length ∧ ∀ j : Nat, j < (visOf lev).length → rd y (rd (visOf lev) (j : Int)) = (j : Int) := fun k hk =>
    log_perm (visOf lev) (by omega) (fun i hi => by rw [hl] at hi ⊢; exact vis_range lev i hi) (fun i j hi hj e => vis_inj lev i j (by omega) (by omega) e) (visOf lev).length 0 k _ (by omega) rfl (by omega) List.length_replicate (fun j hj => by omega) (fun u hu _ => hrep u (by omega))
  obtain ⟨y, y1, y2, y3⟩ := hg 70000 (Nat.le_refl _)
  refine ⟨y, by omega, fun j hj => y3 j (by omega), fun k hk => log_start _ (by omega) _ 70000 (fun k' hk' => ?_) k (by omega)⟩
  exact up (f := fun k => order_Logical.l1 k (List.replicate (visOf lev).length (-1)) (visOf lev) ((visOf lev).length : Int) 0) (fun k => (order_Logical.mono_l k).2 _ _ _ _) y1 hk'
end Go.Proofs.YtgfkbijmchoolaaDoor.Ord

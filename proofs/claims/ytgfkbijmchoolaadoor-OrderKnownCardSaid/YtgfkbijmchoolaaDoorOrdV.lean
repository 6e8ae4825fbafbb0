import Derived.Test.YtgfkbijmchoolaaDoorP3
import Derived.Test.YtgfkbijmchoolaaDoorOrd
namespace Go.Proofs.YtgfkbijmchoolaaDoor.Ord
open Go.Proofs.YtgfkbijmchoolaaDoor.P Go.Proofs.YtgfkbijmchoolaaDoorH Go.RowKit Go.Proofs.YtgfkbijmchoolaaDoorW.PrintWords Go.Proofs.YtgfkbijmchoolaaDoorW.PrintLast Go.Proofs.YtgfkbijmchoolaaDoorW.PrintMore
set_option linter.unusedVariables false
set_option linter.unusedSimpArgs false
def runLen (v : Int) : List Int → Nat
  | [] => 0
  | x :: l => if x ≥ v then runLen v l + 1 else 0
theorem runLen_le (v : Int) : ∀ l, runLen v l ≤ l.length
  | [] => Nat.le_refl _
  | x :: l => by simp only [runLen, List.length_cons]; have := runLen_le v l; split <;> omega
def pass (lev : List Int) (v : Int) : Nat → Nat → List Int → List Int
  | 0, _, out => out
  | d + 1, i, out => if i < lev.length then pass lev v d (i + runLen v (lev.drop i) + 1) (revPart out i (i + runLen v (lev.drop i))) else out
def passAll (lev : List Int) (v : Int) (out : List Int) : List Int := pass lev v lev.length 0 out
def passes (lev : List Int) : Nat → Int → List Int → List Int
  | 0, _, out => out
  | c + 1, v, out => passes lev c (v - 1) (passAll lev v out)
def iota (n : Nat) : List Int := (List.range n).map fun (m : Nat) => (m : Int)
def oddStep (m x : Int) : Int := if Int.tmod x 2 = 1 then mn m x else m
def oddOf (lev : List Int) : Int := lev.foldl oddStep 127
def highOf (lev : List Int) : Int := lev.foldl mx 0
def visOf (lev : List Int) : List Int := passes lev (127 - oddOf lev).toNat 126 (iota lev.length)
theorem drop_len (lev : List Int) (v : Int) (i : Nat) (h : i ≤ lev.length) : i + runLen v (lev.drop i) ≤ lev.length := by
  have := runLen_le v (lev.drop i); rw [List.length_drop] at this; omega
theorem length_pass (lev : List Int) (v : Int) : ∀ (d i : Nat) (out : List Int), out.length = lev.length → (pass lev v d i out).length = lev.length
  | 0, _, _, h => h
  | d + 1, i, out, h => by
    simp only [pass]
    by_cases hi : i < lev.length
    · rw [if_pos hi]
      have := drop_len lev v i (by omega)
      exact length_pass lev v d _ _ (by rw [length_revPart out _ _ (by omega) (by omega)]; exact h)
    · rw [if_neg hi]; exact h
theorem length_passAll (lev : List Int) (v : Int) (out : List Int) (h : out.length = lev.length) : (passAll lev v out).length = lev.length := length_pass lev v _ _ out h
theorem length_passes (lev : List Int) : ∀ (c : Nat) (v : Int) (out : List Int), out.length = lev.length → (passes lev c v out).length = lev.length
  | 0, _, _, h => h
  | c + 1, v, out, h => length_passes lev c (v - 1) _ (length_passAll lev v out h)
theorem length_iota (n : Nat) : (iota n).length = n := by simp [iota]
theorem length_visOf (lev : List Int) : (visOf lev).length = lev.length := length_passes lev _ _ _ (length_iota _)
theorem runLen_zero (v : Int) (l : List Int) (h : ∀ x ∈ l, x < v) : runLen v l = 0 := by
  cases l with
  | nil => rfl
  | cons x l => simp only [runLen]; rw [if_neg (by have := h x List.mem_cons_self; omega)]
theorem pass_idle (lev : List Int) (v : Int) (h : ∀ x ∈ lev, x < v) : ∀ (d i : Nat) (out : List Int), pass lev v d i out = out
  | 0, _, _ => rfl
  | d + 1, i, out => by
    simp only [pass]
    have h0 : runLen v (lev.drop i) = 0 := runLen_zero v _ fun x hx => h x (List.mem_of_mem_drop hx)
    by_cases hi : i < lev.length
    · rw [if_pos hi, h0, pass_idle lev v h d, revPart_none _ _ _ (by omega) (by omega)]
    · rw [if_neg hi]
theorem passes_idle (lev : List Int) : ∀ (c : Nat) (v : Int) (out : List Int), (∀ x ∈ lev, x ≤ v - c) → passes lev c v out = out
  | 0, _, _, _ => rfl
  | c + 1, v, out, h => by
    simp only [passes]
    have e : passAll lev v out = out := pass_idle lev v (fun x hx => by have := h x hx; omega) _ _ _
    rw [e]
    exact passes_idle lev c (v - 1) out (fun x hx => by have := h x hx; omega)
theorem passes_skip (lev : List Int) (c : Nat) (v : Int) (out : List Int) (h : ∀ x ∈ lev, x ≤ v) : ∀ a : Nat, passes lev (a + c) (v + a) out = passes lev c v out
  | 0 => by simp
  | a + 1 => by
    rw [show a + 1 + c = (a + c) + 1 by omega]
    simp only [passes]
    have e : passAll lev (v + ((a + 1 : Nat) : Int)) out = out := pass_idle lev _ (fun x hx => by have := h x hx; omega) _ _ _
    rw [e, show v + ((a + 1 : Nat) : Int) - 1 = v + (a : Int) by omega]
    exact passes_skip lev c v out h a
theorem foldl_mx_ge (l : List Int) : ∀ m : Int, m ≤ l.foldl mx m ∧ (∀ x ∈ l, x ≤ l.foldl mx m) ∧ (l.foldl mx m = m ∨ l.foldl mx m ∈ l) := by
  induction l with
  | nil => intro m; simp
  | cons a l ih =>
    intro m
    obtain ⟨h1, h2, h3⟩ := ih (mx m a)
    have hm : m ≤ mx m a ∧ a ≤ mx m a ∧ (mx m a = m ∨ mx m a = a) := by unfold mx; split <;> omega
    rw [List.foldl_cons]
    refine ⟨by omega, fun x hx => ?_, ?_⟩
    · rcases List.mem_cons.1 hx with rfl | hx
      · omega
      · exact h2 x hx
    · rcases h3 with h3 | h3
      · rcases hm.2.2 with e | e
        · exact .inl (h3.trans e)
        · exact .inr (by rw [h3, e]; exact List.mem_cons_self)
      · exact .inr (List.mem_cons_of_mem _ h3)
theorem foldl_odd (l : List Int) : ∀ m : Int, l.foldl oddStep m ≤ m ∧ (∀ x ∈ l, Int.tmod x 2 = 1 → l.foldl oddStep m ≤ x) ∧ (l.foldl oddStep m = m ∨ (l.foldl oddStep m ∈ l ∧ Int.tmod (l.foldl oddStep m) 2 = 1)) := by
  induction l with
  | nil => intro m; simp
  | cons a l ih =>
    intro m
    obtain ⟨h1, h2, h3⟩ := ih (oddStep m a)
    have hm : oddStep m a ≤ m ∧ (Int.tmod a 2 = 1 → oddStep m a ≤ a) ∧ (oddStep m a = m ∨ (oddStep m a = a ∧ Int.tmod a 2 = 1)) := by
      unfold oddStep mn
      by_cases h : Int.tmod a 2 = 1
      · rw [if_pos h]; split <;> simp [h] <;> omega
      · rw [if_neg h]; simp [h]
    rw [List.foldl_cons]
    refine ⟨by omega, fun x hx ho => ?_, ?_⟩
    · rcases List.mem_cons.1 hx with rfl | hx
      · have := hm.2.1 ho; omega
      · exact h2 x hx ho
    · rcases h3 with h3 | ⟨h3, h4⟩
      · rcases hm.2.2 with e | ⟨e, e2⟩
        · exact .inl (h3.trans e)
        · exact .inr (by rw [h3, e]; exact ⟨List.mem_cons_self, e2⟩)
      · exact .inr ⟨List.mem_cons_of_mem _ h3, h4⟩
theorem high_ge (lev : List Int) : 0 ≤ highOf lev ∧ (∀ x ∈ lev, x ≤ highOf lev) ∧ (highOf lev = 0 ∨ highOf lev ∈ lev) := foldl_mx_ge lev 0
theorem odd_le (lev : List Int) : oddOf lev ≤ 127 ∧ (∀ x ∈ lev, Int.tmod x 2 = 1 → oddOf lev ≤ x) ∧ (oddOf lev = 127 ∨ (oddOf lev ∈ lev ∧ Int.tmod (oddOf lev) 2 = 1)) := foldl_odd lev 127
theorem odd_pos (lev : List Int) (h : ∀ x ∈ lev, 0 ≤ x) : 1 ≤ oddOf lev := by
  rcases (odd_le lev).2.2 with e | ⟨h1, h2⟩
  · omega
  · have := h _ h1
    by_cases h0 : oddOf lev = 0
    · rw [h0] at h2; cases h2
    · omega
theorem vis_l3 (lev x5 : List Int) (x7 v : Int) (i : Nat) (R : Option (List Int × Int)) (K : Nat) (hlen : x5.length = lev.length) (hb : lev.length ≤ 65536) (d : Nat) : ∀ (j k : Nat), lev.length - j = d → i ≤ j → j ≤ lev.length → K + d + 1 ≤ k →
    (∀ k', K ≤ k' → order_Visual.l2 k' lev (revPart x5 i (j + runLen v (lev.drop j))) x7 v ((j + runLen v (lev.drop j) + 1 : Nat) : Int) = R) →
    order_Visual.l3 k lev x5 x7 v (i : Int) (j : Int) = R := by
  induction d with
  | zero =>
    intro j k hd hij hj hk hR
    obtain ⟨k, rfl⟩ : ∃ m, k = m + 1 := ⟨k - 1, by omega⟩
    have hw : wrap64 ((j : Int) + 1) = ((j + 1 : Nat) : Int) := by unfold wrap64; omega
    have := hR k (by omega)
    rw [List.drop_eq_nil_of_le (by omega)] at this
    simp only [runLen, Nat.add_zero] at this
    simp only [order_Visual.l3]
    rw [if_neg (by omega), if_pos (by omega), if_pos (by omega), if_pos (by omega), hw, Int.toNat_natCast, Int.toNat_natCast]
    exact this
  | succ d ih =>
    intro j k hd hij hj hk hR
    obtain ⟨k, rfl⟩ : ∃ m, k = m + 1 := ⟨k - 1, by omega⟩
    have hlt : j < lev.length := by omega
    have g1 : (j : Int) < (lev.length : Int) := Int.ofNat_lt.2 hlt
    have g2 : 0 ≤ (j : Int) := Int.natCast_nonneg _
    have hw : wrap64 ((j : Int) + 1) = ((j + 1 : Nat) : Int) := by unfold wrap64; omega
    rw [List.drop_eq_getElem_cons hlt] at hR
    simp only [order_Visual.l3]
    rw [if_pos g1, if_pos g2, rd_get lev j hlt]
    by_cases hv : lev[j] ≥ v
    · rw [if_pos hv, hw]
      refine ih (j + 1) k (by omega) (by omega) (by omega) (by omega) (fun k' hk' => ?_)
      have := hR k' hk'
      simp only [runLen] at this
      rw [if_pos hv] at this
      rw [show j + 1 + runLen v (lev.drop (j + 1)) = j + (runLen v (lev.drop (j + 1)) + 1) by omega]
      exact this
    · have := hR k (by omega)
      simp only [runLen] at this
      rw [if_neg hv] at this
      rw [if_neg hv, if_pos (by omega), if_pos (by omega), if_pos (by omega), hw, Int.toNat_natCast, Int.toNat_natCast]
      exact this
theorem vis_l2 (lev : List Int) (x7 v : Int) (R : Option (List Int × Int)) (K : Nat) (hb : lev.length ≤ 65536) (d : Nat) : ∀ (i k : Nat) (x5 : List Int), x5.length = lev.length → lev.length ≤ i + d → K + (d + 1) * 70000 ≤ k →
    (∀ k', K ≤ k' → order_Visual.l1 k' lev (pass lev v d i x5) x7 ((v - 1) % 256) = R) →
    order_Visual.l2 k lev x5 x7 v (i : Int) = R := by
  induction d with
  | zero =>
    intro i k x5 hlen hd hk hR
    obtain ⟨k, rfl⟩ : ∃ m, k = m + 1 := ⟨k - 1, by omega⟩
    simp only [order_Visual.l2]
    rw [if_neg (by omega)]
    exact hR k (by omega)
  | succ d ih =>
    intro i k x5 hlen hd hk hR
    obtain ⟨k, rfl⟩ : ∃ m, k = m + 1 := ⟨k - 1, by omega⟩
    simp only [order_Visual.l2]
    simp only [pass] at hR
    by_cases hi : i < lev.length
    · rw [if_pos (by omega)]
      rw [if_pos hi] at hR
      have hr := drop_len lev v i (by omega)
      refine vis_l3 lev x5 x7 v i R (K + (d + 1) * 70000) hlen hb (lev.length - i) i k rfl (Nat.le_refl _) (by omega) (by omega) (fun k' hk' => ?_)
      exact ih _ k' _ (by rw [length_revPart x5 _ _ (by omega) (by omega)]; exact hlen) (by omega) hk' hR
    · rw [if_neg (by omega)]
      rw [if_neg hi] at hR
      exact hR k (by omega)
theorem fuel1 (n c k : Nat) (h : n ≤ 65536) (hk : (c + 1 + 1) * 4900000000 ≤ k + 1) : (c + 1) * 4900000000 + (n + 1) * 70000 ≤ k := by
  have e : (c + 1 + 1) * 4900000000 = (c + 1) * 4900000000 + 4900000000 := by rw [Nat.add_mul (c + 1) 1, Nat.one_mul]
  have h2 : (n + 1) * 70000 ≤ 65537 * 70000 := Nat.mul_le_mul_right _ (Nat.succ_le_succ h)
  rw [e] at hk
  exact Nat.le_of_succ_le_succ (Nat.le_trans (Nat.succ_le_succ (Nat.add_le_add_left h2 _)) (Nat.le_trans (Nat.add_le_add_left (show 65537 * 70000 + 1 ≤ 4900000000 by decide) _) hk))
theorem vis_l1 (lev : List Int) (x7 : Int) (hb : lev.length ≤ 65536) (h7 : 1 ≤ x7) (c : Nat) : ∀ (v : Int) (k : Nat) (x5 : List Int), x5.length = lev.length → 0 ≤ v → v ≤ 255 → (v - x7 + 1).toNat = c → (c + 1) * 4900000000 ≤ k →
    order_Visual.l1 k lev x5 x7 v = some (passes lev c v x5, 0) := by
  induction c with
  | zero =>
    intro v k x5 hlen h0 h1 hc hk
    obtain ⟨k, rfl⟩ : ∃ m, k = m + 1 := ⟨k - 1, by omega⟩
    simp only [order_Visual.l1]
    rw [if_neg (by omega)]
    rfl
  | succ c ih =>
    intro v k x5 hlen h0 h1 hc hk
    obtain ⟨k, rfl⟩ : ∃ m, k = m + 1 := ⟨k - 1, by omega⟩
    simp only [order_Visual.l1]
    rw [if_pos (by omega)]
    have hm : (v - 1) % 256 = v - 1 := by omega
    refine vis_l2 lev x7 v _ ((c + 1) * 4900000000) hb lev.length 0 k x5 hlen (by omega) (fuel1 _ c k hb hk) (fun k' hk' => ?_)
    rw [hm]
    exact ih (v - 1) k' _ (length_passAll lev v x5 hlen) (by omega) (by omega) (by omega) hk'
theorem iota_succ (n : Nat) : iota (n + 1) = iota n ++ [(n : Int)] := by unfold iota; rw [List.range_succ, List.map_append]; rfl
theorem vis_l0 (lev : List Int) (hb : lev.length ≤ 65536) (h0 : ∀ x ∈ lev, 0 ≤ x ∧ x ≤ 126) (d : Nat) : ∀ (i k : Nat), i ≤ lev.length → lev.length - i = d → d + 4900000000000 ≤ k →
    order_Visual.l0 k lev (iota i ++ List.replicate (lev.length - i) 0) ((lev.take i).foldl mx 0) ((lev.take i).foldl oddStep 127) (lev.length : Int) (i : Int) = some (visOf lev, 0) := by
  induction d with
  | zero =>
    intro i k hi hd hk
    obtain ⟨k, rfl⟩ : ∃ m, k = m + 1 := ⟨k - 1, by omega⟩
    obtain rfl : i = lev.length := by omega
    simp only [order_Visual.l0]
    rw [if_neg (by omega), Nat.sub_self, List.replicate_zero, List.append_nil, List.take_length]
    change order_Visual.l1 k lev (iota lev.length) (oddOf lev) (highOf lev) = _
    obtain ⟨g1, g2, g3⟩ := high_ge lev
    obtain ⟨o1, o2, o3⟩ := odd_le lev
    have o4 := odd_pos lev (fun x hx => (h0 x hx).1)
    have g4 : highOf lev ≤ 126 := by
      rcases g3 with e | e
      · omega
      · exact (h0 _ e).2
    rw [vis_l1 lev (oddOf lev) hb o4 (highOf lev - oddOf lev + 1).toNat (highOf lev) k (iota lev.length) (length_iota _) g1 (by omega) rfl (by omega)]
    congr 2
    unfold visOf
    by_cases hho : oddOf lev ≤ highOf lev
    · have e := passes_skip lev (highOf lev - oddOf lev + 1).toNat (highOf lev) (iota lev.length) g2 (126 - highOf lev).toNat
      rw [show (126 - highOf lev).toNat + (highOf lev - oddOf lev + 1).toNat = (127 - oddOf lev).toNat by omega, show highOf lev + (((126 - highOf lev).toNat : Nat) : Int) = 126 by omega] at e
      exact e.symm
    · rw [show (highOf lev - oddOf lev + 1).toNat = 0 by omega]
      exact (passes_idle lev _ _ _ (fun x hx => by have := g2 x hx; omega)).symm
  | succ d ih =>
    intro i k hi hd hk
    obtain ⟨k, rfl⟩ : ∃ m, k = m + 1 := ⟨k - 1, by omega⟩
    have hlt : i < lev.length := by omega
    have hw : wrap64 ((i : Int) + 1) = ((i + 1 : Nat) : Int) := by unfold wrap64; omega
    have hset : (iota i ++ List.replicate (lev.length - i) 0).set i (i : Int) = iota (i + 1) ++ List.replicate (lev.length - (i + 1)) 0 := by
      rw [List.set_append_right _ _ (by rw [length_iota]; omega), length_iota, Nat.sub_self, show lev.length - i = (lev.length - (i + 1)) + 1 by omega, List.replicate_succ, iota_succ, List.append_assoc]
      rfl
    have hl : (iota i ++ List.replicate (lev.length - i) (0 : Int)).length = lev.length := by rw [List.length_append, length_iota, List.length_replicate]; omega
    have ih' := ih (i + 1) k (by omega) (by omega) (by omega)
    rw [(List.take_append_getElem hlt).symm, List.foldl_append, List.foldl_append] at ih'
    simp only [List.foldl_cons, List.foldl_nil] at ih'
    simp only [order_Visual.l0]
    rw [if_pos (by omega), if_pos (by omega), if_pos (by omega), Int.toNat_natCast, hset, hw, rd_get lev i hlt]
    simp only [Option.bind_some]
    rw [if_pos (by omega)]
    unfold oddStep at ih' ⊢
    by_cases ho : Int.tmod lev[i] 2 = 1
    · rw [if_pos ho] at ih' ⊢; exact ih'
    · rw [if_neg ho] at ih' ⊢; exact ih'
theorem right_zero' (l : List Int) : rightOf l = 0 ↔ l.length ≤ 65536 ∧ ∀ x ∈ l, x ≤ 126 := by
  unfold rightOf
  by_cases h1 : l.length > 65536
  · rw [if_pos h1]; constructor
    · intro h; cases h
    · intro h; omega
  · rw [if_neg h1]
    by_cases h2 : ∃ x ∈ l, x > 126
    · rw [if_pos h2]; constructor
      · intro h; cases h
      · intro h; obtain ⟨x, hx, h3⟩ := h2; have := h.2 x hx; omega
    · rw [if_neg h2]
      exact ⟨fun _ => ⟨by omega, fun x hx => by
        by_cases h3 : x ≤ 126
        · exact h3
        · exact absurd ⟨x, hx, by omega⟩ h2⟩, fun _ => rfl⟩
theorem visual_good (lev : List Int) (h : rightOf lev = 0) (h0 : ∀ x ∈ lev, 0 ≤ x) (k : Nat) (hk : 9800000000000 ≤ k) : order_Visual.f k lev = some (visOf lev, 0) := by
  obtain ⟨h1, h2⟩ := (right_zero' lev).1 h
  have k1 : 70000 ≤ k := Nat.le_trans (by decide) hk
  have k2 : lev.length + 4900000000000 ≤ k := Nat.le_trans (Nat.add_le_add_right h1 _) (Nat.le_trans (by decide) hk)
  have g1 : (0 : Int) ≤ (lev.length : Int) := Int.natCast_nonneg _
  have g2 : ((lev.length : Int) : Int).toNat ≤ 35184372088832 := by rw [Int.toNat_natCast]; exact Nat.le_trans h1 (by decide)
  clear hk
  unfold order_Visual.f
  rw [right_eq lev k k1]
  simp only [Option.bind_some]
  rw [if_pos h, if_pos g1, if_pos g2]
  simp only [Option.bind_some, List.length_replicate, Int.toNat_natCast]
  exact vis_l0 lev h1 (fun x hx => ⟨h0 x hx, h2 x hx⟩) lev.length 0 k (Nat.zero_le _) rfl k2
theorem visual_bad (lev : List Int) (h : rightOf lev ≠ 0) (k : Nat) (hk : 70000 ≤ k) : order_Visual.f k lev = some ([], rightOf lev) := by
  unfold order_Visual.f
  rw [right_eq lev k hk]
  simp only [Option.bind_some]
  rw [if_neg h]
end Go.Proofs.YtgfkbijmchoolaaDoor.Ord

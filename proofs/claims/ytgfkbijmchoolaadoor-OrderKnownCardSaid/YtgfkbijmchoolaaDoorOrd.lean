import Derived.Test.YtgfkbijmchoolaaDoorP5
namespace Go.Proofs.YtgfkbijmchoolaaDoor.Ord
open Go.Proofs.YtgfkbijmchoolaaDoor.P Go.Proofs.YtgfkbijmchoolaaDoorH Go.RowKit Go.Proofs.YtgfkbijmchoolaaDoorW.PrintWords Go.Proofs.YtgfkbijmchoolaaDoorW.PrintLast Go.Proofs.YtgfkbijmchoolaaDoorW.PrintMore
set_option linter.unusedVariables false
set_option linter.unusedSimpArgs false
theorem up {α : Type} {f : Nat → Option α} (h : ∀ k, LeO (f k) (f (k + 1))) {k k' : Nat} {v : α} (e : f k = some v) (hk : k ≤ k') : f k' = some v := by
  induction hk with
  | refl => exact e
  | step _ ih => exact h _ _ ih
theorem works_at : selvedgelaw20_works.f 60 = some true := by kernel_rfl
theorem works_true (k : Nat) (hk : 60 ≤ k) : selvedgelaw20_works.f k = some true := up (f := selvedgelaw20_works.f) selvedgelaw20_works.mono works_at hk
theorem of_u8 {x : Int} (h : (Lit.int .u8 x).wf = true) : 0 ≤ x ∧ x ≤ 255 := by
  simp [Lit.wf, IntKind.min, IntKind.max, IntKind.signed, IntKind.bits] at h; omega
theorem of_i64 {x : Int} (h : (Lit.int .i64 x).wf = true) : -9223372036854775808 ≤ x ∧ x ≤ 9223372036854775807 := by
  simp [Lit.wf, IntKind.min, IntKind.max, IntKind.signed, IntKind.bits] at h; omega
theorem same_true (a b : List Int) (h : a = b) : selvedgelaw20_sameLevels.f a b = some true := by
  subst h; simp [selvedgelaw20_sameLevels.f]
theorem rd_get (l : List Int) (i : Nat) (h : i < l.length) : rd l (i : Int) = l[i] := by
  unfold rd; rw [Int.toNat_natCast, List.getD_eq_getElem?_getD, List.getElem?_eq_getElem h]; rfl
theorem w64 (x : Int) (h : -9223372036854775808 ≤ x ∧ x ≤ 9223372036854775807) : wrap64 x = x := by unfold wrap64; omega
theorem max_from (l : List Int) (hl : l.length ≤ 70000) (d : Nat) : ∀ (i k : Nat) (m : Int), i ≤ l.length → l.length - i = d → d < k →
    slices_Max_uint8_uint8.l0 k l m (i : Int) = some ((l.drop i).foldl mx m) := by
  induction d with
  | zero =>
    intro i k m hi hd hk
    obtain ⟨k, rfl⟩ : ∃ m, k = m + 1 := ⟨k - 1, by omega⟩
    simp only [slices_Max_uint8_uint8.l0]
    rw [if_neg (by omega), List.drop_eq_nil_of_le (by omega)]
    rfl
  | succ d ih =>
    intro i k m hi hd hk
    obtain ⟨k, rfl⟩ : ∃ m, k = m + 1 := ⟨k - 1, by omega⟩
    have hlt : i < l.length := by omega
    have hw : wrap64 ((i : Int) + 1) = ((i + 1 : Nat) : Int) := by unfold wrap64; omega
    simp only [slices_Max_uint8_uint8.l0]
    rw [if_pos (by omega), if_pos (by omega), hw, ih (i + 1) k _ (by omega) (by omega) (by omega), rd_get l i hlt]
    conv => rhs; rw [List.drop_eq_getElem_cons hlt, List.foldl_cons]
theorem foldl_mx (l : List Int) : ∀ m : Int, (l.foldl mx m > 126 ↔ m > 126 ∨ ∃ x ∈ l, x > 126) := by
  induction l with
  | nil => intro m; simp
  | cons a l ih =>
    intro m
    rw [List.foldl_cons, ih]
    have : (mx m a > 126 ↔ m > 126 ∨ a > 126) := by unfold mx; split <;> omega
    rw [this]
    simp only [List.mem_cons, exists_eq_or_imp, or_assoc]
def rightOf (l : List Int) : Int := if l.length > 65536 then 3 else if ∃ x ∈ l, x > 126 then 2 else 0
theorem right_eq (l : List Int) (k : Nat) (hk : 70000 ≤ k) : order_right.f k l = some (rightOf l) := by
  unfold order_right.f rightOf
  by_cases h1 : l.length > 65536
  · rw [if_pos (by omega), if_pos h1]
  · rw [if_neg (by omega), if_neg h1]
    cases l with
    | nil => simp
    | cons a l =>
      have h2 : 0 < (a :: l).length := by simp
      rw [if_pos (by omega)]
      unfold slices_Max_uint8_uint8.f
      have hm := max_from (a :: l) (by omega) l.length 1 k a (by simp) (by simp) (by simp only [List.length_cons] at h1; omega)
      have hr : rd (a :: l) 0 = a := rfl
      rw [if_neg (by omega), if_pos (by omega), hr, show (1 : Int) = ((1 : Nat) : Int) from rfl, hm]
      simp only [Option.bind_some, List.drop_succ_cons, List.drop_zero]
      have h3 := foldl_mx l a
      by_cases h4 : l.foldl mx a > 126
      · rw [if_pos h4, if_pos]
        simpa using h3.1 h4
      · rw [if_neg h4, if_neg]
        intro e; exact h4 (h3.2 (by simpa using e))
def blankOf (c : Int) : Bool := (order_blank.f c).getD false
theorem blank_eq (c : Int) : order_blank.f c = some (blankOf c) := by
  unfold blankOf order_blank.f
  repeat (first | rfl | split)
theorem not_blank {c : Int} (h : c = 12 ∨ c = 11) : blankOf c = false := by
  rcases h with rfl | rfl <;> rfl
def stOf : List Int → Bool
  | [] => true
  | c :: cs => if c = 12 ∨ c = 11 then true else if blankOf c = true then stOf cs else false
def outOf (base : Int) : List Int → List Int → List Int
  | c :: cs, l :: ls => (if stOf (c :: cs) = true then base else l) :: outOf base cs ls
  | _, _ => []
theorem length_outOf (base : Int) : ∀ cs ls : List Int, cs.length = ls.length → (outOf base cs ls).length = cs.length
  | [], [], _ => rfl
  | [], _ :: _, h => by simp at h
  | _ :: _, [], h => by simp at h
  | c :: cs, l :: ls, h => by simp only [outOf, List.length_cons]; rw [length_outOf base cs ls (by simpa using h)]
theorem outOf_twice (base : Int) : ∀ cs ls : List Int, outOf base cs (outOf base cs ls) = outOf base cs ls
  | [], _ => by simp [outOf]
  | c :: cs, [] => by simp [outOf]
  | c :: cs, l :: ls => by
    simp only [outOf]
    rw [outOf_twice base cs ls]
    by_cases h : stOf (c :: cs) = true <;> simp [h]
theorem mem_outOf (base : Int) : ∀ (cs ls : List Int) (x : Int), x ∈ outOf base cs ls → x = base ∨ x ∈ ls
  | [], _, x, h => by simp [outOf] at h
  | c :: cs, [], x, h => by simp [outOf] at h
  | c :: cs, l :: ls, x, h => by
    simp only [outOf, List.mem_cons] at h
    rcases h with h | h
    · by_cases e : stOf (c :: cs) = true
      · rw [if_pos e] at h; exact .inl h
      · rw [if_neg e] at h; exact .inr (by simp [h])
    · rcases mem_outOf base cs ls x h with h | h
      · exact .inl h
      · exact .inr (by simp [h])
theorem reset_loop (x0 cs ls : List Int) (base : Int) (frm : Nat) (hlen : cs.length = ls.length) (hb : frm + cs.length ≤ 65536)
    (hc : ∀ j (h : j < cs.length), frm + j < x0.length ∧ clsOf (rd x0 ((frm + j : Nat) : Int)) = cs[j]) : ∀ (m k : Nat), m ≤ cs.length → 2 * m + 1 ≤ k →
    order_Reset.l0 k x0 base (frm : Int) (ls.take m ++ outOf base (cs.drop m) (ls.drop m)) (stOf (cs.drop m)) ((m : Int) - 1) = some (outOf base cs ls, 0) := by
  intro m
  induction m with
  | zero =>
    intro k hm hk
    obtain ⟨k, rfl⟩ : ∃ m, k = m + 1 := ⟨k - 1, by omega⟩
    simp only [order_Reset.l0]
    rw [if_neg (by omega)]
    simp
  | succ m ih =>
    intro k hm hk
    obtain ⟨k, rfl⟩ : ∃ m, k = m + 1 + 1 := ⟨k - 2, by omega⟩
    obtain ⟨h1, h2⟩ := hc m (by omega)
    have hw : wrap64 ((frm : Int) + (m : Int)) = ((frm + m : Nat) : Int) := by unfold wrap64; omega
    have hw2 : wrap64 ((m : Int) - 1) = (m : Int) - 1 := by unfold wrap64; omega
    have e : ((m + 1 : Nat) : Int) - 1 = (m : Int) := by omega
    have hm1 : m < cs.length := by omega
    have hm2 : m < ls.length := by omega
    have ih' := ih k (by omega) (by omega)
    rw [List.drop_eq_getElem_cons hm1, List.drop_eq_getElem_cons hm2] at ih'
    simp only [outOf] at ih'
    have ht : ls.take (m + 1) = ls.take m ++ [ls[m]] := (List.take_append_getElem hm2).symm
    have hl : (ls.take m).length = m := by rw [List.length_take]; omega
    have hset : (ls.take (m + 1) ++ outOf base (cs.drop (m + 1)) (ls.drop (m + 1))).set m base = ls.take m ++ base :: outOf base (cs.drop (m + 1)) (ls.drop (m + 1)) := by
      rw [ht, List.append_assoc, List.set_append_right _ _ (by omega), hl, Nat.sub_self]; rfl
    have hlong : (m : Int) < ((ls.take (m + 1) ++ outOf base (cs.drop (m + 1)) (ls.drop (m + 1))).length : Int) := by
      rw [ht, List.length_append, List.length_append, hl]; simp; omega
    rw [e]
    simp only [order_Reset.l0]
    rw [if_pos (by omega), hw, if_pos (by omega), if_pos (by omega)]
    simp only [props_Class.f, Option.bind_some]
    rw [h2]
    generalize hC : cs[m] = c at *
    by_cases c12 : c = 12
    · rw [if_pos c12]
      simp only [order_Reset.j2]
      rw [if_pos (by rw [c12]; rfl), if_pos (by omega), if_pos hlong, hw2, Int.toNat_natCast, hset]
      rw [show stOf (c :: cs.drop (m + 1)) = true by simp [stOf, c12]] at ih'
      exact ih'
    · rw [if_neg c12]
      by_cases c11 : c = 11
      · simp only [order_Reset.j2]
        rw [if_pos (by rw [c11]; rfl), if_pos (by omega), if_pos hlong, hw2, Int.toNat_natCast, hset]
        rw [show stOf (c :: cs.drop (m + 1)) = true by simp [stOf, c11]] at ih'
        exact ih'
      · simp only [order_Reset.j2]
        rw [if_neg (by simpa using c11), blank_eq]
        simp only [Option.bind_some]
        have hst : stOf (c :: cs.drop (m + 1)) = if blankOf c = true then stOf (cs.drop (m + 1)) else false := by simp [stOf, c11, c12]
        rw [hst] at ih'
        by_cases hbl : blankOf c = true
        · rw [if_pos hbl] at ih' ⊢
          by_cases hs : stOf (cs.drop (m + 1)) = true
          · rw [if_pos hs, if_pos (by omega), if_pos hlong, hw2, Int.toNat_natCast, hset]
            rw [hs] at ih' ⊢
            exact ih'
          · rw [if_neg hs, hw2]
            rw [if_neg hs] at ih'
            rw [ht, List.append_assoc]
            exact ih'
        · rw [if_neg hbl] at ih' ⊢
          rw [if_neg (by decide)] at ih'
          rw [hw2, ht, List.append_assoc]
          exact ih'
def segC (x0 : List Int) (frm tt : Nat) : List Int := ((x0.take tt).drop frm).map clsOf
def segL (x1 : List Int) (frm tt : Nat) : List Int := (x1.take tt).drop frm
def resetBad (l0 l1 : List Int) (a2 a3 a4 : Int) : Prop := l1.length ≠ l0.length ∨ a2 > 1 ∨ rightOf l1 ≠ 0 ∨ a3 < 0 ∨ a3 > a4 ∨ a4 > (l0.length : Int)
theorem reset_long (l0 l1 : List Int) (a2 a3 a4 : Int) (k : Nat) (h : l0.length > 65536) : order_Reset.f k l0 l1 a2 a3 a4 = some ([], 3) := by
  unfold order_Reset.f
  rw [if_pos (by omega)]
theorem reset_bad (l0 l1 : List Int) (a2 a3 a4 : Int) (k : Nat) (hk : 70000 ≤ k) (h0 : ¬ l0.length > 65536) (h : resetBad l0 l1 a2 a3 a4) : order_Reset.f k l0 l1 a2 a3 a4 = some ([], 2) := by
  have hj : ∀ k x1 b, 1 ≤ k → b = true → order_Reset.j0 k l0 x1 a2 a3 a4 b = some ([], 2) := fun k x1 b hk hb => by
    obtain ⟨k, rfl⟩ : ∃ m, k = m + 1 := ⟨k - 1, by omega⟩
    simp only [order_Reset.j0]
    rw [if_pos hb]
  unfold order_Reset.f
  rw [if_neg (by omega), right_eq l1 k hk]
  unfold resetBad at h
  by_cases c1 : (l1.length : Int) = (l0.length : Int)
  · rw [if_pos c1]
    by_cases c2 : a2 > 1
    · rw [if_pos c2]; exact hj k l1 true (by omega) rfl
    · rw [if_neg c2]
      simp only [Option.bind_some]
      by_cases c3 : rightOf l1 = 0
      · rw [if_pos c3]
        by_cases c4 : a3 < 0
        · rw [if_pos c4]; exact hj k l1 true (by omega) rfl
        · rw [if_neg c4]
          by_cases c5 : a3 > a4
          · rw [if_pos c5]; exact hj k l1 true (by omega) rfl
          · rw [if_neg c5]
            exact hj k l1 _ (by omega) (decide_eq_true (by omega))
      · rw [if_neg c3]; exact hj k l1 true (by omega) rfl
  · rw [if_neg c1]; exact hj k l1 true (by omega) rfl
theorem seg_facts (x0 : List Int) (frm tt : Nat) (h1 : frm ≤ tt) (h2 : tt ≤ x0.length) : (segC x0 frm tt).length = tt - frm ∧
    ∀ j (h : j < (segC x0 frm tt).length), frm + j < x0.length ∧ clsOf (rd x0 ((frm + j : Nat) : Int)) = (segC x0 frm tt)[j] := by
  have hl : (segC x0 frm tt).length = tt - frm := by unfold segC; rw [List.length_map, List.length_drop, List.length_take]; omega
  refine ⟨hl, fun j h => ⟨by omega, ?_⟩⟩
  rw [rd_get x0 (frm + j) (by omega)]
  simp [segC]
theorem segL_length (x1 : List Int) (frm tt : Nat) (h2 : tt ≤ x1.length) : (segL x1 frm tt).length = tt - frm := by
  unfold segL; rw [List.length_drop, List.length_take]; omega
theorem reset_good (l0 l1 : List Int) (a2 : Int) (frm tt : Nat) (k : Nat) (hk : 140000 ≤ k) (h0 : ¬ l0.length > 65536) (h : ¬ resetBad l0 l1 a2 frm tt) :
    order_Reset.f k l0 l1 a2 frm tt = some (outOf a2 (segC l0 frm tt) (segL l1 frm tt), 0) := by
  unfold resetBad at h
  simp only [not_or, Decidable.not_not] at h
  obtain ⟨c1, c2, c3, c4, c5, c6⟩ := h
  unfold order_Reset.f
  rw [if_neg (by omega), if_pos (by omega), if_neg c2, right_eq l1 k (by omega)]
  simp only [Option.bind_some]
  rw [if_pos c3, if_neg c4, if_neg c5, decide_eq_false c6]
  obtain ⟨k, rfl⟩ : ∃ m, k = m + 1 := ⟨k - 1, by omega⟩
  simp only [order_Reset.j0]
  obtain ⟨s1, s2⟩ := seg_facts l0 frm tt (by omega) (by omega)
  have s3 := segL_length l1 frm tt (by omega)
  rw [if_neg (by decide), if_pos (by omega), if_pos (by omega), if_pos (by omega), Int.toNat_natCast, Int.toNat_natCast]
  change (slices_Clone_uint8_uint8.f (segL l1 frm tt)).bind _ = _
  unfold slices_Clone_uint8_uint8.f
  rw [if_pos (by omega)]
  simp only [Option.bind_some]
  have hloop := reset_loop l0 (segC l0 frm tt) (segL l1 frm tt) a2 frm (by omega) (by omega) s2 (tt - frm) k (by omega) (by omega)
  rw [List.drop_eq_nil_of_le (by omega), List.drop_eq_nil_of_le (by omega), List.take_of_length_le (by omega)] at hloop
  simp only [outOf, stOf, List.append_nil] at hloop
  rw [s3, show wrap64 (((tt - frm : Nat) : Int) - 1) = ((tt - frm : Nat) : Int) - 1 by unfold wrap64; omega]
  exact hloop
end Go.Proofs.YtgfkbijmchoolaaDoor.Ord

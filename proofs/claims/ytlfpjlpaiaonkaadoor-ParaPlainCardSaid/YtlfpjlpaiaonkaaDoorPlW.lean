/- Layer 13: the law ParaPlain, walked: whatever the characters and the style, it answers true. -/
import Derived.Test.YtlfpjlpaiaonkaaDoorSpS
import Derived.Test.YtlfpjlpaiaonkaaDoorPrC
import Derived.Test.YtlfpjlpaiaonkaaDoorP5
import Derived.Deep.RegionLaw
import Derived.Outline
namespace Go.Proofs.YtlfpjlpaiaonkaaDoor.Sp
open Go.RowKit Go.Proofs.YtlfpjlpaiaonkaaDoorW.PrintWords Go.Proofs.YtlfpjlpaiaonkaaDoorW.PrintLast Go.Proofs.YtlfpjlpaiaonkaaDoorW.PrintMore Go.Proofs.YtlfpjlpaiaonkaaDoorH Go.Proofs.YtlfpjlpaiaonkaaDoor.P Go.Proofs.YtlfpjlpaiaonkaaDoor.Mp
attribute [local go_sem] max2_int min2_int max_two min_two max_three min_three max_four min_four
set_option linter.unusedVariables false
set_option linter.unusedSimpArgs false
def chI (r : Int) : Itm := ⟨3, 0, false, r, 0⟩
/-- The characters' places, from number n on. -/
def idxL : List Int → Nat → List Pos
  | [], _ => []
  | r :: rs, n => ⟨r, (n : Int), false⟩ :: idxL rs (n + 1)
theorem idxL_len : ∀ (l : List Int) (n : Nat), (idxL l n).length = l.length
  | [], _ => rfl
  | r :: rs, n => by simp [idxL, idxL_len rs]
theorem idxL_get : ∀ (l : List Int) (n j : Nat), (idxL l n)[j]? = (l[j]?).map fun r => ⟨r, ((n + j : Nat) : Int), false⟩
  | [], _, _ => by simp [idxL]
  | r :: rs, n, 0 => by simp [idxL]
  | r :: rs, n, j + 1 => by
    have h := idxL_get rs (n + 1) j
    simp only [idxL, List.getElem?_cons_succ]
    rw [h, show n + 1 + j = n + (j + 1) by omega]
theorem hard1_zero (ps : List Int) (hz : ∀ i, ps.getD i 0 = 0) : ∀ (n i : Nat) (G : List (Int × List Int)) (L : List Pos), hard1 ps n i G L = (G, L)
  | 0, _, _, _ => rfl
  | n + 1, i, G, L => by
    unfold hard1
    simp only [hz i, if_pos]
    exact hard1_zero ps hz n (i + 1) G L
theorem end_zero (S : Sp) (hz : ∀ i, S.pieces.getD i 0 = 0) : S.end_.out = S.out ++ [⟨S.base, S.L, S.brk⟩] ∧ S.end_.opn = S.opn ∧ S.end_.block = S.block ∧ S.end_.hard = S.hard := by
  unfold Sp.end_
  split
  · refine ⟨?_, rfl, rfl, rfl⟩
    unfold Sp.push Sp.harden
    simp only [hard1_zero S.pieces hz, List.flatMap_nil, markL_nil]
  · exact ⟨rfl, rfl, rfl, rfl⟩
def baseOf (b : Sty) : Int := if b.f2 = 5 then 2 else b.f1
theorem begin_zero (S : Sp) (h : overB S.block = false) (hn : S.opn = []) : S.begin_.out = S.out ∧ S.begin_.opn = [] ∧ S.begin_.block = S.block ∧ S.begin_.hard = S.hard ∧ S.begin_.L = [] ∧ S.begin_.pieces = [] ∧ S.begin_.base = baseOf S.block ∧ S.begin_.brk = -1 ∧ S.begin_.started = false := by
  have hl : S.opn.length = 0 := by rw [hn]; rfl
  rw [Sp.begin_eq, if_neg (by rw [h]; decide), hl]
  exact ⟨rfl, hn, rfl, rfl, rfl, rfl, rfl, rfl, rfl⟩
/-- A paragraph that a separator ended. -/
structure Ended (b : Sty) (p : Par) : Prop where
  base : p.f0 = baseOf b
  brk : p.f2 = -1
  len : 0 < p.f1.length
  last : clsOf (p.f1.getD (p.f1.length - 1) z41).f0 = 11
  ahead : ∀ k, k + 1 < p.f1.length → clsOf (p.f1.getD k z41).f0 ≠ 11
/-- What stands behind some characters. -/
structure Chr (b : Sty) (l : List Int) (S : Sp) : Prop where
  blk : S.block = b
  opn : S.opn = []
  base : S.base = baseOf b
  brk : S.brk = -1
  zero : ∀ i, S.pieces.getD i 0 = 0
  started : S.started = decide (0 < S.L.length)
  ended : ∀ p, p ∈ S.out → Ended b p
  plain : ∀ k, k < S.L.length → clsOf (S.L.getD k z41).f0 ≠ 11
  flat : S.out.flatMap (·.f1) ++ S.L = idxL l 0
theorem getD_app_lt {α : Type} (l m : List α) (k : Nat) (d : α) (h : k < l.length) : (l ++ m).getD k d = l.getD k d := by
  rw [List.getD_eq_getElem?_getD, List.getD_eq_getElem?_getD, List.getElem?_append_left h]
theorem getD_app_last {α : Type} (l : List α) (x d : α) : (l ++ [x]).getD l.length d = x := by
  rw [List.getD_eq_getElem?_getD, List.getElem?_append_right (Nat.le_refl _), Nat.sub_self]
  rfl
theorem idxL_snoc : ∀ (l : List Int) (r : Int) (n : Nat), idxL (l ++ [r]) n = idxL l n ++ [⟨r, ((n + l.length : Nat) : Int), false⟩]
  | [], r, n => by simp [idxL]
  | x :: l, r, n => by
    have := idxL_snoc l r (n + 1)
    simp only [List.cons_append, idxL, this, List.length_cons]
    rw [show n + 1 + l.length = n + (l.length + 1) by omega]
theorem chr_add {b : Sty} {l : List Int} {S : Sp} (h : Chr b l S) (r : Int) : (∀ i, (S.add r (l.length : Int)).pieces.getD i 0 = 0) ∧ S.out.flatMap (·.f1) ++ (S.add r (l.length : Int)).L = idxL (l ++ [r]) 0 ∧ S.inner = 0 := by
  have hin : S.inner = 0 := by unfold Sp.inner; rw [h.opn]; rfl
  refine ⟨fun i => ?_, ?_, hin⟩
  · show (S.pieces ++ [S.inner]).getD i 0 = 0
    rw [hin]
    have hz := h.zero i
    rw [List.getD_eq_getElem?_getD] at hz ⊢
    by_cases hi : i < S.pieces.length
    · rw [List.getElem?_append_left hi]; exact hz
    · rw [List.getElem?_append_right (by omega)]
      by_cases h0 : i - S.pieces.length = 0
      · rw [h0]; rfl
      · rw [List.getElem?_eq_none (by simp; omega)]; rfl
  · show S.out.flatMap (·.f1) ++ (S.L ++ [_]) = _
    rw [idxL_snoc, ← h.flat]
    simp
theorem chr_item {b : Sty} (hb : overB b = false) {l : List Int} {S : Sp} (h : Chr b l S) (r : Int) : Chr b (l ++ [r]) (S.item (chI r) (l.length : Int)) := by
  obtain ⟨hz, hf, hin⟩ := chr_add h r
  have hit : S.item (chI r) (l.length : Int) = S.char r (l.length : Int) := rfl
  rw [hit]
  unfold Sp.char
  by_cases hc : clsOf r = 11
  · rw [if_pos hc, if_neg (by rw [hin]; simp)]
    obtain ⟨e1, e2, e3, e4⟩ := end_zero (S.add r (l.length : Int)) hz
    obtain ⟨b1, b2, b3, b4, b5, b6, b7, b8, b9⟩ := begin_zero (S.add r (l.length : Int)).end_ (by rw [e3]; show overB S.block = false; rw [h.blk]; exact hb) (by rw [e2]; exact h.opn)
    have hL : (S.add r (l.length : Int)).L = S.L ++ [⟨r, (l.length : Int), false⟩] := rfl
    have ho : (S.add r (l.length : Int)).out = S.out := rfl
    refine ⟨by rw [b3, e3]; exact h.blk, b2, by rw [b7, e3]; show baseOf S.block = _; rw [h.blk], b8, fun i => by rw [b6]; rfl, by rw [b9, b5]; rfl, fun p hp => ?_, fun k hk => by rw [b5] at hk; exact absurd hk (by simp), ?_⟩
    · rw [b1, e1, ho] at hp
      rcases List.mem_append.1 hp with hp | hp
      · exact h.ended p hp
      · obtain rfl := List.mem_singleton.1 hp
        refine ⟨h.base, h.brk, by show 0 < (S.L ++ [_]).length; simp, ?_, fun k hk => ?_⟩
        · show clsOf ((S.L ++ [_]).getD ((S.L ++ [_]).length - 1) _).f0 = 11
          rw [List.length_append, List.length_singleton, Nat.add_sub_cancel, getD_app_last]
          exact hc
        · have hk' : k + 1 < (S.L ++ [(⟨r, (l.length : Int), false⟩ : Pos)]).length := hk
          rw [List.length_append, List.length_singleton] at hk'
          show clsOf ((S.L ++ [_]).getD k _).f0 ≠ 11
          rw [getD_app_lt _ _ _ _ (by omega)]
          exact h.plain k (by omega)
    · rw [b1, b5, e1, ho, ← hf]
      simp
  · rw [if_neg hc]
    refine ⟨h.blk, h.opn, h.base, h.brk, hz, by show true = decide (0 < (S.L ++ [_]).length); simp, h.ended, fun k hk => ?_, hf⟩
    have hk' : k < (S.L ++ [(⟨r, (l.length : Int), false⟩ : Pos)]).length := hk
    rw [List.length_append, List.length_singleton] at hk'
    show clsOf ((S.L ++ [_]).getD k _).f0 ≠ 11
    by_cases h1 : k < S.L.length
    · rw [getD_app_lt _ _ _ _ h1]; exact h.plain k h1
    · rw [show k = S.L.length by omega, getD_app_last]; exact hc
theorem chr_run {b : Sty} (hb : overB b = false) : ∀ (m l : List Int) (S : Sp), Chr b l S → Chr b (l ++ m) (runI (m.map chI) (l.length : Int) S)
  | [], l, S, h => by simpa [runI] using h
  | r :: m, l, S, h => by
    have h1 := chr_item hb h r
    have h2 := chr_run hb m (l ++ [r]) _ h1
    simp only [List.map_cons, runI]
    rw [List.append_assoc] at h2
    rw [show ((l ++ [r]).length : Int) = (l.length : Int) + 1 by simp] at h2
    exact h2
/-- What Split answers. -/
structure Plain (b : Sty) (l : List Int) (P : List Par) : Prop where
  base : ∀ i, i < P.length → (P.getD i z39).f0 = baseOf b ∧ (P.getD i z39).f2 = -1
  ahead : ∀ i, i < P.length → ∀ k, k + 1 < (P.getD i z39).f1.length → clsOf ((P.getD i z39).f1.getD k z41).f0 ≠ 11
  last : ∀ i, i + 1 < P.length → 0 < (P.getD i z39).f1.length ∧ clsOf ((P.getD i z39).f1.getD ((P.getD i z39).f1.length - 1) z41).f0 = 11
  flat : P.flatMap (·.f1) = idxL l 0
theorem getD_mem {α : Type} (l : List α) (i : Nat) (d : α) (h : i < l.length) : l.getD i d ∈ l := by
  rw [List.getD_eq_getElem?_getD, List.getElem?_eq_getElem h]
  exact List.getElem_mem _
theorem mem_flat_le : ∀ (P : List Par) {p : Par}, p ∈ P → p.f1.length ≤ (P.flatMap (·.f1)).length
  | q :: P, p, h => by
    rw [List.flatMap_cons, List.length_append]
    rcases List.mem_cons.1 h with rfl | h
    · omega
    · have := mem_flat_le P h
      omega
theorem plain_split (b : Sty) (l : List Int) (hb : overB b = false) (hm : mayB b = true) (hl : l.length ≤ 600) : (split 0 (l.map chI) [b] true).2 = 0 ∧ Plain b l (split 0 (l.map chI) [b] true).1 := by
  have hR : ∀ (m : List Int) (op : List Int), runR 1 (m.map chI) op = op.isEmpty := by
    intro m
    induction m with
    | nil => intro op; rfl
    | cons r m ih =>
      intro op
      simp only [List.map_cons, runR]
      rw [if_neg (by show ¬ ((0 : Int) < 0 ∨ (1 : Int) ≤ 0 ∨ (3 : Int) < 1 ∨ (4 : Int) < 3); omega), if_neg (by show ¬ (3 : Int) = 1; omega), if_neg (by show ¬ (3 : Int) = 2; omega)]
      exact ih op
  have hr : rightB 0 (l.map chI) [b] = true := by
    unfold rightB
    rw [if_neg (by simp [hm])]
    exact hR l []
  have h0 : Chr b [] (Sp.start [b] b true).begin_ := by
    obtain ⟨b1, b2, b3, b4, b5, b6, b7, b8, b9⟩ := begin_zero (Sp.start [b] b true) hb rfl
    refine ⟨b3, b2, b7, b8, fun i => by rw [b6]; rfl, by rw [b9, b5]; rfl, fun p hp => ?_, fun k hk => ?_, ?_⟩
    · rw [b1] at hp; cases hp
    · rw [b5] at hk; exact absurd hk (by simp)
    · rw [b1, b5]; rfl
  have h1 := chr_run hb l [] _ h0
  rw [List.nil_append] at h1
  obtain ⟨S, hS⟩ : ∃ S, runI (l.map chI) (([] : List Int).length : Int) (Sp.start [b] b true).begin_ = S := ⟨_, rfl⟩
  rw [hS] at h1
  have hs : splitS 0 (l.map chI) [b] true = S.fin := by rw [← hS]; rfl
  have hf : Plain b l S.fin.out := by
    unfold Sp.fin
    have hcl : S.close = S := by unfold Sp.close; rw [h1.blk, if_neg (by rw [hb]; decide)]
    split
    · rename_i hst
      rw [hcl]
      obtain ⟨e1, -, -, -⟩ := end_zero S h1.zero
      rw [e1]
      have hg1 : ∀ i, i < S.out.length → (S.out ++ [(⟨S.base, S.L, S.brk⟩ : Par)]).getD i z39 = S.out.getD i z39 := fun i hi => getD_app_lt _ _ _ _ hi
      have hg2 : (S.out ++ [(⟨S.base, S.L, S.brk⟩ : Par)]).getD S.out.length z39 = ⟨S.base, S.L, S.brk⟩ := getD_app_last _ _ _
      refine ⟨fun i hi => ?_, fun i hi k hk => ?_, fun i hi => ?_, ?_⟩
      · by_cases h2 : i < S.out.length
        · rw [hg1 i h2]
          have := h1.ended _ (getD_mem S.out i z39 h2)
          exact ⟨this.base, this.brk⟩
        · rw [List.length_append, List.length_singleton] at hi
          rw [show i = S.out.length by omega, hg2]
          exact ⟨h1.base, h1.brk⟩
      · by_cases h2 : i < S.out.length
        · rw [hg1 i h2] at hk ⊢
          exact (h1.ended _ (getD_mem S.out i z39 h2)).ahead k hk
        · rw [List.length_append, List.length_singleton] at hi
          rw [show i = S.out.length by omega, hg2] at hk ⊢
          have hk' : k + 1 < S.L.length := hk
          exact h1.plain k (by omega)
      · rw [List.length_append, List.length_singleton] at hi
        rw [hg1 i (by omega)]
        have := h1.ended _ (getD_mem S.out i z39 (by omega))
        exact ⟨this.len, this.last⟩
      · rw [List.flatMap_append]
        simp only [List.flatMap_cons, List.flatMap_nil, List.append_nil]
        exact h1.flat
    · rename_i hst
      have hL : S.L = [] := by
        have h2 : ¬ S.started = true := fun h => hst (.inl h)
        rw [h1.started] at h2
        exact List.eq_nil_of_length_eq_zero (by simp at h2; simp [h2])
      have hfl := h1.flat
      rw [hL, List.append_nil] at hfl
      exact ⟨fun i hi => ⟨(h1.ended _ (getD_mem S.out i _ hi)).base, (h1.ended _ (getD_mem S.out i _ hi)).brk⟩, fun i hi k hk => (h1.ended _ (getD_mem S.out i _ hi)).ahead k hk,
        fun i hi => ⟨(h1.ended _ (getD_mem S.out i _ (by omega))).len, (h1.ended _ (getD_mem S.out i _ (by omega))).last⟩, hfl⟩
  have htl : tooLong S.fin.out = false := by
    have hlen : ∀ p, p ∈ S.fin.out → p.f1.length ≤ 600 := by
      intro p hp
      have h2 : (S.fin.out.flatMap (·.f1)).length ≤ 600 := by rw [hf.flat, idxL_len]; exact hl
      have h3 : p.f1.length ≤ (S.fin.out.flatMap (·.f1)).length := mem_flat_le _ hp
      omega
    cases hb2 : tooLong S.fin.out
    · rfl
    · obtain ⟨p, hp, h3⟩ := List.any_eq_true.1 hb2
      have := hlen p hp
      simp at h3
      omega
  unfold split
  rw [hr, if_neg (by decide), hs, htl, if_neg (by decide)]
  exact ⟨rfl, hf⟩
/-- Where a paragraph begins. -/
def offs (P : List Par) (i : Nat) : Nat := ((P.take i).flatMap (·.f1)).length
theorem offs_step (P : List Par) (i : Nat) (h : i < P.length) : offs P (i + 1) = offs P i + (P.getD i z39).f1.length := by
  unfold offs
  rw [List.take_add_one, List.getElem?_eq_getElem h, List.flatMap_append, List.length_append, List.getD_eq_getElem?_getD, List.getElem?_eq_getElem h]
  simp
theorem plain_at {b : Sty} {l : List Int} {P : List Par} (h : Plain b l P) (i : Nat) (hi : i < P.length) (k : Nat) (hk : k < (P.getD i z39).f1.length) :
    offs P i + k < l.length ∧ (P.getD i z39).f1.getD k z41 = ⟨l.getD (offs P i + k) 0, ((offs P i + k : Nat) : Int), false⟩ := by
  have hs : P = P.take i ++ (P.getD i z39 :: P.drop (i + 1)) := by
    rw [List.getD_eq_getElem?_getD, List.getElem?_eq_getElem hi]
    show P = P.take i ++ (P[i] :: P.drop (i + 1))
    rw [← List.drop_eq_getElem_cons hi, List.take_append_drop]
  have hf := h.flat
  rw [hs, List.flatMap_append, List.flatMap_cons] at hf
  have hlo : ((P.take i).flatMap (·.f1)).length = offs P i := rfl
  have hg : ((P.take i).flatMap (·.f1) ++ ((P.getD i z39).f1 ++ (P.drop (i + 1)).flatMap (·.f1)))[offs P i + k]? = some ((P.getD i z39).f1.getD k z41) := by
    rw [List.getElem?_append_right (by omega), show offs P i + k - ((P.take i).flatMap (·.f1)).length = k by omega, List.getElem?_append_left hk]
    generalize (P.getD i z39).f1 = L at hk ⊢
    rw [List.getD_eq_getElem?_getD, List.getElem?_eq_getElem hk]
    rfl
  rw [hf, idxL_get, Nat.zero_add] at hg
  obtain ⟨r, hr, he⟩ := Option.map_eq_some_iff.1 hg
  have hlt : offs P i + k < l.length := (List.getElem?_eq_some_iff.1 hr).1
  refine ⟨hlt, he.symm.trans ?_⟩
  rw [List.getD_eq_getElem?_getD, hr]
  rfl
theorem plain_end {b : Sty} {l : List Int} {P : List Par} (h : Plain b l P) : offs P P.length = l.length := by
  unfold offs
  rw [List.take_length, h.flat, idxL_len]
theorem offs_le {b : Sty} {l : List Int} {P : List Par} (h : Plain b l P) (i : Nat) : offs P i ≤ l.length := by
  have h1 := congrArg List.length h.flat
  rw [idxL_len] at h1
  have h2 : (P.flatMap (·.f1)).length = ((P.take i).flatMap (·.f1)).length + ((P.drop i).flatMap (·.f1)).length := by
    rw [← List.length_append, ← List.flatMap_append, List.take_append_drop]
  unfold offs
  omega
theorem plain_len {b : Sty} {l : List Int} {P : List Par} (h : Plain b l P) : P.length ≤ l.length + 1 := by
  have h1 : ∀ i, i + 1 ≤ P.length → i ≤ offs P i := by
    intro i
    induction i with
    | zero => intro _; exact Nat.zero_le _
    | succ i ih =>
      intro hi
      have h2 := offs_step P i (by omega)
      have h3 := (h.last i (by omega)).1
      have h4 := ih (by omega)
      omega
  by_cases h0 : P.length = 0
  · omega
  · have h2 := h1 (P.length - 1) (by omega)
    have h3 := offs_le h (P.length - 1)
    omega
theorem base_auto (b : Sty) (h : mayB b = true) : ((baseOf b == 2) != (b.f2 == 5)) = false := by
  have h1 := (mayB_true h).2.1
  unfold baseOf
  by_cases h5 : b.f2 = 5
  · rw [if_pos h5]
    simp [h5]
  · rw [if_neg h5]
    have h6 : (b.f1 == 2) = false := by simp; omega
    have h7 : (b.f2 == 5) = false := by simpa using h5
    rw [h6, h7]
    rfl
theorem class_calls (r : Int) (w : World) : Calls Tryd.prog 16 #[.int .i32 r] w fun e w' => e = .returned (.int .u8 (clsOf r)) ∧ Below w.heap.size w w' :=
  selvedgeref01_Class.calls 200 r (clsOf r) w (ref_Class r 200 (Nat.le_refl _))
def plain.T7 : Bool × List (List Nat × List Nat) := (true, [([], []), ([0], [0]), ([], []), ([], []), ([2, 3], [2, 3]), ([4], [4]), ([5], [5]), ([6], [6]), ([1, 7], [1, 7]), ([0, 1, 2, 3, 4, 5, 6, 7, 8], []), ([9, 8, 8, 0, 1, 2, 3, 4, 5, 6, 7, 8], [8, 9])])
def plain.B7 : List Nat := [0, 1, 0, 0, 12, 28, 60, 124, 255, 511, 1023]
theorem plain.tab7 : rtab .any (opsOf Tryd.f7 7) = plain.T7 := by kernel_rfl
theorem plain.bits7 : waitsOk plain.T7.2 plain.B7 = true := by kernel_rfl
def plain.T19 : Bool × List (List Nat × List Nat) := (true, [([], []), ([0], [0]), ([1], [1]), ([2], [2]), ([2], [2]), ([4, 2], [2, 4]), ([3, 5, 2], [2, 3, 5]), ([2, 6], [2, 6]), ([7, 2], [7]), ([8], [8]), ([9, 8], [8, 9]), ([8], [8]), ([8], [8]), ([11, 12, 8], [8, 11, 12]), ([13, 8], [8, 13]), ([10, 14, 8], [8, 10, 14]), ([8, 15], [8, 15]), ([16, 8], [16]), ([17], [17]), ([18, 17], [17, 18]), ([17], [17]), ([19, 20, 17], [17, 19, 20]), ([17, 21], [17, 21]), ([22, 17], [22]), ([23], [23]), ([23], [23]), ([24, 25, 23], [23, 24, 25]), ([26, 23], [23, 26]), ([27, 23, 23], [23, 27]), ([28, 23], [23, 28]), ([23], [23]), ([23], [23]), ([23], [23]), ([31, 32, 23], [23, 31, 32]), ([33, 23], [23, 33]), ([34, 23], [23, 34]), ([35, 23], [23, 35]), ([36, 23], [23, 36]), ([30, 37, 23], [23, 30, 37]), ([38, 28, 23], [23, 38]), ([39], [39]), ([40, 39], [39, 40]), ([39], [39]), ([42, 39], [39, 42]), ([41, 43, 39], [39, 41, 43]), ([44, 39, 39], [39, 44]), ([45], [45]), ([45], [45]), ([47, 45], [45, 47]), ([48, 45], [45, 48]), ([46, 49, 45], [45, 46, 49]), ([50, 45, 45], [45, 50]), ([51], [51]), ([51], [51]), ([52, 53, 51], [51, 52, 53]), ([54, 51], [51, 54]), ([55, 51, 51], [51, 55]), ([56, 51], [51, 56]), ([51, 57, 45], [45, 51, 57]), ([45, 58, 39], [39, 45, 58]), ([39, 59, 23], [23, 39, 59]), ([29, 60, 23], [23, 29, 60]), ([23, 61], [23, 61])])
def plain.B19 : List Nat := [0, 1, 3, 7, 7, 23, 63, 127, 255, 511, 1023, 511, 511, 6655, 14847, 32767, 65535, 131071, 262143, 524287, 262143, 2097151, 4194303, 8388607, 16777215, 16777215, 67108863, 134217727, 268435455, 536870911, 16777215, 16777215, 16777215, 6459228159, 15049162751, 32229031935, 66588770303, 135308247039, 273820942335, 549218942975, 1098974756863, 2198486384639, 1098974756863, 5497021267967, 17591649173503, 35183835217919, 70368207306751, 70368207306751, 211105695662079, 492580672372735, 1125899369971711, 2251799276814335, 4503599090499583, 4503599090499583, 18014397972611071, 36028796482093055, 72057593501057023, 144115187538984959, 288230375614840831, 576460751766552575, 1152921504069976063, 2305843009213693951, 4611686018427387903]
theorem plain.tab19 : rtab .any (opsOf Tryd.f7 19) = plain.T19 := by kernel_rfl
theorem plain.bits19 : waitsOk plain.T19.2 plain.B19 = true := by kernel_rfl
def plain.T22 : Bool × List (List Nat × List Nat) := (true, [([], []), ([], []), ([0, 1], [0, 1]), ([2], [2]), ([3], [3]), ([4], [4]), ([5], [5]), ([6], [6]), ([6], [6]), ([7, 8, 6], [6, 7, 8]), ([9, 6], [6, 9]), ([10, 6], [6, 10]), ([11, 6], [6, 11]), ([6], [6]), ([13, 6], [6, 13]), ([14, 6], [6, 14]), ([12, 15, 6], [6, 12, 15]), ([6, 16], [6, 16])])
def plain.B22 : List Nat := [0, 0, 3, 7, 15, 31, 63, 127, 127, 511, 1023, 2047, 4095, 127, 8319, 24703, 65535, 131071]
theorem plain.tab22 : rtab .any (opsOf Tryd.f7 22) = plain.T22 := by kernel_rfl
theorem plain.bits22 : waitsOk plain.T22.2 plain.B22 = true := by kernel_rfl
set_option maxHeartbeats 16000000 in
set_option maxRecDepth 100000 in
theorem plain_calls (A0 : Option Addr) (c0 : Nat) (l : List Int) (b : Sty) (w : World) (hr : Kd.C (Kd.int .i32) w A0 l.length l) (hc : l.length ≤ c0) (hu : u8 b.f1 ∧ u8 b.f2) (hG : LaidW w) :
    Calls Tryd.prog 7 #[.slice A0 l.length c0, .agg (styC b)] w fun e w' => e = .returned (.bool true) ∧ Below w.heap.size w w' := by
  have HB := Aside0.mk (Below.refl w.heap.size w)
  have HR := Aside0.mk hr
  have HC := Aside0.mk hc
  have HU := Aside0.mk hu
  have HG := Aside0.mk hG
  have HWK := Aside0.mk (show selvedgelaw13_works.f = some true from rfl)
  clear hr hc hu hG
  unfold styC
  by_cases h1 : 600 < l.length
  · have k1 : decide (600 < (l.length : Int)) = true := decide_eq_true (by omega)
    clear h1
    go_enter Tryd.func7, Tryd.ntmps7
    go_wp2_with (first | ((with_reducible refine gate_dst (N := 3) rfl ?_); (try (refine gate_guard (by rfl) ?_; dsimp only)); refine box_event ?hg (N := 3) ?hd (cs := #[.int .u8 b.f0, .int .u8 b.f1, .int .u8 b.f2, .int .u8 b.f3, .int .i64 b.f4, .int .i64 b.f5]) (t := 52) ?hr ?_; (case hd => rfl); (case hg => rfl); (case hr => first | (go_simp; done) | (go_simp; rfl)); intro gb hgb w3 hbox hb; have Kb := Aside0.mk hbox; have GEb := Aside0.mk (Nat.le_of_eq hgb.symm : w.heap.size ≤ gb); have n0_ := Aside0.mk (below_step HB.out hb); clear HB; have HB := n0_; clear n0_ hbox hb hgb; have q1 : w3.cell? ⟨gb, 1, none⟩ = some (.int .u8 b.f1) := (blk_cell Kb.out 1).trans rfl; have q2 : w3.cell? ⟨gb, 2, none⟩ = some (.int .u8 b.f2) := (blk_cell Kb.out 2).trans rfl) | (go_at_call 9; refine (selvedgelaw13_works.calls true _ HWK.out (HG.out.below (by repeat (first | (with_reducible first | exact HB.out | apply below_alloc | apply pw_below_drewN | apply below_drew1 | refine below_set ?_ GEb.out | refine below_set ?_ GEf.out) | exact HB.out)))).mono ?_; rintro e wk ⟨rfl, hb⟩; have n0_ := Aside0.mk (below_step (by repeat (first | (with_reducible first | exact HB.out | apply below_alloc | apply pw_below_drewN | apply below_drew1 | refine below_set ?_ GEb.out | refine below_set ?_ GEf.out) | exact HB.out)) hb); clear HB; have HB := n0_; clear n0_ hb))
    go_ret
    exact ⟨rfl, (by repeat (first | (with_reducible first | exact HB.out | apply below_alloc | apply pw_below_drewN | apply below_drew1 | refine below_set ?_ GEb.out | refine below_set ?_ GEf.out) | exact HB.out))⟩
  · have k1 : decide (600 < (l.length : Int)) = false := decide_eq_false (by omega)
    by_cases h2 : 5 < b.f2
    · have k2 : decide (5 < b.f2) = true := decide_eq_true (by omega)
      clear h1 h2
      go_enter Tryd.func7, Tryd.ntmps7
      go_wp2_with (first | ((with_reducible refine gate_dst (N := 3) rfl ?_); (try (refine gate_guard (by rfl) ?_; dsimp only)); refine box_event ?hg (N := 3) ?hd (cs := #[.int .u8 b.f0, .int .u8 b.f1, .int .u8 b.f2, .int .u8 b.f3, .int .i64 b.f4, .int .i64 b.f5]) (t := 52) ?hr ?_; (case hd => rfl); (case hg => rfl); (case hr => first | (go_simp; done) | (go_simp; rfl)); intro gb hgb w3 hbox hb; have Kb := Aside0.mk hbox; have GEb := Aside0.mk (Nat.le_of_eq hgb.symm : w.heap.size ≤ gb); have n0_ := Aside0.mk (below_step HB.out hb); clear HB; have HB := n0_; clear n0_ hbox hb hgb; have q1 : w3.cell? ⟨gb, 1, none⟩ = some (.int .u8 b.f1) := (blk_cell Kb.out 1).trans rfl; have q2 : w3.cell? ⟨gb, 2, none⟩ = some (.int .u8 b.f2) := (blk_cell Kb.out 2).trans rfl) | (go_at_call 9; refine (selvedgelaw13_works.calls true _ HWK.out (HG.out.below (by repeat (first | (with_reducible first | exact HB.out | apply below_alloc | apply pw_below_drewN | apply below_drew1 | refine below_set ?_ GEb.out | refine below_set ?_ GEf.out) | exact HB.out)))).mono ?_; rintro e wk ⟨rfl, hb⟩; have n0_ := Aside0.mk (below_step (by repeat (first | (with_reducible first | exact HB.out | apply below_alloc | apply pw_below_drewN | apply below_drew1 | refine below_set ?_ GEb.out | refine below_set ?_ GEf.out) | exact HB.out)) hb); clear HB; have HB := n0_; clear n0_ hb))
      go_ret
      exact ⟨rfl, (by repeat (first | (with_reducible first | exact HB.out | apply below_alloc | apply pw_below_drewN | apply below_drew1 | refine below_set ?_ GEb.out | refine below_set ?_ GEf.out) | exact HB.out))⟩
    · have k2 : decide (5 < b.f2) = false := decide_eq_false (by omega)
      by_cases h3 : b.f2 = 3
      · have k3 : (b.f2 == 3) = true := by simpa using h3
        clear h1 h2 h3
        go_enter Tryd.func7, Tryd.ntmps7
        go_wp2_with (first | ((with_reducible refine gate_dst (N := 3) rfl ?_); (try (refine gate_guard (by rfl) ?_; dsimp only)); refine box_event ?hg (N := 3) ?hd (cs := #[.int .u8 b.f0, .int .u8 b.f1, .int .u8 b.f2, .int .u8 b.f3, .int .i64 b.f4, .int .i64 b.f5]) (t := 52) ?hr ?_; (case hd => rfl); (case hg => rfl); (case hr => first | (go_simp; done) | (go_simp; rfl)); intro gb hgb w3 hbox hb; have Kb := Aside0.mk hbox; have GEb := Aside0.mk (Nat.le_of_eq hgb.symm : w.heap.size ≤ gb); have n0_ := Aside0.mk (below_step HB.out hb); clear HB; have HB := n0_; clear n0_ hbox hb hgb; have q1 : w3.cell? ⟨gb, 1, none⟩ = some (.int .u8 b.f1) := (blk_cell Kb.out 1).trans rfl; have q2 : w3.cell? ⟨gb, 2, none⟩ = some (.int .u8 b.f2) := (blk_cell Kb.out 2).trans rfl) | (go_at_call 9; refine (selvedgelaw13_works.calls true _ HWK.out (HG.out.below (by repeat (first | (with_reducible first | exact HB.out | apply below_alloc | apply pw_below_drewN | apply below_drew1 | refine below_set ?_ GEb.out | refine below_set ?_ GEf.out) | exact HB.out)))).mono ?_; rintro e wk ⟨rfl, hb⟩; have n0_ := Aside0.mk (below_step (by repeat (first | (with_reducible first | exact HB.out | apply below_alloc | apply pw_below_drewN | apply below_drew1 | refine below_set ?_ GEb.out | refine below_set ?_ GEf.out) | exact HB.out)) hb); clear HB; have HB := n0_; clear n0_ hb))
        go_ret
        exact ⟨rfl, (by repeat (first | (with_reducible first | exact HB.out | apply below_alloc | apply pw_below_drewN | apply below_drew1 | refine below_set ?_ GEb.out | refine below_set ?_ GEf.out) | exact HB.out))⟩
      · have k3 : (b.f2 == 3) = false := by simpa using h3
        by_cases h4 : b.f2 = 4
        · have k4 : (b.f2 == 4) = true := by simpa using h4
          clear h1 h2 h3 h4
          go_enter Tryd.func7, Tryd.ntmps7
          go_wp2_with (first | ((with_reducible refine gate_dst (N := 3) rfl ?_); (try (refine gate_guard (by rfl) ?_; dsimp only)); refine box_event ?hg (N := 3) ?hd (cs := #[.int .u8 b.f0, .int .u8 b.f1, .int .u8 b.f2, .int .u8 b.f3, .int .i64 b.f4, .int .i64 b.f5]) (t := 52) ?hr ?_; (case hd => rfl); (case hg => rfl); (case hr => first | (go_simp; done) | (go_simp; rfl)); intro gb hgb w3 hbox hb; have Kb := Aside0.mk hbox; have GEb := Aside0.mk (Nat.le_of_eq hgb.symm : w.heap.size ≤ gb); have n0_ := Aside0.mk (below_step HB.out hb); clear HB; have HB := n0_; clear n0_ hbox hb hgb; have q1 : w3.cell? ⟨gb, 1, none⟩ = some (.int .u8 b.f1) := (blk_cell Kb.out 1).trans rfl; have q2 : w3.cell? ⟨gb, 2, none⟩ = some (.int .u8 b.f2) := (blk_cell Kb.out 2).trans rfl) | (go_at_call 9; refine (selvedgelaw13_works.calls true _ HWK.out (HG.out.below (by repeat (first | (with_reducible first | exact HB.out | apply below_alloc | apply pw_below_drewN | apply below_drew1 | refine below_set ?_ GEb.out | refine below_set ?_ GEf.out) | exact HB.out)))).mono ?_; rintro e wk ⟨rfl, hb⟩; have n0_ := Aside0.mk (below_step (by repeat (first | (with_reducible first | exact HB.out | apply below_alloc | apply pw_below_drewN | apply below_drew1 | refine below_set ?_ GEb.out | refine below_set ?_ GEf.out) | exact HB.out)) hb); clear HB; have HB := n0_; clear n0_ hb))
          go_ret
          exact ⟨rfl, (by repeat (first | (with_reducible first | exact HB.out | apply below_alloc | apply pw_below_drewN | apply below_drew1 | refine below_set ?_ GEb.out | refine below_set ?_ GEf.out) | exact HB.out))⟩
        · have k4 : (b.f2 == 4) = false := by simpa using h4
          by_cases h5 : 1 < b.f1
          · have k5 : decide (1 < b.f1) = true := decide_eq_true (by omega)
            clear h1 h2 h3 h4 h5
            go_enter Tryd.func7, Tryd.ntmps7
            go_wp2_with (first | ((with_reducible refine gate_dst (N := 3) rfl ?_); (try (refine gate_guard (by rfl) ?_; dsimp only)); refine box_event ?hg (N := 3) ?hd (cs := #[.int .u8 b.f0, .int .u8 b.f1, .int .u8 b.f2, .int .u8 b.f3, .int .i64 b.f4, .int .i64 b.f5]) (t := 52) ?hr ?_; (case hd => rfl); (case hg => rfl); (case hr => first | (go_simp; done) | (go_simp; rfl)); intro gb hgb w3 hbox hb; have Kb := Aside0.mk hbox; have GEb := Aside0.mk (Nat.le_of_eq hgb.symm : w.heap.size ≤ gb); have n0_ := Aside0.mk (below_step HB.out hb); clear HB; have HB := n0_; clear n0_ hbox hb hgb; have q1 : w3.cell? ⟨gb, 1, none⟩ = some (.int .u8 b.f1) := (blk_cell Kb.out 1).trans rfl; have q2 : w3.cell? ⟨gb, 2, none⟩ = some (.int .u8 b.f2) := (blk_cell Kb.out 2).trans rfl) | (go_at_call 9; refine (selvedgelaw13_works.calls true _ HWK.out (HG.out.below (by repeat (first | (with_reducible first | exact HB.out | apply below_alloc | apply pw_below_drewN | apply below_drew1 | refine below_set ?_ GEb.out | refine below_set ?_ GEf.out) | exact HB.out)))).mono ?_; rintro e wk ⟨rfl, hb⟩; have n0_ := Aside0.mk (below_step (by repeat (first | (with_reducible first | exact HB.out | apply below_alloc | apply pw_below_drewN | apply below_drew1 | refine below_set ?_ GEb.out | refine below_set ?_ GEf.out) | exact HB.out)) hb); clear HB; have HB := n0_; clear n0_ hb))
            go_ret
            exact ⟨rfl, (by repeat (first | (with_reducible first | exact HB.out | apply below_alloc | apply pw_below_drewN | apply below_drew1 | refine below_set ?_ GEb.out | refine below_set ?_ GEf.out) | exact HB.out))⟩
          · have k5 : decide (1 < b.f1) = false := decide_eq_false (by omega)
            have HL := Aside0.mk (show l.length ≤ 600 by omega)
            have HB4 := Aside0.mk (show overB b = false by unfold overB; simp [h3, h4])
            have HMY := Aside0.mk (show mayB ⟨0, b.f1, b.f2, 0, 0, 0⟩ = true by
              have e1 : decide (b.f1 ≤ 1) = true := decide_eq_true (by omega)
              have e2 : decide (b.f2 ≤ 5) = true := decide_eq_true (by omega)
              unfold mayB
              simp [e1, e2])
            obtain ⟨P, hP⟩ : ∃ P, (split 0 (l.map chI) [⟨0, b.f1, b.f2, 0, 0, 0⟩] true).1 = P := ⟨_, rfl⟩
            have HSP := Aside0.mk (plain_split ⟨0, b.f1, b.f2, 0, 0, 0⟩ l HB4.out HMY.out HL.out)
            have HPE := Aside0.mk hP
            have HPL := Aside0.mk (show Plain ⟨0, b.f1, b.f2, 0, 0, 0⟩ l P from hP ▸ HSP.out.2)
            clear hP h1 h2 h3 h4 h5
            go_enter Tryd.func7, Tryd.ntmps7
            go_wp2_with (first | ((with_reducible refine gate_dst (N := 3) rfl ?_); (try (refine gate_guard (by rfl) ?_; dsimp only)); refine box_event ?hg (N := 3) ?hd (cs := #[.int .u8 b.f0, .int .u8 b.f1, .int .u8 b.f2, .int .u8 b.f3, .int .i64 b.f4, .int .i64 b.f5]) (t := 52) ?hr ?_; (case hd => rfl); (case hg => rfl); (case hr => first | (go_simp; done) | (go_simp; rfl)); intro gb hgb w3 hbox hb; have Kb := Aside0.mk hbox; have GEb := Aside0.mk (Nat.le_of_eq hgb.symm : w.heap.size ≤ gb); have n0_ := Aside0.mk (below_step HB.out hb); clear HB; have HB := n0_; clear n0_ hbox hb hgb; have q1 : w3.cell? ⟨gb, 1, none⟩ = some (.int .u8 b.f1) := (blk_cell Kb.out 1).trans rfl; have q2 : w3.cell? ⟨gb, 2, none⟩ = some (.int .u8 b.f2) := (blk_cell Kb.out 2).trans rfl) | ((with_reducible refine gate_dst (N := 5) rfl ?_); (try (refine gate_guard (by rfl) ?_; dsimp only)); refine box_event ?hg (N := 5) ?hd (cs := #[.int .i64 0, .slice none 0 0]) (t := 24) ?hr ?_; (case hd => rfl); (case hg => rfl); (case hr => first | (go_simp; done) | (go_simp; rfl)); intro gf hgf w5 hbox hb; have Kf := Aside0.mk hbox; have GEf := Aside0.mk (Nat.le_trans (below_size HB.out) (Nat.le_of_eq hgf.symm) : w.heap.size ≤ gf); have Nbf := Aside0.mk (by rw [hgf]; exact Nat.ne_of_lt (blk_lt Kb.out) : gb ≠ gf); have n0_ := Aside0.mk (below_step HB.out hb); have n1_ := Aside0.mk (blk_below Kb.out hb); clear HB Kb; have HB := n0_; have Kb := n1_; clear n0_ n1_ hbox hb hgf q1 q2; have q3 : w5.cell? ⟨gf, 0, none⟩ = some (.int .i64 0) := (blk_cell Kf.out 0).trans rfl; have q4 : w5.cell? ⟨gf, 1, none⟩ = some (.slice none 0 0) := (blk_cell Kf.out 1).trans rfl; have q5 := blk_frozen Kf.out 0; have q6 := blk_frozen Kf.out 1))
            go_loopg [6] l.length (fun gk v6 wr => ∃ (i : Nat) (u : Value), v6 = .int .i64 (i : Int) ∧ Aside0 (gk = l.length - i ∧ i ≤ l.length) ∧ Aside0 (Kd.R kItm 47 wr w.heap.size (fun _ => True) u ((l.take i).map chI)) ∧ Aside0 (wr.heap[gb]? = some (.cells #[.int .u8 b.f0, .int .u8 b.f1, .int .u8 b.f2, .int .u8 b.f3, .int .i64 b.f4, .int .i64 b.f5] 52 (0, 0))) ∧ Aside0 (wr.heap[gf]? = some (.cells #[.int .i64 0, u] 24 (0, 0))) ∧ Aside0 (Below w.heap.size w wr))
            case atStart => exact ⟨0, .slice none 0 0, rfl, ⟨rfl, Nat.zero_le _⟩, ⟨Kd.R_nil _ _ _ _ _⟩, ⟨by (with_reducible repeat (first | refine blk_drewN ?_ _ | refine blk_drew ?_ | refine blk_alloc ?_ _)); refine blk_far ?_ Nbf.out _; (with_reducible repeat (first | refine blk_drewN ?_ _ | refine blk_drew ?_ | refine blk_alloc ?_ _)); refine blk_far ?_ Nbf.out _; (with_reducible repeat (first | refine blk_drewN ?_ _ | refine blk_drew ?_ | refine blk_alloc ?_ _)); exact Kb.out⟩, ⟨by (with_reducible repeat (first | refine blk_drewN ?_ _ | refine blk_drew ?_ | refine blk_alloc ?_ _)); refine blk_put (cs := #[.int .i64 0, .slice none 0 0]) ?_ 1 _ rfl; (with_reducible repeat (first | refine blk_drewN ?_ _ | refine blk_drew ?_ | refine blk_alloc ?_ _)); refine blk_put (cs := #[.int .i64 0, .slice none 0 0]) ?_ 0 _ rfl; (with_reducible repeat (first | refine blk_drewN ?_ _ | refine blk_drew ?_ | refine blk_alloc ?_ _)); exact Kf.out⟩, ⟨(by repeat (first | (with_reducible first | exact HB.out | apply below_alloc | apply pw_below_drewN | apply below_drew1 | refine below_set ?_ GEb.out | refine below_set ?_ GEf.out) | exact HB.out))⟩⟩
            case round =>
              clear HB Kb Kf q3 q4 q5 q6
              obtain ⟨i, u, rfl, HQ, HO, Kb, Kf, HB⟩ := hrel
              by_cases hi : i < l.length
              · have hi2 : decide ((i : Int) < (l.length : Int)) = true := decide_eq_true (by omega)
                have HIL := Aside0.mk hi
                have hi3 : (i : Int) < 1000000000 := by have := HL.out; omega
                obtain ⟨a0, hA0, x0⟩ := Kd.at_int HR.out (i : Int) (by omega) (by omega)
                cases hA0
                rw [Int.toNat_natCast] at x0
                obtain ⟨r, hr⟩ : ∃ r, rd l (i : Int) = r := ⟨_, rfl⟩
                rw [hr] at x0
                have HRR := Aside0.mk (show l.getD i 0 = r from hr)
                have HX0 := Aside0.mk x0
                have p0 := eq_true (show 0 ≤ (i : Int) by omega)
                have p1 := eq_true (show (i : Int) < (l.length : Int) by omega)
                clear hr hi x0
                try go_wp2
                have n0_ := Aside0.mk (Kd.R_drew HO.out)
                have n1_ := Aside0.mk (blk_drew Kb.out)
                have n2_ := Aside0.mk (blk_drew Kf.out)
                have n3_ := Aside0.mk (below_drew1 HB.out)
                clear HO Kb Kf HB
                have HO := n0_
                have Kb := n1_
                have Kf := n2_
                have HB := n3_
                clear n0_ n1_ n2_ n3_
                refine start_ (n := 11) (S := fun w' => w'.cell? ⟨gf, 0, none⟩ = some (.int .i64 0) ∧ w'.cell? ⟨gf, 1, none⟩ = some u ∧ w'.cell? (a0.add i) = some (.int .i32 r)) (ds := [10]) #[false, false, false, false, false, false, false, false, false, false, false] (by kernel_rfl) rfl rfl ⟨(blk_cell Kf.out 0).trans rfl, (blk_cell Kf.out 1).trans rfl, (HB.out.cell (World.block_lt_of_cell? w _ HX0.out)).trans HX0.out⟩ (fun hHeld => ?_)
                refine with_tabW plain.tab7 plain.bits7 (fun HT_ HW_ => ?_)
                generalize wr.drew = w7 at HO Kb Kf HB hHeld ⊢
                refine pure_ (i := 0) (N := some 44) (v := ?_) (a' := ?_) #[true, false, false, false, false, false, false, false, false, false, false] rfl rfl (any_of HT_.out (by kernel_rfl)) (fun _ _ _ h => h) (Or.inl ⟨by rfl, ?_⟩) ?_ ?_
                rotate_left
                · intro w'
                  go_simp
                  with_reducible rfl
                rotate_left
                · simp only [Act.put, List.setIfInBounds_toArray, List.set_cons_zero, List.set_cons_succ, i64_w, i32_w]
                  rfl
                refine pure_ (i := 2) (N := some 46) (v := ?_) (a' := ?_) #[true, false, true, false, false, false, false, false, false, false, false] rfl rfl (any_of HT_.out (by kernel_rfl)) (fun _ _ _ h => h) (Or.inl ⟨by rfl, ?_⟩) ?_ ?_
                rotate_left
                · intro w'
                  go_simp
                  with_reducible rfl
                rotate_left
                · simp only [Act.put, List.setIfInBounds_toArray, List.set_cons_zero, List.set_cons_succ, i64_w, i32_w]
                  rfl
                refine pure_ (i := 3) (N := some 47) (v := ?_) (a' := ?_) #[true, false, true, true, false, false, false, false, false, false, false] rfl rfl (any_of HT_.out (by kernel_rfl)) (fun _ _ _ h => h) (Or.inl ⟨by rfl, ?_⟩) ?_ ?_
                rotate_left
                · intro w'
                  go_simp
                  with_reducible rfl
                rotate_left
                · simp only [Act.put, List.setIfInBounds_toArray, List.set_cons_zero, List.set_cons_succ, i64_w, i32_w]
                  rfl
                refine pure_ (i := 4) (N := some 48) (v := ?_) (a' := ?_) #[true, false, true, true, true, false, false, false, false, false, false] rfl rfl (any_of HT_.out (by kernel_rfl)) (fun _ _ _ h => h) (Or.inl ⟨by rfl, ?_⟩) ?_ ?_
                rotate_left
                · intro w'
                  go_simp
                  with_reducible rfl
                rotate_left
                · simp only [Act.put, List.setIfInBounds_toArray, List.set_cons_zero, List.set_cons_succ, i64_w, i32_w]
                  rfl
                refine take_ (i := 1) (N := some 45) (v := ?_) (a' := ?_) #[true, true, true, true, true, false, false, false, false, false, false] rfl rfl (take_ofW HT_.out HW_.out (by kernel_rfl)) (fun _ _ _ h => h) (Or.inl ⟨by rfl, ?_⟩) hHeld ?_ ?_
                rotate_left
                · rintro w' ⟨s0, s1, s2⟩
                  go_simp
                  with_reducible rfl
                rotate_left
                · simp only [Act.put, List.setIfInBounds_toArray, List.set_cons_zero, List.set_cons_succ, i64_w, i32_w]
                  rfl
                refine take_ (i := 5) (N := some 49) (v := ?_) (a' := ?_) #[true, true, true, true, true, true, false, false, false, false, false] rfl rfl (take_ofW HT_.out HW_.out (by kernel_rfl)) (fun _ _ _ h => h) (Or.inl ⟨by rfl, ?_⟩) hHeld ?_ ?_
                rotate_left
                · rintro w' ⟨s0, s1, s2⟩
                  go_simp
                  with_reducible rfl
                rotate_left
                · simp only [Act.put, List.setIfInBounds_toArray, List.set_cons_zero, List.set_cons_succ, i64_w, i32_w]
                  rfl
                refine pure_ (i := 6) (N := some 50) (v := ?_) (a' := ?_) #[true, true, true, true, true, true, true, false, false, false, false] rfl rfl (any_of HT_.out (by kernel_rfl)) (fun _ _ _ h => h) (Or.inl ⟨by rfl, ?_⟩) ?_ ?_
                rotate_left
                · intro w'
                  go_simp
                  with_reducible rfl
                rotate_left
                · simp only [Act.put, List.setIfInBounds_toArray, List.set_cons_zero, List.set_cons_succ, i64_w, i32_w]
                  rfl
                refine one_ (i := 7) (N := some 51) #[true, true, true, true, true, true, true, true, false, false, false] rfl rfl (one_of HT_.out (by kernel_rfl)) (by decide) (fun K hK => ?_)
                refine value_ (w1 := ?_) (v := ?_) (by rfl) rfl ?_ ?_
                rotate_left 2
                · go_simp
                  constructor
                  · rfl
                  · rfl
                refine hK.out _ _ ⟨(blk_cell (blk_alloc Kf.out _) 0).trans rfl, (blk_cell (blk_alloc Kf.out _) 1).trans rfl, (World.cell?_alloc_lt _ _ _ (World.block_lt_of_cell? _ _ ((HB.out.cell (World.block_lt_of_cell? w _ HX0.out)).trans HX0.out))).trans ((HB.out.cell (World.block_lt_of_cell? w _ HX0.out)).trans HX0.out)⟩ (fun hHeld => ?_)
                clear hK K
                refine norm_ (a' := ?_) ?_ ?_
                rotate_left
                · show Act.put _ (some 51) _ = _
                  simp only [Act.put, List.setIfInBounds_toArray, List.set_cons_zero, List.set_cons_succ, i64_w, i32_w]
                  rfl
                refine one_ (i := 8) (N := some 52) #[true, true, true, true, true, true, true, true, true, false, false] rfl rfl (one_of HT_.out (by kernel_rfl)) (by decide) (fun K hK => ?_)
                refine Kd.R_append_step kItm (w0 := w) w.heap.size (by rfl) (.tmp 45) (.tmp 51) 22 47 (.agg #[(.int .u8 0), (.int .i64 0), (.bool false), (.int .i32 0), (.int .i64 0)]) 32 rfl Tryd.underlying22 info47 rfl (by decide) (by omega) u ((l.take i).map chI) (chI r) [.int .u8 3, .int .i64 0, .bool false, .int .i32 r, .int .i64 0] (fun _ => True) (fun _ => False) rfl rfl ?aP (fun _ hk => hk.elim) ?aF ?aO ?aB ?aS ?aL ?_
                (case aP => exact k47_mkM _ _ _ (chI r))
                (case aB => exact (by repeat (first | (with_reducible first | exact HB.out | apply below_alloc | apply pw_below_drewN | apply below_drew1 | refine below_set ?_ GEb.out | refine below_set ?_ GEf.out) | exact HB.out)))
                (case aF => exact (fun _ _ => trivial))
                (case aO => exact HO.out)
                (case aS => exact below_size (by repeat (first | (with_reducible first | exact HB.out | apply below_alloc | apply pw_below_drewN | apply below_drew1 | refine below_set ?_ GEb.out | refine below_set ?_ GEf.out) | exact HB.out)))
                (case aL => have := HL.out; simp only [List.length_map, List.length_take]; omega)
                intro v1 w8 ho hb hg hat
                have hto : (l.take i).map chI ++ [chI r] = (l.take (i + 1)).map chI := by rw [List.take_add_one, List.getElem?_eq_getElem HIL.out, ← HRR.out, List.getD_eq_getElem?_getD, List.getElem?_eq_getElem HIL.out, List.map_append]; rfl
                rw [hto] at ho
                have n0_ := Aside0.mk (blk_grown (g := gb) (o := .cells #[.int .u8 b.f0, .int .u8 b.f1, .int .u8 b.f2, .int .u8 b.f3, .int .i64 b.f4, .int .i64 b.f5] 52 (0, 0)) (by (with_reducible repeat (first | refine blk_drewN ?_ _ | refine blk_drew ?_ | refine blk_alloc ?_ _)); exact Kb.out) hg (Kd.R_ne HO.out Kb.out (by decide)))
                have n1_ := Aside0.mk (blk_grown (g := gf) (o := .cells #[.int .i64 0, u] 24 (0, 0)) (by (with_reducible repeat (first | refine blk_drewN ?_ _ | refine blk_drew ?_ | refine blk_alloc ?_ _)); exact Kf.out) hg (Kd.R_ne HO.out Kf.out (by decide)))
                have n2_ := Aside0.mk hb
                have n3_ := Aside0.mk ho
                clear Kb Kf HB HO
                have Kb := n0_
                have Kf := n1_
                have HB := n2_
                have HO := n3_
                clear n0_ n1_ n2_ n3_ ho hb hg hat hto
                obtain ⟨A8, c8, e8⟩ := Kd.R_slice HO.out
                obtain ⟨n8, hn8⟩ : ∃ n, n = ((l.take (i + 1)).map chI).length := ⟨_, rfl⟩
                rw [← hn8] at e8
                subst e8
                clear hn8
                refine hK.out _ _ ⟨(blk_cell Kf.out 0).trans rfl, (blk_cell Kf.out 1).trans rfl, (HB.out.cell (World.block_lt_of_cell? w _ HX0.out)).trans HX0.out⟩ (fun hHeld => ?_)
                clear hK K
                refine norm_ (a' := ?_) ?_ ?_
                rotate_left
                · show Act.put _ (some 52) _ = _
                  simp only [Act.put, List.setIfInBounds_toArray, List.set_cons_zero, List.set_cons_succ, i64_w, i32_w]
                  rfl
                refine pure_ (i := 9) (N := some 53) (v := ?_) (a' := ?_) #[true, true, true, true, true, true, true, true, true, true, false] rfl rfl (any_of HT_.out (by kernel_rfl)) (fun _ _ _ h => h) (Or.inl ⟨by rfl, ?_⟩) ?_ ?_
                rotate_left
                · intro w'
                  go_simp
                  with_reducible rfl
                rotate_left
                · simp only [Act.put, List.setIfInBounds_toArray, List.set_cons_zero, List.set_cons_succ, i64_w, i32_w]
                  rfl
                refine last_ (i := 10) (N := none) #[true, true, true, true, true, true, true, true, true, true, true] rfl rfl (one_of HT_.out (by kernel_rfl)) (by decide) (fun K hK => ?_)
                have q3 : w8.cell? ⟨gf, 1, none⟩ = some u := (blk_cell Kf.out 1).trans rfl
                have q4 := blk_frozen Kf.out 1
                have q5 := Nbf.out
                have q6 := Nbf.out.symm
                refine skip_ (w1 := ?_) (by rfl) rfl ?_ ?_
                rotate_left
                · go_simp
                  rfl
                refine hK.out _ _ ?_
                clear hK K
                refine done_ (done_of HT_.out (by kernel_rfl)) ?_
                try go_wp2
                go_roundg (l.length - (i + 1))
                case measure => have := HQ.out; have := HIL.out; omega
                case rel => exact ⟨i + 1, _, by go_num, ⟨rfl, HIL.out⟩, ⟨by (with_reducible repeat (first | apply Kd.R_alloc | apply Kd.R_drewN | apply Kd.R_drew)); exact Kd.R_mono (Kd.R_far (p := ⟨gf, 1, none⟩) (Kd.R_types HO.out Kf.out (by decide)) (fun _ hk => hk.2) _) (fun _ hk => trivial)⟩, ⟨by (with_reducible repeat (first | refine blk_drewN ?_ _ | refine blk_drew ?_ | refine blk_alloc ?_ _)); refine blk_far ?_ Nbf.out _; (with_reducible repeat (first | refine blk_drewN ?_ _ | refine blk_drew ?_ | refine blk_alloc ?_ _)); exact Kb.out⟩, ⟨by (with_reducible repeat (first | refine blk_drewN ?_ _ | refine blk_drew ?_ | refine blk_alloc ?_ _)); refine blk_put (cs := #[.int .i64 0, u]) ?_ 1 _ rfl; (with_reducible repeat (first | refine blk_drewN ?_ _ | refine blk_drew ?_ | refine blk_alloc ?_ _)); exact Kf.out⟩, ⟨(by repeat (first | (with_reducible first | exact HB.out | apply below_alloc | apply pw_below_drewN | apply below_drew1 | refine below_set ?_ GEb.out | refine below_set ?_ GEf.out) | exact HB.out))⟩⟩
              · obtain rfl : i = l.length := by have := HQ.out.2; omega
                have hi2 : decide ((l.length : Int) < (l.length : Int)) = false := decide_eq_false (by omega)
                clear hi
                rw [List.take_length] at HO
                have q0 : wr.cell? ⟨gf, 0, none⟩ = some (.int .i64 0) := (blk_cell Kf.out 0).trans rfl
                have q1 : wr.cell? ⟨gf, 1, none⟩ = some u := (blk_cell Kf.out 1).trans rfl
                have q2 : wr.cell? ⟨gb, 1, none⟩ = some (.int .u8 b.f1) := (blk_cell Kb.out 1).trans rfl
                have q3 : wr.cell? ⟨gb, 2, none⟩ = some (.int .u8 b.f2) := (blk_cell Kb.out 2).trans rfl
                obtain ⟨X, hX⟩ : ∃ X, l.map chI = X := ⟨_, rfl⟩
                rw [hX] at HO HSP HPE
                have HXE := Aside0.mk hX.symm
                clear hX
                obtain ⟨Af, cf, rfl⟩ := Kd.R_slice HO.out
                go_wp2_with (first | ((with_reducible refine gate_dst (N := 61) rfl ?_); (try (refine gate_guard (by rfl) ?_; dsimp only)); refine Kd.R_lit kSty _ 52 ?hg (N := 61) ?hd (xs := [(⟨0, b.f1, b.f2, 0, 0, 0⟩ : Sty)]) (inner := [.int .u8 0, .int .u8 b.f1, .int .u8 b.f2, .int .u8 0, .int .i64 0, .int .i64 0]) (ok := fun _ => True) (okp := fun _ => True) ?hr ?hp (fun _ hk => hk) trivial (Below.refl _ _) (Nat.le_refl _) (by simp) ?_; (case hd => rfl); (case hg => rfl); (case hr => first | (go_simp; done) | (go_simp; rfl)); (case hp => exact (Reps.c6 (show Kd.M kSty _ _ _ (⟨0, b.f1, b.f2, 0, 0, 0⟩ : Sty) [.int .u8 0, .int .u8 b.f1, .int .u8 b.f2, .int .u8 0, .int .i64 0, .int .i64 0] from (k52_mkM _ _ _ (⟨0, b.f1, b.f2, 0, 0, 0⟩ : Sty))) (Reps.none _ _))); intro v9 w9 ho9 hb hg_ hnew_; clear hg_ hnew_; have n0_ := Aside0.mk (Kd.R_below HO.out hb); have n1_ := Aside0.mk ho9; have n2_ := Aside0.mk (blk_below Kb.out hb); have n4_ := Aside0.mk (below_step HB.out hb); clear HO Kb HB; have HO := n0_; have HS9 := n1_; have Kb := n2_; have HB := n4_; clear n0_ n1_ n2_ n4_ hb ho9; obtain ⟨A9, c9, rfl⟩ := Kd.R_slice HS9.out) | (go_at_call 10; refine (split_calls 0 Af A9 cf c9 X [(⟨0, b.f1, b.f2, 0, 0, 0⟩ : Sty)] true _ (Kd.R_reads' HO.out).2.2 (Kd.R_reads' HO.out).2.1 (Kd.R_reads' HS9.out).2.2 (Kd.R_reads' HS9.out).2.1 (by rw [HXE.out, List.length_map]; have := HL.out; omega) (by simp) (by intro s hs; rw [List.mem_singleton.1 hs]; exact HU.out) (HG.out.below HB.out)).mono ?_; rintro e w10 ⟨v10, rfl, ho, hb⟩; rw [HPE.out] at ho; rw [HSP.out.1]; obtain ⟨Ap, cp, rfl⟩ := Kd.S_slice ho; have HP := Aside0.mk (show Kd.C kPar w10 Ap P.length P from (Kd.S_reads' ho).2.2); have n2_ := Aside0.mk (blk_below Kb.out hb); have n4_ := Aside0.mk (below_step HB.out hb); clear HO HS9 Kb HB; have Kb := n2_; have HB := n4_; clear n2_ n4_ hb ho))
                have HLP := Aside0.mk (show P.length ≤ 601 from Nat.le_trans (plain_len HPL.out) (by have := HL.out; omega))
                go_loopg [9, 10] P.length (fun gk v9 v10 wr => ∃ i : Nat, v9 = .int .i64 ((offs P i : Nat) : Int) ∧ v10 = .int .i64 (i : Int) ∧ Aside0 (gk = P.length - i ∧ i ≤ P.length) ∧ Aside0 (Below w10.heap.size w10 wr))
                case atStart => exact ⟨0, rfl, rfl, ⟨rfl, Nat.zero_le _⟩, ⟨Below.refl _ _⟩⟩
                case round =>
                  obtain ⟨i, rfl, rfl, HQ, HW⟩ := hrel
                  by_cases hi : i < P.length
                  · have hi2 : decide ((i : Int) < (P.length : Int)) = true := decide_eq_true (by omega)
                    have HIL := Aside0.mk hi
                    have hi3 : (i : Int) < 1000000000 := by have := HLP.out; omega
                    obtain ⟨p, hp⟩ : ∃ p, P.getD i z39 = p := ⟨_, rfl⟩
                    have HPP := Aside0.mk hp
                    obtain ⟨o, ho⟩ : ∃ o, offs P i = o := ⟨_, rfl⟩
                    rw [ho]
                    have HOO := Aside0.mk ho
                    have pi0 := eq_true (show 0 ≤ (i : Int) by omega)
                    have pi1 := eq_true (show (i : Int) < (P.length : Int) by omega)
                    clear hi hp ho
                    go_wp2
                    go_loopg [9, 11] p.f1.length (fun gk v9 v11 wr2 => ∃ k : Nat, v9 = .int .i64 ((o + k : Nat) : Int) ∧ v11 = .int .i64 (k : Int) ∧ Aside0 (gk = p.f1.length - k ∧ k ≤ p.f1.length) ∧ Aside0 (Below w10.heap.size w10 wr2))
                    case atStart => exact ⟨0, rfl, rfl, ⟨rfl, Nat.zero_le _⟩, HW⟩
                    case round =>
                      clear HW
                      obtain ⟨k, rfl, rfl, HQ2, HW⟩ := hrel
                      obtain ⟨ap, A1, c1, hA, x0, x1, x2, l1, hL⟩ := at_T39 (Kd.C_below HP.out HW.out) (i : Int) (by omega) (by have := HIL.out; omega)
                      cases hA
                      rw [Int.toNat_natCast] at x0 x1 x2
                      rw [show rd_T39 P (i : Int) = p from HPP.out] at x0 x1 x2 l1 hL
                      by_cases hk : k < p.f1.length
                      · have HKL := Aside0.mk hk
                        obtain ⟨hn1, hx⟩ := plain_at HPL.out i HIL.out k (by rw [HPP.out]; exact hk)
                        rw [HPP.out, HOO.out] at hx
                        rw [HOO.out] at hn1
                        obtain ⟨n, hn⟩ : ∃ n, o + k = n := ⟨_, rfl⟩
                        rw [hn] at hx hn1 ⊢
                        have HNN := Aside0.mk hn
                        obtain ⟨r, hr⟩ : ∃ r, l.getD n 0 = r := ⟨_, rfl⟩
                        rw [hr] at hx
                        obtain ⟨aq, hA, y0, y1, y2⟩ := at_T41 hL (k : Int) (by omega) (by omega)
                        cases hA
                        rw [Int.toNat_natCast] at y0 y1 y2
                        rw [show rd_T41 p.f1 (k : Int) = ⟨r, (n : Int), false⟩ from hx] at y0 y1 y2
                        dsimp only at y0 y1 y2
                        obtain ⟨a0, hA0, e0⟩ := Kd.at_int HR.out (n : Int) (by omega) (by omega)
                        cases hA0
                        rw [Int.toNat_natCast, show rd l (n : Int) = r from hr] at e0
                        have HE0 := Aside0.mk e0
                        have HX1 := Aside0.mk x1
                        obtain ⟨m, hm⟩ : ∃ m, p.f1.length = m + 1 := ⟨p.f1.length - 1, by omega⟩
                        rw [hm] at x1 HX1 l1
                        have HM := Aside0.mk hm
                        have HL1 := Aside0.mk l1
                        have HX := Aside0.mk hx
                        have HN1 := Aside0.mk hn1
                        have hk2 : decide ((k : Int) < ((m + 1 : Nat) : Int)) = true := decide_eq_true (by omega)
                        have hk3 : decide ((k : Int) < (m : Int) + 1) = true := decide_eq_true (by omega)
                        have pk0 := eq_true (show 0 ≤ (k : Int) by omega)
                        have pk1 := eq_true (show (k : Int) < ((m + 1 : Nat) : Int) by omega)
                        have pk2 := eq_true (show (k : Int) < (m : Int) + 1 by omega)
                        have pn0 := eq_true (show 0 ≤ (n : Int) by omega)
                        have pn1 := eq_true (show (n : Int) < (l.length : Int) by omega)
                        have pn2 : decide ((l.length : Int) ≤ (n : Int)) = false := decide_eq_false (by omega)
                        have pn3 : decide (l.length ≤ n) = false := decide_eq_false (by omega)
                        have hmb : (m : Int) < 1000000000 := by have := HL.out; have := HL1.out; have := offs_step P i HIL.out; have := offs_le HPL.out (i + 1); have := HPP.out; have := HOO.out; subst p o; omega
                        have hkb : (k : Int) < 1000000000 := by omega
                        have hnb : (n : Int) < 1000000000 := by have := HL.out; omega
                        have hlb : (l.length : Int) ≤ 600 := by have := HL.out; omega
                        have hsub : ((m + 1 : Nat) : Int) - 1 = (m : Int) := by omega
                        clear hk hn hr hm l1 hx hn1 e0 hL x0 x2
                        go_wp2_with (first | ((with_reducible refine gate_dst (N := 12) rfl ?_); (try (refine gate_guard (by rfl) ?_; dsimp only)); refine box_event ?hg (N := 12) ?hd (cs := #[.int .i32 0, .int .i64 0, .bool false]) (t := 41) ?hr ?_; (case hd => rfl); (case hg => rfl); (case hr => first | (go_simp; done) | (go_simp; rfl)); intro gx hgx w12 hbox hb; have Kx := Aside0.mk hbox; have GEx := Aside0.mk (Nat.le_trans (below_size HW.out) (Nat.le_of_eq hgx.symm) : w10.heap.size ≤ gx); have n0_ := Aside0.mk (below_step HW.out hb); clear HW; have HW := n0_; clear n0_; have n1_ := (hb.cell (World.block_lt_of_cell? _ _ y0)).trans y0; have n2_ := (hb.cell (World.block_lt_of_cell? _ _ y1)).trans y1; have n3_ := (hb.cell (World.block_lt_of_cell? _ _ y2)).trans y2; have n4_ := Aside0.mk ((hb.cell (World.block_lt_of_cell? _ _ HX1.out)).trans HX1.out); have HLT := Aside0.mk (show gx ≠ (ap.add (i * 3)).block from fun h => by have := World.block_lt_of_cell? _ _ HX1.out; simp only [] at this; omega); clear y0 y1 y2 HX1; have HX1 := n4_; clear n4_ x1 hbox hb hgx; have q0 := blk_cell Kx.out 0; have q1 := blk_cell Kx.out 1; have q2 := blk_cell Kx.out 2; have q3 := blk_frozen Kx.out 0; have q4 := blk_frozen Kx.out 1; have q5 := blk_frozen Kx.out 2))
                        generalize hwz : ((w12.setCell ⟨gx, 0, none⟩ (.int .i32 r)).setCell ⟨gx, 1, none⟩ (.int .i64 (n : Int))).setCell ⟨gx, 2, none⟩ (.bool false) = wz
                        have Kz := Aside0.mk (show wz.heap[gx]? = some (.cells #[.int .i32 r, .int .i64 (n : Int), .bool false] 41 (0, 0)) by rw [← hwz]; exact blk_put (cs := #[.int .i32 r, .int .i64 (n : Int), .bool false]) (blk_put (cs := #[.int .i32 r, .int .i64 0, .bool false]) (blk_put (cs := #[.int .i32 0, .int .i64 0, .bool false]) Kx.out 0 _ rfl) 1 _ rfl) 2 _ rfl)
                        have HWz := Aside0.mk (show Below w10.heap.size w10 wz by rw [← hwz]; exact below_set (below_set (below_set HW.out GEx.out) GEx.out) GEx.out)
                        have HXz := Aside0.mk (show wz.cell? ⟨(ap.add (i * 3)).block, (ap.add (i * 3)).off + 1, none⟩ = some (.slice (some aq) (m + 1) c1) by rw [← hwz, World.cell?_setCell_other _ _ _ _ (fun h => HLT.out (congrArg Addr.block h)), World.cell?_setCell_other _ _ _ _ (fun h => HLT.out (congrArg Addr.block h)), World.cell?_setCell_other _ _ _ _ (fun h => HLT.out (congrArg Addr.block h))]; exact HX1.out)
                        have HEz := Aside0.mk (show wz.cell? (a0.add n) = some (.int .i32 r) from ((below_step HB.out HWz.out).cell (World.block_lt_of_cell? _ _ HE0.out)).trans HE0.out)
                        clear hwz Kx HW HX1 n1_ n2_ n3_ q0 q1 q2 q3 q4 q5 HLT
                        have hwm : wrap64 (m : Int) = (m : Int) := by unfold wrap64; omega
                        have hwi : wrap64 ((i : Int) + 1) = (i : Int) + 1 := by unfold wrap64; omega
                        have hwl : wrap64 ((l.length : Int) - 1) = (l.length : Int) - 1 := by unfold wrap64; omega
                        have hr1 : (r != r) = false := by simp
                        have hr2 : ((n : Int) != (n : Int)) = false := by simp
                        refine start_ (n := 63) (S := fun w' => Below wz.heap.size wz w') (ds := []) #[false, false, false, false, false, false, false, false, false, false, false, false, false, false, false, false, false, false, false, false, false, false, false, false, false, false, false, false, false, false, false, false, false, false, false, false, false, false, false, false, false, false, false, false, false, false, false, false, false, false, false, false, false, false, false, false, false, false, false, false, false, false, false] (by kernel_rfl) rfl rfl (below_drew (Below.refl wz.heap.size wz)) (fun hHeld => ?_)
                        refine with_tabW plain.tab19 plain.bits19 (fun HT_ HW_ => ?_)
                        generalize wz.drew = w19 at hHeld ⊢
                        refine pure_ (i := 0) (N := some 91) (v := ?_) (a' := ?_) #[true, false, false, false, false, false, false, false, false, false, false, false, false, false, false, false, false, false, false, false, false, false, false, false, false, false, false, false, false, false, false, false, false, false, false, false, false, false, false, false, false, false, false, false, false, false, false, false, false, false, false, false, false, false, false, false, false, false, false, false, false, false, false] rfl rfl (any_of HT_.out (by kernel_rfl)) (fun _ _ _ h => h) (Or.inl ⟨by rfl, ?_⟩) ?_ ?_
                        rotate_left
                        · intro w'
                          go_simp
                          with_reducible rfl
                        rotate_left
                        · simp only [Act.put, List.setIfInBounds_toArray, List.set_cons_zero, List.set_cons_succ, i64_w, i32_w]
                          rfl
                        refine take_ (i := 1) (N := some 92) (v := ?_) (a' := ?_) #[true, true, false, false, false, false, false, false, false, false, false, false, false, false, false, false, false, false, false, false, false, false, false, false, false, false, false, false, false, false, false, false, false, false, false, false, false, false, false, false, false, false, false, false, false, false, false, false, false, false, false, false, false, false, false, false, false, false, false, false, false, false, false] rfl rfl (take_ofW HT_.out HW_.out (by kernel_rfl)) (fun _ _ _ h => h) (Or.inl ⟨by rfl, ?_⟩) hHeld ?_ ?_
                        rotate_left
                        · rintro w' s0
                          have z0 := (s0.cell (World.block_lt_of_cell? _ _ (blk_cell Kz.out 0))).trans (blk_cell Kz.out 0)
                          have z1 := (s0.cell (World.block_lt_of_cell? _ _ (blk_cell Kz.out 1))).trans (blk_cell Kz.out 1)
                          have z2 := (s0.cell (World.block_lt_of_cell? _ _ (blk_cell Kz.out 2))).trans (blk_cell Kz.out 2)
                          have ze := (s0.cell (World.block_lt_of_cell? _ _ HEz.out)).trans HEz.out
                          have zx := (s0.cell (World.block_lt_of_cell? _ _ HXz.out)).trans HXz.out
                          simp only [List.getElem?_toArray, List.getElem?_cons_zero, List.getElem?_cons_succ] at z0 z1 z2
                          go_simp
                          with_reducible rfl
                        rotate_left
                        · simp only [Act.put, List.setIfInBounds_toArray, List.set_cons_zero, List.set_cons_succ, i64_w, i32_w]
                          rfl
                        refine pure_ (i := 2) (N := some 93) (v := ?_) (a' := ?_) #[true, true, true, false, false, false, false, false, false, false, false, false, false, false, false, false, false, false, false, false, false, false, false, false, false, false, false, false, false, false, false, false, false, false, false, false, false, false, false, false, false, false, false, false, false, false, false, false, false, false, false, false, false, false, false, false, false, false, false, false, false, false, false] rfl rfl (any_of HT_.out (by kernel_rfl)) (fun _ _ _ h => h) (Or.inl ⟨by rfl, ?_⟩) ?_ ?_
                        rotate_left
                        · intro w'
                          go_simp
                          with_reducible rfl
                        rotate_left
                        · simp only [Act.put, List.setIfInBounds_toArray, List.set_cons_zero, List.set_cons_succ, i64_w, i32_w]
                          rfl
                        refine pure_ (i := 3) (N := some 94) (v := ?_) (a' := ?_) #[true, true, true, true, false, false, false, false, false, false, false, false, false, false, false, false, false, false, false, false, false, false, false, false, false, false, false, false, false, false, false, false, false, false, false, false, false, false, false, false, false, false, false, false, false, false, false, false, false, false, false, false, false, false, false, false, false, false, false, false, false, false, false] rfl rfl (any_of HT_.out (by kernel_rfl)) (fun _ _ _ h => h) (Or.inl ⟨by rfl, ?_⟩) ?_ ?_
                        rotate_left
                        · intro w'
                          go_simp
                          with_reducible rfl
                        rotate_left
                        · simp only [Act.put, List.setIfInBounds_toArray, List.set_cons_zero, List.set_cons_succ, i64_w, i32_w]
                          rfl
                        refine pure_ (i := 4) (N := some 95) (v := ?_) (a' := ?_) #[true, true, true, true, true, false, false, false, false, false, false, false, false, false, false, false, false, false, false, false, false, false, false, false, false, false, false, false, false, false, false, false, false, false, false, false, false, false, false, false, false, false, false, false, false, false, false, false, false, false, false, false, false, false, false, false, false, false, false, false, false, false, false] rfl rfl (any_of HT_.out (by kernel_rfl)) (fun _ _ _ h => h) (Or.inl ⟨by rfl, ?_⟩) ?_ ?_
                        rotate_left
                        · intro w'
                          go_simp
                          with_reducible rfl
                        rotate_left
                        · simp only [Act.put, List.setIfInBounds_toArray, List.set_cons_zero, List.set_cons_succ, i64_w, i32_w]
                          rfl
                        refine pure_ (i := 5) (N := some 96) (v := ?_) (a' := ?_) #[true, true, true, true, true, true, false, false, false, false, false, false, false, false, false, false, false, false, false, false, false, false, false, false, false, false, false, false, false, false, false, false, false, false, false, false, false, false, false, false, false, false, false, false, false, false, false, false, false, false, false, false, false, false, false, false, false, false, false, false, false, false, false] rfl rfl (any_of HT_.out (by kernel_rfl)) (fun _ _ _ h => h) (Or.inl ⟨by rfl, ?_⟩) ?_ ?_
                        rotate_left
                        · intro w'
                          go_simp
                          with_reducible rfl
                        rotate_left
                        · simp only [Act.put, List.setIfInBounds_toArray, List.set_cons_zero, List.set_cons_succ, i64_w, i32_w]
                          rfl
                        refine pure_ (i := 6) (N := some 97) (v := ?_) (a' := ?_) #[true, true, true, true, true, true, true, false, false, false, false, false, false, false, false, false, false, false, false, false, false, false, false, false, false, false, false, false, false, false, false, false, false, false, false, false, false, false, false, false, false, false, false, false, false, false, false, false, false, false, false, false, false, false, false, false, false, false, false, false, false, false, false] rfl rfl (any_of HT_.out (by kernel_rfl)) (fun _ _ _ h => h) (Or.inl ⟨by rfl, ?_⟩) ?_ ?_
                        rotate_left
                        · intro w'
                          go_simp
                          with_reducible rfl
                        rotate_left
                        · simp only [Act.put, List.setIfInBounds_toArray, List.set_cons_zero, List.set_cons_succ, i64_w, i32_w]
                          rfl
                        refine pure_ (i := 7) (N := some 98) (v := ?_) (a' := ?_) #[true, true, true, true, true, true, true, true, false, false, false, false, false, false, false, false, false, false, false, false, false, false, false, false, false, false, false, false, false, false, false, false, false, false, false, false, false, false, false, false, false, false, false, false, false, false, false, false, false, false, false, false, false, false, false, false, false, false, false, false, false, false, false] rfl rfl (any_of HT_.out (by kernel_rfl)) (fun _ _ _ h => h) (Or.inl ⟨by rfl, ?_⟩) ?_ ?_
                        rotate_left
                        · intro w'
                          go_simp
                          with_reducible rfl
                        rotate_left
                        · simp only [Act.put, List.setIfInBounds_toArray, List.set_cons_zero, List.set_cons_succ, i64_w, i32_w]
                          rfl
                        refine pure_ (i := 8) (N := some 99) (v := ?_) (a' := ?_) #[true, true, true, true, true, true, true, true, true, false, false, false, false, false, false, false, false, false, false, false, false, false, false, false, false, false, false, false, false, false, false, false, false, false, false, false, false, false, false, false, false, false, false, false, false, false, false, false, false, false, false, false, false, false, false, false, false, false, false, false, false, false, false] rfl rfl (any_of HT_.out (by kernel_rfl)) (fun _ _ _ h => h) (Or.inl ⟨by rfl, ?_⟩) ?_ ?_
                        rotate_left
                        · intro w'
                          go_simp
                          with_reducible rfl
                        rotate_left
                        · simp only [Act.put, List.setIfInBounds_toArray, List.set_cons_zero, List.set_cons_succ, i64_w, i32_w]
                          rfl
                        refine pure_ (i := 9) (N := some 100) (v := ?_) (a' := ?_) #[true, true, true, true, true, true, true, true, true, true, false, false, false, false, false, false, false, false, false, false, false, false, false, false, false, false, false, false, false, false, false, false, false, false, false, false, false, false, false, false, false, false, false, false, false, false, false, false, false, false, false, false, false, false, false, false, false, false, false, false, false, false, false] rfl rfl (any_of HT_.out (by kernel_rfl)) (fun _ _ _ h => h) (Or.inl ⟨by rfl, ?_⟩) ?_ ?_
                        rotate_left
                        · intro w'
                          go_simp
                          with_reducible rfl
                        rotate_left
                        · simp only [Act.put, List.setIfInBounds_toArray, List.set_cons_zero, List.set_cons_succ, i64_w, i32_w]
                          rfl
                        refine pure_ (i := 11) (N := some 102) (v := ?_) (a' := ?_) #[true, true, true, true, true, true, true, true, true, true, false, true, false, false, false, false, false, false, false, false, false, false, false, false, false, false, false, false, false, false, false, false, false, false, false, false, false, false, false, false, false, false, false, false, false, false, false, false, false, false, false, false, false, false, false, false, false, false, false, false, false, false, false] rfl rfl (any_of HT_.out (by kernel_rfl)) (fun _ _ _ h => h) (Or.inl ⟨by rfl, ?_⟩) ?_ ?_
                        rotate_left
                        · intro w'
                          go_simp
                          with_reducible rfl
                        rotate_left
                        · simp only [Act.put, List.setIfInBounds_toArray, List.set_cons_zero, List.set_cons_succ, i64_w, i32_w]
                          rfl
                        refine pure_ (i := 12) (N := some 103) (v := ?_) (a' := ?_) #[true, true, true, true, true, true, true, true, true, true, false, true, true, false, false, false, false, false, false, false, false, false, false, false, false, false, false, false, false, false, false, false, false, false, false, false, false, false, false, false, false, false, false, false, false, false, false, false, false, false, false, false, false, false, false, false, false, false, false, false, false, false, false] rfl rfl (any_of HT_.out (by kernel_rfl)) (fun _ _ _ h => h) (Or.inl ⟨by rfl, ?_⟩) ?_ ?_
                        rotate_left
                        · intro w'
                          go_simp
                          with_reducible rfl
                        rotate_left
                        · simp only [Act.put, List.setIfInBounds_toArray, List.set_cons_zero, List.set_cons_succ, i64_w, i32_w]
                          rfl
                        refine pure_ (i := 13) (N := some 104) (v := ?_) (a' := ?_) #[true, true, true, true, true, true, true, true, true, true, false, true, true, true, false, false, false, false, false, false, false, false, false, false, false, false, false, false, false, false, false, false, false, false, false, false, false, false, false, false, false, false, false, false, false, false, false, false, false, false, false, false, false, false, false, false, false, false, false, false, false, false, false] rfl rfl (any_of HT_.out (by kernel_rfl)) (fun _ _ _ h => h) (Or.inl ⟨by rfl, ?_⟩) ?_ ?_
                        rotate_left
                        · intro w'
                          go_simp
                          with_reducible rfl
                        rotate_left
                        · simp only [Act.put, List.setIfInBounds_toArray, List.set_cons_zero, List.set_cons_succ, i64_w, i32_w]
                          rfl
                        refine take_ (i := 10) (N := some 101) (v := ?_) (a' := ?_) #[true, true, true, true, true, true, true, true, true, true, true, true, true, true, false, false, false, false, false, false, false, false, false, false, false, false, false, false, false, false, false, false, false, false, false, false, false, false, false, false, false, false, false, false, false, false, false, false, false, false, false, false, false, false, false, false, false, false, false, false, false, false, false] rfl rfl (take_ofW HT_.out HW_.out (by kernel_rfl)) (fun _ _ _ h => h) (Or.inl ⟨by rfl, ?_⟩) hHeld ?_ ?_
                        rotate_left
                        · rintro w' s0
                          have z0 := (s0.cell (World.block_lt_of_cell? _ _ (blk_cell Kz.out 0))).trans (blk_cell Kz.out 0)
                          have z1 := (s0.cell (World.block_lt_of_cell? _ _ (blk_cell Kz.out 1))).trans (blk_cell Kz.out 1)
                          have z2 := (s0.cell (World.block_lt_of_cell? _ _ (blk_cell Kz.out 2))).trans (blk_cell Kz.out 2)
                          have ze := (s0.cell (World.block_lt_of_cell? _ _ HEz.out)).trans HEz.out
                          have zx := (s0.cell (World.block_lt_of_cell? _ _ HXz.out)).trans HXz.out
                          simp only [List.getElem?_toArray, List.getElem?_cons_zero, List.getElem?_cons_succ] at z0 z1 z2
                          go_simp
                          with_reducible rfl
                        rotate_left
                        · simp only [Act.put, List.setIfInBounds_toArray, List.set_cons_zero, List.set_cons_succ, i64_w, i32_w]
                          rfl
                        refine take_ (i := 14) (N := some 105) (v := ?_) (a' := ?_) #[true, true, true, true, true, true, true, true, true, true, true, true, true, true, true, false, false, false, false, false, false, false, false, false, false, false, false, false, false, false, false, false, false, false, false, false, false, false, false, false, false, false, false, false, false, false, false, false, false, false, false, false, false, false, false, false, false, false, false, false, false, false, false] rfl rfl (take_ofW HT_.out HW_.out (by kernel_rfl)) (fun _ _ _ h => h) (Or.inl ⟨by rfl, ?_⟩) hHeld ?_ ?_
                        rotate_left
                        · rintro w' s0
                          have z0 := (s0.cell (World.block_lt_of_cell? _ _ (blk_cell Kz.out 0))).trans (blk_cell Kz.out 0)
                          have z1 := (s0.cell (World.block_lt_of_cell? _ _ (blk_cell Kz.out 1))).trans (blk_cell Kz.out 1)
                          have z2 := (s0.cell (World.block_lt_of_cell? _ _ (blk_cell Kz.out 2))).trans (blk_cell Kz.out 2)
                          have ze := (s0.cell (World.block_lt_of_cell? _ _ HEz.out)).trans HEz.out
                          have zx := (s0.cell (World.block_lt_of_cell? _ _ HXz.out)).trans HXz.out
                          simp only [List.getElem?_toArray, List.getElem?_cons_zero, List.getElem?_cons_succ] at z0 z1 z2
                          go_simp
                          with_reducible rfl
                        rotate_left
                        · simp only [Act.put, List.setIfInBounds_toArray, List.set_cons_zero, List.set_cons_succ, i64_w, i32_w]
                          rfl
                        refine pure_ (i := 15) (N := some 106) (v := ?_) (a' := ?_) #[true, true, true, true, true, true, true, true, true, true, true, true, true, true, true, true, false, false, false, false, false, false, false, false, false, false, false, false, false, false, false, false, false, false, false, false, false, false, false, false, false, false, false, false, false, false, false, false, false, false, false, false, false, false, false, false, false, false, false, false, false, false, false] rfl rfl (any_of HT_.out (by kernel_rfl)) (fun _ _ _ h => h) (Or.inl ⟨by rfl, ?_⟩) ?_ ?_
                        rotate_left
                        · intro w'
                          go_simp
                          with_reducible rfl
                        rotate_left
                        · simp only [Act.put, List.setIfInBounds_toArray, List.set_cons_zero, List.set_cons_succ, i64_w, i32_w]
                          rfl
                        refine pure_ (i := 16) (N := some 107) (v := ?_) (a' := ?_) #[true, true, true, true, true, true, true, true, true, true, true, true, true, true, true, true, true, false, false, false, false, false, false, false, false, false, false, false, false, false, false, false, false, false, false, false, false, false, false, false, false, false, false, false, false, false, false, false, false, false, false, false, false, false, false, false, false, false, false, false, false, false, false] rfl rfl (any_of HT_.out (by kernel_rfl)) (fun _ _ _ h => h) (Or.inl ⟨by rfl, ?_⟩) ?_ ?_
                        rotate_left
                        · intro w'
                          go_simp
                          with_reducible rfl
                        rotate_left
                        · simp only [Act.put, List.setIfInBounds_toArray, List.set_cons_zero, List.set_cons_succ, i64_w, i32_w]
                          rfl
                        refine pure_ (i := 17) (N := some 108) (v := ?_) (a' := ?_) #[true, true, true, true, true, true, true, true, true, true, true, true, true, true, true, true, true, true, false, false, false, false, false, false, false, false, false, false, false, false, false, false, false, false, false, false, false, false, false, false, false, false, false, false, false, false, false, false, false, false, false, false, false, false, false, false, false, false, false, false, false, false, false] rfl rfl (any_of HT_.out (by kernel_rfl)) (fun _ _ _ h => h) (Or.inl ⟨by rfl, ?_⟩) ?_ ?_
                        rotate_left
                        · intro w'
                          go_simp
                          with_reducible rfl
                        rotate_left
                        · simp only [Act.put, List.setIfInBounds_toArray, List.set_cons_zero, List.set_cons_succ, i64_w, i32_w]
                          rfl
                        refine pure_ (i := 18) (N := some 109) (v := ?_) (a' := ?_) #[true, true, true, true, true, true, true, true, true, true, true, true, true, true, true, true, true, true, true, false, false, false, false, false, false, false, false, false, false, false, false, false, false, false, false, false, false, false, false, false, false, false, false, false, false, false, false, false, false, false, false, false, false, false, false, false, false, false, false, false, false, false, false] rfl rfl (any_of HT_.out (by kernel_rfl)) (fun _ _ _ h => h) (Or.inl ⟨by rfl, ?_⟩) ?_ ?_
                        rotate_left
                        · intro w'
                          go_simp
                          with_reducible rfl
                        rotate_left
                        · simp only [Act.put, List.setIfInBounds_toArray, List.set_cons_zero, List.set_cons_succ, i64_w, i32_w]
                          rfl
                        refine pure_ (i := 20) (N := some 111) (v := ?_) (a' := ?_) #[true, true, true, true, true, true, true, true, true, true, true, true, true, true, true, true, true, true, true, false, true, false, false, false, false, false, false, false, false, false, false, false, false, false, false, false, false, false, false, false, false, false, false, false, false, false, false, false, false, false, false, false, false, false, false, false, false, false, false, false, false, false, false] rfl rfl (any_of HT_.out (by kernel_rfl)) (fun _ _ _ h => h) (Or.inl ⟨by rfl, ?_⟩) ?_ ?_
                        rotate_left
                        · intro w'
                          go_simp
                          with_reducible rfl
                        rotate_left
                        · simp only [Act.put, List.setIfInBounds_toArray, List.set_cons_zero, List.set_cons_succ, i64_w, i32_w]
                          rfl
                        refine take_ (i := 19) (N := some 110) (v := ?_) (a' := ?_) #[true, true, true, true, true, true, true, true, true, true, true, true, true, true, true, true, true, true, true, true, true, false, false, false, false, false, false, false, false, false, false, false, false, false, false, false, false, false, false, false, false, false, false, false, false, false, false, false, false, false, false, false, false, false, false, false, false, false, false, false, false, false, false] rfl rfl (take_ofW HT_.out HW_.out (by kernel_rfl)) (fun _ _ _ h => h) (Or.inl ⟨by rfl, ?_⟩) hHeld ?_ ?_
                        rotate_left
                        · rintro w' s0
                          have z0 := (s0.cell (World.block_lt_of_cell? _ _ (blk_cell Kz.out 0))).trans (blk_cell Kz.out 0)
                          have z1 := (s0.cell (World.block_lt_of_cell? _ _ (blk_cell Kz.out 1))).trans (blk_cell Kz.out 1)
                          have z2 := (s0.cell (World.block_lt_of_cell? _ _ (blk_cell Kz.out 2))).trans (blk_cell Kz.out 2)
                          have ze := (s0.cell (World.block_lt_of_cell? _ _ HEz.out)).trans HEz.out
                          have zx := (s0.cell (World.block_lt_of_cell? _ _ HXz.out)).trans HXz.out
                          simp only [List.getElem?_toArray, List.getElem?_cons_zero, List.getElem?_cons_succ] at z0 z1 z2
                          go_simp
                          with_reducible rfl
                        rotate_left
                        · simp only [Act.put, List.setIfInBounds_toArray, List.set_cons_zero, List.set_cons_succ, i64_w, i32_w]
                          rfl
                        refine pure_ (i := 21) (N := some 112) (v := ?_) (a' := ?_) #[true, true, true, true, true, true, true, true, true, true, true, true, true, true, true, true, true, true, true, true, true, true, false, false, false, false, false, false, false, false, false, false, false, false, false, false, false, false, false, false, false, false, false, false, false, false, false, false, false, false, false, false, false, false, false, false, false, false, false, false, false, false, false] rfl rfl (any_of HT_.out (by kernel_rfl)) (fun _ _ _ h => h) (Or.inl ⟨by rfl, ?_⟩) ?_ ?_
                        rotate_left
                        · intro w'
                          go_simp
                          with_reducible rfl
                        rotate_left
                        · simp only [Act.put, List.setIfInBounds_toArray, List.set_cons_zero, List.set_cons_succ, i64_w, i32_w]
                          rfl
                        refine pure_ (i := 22) (N := some 113) (v := ?_) (a' := ?_) #[true, true, true, true, true, true, true, true, true, true, true, true, true, true, true, true, true, true, true, true, true, true, true, false, false, false, false, false, false, false, false, false, false, false, false, false, false, false, false, false, false, false, false, false, false, false, false, false, false, false, false, false, false, false, false, false, false, false, false, false, false, false, false] rfl rfl (any_of HT_.out (by kernel_rfl)) (fun _ _ _ h => h) (Or.inl ⟨by rfl, ?_⟩) ?_ ?_
                        rotate_left
                        · intro w'
                          go_simp
                          with_reducible rfl
                        rotate_left
                        · simp only [Act.put, List.setIfInBounds_toArray, List.set_cons_zero, List.set_cons_succ, i64_w, i32_w]
                          rfl
                        refine pure_ (i := 23) (N := some 114) (v := ?_) (a' := ?_) #[true, true, true, true, true, true, true, true, true, true, true, true, true, true, true, true, true, true, true, true, true, true, true, true, false, false, false, false, false, false, false, false, false, false, false, false, false, false, false, false, false, false, false, false, false, false, false, false, false, false, false, false, false, false, false, false, false, false, false, false, false, false, false] rfl rfl (any_of HT_.out (by kernel_rfl)) (fun _ _ _ h => h) (Or.inl ⟨by rfl, ?_⟩) ?_ ?_
                        rotate_left
                        · intro w'
                          go_simp
                          with_reducible rfl
                        rotate_left
                        · simp only [Act.put, List.setIfInBounds_toArray, List.set_cons_zero, List.set_cons_succ, i64_w, i32_w]
                          rfl
                        refine pure_ (i := 24) (N := some 115) (v := ?_) (a' := ?_) #[true, true, true, true, true, true, true, true, true, true, true, true, true, true, true, true, true, true, true, true, true, true, true, true, true, false, false, false, false, false, false, false, false, false, false, false, false, false, false, false, false, false, false, false, false, false, false, false, false, false, false, false, false, false, false, false, false, false, false, false, false, false, false] rfl rfl (any_of HT_.out (by kernel_rfl)) (fun _ _ _ h => h) (Or.inl ⟨by rfl, ?_⟩) ?_ ?_
                        rotate_left
                        · intro w'
                          go_simp
                          with_reducible rfl
                        rotate_left
                        · simp only [Act.put, List.setIfInBounds_toArray, List.set_cons_zero, List.set_cons_succ, i64_w, i32_w]
                          rfl
                        refine pure_ (i := 25) (N := some 116) (v := ?_) (a' := ?_) #[true, true, true, true, true, true, true, true, true, true, true, true, true, true, true, true, true, true, true, true, true, true, true, true, true, true, false, false, false, false, false, false, false, false, false, false, false, false, false, false, false, false, false, false, false, false, false, false, false, false, false, false, false, false, false, false, false, false, false, false, false, false, false] rfl rfl (any_of HT_.out (by kernel_rfl)) (fun _ _ _ h => h) (Or.inl ⟨by rfl, ?_⟩) ?_ ?_
                        rotate_left
                        · intro w'
                          go_simp
                          with_reducible rfl
                        rotate_left
                        · simp only [Act.put, List.setIfInBounds_toArray, List.set_cons_zero, List.set_cons_succ, i64_w, i32_w]
                          rfl
                        refine pure_ (i := 26) (N := some 117) (v := ?_) (a' := ?_) #[true, true, true, true, true, true, true, true, true, true, true, true, true, true, true, true, true, true, true, true, true, true, true, true, true, true, true, false, false, false, false, false, false, false, false, false, false, false, false, false, false, false, false, false, false, false, false, false, false, false, false, false, false, false, false, false, false, false, false, false, false, false, false] rfl rfl (any_of HT_.out (by kernel_rfl)) (fun _ _ _ h => h) (Or.inl ⟨by rfl, ?_⟩) ?_ ?_
                        rotate_left
                        · intro w'
                          go_simp
                          with_reducible rfl
                        rotate_left
                        · simp only [Act.put, List.setIfInBounds_toArray, List.set_cons_zero, List.set_cons_succ, i64_w, i32_w]
                          rfl
                        refine pure_ (i := 30) (N := some 121) (v := ?_) (a' := ?_) #[true, true, true, true, true, true, true, true, true, true, true, true, true, true, true, true, true, true, true, true, true, true, true, true, true, true, true, false, false, false, true, false, false, false, false, false, false, false, false, false, false, false, false, false, false, false, false, false, false, false, false, false, false, false, false, false, false, false, false, false, false, false, false] rfl rfl (any_of HT_.out (by kernel_rfl)) (fun _ _ _ h => h) (Or.inl ⟨by rfl, ?_⟩) ?_ ?_
                        rotate_left
                        · intro w'
                          go_simp
                          with_reducible rfl
                        rotate_left
                        · simp only [Act.put, List.setIfInBounds_toArray, List.set_cons_zero, List.set_cons_succ, i64_w, i32_w]
                          rfl
                        refine pure_ (i := 31) (N := some 122) (v := ?_) (a' := ?_) #[true, true, true, true, true, true, true, true, true, true, true, true, true, true, true, true, true, true, true, true, true, true, true, true, true, true, true, false, false, false, true, true, false, false, false, false, false, false, false, false, false, false, false, false, false, false, false, false, false, false, false, false, false, false, false, false, false, false, false, false, false, false, false] rfl rfl (any_of HT_.out (by kernel_rfl)) (fun _ _ _ h => h) (Or.inl ⟨by rfl, ?_⟩) ?_ ?_
                        rotate_left
                        · intro w'
                          go_simp
                          with_reducible rfl
                        rotate_left
                        · simp only [Act.put, List.setIfInBounds_toArray, List.set_cons_zero, List.set_cons_succ, i64_w, i32_w]
                          rfl
                        refine pure_ (i := 32) (N := some 123) (v := ?_) (a' := ?_) #[true, true, true, true, true, true, true, true, true, true, true, true, true, true, true, true, true, true, true, true, true, true, true, true, true, true, true, false, false, false, true, true, true, false, false, false, false, false, false, false, false, false, false, false, false, false, false, false, false, false, false, false, false, false, false, false, false, false, false, false, false, false, false] rfl rfl (any_of HT_.out (by kernel_rfl)) (fun _ _ _ h => h) (Or.inl ⟨by rfl, ?_⟩) ?_ ?_
                        rotate_left
                        · intro w'
                          go_simp
                          with_reducible rfl
                        rotate_left
                        · simp only [Act.put, List.setIfInBounds_toArray, List.set_cons_zero, List.set_cons_succ, i64_w, i32_w]
                          rfl
                        refine pure_ (i := 33) (N := some 124) (v := ?_) (a' := ?_) #[true, true, true, true, true, true, true, true, true, true, true, true, true, true, true, true, true, true, true, true, true, true, true, true, true, true, true, false, false, false, true, true, true, true, false, false, false, false, false, false, false, false, false, false, false, false, false, false, false, false, false, false, false, false, false, false, false, false, false, false, false, false, false] rfl rfl (any_of HT_.out (by kernel_rfl)) (fun _ _ _ h => h) (Or.inl ⟨by rfl, ?_⟩) ?_ ?_
                        rotate_left
                        · intro w'
                          go_simp
                          with_reducible rfl
                        rotate_left
                        · simp only [Act.put, List.setIfInBounds_toArray, List.set_cons_zero, List.set_cons_succ, i64_w, i32_w]
                          rfl
                        refine pure_ (i := 34) (N := some 125) (v := ?_) (a' := ?_) #[true, true, true, true, true, true, true, true, true, true, true, true, true, true, true, true, true, true, true, true, true, true, true, true, true, true, true, false, false, false, true, true, true, true, true, false, false, false, false, false, false, false, false, false, false, false, false, false, false, false, false, false, false, false, false, false, false, false, false, false, false, false, false] rfl rfl (any_of HT_.out (by kernel_rfl)) (fun _ _ _ h => h) (Or.inl ⟨by rfl, ?_⟩) ?_ ?_
                        rotate_left
                        · intro w'
                          go_simp
                          with_reducible rfl
                        rotate_left
                        · simp only [Act.put, List.setIfInBounds_toArray, List.set_cons_zero, List.set_cons_succ, i64_w, i32_w]
                          rfl
                        refine take_ (i := 27) (N := some 118) (v := ?_) (a' := ?_) #[true, true, true, true, true, true, true, true, true, true, true, true, true, true, true, true, true, true, true, true, true, true, true, true, true, true, true, true, false, false, true, true, true, true, true, false, false, false, false, false, false, false, false, false, false, false, false, false, false, false, false, false, false, false, false, false, false, false, false, false, false, false, false] rfl rfl (take_ofW HT_.out HW_.out (by kernel_rfl)) (fun _ _ _ h => h) (Or.inl ⟨by rfl, ?_⟩) hHeld ?_ ?_
                        rotate_left
                        · rintro w' s0
                          have z0 := (s0.cell (World.block_lt_of_cell? _ _ (blk_cell Kz.out 0))).trans (blk_cell Kz.out 0)
                          have z1 := (s0.cell (World.block_lt_of_cell? _ _ (blk_cell Kz.out 1))).trans (blk_cell Kz.out 1)
                          have z2 := (s0.cell (World.block_lt_of_cell? _ _ (blk_cell Kz.out 2))).trans (blk_cell Kz.out 2)
                          have ze := (s0.cell (World.block_lt_of_cell? _ _ HEz.out)).trans HEz.out
                          have zx := (s0.cell (World.block_lt_of_cell? _ _ HXz.out)).trans HXz.out
                          simp only [List.getElem?_toArray, List.getElem?_cons_zero, List.getElem?_cons_succ] at z0 z1 z2
                          go_simp
                          with_reducible rfl
                        rotate_left
                        · simp only [Act.put, List.setIfInBounds_toArray, List.set_cons_zero, List.set_cons_succ, i64_w, i32_w]
                          rfl
                        refine take_ (i := 35) (N := some 126) (v := ?_) (a' := ?_) #[true, true, true, true, true, true, true, true, true, true, true, true, true, true, true, true, true, true, true, true, true, true, true, true, true, true, true, true, false, false, true, true, true, true, true, true, false, false, false, false, false, false, false, false, false, false, false, false, false, false, false, false, false, false, false, false, false, false, false, false, false, false, false] rfl rfl (take_ofW HT_.out HW_.out (by kernel_rfl)) (fun _ _ _ h => h) (Or.inl ⟨by rfl, ?_⟩) hHeld ?_ ?_
                        rotate_left
                        · rintro w' s0
                          have z0 := (s0.cell (World.block_lt_of_cell? _ _ (blk_cell Kz.out 0))).trans (blk_cell Kz.out 0)
                          have z1 := (s0.cell (World.block_lt_of_cell? _ _ (blk_cell Kz.out 1))).trans (blk_cell Kz.out 1)
                          have z2 := (s0.cell (World.block_lt_of_cell? _ _ (blk_cell Kz.out 2))).trans (blk_cell Kz.out 2)
                          have ze := (s0.cell (World.block_lt_of_cell? _ _ HEz.out)).trans HEz.out
                          have zx := (s0.cell (World.block_lt_of_cell? _ _ HXz.out)).trans HXz.out
                          simp only [List.getElem?_toArray, List.getElem?_cons_zero, List.getElem?_cons_succ] at z0 z1 z2
                          go_simp
                          with_reducible rfl
                        rotate_left
                        · simp only [Act.put, List.setIfInBounds_toArray, List.set_cons_zero, List.set_cons_succ, i64_w, i32_w]
                          rfl
                        refine pure_ (i := 36) (N := some 127) (v := ?_) (a' := ?_) #[true, true, true, true, true, true, true, true, true, true, true, true, true, true, true, true, true, true, true, true, true, true, true, true, true, true, true, true, false, false, true, true, true, true, true, true, true, false, false, false, false, false, false, false, false, false, false, false, false, false, false, false, false, false, false, false, false, false, false, false, false, false, false] rfl rfl (any_of HT_.out (by kernel_rfl)) (fun _ _ _ h => h) (Or.inl ⟨by rfl, ?_⟩) ?_ ?_
                        rotate_left
                        · intro w'
                          go_simp
                          with_reducible rfl
                        rotate_left
                        · simp only [Act.put, List.setIfInBounds_toArray, List.set_cons_zero, List.set_cons_succ, i64_w, i32_w]
                          rfl
                        refine pure_ (i := 37) (N := some 128) (v := ?_) (a' := ?_) #[true, true, true, true, true, true, true, true, true, true, true, true, true, true, true, true, true, true, true, true, true, true, true, true, true, true, true, true, false, false, true, true, true, true, true, true, true, true, false, false, false, false, false, false, false, false, false, false, false, false, false, false, false, false, false, false, false, false, false, false, false, false, false] rfl rfl (any_of HT_.out (by kernel_rfl)) (fun _ _ _ h => h) (Or.inl ⟨by rfl, ?_⟩) ?_ ?_
                        rotate_left
                        · intro w'
                          go_simp
                          with_reducible rfl
                        rotate_left
                        · simp only [Act.put, List.setIfInBounds_toArray, List.set_cons_zero, List.set_cons_succ, i64_w, i32_w]
                          rfl
                        refine pure_ (i := 38) (N := some 129) (v := ?_) (a' := ?_) #[true, true, true, true, true, true, true, true, true, true, true, true, true, true, true, true, true, true, true, true, true, true, true, true, true, true, true, true, false, false, true, true, true, true, true, true, true, true, true, false, false, false, false, false, false, false, false, false, false, false, false, false, false, false, false, false, false, false, false, false, false, false, false] rfl rfl (any_of HT_.out (by kernel_rfl)) (fun _ _ _ h => h) (Or.inl ⟨by rfl, ?_⟩) ?_ ?_
                        rotate_left
                        · intro w'
                          go_simp
                          with_reducible rfl
                        rotate_left
                        · simp only [Act.put, List.setIfInBounds_toArray, List.set_cons_zero, List.set_cons_succ, i64_w, i32_w]
                          rfl
                        refine one_ (i := 28) (N := some 119) #[true, true, true, true, true, true, true, true, true, true, true, true, true, true, true, true, true, true, true, true, true, true, true, true, true, true, true, true, true, false, true, true, true, true, true, true, true, true, true, false, false, false, false, false, false, false, false, false, false, false, false, false, false, false, false, false, false, false, false, false, false, false, false] rfl rfl (one_of HT_.out (by kernel_rfl)) (by decide) (fun K hK => ?_)
                        refine goes_ Tryd.func16 (by kernel_rfl) rfl #[.int .i32 r] (by rfl) rfl rfl (by (try simp only [List.map_toArray, List.map_cons, List.map_nil]); first | done | rfl) ?_
                        refine (class_calls r _).mono ?_
                        rintro e w71 ⟨rfl, hb⟩
                        refine ⟨_, rfl, ?_⟩
                        have n0_ := below_step hHeld hb
                        refine hK.out _ _ n0_ (fun hHeld => ?_)
                        clear hK K
                        refine norm_ (a' := ?_) ?_ ?_
                        rotate_left
                        · show Act.put _ (some 119) _ = _
                          simp only [Act.put, List.setIfInBounds_toArray, List.set_cons_zero, List.set_cons_succ, i64_w, i32_w]
                          rfl
                        refine pure_ (i := 29) (N := some 120) (v := ?_) (a' := ?_) #[true, true, true, true, true, true, true, true, true, true, true, true, true, true, true, true, true, true, true, true, true, true, true, true, true, true, true, true, true, true, true, true, true, true, true, true, true, true, true, false, false, false, false, false, false, false, false, false, false, false, false, false, false, false, false, false, false, false, false, false, false, false, false] rfl rfl (any_of HT_.out (by kernel_rfl)) (fun _ _ _ h => h) (Or.inl ⟨by rfl, ?_⟩) ?_ ?_
                        rotate_left
                        · intro w'
                          go_simp
                          with_reducible rfl
                        rotate_left
                        · simp only [Act.put, List.setIfInBounds_toArray, List.set_cons_zero, List.set_cons_succ, i64_w, i32_w]
                          rfl
                        refine pure_ (i := 39) (N := some 130) (v := ?_) (a' := ?_) #[true, true, true, true, true, true, true, true, true, true, true, true, true, true, true, true, true, true, true, true, true, true, true, true, true, true, true, true, true, true, true, true, true, true, true, true, true, true, true, true, false, false, false, false, false, false, false, false, false, false, false, false, false, false, false, false, false, false, false, false, false, false, false] rfl rfl (any_of HT_.out (by kernel_rfl)) (fun _ _ _ h => h) (Or.inl ⟨by rfl, ?_⟩) ?_ ?_
                        rotate_left
                        · intro w'
                          go_simp
                          with_reducible rfl
                        rotate_left
                        · simp only [Act.put, List.setIfInBounds_toArray, List.set_cons_zero, List.set_cons_succ, i64_w, i32_w]
                          rfl
                        by_cases hkm : k = m
                        · have hkk : ((k : Int) == (m : Int)) = true := by simp [hkm]
                          rw [hkk]
                          subst hkm
                          clear hkk
                          by_cases hil : i + 1 < P.length
                          · have hc : clsOf r = 11 := by have h1 := (HPL.out.last i hil).2; rw [HPP.out, HM.out, Nat.add_sub_cancel, HX.out] at h1; exact h1
                            have hcb : (clsOf r == 11) = true := by simp [hc]
                            have hil2 : decide ((i : Int) + 1 < (P.length : Int)) = true := decide_eq_true (by omega); have hil3 : decide (i + 1 < P.length) = true := decide_eq_true (by omega)
                            rw [hcb]
                            have hcc : (true != true) = false := rfl
                            clear hc hil
                            refine pure_ (i := 40) (N := some 131) (v := ?_) (a' := ?_) #[true, true, true, true, true, true, true, true, true, true, true, true, true, true, true, true, true, true, true, true, true, true, true, true, true, true, true, true, true, true, true, true, true, true, true, true, true, true, true, true, true, false, false, false, false, false, false, false, false, false, false, false, false, false, false, false, false, false, false, false, false, false, false] rfl rfl (any_of HT_.out (by kernel_rfl)) (fun _ _ _ h => h) (Or.inl ⟨by rfl, ?_⟩) ?_ ?_
                            rotate_left
                            · intro w'
                              go_simp
                              with_reducible rfl
                            rotate_left
                            · simp only [Act.put, List.setIfInBounds_toArray, List.set_cons_zero, List.set_cons_succ, i64_w, i32_w]
                              rfl
                            refine pure_ (i := 41) (N := some 132) (v := ?_) (a' := ?_) #[true, true, true, true, true, true, true, true, true, true, true, true, true, true, true, true, true, true, true, true, true, true, true, true, true, true, true, true, true, true, true, true, true, true, true, true, true, true, true, true, true, true, false, false, false, false, false, false, false, false, false, false, false, false, false, false, false, false, false, false, false, false, false] rfl rfl (any_of HT_.out (by kernel_rfl)) (fun _ _ _ h => h) (Or.inl ⟨by rfl, ?_⟩) ?_ ?_
                            rotate_left
                            · intro w'
                              go_simp
                              with_reducible rfl
                            rotate_left
                            · simp only [Act.put, List.setIfInBounds_toArray, List.set_cons_zero, List.set_cons_succ, i64_w, i32_w]
                              rfl
                            refine pure_ (i := 42) (N := some 133) (v := ?_) (a' := ?_) #[true, true, true, true, true, true, true, true, true, true, true, true, true, true, true, true, true, true, true, true, true, true, true, true, true, true, true, true, true, true, true, true, true, true, true, true, true, true, true, true, true, true, true, false, false, false, false, false, false, false, false, false, false, false, false, false, false, false, false, false, false, false, false] rfl rfl (any_of HT_.out (by kernel_rfl)) (fun _ _ _ h => h) (Or.inl ⟨by rfl, ?_⟩) ?_ ?_
                            rotate_left
                            · intro w'
                              go_simp
                              with_reducible rfl
                            rotate_left
                            · simp only [Act.put, List.setIfInBounds_toArray, List.set_cons_zero, List.set_cons_succ, i64_w, i32_w]
                              rfl
                            refine pure_ (i := 43) (N := some 134) (v := ?_) (a' := ?_) #[true, true, true, true, true, true, true, true, true, true, true, true, true, true, true, true, true, true, true, true, true, true, true, true, true, true, true, true, true, true, true, true, true, true, true, true, true, true, true, true, true, true, true, true, false, false, false, false, false, false, false, false, false, false, false, false, false, false, false, false, false, false, false] rfl rfl (any_of HT_.out (by kernel_rfl)) (fun _ _ _ h => h) (Or.inl ⟨by rfl, ?_⟩) ?_ ?_
                            rotate_left
                            · intro w'
                              go_simp
                              with_reducible rfl
                            rotate_left
                            · simp only [Act.put, List.setIfInBounds_toArray, List.set_cons_zero, List.set_cons_succ, i64_w, i32_w]
                              rfl
                            refine pure_ (i := 44) (N := some 135) (v := ?_) (a' := ?_) #[true, true, true, true, true, true, true, true, true, true, true, true, true, true, true, true, true, true, true, true, true, true, true, true, true, true, true, true, true, true, true, true, true, true, true, true, true, true, true, true, true, true, true, true, true, false, false, false, false, false, false, false, false, false, false, false, false, false, false, false, false, false, false] rfl rfl (any_of HT_.out (by kernel_rfl)) (fun _ _ _ h => h) (Or.inl ⟨by rfl, ?_⟩) ?_ ?_
                            rotate_left
                            · intro w'
                              go_simp
                              with_reducible rfl
                            rotate_left
                            · simp only [Act.put, List.setIfInBounds_toArray, List.set_cons_zero, List.set_cons_succ, i64_w, i32_w]
                              rfl
                            refine pure_ (i := 45) (N := some 136) (v := ?_) (a' := ?_) #[true, true, true, true, true, true, true, true, true, true, true, true, true, true, true, true, true, true, true, true, true, true, true, true, true, true, true, true, true, true, true, true, true, true, true, true, true, true, true, true, true, true, true, true, true, true, false, false, false, false, false, false, false, false, false, false, false, false, false, false, false, false, false] rfl rfl (any_of HT_.out (by kernel_rfl)) (fun _ _ _ h => h) (Or.inl ⟨by rfl, ?_⟩) ?_ ?_
                            rotate_left
                            · intro w'
                              go_simp
                              with_reducible rfl
                            rotate_left
                            · simp only [Act.put, List.setIfInBounds_toArray, List.set_cons_zero, List.set_cons_succ, i64_w, i32_w]
                              rfl
                            refine pure_ (i := 46) (N := some 137) (v := undef) (a' := ?_) #[true, true, true, true, true, true, true, true, true, true, true, true, true, true, true, true, true, true, true, true, true, true, true, true, true, true, true, true, true, true, true, true, true, true, true, true, true, true, true, true, true, true, true, true, true, true, true, false, false, false, false, false, false, false, false, false, false, false, false, false, false, false, false] rfl rfl (any_of HT_.out (by kernel_rfl)) (fun _ _ _ h => h) (Or.inr ⟨by rfl, rfl⟩) ?_ ?_
                            rotate_left
                            · simp only [Act.put, List.setIfInBounds_toArray, List.set_cons_zero, List.set_cons_succ, i64_w, i32_w]
                              rfl
                            refine pure_ (i := 47) (N := some 138) (v := undef) (a' := ?_) #[true, true, true, true, true, true, true, true, true, true, true, true, true, true, true, true, true, true, true, true, true, true, true, true, true, true, true, true, true, true, true, true, true, true, true, true, true, true, true, true, true, true, true, true, true, true, true, true, false, false, false, false, false, false, false, false, false, false, false, false, false, false, false] rfl rfl (any_of HT_.out (by kernel_rfl)) (fun _ _ _ h => h) (Or.inr ⟨by rfl, rfl⟩) ?_ ?_
                            rotate_left
                            · simp only [Act.put, List.setIfInBounds_toArray, List.set_cons_zero, List.set_cons_succ, i64_w, i32_w]
                              rfl
                            refine pure_ (i := 48) (N := some 139) (v := undef) (a' := ?_) #[true, true, true, true, true, true, true, true, true, true, true, true, true, true, true, true, true, true, true, true, true, true, true, true, true, true, true, true, true, true, true, true, true, true, true, true, true, true, true, true, true, true, true, true, true, true, true, true, true, false, false, false, false, false, false, false, false, false, false, false, false, false, false] rfl rfl (any_of HT_.out (by kernel_rfl)) (fun _ _ _ h => h) (Or.inr ⟨by rfl, rfl⟩) ?_ ?_
                            rotate_left
                            · simp only [Act.put, List.setIfInBounds_toArray, List.set_cons_zero, List.set_cons_succ, i64_w, i32_w]
                              rfl
                            refine pure_ (i := 49) (N := some 140) (v := undef) (a' := ?_) #[true, true, true, true, true, true, true, true, true, true, true, true, true, true, true, true, true, true, true, true, true, true, true, true, true, true, true, true, true, true, true, true, true, true, true, true, true, true, true, true, true, true, true, true, true, true, true, true, true, true, false, false, false, false, false, false, false, false, false, false, false, false, false] rfl rfl (any_of HT_.out (by kernel_rfl)) (fun _ _ _ h => h) (Or.inr ⟨by rfl, rfl⟩) ?_ ?_
                            rotate_left
                            · simp only [Act.put, List.setIfInBounds_toArray, List.set_cons_zero, List.set_cons_succ, i64_w, i32_w]
                              rfl
                            refine pure_ (i := 50) (N := some 141) (v := undef) (a' := ?_) #[true, true, true, true, true, true, true, true, true, true, true, true, true, true, true, true, true, true, true, true, true, true, true, true, true, true, true, true, true, true, true, true, true, true, true, true, true, true, true, true, true, true, true, true, true, true, true, true, true, true, true, false, false, false, false, false, false, false, false, false, false, false, false] rfl rfl (any_of HT_.out (by kernel_rfl)) (fun _ _ _ h => h) (Or.inr ⟨by rfl, rfl⟩) ?_ ?_
                            rotate_left
                            · simp only [Act.put, List.setIfInBounds_toArray, List.set_cons_zero, List.set_cons_succ, i64_w, i32_w]
                              rfl
                            refine pure_ (i := 51) (N := some 142) (v := undef) (a' := ?_) #[true, true, true, true, true, true, true, true, true, true, true, true, true, true, true, true, true, true, true, true, true, true, true, true, true, true, true, true, true, true, true, true, true, true, true, true, true, true, true, true, true, true, true, true, true, true, true, true, true, true, true, true, false, false, false, false, false, false, false, false, false, false, false] rfl rfl (any_of HT_.out (by kernel_rfl)) (fun _ _ _ h => h) (Or.inr ⟨by rfl, rfl⟩) ?_ ?_
                            rotate_left
                            · simp only [Act.put, List.setIfInBounds_toArray, List.set_cons_zero, List.set_cons_succ, i64_w, i32_w]
                              rfl
                            refine pure_ (i := 52) (N := some 143) (v := undef) (a' := ?_) #[true, true, true, true, true, true, true, true, true, true, true, true, true, true, true, true, true, true, true, true, true, true, true, true, true, true, true, true, true, true, true, true, true, true, true, true, true, true, true, true, true, true, true, true, true, true, true, true, true, true, true, true, true, false, false, false, false, false, false, false, false, false, false] rfl rfl (any_of HT_.out (by kernel_rfl)) (fun _ _ _ h => h) (Or.inr ⟨by rfl, rfl⟩) ?_ ?_
                            rotate_left
                            · simp only [Act.put, List.setIfInBounds_toArray, List.set_cons_zero, List.set_cons_succ, i64_w, i32_w]
                              rfl
                            refine pure_ (i := 53) (N := some 144) (v := undef) (a' := ?_) #[true, true, true, true, true, true, true, true, true, true, true, true, true, true, true, true, true, true, true, true, true, true, true, true, true, true, true, true, true, true, true, true, true, true, true, true, true, true, true, true, true, true, true, true, true, true, true, true, true, true, true, true, true, true, false, false, false, false, false, false, false, false, false] rfl rfl (any_of HT_.out (by kernel_rfl)) (fun _ _ _ h => h) (Or.inr ⟨by rfl, rfl⟩) ?_ ?_
                            rotate_left
                            · simp only [Act.put, List.setIfInBounds_toArray, List.set_cons_zero, List.set_cons_succ, i64_w, i32_w]
                              rfl
                            refine pure_ (i := 54) (N := some 145) (v := undef) (a' := ?_) #[true, true, true, true, true, true, true, true, true, true, true, true, true, true, true, true, true, true, true, true, true, true, true, true, true, true, true, true, true, true, true, true, true, true, true, true, true, true, true, true, true, true, true, true, true, true, true, true, true, true, true, true, true, true, true, false, false, false, false, false, false, false, false] rfl rfl (any_of HT_.out (by kernel_rfl)) (fun _ _ _ h => h) (Or.inr ⟨by rfl, rfl⟩) ?_ ?_
                            rotate_left
                            · simp only [Act.put, List.setIfInBounds_toArray, List.set_cons_zero, List.set_cons_succ, i64_w, i32_w]
                              rfl
                            refine pure_ (i := 55) (N := some 146) (v := undef) (a' := ?_) #[true, true, true, true, true, true, true, true, true, true, true, true, true, true, true, true, true, true, true, true, true, true, true, true, true, true, true, true, true, true, true, true, true, true, true, true, true, true, true, true, true, true, true, true, true, true, true, true, true, true, true, true, true, true, true, true, false, false, false, false, false, false, false] rfl rfl (any_of HT_.out (by kernel_rfl)) (fun _ _ _ h => h) (Or.inr ⟨by rfl, rfl⟩) ?_ ?_
                            rotate_left
                            · simp only [Act.put, List.setIfInBounds_toArray, List.set_cons_zero, List.set_cons_succ, i64_w, i32_w]
                              rfl
                            refine pure_ (i := 56) (N := some 147) (v := undef) (a' := ?_) #[true, true, true, true, true, true, true, true, true, true, true, true, true, true, true, true, true, true, true, true, true, true, true, true, true, true, true, true, true, true, true, true, true, true, true, true, true, true, true, true, true, true, true, true, true, true, true, true, true, true, true, true, true, true, true, true, true, false, false, false, false, false, false] rfl rfl (any_of HT_.out (by kernel_rfl)) (fun _ _ _ h => h) (Or.inr ⟨by rfl, rfl⟩) ?_ ?_
                            rotate_left
                            · simp only [Act.put, List.setIfInBounds_toArray, List.set_cons_zero, List.set_cons_succ, i64_w, i32_w]
                              rfl
                            refine pure_ (i := 57) (N := some 148) (v := undef) (a' := ?_) #[true, true, true, true, true, true, true, true, true, true, true, true, true, true, true, true, true, true, true, true, true, true, true, true, true, true, true, true, true, true, true, true, true, true, true, true, true, true, true, true, true, true, true, true, true, true, true, true, true, true, true, true, true, true, true, true, true, true, false, false, false, false, false] rfl rfl (any_of HT_.out (by kernel_rfl)) (fun _ _ _ h => h) (Or.inr ⟨by rfl, rfl⟩) ?_ ?_
                            rotate_left
                            · simp only [Act.put, List.setIfInBounds_toArray, List.set_cons_zero, List.set_cons_succ, i64_w, i32_w]
                              rfl
                            refine pure_ (i := 58) (N := some 149) (v := undef) (a' := ?_) #[true, true, true, true, true, true, true, true, true, true, true, true, true, true, true, true, true, true, true, true, true, true, true, true, true, true, true, true, true, true, true, true, true, true, true, true, true, true, true, true, true, true, true, true, true, true, true, true, true, true, true, true, true, true, true, true, true, true, true, false, false, false, false] rfl rfl (any_of HT_.out (by kernel_rfl)) (fun _ _ _ h => h) (Or.inr ⟨by rfl, rfl⟩) ?_ ?_
                            rotate_left
                            · simp only [Act.put, List.setIfInBounds_toArray, List.set_cons_zero, List.set_cons_succ, i64_w, i32_w]
                              rfl
                            refine pure_ (i := 59) (N := some 150) (v := ?_) (a' := ?_) #[true, true, true, true, true, true, true, true, true, true, true, true, true, true, true, true, true, true, true, true, true, true, true, true, true, true, true, true, true, true, true, true, true, true, true, true, true, true, true, true, true, true, true, true, true, true, true, true, true, true, true, true, true, true, true, true, true, true, true, true, false, false, false] rfl rfl (any_of HT_.out (by kernel_rfl)) (fun _ _ _ h => h) (Or.inl ⟨by rfl, ?_⟩) ?_ ?_
                            rotate_left
                            · intro w'
                              go_simp
                              with_reducible rfl
                            rotate_left
                            · simp only [Act.put, List.setIfInBounds_toArray, List.set_cons_zero, List.set_cons_succ, i64_w, i32_w]
                              rfl
                            refine pure_ (i := 60) (N := some 151) (v := ?_) (a' := ?_) #[true, true, true, true, true, true, true, true, true, true, true, true, true, true, true, true, true, true, true, true, true, true, true, true, true, true, true, true, true, true, true, true, true, true, true, true, true, true, true, true, true, true, true, true, true, true, true, true, true, true, true, true, true, true, true, true, true, true, true, true, true, false, false] rfl rfl (any_of HT_.out (by kernel_rfl)) (fun _ _ _ h => h) (Or.inl ⟨by rfl, ?_⟩) ?_ ?_
                            rotate_left
                            · intro w'
                              go_simp
                              with_reducible rfl
                            rotate_left
                            · simp only [Act.put, List.setIfInBounds_toArray, List.set_cons_zero, List.set_cons_succ, i64_w, i32_w]
                              rfl
                            refine pure_ (i := 61) (N := some 152) (v := ?_) (a' := ?_) #[true, true, true, true, true, true, true, true, true, true, true, true, true, true, true, true, true, true, true, true, true, true, true, true, true, true, true, true, true, true, true, true, true, true, true, true, true, true, true, true, true, true, true, true, true, true, true, true, true, true, true, true, true, true, true, true, true, true, true, true, true, true, false] rfl rfl (any_of HT_.out (by kernel_rfl)) (fun _ _ _ h => h) (Or.inl ⟨by rfl, ?_⟩) ?_ ?_
                            rotate_left
                            · intro w'
                              go_simp
                              with_reducible rfl
                            rotate_left
                            · simp only [Act.put, List.setIfInBounds_toArray, List.set_cons_zero, List.set_cons_succ, i64_w, i32_w]
                              rfl
                            refine pure_ (i := 62) (N := some 153) (v := ?_) (a' := ?_) #[true, true, true, true, true, true, true, true, true, true, true, true, true, true, true, true, true, true, true, true, true, true, true, true, true, true, true, true, true, true, true, true, true, true, true, true, true, true, true, true, true, true, true, true, true, true, true, true, true, true, true, true, true, true, true, true, true, true, true, true, true, true, true] rfl rfl (any_of HT_.out (by kernel_rfl)) (fun _ _ _ h => h) (Or.inl ⟨by rfl, ?_⟩) ?_ ?_
                            rotate_left
                            · intro w'
                              go_simp
                              with_reducible rfl
                            rotate_left
                            · simp only [Act.put, List.setIfInBounds_toArray, List.set_cons_zero, List.set_cons_succ, i64_w, i32_w]
                              rfl
                            refine done_ (done_of HT_.out (by kernel_rfl)) ?_
                            go_wp2
                            go_roundg (p.f1.length - (k + 1))
                            case measure => have := HQ2.out; have := HKL.out; omega
                            case rel => exact ⟨k + 1, by rw [show o + (k + 1) = n + 1 by have := HNN.out; omega]; go_num, by go_num, ⟨rfl, HKL.out⟩, ⟨below_step HWz.out hHeld⟩⟩
                          · have hil2 : decide ((i : Int) + 1 < (P.length : Int)) = false := decide_eq_false (by omega); have hil3 : decide (i + 1 < P.length) = false := decide_eq_false (by omega)
                            have hnl : ((n : Int) == (l.length : Int) - 1) = true := by have h1 := plain_end HPL.out; have h2 := offs_step P i HIL.out; have h3 := HNN.out; have h4 := HM.out; have h5 := HPP.out; have h6 := HOO.out; have h7 : P.length = i + 1 := (by have := HIL.out; omega); rw [h7, h2, h6, h5, h4] at h1; simp; omega
                            have hcc : ((clsOf r == 11) != (clsOf r == 11)) = false := by simp
                            clear hil
                            refine pure_ (i := 40) (N := some 131) (v := ?_) (a' := ?_) #[true, true, true, true, true, true, true, true, true, true, true, true, true, true, true, true, true, true, true, true, true, true, true, true, true, true, true, true, true, true, true, true, true, true, true, true, true, true, true, true, true, false, false, false, false, false, false, false, false, false, false, false, false, false, false, false, false, false, false, false, false, false, false] rfl rfl (any_of HT_.out (by kernel_rfl)) (fun _ _ _ h => h) (Or.inl ⟨by rfl, ?_⟩) ?_ ?_
                            rotate_left
                            · intro w'
                              go_simp
                              with_reducible rfl
                            rotate_left
                            · simp only [Act.put, List.setIfInBounds_toArray, List.set_cons_zero, List.set_cons_succ, i64_w, i32_w]
                              rfl
                            refine pure_ (i := 41) (N := some 132) (v := ?_) (a' := ?_) #[true, true, true, true, true, true, true, true, true, true, true, true, true, true, true, true, true, true, true, true, true, true, true, true, true, true, true, true, true, true, true, true, true, true, true, true, true, true, true, true, true, true, false, false, false, false, false, false, false, false, false, false, false, false, false, false, false, false, false, false, false, false, false] rfl rfl (any_of HT_.out (by kernel_rfl)) (fun _ _ _ h => h) (Or.inl ⟨by rfl, ?_⟩) ?_ ?_
                            rotate_left
                            · intro w'
                              go_simp
                              with_reducible rfl
                            rotate_left
                            · simp only [Act.put, List.setIfInBounds_toArray, List.set_cons_zero, List.set_cons_succ, i64_w, i32_w]
                              rfl
                            refine pure_ (i := 42) (N := some 133) (v := ?_) (a' := ?_) #[true, true, true, true, true, true, true, true, true, true, true, true, true, true, true, true, true, true, true, true, true, true, true, true, true, true, true, true, true, true, true, true, true, true, true, true, true, true, true, true, true, true, true, false, false, false, false, false, false, false, false, false, false, false, false, false, false, false, false, false, false, false, false] rfl rfl (any_of HT_.out (by kernel_rfl)) (fun _ _ _ h => h) (Or.inl ⟨by rfl, ?_⟩) ?_ ?_
                            rotate_left
                            · intro w'
                              go_simp
                              with_reducible rfl
                            rotate_left
                            · simp only [Act.put, List.setIfInBounds_toArray, List.set_cons_zero, List.set_cons_succ, i64_w, i32_w]
                              rfl
                            refine pure_ (i := 43) (N := some 134) (v := ?_) (a' := ?_) #[true, true, true, true, true, true, true, true, true, true, true, true, true, true, true, true, true, true, true, true, true, true, true, true, true, true, true, true, true, true, true, true, true, true, true, true, true, true, true, true, true, true, true, true, false, false, false, false, false, false, false, false, false, false, false, false, false, false, false, false, false, false, false] rfl rfl (any_of HT_.out (by kernel_rfl)) (fun _ _ _ h => h) (Or.inl ⟨by rfl, ?_⟩) ?_ ?_
                            rotate_left
                            · intro w'
                              go_simp
                              with_reducible rfl
                            rotate_left
                            · simp only [Act.put, List.setIfInBounds_toArray, List.set_cons_zero, List.set_cons_succ, i64_w, i32_w]
                              rfl
                            refine pure_ (i := 44) (N := some 135) (v := ?_) (a' := ?_) #[true, true, true, true, true, true, true, true, true, true, true, true, true, true, true, true, true, true, true, true, true, true, true, true, true, true, true, true, true, true, true, true, true, true, true, true, true, true, true, true, true, true, true, true, true, false, false, false, false, false, false, false, false, false, false, false, false, false, false, false, false, false, false] rfl rfl (any_of HT_.out (by kernel_rfl)) (fun _ _ _ h => h) (Or.inl ⟨by rfl, ?_⟩) ?_ ?_
                            rotate_left
                            · intro w'
                              go_simp
                              with_reducible rfl
                            rotate_left
                            · simp only [Act.put, List.setIfInBounds_toArray, List.set_cons_zero, List.set_cons_succ, i64_w, i32_w]
                              rfl
                            refine pure_ (i := 45) (N := some 136) (v := ?_) (a' := ?_) #[true, true, true, true, true, true, true, true, true, true, true, true, true, true, true, true, true, true, true, true, true, true, true, true, true, true, true, true, true, true, true, true, true, true, true, true, true, true, true, true, true, true, true, true, true, true, false, false, false, false, false, false, false, false, false, false, false, false, false, false, false, false, false] rfl rfl (any_of HT_.out (by kernel_rfl)) (fun _ _ _ h => h) (Or.inl ⟨by rfl, ?_⟩) ?_ ?_
                            rotate_left
                            · intro w'
                              go_simp
                              with_reducible rfl
                            rotate_left
                            · simp only [Act.put, List.setIfInBounds_toArray, List.set_cons_zero, List.set_cons_succ, i64_w, i32_w]
                              rfl
                            refine pure_ (i := 46) (N := some 137) (v := ?_) (a' := ?_) #[true, true, true, true, true, true, true, true, true, true, true, true, true, true, true, true, true, true, true, true, true, true, true, true, true, true, true, true, true, true, true, true, true, true, true, true, true, true, true, true, true, true, true, true, true, true, true, false, false, false, false, false, false, false, false, false, false, false, false, false, false, false, false] rfl rfl (any_of HT_.out (by kernel_rfl)) (fun _ _ _ h => h) (Or.inl ⟨by rfl, ?_⟩) ?_ ?_
                            rotate_left
                            · intro w'
                              go_simp
                              with_reducible rfl
                            rotate_left
                            · simp only [Act.put, List.setIfInBounds_toArray, List.set_cons_zero, List.set_cons_succ, i64_w, i32_w]
                              rfl
                            refine pure_ (i := 47) (N := some 138) (v := ?_) (a' := ?_) #[true, true, true, true, true, true, true, true, true, true, true, true, true, true, true, true, true, true, true, true, true, true, true, true, true, true, true, true, true, true, true, true, true, true, true, true, true, true, true, true, true, true, true, true, true, true, true, true, false, false, false, false, false, false, false, false, false, false, false, false, false, false, false] rfl rfl (any_of HT_.out (by kernel_rfl)) (fun _ _ _ h => h) (Or.inl ⟨by rfl, ?_⟩) ?_ ?_
                            rotate_left
                            · intro w'
                              go_simp
                              with_reducible rfl
                            rotate_left
                            · simp only [Act.put, List.setIfInBounds_toArray, List.set_cons_zero, List.set_cons_succ, i64_w, i32_w]
                              rfl
                            refine pure_ (i := 48) (N := some 139) (v := ?_) (a' := ?_) #[true, true, true, true, true, true, true, true, true, true, true, true, true, true, true, true, true, true, true, true, true, true, true, true, true, true, true, true, true, true, true, true, true, true, true, true, true, true, true, true, true, true, true, true, true, true, true, true, true, false, false, false, false, false, false, false, false, false, false, false, false, false, false] rfl rfl (any_of HT_.out (by kernel_rfl)) (fun _ _ _ h => h) (Or.inl ⟨by rfl, ?_⟩) ?_ ?_
                            rotate_left
                            · intro w'
                              go_simp
                              with_reducible rfl
                            rotate_left
                            · simp only [Act.put, List.setIfInBounds_toArray, List.set_cons_zero, List.set_cons_succ, i64_w, i32_w]
                              rfl
                            refine pure_ (i := 49) (N := some 140) (v := ?_) (a' := ?_) #[true, true, true, true, true, true, true, true, true, true, true, true, true, true, true, true, true, true, true, true, true, true, true, true, true, true, true, true, true, true, true, true, true, true, true, true, true, true, true, true, true, true, true, true, true, true, true, true, true, true, false, false, false, false, false, false, false, false, false, false, false, false, false] rfl rfl (any_of HT_.out (by kernel_rfl)) (fun _ _ _ h => h) (Or.inl ⟨by rfl, ?_⟩) ?_ ?_
                            rotate_left
                            · intro w'
                              go_simp
                              with_reducible rfl
                            rotate_left
                            · simp only [Act.put, List.setIfInBounds_toArray, List.set_cons_zero, List.set_cons_succ, i64_w, i32_w]
                              rfl
                            refine pure_ (i := 50) (N := some 141) (v := ?_) (a' := ?_) #[true, true, true, true, true, true, true, true, true, true, true, true, true, true, true, true, true, true, true, true, true, true, true, true, true, true, true, true, true, true, true, true, true, true, true, true, true, true, true, true, true, true, true, true, true, true, true, true, true, true, true, false, false, false, false, false, false, false, false, false, false, false, false] rfl rfl (any_of HT_.out (by kernel_rfl)) (fun _ _ _ h => h) (Or.inl ⟨by rfl, ?_⟩) ?_ ?_
                            rotate_left
                            · intro w'
                              go_simp
                              with_reducible rfl
                            rotate_left
                            · simp only [Act.put, List.setIfInBounds_toArray, List.set_cons_zero, List.set_cons_succ, i64_w, i32_w]
                              rfl
                            refine pure_ (i := 51) (N := some 142) (v := ?_) (a' := ?_) #[true, true, true, true, true, true, true, true, true, true, true, true, true, true, true, true, true, true, true, true, true, true, true, true, true, true, true, true, true, true, true, true, true, true, true, true, true, true, true, true, true, true, true, true, true, true, true, true, true, true, true, true, false, false, false, false, false, false, false, false, false, false, false] rfl rfl (any_of HT_.out (by kernel_rfl)) (fun _ _ _ h => h) (Or.inl ⟨by rfl, ?_⟩) ?_ ?_
                            rotate_left
                            · intro w'
                              go_simp
                              with_reducible rfl
                            rotate_left
                            · simp only [Act.put, List.setIfInBounds_toArray, List.set_cons_zero, List.set_cons_succ, i64_w, i32_w]
                              rfl
                            refine pure_ (i := 52) (N := some 143) (v := ?_) (a' := ?_) #[true, true, true, true, true, true, true, true, true, true, true, true, true, true, true, true, true, true, true, true, true, true, true, true, true, true, true, true, true, true, true, true, true, true, true, true, true, true, true, true, true, true, true, true, true, true, true, true, true, true, true, true, true, false, false, false, false, false, false, false, false, false, false] rfl rfl (any_of HT_.out (by kernel_rfl)) (fun _ _ _ h => h) (Or.inl ⟨by rfl, ?_⟩) ?_ ?_
                            rotate_left
                            · intro w'
                              go_simp
                              with_reducible rfl
                            rotate_left
                            · simp only [Act.put, List.setIfInBounds_toArray, List.set_cons_zero, List.set_cons_succ, i64_w, i32_w]
                              rfl
                            refine pure_ (i := 53) (N := some 144) (v := ?_) (a' := ?_) #[true, true, true, true, true, true, true, true, true, true, true, true, true, true, true, true, true, true, true, true, true, true, true, true, true, true, true, true, true, true, true, true, true, true, true, true, true, true, true, true, true, true, true, true, true, true, true, true, true, true, true, true, true, true, false, false, false, false, false, false, false, false, false] rfl rfl (any_of HT_.out (by kernel_rfl)) (fun _ _ _ h => h) (Or.inl ⟨by rfl, ?_⟩) ?_ ?_
                            rotate_left
                            · intro w'
                              go_simp
                              with_reducible rfl
                            rotate_left
                            · simp only [Act.put, List.setIfInBounds_toArray, List.set_cons_zero, List.set_cons_succ, i64_w, i32_w]
                              rfl
                            refine pure_ (i := 54) (N := some 145) (v := ?_) (a' := ?_) #[true, true, true, true, true, true, true, true, true, true, true, true, true, true, true, true, true, true, true, true, true, true, true, true, true, true, true, true, true, true, true, true, true, true, true, true, true, true, true, true, true, true, true, true, true, true, true, true, true, true, true, true, true, true, true, false, false, false, false, false, false, false, false] rfl rfl (any_of HT_.out (by kernel_rfl)) (fun _ _ _ h => h) (Or.inl ⟨by rfl, ?_⟩) ?_ ?_
                            rotate_left
                            · intro w'
                              go_simp
                              with_reducible rfl
                            rotate_left
                            · simp only [Act.put, List.setIfInBounds_toArray, List.set_cons_zero, List.set_cons_succ, i64_w, i32_w]
                              rfl
                            refine take_ (i := 55) (N := some 146) (v := ?_) (a' := ?_) #[true, true, true, true, true, true, true, true, true, true, true, true, true, true, true, true, true, true, true, true, true, true, true, true, true, true, true, true, true, true, true, true, true, true, true, true, true, true, true, true, true, true, true, true, true, true, true, true, true, true, true, true, true, true, true, true, false, false, false, false, false, false, false] rfl rfl (take_ofW HT_.out HW_.out (by kernel_rfl)) (fun _ _ _ h => h) (Or.inl ⟨by rfl, ?_⟩) hHeld ?_ ?_
                            rotate_left
                            · rintro w' s0
                              have z0 := (s0.cell (World.block_lt_of_cell? _ _ (blk_cell Kz.out 0))).trans (blk_cell Kz.out 0)
                              have z1 := (s0.cell (World.block_lt_of_cell? _ _ (blk_cell Kz.out 1))).trans (blk_cell Kz.out 1)
                              have z2 := (s0.cell (World.block_lt_of_cell? _ _ (blk_cell Kz.out 2))).trans (blk_cell Kz.out 2)
                              have ze := (s0.cell (World.block_lt_of_cell? _ _ HEz.out)).trans HEz.out
                              have zx := (s0.cell (World.block_lt_of_cell? _ _ HXz.out)).trans HXz.out
                              simp only [List.getElem?_toArray, List.getElem?_cons_zero, List.getElem?_cons_succ] at z0 z1 z2
                              go_simp
                              with_reducible rfl
                            rotate_left
                            · simp only [Act.put, List.setIfInBounds_toArray, List.set_cons_zero, List.set_cons_succ, i64_w, i32_w]
                              rfl
                            refine one_ (i := 56) (N := some 147) #[true, true, true, true, true, true, true, true, true, true, true, true, true, true, true, true, true, true, true, true, true, true, true, true, true, true, true, true, true, true, true, true, true, true, true, true, true, true, true, true, true, true, true, true, true, true, true, true, true, true, true, true, true, true, true, true, true, false, false, false, false, false, false] rfl rfl (one_of HT_.out (by kernel_rfl)) (by decide) (fun K hK => ?_)
                            refine goes_ Tryd.func16 (by kernel_rfl) rfl #[.int .i32 r] (by rfl) rfl rfl (by (try simp only [List.map_toArray, List.map_cons, List.map_nil]); first | done | rfl) ?_
                            refine (class_calls r _).mono ?_
                            rintro e w71 ⟨rfl, hb⟩
                            refine ⟨_, rfl, ?_⟩
                            have n0_ := below_step hHeld hb
                            refine hK.out _ _ n0_ (fun hHeld => ?_)
                            clear hK K
                            refine norm_ (a' := ?_) ?_ ?_
                            rotate_left
                            · show Act.put _ (some 147) _ = _
                              simp only [Act.put, List.setIfInBounds_toArray, List.set_cons_zero, List.set_cons_succ, i64_w, i32_w]
                              rfl
                            refine pure_ (i := 57) (N := some 148) (v := ?_) (a' := ?_) #[true, true, true, true, true, true, true, true, true, true, true, true, true, true, true, true, true, true, true, true, true, true, true, true, true, true, true, true, true, true, true, true, true, true, true, true, true, true, true, true, true, true, true, true, true, true, true, true, true, true, true, true, true, true, true, true, true, true, false, false, false, false, false] rfl rfl (any_of HT_.out (by kernel_rfl)) (fun _ _ _ h => h) (Or.inl ⟨by rfl, ?_⟩) ?_ ?_
                            rotate_left
                            · intro w'
                              go_simp
                              with_reducible rfl
                            rotate_left
                            · simp only [Act.put, List.setIfInBounds_toArray, List.set_cons_zero, List.set_cons_succ, i64_w, i32_w]
                              rfl
                            refine pure_ (i := 58) (N := some 149) (v := ?_) (a' := ?_) #[true, true, true, true, true, true, true, true, true, true, true, true, true, true, true, true, true, true, true, true, true, true, true, true, true, true, true, true, true, true, true, true, true, true, true, true, true, true, true, true, true, true, true, true, true, true, true, true, true, true, true, true, true, true, true, true, true, true, true, false, false, false, false] rfl rfl (any_of HT_.out (by kernel_rfl)) (fun _ _ _ h => h) (Or.inl ⟨by rfl, ?_⟩) ?_ ?_
                            rotate_left
                            · intro w'
                              go_simp
                              with_reducible rfl
                            rotate_left
                            · simp only [Act.put, List.setIfInBounds_toArray, List.set_cons_zero, List.set_cons_succ, i64_w, i32_w]
                              rfl
                            refine pure_ (i := 59) (N := some 150) (v := ?_) (a' := ?_) #[true, true, true, true, true, true, true, true, true, true, true, true, true, true, true, true, true, true, true, true, true, true, true, true, true, true, true, true, true, true, true, true, true, true, true, true, true, true, true, true, true, true, true, true, true, true, true, true, true, true, true, true, true, true, true, true, true, true, true, true, false, false, false] rfl rfl (any_of HT_.out (by kernel_rfl)) (fun _ _ _ h => h) (Or.inl ⟨by rfl, ?_⟩) ?_ ?_
                            rotate_left
                            · intro w'
                              go_simp
                              with_reducible rfl
                            rotate_left
                            · simp only [Act.put, List.setIfInBounds_toArray, List.set_cons_zero, List.set_cons_succ, i64_w, i32_w]
                              rfl
                            refine pure_ (i := 60) (N := some 151) (v := ?_) (a' := ?_) #[true, true, true, true, true, true, true, true, true, true, true, true, true, true, true, true, true, true, true, true, true, true, true, true, true, true, true, true, true, true, true, true, true, true, true, true, true, true, true, true, true, true, true, true, true, true, true, true, true, true, true, true, true, true, true, true, true, true, true, true, true, false, false] rfl rfl (any_of HT_.out (by kernel_rfl)) (fun _ _ _ h => h) (Or.inl ⟨by rfl, ?_⟩) ?_ ?_
                            rotate_left
                            · intro w'
                              go_simp
                              with_reducible rfl
                            rotate_left
                            · simp only [Act.put, List.setIfInBounds_toArray, List.set_cons_zero, List.set_cons_succ, i64_w, i32_w]
                              rfl
                            refine pure_ (i := 61) (N := some 152) (v := ?_) (a' := ?_) #[true, true, true, true, true, true, true, true, true, true, true, true, true, true, true, true, true, true, true, true, true, true, true, true, true, true, true, true, true, true, true, true, true, true, true, true, true, true, true, true, true, true, true, true, true, true, true, true, true, true, true, true, true, true, true, true, true, true, true, true, true, true, false] rfl rfl (any_of HT_.out (by kernel_rfl)) (fun _ _ _ h => h) (Or.inl ⟨by rfl, ?_⟩) ?_ ?_
                            rotate_left
                            · intro w'
                              go_simp
                              with_reducible rfl
                            rotate_left
                            · simp only [Act.put, List.setIfInBounds_toArray, List.set_cons_zero, List.set_cons_succ, i64_w, i32_w]
                              rfl
                            refine pure_ (i := 62) (N := some 153) (v := ?_) (a' := ?_) #[true, true, true, true, true, true, true, true, true, true, true, true, true, true, true, true, true, true, true, true, true, true, true, true, true, true, true, true, true, true, true, true, true, true, true, true, true, true, true, true, true, true, true, true, true, true, true, true, true, true, true, true, true, true, true, true, true, true, true, true, true, true, true] rfl rfl (any_of HT_.out (by kernel_rfl)) (fun _ _ _ h => h) (Or.inl ⟨by rfl, ?_⟩) ?_ ?_
                            rotate_left
                            · intro w'
                              go_simp
                              with_reducible rfl
                            rotate_left
                            · simp only [Act.put, List.setIfInBounds_toArray, List.set_cons_zero, List.set_cons_succ, i64_w, i32_w]
                              rfl
                            refine done_ (done_of HT_.out (by kernel_rfl)) ?_
                            go_wp2
                            go_roundg (p.f1.length - (k + 1))
                            case measure => have := HQ2.out; have := HKL.out; omega
                            case rel => exact ⟨k + 1, by rw [show o + (k + 1) = n + 1 by have := HNN.out; omega]; go_num, by go_num, ⟨rfl, HKL.out⟩, ⟨below_step HWz.out hHeld⟩⟩
                        · have hc : clsOf r ≠ 11 := by have h1 := HPL.out.ahead i HIL.out k (by rw [HPP.out, HM.out]; have := HKL.out; have := HM.out; omega); rw [HPP.out, HX.out] at h1; exact h1
                          have hcb : (clsOf r == 11) = false := by simpa using hc
                          have hkk : ((k : Int) == (m : Int)) = false := by simp; omega
                          rw [hkk, hcb]
                          have hcc : (false != false) = false := rfl
                          clear hc hkm
                          refine pure_ (i := 40) (N := some 131) (v := undef) (a' := ?_) #[true, true, true, true, true, true, true, true, true, true, true, true, true, true, true, true, true, true, true, true, true, true, true, true, true, true, true, true, true, true, true, true, true, true, true, true, true, true, true, true, true, false, false, false, false, false, false, false, false, false, false, false, false, false, false, false, false, false, false, false, false, false, false] rfl rfl (any_of HT_.out (by kernel_rfl)) (fun _ _ _ h => h) (Or.inr ⟨by rfl, rfl⟩) ?_ ?_
                          rotate_left
                          · simp only [Act.put, List.setIfInBounds_toArray, List.set_cons_zero, List.set_cons_succ, i64_w, i32_w]
                            rfl
                          refine pure_ (i := 41) (N := some 132) (v := undef) (a' := ?_) #[true, true, true, true, true, true, true, true, true, true, true, true, true, true, true, true, true, true, true, true, true, true, true, true, true, true, true, true, true, true, true, true, true, true, true, true, true, true, true, true, true, true, false, false, false, false, false, false, false, false, false, false, false, false, false, false, false, false, false, false, false, false, false] rfl rfl (any_of HT_.out (by kernel_rfl)) (fun _ _ _ h => h) (Or.inr ⟨by rfl, rfl⟩) ?_ ?_
                          rotate_left
                          · simp only [Act.put, List.setIfInBounds_toArray, List.set_cons_zero, List.set_cons_succ, i64_w, i32_w]
                            rfl
                          refine pure_ (i := 42) (N := some 133) (v := undef) (a' := ?_) #[true, true, true, true, true, true, true, true, true, true, true, true, true, true, true, true, true, true, true, true, true, true, true, true, true, true, true, true, true, true, true, true, true, true, true, true, true, true, true, true, true, true, true, false, false, false, false, false, false, false, false, false, false, false, false, false, false, false, false, false, false, false, false] rfl rfl (any_of HT_.out (by kernel_rfl)) (fun _ _ _ h => h) (Or.inr ⟨by rfl, rfl⟩) ?_ ?_
                          rotate_left
                          · simp only [Act.put, List.setIfInBounds_toArray, List.set_cons_zero, List.set_cons_succ, i64_w, i32_w]
                            rfl
                          refine pure_ (i := 43) (N := some 134) (v := undef) (a' := ?_) #[true, true, true, true, true, true, true, true, true, true, true, true, true, true, true, true, true, true, true, true, true, true, true, true, true, true, true, true, true, true, true, true, true, true, true, true, true, true, true, true, true, true, true, true, false, false, false, false, false, false, false, false, false, false, false, false, false, false, false, false, false, false, false] rfl rfl (any_of HT_.out (by kernel_rfl)) (fun _ _ _ h => h) (Or.inr ⟨by rfl, rfl⟩) ?_ ?_
                          rotate_left
                          · simp only [Act.put, List.setIfInBounds_toArray, List.set_cons_zero, List.set_cons_succ, i64_w, i32_w]
                            rfl
                          refine pure_ (i := 44) (N := some 135) (v := undef) (a' := ?_) #[true, true, true, true, true, true, true, true, true, true, true, true, true, true, true, true, true, true, true, true, true, true, true, true, true, true, true, true, true, true, true, true, true, true, true, true, true, true, true, true, true, true, true, true, true, false, false, false, false, false, false, false, false, false, false, false, false, false, false, false, false, false, false] rfl rfl (any_of HT_.out (by kernel_rfl)) (fun _ _ _ h => h) (Or.inr ⟨by rfl, rfl⟩) ?_ ?_
                          rotate_left
                          · simp only [Act.put, List.setIfInBounds_toArray, List.set_cons_zero, List.set_cons_succ, i64_w, i32_w]
                            rfl
                          refine pure_ (i := 45) (N := some 136) (v := undef) (a' := ?_) #[true, true, true, true, true, true, true, true, true, true, true, true, true, true, true, true, true, true, true, true, true, true, true, true, true, true, true, true, true, true, true, true, true, true, true, true, true, true, true, true, true, true, true, true, true, true, false, false, false, false, false, false, false, false, false, false, false, false, false, false, false, false, false] rfl rfl (any_of HT_.out (by kernel_rfl)) (fun _ _ _ h => h) (Or.inr ⟨by rfl, rfl⟩) ?_ ?_
                          rotate_left
                          · simp only [Act.put, List.setIfInBounds_toArray, List.set_cons_zero, List.set_cons_succ, i64_w, i32_w]
                            rfl
                          refine pure_ (i := 46) (N := some 137) (v := undef) (a' := ?_) #[true, true, true, true, true, true, true, true, true, true, true, true, true, true, true, true, true, true, true, true, true, true, true, true, true, true, true, true, true, true, true, true, true, true, true, true, true, true, true, true, true, true, true, true, true, true, true, false, false, false, false, false, false, false, false, false, false, false, false, false, false, false, false] rfl rfl (any_of HT_.out (by kernel_rfl)) (fun _ _ _ h => h) (Or.inr ⟨by rfl, rfl⟩) ?_ ?_
                          rotate_left
                          · simp only [Act.put, List.setIfInBounds_toArray, List.set_cons_zero, List.set_cons_succ, i64_w, i32_w]
                            rfl
                          refine pure_ (i := 47) (N := some 138) (v := undef) (a' := ?_) #[true, true, true, true, true, true, true, true, true, true, true, true, true, true, true, true, true, true, true, true, true, true, true, true, true, true, true, true, true, true, true, true, true, true, true, true, true, true, true, true, true, true, true, true, true, true, true, true, false, false, false, false, false, false, false, false, false, false, false, false, false, false, false] rfl rfl (any_of HT_.out (by kernel_rfl)) (fun _ _ _ h => h) (Or.inr ⟨by rfl, rfl⟩) ?_ ?_
                          rotate_left
                          · simp only [Act.put, List.setIfInBounds_toArray, List.set_cons_zero, List.set_cons_succ, i64_w, i32_w]
                            rfl
                          refine pure_ (i := 48) (N := some 139) (v := undef) (a' := ?_) #[true, true, true, true, true, true, true, true, true, true, true, true, true, true, true, true, true, true, true, true, true, true, true, true, true, true, true, true, true, true, true, true, true, true, true, true, true, true, true, true, true, true, true, true, true, true, true, true, true, false, false, false, false, false, false, false, false, false, false, false, false, false, false] rfl rfl (any_of HT_.out (by kernel_rfl)) (fun _ _ _ h => h) (Or.inr ⟨by rfl, rfl⟩) ?_ ?_
                          rotate_left
                          · simp only [Act.put, List.setIfInBounds_toArray, List.set_cons_zero, List.set_cons_succ, i64_w, i32_w]
                            rfl
                          refine pure_ (i := 49) (N := some 140) (v := undef) (a' := ?_) #[true, true, true, true, true, true, true, true, true, true, true, true, true, true, true, true, true, true, true, true, true, true, true, true, true, true, true, true, true, true, true, true, true, true, true, true, true, true, true, true, true, true, true, true, true, true, true, true, true, true, false, false, false, false, false, false, false, false, false, false, false, false, false] rfl rfl (any_of HT_.out (by kernel_rfl)) (fun _ _ _ h => h) (Or.inr ⟨by rfl, rfl⟩) ?_ ?_
                          rotate_left
                          · simp only [Act.put, List.setIfInBounds_toArray, List.set_cons_zero, List.set_cons_succ, i64_w, i32_w]
                            rfl
                          refine pure_ (i := 50) (N := some 141) (v := undef) (a' := ?_) #[true, true, true, true, true, true, true, true, true, true, true, true, true, true, true, true, true, true, true, true, true, true, true, true, true, true, true, true, true, true, true, true, true, true, true, true, true, true, true, true, true, true, true, true, true, true, true, true, true, true, true, false, false, false, false, false, false, false, false, false, false, false, false] rfl rfl (any_of HT_.out (by kernel_rfl)) (fun _ _ _ h => h) (Or.inr ⟨by rfl, rfl⟩) ?_ ?_
                          rotate_left
                          · simp only [Act.put, List.setIfInBounds_toArray, List.set_cons_zero, List.set_cons_succ, i64_w, i32_w]
                            rfl
                          refine pure_ (i := 51) (N := some 142) (v := undef) (a' := ?_) #[true, true, true, true, true, true, true, true, true, true, true, true, true, true, true, true, true, true, true, true, true, true, true, true, true, true, true, true, true, true, true, true, true, true, true, true, true, true, true, true, true, true, true, true, true, true, true, true, true, true, true, true, false, false, false, false, false, false, false, false, false, false, false] rfl rfl (any_of HT_.out (by kernel_rfl)) (fun _ _ _ h => h) (Or.inr ⟨by rfl, rfl⟩) ?_ ?_
                          rotate_left
                          · simp only [Act.put, List.setIfInBounds_toArray, List.set_cons_zero, List.set_cons_succ, i64_w, i32_w]
                            rfl
                          refine pure_ (i := 52) (N := some 143) (v := undef) (a' := ?_) #[true, true, true, true, true, true, true, true, true, true, true, true, true, true, true, true, true, true, true, true, true, true, true, true, true, true, true, true, true, true, true, true, true, true, true, true, true, true, true, true, true, true, true, true, true, true, true, true, true, true, true, true, true, false, false, false, false, false, false, false, false, false, false] rfl rfl (any_of HT_.out (by kernel_rfl)) (fun _ _ _ h => h) (Or.inr ⟨by rfl, rfl⟩) ?_ ?_
                          rotate_left
                          · simp only [Act.put, List.setIfInBounds_toArray, List.set_cons_zero, List.set_cons_succ, i64_w, i32_w]
                            rfl
                          refine pure_ (i := 53) (N := some 144) (v := undef) (a' := ?_) #[true, true, true, true, true, true, true, true, true, true, true, true, true, true, true, true, true, true, true, true, true, true, true, true, true, true, true, true, true, true, true, true, true, true, true, true, true, true, true, true, true, true, true, true, true, true, true, true, true, true, true, true, true, true, false, false, false, false, false, false, false, false, false] rfl rfl (any_of HT_.out (by kernel_rfl)) (fun _ _ _ h => h) (Or.inr ⟨by rfl, rfl⟩) ?_ ?_
                          rotate_left
                          · simp only [Act.put, List.setIfInBounds_toArray, List.set_cons_zero, List.set_cons_succ, i64_w, i32_w]
                            rfl
                          refine pure_ (i := 54) (N := some 145) (v := undef) (a' := ?_) #[true, true, true, true, true, true, true, true, true, true, true, true, true, true, true, true, true, true, true, true, true, true, true, true, true, true, true, true, true, true, true, true, true, true, true, true, true, true, true, true, true, true, true, true, true, true, true, true, true, true, true, true, true, true, true, false, false, false, false, false, false, false, false] rfl rfl (any_of HT_.out (by kernel_rfl)) (fun _ _ _ h => h) (Or.inr ⟨by rfl, rfl⟩) ?_ ?_
                          rotate_left
                          · simp only [Act.put, List.setIfInBounds_toArray, List.set_cons_zero, List.set_cons_succ, i64_w, i32_w]
                            rfl
                          refine pure_ (i := 55) (N := some 146) (v := undef) (a' := ?_) #[true, true, true, true, true, true, true, true, true, true, true, true, true, true, true, true, true, true, true, true, true, true, true, true, true, true, true, true, true, true, true, true, true, true, true, true, true, true, true, true, true, true, true, true, true, true, true, true, true, true, true, true, true, true, true, true, false, false, false, false, false, false, false] rfl rfl (any_of HT_.out (by kernel_rfl)) (fun _ _ _ h => h) (Or.inr ⟨by rfl, rfl⟩) ?_ ?_
                          rotate_left
                          · simp only [Act.put, List.setIfInBounds_toArray, List.set_cons_zero, List.set_cons_succ, i64_w, i32_w]
                            rfl
                          refine pure_ (i := 56) (N := some 147) (v := undef) (a' := ?_) #[true, true, true, true, true, true, true, true, true, true, true, true, true, true, true, true, true, true, true, true, true, true, true, true, true, true, true, true, true, true, true, true, true, true, true, true, true, true, true, true, true, true, true, true, true, true, true, true, true, true, true, true, true, true, true, true, true, false, false, false, false, false, false] rfl rfl (any_of HT_.out (by kernel_rfl)) (fun _ _ _ h => h) (Or.inr ⟨by rfl, rfl⟩) ?_ ?_
                          rotate_left
                          · simp only [Act.put, List.setIfInBounds_toArray, List.set_cons_zero, List.set_cons_succ, i64_w, i32_w]
                            rfl
                          refine pure_ (i := 57) (N := some 148) (v := undef) (a' := ?_) #[true, true, true, true, true, true, true, true, true, true, true, true, true, true, true, true, true, true, true, true, true, true, true, true, true, true, true, true, true, true, true, true, true, true, true, true, true, true, true, true, true, true, true, true, true, true, true, true, true, true, true, true, true, true, true, true, true, true, false, false, false, false, false] rfl rfl (any_of HT_.out (by kernel_rfl)) (fun _ _ _ h => h) (Or.inr ⟨by rfl, rfl⟩) ?_ ?_
                          rotate_left
                          · simp only [Act.put, List.setIfInBounds_toArray, List.set_cons_zero, List.set_cons_succ, i64_w, i32_w]
                            rfl
                          refine pure_ (i := 58) (N := some 149) (v := undef) (a' := ?_) #[true, true, true, true, true, true, true, true, true, true, true, true, true, true, true, true, true, true, true, true, true, true, true, true, true, true, true, true, true, true, true, true, true, true, true, true, true, true, true, true, true, true, true, true, true, true, true, true, true, true, true, true, true, true, true, true, true, true, true, false, false, false, false] rfl rfl (any_of HT_.out (by kernel_rfl)) (fun _ _ _ h => h) (Or.inr ⟨by rfl, rfl⟩) ?_ ?_
                          rotate_left
                          · simp only [Act.put, List.setIfInBounds_toArray, List.set_cons_zero, List.set_cons_succ, i64_w, i32_w]
                            rfl
                          refine pure_ (i := 59) (N := some 150) (v := undef) (a' := ?_) #[true, true, true, true, true, true, true, true, true, true, true, true, true, true, true, true, true, true, true, true, true, true, true, true, true, true, true, true, true, true, true, true, true, true, true, true, true, true, true, true, true, true, true, true, true, true, true, true, true, true, true, true, true, true, true, true, true, true, true, true, false, false, false] rfl rfl (any_of HT_.out (by kernel_rfl)) (fun _ _ _ h => h) (Or.inr ⟨by rfl, rfl⟩) ?_ ?_
                          rotate_left
                          · simp only [Act.put, List.setIfInBounds_toArray, List.set_cons_zero, List.set_cons_succ, i64_w, i32_w]
                            rfl
                          refine pure_ (i := 60) (N := some 151) (v := ?_) (a' := ?_) #[true, true, true, true, true, true, true, true, true, true, true, true, true, true, true, true, true, true, true, true, true, true, true, true, true, true, true, true, true, true, true, true, true, true, true, true, true, true, true, true, true, true, true, true, true, true, true, true, true, true, true, true, true, true, true, true, true, true, true, true, true, false, false] rfl rfl (any_of HT_.out (by kernel_rfl)) (fun _ _ _ h => h) (Or.inl ⟨by rfl, ?_⟩) ?_ ?_
                          rotate_left
                          · intro w'
                            go_simp
                            with_reducible rfl
                          rotate_left
                          · simp only [Act.put, List.setIfInBounds_toArray, List.set_cons_zero, List.set_cons_succ, i64_w, i32_w]
                            rfl
                          refine pure_ (i := 61) (N := some 152) (v := ?_) (a' := ?_) #[true, true, true, true, true, true, true, true, true, true, true, true, true, true, true, true, true, true, true, true, true, true, true, true, true, true, true, true, true, true, true, true, true, true, true, true, true, true, true, true, true, true, true, true, true, true, true, true, true, true, true, true, true, true, true, true, true, true, true, true, true, true, false] rfl rfl (any_of HT_.out (by kernel_rfl)) (fun _ _ _ h => h) (Or.inl ⟨by rfl, ?_⟩) ?_ ?_
                          rotate_left
                          · intro w'
                            go_simp
                            with_reducible rfl
                          rotate_left
                          · simp only [Act.put, List.setIfInBounds_toArray, List.set_cons_zero, List.set_cons_succ, i64_w, i32_w]
                            rfl
                          refine pure_ (i := 62) (N := some 153) (v := ?_) (a' := ?_) #[true, true, true, true, true, true, true, true, true, true, true, true, true, true, true, true, true, true, true, true, true, true, true, true, true, true, true, true, true, true, true, true, true, true, true, true, true, true, true, true, true, true, true, true, true, true, true, true, true, true, true, true, true, true, true, true, true, true, true, true, true, true, true] rfl rfl (any_of HT_.out (by kernel_rfl)) (fun _ _ _ h => h) (Or.inl ⟨by rfl, ?_⟩) ?_ ?_
                          rotate_left
                          · intro w'
                            go_simp
                            with_reducible rfl
                          rotate_left
                          · simp only [Act.put, List.setIfInBounds_toArray, List.set_cons_zero, List.set_cons_succ, i64_w, i32_w]
                            rfl
                          refine done_ (done_of HT_.out (by kernel_rfl)) ?_
                          go_wp2
                          go_roundg (p.f1.length - (k + 1))
                          case measure => have := HQ2.out; have := HKL.out; omega
                          case rel => exact ⟨k + 1, by rw [show o + (k + 1) = n + 1 by have := HNN.out; omega]; go_num, by go_num, ⟨rfl, HKL.out⟩, ⟨below_step HWz.out hHeld⟩⟩
                      · obtain rfl : k = p.f1.length := by have := HQ2.out.2; omega
                        have hk2 : decide ((p.f1.length : Int) < (p.f1.length : Int)) = false := decide_eq_false (by omega)
                        clear hk
                        go_wp2
                        have hbs := HPL.out.base i HIL.out
                        rw [HPP.out] at hbs
                        rw [hbs.2] at x2
                        have HX0 := Aside0.mk x0
                        have HX2 := Aside0.mk x2
                        have hbn : ((p.f0 == 2) != (b.f2 == 5)) = false := by rw [hbs.1]; exact base_auto _ HMY.out
                        have hbn2 : ((p.f0 == 2) == (b.f2 == 5)) = true := by simpa using hbn
                        clear hbs
                        have HBb := Aside0.mk (show wr.cell? ⟨gb, 2, none⟩ = some (.int .u8 b.f2) from (blk_cell (blk_below Kb.out HW.out) 2).trans rfl)
                        clear x0 x1 x2 l1 hL
                        refine start_ (n := 18) (S := fun w' => Below wr.heap.size wr w') (ds := []) #[false, false, false, false, false, false, false, false, false, false, false, false, false, false, false, false, false, false] (by kernel_rfl) rfl rfl (below_drew (Below.refl wr.heap.size wr)) (fun hHeld => ?_)
                        refine with_tabW plain.tab22 plain.bits22 (fun HT_ HW_ => ?_)
                        generalize hwd : wr.drew = w22 at hHeld ⊢
                        refine pure_ (i := 0) (N := some 156) (v := ?_) (a' := ?_) #[true, false, false, false, false, false, false, false, false, false, false, false, false, false, false, false, false, false] rfl rfl (any_of HT_.out (by kernel_rfl)) (fun _ _ _ h => h) (Or.inl ⟨by rfl, ?_⟩) ?_ ?_
                        rotate_left
                        · intro w'
                          go_simp
                          with_reducible rfl
                        rotate_left
                        · simp only [Act.put, List.setIfInBounds_toArray, List.set_cons_zero, List.set_cons_succ, i64_w, i32_w]
                          rfl
                        refine pure_ (i := 1) (N := some 157) (v := ?_) (a' := ?_) #[true, true, false, false, false, false, false, false, false, false, false, false, false, false, false, false, false, false] rfl rfl (any_of HT_.out (by kernel_rfl)) (fun _ _ _ h => h) (Or.inl ⟨by rfl, ?_⟩) ?_ ?_
                        rotate_left
                        · intro w'
                          go_simp
                          with_reducible rfl
                        rotate_left
                        · simp only [Act.put, List.setIfInBounds_toArray, List.set_cons_zero, List.set_cons_succ, i64_w, i32_w]
                          rfl
                        refine pure_ (i := 2) (N := some 158) (v := ?_) (a' := ?_) #[true, true, true, false, false, false, false, false, false, false, false, false, false, false, false, false, false, false] rfl rfl (any_of HT_.out (by kernel_rfl)) (fun _ _ _ h => h) (Or.inl ⟨by rfl, ?_⟩) ?_ ?_
                        rotate_left
                        · intro w'
                          go_simp
                          with_reducible rfl
                        rotate_left
                        · simp only [Act.put, List.setIfInBounds_toArray, List.set_cons_zero, List.set_cons_succ, i64_w, i32_w]
                          rfl
                        refine pure_ (i := 3) (N := some 159) (v := ?_) (a' := ?_) #[true, true, true, true, false, false, false, false, false, false, false, false, false, false, false, false, false, false] rfl rfl (any_of HT_.out (by kernel_rfl)) (fun _ _ _ h => h) (Or.inl ⟨by rfl, ?_⟩) ?_ ?_
                        rotate_left
                        · intro w'
                          go_simp
                          with_reducible rfl
                        rotate_left
                        · simp only [Act.put, List.setIfInBounds_toArray, List.set_cons_zero, List.set_cons_succ, i64_w, i32_w]
                          rfl
                        refine take_ (i := 4) (N := some 160) (v := ?_) (a' := ?_) #[true, true, true, true, true, false, false, false, false, false, false, false, false, false, false, false, false, false] rfl rfl (take_ofW HT_.out HW_.out (by kernel_rfl)) (fun _ _ _ h => h) (Or.inl ⟨by rfl, ?_⟩) hHeld ?_ ?_
                        rotate_left
                        · rintro w' s0
                          have z0 := (s0.cell (World.block_lt_of_cell? _ _ HX0.out)).trans HX0.out
                          have z2 := (s0.cell (World.block_lt_of_cell? _ _ HX2.out)).trans HX2.out
                          have zb := (s0.cell (World.block_lt_of_cell? _ _ HBb.out)).trans HBb.out
                          go_simp
                          with_reducible rfl
                        rotate_left
                        · simp only [Act.put, List.setIfInBounds_toArray, List.set_cons_zero, List.set_cons_succ, i64_w, i32_w]
                          rfl
                        refine pure_ (i := 5) (N := some 161) (v := ?_) (a' := ?_) #[true, true, true, true, true, true, false, false, false, false, false, false, false, false, false, false, false, false] rfl rfl (any_of HT_.out (by kernel_rfl)) (fun _ _ _ h => h) (Or.inl ⟨by rfl, ?_⟩) ?_ ?_
                        rotate_left
                        · intro w'
                          go_simp
                          with_reducible rfl
                        rotate_left
                        · simp only [Act.put, List.setIfInBounds_toArray, List.set_cons_zero, List.set_cons_succ, i64_w, i32_w]
                          rfl
                        refine pure_ (i := 6) (N := some 162) (v := ?_) (a' := ?_) #[true, true, true, true, true, true, true, false, false, false, false, false, false, false, false, false, false, false] rfl rfl (any_of HT_.out (by kernel_rfl)) (fun _ _ _ h => h) (Or.inl ⟨by rfl, ?_⟩) ?_ ?_
                        rotate_left
                        · intro w'
                          go_simp
                          with_reducible rfl
                        rotate_left
                        · simp only [Act.put, List.setIfInBounds_toArray, List.set_cons_zero, List.set_cons_succ, i64_w, i32_w]
                          rfl
                        refine pure_ (i := 7) (N := some 163) (v := ?_) (a' := ?_) #[true, true, true, true, true, true, true, true, false, false, false, false, false, false, false, false, false, false] rfl rfl (any_of HT_.out (by kernel_rfl)) (fun _ _ _ h => h) (Or.inl ⟨by rfl, ?_⟩) ?_ ?_
                        rotate_left
                        · intro w'
                          go_simp
                          with_reducible rfl
                        rotate_left
                        · simp only [Act.put, List.setIfInBounds_toArray, List.set_cons_zero, List.set_cons_succ, i64_w, i32_w]
                          rfl
                        refine pure_ (i := 8) (N := some 164) (v := ?_) (a' := ?_) #[true, true, true, true, true, true, true, true, true, false, false, false, false, false, false, false, false, false] rfl rfl (any_of HT_.out (by kernel_rfl)) (fun _ _ _ h => h) (Or.inl ⟨by rfl, ?_⟩) ?_ ?_
                        rotate_left
                        · intro w'
                          go_simp
                          with_reducible rfl
                        rotate_left
                        · simp only [Act.put, List.setIfInBounds_toArray, List.set_cons_zero, List.set_cons_succ, i64_w, i32_w]
                          rfl
                        refine pure_ (i := 9) (N := some 165) (v := ?_) (a' := ?_) #[true, true, true, true, true, true, true, true, true, true, false, false, false, false, false, false, false, false] rfl rfl (any_of HT_.out (by kernel_rfl)) (fun _ _ _ h => h) (Or.inl ⟨by rfl, ?_⟩) ?_ ?_
                        rotate_left
                        · intro w'
                          go_simp
                          with_reducible rfl
                        rotate_left
                        · simp only [Act.put, List.setIfInBounds_toArray, List.set_cons_zero, List.set_cons_succ, i64_w, i32_w]
                          rfl
                        refine pure_ (i := 10) (N := some 166) (v := ?_) (a' := ?_) #[true, true, true, true, true, true, true, true, true, true, true, false, false, false, false, false, false, false] rfl rfl (any_of HT_.out (by kernel_rfl)) (fun _ _ _ h => h) (Or.inl ⟨by rfl, ?_⟩) ?_ ?_
                        rotate_left
                        · intro w'
                          go_simp
                          with_reducible rfl
                        rotate_left
                        · simp only [Act.put, List.setIfInBounds_toArray, List.set_cons_zero, List.set_cons_succ, i64_w, i32_w]
                          rfl
                        refine pure_ (i := 13) (N := some 169) (v := ?_) (a' := ?_) #[true, true, true, true, true, true, true, true, true, true, true, false, false, true, false, false, false, false] rfl rfl (any_of HT_.out (by kernel_rfl)) (fun _ _ _ h => h) (Or.inl ⟨by rfl, ?_⟩) ?_ ?_
                        rotate_left
                        · intro w'
                          go_simp
                          with_reducible rfl
                        rotate_left
                        · simp only [Act.put, List.setIfInBounds_toArray, List.set_cons_zero, List.set_cons_succ, i64_w, i32_w]
                          rfl
                        refine take_ (i := 11) (N := some 167) (v := ?_) (a' := ?_) #[true, true, true, true, true, true, true, true, true, true, true, true, false, true, false, false, false, false] rfl rfl (take_ofW HT_.out HW_.out (by kernel_rfl)) (fun _ _ _ h => h) (Or.inl ⟨by rfl, ?_⟩) hHeld ?_ ?_
                        rotate_left
                        · rintro w' s0
                          have z0 := (s0.cell (World.block_lt_of_cell? _ _ HX0.out)).trans HX0.out
                          have z2 := (s0.cell (World.block_lt_of_cell? _ _ HX2.out)).trans HX2.out
                          have zb := (s0.cell (World.block_lt_of_cell? _ _ HBb.out)).trans HBb.out
                          go_simp
                          with_reducible rfl
                        rotate_left
                        · simp only [Act.put, List.setIfInBounds_toArray, List.set_cons_zero, List.set_cons_succ, i64_w, i32_w]
                          rfl
                        refine pure_ (i := 12) (N := some 168) (v := ?_) (a' := ?_) #[true, true, true, true, true, true, true, true, true, true, true, true, true, true, false, false, false, false] rfl rfl (any_of HT_.out (by kernel_rfl)) (fun _ _ _ h => h) (Or.inl ⟨by rfl, ?_⟩) ?_ ?_
                        rotate_left
                        · intro w'
                          go_simp
                          with_reducible rfl
                        rotate_left
                        · simp only [Act.put, List.setIfInBounds_toArray, List.set_cons_zero, List.set_cons_succ, i64_w, i32_w]
                          rfl
                        refine take_ (i := 14) (N := some 170) (v := ?_) (a' := ?_) #[true, true, true, true, true, true, true, true, true, true, true, true, true, true, true, false, false, false] rfl rfl (take_ofW HT_.out HW_.out (by kernel_rfl)) (fun _ _ _ h => h) (Or.inl ⟨by rfl, ?_⟩) hHeld ?_ ?_
                        rotate_left
                        · rintro w' s0
                          have z0 := (s0.cell (World.block_lt_of_cell? _ _ HX0.out)).trans HX0.out
                          have z2 := (s0.cell (World.block_lt_of_cell? _ _ HX2.out)).trans HX2.out
                          have zb := (s0.cell (World.block_lt_of_cell? _ _ HBb.out)).trans HBb.out
                          go_simp
                          with_reducible rfl
                        rotate_left
                        · simp only [Act.put, List.setIfInBounds_toArray, List.set_cons_zero, List.set_cons_succ, i64_w, i32_w]
                          rfl
                        refine pure_ (i := 15) (N := some 171) (v := ?_) (a' := ?_) #[true, true, true, true, true, true, true, true, true, true, true, true, true, true, true, true, false, false] rfl rfl (any_of HT_.out (by kernel_rfl)) (fun _ _ _ h => h) (Or.inl ⟨by rfl, ?_⟩) ?_ ?_
                        rotate_left
                        · intro w'
                          go_simp
                          with_reducible rfl
                        rotate_left
                        · simp only [Act.put, List.setIfInBounds_toArray, List.set_cons_zero, List.set_cons_succ, i64_w, i32_w]
                          rfl
                        refine pure_ (i := 16) (N := some 172) (v := ?_) (a' := ?_) #[true, true, true, true, true, true, true, true, true, true, true, true, true, true, true, true, true, false] rfl rfl (any_of HT_.out (by kernel_rfl)) (fun _ _ _ h => h) (Or.inl ⟨by rfl, ?_⟩) ?_ ?_
                        rotate_left
                        · intro w'
                          go_simp
                          with_reducible rfl
                        rotate_left
                        · simp only [Act.put, List.setIfInBounds_toArray, List.set_cons_zero, List.set_cons_succ, i64_w, i32_w]
                          rfl
                        refine pure_ (i := 17) (N := some 173) (v := ?_) (a' := ?_) #[true, true, true, true, true, true, true, true, true, true, true, true, true, true, true, true, true, true] rfl rfl (any_of HT_.out (by kernel_rfl)) (fun _ _ _ h => h) (Or.inl ⟨by rfl, ?_⟩) ?_ ?_
                        rotate_left
                        · intro w'
                          go_simp
                          with_reducible rfl
                        rotate_left
                        · simp only [Act.put, List.setIfInBounds_toArray, List.set_cons_zero, List.set_cons_succ, i64_w, i32_w]
                          rfl
                        refine done_ (done_of HT_.out (by kernel_rfl)) ?_
                        clear hbn hbn2 hwd hk2 pi0 pi1 hi2
                        go_wp2
                        go_roundg (P.length - (i + 1))
                        case measure => have := HQ.out; have := HIL.out; omega
                        case rel => exact ⟨i + 1, by rw [offs_step P i HIL.out, HOO.out, HPP.out], by go_num, ⟨rfl, HIL.out⟩, ⟨below_step HW.out hHeld⟩⟩
                  · obtain rfl : i = P.length := by have := HQ.out.2; omega
                    have hi2 : decide ((P.length : Int) < (P.length : Int)) = false := decide_eq_false (by omega)
                    rw [plain_end HPL.out]
                    clear hi
                    have n0_ := Aside0.mk (below_step HB.out HW.out)
                    clear HB
                    have HB := n0_
                    clear n0_ HW
                    have hll : ((l.length : Int) == (l.length : Int)) = true := by simp
                    go_wp2_with (first | (go_at_call 9; refine (selvedgelaw13_works.calls true _ HWK.out (HG.out.below (by repeat (first | (with_reducible first | exact HB.out | apply below_alloc | apply pw_below_drewN | apply below_drew1 | refine below_set ?_ GEb.out | refine below_set ?_ GEf.out) | exact HB.out)))).mono ?_; rintro e wk ⟨rfl, hb⟩; have n0_ := Aside0.mk (below_step (by repeat (first | (with_reducible first | exact HB.out | apply below_alloc | apply pw_below_drewN | apply below_drew1 | refine below_set ?_ GEb.out | refine below_set ?_ GEf.out) | exact HB.out)) hb); clear HB; have HB := n0_; clear n0_ hb))
                    go_ret
                    exact ⟨rfl, (by repeat (first | (with_reducible first | exact HB.out | apply below_alloc | apply pw_below_drewN | apply below_drew1 | refine below_set ?_ GEb.out | refine below_set ?_ GEf.out) | exact HB.out))⟩
end Go.Proofs.YtlfpjlpaiaonkaaDoor.Sp

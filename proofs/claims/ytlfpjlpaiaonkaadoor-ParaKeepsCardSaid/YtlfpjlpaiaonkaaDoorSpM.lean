/- Layer 13's splitter: item, of any kind; what stands after so many items. -/
import Derived.Test.YtlfpjlpaiaonkaaDoorSpL
namespace Go.Proofs.YtlfpjlpaiaonkaaDoor.Sp
open Go.RowKit Go.Proofs.YtlfpjlpaiaonkaaDoorW.PrintWords Go.Proofs.YtlfpjlpaiaonkaaDoorW.PrintLast Go.Proofs.YtlfpjlpaiaonkaaDoorW.PrintMore Go.Proofs.YtlfpjlpaiaonkaaDoorH Go.Proofs.YtlfpjlpaiaonkaaDoor.P Go.Proofs.YtlfpjlpaiaonkaaDoor.Mp
set_option linter.unusedVariables false
set_option linter.unusedSimpArgs false
def Sp.item (S : Sp) (it : Itm) (i : Int) : Sp := if it.f0 = 1 then S.open_ it i else if it.f0 = 2 then S.shut i else if it.f0 = 3 then S.char it.f3 i else S.brkAll i
theorem puts_hard (os : List Opn) (item : Int) : ∀ S : Sp, (S.puts os item).hard = S.hard := by
  induction os with
  | nil => intro S; rfl
  | cons o os ih => intro S; exact ih (S.put (ctlR o.f1.f2 o.f1.f1).2 item)
/-- What two states share: all but the paragraph under way. -/
structure Like (S T : Sp) : Prop where
  sty : T.styles = S.styles
  blk : T.block = S.block
  hard : T.hard = S.hard
  len : T.opn.length = S.opn.length
  mem : ∀ o, o ∈ T.opn → ∃ p, p ∈ S.opn ∧ o.f1 = p.f1
theorem Like.refl (S : Sp) : Like S S := ⟨rfl, rfl, rfl, rfl, fun o h => ⟨o, h, rfl⟩⟩
theorem Like.of {S T : Sp} (h1 : T.styles = S.styles) (h2 : T.block = S.block) (h3 : T.hard = S.hard) (h4 : T.opn = S.opn) : Like S T := ⟨h1, h2, h3, by rw [h4], fun o h => ⟨o, by rw [← h4]; exact h, rfl⟩⟩
theorem Like.trans {S T U : Sp} (h : Like S T) (k : Like T U) : Like S U :=
  ⟨k.sty.trans h.sty, k.blk.trans h.blk, k.hard.trans h.hard, k.len.trans h.len, fun o ho => let ⟨p, hp, e⟩ := k.mem o ho; let ⟨q, hq, e'⟩ := h.mem p hp; ⟨q, hq, e.trans e'⟩⟩
theorem enter_like (S : Sp) (o : Opn) (outer : Int) : (S.enter o outer).1.styles = S.styles ∧ (S.enter o outer).1.block = S.block ∧ (S.enter o outer).1.hard = S.hard ∧ (S.enter o outer).1.out = S.out ∧ (S.enter o outer).1.pieces.length + S.L.length = (S.enter o outer).1.L.length + S.pieces.length := by
  unfold Sp.enter
  cases isoB o.f1 <;> simp [Sp.put] <;> omega
theorem enterFrom_parts : ∀ (m i : Nat) (outer : Int) (S : Sp), i + m ≤ S.opn.length →
    Like S (Sp.enterFrom m i outer S) ∧ (Sp.enterFrom m i outer S).out = S.out ∧ (Sp.enterFrom m i outer S).L.length ≤ S.L.length + 2 * m ∧ (Sp.enterFrom m i outer S).pieces.length + S.L.length = (Sp.enterFrom m i outer S).L.length + S.pieces.length ∧ S.count ≤ (Sp.enterFrom m i outer S).count ∧ (Sp.enterFrom m i outer S).count ≤ S.count + m := by
  intro m
  induction m with
  | zero => intro i outer S _; exact ⟨Like.refl S, rfl, by simp [Sp.enterFrom], by simp [Sp.enterFrom]; omega, by simp [Sp.enterFrom], by simp [Sp.enterFrom]⟩
  | succ m ih =>
    intro i outer S hi
    obtain ⟨o, ho⟩ : ∃ o, S.opn.getD i z98 = o := ⟨_, rfl⟩
    have hmem : o ∈ S.opn := by
      rw [← ho, List.getD_eq_getElem?_getD, List.getElem?_eq_getElem (by omega)]
      exact List.getElem_mem _
    have hp := Sp.enter_parts S o outer
    have hq := enter_like S o outer
    obtain ⟨S1, hS1⟩ : ∃ S1 : Sp, { (S.enter o outer).1 with opn := (S.enter o outer).1.opn.set i { o with f2 := (S.enter o outer).2 } } = S1 := ⟨_, rfl⟩
    have he : Sp.enterFrom (m + 1) i outer S = Sp.enterFrom m (i + 1) (S.enter o outer).2 S1 := by rw [← hS1, ← ho]; rfl
    have h1 : S1.opn = S.opn.set i { o with f2 := (S.enter o outer).2 } := by rw [← hS1, ← hp.2.2.2.2]
    have h2 : S1.L = (S.enter o outer).1.L := by rw [← hS1]
    have h3 : S1.pieces = (S.enter o outer).1.pieces := by rw [← hS1]
    have h4 : S1.count = (S.enter o outer).1.count := by rw [← hS1]
    have h5 : S1.out = S.out := by rw [← hS1]; exact hq.2.2.2.1
    have hl : Like S S1 := by
      refine ⟨by rw [← hS1]; exact hq.1, by rw [← hS1]; exact hq.2.1, by rw [← hS1]; exact hq.2.2.1, by rw [h1, List.length_set], fun p hp' => ?_⟩
      rw [h1] at hp'
      rcases List.mem_or_eq_of_mem_set hp' with h | rfl
      · exact ⟨p, h, rfl⟩
      · exact ⟨o, hmem, rfl⟩
    obtain ⟨a1, a2, a3, a4, a5, a6⟩ := ih (i + 1) (S.enter o outer).2 S1 (by rw [hl.len]; omega)
    rw [he]
    rw [h2] at a3 a4
    rw [h3] at a4
    rw [h4] at a5 a6
    refine ⟨hl.trans a1, a2.trans h5, ?_, ?_, ?_, ?_⟩
    · omega
    · omega
    · omega
    · have := hp.2.2.2.1
      push_cast
      omega
theorem begin_parts (S : Sp) : Like S S.begin_ ∧ S.begin_.out = S.out ∧ S.begin_.L.length ≤ 2 * S.opn.length + 2 ∧ S.begin_.pieces.length = S.begin_.L.length ∧ S.count ≤ S.begin_.count ∧ S.begin_.count ≤ S.count + S.opn.length := by
  rw [Sp.begin_eq]
  have hl := (ctlR_len 3 S.block.f1).1
  split
  · obtain ⟨a1, a2, a3, a4, a5, a6⟩ := enterFrom_parts S.opn.length 0 0 (S.fresh.put (ctlR 3 S.block.f1).1 (-1)) (by simp [Sp.put, Sp.fresh])
    have e1 : (S.fresh.put (ctlR 3 S.block.f1).1 (-1)).L.length = (ctlR 3 S.block.f1).1.length := by simp [Sp.put, Sp.fresh]
    have e2 : (S.fresh.put (ctlR 3 S.block.f1).1 (-1)).pieces.length = (ctlR 3 S.block.f1).1.length := by simp [Sp.put, Sp.fresh]
    have e3 : (S.fresh.put (ctlR 3 S.block.f1).1 (-1)).count = S.count := rfl
    rw [e1] at a3 a4
    rw [e2] at a4
    rw [e3] at a5 a6
    exact ⟨(Like.of rfl rfl rfl rfl : Like S (S.fresh.put (ctlR 3 S.block.f1).1 (-1))).trans a1, a2, by omega, by omega, a5, a6⟩
  · obtain ⟨a1, a2, a3, a4, a5, a6⟩ := enterFrom_parts S.opn.length 0 0 S.fresh (by simp [Sp.fresh])
    have e1 : S.fresh.L.length = 0 := rfl
    have e2 : S.fresh.pieces.length = 0 := rfl
    have e3 : S.fresh.count = S.count := rfl
    rw [e1] at a3 a4
    rw [e2] at a4
    rw [e3] at a5 a6
    exact ⟨(Like.of rfl rfl rfl rfl : Like S S.fresh).trans a1, a2, by omega, by omega, a5, a6⟩
theorem end_like (S : Sp) : Like S S.end_ ∧ S.end_.out.length = S.out.length + 1 := by
  unfold Sp.end_
  split
  · exact ⟨Like.of rfl rfl rfl rfl, by simp [Sp.push, Sp.harden]⟩
  · exact ⟨Like.of rfl rfl rfl rfl, by simp [Sp.push]⟩
/-- After n items. -/
structure Fine (st : List Sty) (b : Sty) (h : Bool) (n : Nat) (S : Sp) : Prop where
  sty : S.styles = st
  blk : S.block = b
  hard : S.hard = h
  L : S.L.length ≤ 4 * n + 4
  pieces : S.pieces.length = S.L.length
  opn : S.opn.length ≤ n
  mem : ∀ o, o ∈ S.opn → o.f1 ∈ st
  count : 0 ≤ S.count ∧ S.count ≤ (n + 1) * n
  out : S.out.length ≤ n
theorem Fine.like {st : List Sty} {b : Sty} {h : Bool} {n m : Nat} {S T : Sp} (hf : Fine st b h n S) (hl : Like S T) (hL : T.L.length ≤ 4 * m + 4) (hp : T.pieces.length = T.L.length) (ho : S.opn.length ≤ m) (hc : 0 ≤ T.count ∧ T.count ≤ (m + 1) * m) (hu : T.out.length ≤ m) : Fine st b h m T :=
  ⟨hl.sty.trans hf.sty, hl.blk.trans hf.blk, hl.hard.trans hf.hard, hL, hp, by rw [hl.len]; exact ho, fun o ho => let ⟨p, hp, e⟩ := hl.mem o ho; by rw [e]; exact hf.mem p hp, hc, hu⟩
theorem sq_step (n : Nat) : (((n + 1 : Nat) : Int) + 1) * ((n + 1 : Nat) : Int) = ((n : Int) + 1) * n + 2 * n + 2 := by
  push_cast
  generalize (n : Int) = x
  rw [Int.add_mul, Int.mul_add, Int.mul_add, Int.add_mul, Int.one_mul, Int.mul_one]
  omega
theorem fine_begin {st : List Sty} {b : Sty} {h : Bool} {n : Nat} {S T : Sp} (hf : Fine st b h n S) (hl : Like S T) (hc : T.count = S.count) (hu : T.out.length ≤ n + 1) : Fine st b h (n + 1) T.begin_ := by
  obtain ⟨a1, a2, a3, a4, a5, a6⟩ := begin_parts T
  have h1 := hf.opn
  have h2 := hf.count
  have h3 := hl.len
  have h4 := sq_step n
  refine hf.like (hl.trans a1) (by omega) a4 (by omega) ⟨by omega, ?_⟩ (by rw [a2]; exact hu)
  rw [h4]
  generalize ((n : Int) + 1) * n = q at *
  omega
theorem add_parts (S : Sp) (r i : Int) : Like S (S.add r i) ∧ (S.add r i).L.length = S.L.length + 1 ∧ (S.add r i).pieces.length = S.pieces.length + 1 ∧ (S.add r i).count = S.count ∧ (S.add r i).out = S.out := ⟨Like.of rfl rfl rfl rfl, by simp [Sp.add], by simp [Sp.add], rfl, rfl⟩
theorem fine_item {st : List Sty} {b : Sty} {h : Bool} {n : Nat} {S : Sp} (hf : Fine st b h n S) (it : Itm) (i : Int) (h1 : it.f0 = 1 → 0 ≤ it.f1 ∧ it.f1 < st.length) : Fine st b h (n + 1) (S.item it i) := by
  have hL := hf.L
  have hP := hf.pieces
  have hO := hf.opn
  have hC := hf.count
  have hU := hf.out
  have hS := sq_step n
  have hS2 : ((n : Int) + 1) * n + 1 ≤ (((n + 1 : Nat) : Int) + 1) * ((n + 1 : Nat) : Int) := by rw [hS]; generalize ((n : Int) + 1) * n = q; omega
  unfold Sp.item
  split
  · rename_i hk
    have hn := h1 hk
    have hmem : S.styles.getD it.f1.toNat z52 ∈ st := by
      rw [hf.sty, List.getD_eq_getElem?_getD, List.getElem?_eq_getElem (by omega)]
      exact List.getElem_mem _
    unfold Sp.open_
    obtain ⟨o, ho⟩ : ∃ o : Opn, ⟨i, S.styles.getD it.f1.toNat z52, 0⟩ = o := ⟨_, rfl⟩
    have hof : o.f1 ∈ st := by rw [← ho]; exact hmem
    simp only [ho]
    have hp := Sp.enter_parts S o S.inner
    have hq := enter_like S o S.inner
    obtain ⟨E, hE⟩ : ∃ E, S.enter o S.inner = E := ⟨_, rfl⟩
    rw [hE] at hp hq ⊢
    refine ⟨hq.1.trans hf.sty, hq.2.1.trans hf.blk, hq.2.2.1.trans hf.hard, ?_, ?_, ?_, ?_, ⟨?_, ?_⟩, ?_⟩
    · show E.1.L.length ≤ _
      omega
    · show E.1.pieces.length = E.1.L.length
      omega
    · simp
      omega
    · intro p hp'
      simp at hp'
      rcases hp' with hp' | rfl
      · exact hf.mem p hp'
      · rw [List.getD_eq_getElem?_getD] at hmem
        exact hmem
    · show 0 ≤ E.1.count
      omega
    · show E.1.count ≤ _
      omega
    · show E.1.out.length ≤ _
      rw [hq.2.2.2.1]
      omega
  · split
    · unfold Sp.shut
      obtain ⟨o, ho⟩ : ∃ o, S.opn.getD (S.opn.length - 1) z98 = o := ⟨_, rfl⟩
      have hl := (ctlR_len o.f1.f2 o.f1.f1).2
      simp only [ho]
      refine ⟨hf.sty, hf.blk, hf.hard, ?_, ?_, ?_, fun p hp => hf.mem p (List.mem_of_mem_take hp), ⟨hC.1, by show S.count ≤ _; omega⟩, by show S.out.length ≤ _; omega⟩
      · simp [Sp.put]
        omega
      · simp [Sp.put]
        omega
      · simp
        omega
    · split
      · have hadd : ∀ r, Fine st b h (n + 1) (S.add r i) := fun r => by
          obtain ⟨a1, a2, a3, a4, a5⟩ := add_parts S r i
          exact hf.like a1 (by omega) (by omega) (by omega) ⟨by omega, by omega⟩ (by rw [a5]; omega)
        unfold Sp.char
        split
        · split
          · exact hadd _
          · have hen := end_like (S.add it.f3 i)
            obtain ⟨a1, a2, a3, a4, a5⟩ := add_parts S it.f3 i
            exact fine_begin hf (a1.trans hen.1) (by rw [end_count, a4]) (by rw [hen.2, a5]; omega)
        · exact hadd _
      · unfold Sp.brkAll
        obtain ⟨b1, b2, b3, b4, b5, b6, b7⟩ := Sp.puts_parts S.opn.reverse i S
        obtain ⟨T, hT⟩ : ∃ T, S.puts S.opn.reverse i = T := ⟨_, rfl⟩
        have hh : T.hard = S.hard := by rw [← hT]; exact puts_hard S.opn.reverse i S
        rw [hT] at b1 b2 b3 b4 b5 b6 b7 ⊢
        obtain ⟨c1, c2, c3, c4, c5, c6⟩ := T.close_parts
        have c7 : T.close.styles = T.styles ∧ T.close.hard = T.hard := by unfold Sp.close; split <;> exact ⟨rfl, rfl⟩
        have hen := end_like { T.close with brk := i }
        have hlk : Like S { T.close with brk := i } := Like.of (c7.1.trans b2) (c2.trans b3) (c7.2.trans hh) (c1.trans b1)
        refine fine_begin hf (hlk.trans hen.1) ?_ ?_
        · rw [end_count]
          exact c3.trans b4
        · rw [hen.2]
          show T.close.out.length + 1 ≤ _
          rw [c4, b5]
          omega
/-- item: what the walks say, of any kind. -/
theorem item_calls (w0 w : World) (g : Nat) (ok : Nat → Prop) (st : List Sty) (b : Sty) (h : Bool) (n : Nat) (S : Sp) (vs vo vl vp vn : Value) (it : Itm) (item : Int) (hf : Fine st b h n S) (hN : n ≤ 90000) (hk : 1 ≤ it.f0 ∧ it.f0 ≤ 4) (h1 : it.f0 = 1 → 0 ≤ it.f1 ∧ it.f1 < st.length) (h2 : it.f0 = 2 → 0 < S.opn.length) (hb : u8 b.f1) (hs : ∀ s, s ∈ st → u8 s.f1 ∧ u8 s.f2)
    (hV : SpV w0 w g ok S vs vo vl vp vn) (hB : Below w0.heap.size w0 w) (hok : ∀ k, w.heap.size ≤ k → ok k) (hG : LaidW w0) :
    Calls Tryd.prog 23 #[.pointer (some ⟨g, 0, none⟩), .agg (itmC it), .int .i64 item] w fun e' w' => e' = .returned (.tuple #[]) ∧ (∃ vo' vl' vp' vn', SpV w0 w' g ok (S.item it item) vs vo' vl' vp' vn') ∧ Below w0.heap.size w0 w' ∧ Kp w w' g ok := by
  have hL : S.L.length ≤ 1000000 := Nat.le_trans hf.L (by omega)
  have hO : S.opn.length ≤ 90000 := Nat.le_trans hf.opn hN
  have hU : S.out.length ≤ 90000 := Nat.le_trans hf.out hN
  have hc : 0 ≤ S.count ∧ S.count ≤ 10000000000 := ⟨hf.count.1, Int.le_trans hf.count.2 (Int.le_trans (Int.mul_le_mul (show (n : Int) + 1 ≤ 90001 by omega) (show (n : Int) ≤ 90000 by omega) (by omega) (by omega)) (by omega))⟩
  have hbu : u8 S.block.f1 := by rw [hf.blk]; exact hb
  have huo : ∀ o, o ∈ S.opn → u8 o.f1.f1 ∧ u8 o.f1.f2 := fun o ho => hs o.f1 (hf.mem o ho)
  have hus : ∀ s, s ∈ S.styles → u8 s.f1 ∧ u8 s.f2 := by rw [hf.sty]; exact hs
  have hk' : it.f0 = 1 ∨ it.f0 = 2 ∨ it.f0 = 3 ∨ it.f0 = 4 := by omega
  rcases hk' with e | e | e | e
  · rw [show S.item it item = S.open_ it item by unfold Sp.item; rw [if_pos e]]
    exact item_open w0 w g ok S vs vo vl vp vn it item e hV hB hok (by omega) hf.pieces (by omega) hG hc (by rw [hf.sty]; exact h1 e) hus
  · rw [show S.item it item = S.shut item by unfold Sp.item; rw [if_neg (by omega), if_pos e]]
    exact item_shut w0 w g ok S vs vo vl vp vn it item e hV hB hok (by omega) hf.pieces (by omega) hG (h2 e) huo
  · rw [show S.item it item = S.char it.f3 item by unfold Sp.item; rw [if_neg (by omega), if_neg (by omega), if_pos e]]
    refine (item_char w0 w g ok S vs vo vl vp vn it item e hV hB hok (by omega) hf.pieces (by omega) hbu huo hG (by omega) hc).mono ?_
    rintro e' w' ⟨q1, ⟨a, b, c, q2⟩, q3, q4⟩
    exact ⟨q1, ⟨a, b, c, vn, q2⟩, q3, q4⟩
  · rw [show S.item it item = S.brkAll item by unfold Sp.item; rw [if_neg (by omega), if_neg (by omega), if_neg (by omega)]]
    exact item_break w0 w g ok S vs vo vl vp vn it item e hV hB hok (by omega) hf.pieces (by omega) hG hbu huo (by omega) hc
end Go.Proofs.YtlfpjlpaiaonkaaDoor.Sp

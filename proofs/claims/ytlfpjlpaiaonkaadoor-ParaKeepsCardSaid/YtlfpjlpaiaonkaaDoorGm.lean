/- A map of rows of whole numbers that the call makes (a group by): each group's row is a block of its own. -/
import Derived.Test.YtlfpjlpaiaonkaaDoorMp
import Derived.Maps.RangeRun
namespace Go.Proofs.YtlfpjlpaiaonkaaDoor.Mp
open Go.ChangeMaps (setBlock)
open Go.RowKit Go.Proofs.YtlfpjlpaiaonkaaDoorW.PrintWords Go.Proofs.YtlfpjlpaiaonkaaDoorW.PrintLast Go.Proofs.YtlfpjlpaiaonkaaDoorW.PrintMore
set_option linter.unusedVariables false
set_option linter.unusedSimpArgs false
abbrev kI : Kd Int := Kd.int .i64
abbrev eI : Nat := 3
/-- The map in block b; own tells whose each block is. -/
structure GV (w : World) (b base : Nat) (G : List (Int × List Int)) (M : List (Int × Value)) (own : Nat → Nat) : Prop where
  at_ : At w b M
  keys : M.map (·.1) = G.map (·.1)
  ge : base ≤ b
  rows : ∀ (i : Nat) x y, M[i]? = some x → G[i]? = some y → kI.R eI w base (fun q => own q = i) x.2 y.2
def slot {α : Type} (k : Int) (G : List (Int × α)) : Nat := ((lookI k G 0).map (·.1)).getD G.length
def valI (k : Int) (M : List (Int × Value)) : Value := ((lookI k M 0).map (·.2)).getD (.slice none 0 0)
def rowI (k : Int) (G : List (Int × List Int)) : List Int := ((lookI k G 0).map (·.2)).getD []
def ownUp (w : World) (s : Nat) (own : Nat → Nat) (q : Nat) : Nat := if w.heap.size ≤ q then s else own q
section
variable {w w1 : World} {b base : Nat} {G : List (Int × List Int)} {M : List (Int × Value)} {own : Nat → Nat}
theorem GV.len (h : GV w b base G M own) : M.length = G.length := by have := congrArg List.length h.keys; simpa using this
theorem GV.slot_eq (h : GV w b base G M own) (k : Int) : slot k M = slot k G := by
  unfold slot
  rw [lookI_keys k M G 0 h.keys, h.len]
theorem GV.made (w : World) : GV (w.alloc (.map #[] 0)) w.heap.size w.heap.size [] [] (fun _ => 0) :=
  ⟨by unfold At; exact heap_alloc_new w _, rfl, Nat.le_refl _, fun i x y h => by simp at h⟩
/-- What is from base on, stays. -/
theorem GV.step (h : GV w b base G M own) (hm : ∀ k, base ≤ k → k < w.heap.size → w1.heap[k]? = w.heap[k]?) : GV w1 b base G M own :=
  ⟨(hm b h.ge (by have := h.at_; unfold At at this; exact blk_lt this)).trans h.at_, h.keys, h.ge, fun i x y hx hy =>
    Kd.R_mono (Kd.R_move (Kd.R_bound (h.rows i x y hx hy)) (fun k hk => hm k hk.2.1 hk.2.2.1)) (fun _ hk => hk.1)⟩
theorem GV.below (h : GV w b base G M own) (hb : Below w.heap.size w w1) : GV w1 b base G M own := h.step fun k _ hk => hb.block k hk
theorem GV.alloc (h : GV w b base G M own) (o : Obj) : GV (w.alloc o) b base G M own := h.below ((Below.refl _ _).alloc (Nat.le_refl _) _)
theorem GV.row (h : GV w b base G M own) (k : Int) : kI.R eI w base (fun q => ownUp w (slot k G) own q = slot k G) (valI k M) (rowI k G) := by
  unfold valI rowI
  have hk := lookI_keys k M G 0 h.keys
  cases hM : lookI k M 0 with
  | none =>
    rw [hM] at hk
    cases hG : lookI k G 0 with
    | none => exact Kd.R_nil _ _ _ _ _
    | some y => rw [hG] at hk; cases hk
  | some x =>
    rw [hM] at hk
    cases hG : lookI k G 0 with
    | none => rw [hG] at hk; cases hk
    | some y =>
      rw [hG] at hk
      obtain ⟨i, v⟩ := x
      obtain ⟨i', l⟩ := y
      obtain rfl : i = i' := by simpa using hk
      have h1 := (lookI_lt k M 0 i v hM).2.2
      have h2 := (lookI_lt k G 0 i l hG).2.2
      rw [Nat.sub_zero] at h1 h2
      have hs : slot k G = i := by simp [slot, hG]
      rw [hs]
      refine Kd.R_mono (Kd.R_bound (h.rows i _ _ h1 h2)) (fun q hq => ?_)
      unfold ownUp
      rw [if_neg (by have := hq.2.2.1; omega)]
      exact hq.1
theorem R_setM {α : Type} {d : Kd α} {e : Nat} {ok : Nat → Prop} {v : Value} {xs : List α} {o : Obj} (h : d.R e w base ok v xs) (hb : w.heap[b]? = some o) (ho : ∀ c t, o ≠ .cells c t (0, 0)) (M' : List (Int × Value)) : d.R e (setM w b M') base ok v xs :=
  Kd.R_mono (Kd.R_move (Kd.R_bound h) (fun k hk => setM_other w b k M' (by
    rintro rfl
    obtain ⟨_, _, _, q, _, c, hc⟩ := hk
    rw [hb] at hc
    exact ho c q (Option.some.inj hc)))) (fun _ hk => hk.1)
theorem putI_keys {α β : Type} (k : Int) (v : α) (l : β) {M : List (Int × α)} {G : List (Int × β)} (h : M.map (·.1) = G.map (·.1)) : (putI k v M).map (·.1) = (putI k l G).map (·.1) := by
  unfold putI
  have hk := lookI_keys k M G 0 h
  cases hM : lookI k M 0 <;> cases hG : lookI k G 0 <;> rw [hM, hG] at hk <;> simp at hk <;> simp [setI_keys, h]
theorem putI_get {α : Type} (k : Int) (v : α) (M : List (Int × α)) (q : Nat) : (putI k v M)[q]? = if q = slot k M then some (k, v) else M[q]? := by
  unfold putI slot
  cases hM : lookI k M 0 with
  | none =>
    simp only [Option.isSome_none, Bool.false_eq_true, if_false, Option.map_none, Option.getD_none]
    by_cases hq : q = M.length
    · subst hq; simp
    · rw [if_neg hq]
      by_cases hl : q < M.length
      · rw [List.getElem?_append_left hl]
      · rw [List.getElem?_eq_none (by simp; omega), List.getElem?_eq_none (by omega)]
  | some x =>
    obtain ⟨i, u⟩ := x
    simp only [Option.isSome_some, if_true, Option.map_some, Option.getD_some]
    have := setI_get k v M i 0 u hM q
    simpa using this
/-- A group's row has been turned (an append has been run, or it is cut), and is stored under its key. -/
theorem GV.put (h : GV w b base G M own) (k : Int) {v1 : Value} {l1 : List Int} (hr : kI.R eI w1 base (fun q => ownUp w (slot k G) own q = slot k G) v1 l1) (hg : w.grownBy w1 (valI k M).ownBlock) :
    At w1 b M ∧ GV (setM w1 b (putI k v1 M)) b base (putI k l1 G) (putI k v1 M) (ownUp w (slot k G) own) := by
  have hrow := h.row k
  have hbv : some b ≠ (valI k M).ownBlock := by
    intro e
    obtain ⟨c, hc⟩ := Kd.R_typed hrow b e.symm
    have := h.at_
    unfold At at this
    rw [this] at hc
    cases hc
  have hat : At w1 b M := by
    have := h.at_
    unfold At at this ⊢
    exact (hg.block b (blk_lt this) hbv).trans this
  refine ⟨hat, setM_at hat _, putI_keys k v1 l1 h.keys, h.ge, fun i x y hx hy => ?_⟩
  refine R_setM ?_ hat (fun _ _ e => by cases e) _
  rw [putI_get] at hx hy
  rw [h.slot_eq k] at hx
  by_cases hi : i = slot k G
  · rw [if_pos hi] at hx hy
    obtain rfl := Option.some.inj hx
    obtain rfl := Option.some.inj hy
    rw [hi]
    exact hr
  · rw [if_neg hi] at hx hy
    refine Kd.R_mono (Kd.R_move (Kd.R_bound (h.rows i x y hx hy)) (fun q hq => hg.block q hq.2.2.1 (fun e => ?_))) (fun q hq => ?_)
    · have h1 : ownUp w (slot k G) own q = slot k G := hrow.1 q e.symm
      unfold ownUp at h1
      rw [if_neg (by have := hq.2.2.1; omega)] at h1
      exact hi (hq.1.symm.trans h1)
    · unfold ownUp
      rw [if_neg (by have := hq.2.2.1; omega)]
      exact hq.1
end
section
variable {P : Program} {t kt et : TypeId} {w : World} {b base : Nat} {G : List (Int × List Int)} {M : List (Int × Value)} {own : Nat → Nat}
theorem GV.run_lookup (h : GV w b base G M own) (ht : P.underlying t = some (.map kt et)) (hk : P.underlying kt = some (.int .i64)) (hz : ∀ W, (zeroValue et).run P W = .ok (.slice none 0 0) W) (k : Int) :
    (Instr.lookup t (.map (some b)) (.int .i64 k) false).run P w = .ok (valI k M) w := Mp.run_lookup ht hk hz h.at_ k
end
/-! ### Ranging over it -/
theorem ents_mem {M : List (Int × Value)} {e : MapEntry} (h : e ∈ (ents M).toList) : ∃ j x, M[j]? = some x ∧ e = ⟨.int .i64 x.1, x.2, j⟩ := by
  have h' : e ∈ entsL 0 M := h
  obtain ⟨j, hj, he⟩ := List.getElem_of_mem h'
  have h1 : (entsL 0 M)[j]? = some e := by rw [List.getElem?_eq_getElem hj, he]
  rw [entsL_get] at h1
  obtain ⟨x, hx, hx2⟩ := Option.map_eq_some_iff.1 h1
  exact ⟨j, x, hx, by rw [← hx2, Nat.zero_add]⟩
theorem ents_at {M : List (Int × Value)} {j : Nat} {x : Int × Value} (h : M[j]? = some x) : (⟨.int .i64 x.1, x.2, j⟩ : MapEntry) ∈ (ents M).toList := by
  have h1 : (entsL 0 M)[j]? = some ⟨.int .i64 x.1, x.2, j⟩ := by rw [entsL_get, h]; simp
  exact List.mem_of_getElem? h1
theorem entsL_born : ∀ (M : List (Int × Value)) (i : Nat), (entsL i M).map (·.born) = List.range' i M.length
  | [], i => rfl
  | x :: M, i => by simp [entsL, entsL_born M (i + 1), List.range'_succ]
theorem ents_nodup (M : List (Int × Value)) : ((ents M).toList.map (·.born)).Nodup := by
  have : (ents M).toList = entsL 0 M := rfl
  rw [this, entsL_born]
  exact List.nodup_range'
theorem ents_hold (M : List (Int × Value)) : ∀ x ∈ (ents M).toList, x.born < M.length := by
  intro e he
  obtain ⟨j, x, hx, rfl⟩ := ents_mem he
  exact (List.getElem?_eq_some_iff.1 hx).1
theorem run_range_at {P : Program} {t kt et : TypeId} {w : World} {b : Nat} {M : List (Int × Value)} (ht : P.underlying t = some (.map kt et)) (h : At w b M) :
    (Instr.range t (.map (some b))).run P w = .ok (.pointer (some ⟨w.heap.size, 0, none⟩)) (w.alloc (.mapIter (some b) M.length #[] M.length)) := by
  unfold At at h
  unfold Instr.range
  rw [Sem.run_bind, run_underlying ht]
  simp only [Result.andThen_ok]
  simp [getObj, Sem.run_bind, Sem.run, h, newObj, Result.andThen]
theorem left_none {M : List (Int × Value)} {seen : Array Nat} (h : (leftOf (ents M) seen).size = 0) : ∀ j, j < M.length → j ∈ seen.toList := by
  intro j hj
  have h0 : leftOf (ents M) seen = #[] := Array.eq_empty_of_size_eq_zero h
  unfold leftOf at h0
  rw [Array.filter_eq_empty_iff] at h0
  have h1 := h0 ⟨.int .i64 (M[j]).1, (M[j]).2, j⟩ (by have := ents_at (List.getElem?_eq_getElem hj); simpa using this)
  simpa using h1
theorem left_some {M : List (Int × Value)} {seen : Array Nat} {e : MapEntry} (h : e ∈ (leftOf (ents M) seen).toList) : e ∈ (ents M).toList ∧ e.born ∉ seen.toList := by
  unfold leftOf at h
  simp at h
  refine ⟨by simpa using h.1, by simpa using h.2⟩
theorem nodup_short : ∀ {n : Nat} {l : List Nat}, l.Nodup → (∀ j ∈ l, j < n) → l.length ≤ n
  | 0, [], _, _ => Nat.le_refl _
  | 0, x :: l, _, h => absurd (h x List.mem_cons_self) (by omega)
  | n + 1, l, hn, h => by
    by_cases hm : n ∈ l
    · have h1 := nodup_short (n := n) (l := l.erase n) (hn.erase n) (fun j hj => by
        have h2 := (List.Nodup.mem_erase_iff hn).1 hj
        have := h j h2.2
        have := h2.1
        omega)
      rw [List.length_erase_of_mem hm] at h1
      omega
    · have h1 := nodup_short (n := n) (l := l) hn (fun j hj => by
        have := h j hj
        have : j ≠ n := fun e => hm (e ▸ hj)
        omega)
      omega
/-- A step of the range: a block above base that is no cells' is turned. -/
theorem setBlock_other (w : World) (b k : Nat) (o : Obj) (hk : k ≠ b) : (setBlock w b o).heap[k]? = w.heap[k]? := by
  unfold setBlock
  simp [Array.getElem?_setIfInBounds, Ne.symm hk]
theorem setBlock_at {w : World} {b : Nat} (hb : b < w.heap.size) (o : Obj) : (setBlock w b o).heap[b]? = some o := by
  unfold setBlock
  simp [hb]
theorem setBlock_size (w : World) (b : Nat) (o : Obj) : (setBlock w b o).heap.size = w.heap.size := by simp [setBlock]
theorem below_setBlock {B : Nat} {w0 w : World} {b : Nat} (h : Below B w0 w) (hb : B ≤ b) (o : Obj) : Below B w0 (setBlock w b o) :=
  ⟨h.os, h.tape, h.output, by rw [setBlock_size]; exact h.size, fun k hk => (setBlock_other w b k o (by omega)).trans (h.block k hk)⟩
theorem GV.iter {w : World} {b base : Nat} {G : List (Int × List Int)} {M : List (Int × Value)} {own : Nat → Nat} (h : GV w b base G M own) {it : Nat} {o : Obj} (hi : w.heap[it]? = some o) (hno : ∀ c t, o ≠ .cells c t (0, 0)) (hne : it ≠ b) (o' : Obj) : GV (setBlock w it o') b base G M own :=
  ⟨(setBlock_other w it b o' (Ne.symm hne)).trans h.at_, h.keys, h.ge, fun i x y hx hy => Kd.R_mono (Kd.R_move (Kd.R_bound (h.rows i x y hx hy)) (fun k hk => setBlock_other w it k o' (by
    rintro rfl
    obtain ⟨_, _, _, q, _, c, hc⟩ := hk
    rw [hi] at hc
    exact hno c q (Option.some.inj hc)))) (fun _ hk => hk.1)⟩
end Go.Proofs.YtlfpjlpaiaonkaaDoor.Mp

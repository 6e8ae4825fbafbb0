/- Maps with whole numbers as keys that a call makes, in memory: no entry is ever deleted. -/
import Derived.Test.YtlfpjlpaiaonkaaDoorP0
import Derived.MapKept
import Derived.Carry
namespace Go.Proofs.YtlfpjlpaiaonkaaDoor.Mp
open Go.RowKit Go.Proofs.YtlfpjlpaiaonkaaDoorW.PrintWords Go.Proofs.YtlfpjlpaiaonkaaDoorW.PrintLast Go.Proofs.YtlfpjlpaiaonkaaDoorW.PrintMore
set_option linter.unusedVariables false
set_option linter.unusedSimpArgs false
/-- The entries, in the order in which they came. -/
def entsL : Nat → List (Int × Value) → List MapEntry
  | _, [] => []
  | i, x :: M => ⟨.int .i64 x.1, x.2, i⟩ :: entsL (i + 1) M
def ents (M : List (Int × Value)) : Array MapEntry := (entsL 0 M).toArray
def lookI {α : Type} (k : Int) : List (Int × α) → Nat → Option (Nat × α)
  | [], _ => none
  | x :: M, i => if k = x.1 then some (i, x.2) else lookI k M (i + 1)
def setI {α : Type} (k : Int) (v : α) : List (Int × α) → List (Int × α)
  | [] => []
  | x :: M => if k = x.1 then (x.1, v) :: M else x :: setI k v M
theorem entsL_length : ∀ (M : List (Int × Value)) (i : Nat), (entsL i M).length = M.length
  | [], _ => rfl
  | _ :: M, i => by simp [entsL, entsL_length M]
theorem entsL_append : ∀ (M : List (Int × Value)) (i : Nat) (x : Int × Value), entsL i (M ++ [x]) = entsL i M ++ [⟨.int .i64 x.1, x.2, i + M.length⟩]
  | [], i, x => rfl
  | y :: M, i, x => by
    simp only [List.cons_append, entsL, entsL_append M (i + 1) x, List.length_cons]
    rw [show i + 1 + M.length = i + (M.length + 1) by omega]
theorem entsL_get : ∀ (M : List (Int × Value)) (i j : Nat), (entsL i M)[j]? = (M[j]?).map fun x => ⟨.int .i64 x.1, x.2, i + j⟩
  | [], i, j => by simp [entsL]
  | x :: M, i, 0 => by simp [entsL]
  | x :: M, i, j + 1 => by
    simp only [entsL, List.getElem?_cons_succ, entsL_get M (i + 1) j]
    rw [show i + 1 + j = i + (j + 1) by omega]
theorem findNow_ents (k : Int) : ∀ (M : List (Int × Value)) (i j : Nat), Instr.findNow (.int .i64) (.int .i64 k) (entsL i M) j = some (lookI k M j)
  | [], i, j => rfl
  | x :: M, i, j => by
    simp only [entsL, Instr.findNow, Instr.sameNow, if_true, lookI]
    by_cases h : k = x.1
    · simp [h]
    · have : (k == x.1) = false := by simpa using h
      simp [this, h, findNow_ents k M]
theorem lookI_lt {α : Type} (k : Int) : ∀ (M : List (Int × α)) (j i : Nat) (v : α), lookI k M j = some (i, v) → j ≤ i ∧ i < j + M.length ∧ M[i - j]? = some (k, v)
  | [], j, i, v, h => by cases h
  | x :: M, j, i, v, h => by
    unfold lookI at h
    split at h
    · rename_i hk
      obtain ⟨rfl, rfl⟩ : j = i ∧ x.2 = v := by simpa using h
      exact ⟨Nat.le_refl _, by simp, by simp [hk]⟩
    · obtain ⟨h1, h2, h3⟩ := lookI_lt k M (j + 1) i v h
      refine ⟨by omega, by simp; omega, ?_⟩
      rw [show i - j = (i - (j + 1)) + 1 by omega]
      simpa using h3
theorem setI_ents (k : Int) (v : Value) : ∀ (M : List (Int × Value)) (i j : Nat) (u : Value), lookI k M j = some (i, u) → ∀ b, (entsL b M).modify (i - j) (fun e => { e with key := .int .i64 k, val := v }) = entsL b (setI k v M)
  | [], i, j, u, h, b => by cases h
  | x :: M, i, j, u, h, b => by
    unfold lookI at h
    split at h
    · rename_i hk
      obtain ⟨rfl, rfl⟩ : j = i ∧ x.2 = u := by simpa using h
      simp [setI, hk, entsL]
    · rename_i hk
      obtain ⟨h1, h2, h3⟩ := lookI_lt k M (j + 1) i u h
      rw [show i - j = (i - (j + 1)) + 1 by omega]
      simp only [setI, hk, if_false, entsL, List.modify_succ_cons]
      rw [setI_ents k v M i (j + 1) u h (b + 1)]
theorem setI_length {α : Type} (k : Int) (v : α) : ∀ M : List (Int × α), (setI k v M).length = M.length
  | [] => rfl
  | x :: M => by
    unfold setI
    split <;> simp [setI_length k v M]
section
variable {P : Program} {w : World} {b : Nat} {M : List (Int × Value)} {t kt et : TypeId}
def At (w : World) (b : Nat) (M : List (Int × Value)) : Prop := w.heap[b]? = some (.map (ents M) M.length)
theorem run_find (hk : P.underlying kt = some (.int .i64)) (k : Int) (w : World) : (Instr.findKey kt (.int .i64 k) (ents M).toList).run P w = .ok (lookI k M 0) w := by
  unfold Instr.findKey
  rw [Sem.run_bind, run_underlying hk]
  simp only [Result.andThen_ok]
  have : (ents M).toList = entsL 0 M := rfl
  rw [this, findNow_ents]
  rfl
theorem run_lookup (ht : P.underlying t = some (.map kt et)) (hk : P.underlying kt = some (.int .i64)) {z : Value} (hz : ∀ W, (zeroValue et).run P W = .ok z W) (h : At w b M) (k : Int) :
    (Instr.lookup t (.map (some b)) (.int .i64 k) false).run P w = .ok (((lookI k M 0).map (·.2)).getD z) w := by
  unfold At at h
  unfold Instr.lookup
  rw [Sem.run_bind, run_underlying ht]
  simp only [Result.andThen_ok, getObj, Sem.run_bind, Sem.run, h]
  have hc := MapKept.run_checkKey (P := P) (w := w) (k := .int .i64 k) hk rfl (ents M).isEmpty 9999
  simp only [Sem.run_pure, Result.andThen_ok]
  simp only [hc, Result.andThen_ok, run_find hk k w]
  cases hl : lookI k M 0 with
  | none => simp [hz, Result.andThen, Sem.run_bind, Sem.run]
  | some x => simp [Result.andThen, Sem.run_bind, Sem.run]
/-- What a store under a key makes of the entries. -/
def putI {α : Type} (k : Int) (v : α) (M : List (Int × α)) : List (Int × α) := if (lookI k M 0).isSome = true then setI k v M else M ++ [(k, v)]
def setM (w : World) (b : Nat) (M : List (Int × Value)) : World := { w with heap := w.heap.setIfInBounds b (.map (ents M) M.length) }
theorem setM_at (h : At w b M) (M' : List (Int × Value)) : At (setM w b M') b M' := by
  unfold At setM at *
  have := (Array.getElem?_eq_some_iff.1 h).1
  simp [Array.getElem?_setIfInBounds, this]
theorem setM_other (w : World) (b k : Nat) (M' : List (Int × Value)) (hk : k ≠ b) : (setM w b M').heap[k]? = w.heap[k]? := by
  unfold setM
  simp [Array.getElem?_setIfInBounds, Ne.symm hk]
theorem setM_size (w : World) (b : Nat) (M' : List (Int × Value)) : (setM w b M').heap.size = w.heap.size := by simp [setM]
theorem setM_grown (w : World) (b : Nat) (M' : List (Int × Value)) : w.grownBy (setM w b M') (some b) :=
  ⟨rfl, rfl, rfl, by rw [setM_size]; exact Nat.le_refl _, fun k _ hk => setM_other w b k M' (fun e => hk (by rw [e]))⟩
theorem below_setM {B : Nat} {w0 : World} (h : Below B w0 w) (hb : B ≤ b) (M' : List (Int × Value)) : Below B w0 (setM w b M') :=
  ⟨h.os, h.tape, h.output, by rw [setM_size]; exact h.size, fun k hk => (setM_other w b k M' (by omega)).trans (h.block k hk)⟩
theorem run_mapUpdate (ht : P.underlying t = some (.map kt et)) (hk : P.underlying kt = some (.int .i64)) (h : At w b M) (k : Int) (v : Value) :
    (Instr.mapUpdate t (.map (some b)) (.int .i64 k) v).run P w = .ok () (setM w b (putI k v M)) := by
  have h' := h
  unfold At at h
  unfold Instr.mapUpdate
  rw [Sem.run_bind, run_underlying ht]
  simp only [Result.andThen_ok, getObj, Sem.run_bind, Sem.run, h]
  have hc := MapKept.run_checkKey (P := P) (w := w) (k := .int .i64 k) hk rfl false 9999
  simp only [hc, Result.andThen_ok, run_find hk k w]
  unfold putI
  cases hl : lookI k M 0 with
  | none =>
    have he : (ents M).push ⟨.int .i64 k, v, M.length⟩ = ents (M ++ [(k, v)]) := by
      unfold ents
      rw [entsL_append]
      simp
    simp [setObj, Sem.run, h, he, setM]
  | some x =>
    obtain ⟨i, u⟩ := x
    obtain ⟨_, hi, hx⟩ := lookI_lt k M 0 i u hl
    rw [Nat.sub_zero] at hx
    have hm : (ents M)[i]? = some ⟨.int .i64 k, u, i⟩ := by
      unfold ents
      rw [List.getElem?_toArray, entsL_get, hx]
      simp
    have hs := setI_ents k v M i 0 u hl 0
    rw [Nat.sub_zero] at hs
    have he : (ents M).modify i (fun e => { e with key := .int .i64 k, val := v }) = ents (setI k v M) := by
      unfold ents
      rw [← hs]
      apply Array.ext'
      simp [Array.toList_modify]
    have hb : Instr.sameBits 10000 (.int .i64 k) (.int .i64 k) = true := by simp [Instr.sameBits]
    simp [hm, Instr.keyThatStays, hb, Sem.run_bind, Sem.run, setObj, h, he, setM, setI_length, Result.andThen]
end
/-! ### Two with the same keys -/
theorem lookI_keys {α β : Type} (k : Int) : ∀ (M : List (Int × α)) (G : List (Int × β)) (j : Nat), M.map (·.1) = G.map (·.1) → (lookI k M j).map (·.1) = (lookI k G j).map (·.1)
  | [], [], j, _ => rfl
  | [], _ :: _, j, h => by cases h
  | _ :: _, [], j, h => by cases h
  | x :: M, y :: G, j, h => by
    simp only [List.map_cons, List.cons.injEq] at h
    unfold lookI
    rw [h.1]
    split
    · rfl
    · exact lookI_keys k M G (j + 1) h.2
theorem setI_keys {α : Type} (k : Int) (v : α) : ∀ M : List (Int × α), (setI k v M).map (·.1) = M.map (·.1)
  | [] => rfl
  | x :: M => by
    unfold setI
    split
    · rfl
    · simp [setI_keys k v M]
theorem setI_get {α : Type} (k : Int) (v : α) : ∀ (M : List (Int × α)) (i j : Nat) (u : α), lookI k M j = some (i, u) → ∀ q, (setI k v M)[q]? = if q = i - j then some (k, v) else M[q]?
  | [], i, j, u, h, q => by cases h
  | x :: M, i, j, u, h, q => by
    unfold lookI at h
    split at h
    · rename_i hk
      obtain ⟨rfl, rfl⟩ : j = i ∧ x.2 = u := by simpa using h
      cases q with
      | zero => simp [setI, hk]
      | succ q => simp [setI, hk]
    · rename_i hk
      obtain ⟨h1, h2, h3⟩ := lookI_lt k M (j + 1) i u h
      have ih := setI_get k v M i (j + 1) u h
      cases q with
      | zero => simp only [setI, hk, if_false, List.getElem?_cons_zero]; rw [if_neg (by omega)]
      | succ q =>
        simp only [setI, hk, if_false, List.getElem?_cons_succ, ih q]
        by_cases hq : q = i - (j + 1)
        · rw [if_pos hq, if_pos (by omega)]
        · rw [if_neg hq, if_neg (by omega)]
end Go.Proofs.YtlfpjlpaiaonkaaDoor.Mp

/- General laws of this session (no program): rows of built constants, arrays read by an index, tables that are laid, elements of a flat row of cells. -/
import Derived.Test.YtlfpjlpaiaonkaaDoorWMore
import Derived.Laws.Rows
import Derived.Laws.Tables
import Derived.KernelRfl
import Derived.WalkKit
import Derived.Lib.SliceRun
namespace Go.Proofs.YtlfpjlpaiaonkaaDoorH
open Go.RowKit Go.Proofs.YtlfpjlpaiaonkaaDoorW.PrintWords Go.Proofs.YtlfpjlpaiaonkaaDoorW.PrintLast Go.Proofs.YtlfpjlpaiaonkaaDoorW.PrintMore
set_option linter.unusedVariables false
set_option linter.unusedSimpArgs false

/-! ### A row of operations that build structs of three constants each -/
abbrev T3 := Int × Int × Int
def cs3 (r : T3) : List Value := [.int .i32 r.1, .int .i32 r.2.1, .int .u8 r.2.2]
def agg3 (r : T3) : Value := .agg (cs3 r).toArray
def cells3 (T : List T3) : List Value := T.flatMap cs3
def row3 (t : TypeId) (d : Nat) (o : Oper) : Option T3 :=
  match o with
  | ⟨some d', .build t' ⟨[(0, .const (.int .i32 x)), (1, .const (.int .i32 y)), (2, .const (.int .u8 c))]⟩, _, _, _, none⟩ => if t' = t ∧ d' = d then some (x, y, c) else none
  | _ => none
def rows3 (t : TypeId) : Nat → List Oper → Option (List T3)
  | _, [] => some []
  | d, o :: l => (row3 t d o).bind fun r => (rows3 t (d + 1) l).map fun rs => r :: rs
def puts3 : Nat → List T3 → Act → Act
  | _, [], a => a
  | d, r :: rs, a => puts3 (d + 1) rs (a.put (some d) (agg3 r))
theorem row3_spec {t : TypeId} {d : Nat} {o : Oper} {r : T3} (h : row3 t d o = some r) : o.dst = some d ∧ o.guard = none ∧ o.op = .build t #[(0, .const (.int .i32 r.1)), (1, .const (.int .i32 r.2.1)), (2, .const (.int .u8 r.2.2))] := by
  unfold row3 at h
  split at h
  · split at h
    · rename_i hc
      obtain ⟨rfl, rfl⟩ := hc
      injection h with h
      subst h
      exact ⟨rfl, rfl, rfl⟩
    · cases h
  · cases h
section
variable {P : Program} {ops : Array Oper} {Q : Exit → Act → World → Prop}
theorem wpList_rows3 {t : TypeId} (hb : ∀ (x y c : Int) (w : World), (Instr.build t #[(0, .int .i32 x), (1, .int .i32 y), (2, .int .u8 c)]).run P w = .ok (.agg #[.int .i32 x, .int .i32 y, .int .u8 c]) w)
    {w : World} {rest : List Oper} : ∀ (l : List Oper) (d : Nat) (rs : List T3) (a : Act), rows3 t d l = some rs → wpList P ops Q rest (puts3 d rs a) w → wpList P ops Q (l ++ rest) a w
  | [], d, rs, a, h, hq => by
    simp only [rows3, Option.some.injEq] at h
    subst h
    exact hq
  | o :: l, d, rs, a, h, hq => by
    simp only [rows3] at h
    cases hr : row3 t d o with
    | none => simp [hr] at h
    | some r =>
      cases hl : rows3 t (d + 1) l with
      | none => simp [hr, hl] at h
      | some rs' =>
        simp only [hr, hl, Option.bind_some, Option.map_some, Option.some.injEq] at h
        subst h
        obtain ⟨h1, h2, h3⟩ := row3_spec hr
        refine Kd.event_run (w1 := w) (v := agg3 r) h2 ?_ ?_
        · unfold execOp
          rw [h3]
          simp [hb, agg3, cs3, Act.eval]
        · rw [h1]
          exact wpList_rows3 hb l (d + 1) rs' _ hl hq
theorem wpList_take3 {t : TypeId} (hb : ∀ (x y c : Int) (w : World), (Instr.build t #[(0, .int .i32 x), (1, .int .i32 y), (2, .int .u8 c)]).run P w = .ok (.agg #[.int .i32 x, .int .i32 y, .int .u8 c]) w)
    {w : World} {l : List Oper} {a : Act} (n d : Nat) (T : List T3) (a' : Act) (hT : rows3 t d (l.take n) = some T) (ha : puts3 d T a = a') (h : wpList P ops Q (l.drop n) a' w) : wpList P ops Q l a w := by
  rw [← List.take_append_drop n l]
  exact wpList_rows3 hb _ d T a hT (by rw [ha]; exact h)
/-- Operation number n, by what it comes to. -/
theorem drop_event {l : List Oper} {a : Act} {W w1 : World} (n : Nat) (hn : n < l.length) {v : Value} {d : Option Tmp} (a' : Act) (hgd : (l[n]).guard = none) (hrun : (execOp a.eval (l[n])).run P W = .ok (.value v) w1)
    (hd : (l[n]).dst = d) (ha : a.put d v = a') (h : wpList P ops Q (l.drop (n + 1)) a' w1) : wpList P ops Q (l.drop n) a W := by
  rw [List.drop_eq_getElem_cons hn]
  exact Kd.event_run hgd hrun (by rw [hd, ha]; exact h)
/-- Operation number n is a store of a whole row into a block. -/
theorem drop_store {l : List Oper} {a : Act} {w : World} (n : Nat) (hn : n < l.length) {d : Option Tmp} (a' : Act) (hgd : (l[n]).guard = none) (ty : TypeId) (x y : Operand) (ho : (l[n]).op = .store ty x y)
    (g : Nat) (cells : Array Value) (hx : a.eval x = .pointer (some ⟨g, 0, none⟩)) (hy : a.eval y = .agg cells)
    (t : TypeId) (old : Array Value) (hg : w.heap[g]? = some (.cells old t (0, 0))) (hi : (P.info? ty).map (·.size) = some cells.size)
    (hold : old.size = cells.size) (h1 : cells.all (·.oneCell') = true) (hd : (l[n]).dst = d) (ha : a.put d undef = a')
    (h : wpList P ops Q (l.drop (n + 1)) a' (w.setRow g cells)) : wpList P ops Q (l.drop n) a w := by
  rw [List.drop_eq_getElem_cons hn]
  exact wpList_store_row hgd ty x y ho g cells hx hy t old hg hi hold h1 (by rw [hd, ha]; exact h)
theorem cons_event {rest : List Oper} {o : Oper} {a : Act} {W w1 : World} {v : Value} {d : Option Tmp} (a' : Act) (hgd : o.guard = none) (hrun : (execOp a.eval o).run P W = .ok (.value v) w1)
    (hd : o.dst = d) (ha : a.put d v = a') (h : wpList P ops Q rest a' w1) : wpList P ops Q (o :: rest) a W := Kd.event_run hgd hrun (by rw [hd, ha]; exact h)
theorem drop_end {l : List Oper} {a : Act} {W : World} (n : Nat) (hn : l.length ≤ n) (h : Q .normal a W) : wpList P ops Q (l.drop n) a W := by
  rw [List.drop_eq_nil_of_le hn]
  exact wpList_nil h
end
theorem below_setRow_new (w : World) (c c' : Array Value) (t : TypeId) : Below w.heap.size w ((w.alloc (.cells c t)).setRow w.heap.size c') := by
  have h : Below w.heap.size w (w.alloc (.cells c t)) := (Below.refl _ _).alloc (Nat.le_refl _) _
  exact ⟨h.os, h.tape, h.output, by rw [size_setRow]; exact h.size, fun k hk => by rw [setRow_other _ _ _ _ (by omega)]; exact h.block k hk⟩
theorem lt_of_ble {n m : Nat} (h : Nat.ble (n + 1) m = true) : n < m := Nat.le_of_ble_eq_true h

/-! ### Rows out of a table -/
theorem reps_flat {α β : Type} {R : α → List Value → Prop} {size : Nat} (f : β → α) (g : β → List Value) (hg : ∀ x, (g x).length = size) (hR : ∀ x, R (f x) (g x)) : ∀ T : List β, Reps R size (T.map f) (T.flatMap g)
  | [] => Reps.none R size
  | x :: T => by
    have h := reps_flat f g hg hR T
    have h1 : Reps R size [f x] (g x) := by
      have := (Reps.none R size).snoc (p := f x) (c := g x) (hR x) (hg x)
      simpa using this
    have := Kd.reps_append h1 h
    simpa using this
theorem flat_len {β : Type} {size : Nat} (g : β → List Value) (hg : ∀ x, (g x).length = size) : ∀ T : List β, (T.flatMap g).length = T.length * size
  | [] => by simp
  | x :: T => by simp [flat_len g hg T, hg x, Nat.succ_mul]; omega
theorem flat_seg {β : Type} {size : Nat} (g : β → List Value) (hg : ∀ x, (g x).length = size) : ∀ (T : List β) (i : Nat) (h : i < T.length), ((T.flatMap g).drop (i * size)).take size = g T[i]
  | [], i, h => by simp at h
  | x :: T, 0, h => by simp [← hg x]
  | x :: T, i + 1, h => by
    have := flat_seg g hg T i (by simpa using h)
    simp only [List.flatMap_cons, List.getElem_cons_succ]
    rw [Nat.succ_mul, List.drop_append, List.drop_eq_nil_of_le (by rw [hg x]; omega), List.nil_append, hg x, Nat.add_sub_cancel]
    exact this
theorem extract_seg (l : List Value) (i n : Nat) : l.toArray.extract i (i + n) = ((l.drop i).take n).toArray := by
  simp [List.extract_eq_take_drop]

/-! ### 'a[i]' of an array of structs by value -/
theorem run_index_agg {P : Program} {t e : TypeId} {n sz : Nat} {fs : Array Field} (l : List Value) (k : IntKind) (i : Int) (h : P.underlying t = some (.array n e)) (he : P.underlying e = some (.struct fs))
    (hi : (P.info? e).map (·.size) = some sz) (h0 : 0 ≤ i) (h1 : i < n) (w : World) : (Instr.index t (.agg l.toArray) (.int k i)).run P w = .ok (.agg ((l.drop (i.toNat * sz)).take sz).toArray) w := by
  have hn : 0 ≤ i ∧ i < (n : Int) := ⟨h0, h1⟩
  obtain ⟨info, hq, hs⟩ := Option.map_eq_some_iff.1 hi
  have hagg : (isAgg e).run P w = .ok true w := by
    unfold isAgg
    rw [Sem.run_bind, run_underlying he w]
    simp
  simp [Instr.index, run_underlying h, asIntOf, hn, go_sem, part, hagg, sizeOf, typeInfo, hq, hs, Sem.run_bind, extract_seg]

/-! ### The tables: ranges of characters with their class; pairs of brackets; others that mirror each other -/
def tabC : List T3 := [(0, 8, 10), (9, 9, 12), (10, 10, 11), (11, 11, 12), (12, 12, 13), (13, 13, 11), (14, 27, 10), (28, 30, 11), (31, 31, 12), (32, 32, 13), (33, 34, 14), (35, 37, 6), (38, 42, 14), (43, 43, 5), (44, 44, 8), (45, 45, 5), (46, 47, 8), (48, 57, 4), (58, 58, 8), (59, 64, 14), (91, 96, 14), (123, 126, 14), (127, 132, 10), (133, 133, 11), (134, 159, 10), (160, 160, 8), (161, 161, 14), (162, 165, 6), (166, 169, 14), (171, 172, 14), (173, 173, 10), (174, 175, 14), (176, 177, 6), (178, 179, 4), (180, 180, 14), (182, 184, 14), (185, 185, 4), (187, 191, 14), (215, 215, 14), (247, 247, 14), (768, 879, 9), (1155, 1161, 9), (1424, 1424, 2), (1425, 1469, 9), (1470, 1470, 2), (1471, 1471, 9), (1472, 1472, 2), (1473, 1474, 9), (1475, 1475, 2), (1476, 1477, 9), (1478, 1478, 2), (1479, 1479, 9), (1480, 1535, 2), (1536, 1541, 7), (1542, 1543, 14), (1544, 1544, 3), (1545, 1546, 6), (1547, 1547, 3), (1548, 1548, 8), (1549, 1549, 3), (1550, 1551, 14), (1552, 1562, 9), (1563, 1610, 3), (1611, 1631, 9), (1632, 1641, 7), (1642, 1642, 6), (1643, 1644, 7), (1645, 1647, 3), (1648, 1648, 9), (1649, 1749, 3), (1750, 1756, 9), (1757, 1757, 7), (1758, 1758, 14), (1759, 1764, 9), (1765, 1766, 3), (1767, 1768, 9), (1769, 1769, 14), (1770, 1773, 9), (1774, 1775, 3), (1776, 1785, 4), (1786, 1808, 3), (1809, 1809, 9), (1810, 1839, 3), (1840, 1866, 9), (1867, 1957, 3), (1958, 1968, 9), (1969, 1983, 3), (8192, 8202, 13), (8203, 8205, 10), (8207, 8207, 2), (8208, 8231, 14), (8232, 8232, 13), (8233, 8233, 11), (8234, 8234, 15), (8235, 8235, 16), (8236, 8236, 19), (8237, 8237, 17), (8238, 8238, 18), (8239, 8239, 8), (8240, 8244, 6), (8245, 8259, 14), (8260, 8260, 8), (8261, 8286, 14), (8287, 8287, 13), (8288, 8293, 10), (8294, 8294, 20), (8295, 8295, 21), (8296, 8296, 22), (8297, 8297, 23), (8298, 8303, 10), (8304, 8304, 4), (8308, 8313, 4), (8314, 8315, 5), (8316, 8318, 14), (8320, 8329, 4), (8330, 8331, 5), (8332, 8334, 14), (8352, 8399, 6), (8400, 8432, 9), (8592, 8721, 14), (8722, 8722, 5), (8723, 8723, 6), (8724, 9013, 14), (9472, 9783, 14), (10214, 10223, 14), (12288, 12288, 13), (12289, 12292, 14), (12296, 12320, 14), (64285, 64285, 2), (64286, 64286, 9), (64287, 64296, 2), (64297, 64297, 5), (64298, 64335, 2), (64336, 64829, 3), (64830, 64831, 14), (65024, 65039, 9), (65056, 65071, 9), (65136, 65276, 3), (65279, 65279, 10), (65533, 65533, 14), (125184, 125251, 2), (125252, 125258, 9), (125259, 125279, 2), (126464, 126703, 3), (127744, 128591, 14), (917760, 917999, 9)]
def tabB : List (Int × Int) := [(40, 41), (91, 93), (123, 125), (8261, 8262), (8317, 8318), (8333, 8334), (8968, 8969), (8970, 8971), (9001, 9002), (10214, 10215), (10216, 10217), (10218, 10219), (10220, 10221), (10222, 10223), (12296, 12297), (12298, 12299), (12300, 12301), (12302, 12303), (12304, 12305), (12308, 12309), (12310, 12311), (12312, 12313), (12314, 12315)]
def tabM : List (Int × Int) := [(60, 62), (171, 187), (8249, 8250), (8712, 8715), (8804, 8805), (8810, 8811), (8834, 8835)]
def frame3 (z : Value) (T : List T3) (l : List Value) : Act := { tmps := (z :: T.map agg3 ++ l).toArray, defers := [] }
theorem cells3_seg (T : List T3) (i : Int) (h0 : 0 ≤ i) (h1 : i < T.length) : ((cells3 T).drop (i.toNat * 3)).take 3 = cs3 (T.getD i.toNat (0, 0, 0)) := by
  have hl : i.toNat < T.length := by omega
  rw [List.getD_eq_getElem?_getD, List.getElem?_eq_getElem hl]
  exact flat_seg cs3 (fun _ => rfl) T i.toNat hl
/-- A character's class, by a rising table. -/
def clsFrom (r : Int) : List T3 → Int
  | [] => 1
  | x :: T => if r < x.1 then 1 else if r ≤ x.2.1 then x.2.2 else clsFrom r T
def clsOf (r : Int) : Int := clsFrom r tabC
theorem clsFrom_drop (r : Int) (T : List T3) (k : Nat) (h : k < T.length) : clsFrom r (T.drop k) = if r < (T.getD k (0, 0, 0)).1 then 1 else if r ≤ (T.getD k (0, 0, 0)).2.1 then (T.getD k (0, 0, 0)).2.2 else clsFrom r (T.drop (k + 1)) := by
  rw [List.drop_eq_getElem_cons h, List.getD_eq_getElem?_getD, List.getElem?_eq_getElem h]
  rfl
theorem tabC_len : tabC.length = 146 := by kernel_rfl

/-! ### 'xs[a:b:b]' -/
section
variable {P : Program} {α : Type}
theorem cut_mid3 (t e : TypeId) (kl kh km : IntKind) {i : TypeInfo} (ht : P.underlying t = some (.slice e)) (hi : P.info? e = some i) (size : Nat) (hsz : i.size = size) (A : Option Addr) (n c : Nat) (lo hi' : Int) (h0 : 0 ≤ lo) (h1 : lo ≤ hi') (h2 : hi' ≤ n) (hc : n ≤ c) :
    ∀ W : World, (Instr.slice t (.slice A n c) (some (.int kl lo)) (some (.int kh hi')) (some (.int km hi'))).run P W = .ok (.slice (if hi'.toNat = lo.toNat then A else A.map (·.add (lo.toNat * size))) (hi'.toNat - lo.toNat) (hi'.toNat - lo.toNat)) W := by
  intro W
  have hel : P.elem t = e := by simp [Program.elem, ht]
  have hu : P.underlying t = some (.slice (P.elem t)) := by rw [hel]; exact ht
  rw [run_slice_lhm W t A n c hu kl kh km lo hi' hi' h0 h1 (Int.le_refl _) (by omega), hel]
  simp [sizeOf, typeInfo, hi, hsz, sliced, Result.andThen]
theorem print_mid3_of (enc : α → Value) (d : α) (t e : TypeId) (kl kh : IntKind) {i : TypeInfo} (ht : P.underlying t = some (.slice e)) (hi : P.info? e = some i) (hsz : i.size = 1) (A : Option Addr) (c : Nat) (xs : List α) (a b : Int) (h0 : 0 ≤ a) (h1 : a ≤ b) (hm : b ≤ xs.length) (hc : xs.length ≤ c) :
    ∃ A' : Option Addr, (∀ W : World, (Instr.slice t (.slice A xs.length c) (some (.int kl a)) (some (.int kh b)) (some (.int kh b))).run P W = .ok (.slice A' ((xs.take b.toNat).drop a.toNat).length (b.toNat - a.toNat)) W) ∧
      (∀ w : World, ReadsOf enc d w A xs.length xs → ReadsOf enc d w A' ((xs.take b.toNat).drop a.toNat).length ((xs.take b.toNat).drop a.toNat)) ∧ ((xs.take b.toNat).drop a.toNat).length ≤ b.toNat - a.toNat := by
  have hlt : (xs.take b.toNat).length = b.toNat := by rw [List.length_take]; omega
  have hl : ((xs.take b.toNat).drop a.toNat).length = b.toNat - a.toNat := by rw [List.length_drop, hlt]
  refine ⟨if b.toNat = a.toNat then A else A.map (·.add a.toNat), fun W => ?_, fun w h => ?_, by rw [hl]; omega⟩
  · have h := cut_mid3 t e kl kh kh ht hi 1 hsz A xs.length c a b h0 h1 hm hc W
    rw [Nat.mul_one] at h
    rw [h, hl]
  · have h2 := (h.take_ b.toNat (by omega)).drop_ (c := b.toNat) a.toNat (by omega) (by omega)
    rw [hl]
    exact h2
end
/-! ### Variables that are laid -/
def LaidAt (w : World) (g : Nat) (l : List Value) : Prop := ∀ i u, l[i]? = some u → w.cell? ⟨g, i, none⟩ = some u
theorem LaidAt.below {w w' : World} {g : Nat} {l : List Value} (h : LaidAt w g l) (hb : Below w.heap.size w w') : LaidAt w' g l :=
  fun i u hu => pw_cell_below hb (h i u hu)
theorem run_loadVar_laid {P : Program} {w : World} {g : Nat} {ty : TypeId} {l : List Value} {d : TypeDesc} (hl : LaidAt w g l)
    (hu : P.underlying ty = some d) (hd : (match d with | .struct _ | .array _ _ => true | _ => false) = true) (hi : (P.info? ty).map (·.size) = some l.length) :
    (loadVar ty ⟨g, 0, none⟩).run P w = .ok (.agg l.toArray) w := by
  have hc : (loadCells ⟨g, 0, none⟩ l.length).run P w = .ok l.toArray w :=
    run_loadCells_list (P := P) w ⟨g, 0, none⟩ l (fun j v hv => by rw [add_plain]; exact hl j v hv)
  obtain ⟨info, hq, hs⟩ := Option.map_eq_some_iff.1 hi
  have hagg : (isAgg ty).run P w = .ok true w := by
    unfold isAgg
    rw [Sem.run_bind, run_underlying hu w]
    cases d <;> simp_all
  simp [loadVar, Sem.run_bind, hagg, sizeOf, typeInfo, hq, hs, hc]
theorem wpList_load_laid {P : Program} {ops : Array Oper} {rest : List Oper} {o : Oper} {a : Act} {w : World} {Q : Exit → Act → World → Prop} (hgd : o.guard = none) (ty : TypeId) (x : Operand) (ho : o.op = .load ty x)
    (g : Nat) (hx : a.eval x = .pointer (some ⟨g, 0, none⟩)) (l : List Value) (d : TypeDesc) (hl : LaidAt w g l) (V : Value) (hV : V = .agg l.toArray)
    (hu : P.underlying ty = some d) (hd : (match d with | .struct _ | .array _ _ => true | _ => false) = true) (hi : (P.info? ty).map (·.size) = some l.length)
    (h : wpList P ops Q rest (a.put o.dst V) w) : wpList P ops Q (o :: rest) a w := by
  refine Kd.event_run (w1 := w) (v := V) hgd ?_ h
  unfold execOp
  simp only [ho, hx, Instr.loadAt, Instr.sureAddr, Sem.run_bind, Sem.run_pure, Result.andThen_ok, run_loadVar_laid hl hu hd hi]
  rw [hV]
def cs2 (r : Int × Int) : List Value := [.int .i32 r.1, .int .i32 r.2]
def cells2 (T : List (Int × Int)) : List Value := T.flatMap cs2
theorem cells2_seg (T : List (Int × Int)) (i : Int) (h0 : 0 ≤ i) (h1 : i < T.length) : ((cells2 T).drop (i.toNat * 2)).take 2 = cs2 (T.getD i.toNat (0, 0)) := by
  have hl : i.toNat < T.length := by omega
  rw [List.getD_eq_getElem?_getD, List.getElem?_eq_getElem hl]
  exact flat_seg cs2 (fun _ => rfl) T i.toNat hl
/-- A row of elements whose cells lie behind each other. -/
theorem C_of_laid {α β : Type} {d : Kd α} {w : World} {g : Nat} (f : β → α) (c : β → List Value) (hc : ∀ x, (c x).length = d.sz) (hK : ∀ x, d.K w (f x) (c x)) (T : List β) (h : LaidAt w g (T.flatMap c)) (hm : T.length ≤ 9223372036854775807) :
    d.C w (some ⟨g, 0, none⟩) T.length (T.map f) := by
  refine ⟨List.length_map .., hm, fun _ => ⟨_, rfl, fun j p hj => ?_⟩⟩
  rw [List.getElem?_map] at hj
  obtain ⟨x, hx, rfl⟩ := Option.map_eq_some_iff.1 hj
  obtain ⟨hjl, hxe⟩ := List.getElem?_eq_some_iff.1 hx
  refine ⟨c x, hc x, hK x, fun i u hu => ?_⟩
  rw [add_plain]
  refine h _ _ ?_
  have hi : i < d.sz := by rw [← hc x]; exact (List.getElem?_eq_some_iff.1 hu).1
  have hs := flat_seg c hc T j hjl
  rw [hxe] at hs
  rw [← hs, List.getElem?_take, if_pos hi, List.getElem?_drop] at hu
  exact hu
/-- The controls of boxes, as the table lays them. -/
def paraRows : List Value := [.string ⟨#[]⟩, .string ⟨#[]⟩, .string ⟨#[]⟩, .string ⟨#[226, 128, 170]⟩, .string ⟨#[226, 128, 171]⟩, .string ⟨#[226, 128, 172]⟩, .string ⟨#[226, 129, 166]⟩, .string ⟨#[226, 129, 167]⟩, .string ⟨#[226, 129, 169]⟩, .string ⟨#[226, 128, 173]⟩, .string ⟨#[226, 128, 174]⟩, .string ⟨#[226, 128, 172]⟩, .string ⟨#[226, 129, 168, 226, 128, 173]⟩, .string ⟨#[226, 129, 168, 226, 128, 174]⟩, .string ⟨#[226, 128, 172, 226, 129, 169]⟩, .string ⟨#[226, 129, 168]⟩, .string ⟨#[226, 129, 168]⟩, .string ⟨#[226, 129, 169]⟩]
structure LaidW (w : World) : Prop where
  rows : LaidAt w 0 paraRows
  any : True
theorem LaidW.below {w w' : World} (h : LaidW w) (hb : Below w.heap.size w w') : LaidW w' where
  rows := h.rows.below hb
  any := trivial
/-- A bracket: the closing one, is it an opening one, is it one. -/
def brkFrom (r : Int) : List (Int × Int) → Int × Bool × Bool
  | [] => (0, false, false)
  | x :: T => if r = x.1 ∨ r = x.2 then (if x.2 = 9002 then 12297 else x.2, decide (r = x.1), true) else brkFrom r T
def brkOf (r : Int) : Int × Bool × Bool := brkFrom r tabB
theorem brkFrom_drop (r : Int) (T : List (Int × Int)) (k : Nat) (h : k < T.length) : brkFrom r (T.drop k) = if r = (T.getD k (0, 0)).1 ∨ r = (T.getD k (0, 0)).2 then (if (T.getD k (0, 0)).2 = 9002 then 12297 else (T.getD k (0, 0)).2, decide (r = (T.getD k (0, 0)).1), true) else brkFrom r (T.drop (k + 1)) := by
  rw [List.drop_eq_getElem_cons h, List.getD_eq_getElem?_getD, List.getElem?_eq_getElem h]
  rfl
/-- What mirrors a character, by one table. -/
def othFrom (r : Int) : List (Int × Int) → Option Int
  | [] => none
  | x :: T => if r = x.1 then some x.2 else if r = x.2 then some x.1 else othFrom r T
def mirOf (r : Int) : Int × Bool := match othFrom r tabB with
  | some m => (m, true)
  | none => match othFrom r tabM with
    | some m => (m, true)
    | none => (r, false)
theorem tabB_len : tabB.length = 23 := by kernel_rfl
theorem tabM_len : tabM.length = 7 := by kernel_rfl
end Go.Proofs.YtlfpjlpaiaonkaaDoorH

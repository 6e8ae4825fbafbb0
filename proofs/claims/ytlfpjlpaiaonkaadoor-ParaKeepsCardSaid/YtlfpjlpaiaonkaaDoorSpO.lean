/- Rows of whole numbers that may end ahead of their block's end (x[:n:n]). -/
import Derived.Test.YtlfpjlpaiaonkaaDoorSpN
namespace Go.Proofs.YtlfpjlpaiaonkaaDoor.Sp
open Go.RowKit Go.Proofs.YtlfpjlpaiaonkaaDoorW.PrintWords Go.Proofs.YtlfpjlpaiaonkaaDoorW.PrintLast Go.Proofs.YtlfpjlpaiaonkaaDoorW.PrintMore Go.Proofs.YtlfpjlpaiaonkaaDoorH Go.Proofs.YtlfpjlpaiaonkaaDoor.P Go.Proofs.YtlfpjlpaiaonkaaDoor.Mp
set_option linter.unusedVariables false
set_option linter.unusedSimpArgs false
/-- A row of whole numbers, in a block made since base; it may end ahead of its block's end. -/
def IR (W : World) (base : Nat) (v : Value) (xs : List Int) : Prop :=
  ∃ A c, v = .slice A xs.length c ∧ xs.length ≤ c ∧ c ≤ maxLen ∧ (0 < c → ∃ g cur, A = some ⟨g, 0, none⟩ ∧ base ≤ g ∧ W.heap[g]? = some (.cells cur tInt (0, 0)) ∧ c ≤ cur.size ∧ ∀ j, j < xs.length → cur.toList[j]? = some (.int .i64 (xs.getD j 0)))
section
variable {W W' w0 : World} {base : Nat} {v : Value} {xs : List Int}
theorem IR.nil (W : World) (base : Nat) : IR W base (.slice none 0 0) [] := ⟨none, 0, rfl, Nat.le_refl _, by decide, fun h => absurd h (by omega)⟩
theorem IR.below (h : IR W base v xs) (hb : Below W.heap.size W W') : IR W' base v xs := by
  obtain ⟨A, c, h1, h2, h3, h4⟩ := h
  refine ⟨A, c, h1, h2, h3, fun hc => ?_⟩
  obtain ⟨g, cur, a1, a2, a3, a4, a5⟩ := h4 hc
  exact ⟨g, cur, a1, a2, blk_below a3 hb, a4, a5⟩
theorem IR.take {A : Option Addr} {n c m : Nat} (h : IR W base (.slice A n c) xs) (hm : m ≤ xs.length) : IR W base (.slice A m m) (xs.take m) := by
  obtain ⟨A', c', h1, h2, h3, h4⟩ := h
  injection h1 with e1 e2 e3
  subst e1 e2 e3
  have hl : (xs.take m).length = m := by rw [List.length_take]; omega
  refine ⟨A, m, by rw [hl], by omega, by omega, fun hc => ?_⟩
  obtain ⟨g, cur, a1, a2, a3, a4, a5⟩ := h4 (by omega)
  refine ⟨g, cur, a1, a2, a3, by omega, fun j hj => ?_⟩
  rw [a5 j (by omega)]
  rw [List.getD_eq_getElem?_getD, List.getD_eq_getElem?_getD, List.getElem?_take_of_lt (by omega)]
theorem IR.at {A : Option Addr} {n c : Nat} (h : IR W base (.slice A n c) xs) (j : Nat) (hj : j < xs.length) : ∃ g, A = some ⟨g, 0, none⟩ ∧ W.cell? ⟨g, j, none⟩ = some (.int .i64 (xs.getD j 0)) := by
  obtain ⟨A', c', h1, h2, h3, h4⟩ := h
  injection h1 with e1 e2 e3
  subst e1 e2 e3
  obtain ⟨g, cur, a1, a2, a3, a4, a5⟩ := h4 (by omega)
  refine ⟨g, a1, ?_⟩
  have := blk_cell a3 j
  rw [this, ← Array.getElem?_toList]
  exact a5 j hj
theorem IR.form (h : IR W base v xs) : ∃ A c, v = .slice A xs.length c ∧ xs.length ≤ c := by
  obtain ⟨A, c, h1, h2, _⟩ := h
  exact ⟨A, c, h1, h2⟩
theorem IR.of_own (h : W.ownsRow base tInt 1 v xs.length (xs.map fun x => .int .i64 x)) : IR W base v xs := by
  rcases h.2 with ⟨h1, h2⟩ | ⟨g, cap, cur, h1, h2, h3, h4, h5, h6, h7⟩
  · rw [List.eq_nil_of_length_eq_zero h2]
    rw [h1]
    exact IR.nil _ _
  · refine ⟨_, cap, h1, h4, h5, fun _ => ⟨g, cur, rfl, h2, h3, by omega, fun j hj => ?_⟩⟩
    have : (cur.toList.take (xs.length * 1))[j]? = (xs.map fun x => Value.int .i64 x)[j]? := by rw [h7]
    rw [List.getElem?_take_of_lt (by omega), List.getElem?_map, List.getElem?_eq_getElem hj] at this
    rw [this, List.getD_eq_getElem?_getD, List.getElem?_eq_getElem hj]
    rfl
theorem IR.lower {b' : Nat} (h : IR W b' v xs) (hb : base ≤ b') : IR W base v xs := by
  obtain ⟨A, c, h1, h2, h3, h4⟩ := h
  refine ⟨A, c, h1, h2, h3, fun hc => ?_⟩
  obtain ⟨g, cur, a1, a2, a3⟩ := h4 hc
  exact ⟨g, cur, a1, Nat.le_trans hb a2, a3⟩
/-- append of one. -/
theorem IR.run {P : Program} (t ty : TypeId) (ht : P.underlying t = some (.slice tInt)) (hinfo : (P.info? tInt).map (fun i => (i.zero, i.size, i.bytes)) = some (some (.int .i64 0), 1, 8)) (h : IR W base v xs) (p : Int) (HB : Below base w0 W) (hbase : base ≤ W.heap.size) (hl : xs.length ≤ 1000000000000) :
    ∃ v1 w1, (Builtin.append_ #[t, t] ty #[v, .slice (some ⟨W.heap.size, 0, none⟩) 1 1]).run P (W.alloc (.cells #[.int .i64 p] tInt)) = .ok v1 w1 ∧ IR w1 base v1 (xs ++ [p]) ∧ Below base w0 w1 := by
  obtain ⟨i0, hi, hzz⟩ := Option.map_eq_some_iff.1 hinfo
  simp only [Prod.mk.injEq] at hzz
  obtain ⟨hz0, hz1, hz2⟩ := hzz
  obtain ⟨A, c, rfl, h2, h3, h4⟩ := h
  have hnews : ∀ j u, [Value.int .i64 p][j]? = some u → (W.alloc (.cells #[.int .i64 p] tInt)).cell? ((⟨W.heap.size, 0, none⟩ : Addr).add j) = some u := by simpa using World.news_of_block (cs := #[Value.int .i64 p]) (t := tInt) (fr := (0, 0)) (heap_alloc_new W (.cells #[.int .i64 p] tInt))
  have hm : xs.map (fun x => Value.int .i64 x) ++ [.int .i64 p] = (xs ++ [p]).map fun x => .int .i64 x := by simp
  have hlen : (xs ++ [p]).length = xs.length + 1 := by simp
  have hgrow : ∀ b : Addr, A = some b → c < xs.length + 1 → (∀ j u, (xs.map fun x => Value.int .i64 x)[j]? = some u → W.cell? (b.add j) = some u) → ∃ v1 w1, (Builtin.append_ #[t, t] ty #[.slice A xs.length c, .slice (some ⟨W.heap.size, 0, none⟩) 1 1]).run P (W.alloc (.cells #[.int .i64 p] tInt)) = .ok v1 w1 ∧ IR w1 base v1 (xs ++ [p]) ∧ Below base w0 w1 := by
    rintro b rfl hc hcells
    obtain ⟨v', w', hr, ho, hg⟩ := run_append_arg_grows (P := P) (w := W.alloc (.cells #[.int .i64 p] tInt)) t ty tInt i0 (.int .i64 0) 1 8 ht hi hz0 hz1 hz2 rfl (by decide) b xs.length c (xs.map fun x => .int .i64 x) (by simp)
      (fun j u hu => by
        have := hcells j u hu
        exact (World.cell?_alloc_lt W _ _ (World.block_lt_of_cell? _ _ this)).trans this) ⟨W.heap.size, 0, none⟩ 1 1 [.int .i64 p] rfl hnews hc (by simp only [maxLen]; omega) (by omega)
    refine ⟨v', w', hr, ?_, (HB.grown (World.grownBy_alloc W _ none) hbase (fun k e => by cases e)).grown hg (by simp; omega) (fun k e => by cases e)⟩
    rw [hm, ← hlen] at ho
    exact (IR.of_own ho).lower (by simp; omega)
  by_cases hc0 : c = 0
  · have hx : xs = [] := List.eq_nil_of_length_eq_zero (by omega)
    subst hx hc0
    cases A with
    | some b => exact hgrow b rfl (by simp) (fun j u hu => by simp at hu)
    | none =>
      obtain ⟨v', w', hr, ho, hg, _, _⟩ := run_append_own_at (P := P) (W.alloc (.cells #[.int .i64 p] tInt)) base t ty tInt i0 (.int .i64 0) 1 8 ht hi hz0 hz1 hz2 rfl (by decide) (.slice none 0 0) 0 [] (World.ownsRow_nil _ _ _ _) ⟨W.heap.size, 0, none⟩ 1 1 [.int .i64 p] rfl hnews (by simp [Value.oneCell']) (by simp only [maxLen]; omega) (by omega) (by simp; omega)
      refine ⟨v', w', hr, IR.of_own (xs := [p]) ho, (HB.grown (World.grownBy_alloc W _ none) hbase (fun k e => by cases e)).grown hg (by simp; omega) (fun k e => by simp [Value.ownBlock] at e)⟩
  · obtain ⟨g, cur, rfl, a2, a3, a4, a5⟩ := h4 (by omega)
    by_cases hroom : xs.length + 1 ≤ c
    · have a3' : (W.alloc (.cells #[.int .i64 p] tInt)).heap[g]? = some (.cells cur tInt (0, 0)) := blk_alloc a3 _
      have hfit : 0 + xs.length * i0.size + [Value.int .i64 p].length ≤ cur.size := by rw [hz1]; simp; omega
      have hr := run_append_room_cells (P := P) (w := W.alloc (.cells #[.int .i64 p] tInt)) t ty tInt i0 ht hi g 0 xs.length c ⟨W.heap.size, 0, none⟩ 1 1 [.int .i64 p] (by rw [hz1]; rfl) hnews (by simp [Value.oneCell']) hroom
        (fun j hj => by rw [blk_cell a3' _, hz1]; simp at hj ⊢; omega) (fun j _ => blk_frozen a3' _)
      obtain ⟨cur', b1, b2, b3⟩ := setCells_row [Value.int .i64 p] (0 + xs.length * i0.size) (W.alloc (.cells #[.int .i64 p] tInt)) cur a3' hfit
      obtain ⟨s1, s2, s3, s4⟩ := setCells_same g [Value.int .i64 p] (0 + xs.length * i0.size) (W.alloc (.cells #[.int .i64 p] tInt))
      have htl : cur.toList.length = cur.size := Array.length_toList
      refine ⟨_, _, hr, ⟨_, c, by rw [hlen], by omega, h3, fun _ => ⟨g, cur', rfl, a2, b1, by omega, fun j hj => ?_⟩⟩, ?_⟩
      · rw [b3, hz1, Nat.zero_add, Nat.mul_one, List.append_assoc]
        rw [hlen] at hj
        by_cases hjx : j < xs.length
        · rw [List.getElem?_append_left (by rw [List.length_take, htl]; omega), List.getElem?_take_of_lt hjx, a5 j hjx]
          rw [List.getD_eq_getElem?_getD, List.getD_eq_getElem?_getD, List.getElem?_append_left hjx]
        · have : j = xs.length := by omega
          subst this
          rw [List.getElem?_append_right (by rw [List.length_take, htl]; omega), List.length_take, htl, Nat.min_eq_left (by omega), Nat.sub_self]
          rw [List.getD_eq_getElem?_getD, List.getElem?_append_right (Nat.le_refl _), Nat.sub_self]
          rfl
      · refine (HB.grown (World.grownBy_alloc W _ none) hbase (fun k e => by cases e)).grown (row := some g) ⟨s1, s2, s3, by rw [s4]; exact Nat.le_refl _, fun k _ hk => setCells_far _ _ k (fun e => hk (by rw [e]))⟩ (by simp; omega) (fun k e => by cases e; exact a2)
    · exact hgrow _ rfl (by omega) (fun j u hu => by
        rw [List.getElem?_map] at hu
        obtain ⟨q, hq, rfl⟩ := Option.map_eq_some_iff.1 hu
        have hj : j < xs.length := (List.getElem?_eq_some_iff.1 hq).1
        have := blk_cell a3 j
        rw [add_at, Nat.zero_add, this, ← Array.getElem?_toList, a5 j hj, List.getD_eq_getElem?_getD, hq]
        rfl)
end
section
variable {P : Program} {ops : Array Oper} {rest : List Oper} {o : Oper} {a : Act} {Q : Exit → Act → World → Prop} {w0 W : World}
theorem IR.append (hgd : o.guard = none) (s x : Operand) (t : TypeId) (ho : o.op = .call { callee := .builtin .append, args := #[s, x], argTypes := #[t, t] }) (ht : P.underlying t = some (.slice tInt)) (hinfo : (P.info? tInt).map (fun i => (i.zero, i.size, i.bytes)) = some (some (.int .i64 0), 1, 8)) (base : Nat) (v : Value) (xs : List Int) (p : Int)
    (hs : a.eval s = v) {bx : Nat} (hx : a.eval x = .slice (some ⟨bx, 0, none⟩) 1 1) (hbx : bx = W.heap.size) (HR : IR W base v xs) (HB : Below base w0 W) (hbase : base ≤ W.heap.size) (hl : xs.length ≤ 1000000000000)
    (h : ∀ v1 w1, IR w1 base v1 (xs ++ [p]) → Below base w0 w1 → wpList P ops Q rest (a.put o.dst v1) w1) : wpList P ops Q (o :: rest) a (W.alloc (.cells #[.int .i64 p] tInt)) := by
  subst hbx
  obtain ⟨v1, w1, hr, h1, h2⟩ := HR.run (P := P) t o.type ht hinfo p HB hbase hl
  refine wpList_plain hgd fun K hK => ?_
  unfold Oper.wp execOp
  simp only [ho, resolve, invoke, builtin, Sem.run_bind, Sem.run_pure, Result.andThen_ok, List.map_toArray, List.map_cons, List.map_nil, hs, hx, hr]
  exact hK _ _ (h v1 w1 h1 h2)
end
end Go.Proofs.YtlfpjlpaiaonkaaDoor.Sp

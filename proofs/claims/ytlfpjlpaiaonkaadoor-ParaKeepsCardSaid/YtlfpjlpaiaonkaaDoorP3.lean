-- Written by a program of this session (wip/pr.py).
import Derived.Test.YtlfpjlpaiaonkaaDoorP0
namespace Go.Proofs.YtlfpjlpaiaonkaaDoor.P
open Go.Proofs.YtlfpjlpaiaonkaaDoorH Go.RowKit Go.Proofs.YtlfpjlpaiaonkaaDoorW.PrintWords Go.Proofs.YtlfpjlpaiaonkaaDoorW.PrintLast Go.Proofs.YtlfpjlpaiaonkaaDoorW.PrintMore
attribute [local go_sem] max2_int min2_int max_two min_two max_three min_three max_four min_four   -- for this text's walks alone
set_option linter.unusedVariables false
set_option linter.unusedSimpArgs false

-- NOT PRINTED: function 36 (para_splitter_overrides)

-- NOT PRINTED: function 37 (para_splitter_put)

/-! ### para_isolates: function 50 -/
def para_isolates.f (a0_0 : Int) (a0_1 : Int) (a0_2 : Int) (a0_3 : Int) (a0_4 : Int) (a0_5 : Int) : Option (Bool) := if a0_2 = 2 then (some true) else (if a0_2 = 4 then (some true) else (some (a0_2 == 5)))
set_option maxHeartbeats 8000000 in
set_option maxRecDepth 100000 in
theorem para_isolates.calls (a0_0 : Int) (a0_1 : Int) (a0_2 : Int) (a0_3 : Int) (a0_4 : Int) (a0_5 : Int) (r : Bool) (w : World) (h : para_isolates.f a0_0 a0_1 a0_2 a0_3 a0_4 a0_5 = some r) :
    Calls Tryd.prog 50 #[.agg #[.int .u8 a0_0, .int .u8 a0_1, .int .u8 a0_2, .int .u8 a0_3, .int .i64 a0_4, .int .i64 a0_5]] w fun e w' => e = .returned (.bool r) ∧ Below w.heap.size w w' := by
  have hu52 := Tryd.underlying52
  have HB := Aside0.mk (Below.refl w.heap.size w)
  have H : (if a0_2 = 2 then (some true) else (if a0_2 = 4 then (some true) else (some (a0_2 == 5)))) = some r := h
  clear h
  by_cases c2 : a0_2 = 2
  · rw [if_pos c2] at H
    have c2b0 : (a0_2 == 2) = true := beq_iff_eq.mpr c2
    have c2b1 : (a0_2 != 2) = false := bne_eq_false_iff_eq.mpr c2
    clear c2
    obtain rfl := Option.some.inj H
    go_enter Tryd.func50, Tryd.ntmps50
    go_wp2_with (first | ((with_reducible refine gate_dst (N := 1) rfl ?_); refine box_event ?hg (N := 1) ?hd (cs := #[.int .u8 a0_0, .int .u8 a0_1, .int .u8 a0_2, .int .u8 a0_3, .int .i64 a0_4, .int .i64 a0_5]) (t := 52) ?hr ?_; (case hd => rfl); (case hg => rfl); (case hr => first | (go_simp; done) | (go_simp; rfl)); intro gb102 hg w3 hbox hb; have n0_ := Aside0.mk (below_step (by repeat (first | (with_reducible first | exact HB.out | apply below_alloc | apply pw_below_drewN | apply below_drew1) | exact HB.out)) hb); have n1_ := Aside0.mk (hbox); have n2_ := Aside0.mk ((by rw [hg]; exact (below_size (by repeat (first | (with_reducible first | exact HB.out | apply below_alloc | apply pw_below_drewN | apply below_drew1) | exact HB.out))) : w.heap.size ≤ gb102)); have n3_ := Aside0.mk ((by rw [hg]; exact (below_size (by repeat (first | (with_reducible first | exact HB.out | apply below_alloc | apply pw_below_drewN | apply below_drew1) | exact HB.out))) : w.heap.size ≤ gb102)); clear HB; have HB := n0_; have BK102 := n1_; have GW102 := n2_; have GE102 := n3_; clear n0_ n1_ n2_ n3_; clear hb hbox hg; have hcz4_0 : w3.cell? ⟨gb102, 0, none⟩ = some (.int .u8 a0_0) := (blk_cell BK102.out 0).trans rfl; have hcz4_1 : w3.cell? ⟨gb102, 1, none⟩ = some (.int .u8 a0_1) := (blk_cell BK102.out 1).trans rfl; have hcz4_2 : w3.cell? ⟨gb102, 2, none⟩ = some (.int .u8 a0_2) := (blk_cell BK102.out 2).trans rfl; have hcz4_3 : w3.cell? ⟨gb102, 3, none⟩ = some (.int .u8 a0_3) := (blk_cell BK102.out 3).trans rfl; have hcz4_4 : w3.cell? ⟨gb102, 4, none⟩ = some (.int .i64 a0_4) := (blk_cell BK102.out 4).trans rfl; have hcz4_5 : w3.cell? ⟨gb102, 5, none⟩ = some (.int .i64 a0_5) := (blk_cell BK102.out 5).trans rfl; have hfz4_0 := blk_frozen BK102.out 0; have hfz4_1 := blk_frozen BK102.out 1; have hfz4_2 := blk_frozen BK102.out 2; have hfz4_3 := blk_frozen BK102.out 3; have hfz4_4 := blk_frozen BK102.out 4; have hfz4_5 := blk_frozen BK102.out 5))
    go_ret
    exact ⟨by first | rfl | (simp [errW_none, errW_some] <;> rfl) | (simp [*, errW_none, errW_some] <;> rfl), by repeat (first | (with_reducible first | exact HB.out | apply below_alloc | apply pw_below_drewN | apply below_drew1 | refine below_set ?_ GE102.out) | exact HB.out)⟩
  · rw [if_neg c2] at H
    have c2b0 : (a0_2 == 2) = false := beq_eq_false_iff_ne.mpr c2
    have c2b1 : (a0_2 != 2) = true := bne_iff_ne.mpr c2
    by_cases c5 : a0_2 = 4
    · rw [if_pos c5] at H
      have c5b0 : (a0_2 == 4) = true := beq_iff_eq.mpr c5
      have c5b1 : (a0_2 != 4) = false := bne_eq_false_iff_eq.mpr c5
      clear c5
      obtain rfl := Option.some.inj H
      go_enter Tryd.func50, Tryd.ntmps50
      go_wp2_with (first | ((with_reducible refine gate_dst (N := 1) rfl ?_); refine box_event ?hg (N := 1) ?hd (cs := #[.int .u8 a0_0, .int .u8 a0_1, .int .u8 a0_2, .int .u8 a0_3, .int .i64 a0_4, .int .i64 a0_5]) (t := 52) ?hr ?_; (case hd => rfl); (case hg => rfl); (case hr => first | (go_simp; done) | (go_simp; rfl)); intro gb102 hg w6 hbox hb; have n0_ := Aside0.mk (below_step (by repeat (first | (with_reducible first | exact HB.out | apply below_alloc | apply pw_below_drewN | apply below_drew1) | exact HB.out)) hb); have n1_ := Aside0.mk (hbox); have n2_ := Aside0.mk ((by rw [hg]; exact (below_size (by repeat (first | (with_reducible first | exact HB.out | apply below_alloc | apply pw_below_drewN | apply below_drew1) | exact HB.out))) : w.heap.size ≤ gb102)); have n3_ := Aside0.mk ((by rw [hg]; exact (below_size (by repeat (first | (with_reducible first | exact HB.out | apply below_alloc | apply pw_below_drewN | apply below_drew1) | exact HB.out))) : w.heap.size ≤ gb102)); clear HB; have HB := n0_; have BK102 := n1_; have GW102 := n2_; have GE102 := n3_; clear n0_ n1_ n2_ n3_; clear hb hbox hg; have hcz7_0 : w6.cell? ⟨gb102, 0, none⟩ = some (.int .u8 a0_0) := (blk_cell BK102.out 0).trans rfl; have hcz7_1 : w6.cell? ⟨gb102, 1, none⟩ = some (.int .u8 a0_1) := (blk_cell BK102.out 1).trans rfl; have hcz7_2 : w6.cell? ⟨gb102, 2, none⟩ = some (.int .u8 a0_2) := (blk_cell BK102.out 2).trans rfl; have hcz7_3 : w6.cell? ⟨gb102, 3, none⟩ = some (.int .u8 a0_3) := (blk_cell BK102.out 3).trans rfl; have hcz7_4 : w6.cell? ⟨gb102, 4, none⟩ = some (.int .i64 a0_4) := (blk_cell BK102.out 4).trans rfl; have hcz7_5 : w6.cell? ⟨gb102, 5, none⟩ = some (.int .i64 a0_5) := (blk_cell BK102.out 5).trans rfl; have hfz7_0 := blk_frozen BK102.out 0; have hfz7_1 := blk_frozen BK102.out 1; have hfz7_2 := blk_frozen BK102.out 2; have hfz7_3 := blk_frozen BK102.out 3; have hfz7_4 := blk_frozen BK102.out 4; have hfz7_5 := blk_frozen BK102.out 5))
      go_ret
      exact ⟨by first | rfl | (simp [errW_none, errW_some] <;> rfl) | (simp [*, errW_none, errW_some] <;> rfl), by repeat (first | (with_reducible first | exact HB.out | apply below_alloc | apply pw_below_drewN | apply below_drew1 | refine below_set ?_ GE102.out) | exact HB.out)⟩
    · rw [if_neg c5] at H
      have c5b0 : (a0_2 == 4) = false := beq_eq_false_iff_ne.mpr c5
      have c5b1 : (a0_2 != 4) = true := bne_iff_ne.mpr c5
      obtain rfl := Option.some.inj H
      go_enter Tryd.func50, Tryd.ntmps50
      go_wp2_with (first | ((with_reducible refine gate_dst (N := 1) rfl ?_); refine box_event ?hg (N := 1) ?hd (cs := #[.int .u8 a0_0, .int .u8 a0_1, .int .u8 a0_2, .int .u8 a0_3, .int .i64 a0_4, .int .i64 a0_5]) (t := 52) ?hr ?_; (case hd => rfl); (case hg => rfl); (case hr => first | (go_simp; done) | (go_simp; rfl)); intro gb102 hg w8 hbox hb; have n0_ := Aside0.mk (below_step (by repeat (first | (with_reducible first | exact HB.out | apply below_alloc | apply pw_below_drewN | apply below_drew1) | exact HB.out)) hb); have n1_ := Aside0.mk (hbox); have n2_ := Aside0.mk ((by rw [hg]; exact (below_size (by repeat (first | (with_reducible first | exact HB.out | apply below_alloc | apply pw_below_drewN | apply below_drew1) | exact HB.out))) : w.heap.size ≤ gb102)); have n3_ := Aside0.mk ((by rw [hg]; exact (below_size (by repeat (first | (with_reducible first | exact HB.out | apply below_alloc | apply pw_below_drewN | apply below_drew1) | exact HB.out))) : w.heap.size ≤ gb102)); clear HB; have HB := n0_; have BK102 := n1_; have GW102 := n2_; have GE102 := n3_; clear n0_ n1_ n2_ n3_; clear hb hbox hg; have hcz9_0 : w8.cell? ⟨gb102, 0, none⟩ = some (.int .u8 a0_0) := (blk_cell BK102.out 0).trans rfl; have hcz9_1 : w8.cell? ⟨gb102, 1, none⟩ = some (.int .u8 a0_1) := (blk_cell BK102.out 1).trans rfl; have hcz9_2 : w8.cell? ⟨gb102, 2, none⟩ = some (.int .u8 a0_2) := (blk_cell BK102.out 2).trans rfl; have hcz9_3 : w8.cell? ⟨gb102, 3, none⟩ = some (.int .u8 a0_3) := (blk_cell BK102.out 3).trans rfl; have hcz9_4 : w8.cell? ⟨gb102, 4, none⟩ = some (.int .i64 a0_4) := (blk_cell BK102.out 4).trans rfl; have hcz9_5 : w8.cell? ⟨gb102, 5, none⟩ = some (.int .i64 a0_5) := (blk_cell BK102.out 5).trans rfl; have hfz9_0 := blk_frozen BK102.out 0; have hfz9_1 := blk_frozen BK102.out 1; have hfz9_2 := blk_frozen BK102.out 2; have hfz9_3 := blk_frozen BK102.out 3; have hfz9_4 := blk_frozen BK102.out 4; have hfz9_5 := blk_frozen BK102.out 5))
      go_ret
      exact ⟨by first | rfl | (simp [errW_none, errW_some] <;> rfl) | (simp [*, errW_none, errW_some] <;> rfl), by repeat (first | (with_reducible first | exact HB.out | apply below_alloc | apply pw_below_drewN | apply below_drew1 | refine below_set ?_ GE102.out) | exact HB.out)⟩

-- NOT PRINTED: function 38 (para_splitter_enter)

-- NOT PRINTED: function 22 (para_splitter_begin)

-- NOT PRINTED: function 24 (para_splitter_close)

/-! ### props_spans: function 55 (by hand) -/
def spansV : Value := .agg (cells3 tabC).toArray
def spansZ : Array Value := (cells3 (List.replicate 146 (0, 0, 0))).toArray
theorem props_spans.build (x y c : Int) (w : World) : (Instr.build 114 #[(0, .int .i32 x), (1, .int .i32 y), (2, .int .u8 c)]).run Tryd.prog w = .ok (.agg #[.int .i32 x, .int .i32 y, .int .u8 c]) w := by kernel_rfl
set_option maxRecDepth 100000 in
theorem props_spans.calls (w : World) :
    Calls Tryd.prog 55 #[] w fun e w' => e = .returned spansV ∧ Below w.heap.size w w' := by
  go_enter Tryd.func55, Tryd.ntmps55
  go_step
  go_step
  refine wp_region_lit ?_
  refine cons_event (v := .pointer (some ⟨w.heap.size, 0, none⟩)) (w1 := w.alloc (.cells spansZ 115)) (d := some 0) (frame3 (.pointer (some ⟨w.heap.size, 0, none⟩)) [] (List.replicate 147 undef)) (by kernel_rfl) (by kernel_rfl) (by kernel_rfl) (by kernel_rfl) ?_
  go_step
  go_step
  go_step
  go_step
  refine wp_region_lit ?_
  refine wpList_take3 props_spans.build 146 1 tabC (frame3 (.pointer (some ⟨w.heap.size, 0, none⟩)) tabC [undef]) (by kernel_rfl) (by kernel_rfl) ?_
  refine drop_event (v := spansV) (w1 := w.alloc (.cells spansZ 115)) 146 (lt_of_ble (by kernel_rfl)) (d := some 147) (frame3 (.pointer (some ⟨w.heap.size, 0, none⟩)) tabC [spansV]) (by kernel_rfl) (by kernel_rfl) (by kernel_rfl) (by kernel_rfl) ?_
  refine drop_store (w := w.alloc (.cells spansZ 115)) 147 (lt_of_ble (by kernel_rfl)) (d := none) (frame3 (.pointer (some ⟨w.heap.size, 0, none⟩)) tabC [spansV]) (by kernel_rfl) 115 (.tmp 0) (.tmp 147) (by kernel_rfl) w.heap.size (cells3 tabC).toArray (by kernel_rfl) (by kernel_rfl)
    115 spansZ (heap_alloc_new _ _) (by kernel_rfl) (by kernel_rfl) (by kernel_rfl) (by kernel_rfl) (by kernel_rfl) ?_
  refine drop_end 148 (Nat.le_of_ble_eq_true (by kernel_rfl)) ?_
  go_step
  go_step
  go_step
  exact bodyPost_ret (v := spansV) (results_cell_row (p := 0) (ty := 115) rfl _ _ w.heap.size 115 (cells3 tabC).toArray (0, 0) _ (by kernel_rfl) (setRow_heap _ _ _ _ _ _ (heap_alloc_new _ _)) Tryd.underlying115 rfl (by kernel_rfl)) rfl ⟨rfl, below_setRow_new _ _ _ _⟩

/-! ### props_Class: function 51 (by hand) -/
theorem spans_at (k : Nat) (hk : k < 146) (w : World) : (Instr.index 115 spansV (.int .i64 k)).run Tryd.prog w = .ok (.agg #[.int .i32 (tabC.getD k (0, 0, 0)).1, .int .i32 (tabC.getD k (0, 0, 0)).2.1, .int .u8 (tabC.getD k (0, 0, 0)).2.2]) w := by
  have h := run_index_agg (P := Tryd.prog) (sz := 3) (cells3 tabC) .i64 (k : Int) Tryd.underlying115 (by rw [Tryd.underlying114]) (by kernel_rfl) (by omega) (by omega) w
  rw [cells3_seg tabC k (by omega) (by rw [tabC_len]; omega)] at h
  exact h
def props_Class.f (a0 : Int) : Option Int := some (clsOf a0)
set_option maxHeartbeats 1000000 in
set_option maxRecDepth 100000 in
theorem props_Class.calls (a0 : Int) (r : Int) (w : World) (h : props_Class.f a0 = some r) :
    Calls Tryd.prog 51 #[.int .i32 a0] w fun e w' => e = .returned (.int .u8 r) ∧ Below w.heap.size w w' := by
  have h2 : r = clsOf a0 := (Option.some.inj h).symm
  clear h
  have HR := Aside0.mk h2
  clear h2
  have hu := Tryd.underlying114
  go_enter Tryd.func51, Tryd.ntmps51
  go_wp2_with (go_at_call 55; refine (props_spans.calls _).mono ?_; rintro e w1 ⟨rfl, hb⟩; have HB := Aside0.mk hb; clear hb)
  go_loopw [6] (fun i wr => ∃ k : Nat, i = .int .i64 k ∧ k ≤ 146 ∧ Aside0 (clsFrom a0 (tabC.drop k) = r) ∧ Aside0 (Below w.heap.size w wr)) (fun i _ => 146 - (intOf i).toNat)
  case atStart => exact ⟨0, rfl, by omega, ⟨HR.out.symm⟩, HB⟩
  case round =>
    clear HB HR
    obtain ⟨k, rfl, hk, HC, HB⟩ := hrel
    by_cases hlt : k < 146
    · obtain ⟨x, y, c, hidx, hcl⟩ : ∃ x y c : Int, (∀ W, (Instr.index 115 spansV (.int .i64 k)).run Tryd.prog W = .ok (.agg #[.int .i32 x, .int .i32 y, .int .u8 c]) W) ∧ clsFrom a0 (tabC.drop k) = (if a0 < x then 1 else if a0 ≤ y then c else clsFrom a0 (tabC.drop (k + 1))) :=
        ⟨_, _, _, spans_at k hlt, clsFrom_drop a0 tabC k (by rw [tabC_len]; exact hlt)⟩
      rw [hcl] at HC
      clear hcl
      have hltb : decide ((k : Int) < 146) = true := by simp; omega
      by_cases h1 : a0 < x
      · obtain rfl : 1 = r := by have := HC.out; rwa [if_pos h1] at this
        clear HC
        go_wp2
        go_ret
        exact ⟨rfl, below_alloc HB.out _⟩
      · rw [if_neg h1] at HC
        by_cases h2 : a0 ≤ y
        · obtain rfl : c = r := by have := HC.out; rwa [if_pos h2] at this
          clear HC
          go_wp2
          go_ret
          exact ⟨rfl, below_alloc HB.out _⟩
        · rw [if_neg h2] at HC
          go_wp2
          go_roundw
          case measure => simp [intOf]; omega
          case rel => exact ⟨k + 1, by go_num, by omega, HC, ⟨below_alloc HB.out _⟩⟩
    · obtain rfl : k = 146 := by omega
      obtain rfl : 1 = r := HC.out
      clear HC
      go_wp2
      go_ret
      exact ⟨rfl, HB.out⟩

-- NOT PRINTED: function 42 (para_splitter_harden)

-- NOT PRINTED: function 25 (para_splitter_end)

/-- A state of type 65 at block g of W; what its slices lead to came in by w0. -/
def IsS65 (w0 W : World) (g : Nat) (f0 : List (S52)) (f1 : Int) (f2 : Int) (f3 : Int) (f4 : Int) (f5 : Int) (f6 : Int) (f7 : Bool) (f8 : List (S39)) (f9 : Int) (f10 : List (S41)) (f11 : Int) (f12 : List Int) (f13 : List (S98)) (f14 : Int) (f15 : Bool) : Prop := ∃ A0 c0, ∃ A8 c8, ∃ A10 c10, ∃ A12 c12, ∃ A13 c13, W.heap[g]? = some (.cells #[.slice A0 f0.length c0, .int .u8 f1, .int .u8 f2, .int .u8 f3, .int .u8 f4, .int .i64 f5, .int .i64 f6, .bool f7, .slice A8 f8.length c8, .int .u8 f9, .slice A10 f10.length c10, .int .i64 f11, .slice A12 f12.length c12, .slice A13 f13.length c13, .int .i64 f14, .bool f15] 65 (0, 0)) ∧ w0.heap.size ≤ g ∧ Kd.C k52 w0 A0 f0.length f0 ∧ Kd.C k39 w0 A8 f8.length f8 ∧ Kd.C k41 w0 A10 f10.length f10 ∧ Kd.C (Kd.int .i64) w0 A12 f12.length f12 ∧ Kd.C k98 w0 A13 f13.length f13
theorem IsS65.grown {w0 W : World} {g : Nat} {f0 : List (S52)} {f1 : Int} {f2 : Int} {f3 : Int} {f4 : Int} {f5 : Int} {f6 : Int} {f7 : Bool} {f8 : List (S39)} {f9 : Int} {f10 : List (S41)} {f11 : Int} {f12 : List Int} {f13 : List (S98)} {f14 : Int} {f15 : Bool} {W1 : World} {row : Option Nat} (h : IsS65 w0 W g f0 f1 f2 f3 f4 f5 f6 f7 f8 f9 f10 f11 f12 f13 f14 f15) (hw : W.grownBy W1 row) (hne : some g ≠ row) : IsS65 w0 W1 g f0 f1 f2 f3 f4 f5 f6 f7 f8 f9 f10 f11 f12 f13 f14 f15 := by
  obtain ⟨A0, c0, A8, c8, A10, c10, A12, c12, A13, c13, hb, hg, hr0, hr8, hr10, hr12, hr13⟩ := h
  exact ⟨A0, c0, A8, c8, A10, c10, A12, c12, A13, c13, blk_grown hb hw hne, hg, hr0, hr8, hr10, hr12, hr13⟩
theorem IsS65.own_neN {w0 W : World} {g : Nat} {f0 : List (S52)} {f1 : Int} {f2 : Int} {f3 : Int} {f4 : Int} {f5 : Int} {f6 : Int} {f7 : Bool} {f8 : List (S39)} {f9 : Int} {f10 : List (S41)} {f11 : Int} {f12 : List Int} {f13 : List (S98)} {f14 : Int} {f15 : Bool} {α : Type} {d : Kd α} {e : Nat} {base : Nat} {ok : Nat → Prop} {v : Value} {xs : List α} (h : IsS65 w0 W g f0 f1 f2 f3 f4 f5 f6 f7 f8 f9 f10 f11 f12 f13 f14 f15) (ho : Kd.N d e W base ok v xs) (ht : e ≠ 65) : some g ≠ v.ownBlock := by
  obtain ⟨A0, c0, A8, c8, A10, c10, A12, c12, A13, c13, hb, hg, hr0, hr8, hr10, hr12, hr13⟩ := h
  exact Kd.N_ne ho hb ht
theorem IsS65.fresh {w0 W : World} {g : Nat} {f0 : List (S52)} {f1 : Int} {f2 : Int} {f3 : Int} {f4 : Int} {f5 : Int} {f6 : Int} {f7 : Bool} {f8 : List (S39)} {f9 : Int} {f10 : List (S41)} {f11 : Int} {f12 : List Int} {f13 : List (S98)} {f14 : Int} {f15 : Bool} (h : IsS65 w0 W g f0 f1 f2 f3 f4 f5 f6 f7 f8 f9 f10 f11 f12 f13 f14 f15) : ∀ k, W.heap.size ≤ k → k ≠ g := by
  obtain ⟨A0, c0, A8, c8, A10, c10, A12, c12, A13, c13, hb, hg, hr0, hr8, hr10, hr12, hr13⟩ := h
  exact Kd.freshB hb
theorem IsS65.kept {w0 W : World} {g : Nat} {f0 : List (S52)} {f1 : Int} {f2 : Int} {f3 : Int} {f4 : Int} {f5 : Int} {f6 : Int} {f7 : Bool} {f8 : List (S39)} {f9 : Int} {f10 : List (S41)} {f11 : Int} {f12 : List Int} {f13 : List (S98)} {f14 : Int} {f15 : Bool} {W1 : World} {S : Nat → Prop} (h : IsS65 w0 W g f0 f1 f2 f3 f4 f5 f6 f7 f8 f9 f10 f11 f12 f13 f14 f15) (hk : Kept W W1 S) (hne : ¬ S g) : IsS65 w0 W1 g f0 f1 f2 f3 f4 f5 f6 f7 f8 f9 f10 f11 f12 f13 f14 f15 := by
  obtain ⟨A0, c0, A8, c8, A10, c10, A12, c12, A13, c13, hb, hg, hr0, hr8, hr10, hr12, hr13⟩ := h
  exact ⟨A0, c0, A8, c8, A10, c10, A12, c12, A13, c13, blk_kept hb hk hne, hg, hr0, hr8, hr10, hr12, hr13⟩
theorem IsS65.below {w0 W : World} {g : Nat} {f0 : List (S52)} {f1 : Int} {f2 : Int} {f3 : Int} {f4 : Int} {f5 : Int} {f6 : Int} {f7 : Bool} {f8 : List (S39)} {f9 : Int} {f10 : List (S41)} {f11 : Int} {f12 : List Int} {f13 : List (S98)} {f14 : Int} {f15 : Bool} {W1 : World} (h : IsS65 w0 W g f0 f1 f2 f3 f4 f5 f6 f7 f8 f9 f10 f11 f12 f13 f14 f15) (hw : Below W.heap.size W W1) : IsS65 w0 W1 g f0 f1 f2 f3 f4 f5 f6 f7 f8 f9 f10 f11 f12 f13 f14 f15 := h.grown (grown_of_below hw none) (by simp)
theorem IsS65.alloc {w0 W : World} {g : Nat} {f0 : List (S52)} {f1 : Int} {f2 : Int} {f3 : Int} {f4 : Int} {f5 : Int} {f6 : Int} {f7 : Bool} {f8 : List (S39)} {f9 : Int} {f10 : List (S41)} {f11 : Int} {f12 : List Int} {f13 : List (S98)} {f14 : Int} {f15 : Bool} (h : IsS65 w0 W g f0 f1 f2 f3 f4 f5 f6 f7 f8 f9 f10 f11 f12 f13 f14 f15) (o : Obj) : IsS65 w0 (W.alloc o) g f0 f1 f2 f3 f4 f5 f6 f7 f8 f9 f10 f11 f12 f13 f14 f15 := h.below (below_alloc (Below.refl _ _) o)
theorem IsS65.drewN {w0 W : World} {g : Nat} {f0 : List (S52)} {f1 : Int} {f2 : Int} {f3 : Int} {f4 : Int} {f5 : Int} {f6 : Int} {f7 : Bool} {f8 : List (S39)} {f9 : Int} {f10 : List (S41)} {f11 : Int} {f12 : List Int} {f13 : List (S98)} {f14 : Int} {f15 : Bool} (h : IsS65 w0 W g f0 f1 f2 f3 f4 f5 f6 f7 f8 f9 f10 f11 f12 f13 f14 f15) (m : Nat) : IsS65 w0 (W.drewN m) g f0 f1 f2 f3 f4 f5 f6 f7 f8 f9 f10 f11 f12 f13 f14 f15 := h
theorem IsS65.drew {w0 W : World} {g : Nat} {f0 : List (S52)} {f1 : Int} {f2 : Int} {f3 : Int} {f4 : Int} {f5 : Int} {f6 : Int} {f7 : Bool} {f8 : List (S39)} {f9 : Int} {f10 : List (S41)} {f11 : Int} {f12 : List Int} {f13 : List (S98)} {f14 : Int} {f15 : Bool} (h : IsS65 w0 W g f0 f1 f2 f3 f4 f5 f6 f7 f8 f9 f10 f11 f12 f13 f14 f15) : IsS65 w0 W.drew g f0 f1 f2 f3 f4 f5 f6 f7 f8 f9 f10 f11 f12 f13 f14 f15 := h
theorem IsS65.at_ {w0 W : World} {g : Nat} {f0 : List (S52)} {f1 : Int} {f2 : Int} {f3 : Int} {f4 : Int} {f5 : Int} {f6 : Int} {f7 : Bool} {f8 : List (S39)} {f9 : Int} {f10 : List (S41)} {f11 : Int} {f12 : List Int} {f13 : List (S98)} {f14 : Int} {f15 : Bool} {w' : World} {m : Nat} (hq : W.drewN m = w') (h : IsS65 w0 W g f0 f1 f2 f3 f4 f5 f6 f7 f8 f9 f10 f11 f12 f13 f14 f15) : IsS65 w0 w' g f0 f1 f2 f3 f4 f5 f6 f7 f8 f9 f10 f11 f12 f13 f14 f15 := by subst hq; exact IsS65.drewN h m
theorem IsS65.apart {w0 W : World} {g : Nat} {f0 : List (S52)} {f1 : Int} {f2 : Int} {f3 : Int} {f4 : Int} {f5 : Int} {f6 : Int} {f7 : Bool} {f8 : List (S39)} {f9 : Int} {f10 : List (S41)} {f11 : Int} {f12 : List Int} {f13 : List (S98)} {f14 : Int} {f15 : Bool} {α : Type} {d : Kd α} {e : Nat} {base : Nat} {ok : Nat → Prop} {v : Value} {xs : List α} (h : IsS65 w0 W g f0 f1 f2 f3 f4 f5 f6 f7 f8 f9 f10 f11 f12 f13 f14 f15) (ho : d.R e W base ok v xs) (ht : ∀ q, q ∈ e :: d.E → q ≠ 65) : d.R e W base (fun k => ok k ∧ k ≠ g) v xs := by
  obtain ⟨A0, c0, A8, c8, A10, c10, A12, c12, A13, c13, hb, hg, hr0, hr8, hr10, hr12, hr13⟩ := h
  exact Kd.R_types ho hb ht
theorem IsS65.own_ne {w0 W : World} {g : Nat} {f0 : List (S52)} {f1 : Int} {f2 : Int} {f3 : Int} {f4 : Int} {f5 : Int} {f6 : Int} {f7 : Bool} {f8 : List (S39)} {f9 : Int} {f10 : List (S41)} {f11 : Int} {f12 : List Int} {f13 : List (S98)} {f14 : Int} {f15 : Bool} {α : Type} {d : Kd α} {e : Nat} {base : Nat} {ok : Nat → Prop} {v : Value} {xs : List α} (h : IsS65 w0 W g f0 f1 f2 f3 f4 f5 f6 f7 f8 f9 f10 f11 f12 f13 f14 f15) (ho : d.R e W base ok v xs) (ht : e ≠ 65) : some g ≠ v.ownBlock := by
  obtain ⟨A0, c0, A8, c8, A10, c10, A12, c12, A13, c13, hb, hg, hr0, hr8, hr10, hr12, hr13⟩ := h
  exact Kd.R_ne ho hb ht
theorem IsS65.apartQ {w0 W : World} {g : Nat} {f0 : List (S52)} {f1 : Int} {f2 : Int} {f3 : Int} {f4 : Int} {f5 : Int} {f6 : Int} {f7 : Bool} {f8 : List (S39)} {f9 : Int} {f10 : List (S41)} {f11 : Int} {f12 : List Int} {f13 : List (S98)} {f14 : Int} {f15 : Bool} {α : Type} {d : Kd α} {e : Nat} {base : Nat} {ok : Nat → Prop} {v : Value} {xs : List α} (h : IsS65 w0 W g f0 f1 f2 f3 f4 f5 f6 f7 f8 f9 f10 f11 f12 f13 f14 f15) (ho : d.Q e W base ok v xs) (ht : ∀ q, q ∈ e :: d.E → q ≠ 65) : d.Q e W base (fun k => ok k ∧ k ≠ g) v xs := by
  obtain ⟨A0, c0, A8, c8, A10, c10, A12, c12, A13, c13, hb, hg, hr0, hr8, hr10, hr12, hr13⟩ := h
  exact Kd.Q_types ho hb ht
theorem IsS65.own_neQ {w0 W : World} {g : Nat} {f0 : List (S52)} {f1 : Int} {f2 : Int} {f3 : Int} {f4 : Int} {f5 : Int} {f6 : Int} {f7 : Bool} {f8 : List (S39)} {f9 : Int} {f10 : List (S41)} {f11 : Int} {f12 : List Int} {f13 : List (S98)} {f14 : Int} {f15 : Bool} {α : Type} {d : Kd α} {e : Nat} {base : Nat} {ok : Nat → Prop} {v : Value} {xs : List α} (h : IsS65 w0 W g f0 f1 f2 f3 f4 f5 f6 f7 f8 f9 f10 f11 f12 f13 f14 f15) (ho : d.Q e W base ok v xs) (ht : e ≠ 65) : some g ≠ v.ownBlock := by
  obtain ⟨A0, c0, A8, c8, A10, c10, A12, c12, A13, c13, hb, hg, hr0, hr8, hr10, hr12, hr13⟩ := h
  exact Kd.Q_ne ho hb ht
theorem IsS65.apartS {w0 W : World} {g : Nat} {f0 : List (S52)} {f1 : Int} {f2 : Int} {f3 : Int} {f4 : Int} {f5 : Int} {f6 : Int} {f7 : Bool} {f8 : List (S39)} {f9 : Int} {f10 : List (S41)} {f11 : Int} {f12 : List Int} {f13 : List (S98)} {f14 : Int} {f15 : Bool} {α : Type} {d : Kd α} {e : Nat} {base : Nat} {ok : Nat → Prop} {v : Value} {xs : List α} (h : IsS65 w0 W g f0 f1 f2 f3 f4 f5 f6 f7 f8 f9 f10 f11 f12 f13 f14 f15) (ho : d.S e W base ok v xs) (ht : ∀ q, q ∈ e :: d.E → q ≠ 65) : d.S e W base (fun k => ok k ∧ k ≠ g) v xs := by
  obtain ⟨A0, c0, A8, c8, A10, c10, A12, c12, A13, c13, hb, hg, hr0, hr8, hr10, hr12, hr13⟩ := h
  exact Kd.S_types ho hb ht
theorem IsS65.own_neS {w0 W : World} {g : Nat} {f0 : List (S52)} {f1 : Int} {f2 : Int} {f3 : Int} {f4 : Int} {f5 : Int} {f6 : Int} {f7 : Bool} {f8 : List (S39)} {f9 : Int} {f10 : List (S41)} {f11 : Int} {f12 : List Int} {f13 : List (S98)} {f14 : Int} {f15 : Bool} {α : Type} {d : Kd α} {e : Nat} {base : Nat} {ok : Nat → Prop} {v : Value} {xs : List α} (h : IsS65 w0 W g f0 f1 f2 f3 f4 f5 f6 f7 f8 f9 f10 f11 f12 f13 f14 f15) (ho : d.S e W base ok v xs) (ht : e ≠ 65) : some g ≠ v.ownBlock := by
  obtain ⟨A0, c0, A8, c8, A10, c10, A12, c12, A13, c13, hb, hg, hr0, hr8, hr10, hr12, hr13⟩ := h
  exact Kd.S_ne ho hb ht
theorem IsS65.lt {w0 W : World} {g : Nat} {f0 : List (S52)} {f1 : Int} {f2 : Int} {f3 : Int} {f4 : Int} {f5 : Int} {f6 : Int} {f7 : Bool} {f8 : List (S39)} {f9 : Int} {f10 : List (S41)} {f11 : Int} {f12 : List Int} {f13 : List (S98)} {f14 : Int} {f15 : Bool} (h : IsS65 w0 W g f0 f1 f2 f3 f4 f5 f6 f7 f8 f9 f10 f11 f12 f13 f14 f15) : g < W.heap.size := by
  obtain ⟨A0, c0, A8, c8, A10, c10, A12, c12, A13, c13, hb, hg, hr0, hr8, hr10, hr12, hr13⟩ := h
  exact blk_lt hb
theorem IsS65.ge {w0 W : World} {g : Nat} {f0 : List (S52)} {f1 : Int} {f2 : Int} {f3 : Int} {f4 : Int} {f5 : Int} {f6 : Int} {f7 : Bool} {f8 : List (S39)} {f9 : Int} {f10 : List (S41)} {f11 : Int} {f12 : List Int} {f13 : List (S98)} {f14 : Int} {f15 : Bool} (h : IsS65 w0 W g f0 f1 f2 f3 f4 f5 f6 f7 f8 f9 f10 f11 f12 f13 f14 f15) : w0.heap.size ≤ g := by
  obtain ⟨A0, c0, A8, c8, A10, c10, A12, c12, A13, c13, hb, hg, hr0, hr8, hr10, hr12, hr13⟩ := h
  exact hg
theorem IsS65.ne_blk {w0 W : World} {g : Nat} {f0 : List (S52)} {f1 : Int} {f2 : Int} {f3 : Int} {f4 : Int} {f5 : Int} {f6 : Int} {f7 : Bool} {f8 : List (S39)} {f9 : Int} {f10 : List (S41)} {f11 : Int} {f12 : List Int} {f13 : List (S98)} {f14 : Int} {f15 : Bool} {a : Nat} {cs : Array Value} {t : TypeId} {fr : Nat × Nat} (h : IsS65 w0 W g f0 f1 f2 f3 f4 f5 f6 f7 f8 f9 f10 f11 f12 f13 f14 f15) (hb2 : W.heap[a]? = some (.cells cs t fr)) (ht : t ≠ 65) : g ≠ a := by
  obtain ⟨A0, c0, A8, c8, A10, c10, A12, c12, A13, c13, hb, hg, hr0, hr8, hr10, hr12, hr13⟩ := h
  rintro rfl
  rw [hb] at hb2
  injection hb2 with hb2
  injection hb2 with _ ht2
  exact ht ht2.symm
theorem IsS65.far {w0 W : World} {g : Nat} {f0 : List (S52)} {f1 : Int} {f2 : Int} {f3 : Int} {f4 : Int} {f5 : Int} {f6 : Int} {f7 : Bool} {f8 : List (S39)} {f9 : Int} {f10 : List (S41)} {f11 : Int} {f12 : List Int} {f13 : List (S98)} {f14 : Int} {f15 : Bool} {p : Addr} (h : IsS65 w0 W g f0 f1 f2 f3 f4 f5 f6 f7 f8 f9 f10 f11 f12 f13 f14 f15) (hne : g ≠ p.block) (u : Value) : IsS65 w0 (W.setCell p u) g f0 f1 f2 f3 f4 f5 f6 f7 f8 f9 f10 f11 f12 f13 f14 f15 := by
  obtain ⟨A0, c0, A8, c8, A10, c10, A12, c12, A13, c13, hb, hg, hr0, hr8, hr10, hr12, hr13⟩ := h
  exact ⟨A0, c0, A8, c8, A10, c10, A12, c12, A13, c13, blk_far hb hne u, hg, hr0, hr8, hr10, hr12, hr13⟩
theorem cellS65_0 {W : World} {g : Nat} {A0 : Option Addr} {c0 : Nat} {A8 : Option Addr} {c8 : Nat} {A10 : Option Addr} {c10 : Nat} {A12 : Option Addr} {c12 : Nat} {A13 : Option Addr} {c13 : Nat} {f0 : List (S52)} {f1 : Int} {f2 : Int} {f3 : Int} {f4 : Int} {f5 : Int} {f6 : Int} {f7 : Bool} {f8 : List (S39)} {f9 : Int} {f10 : List (S41)} {f11 : Int} {f12 : List Int} {f13 : List (S98)} {f14 : Int} {f15 : Bool} (h : W.heap[g]? = some (.cells #[.slice A0 f0.length c0, .int .u8 f1, .int .u8 f2, .int .u8 f3, .int .u8 f4, .int .i64 f5, .int .i64 f6, .bool f7, .slice A8 f8.length c8, .int .u8 f9, .slice A10 f10.length c10, .int .i64 f11, .slice A12 f12.length c12, .slice A13 f13.length c13, .int .i64 f14, .bool f15] 65 (0, 0))) : W.cell? ⟨g, 0, none⟩ = some (.slice A0 f0.length c0) := (blk_cell h 0).trans rfl
theorem cellS65_1 {W : World} {g : Nat} {A0 : Option Addr} {c0 : Nat} {A8 : Option Addr} {c8 : Nat} {A10 : Option Addr} {c10 : Nat} {A12 : Option Addr} {c12 : Nat} {A13 : Option Addr} {c13 : Nat} {f0 : List (S52)} {f1 : Int} {f2 : Int} {f3 : Int} {f4 : Int} {f5 : Int} {f6 : Int} {f7 : Bool} {f8 : List (S39)} {f9 : Int} {f10 : List (S41)} {f11 : Int} {f12 : List Int} {f13 : List (S98)} {f14 : Int} {f15 : Bool} (h : W.heap[g]? = some (.cells #[.slice A0 f0.length c0, .int .u8 f1, .int .u8 f2, .int .u8 f3, .int .u8 f4, .int .i64 f5, .int .i64 f6, .bool f7, .slice A8 f8.length c8, .int .u8 f9, .slice A10 f10.length c10, .int .i64 f11, .slice A12 f12.length c12, .slice A13 f13.length c13, .int .i64 f14, .bool f15] 65 (0, 0))) : W.cell? ⟨g, 1, none⟩ = some (.int .u8 f1) := (blk_cell h 1).trans rfl
theorem IsS65.set_1 {w0 W : World} {g : Nat} {f0 : List (S52)} {f1 : Int} {f2 : Int} {f3 : Int} {f4 : Int} {f5 : Int} {f6 : Int} {f7 : Bool} {f8 : List (S39)} {f9 : Int} {f10 : List (S41)} {f11 : Int} {f12 : List Int} {f13 : List (S98)} {f14 : Int} {f15 : Bool} (h : IsS65 w0 W g f0 f1 f2 f3 f4 f5 f6 f7 f8 f9 f10 f11 f12 f13 f14 f15) (x : Int) : IsS65 w0 (W.setCell ⟨g, 1, none⟩ (.int .u8 x)) g f0 x f2 f3 f4 f5 f6 f7 f8 f9 f10 f11 f12 f13 f14 f15 := by
  obtain ⟨A0, c0, A8, c8, A10, c10, A12, c12, A13, c13, hb, hg, hr0, hr8, hr10, hr12, hr13⟩ := h
  exact ⟨A0, c0, A8, c8, A10, c10, A12, c12, A13, c13, by simpa using blk_set hb 1 (.int .u8 x), hg, hr0, hr8, hr10, hr12, hr13⟩
theorem cellS65_2 {W : World} {g : Nat} {A0 : Option Addr} {c0 : Nat} {A8 : Option Addr} {c8 : Nat} {A10 : Option Addr} {c10 : Nat} {A12 : Option Addr} {c12 : Nat} {A13 : Option Addr} {c13 : Nat} {f0 : List (S52)} {f1 : Int} {f2 : Int} {f3 : Int} {f4 : Int} {f5 : Int} {f6 : Int} {f7 : Bool} {f8 : List (S39)} {f9 : Int} {f10 : List (S41)} {f11 : Int} {f12 : List Int} {f13 : List (S98)} {f14 : Int} {f15 : Bool} (h : W.heap[g]? = some (.cells #[.slice A0 f0.length c0, .int .u8 f1, .int .u8 f2, .int .u8 f3, .int .u8 f4, .int .i64 f5, .int .i64 f6, .bool f7, .slice A8 f8.length c8, .int .u8 f9, .slice A10 f10.length c10, .int .i64 f11, .slice A12 f12.length c12, .slice A13 f13.length c13, .int .i64 f14, .bool f15] 65 (0, 0))) : W.cell? ⟨g, 2, none⟩ = some (.int .u8 f2) := (blk_cell h 2).trans rfl
theorem IsS65.set_2 {w0 W : World} {g : Nat} {f0 : List (S52)} {f1 : Int} {f2 : Int} {f3 : Int} {f4 : Int} {f5 : Int} {f6 : Int} {f7 : Bool} {f8 : List (S39)} {f9 : Int} {f10 : List (S41)} {f11 : Int} {f12 : List Int} {f13 : List (S98)} {f14 : Int} {f15 : Bool} (h : IsS65 w0 W g f0 f1 f2 f3 f4 f5 f6 f7 f8 f9 f10 f11 f12 f13 f14 f15) (x : Int) : IsS65 w0 (W.setCell ⟨g, 2, none⟩ (.int .u8 x)) g f0 f1 x f3 f4 f5 f6 f7 f8 f9 f10 f11 f12 f13 f14 f15 := by
  obtain ⟨A0, c0, A8, c8, A10, c10, A12, c12, A13, c13, hb, hg, hr0, hr8, hr10, hr12, hr13⟩ := h
  exact ⟨A0, c0, A8, c8, A10, c10, A12, c12, A13, c13, by simpa using blk_set hb 2 (.int .u8 x), hg, hr0, hr8, hr10, hr12, hr13⟩
theorem cellS65_3 {W : World} {g : Nat} {A0 : Option Addr} {c0 : Nat} {A8 : Option Addr} {c8 : Nat} {A10 : Option Addr} {c10 : Nat} {A12 : Option Addr} {c12 : Nat} {A13 : Option Addr} {c13 : Nat} {f0 : List (S52)} {f1 : Int} {f2 : Int} {f3 : Int} {f4 : Int} {f5 : Int} {f6 : Int} {f7 : Bool} {f8 : List (S39)} {f9 : Int} {f10 : List (S41)} {f11 : Int} {f12 : List Int} {f13 : List (S98)} {f14 : Int} {f15 : Bool} (h : W.heap[g]? = some (.cells #[.slice A0 f0.length c0, .int .u8 f1, .int .u8 f2, .int .u8 f3, .int .u8 f4, .int .i64 f5, .int .i64 f6, .bool f7, .slice A8 f8.length c8, .int .u8 f9, .slice A10 f10.length c10, .int .i64 f11, .slice A12 f12.length c12, .slice A13 f13.length c13, .int .i64 f14, .bool f15] 65 (0, 0))) : W.cell? ⟨g, 3, none⟩ = some (.int .u8 f3) := (blk_cell h 3).trans rfl
theorem IsS65.set_3 {w0 W : World} {g : Nat} {f0 : List (S52)} {f1 : Int} {f2 : Int} {f3 : Int} {f4 : Int} {f5 : Int} {f6 : Int} {f7 : Bool} {f8 : List (S39)} {f9 : Int} {f10 : List (S41)} {f11 : Int} {f12 : List Int} {f13 : List (S98)} {f14 : Int} {f15 : Bool} (h : IsS65 w0 W g f0 f1 f2 f3 f4 f5 f6 f7 f8 f9 f10 f11 f12 f13 f14 f15) (x : Int) : IsS65 w0 (W.setCell ⟨g, 3, none⟩ (.int .u8 x)) g f0 f1 f2 x f4 f5 f6 f7 f8 f9 f10 f11 f12 f13 f14 f15 := by
  obtain ⟨A0, c0, A8, c8, A10, c10, A12, c12, A13, c13, hb, hg, hr0, hr8, hr10, hr12, hr13⟩ := h
  exact ⟨A0, c0, A8, c8, A10, c10, A12, c12, A13, c13, by simpa using blk_set hb 3 (.int .u8 x), hg, hr0, hr8, hr10, hr12, hr13⟩
theorem cellS65_4 {W : World} {g : Nat} {A0 : Option Addr} {c0 : Nat} {A8 : Option Addr} {c8 : Nat} {A10 : Option Addr} {c10 : Nat} {A12 : Option Addr} {c12 : Nat} {A13 : Option Addr} {c13 : Nat} {f0 : List (S52)} {f1 : Int} {f2 : Int} {f3 : Int} {f4 : Int} {f5 : Int} {f6 : Int} {f7 : Bool} {f8 : List (S39)} {f9 : Int} {f10 : List (S41)} {f11 : Int} {f12 : List Int} {f13 : List (S98)} {f14 : Int} {f15 : Bool} (h : W.heap[g]? = some (.cells #[.slice A0 f0.length c0, .int .u8 f1, .int .u8 f2, .int .u8 f3, .int .u8 f4, .int .i64 f5, .int .i64 f6, .bool f7, .slice A8 f8.length c8, .int .u8 f9, .slice A10 f10.length c10, .int .i64 f11, .slice A12 f12.length c12, .slice A13 f13.length c13, .int .i64 f14, .bool f15] 65 (0, 0))) : W.cell? ⟨g, 4, none⟩ = some (.int .u8 f4) := (blk_cell h 4).trans rfl
theorem IsS65.set_4 {w0 W : World} {g : Nat} {f0 : List (S52)} {f1 : Int} {f2 : Int} {f3 : Int} {f4 : Int} {f5 : Int} {f6 : Int} {f7 : Bool} {f8 : List (S39)} {f9 : Int} {f10 : List (S41)} {f11 : Int} {f12 : List Int} {f13 : List (S98)} {f14 : Int} {f15 : Bool} (h : IsS65 w0 W g f0 f1 f2 f3 f4 f5 f6 f7 f8 f9 f10 f11 f12 f13 f14 f15) (x : Int) : IsS65 w0 (W.setCell ⟨g, 4, none⟩ (.int .u8 x)) g f0 f1 f2 f3 x f5 f6 f7 f8 f9 f10 f11 f12 f13 f14 f15 := by
  obtain ⟨A0, c0, A8, c8, A10, c10, A12, c12, A13, c13, hb, hg, hr0, hr8, hr10, hr12, hr13⟩ := h
  exact ⟨A0, c0, A8, c8, A10, c10, A12, c12, A13, c13, by simpa using blk_set hb 4 (.int .u8 x), hg, hr0, hr8, hr10, hr12, hr13⟩
theorem cellS65_5 {W : World} {g : Nat} {A0 : Option Addr} {c0 : Nat} {A8 : Option Addr} {c8 : Nat} {A10 : Option Addr} {c10 : Nat} {A12 : Option Addr} {c12 : Nat} {A13 : Option Addr} {c13 : Nat} {f0 : List (S52)} {f1 : Int} {f2 : Int} {f3 : Int} {f4 : Int} {f5 : Int} {f6 : Int} {f7 : Bool} {f8 : List (S39)} {f9 : Int} {f10 : List (S41)} {f11 : Int} {f12 : List Int} {f13 : List (S98)} {f14 : Int} {f15 : Bool} (h : W.heap[g]? = some (.cells #[.slice A0 f0.length c0, .int .u8 f1, .int .u8 f2, .int .u8 f3, .int .u8 f4, .int .i64 f5, .int .i64 f6, .bool f7, .slice A8 f8.length c8, .int .u8 f9, .slice A10 f10.length c10, .int .i64 f11, .slice A12 f12.length c12, .slice A13 f13.length c13, .int .i64 f14, .bool f15] 65 (0, 0))) : W.cell? ⟨g, 5, none⟩ = some (.int .i64 f5) := (blk_cell h 5).trans rfl
theorem IsS65.set_5 {w0 W : World} {g : Nat} {f0 : List (S52)} {f1 : Int} {f2 : Int} {f3 : Int} {f4 : Int} {f5 : Int} {f6 : Int} {f7 : Bool} {f8 : List (S39)} {f9 : Int} {f10 : List (S41)} {f11 : Int} {f12 : List Int} {f13 : List (S98)} {f14 : Int} {f15 : Bool} (h : IsS65 w0 W g f0 f1 f2 f3 f4 f5 f6 f7 f8 f9 f10 f11 f12 f13 f14 f15) (x : Int) : IsS65 w0 (W.setCell ⟨g, 5, none⟩ (.int .i64 x)) g f0 f1 f2 f3 f4 x f6 f7 f8 f9 f10 f11 f12 f13 f14 f15 := by
  obtain ⟨A0, c0, A8, c8, A10, c10, A12, c12, A13, c13, hb, hg, hr0, hr8, hr10, hr12, hr13⟩ := h
  exact ⟨A0, c0, A8, c8, A10, c10, A12, c12, A13, c13, by simpa using blk_set hb 5 (.int .i64 x), hg, hr0, hr8, hr10, hr12, hr13⟩
theorem cellS65_6 {W : World} {g : Nat} {A0 : Option Addr} {c0 : Nat} {A8 : Option Addr} {c8 : Nat} {A10 : Option Addr} {c10 : Nat} {A12 : Option Addr} {c12 : Nat} {A13 : Option Addr} {c13 : Nat} {f0 : List (S52)} {f1 : Int} {f2 : Int} {f3 : Int} {f4 : Int} {f5 : Int} {f6 : Int} {f7 : Bool} {f8 : List (S39)} {f9 : Int} {f10 : List (S41)} {f11 : Int} {f12 : List Int} {f13 : List (S98)} {f14 : Int} {f15 : Bool} (h : W.heap[g]? = some (.cells #[.slice A0 f0.length c0, .int .u8 f1, .int .u8 f2, .int .u8 f3, .int .u8 f4, .int .i64 f5, .int .i64 f6, .bool f7, .slice A8 f8.length c8, .int .u8 f9, .slice A10 f10.length c10, .int .i64 f11, .slice A12 f12.length c12, .slice A13 f13.length c13, .int .i64 f14, .bool f15] 65 (0, 0))) : W.cell? ⟨g, 6, none⟩ = some (.int .i64 f6) := (blk_cell h 6).trans rfl
theorem IsS65.set_6 {w0 W : World} {g : Nat} {f0 : List (S52)} {f1 : Int} {f2 : Int} {f3 : Int} {f4 : Int} {f5 : Int} {f6 : Int} {f7 : Bool} {f8 : List (S39)} {f9 : Int} {f10 : List (S41)} {f11 : Int} {f12 : List Int} {f13 : List (S98)} {f14 : Int} {f15 : Bool} (h : IsS65 w0 W g f0 f1 f2 f3 f4 f5 f6 f7 f8 f9 f10 f11 f12 f13 f14 f15) (x : Int) : IsS65 w0 (W.setCell ⟨g, 6, none⟩ (.int .i64 x)) g f0 f1 f2 f3 f4 f5 x f7 f8 f9 f10 f11 f12 f13 f14 f15 := by
  obtain ⟨A0, c0, A8, c8, A10, c10, A12, c12, A13, c13, hb, hg, hr0, hr8, hr10, hr12, hr13⟩ := h
  exact ⟨A0, c0, A8, c8, A10, c10, A12, c12, A13, c13, by simpa using blk_set hb 6 (.int .i64 x), hg, hr0, hr8, hr10, hr12, hr13⟩
theorem cellS65_7 {W : World} {g : Nat} {A0 : Option Addr} {c0 : Nat} {A8 : Option Addr} {c8 : Nat} {A10 : Option Addr} {c10 : Nat} {A12 : Option Addr} {c12 : Nat} {A13 : Option Addr} {c13 : Nat} {f0 : List (S52)} {f1 : Int} {f2 : Int} {f3 : Int} {f4 : Int} {f5 : Int} {f6 : Int} {f7 : Bool} {f8 : List (S39)} {f9 : Int} {f10 : List (S41)} {f11 : Int} {f12 : List Int} {f13 : List (S98)} {f14 : Int} {f15 : Bool} (h : W.heap[g]? = some (.cells #[.slice A0 f0.length c0, .int .u8 f1, .int .u8 f2, .int .u8 f3, .int .u8 f4, .int .i64 f5, .int .i64 f6, .bool f7, .slice A8 f8.length c8, .int .u8 f9, .slice A10 f10.length c10, .int .i64 f11, .slice A12 f12.length c12, .slice A13 f13.length c13, .int .i64 f14, .bool f15] 65 (0, 0))) : W.cell? ⟨g, 7, none⟩ = some (.bool f7) := (blk_cell h 7).trans rfl
theorem IsS65.set_7 {w0 W : World} {g : Nat} {f0 : List (S52)} {f1 : Int} {f2 : Int} {f3 : Int} {f4 : Int} {f5 : Int} {f6 : Int} {f7 : Bool} {f8 : List (S39)} {f9 : Int} {f10 : List (S41)} {f11 : Int} {f12 : List Int} {f13 : List (S98)} {f14 : Int} {f15 : Bool} (h : IsS65 w0 W g f0 f1 f2 f3 f4 f5 f6 f7 f8 f9 f10 f11 f12 f13 f14 f15) (x : Bool) : IsS65 w0 (W.setCell ⟨g, 7, none⟩ (.bool x)) g f0 f1 f2 f3 f4 f5 f6 x f8 f9 f10 f11 f12 f13 f14 f15 := by
  obtain ⟨A0, c0, A8, c8, A10, c10, A12, c12, A13, c13, hb, hg, hr0, hr8, hr10, hr12, hr13⟩ := h
  exact ⟨A0, c0, A8, c8, A10, c10, A12, c12, A13, c13, by simpa using blk_set hb 7 (.bool x), hg, hr0, hr8, hr10, hr12, hr13⟩
theorem cellS65_8 {W : World} {g : Nat} {A0 : Option Addr} {c0 : Nat} {A8 : Option Addr} {c8 : Nat} {A10 : Option Addr} {c10 : Nat} {A12 : Option Addr} {c12 : Nat} {A13 : Option Addr} {c13 : Nat} {f0 : List (S52)} {f1 : Int} {f2 : Int} {f3 : Int} {f4 : Int} {f5 : Int} {f6 : Int} {f7 : Bool} {f8 : List (S39)} {f9 : Int} {f10 : List (S41)} {f11 : Int} {f12 : List Int} {f13 : List (S98)} {f14 : Int} {f15 : Bool} (h : W.heap[g]? = some (.cells #[.slice A0 f0.length c0, .int .u8 f1, .int .u8 f2, .int .u8 f3, .int .u8 f4, .int .i64 f5, .int .i64 f6, .bool f7, .slice A8 f8.length c8, .int .u8 f9, .slice A10 f10.length c10, .int .i64 f11, .slice A12 f12.length c12, .slice A13 f13.length c13, .int .i64 f14, .bool f15] 65 (0, 0))) : W.cell? ⟨g, 8, none⟩ = some (.slice A8 f8.length c8) := (blk_cell h 8).trans rfl
theorem cellS65_9 {W : World} {g : Nat} {A0 : Option Addr} {c0 : Nat} {A8 : Option Addr} {c8 : Nat} {A10 : Option Addr} {c10 : Nat} {A12 : Option Addr} {c12 : Nat} {A13 : Option Addr} {c13 : Nat} {f0 : List (S52)} {f1 : Int} {f2 : Int} {f3 : Int} {f4 : Int} {f5 : Int} {f6 : Int} {f7 : Bool} {f8 : List (S39)} {f9 : Int} {f10 : List (S41)} {f11 : Int} {f12 : List Int} {f13 : List (S98)} {f14 : Int} {f15 : Bool} (h : W.heap[g]? = some (.cells #[.slice A0 f0.length c0, .int .u8 f1, .int .u8 f2, .int .u8 f3, .int .u8 f4, .int .i64 f5, .int .i64 f6, .bool f7, .slice A8 f8.length c8, .int .u8 f9, .slice A10 f10.length c10, .int .i64 f11, .slice A12 f12.length c12, .slice A13 f13.length c13, .int .i64 f14, .bool f15] 65 (0, 0))) : W.cell? ⟨g, 9, none⟩ = some (.int .u8 f9) := (blk_cell h 9).trans rfl
theorem IsS65.set_9 {w0 W : World} {g : Nat} {f0 : List (S52)} {f1 : Int} {f2 : Int} {f3 : Int} {f4 : Int} {f5 : Int} {f6 : Int} {f7 : Bool} {f8 : List (S39)} {f9 : Int} {f10 : List (S41)} {f11 : Int} {f12 : List Int} {f13 : List (S98)} {f14 : Int} {f15 : Bool} (h : IsS65 w0 W g f0 f1 f2 f3 f4 f5 f6 f7 f8 f9 f10 f11 f12 f13 f14 f15) (x : Int) : IsS65 w0 (W.setCell ⟨g, 9, none⟩ (.int .u8 x)) g f0 f1 f2 f3 f4 f5 f6 f7 f8 x f10 f11 f12 f13 f14 f15 := by
  obtain ⟨A0, c0, A8, c8, A10, c10, A12, c12, A13, c13, hb, hg, hr0, hr8, hr10, hr12, hr13⟩ := h
  exact ⟨A0, c0, A8, c8, A10, c10, A12, c12, A13, c13, by simpa using blk_set hb 9 (.int .u8 x), hg, hr0, hr8, hr10, hr12, hr13⟩
theorem cellS65_10 {W : World} {g : Nat} {A0 : Option Addr} {c0 : Nat} {A8 : Option Addr} {c8 : Nat} {A10 : Option Addr} {c10 : Nat} {A12 : Option Addr} {c12 : Nat} {A13 : Option Addr} {c13 : Nat} {f0 : List (S52)} {f1 : Int} {f2 : Int} {f3 : Int} {f4 : Int} {f5 : Int} {f6 : Int} {f7 : Bool} {f8 : List (S39)} {f9 : Int} {f10 : List (S41)} {f11 : Int} {f12 : List Int} {f13 : List (S98)} {f14 : Int} {f15 : Bool} (h : W.heap[g]? = some (.cells #[.slice A0 f0.length c0, .int .u8 f1, .int .u8 f2, .int .u8 f3, .int .u8 f4, .int .i64 f5, .int .i64 f6, .bool f7, .slice A8 f8.length c8, .int .u8 f9, .slice A10 f10.length c10, .int .i64 f11, .slice A12 f12.length c12, .slice A13 f13.length c13, .int .i64 f14, .bool f15] 65 (0, 0))) : W.cell? ⟨g, 10, none⟩ = some (.slice A10 f10.length c10) := (blk_cell h 10).trans rfl
theorem cellS65_11 {W : World} {g : Nat} {A0 : Option Addr} {c0 : Nat} {A8 : Option Addr} {c8 : Nat} {A10 : Option Addr} {c10 : Nat} {A12 : Option Addr} {c12 : Nat} {A13 : Option Addr} {c13 : Nat} {f0 : List (S52)} {f1 : Int} {f2 : Int} {f3 : Int} {f4 : Int} {f5 : Int} {f6 : Int} {f7 : Bool} {f8 : List (S39)} {f9 : Int} {f10 : List (S41)} {f11 : Int} {f12 : List Int} {f13 : List (S98)} {f14 : Int} {f15 : Bool} (h : W.heap[g]? = some (.cells #[.slice A0 f0.length c0, .int .u8 f1, .int .u8 f2, .int .u8 f3, .int .u8 f4, .int .i64 f5, .int .i64 f6, .bool f7, .slice A8 f8.length c8, .int .u8 f9, .slice A10 f10.length c10, .int .i64 f11, .slice A12 f12.length c12, .slice A13 f13.length c13, .int .i64 f14, .bool f15] 65 (0, 0))) : W.cell? ⟨g, 11, none⟩ = some (.int .i64 f11) := (blk_cell h 11).trans rfl
theorem IsS65.set_11 {w0 W : World} {g : Nat} {f0 : List (S52)} {f1 : Int} {f2 : Int} {f3 : Int} {f4 : Int} {f5 : Int} {f6 : Int} {f7 : Bool} {f8 : List (S39)} {f9 : Int} {f10 : List (S41)} {f11 : Int} {f12 : List Int} {f13 : List (S98)} {f14 : Int} {f15 : Bool} (h : IsS65 w0 W g f0 f1 f2 f3 f4 f5 f6 f7 f8 f9 f10 f11 f12 f13 f14 f15) (x : Int) : IsS65 w0 (W.setCell ⟨g, 11, none⟩ (.int .i64 x)) g f0 f1 f2 f3 f4 f5 f6 f7 f8 f9 f10 x f12 f13 f14 f15 := by
  obtain ⟨A0, c0, A8, c8, A10, c10, A12, c12, A13, c13, hb, hg, hr0, hr8, hr10, hr12, hr13⟩ := h
  exact ⟨A0, c0, A8, c8, A10, c10, A12, c12, A13, c13, by simpa using blk_set hb 11 (.int .i64 x), hg, hr0, hr8, hr10, hr12, hr13⟩
theorem cellS65_12 {W : World} {g : Nat} {A0 : Option Addr} {c0 : Nat} {A8 : Option Addr} {c8 : Nat} {A10 : Option Addr} {c10 : Nat} {A12 : Option Addr} {c12 : Nat} {A13 : Option Addr} {c13 : Nat} {f0 : List (S52)} {f1 : Int} {f2 : Int} {f3 : Int} {f4 : Int} {f5 : Int} {f6 : Int} {f7 : Bool} {f8 : List (S39)} {f9 : Int} {f10 : List (S41)} {f11 : Int} {f12 : List Int} {f13 : List (S98)} {f14 : Int} {f15 : Bool} (h : W.heap[g]? = some (.cells #[.slice A0 f0.length c0, .int .u8 f1, .int .u8 f2, .int .u8 f3, .int .u8 f4, .int .i64 f5, .int .i64 f6, .bool f7, .slice A8 f8.length c8, .int .u8 f9, .slice A10 f10.length c10, .int .i64 f11, .slice A12 f12.length c12, .slice A13 f13.length c13, .int .i64 f14, .bool f15] 65 (0, 0))) : W.cell? ⟨g, 12, none⟩ = some (.slice A12 f12.length c12) := (blk_cell h 12).trans rfl
theorem cellS65_13 {W : World} {g : Nat} {A0 : Option Addr} {c0 : Nat} {A8 : Option Addr} {c8 : Nat} {A10 : Option Addr} {c10 : Nat} {A12 : Option Addr} {c12 : Nat} {A13 : Option Addr} {c13 : Nat} {f0 : List (S52)} {f1 : Int} {f2 : Int} {f3 : Int} {f4 : Int} {f5 : Int} {f6 : Int} {f7 : Bool} {f8 : List (S39)} {f9 : Int} {f10 : List (S41)} {f11 : Int} {f12 : List Int} {f13 : List (S98)} {f14 : Int} {f15 : Bool} (h : W.heap[g]? = some (.cells #[.slice A0 f0.length c0, .int .u8 f1, .int .u8 f2, .int .u8 f3, .int .u8 f4, .int .i64 f5, .int .i64 f6, .bool f7, .slice A8 f8.length c8, .int .u8 f9, .slice A10 f10.length c10, .int .i64 f11, .slice A12 f12.length c12, .slice A13 f13.length c13, .int .i64 f14, .bool f15] 65 (0, 0))) : W.cell? ⟨g, 13, none⟩ = some (.slice A13 f13.length c13) := (blk_cell h 13).trans rfl
theorem cellS65_14 {W : World} {g : Nat} {A0 : Option Addr} {c0 : Nat} {A8 : Option Addr} {c8 : Nat} {A10 : Option Addr} {c10 : Nat} {A12 : Option Addr} {c12 : Nat} {A13 : Option Addr} {c13 : Nat} {f0 : List (S52)} {f1 : Int} {f2 : Int} {f3 : Int} {f4 : Int} {f5 : Int} {f6 : Int} {f7 : Bool} {f8 : List (S39)} {f9 : Int} {f10 : List (S41)} {f11 : Int} {f12 : List Int} {f13 : List (S98)} {f14 : Int} {f15 : Bool} (h : W.heap[g]? = some (.cells #[.slice A0 f0.length c0, .int .u8 f1, .int .u8 f2, .int .u8 f3, .int .u8 f4, .int .i64 f5, .int .i64 f6, .bool f7, .slice A8 f8.length c8, .int .u8 f9, .slice A10 f10.length c10, .int .i64 f11, .slice A12 f12.length c12, .slice A13 f13.length c13, .int .i64 f14, .bool f15] 65 (0, 0))) : W.cell? ⟨g, 14, none⟩ = some (.int .i64 f14) := (blk_cell h 14).trans rfl
theorem IsS65.set_14 {w0 W : World} {g : Nat} {f0 : List (S52)} {f1 : Int} {f2 : Int} {f3 : Int} {f4 : Int} {f5 : Int} {f6 : Int} {f7 : Bool} {f8 : List (S39)} {f9 : Int} {f10 : List (S41)} {f11 : Int} {f12 : List Int} {f13 : List (S98)} {f14 : Int} {f15 : Bool} (h : IsS65 w0 W g f0 f1 f2 f3 f4 f5 f6 f7 f8 f9 f10 f11 f12 f13 f14 f15) (x : Int) : IsS65 w0 (W.setCell ⟨g, 14, none⟩ (.int .i64 x)) g f0 f1 f2 f3 f4 f5 f6 f7 f8 f9 f10 f11 f12 f13 x f15 := by
  obtain ⟨A0, c0, A8, c8, A10, c10, A12, c12, A13, c13, hb, hg, hr0, hr8, hr10, hr12, hr13⟩ := h
  exact ⟨A0, c0, A8, c8, A10, c10, A12, c12, A13, c13, by simpa using blk_set hb 14 (.int .i64 x), hg, hr0, hr8, hr10, hr12, hr13⟩
theorem cellS65_15 {W : World} {g : Nat} {A0 : Option Addr} {c0 : Nat} {A8 : Option Addr} {c8 : Nat} {A10 : Option Addr} {c10 : Nat} {A12 : Option Addr} {c12 : Nat} {A13 : Option Addr} {c13 : Nat} {f0 : List (S52)} {f1 : Int} {f2 : Int} {f3 : Int} {f4 : Int} {f5 : Int} {f6 : Int} {f7 : Bool} {f8 : List (S39)} {f9 : Int} {f10 : List (S41)} {f11 : Int} {f12 : List Int} {f13 : List (S98)} {f14 : Int} {f15 : Bool} (h : W.heap[g]? = some (.cells #[.slice A0 f0.length c0, .int .u8 f1, .int .u8 f2, .int .u8 f3, .int .u8 f4, .int .i64 f5, .int .i64 f6, .bool f7, .slice A8 f8.length c8, .int .u8 f9, .slice A10 f10.length c10, .int .i64 f11, .slice A12 f12.length c12, .slice A13 f13.length c13, .int .i64 f14, .bool f15] 65 (0, 0))) : W.cell? ⟨g, 15, none⟩ = some (.bool f15) := (blk_cell h 15).trans rfl
theorem IsS65.set_15 {w0 W : World} {g : Nat} {f0 : List (S52)} {f1 : Int} {f2 : Int} {f3 : Int} {f4 : Int} {f5 : Int} {f6 : Int} {f7 : Bool} {f8 : List (S39)} {f9 : Int} {f10 : List (S41)} {f11 : Int} {f12 : List Int} {f13 : List (S98)} {f14 : Int} {f15 : Bool} (h : IsS65 w0 W g f0 f1 f2 f3 f4 f5 f6 f7 f8 f9 f10 f11 f12 f13 f14 f15) (x : Bool) : IsS65 w0 (W.setCell ⟨g, 15, none⟩ (.bool x)) g f0 f1 f2 f3 f4 f5 f6 f7 f8 f9 f10 f11 f12 f13 f14 x := by
  obtain ⟨A0, c0, A8, c8, A10, c10, A12, c12, A13, c13, hb, hg, hr0, hr8, hr10, hr12, hr13⟩ := h
  exact ⟨A0, c0, A8, c8, A10, c10, A12, c12, A13, c13, by simpa using blk_set hb 15 (.bool x), hg, hr0, hr8, hr10, hr12, hr13⟩
theorem IsS65.new (w0 W : World) (A0 : Option Addr) (c0 : Nat) (A8 : Option Addr) (c8 : Nat) (A10 : Option Addr) (c10 : Nat) (A12 : Option Addr) (c12 : Nat) (A13 : Option Addr) (c13 : Nat) (f0 : List (S52)) (f1 : Int) (f2 : Int) (f3 : Int) (f4 : Int) (f5 : Int) (f6 : Int) (f7 : Bool) (f8 : List (S39)) (f9 : Int) (f10 : List (S41)) (f11 : Int) (f12 : List Int) (f13 : List (S98)) (f14 : Int) (f15 : Bool) (hB : Below w0.heap.size w0 W) (hr0 : Kd.C k52 w0 A0 f0.length f0) (hr8 : Kd.C k39 w0 A8 f8.length f8) (hr10 : Kd.C k41 w0 A10 f10.length f10) (hr12 : Kd.C (Kd.int .i64) w0 A12 f12.length f12) (hr13 : Kd.C k98 w0 A13 f13.length f13) : IsS65 w0 (W.alloc (.cells #[.slice A0 f0.length c0, .int .u8 f1, .int .u8 f2, .int .u8 f3, .int .u8 f4, .int .i64 f5, .int .i64 f6, .bool f7, .slice A8 f8.length c8, .int .u8 f9, .slice A10 f10.length c10, .int .i64 f11, .slice A12 f12.length c12, .slice A13 f13.length c13, .int .i64 f14, .bool f15] 65)) W.heap.size f0 f1 f2 f3 f4 f5 f6 f7 f8 f9 f10 f11 f12 f13 f14 f15 := ⟨A0, c0, A8, c8, A10, c10, A12, c12, A13, c13, by simpa using heap_alloc_new W _, hB.size, hr0, hr8, hr10, hr12, hr13⟩

/-! ### para_splitter_inner: function 39 -/
def para_splitter_inner.f (s0_0 : List (S52)) (s0_1 : Int) (s0_2 : Int) (s0_3 : Int) (s0_4 : Int) (s0_5 : Int) (s0_6 : Int) (s0_7 : Bool) (s0_8 : List (S39)) (s0_9 : Int) (s0_10 : List (S41)) (s0_11 : Int) (s0_12 : List Int) (s0_13 : List (S98)) (s0_14 : Int) (s0_15 : Bool) : Option (Int × Int × Int × Int × Int × Int × Int × Bool × Int × Int × Int × Bool) := if (s0_13.length : Int) > 0 then (if 0 ≤ (wrap64 ((s0_13.length : Int) - 1)) then (if (wrap64 ((s0_13.length : Int) - 1)) < (s0_13.length : Int) then (some ((rd_T98 s0_13 (wrap64 ((s0_13.length : Int) - 1))).f2, s0_1, s0_2, s0_3, s0_4, s0_5, s0_6, s0_7, s0_9, s0_11, s0_14, s0_15)) else (none)) else (none)) else (some (0, s0_1, s0_2, s0_3, s0_4, s0_5, s0_6, s0_7, s0_9, s0_11, s0_14, s0_15))
set_option maxHeartbeats 8000000 in
set_option maxRecDepth 100000 in
theorem para_splitter_inner.calls (g : Nat) (s0_0 : List (S52)) (s0_1 : Int) (s0_2 : Int) (s0_3 : Int) (s0_4 : Int) (s0_5 : Int) (s0_6 : Int) (s0_7 : Bool) (s0_8 : List (S39)) (s0_9 : Int) (s0_10 : List (S41)) (s0_11 : Int) (s0_12 : List Int) (s0_13 : List (S98)) (s0_14 : Int) (s0_15 : Bool) (r1 : Int) (r2 : Int) (r3 : Int) (r4 : Int) (r5 : Int) (r6 : Int) (r7 : Int) (r8 : Bool) (r9 : Int) (r10 : Int) (r11 : Int) (r12 : Bool) (w0 w : World) (hI : IsS65 w0 w g s0_0 s0_1 s0_2 s0_3 s0_4 s0_5 s0_6 s0_7 s0_8 s0_9 s0_10 s0_11 s0_12 s0_13 s0_14 s0_15) (hB : Below w0.heap.size w0 w) (h : para_splitter_inner.f s0_0 s0_1 s0_2 s0_3 s0_4 s0_5 s0_6 s0_7 s0_8 s0_9 s0_10 s0_11 s0_12 s0_13 s0_14 s0_15 = some (r1, r2, r3, r4, r5, r6, r7, r8, r9, r10, r11, r12)) :
    Calls Tryd.prog 39 #[.pointer (some ⟨g, 0, none⟩)] w fun e w' => e = .returned (.int .i64 r1) ∧ IsS65 w0 w' g s0_0 r2 r3 r4 r5 r6 r7 r8 s0_8 r9 s0_10 r10 s0_12 s0_13 r11 r12 ∧ Below w0.heap.size w0 w' ∧ KeepBut w w' g none := by
  have HI0 := Aside0.mk hI
  have HK := Aside0.mk (KeepBut.refl w g none)
  have HL := Aside0.mk hB.size
  clear hI
  have HW0 := Aside0.mk hB.size
  have HB := Aside0.mk hB
  clear hB
  have H : (if (s0_13.length : Int) > 0 then (if 0 ≤ (wrap64 ((s0_13.length : Int) - 1)) then (if (wrap64 ((s0_13.length : Int) - 1)) < (s0_13.length : Int) then (some ((rd_T98 s0_13 (wrap64 ((s0_13.length : Int) - 1))).f2, s0_1, s0_2, s0_3, s0_4, s0_5, s0_6, s0_7, s0_9, s0_11, s0_14, s0_15)) else (none)) else (none)) else (some (0, s0_1, s0_2, s0_3, s0_4, s0_5, s0_6, s0_7, s0_9, s0_11, s0_14, s0_15))) = some (r1, r2, r3, r4, r5, r6, r7, r8, r9, r10, r11, r12) := h
  clear h
  by_cases c2 : (s0_13.length : Int) > 0
  · rw [if_pos c2] at H
    have c2b0 : decide (0 < (s0_13.length : Int)) = true := decide_eq_true c2
    have c2b1 : decide (0 < s0_13.length) = true := decide_eq_true (by omega)
    clear c2
    obtain ⟨ji3, hji3⟩ : ∃ j_ : Int, (wrap64 ((s0_13.length : Int) - 1)) = j_ := ⟨_, rfl⟩
    replace H : (if 0 ≤ (ji3) then (if (ji3) < (s0_13.length : Int) then (some ((rd_T98 s0_13 (ji3)).f2, s0_1, s0_2, s0_3, s0_4, s0_5, s0_6, s0_7, s0_9, s0_11, s0_14, s0_15)) else (none)) else (none)) = some (r1, r2, r3, r4, r5, r6, r7, r8, r9, r10, r11, r12) := by first | (rw [hji3] at H; exact H) | (simp only [hji3] at H ⊢; exact H)
    have hji3w : (IntKind.i64.wrap ((s0_13.length : Int) - 1)) = ji3 := (i64_w _).trans hji3
    by_cases c4 : 0 ≤ (ji3)
    · rw [if_pos c4] at H
      have c4b0 : decide (0 ≤ (ji3)) = true := decide_eq_true c4
      clear c4
      by_cases c5 : (ji3) < (s0_13.length : Int)
      · rw [if_pos c5] at H
        have c5b0 : decide ((ji3) < (s0_13.length : Int)) = true := decide_eq_true c5
        clear c5
        simp only [Option.some.injEq, Prod.mk.injEq] at H
        obtain ⟨rfl, rfl, rfl, rfl, rfl, rfl, rfl, rfl, rfl, rfl, rfl, rfl⟩ := H
        obtain ⟨ASz6_0, cSz6_0, ASz6_8, cSz6_8, ASz6_10, cSz6_10, ASz6_12, cSz6_12, ASz6_13, cSz6_13, HGz6, hgz6, HSz6_0, HSz6_8, HSz6_10, HSz6_12, HSz6_13⟩ := HI0.out
        have hcz6_0 := cellS65_0 HGz6
        have hcz6_1 := cellS65_1 HGz6
        have hcz6_2 := cellS65_2 HGz6
        have hcz6_3 := cellS65_3 HGz6
        have hcz6_4 := cellS65_4 HGz6
        have hcz6_5 := cellS65_5 HGz6
        have hcz6_6 := cellS65_6 HGz6
        have hcz6_7 := cellS65_7 HGz6
        have hcz6_8 := cellS65_8 HGz6
        have hcz6_9 := cellS65_9 HGz6
        have hcz6_10 := cellS65_10 HGz6
        have hcz6_11 := cellS65_11 HGz6
        have hcz6_12 := cellS65_12 HGz6
        have hcz6_13 := cellS65_13 HGz6
        have hcz6_14 := cellS65_14 HGz6
        have hcz6_15 := cellS65_15 HGz6
        have hfz6_1 := blk_frozen HGz6 1
        have hfz6_2 := blk_frozen HGz6 2
        have hfz6_3 := blk_frozen HGz6 3
        have hfz6_4 := blk_frozen HGz6 4
        have hfz6_5 := blk_frozen HGz6 5
        have hfz6_6 := blk_frozen HGz6 6
        have hfz6_7 := blk_frozen HGz6 7
        have hfz6_9 := blk_frozen HGz6 9
        have hfz6_11 := blk_frozen HGz6 11
        have hfz6_14 := blk_frozen HGz6 14
        have hfz6_15 := blk_frozen HGz6 15
        clear HGz6 hgz6
        have p103 : 0 ≤ ((ji3) : Int) := of_decide_eq_true (by first | (with_reducible assumption) | assumption)
        have q103 : (ji3) < (s0_13.length : Int) := of_decide_eq_true (by first | (with_reducible assumption) | assumption)
        obtain ⟨ad103, e103, hx103_0, hx103_1, hx103_2, hx103_3, hx103_4, hx103_5, hx103_6, hx103_7⟩ := at_T98 HSz6_13 (ji3) p103 q103
        cases e103
        replace hx103_0 := pw_cell_below HB.out hx103_0
        replace hx103_1 := pw_cell_below HB.out hx103_1
        replace hx103_2 := pw_cell_below HB.out hx103_2
        replace hx103_3 := pw_cell_below HB.out hx103_3
        replace hx103_4 := pw_cell_below HB.out hx103_4
        replace hx103_5 := pw_cell_below HB.out hx103_5
        replace hx103_6 := pw_cell_below HB.out hx103_6
        replace hx103_7 := pw_cell_below HB.out hx103_7
        replace p103 := eq_true p103
        replace q103 := eq_true q103
        go_enter Tryd.func39, Tryd.ntmps39
        go_wp2
        go_ret
        exact ⟨by first | rfl | (simp [errW_none, errW_some] <;> rfl) | (simp only [← hji3]; first | rfl | (simp [errW_none, errW_some] <;> rfl)) | (simp [*, errW_none, errW_some] <;> rfl), by repeat (first | (with_reducible first | exact HI0.out | apply IsS65.alloc | apply IsS65.drewN | apply IsS65.drew | apply IsS65.set_1 | apply IsS65.set_2 | apply IsS65.set_3 | apply IsS65.set_4 | apply IsS65.set_5 | apply IsS65.set_6 | apply IsS65.set_7 | apply IsS65.set_9 | apply IsS65.set_11 | apply IsS65.set_14 | apply IsS65.set_15) | exact HI0.out), by repeat (first | (with_reducible first | exact HB.out | apply below_alloc | apply pw_below_drewN | apply below_drew1 | refine below_set ?_ (IsS65.ge HI0.out)) | exact HB.out), by repeat (first | (with_reducible first | exact HK.out | apply KeepBut.set_ | apply keep_drewN | apply keep_drew | apply keep_alloc) | exact HK.out)⟩
      · rw [if_neg c5] at H
        exact absurd H (by simp)
    · rw [if_neg c4] at H
      exact absurd H (by simp)
  · rw [if_neg c2] at H
    have c2b0 : decide (0 < (s0_13.length : Int)) = false := decide_eq_false c2
    have c2b1 : decide (0 < s0_13.length) = false := decide_eq_false (by omega)
    clear c2
    simp only [Option.some.injEq, Prod.mk.injEq] at H
    obtain ⟨rfl, rfl, rfl, rfl, rfl, rfl, rfl, rfl, rfl, rfl, rfl, rfl⟩ := H
    obtain ⟨ASz7_0, cSz7_0, ASz7_8, cSz7_8, ASz7_10, cSz7_10, ASz7_12, cSz7_12, ASz7_13, cSz7_13, HGz7, hgz7, HSz7_0, HSz7_8, HSz7_10, HSz7_12, HSz7_13⟩ := HI0.out
    have hcz7_0 := cellS65_0 HGz7
    have hcz7_1 := cellS65_1 HGz7
    have hcz7_2 := cellS65_2 HGz7
    have hcz7_3 := cellS65_3 HGz7
    have hcz7_4 := cellS65_4 HGz7
    have hcz7_5 := cellS65_5 HGz7
    have hcz7_6 := cellS65_6 HGz7
    have hcz7_7 := cellS65_7 HGz7
    have hcz7_8 := cellS65_8 HGz7
    have hcz7_9 := cellS65_9 HGz7
    have hcz7_10 := cellS65_10 HGz7
    have hcz7_11 := cellS65_11 HGz7
    have hcz7_12 := cellS65_12 HGz7
    have hcz7_13 := cellS65_13 HGz7
    have hcz7_14 := cellS65_14 HGz7
    have hcz7_15 := cellS65_15 HGz7
    have hfz7_1 := blk_frozen HGz7 1
    have hfz7_2 := blk_frozen HGz7 2
    have hfz7_3 := blk_frozen HGz7 3
    have hfz7_4 := blk_frozen HGz7 4
    have hfz7_5 := blk_frozen HGz7 5
    have hfz7_6 := blk_frozen HGz7 6
    have hfz7_7 := blk_frozen HGz7 7
    have hfz7_9 := blk_frozen HGz7 9
    have hfz7_11 := blk_frozen HGz7 11
    have hfz7_14 := blk_frozen HGz7 14
    have hfz7_15 := blk_frozen HGz7 15
    clear HGz7 hgz7
    go_enter Tryd.func39, Tryd.ntmps39
    go_wp2
    go_ret
    exact ⟨by first | rfl | (simp [errW_none, errW_some] <;> rfl) | (simp [*, errW_none, errW_some] <;> rfl), by repeat (first | (with_reducible first | exact HI0.out | apply IsS65.alloc | apply IsS65.drewN | apply IsS65.drew | apply IsS65.set_1 | apply IsS65.set_2 | apply IsS65.set_3 | apply IsS65.set_4 | apply IsS65.set_5 | apply IsS65.set_6 | apply IsS65.set_7 | apply IsS65.set_9 | apply IsS65.set_11 | apply IsS65.set_14 | apply IsS65.set_15) | exact HI0.out), by repeat (first | (with_reducible first | exact HB.out | apply below_alloc | apply pw_below_drewN | apply below_drew1 | refine below_set ?_ (IsS65.ge HI0.out)) | exact HB.out), by repeat (first | (with_reducible first | exact HK.out | apply KeepBut.set_ | apply keep_drewN | apply keep_drew | apply keep_alloc) | exact HK.out)⟩

-- NOT PRINTED: function 40 (para_splitter_char)

-- NOT PRINTED: function 41 (para_open)

-- NOT PRINTED: function 23 (para_splitter_item)

end Go.Proofs.YtlfpjlpaiaonkaaDoor.P

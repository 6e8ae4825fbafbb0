-- Written by a program of this session (wip/pr.py).
import Derived.Test.YtmhebfohlebaaaaDoorP0
namespace Go.Proofs.YtmhebfohlebaaaaDoor.P
open Go.Proofs.YtmhebfohlebaaaaDoorH Go.RowKit Go.Proofs.YtmhebfohlebaaaaDoorW.PrintWords Go.Proofs.YtmhebfohlebaaaaDoorW.PrintLast Go.Proofs.YtmhebfohlebaaaaDoorW.PrintMore
attribute [local go_sem] max2_int min2_int max_two min_two max_three min_three max_four min_four   -- for this text's walks alone
set_option linter.unusedVariables false
set_option linter.unusedSimpArgs false

/-! ### selvedgeref01_Ranges: function 9 (by hand) -/
def mkRange (r : T3) : S26 := ⟨r.1, r.2.1, r.2.2⟩
def selvedgeref01_Ranges.f : Option (List S26) := some (tabC.map mkRange)
theorem selvedgeref01_Ranges.build (x y c : Int) (w : World) : (Instr.build 26 #[(0, .int .i32 x), (1, .int .i32 y), (2, .int .u8 c)]).run Tryd.prog w = .ok (.agg #[.int .i32 x, .int .i32 y, .int .u8 c]) w := by kernel_rfl
set_option maxRecDepth 100000 in
theorem selvedgeref01_Ranges.calls (r : List S26) (w : World) (h : selvedgeref01_Ranges.f = some r) :
    Calls Tryd.prog 9 #[] w fun e w' => ∃ v0_ : Value, e = .returned (v0_) ∧ Kd.R k26 26 w' w.heap.size (fun _ => True) v0_ r ∧ Below w.heap.size w w' := by
  obtain rfl := Option.some.inj h
  clear h
  go_enter Tryd.func9, Tryd.ntmps9
  iterate 10 go_step
  refine wp_region_lit ?_
  refine wpList_take3 selvedgeref01_Ranges.build 146 1 tabC (frame3 (.slice none 0 0) tabC [undef]) (by kernel_rfl) (by kernel_rfl) ?_
  refine drop_event (v := .slice (some ⟨w.heap.size, 0, none⟩) 146 146) (w1 := w.alloc (.cells (cells3 tabC).toArray 26)) 146 (lt_of_ble (by kernel_rfl)) (d := some 147) (frame3 (.slice none 0 0) tabC [.slice (some ⟨w.heap.size, 0, none⟩) 146 146]) (by kernel_rfl) (by kernel_rfl) (by kernel_rfl) (by kernel_rfl) ?_
  refine drop_event (v := .slice (some ⟨w.heap.size, 0, none⟩) 146 146) (w1 := w.alloc (.cells (cells3 tabC).toArray 26)) 147 (lt_of_ble (by kernel_rfl)) (d := some 0) (frame3 (.slice (some ⟨w.heap.size, 0, none⟩) 146 146) tabC [.slice (some ⟨w.heap.size, 0, none⟩) 146 146]) (by kernel_rfl) (by kernel_rfl) (by kernel_rfl) (by kernel_rfl) ?_
  refine drop_end 148 (Nat.le_of_ble_eq_true (by kernel_rfl)) ?_
  go_step
  go_step
  go_step
  refine bodyPost_ret (v := .slice (some ⟨w.heap.size, 0, none⟩) 146 146) (by kernel_rfl) rfl ⟨_, rfl, ?_, (Below.refl _ _).alloc (Nat.le_refl _) _⟩
  have hlen : (tabC.map mkRange).length = 146 := by rw [List.length_map]; kernel_rfl
  have hr : Reps (k26.M (w.alloc (.cells (cells3 tabC).toArray 26)) w.heap.size (fun k => True ∧ some k ≠ (Value.slice (some ⟨w.heap.size, 0, none⟩) 146 146).ownBlock)) 3 (tabC.map mkRange) (cells3 tabC) :=
    reps_flat mkRange cs3 (fun _ => rfl) (fun x => k26_mkM _ _ _ (mkRange x)) tabC
  have ho := OwnRow.lit (e := 26) w w.heap.size hr (Nat.le_refl _) (by rw [hlen]; decide)
  rw [hlen] at ho
  exact ⟨fun _ _ => trivial, ho⟩

/-! ### props_spans: function 20 (by hand) -/
def spansV : Value := .agg (cells3 tabC).toArray
def spansZ : Array Value := (cells3 (List.replicate 146 (0, 0, 0))).toArray
theorem props_spans.build (x y c : Int) (w : World) : (Instr.build 41 #[(0, .int .i32 x), (1, .int .i32 y), (2, .int .u8 c)]).run Tryd.prog w = .ok (.agg #[.int .i32 x, .int .i32 y, .int .u8 c]) w := by kernel_rfl
set_option maxRecDepth 100000 in
theorem props_spans.calls (w : World) :
    Calls Tryd.prog 20 #[] w fun e w' => e = .returned spansV ∧ Below w.heap.size w w' := by
  go_enter Tryd.func20, Tryd.ntmps20
  go_step
  go_step
  refine wp_region_lit ?_
  refine cons_event (v := .pointer (some ⟨w.heap.size, 0, none⟩)) (w1 := w.alloc (.cells spansZ 42)) (d := some 0) (frame3 (.pointer (some ⟨w.heap.size, 0, none⟩)) [] (List.replicate 147 undef)) (by kernel_rfl) (by kernel_rfl) (by kernel_rfl) (by kernel_rfl) ?_
  go_step
  go_step
  go_step
  go_step
  refine wp_region_lit ?_
  refine wpList_take3 props_spans.build 146 1 tabC (frame3 (.pointer (some ⟨w.heap.size, 0, none⟩)) tabC [undef]) (by kernel_rfl) (by kernel_rfl) ?_
  refine drop_event (v := spansV) (w1 := w.alloc (.cells spansZ 42)) 146 (lt_of_ble (by kernel_rfl)) (d := some 147) (frame3 (.pointer (some ⟨w.heap.size, 0, none⟩)) tabC [spansV]) (by kernel_rfl) (by kernel_rfl) (by kernel_rfl) (by kernel_rfl) ?_
  refine drop_store (w := w.alloc (.cells spansZ 42)) 147 (lt_of_ble (by kernel_rfl)) (d := none) (frame3 (.pointer (some ⟨w.heap.size, 0, none⟩)) tabC [spansV]) (by kernel_rfl) 42 (.tmp 0) (.tmp 147) (by kernel_rfl) w.heap.size (cells3 tabC).toArray (by kernel_rfl) (by kernel_rfl)
    42 spansZ (heap_alloc_new _ _) (by kernel_rfl) (by kernel_rfl) (by kernel_rfl) (by kernel_rfl) (by kernel_rfl) ?_
  refine drop_end 148 (Nat.le_of_ble_eq_true (by kernel_rfl)) ?_
  go_step
  go_step
  go_step
  exact bodyPost_ret (v := spansV) (results_cell_row (p := 0) (ty := 42) rfl _ _ w.heap.size 42 (cells3 tabC).toArray (0, 0) _ (by kernel_rfl) (setRow_heap _ _ _ _ _ _ (heap_alloc_new _ _)) Tryd.underlying42 rfl (by kernel_rfl)) rfl ⟨rfl, below_setRow_new _ _ _ _⟩

/-! ### props_Class: function 10 (by hand) -/
theorem spans_at (k : Nat) (hk : k < 146) (w : World) : (Instr.index 42 spansV (.int .i64 k)).run Tryd.prog w = .ok (.agg #[.int .i32 (tabC.getD k (0, 0, 0)).1, .int .i32 (tabC.getD k (0, 0, 0)).2.1, .int .u8 (tabC.getD k (0, 0, 0)).2.2]) w := by
  have h := run_index_agg (P := Tryd.prog) (sz := 3) (cells3 tabC) .i64 (k : Int) Tryd.underlying42 (by rw [Tryd.underlying41]) (by kernel_rfl) (by omega) (by omega) w
  rw [cells3_seg tabC k (by omega) (by rw [tabC_len]; omega)] at h
  exact h
def props_Class.f (a0 : Int) : Option Int := some (clsOf a0)
set_option maxHeartbeats 1000000 in
set_option maxRecDepth 100000 in
theorem props_Class.calls (a0 : Int) (r : Int) (w : World) (h : props_Class.f a0 = some r) :
    Calls Tryd.prog 10 #[.int .i32 a0] w fun e w' => e = .returned (.int .u8 r) ∧ Below w.heap.size w w' := by
  have h2 : r = clsOf a0 := (Option.some.inj h).symm
  clear h
  have HR := Aside0.mk h2
  clear h2
  have hu := Tryd.underlying41
  go_enter Tryd.func10, Tryd.ntmps10
  go_wp2_with (go_at_call 20; refine (props_spans.calls _).mono ?_; rintro e w1 ⟨rfl, hb⟩; have HB := Aside0.mk hb; clear hb)
  go_loopw [6] (fun i wr => ∃ k : Nat, i = .int .i64 k ∧ k ≤ 146 ∧ Aside0 (clsFrom a0 (tabC.drop k) = r) ∧ Aside0 (Below w.heap.size w wr)) (fun i _ => 146 - (intOf i).toNat)
  case atStart => exact ⟨0, rfl, by omega, ⟨HR.out.symm⟩, HB⟩
  case round =>
    clear HB HR
    obtain ⟨k, rfl, hk, HC, HB⟩ := hrel
    by_cases hlt : k < 146
    · obtain ⟨x, y, c, hidx, hcl⟩ : ∃ x y c : Int, (∀ W, (Instr.index 42 spansV (.int .i64 k)).run Tryd.prog W = .ok (.agg #[.int .i32 x, .int .i32 y, .int .u8 c]) W) ∧ clsFrom a0 (tabC.drop k) = (if a0 < x then 1 else if a0 ≤ y then c else clsFrom a0 (tabC.drop (k + 1))) :=
        ⟨_, _, _, spans_at k hlt, clsFrom_drop a0 tabC k (by rw [tabC_len]; exact hlt)⟩
      rw [hcl] at HC
      clear hcl
      have hltb : decide ((k : Int) < 146) = true := by simp; omega
      by_cases h1 : a0 < x
      · obtain rfl : 1 = r := by have := HC.out; rwa [if_pos h1] at this
        clear HC
        go_wp2
        go_ret
        exact ⟨rfl, below_alloc HB.out _⟩
      · rw [if_neg h1] at HC
        by_cases h2 : a0 ≤ y
        · obtain rfl : c = r := by have := HC.out; rwa [if_pos h2] at this
          clear HC
          go_wp2
          go_ret
          exact ⟨rfl, below_alloc HB.out _⟩
        · rw [if_neg h2] at HC
          go_wp2
          go_roundw
          case measure => simp [intOf]; omega
          case rel => exact ⟨k + 1, by go_num, by omega, HC, ⟨below_alloc HB.out _⟩⟩
    · obtain rfl : k = 146 := by omega
      obtain rfl : 1 = r := HC.out
      clear HC
      go_wp2
      go_ret
      exact ⟨rfl, HB.out⟩

/-! ### selvedgeref01_Class: function 11 -/
mutual
def selvedgeref01_Class.j0 : Nat → Int → Bool → Option (Int)
  | 0, _, _ => none
  | k + 1, x0, x18 => if x18 = true then (some 1) else ((selvedgeref01_Ranges.f).bind fun t101 => (selvedgeref01_Class.l0 k x0 t101 0))
def selvedgeref01_Class.l0 : Nat → Int → List (S26) → Int → Option (Int)
  | 0, _, _, _ => none
  | k + 1, x0, x3, x4 => if x4 < (x3.length : Int) then (if 0 ≤ x4 then (if x0 ≥ ((rd_T26 x3 x4).f0) then (if x0 ≤ ((rd_T26 x3 x4).f1) then (some ((rd_T26 x3 x4).f2)) else (selvedgeref01_Class.l0 k x0 x3 (wrap64 (x4 + 1)))) else (selvedgeref01_Class.l0 k x0 x3 (wrap64 (x4 + 1)))) else (none)) else (some 1)
end
def selvedgeref01_Class.f (k : Nat) (a0 : Int) : Option (Int) := if a0 ≥ 65 then (if a0 ≤ 90 then (selvedgeref01_Class.j0 k a0 true) else (if a0 ≥ 97 then (selvedgeref01_Class.j0 k a0 (decide (a0 ≤ 122))) else (selvedgeref01_Class.j0 k a0 false))) else (if a0 ≥ 97 then (selvedgeref01_Class.j0 k a0 (decide (a0 ≤ 122))) else (selvedgeref01_Class.j0 k a0 false))
theorem selvedgeref01_Class.mono_l : ∀ k, (∀ y0 y1, LeO (selvedgeref01_Class.j0 k y0 y1) (selvedgeref01_Class.j0 (k + 1) y0 y1)) ∧ (∀ y0 y1 y2, LeO (selvedgeref01_Class.l0 k y0 y1 y2) (selvedgeref01_Class.l0 (k + 1) y0 y1 y2))
  | 0 => ⟨fun _ _ r h => by simp [selvedgeref01_Class.j0] at h, fun _ _ _ r h => by simp [selvedgeref01_Class.l0] at h⟩
  | k + 1 => by
    obtain ⟨ih0, ih1⟩ := selvedgeref01_Class.mono_l k
    refine ⟨?_, ?_⟩
    · intro y0 y1
      unfold selvedgeref01_Class.j0
      repeat' first
      | (with_reducible exact ih0 _ _)
      | (with_reducible exact ih1 _ _ _)
      | (with_reducible exact LeO.refl _)
      | (with_reducible exact LeO.none _)
      | (with_reducible refine LeO.ite ?_ ?_)
      | (with_reducible refine LeO.bind ?_ (fun _ => ?_))
      | exact ih0 _ _
      | exact ih1 _ _ _
      | exact LeO.none _
      | refine LeO.ite ?_ ?_
      | refine LeO.bind ?_ (fun _ => ?_)
    · intro y0 y1 y2
      unfold selvedgeref01_Class.l0
      repeat' first
      | (with_reducible exact ih0 _ _)
      | (with_reducible exact ih1 _ _ _)
      | (with_reducible exact LeO.refl _)
      | (with_reducible exact LeO.none _)
      | (with_reducible refine LeO.ite ?_ ?_)
      | (with_reducible refine LeO.bind ?_ (fun _ => ?_))
      | exact ih0 _ _
      | exact ih1 _ _ _
      | exact LeO.none _
      | refine LeO.ite ?_ ?_
      | refine LeO.bind ?_ (fun _ => ?_)
theorem selvedgeref01_Class.mono : ∀ a0 k, LeO (selvedgeref01_Class.f k a0) (selvedgeref01_Class.f (k + 1) a0) := by
  intro a0 k
  obtain ⟨ih0, ih1⟩ := selvedgeref01_Class.mono_l k
  unfold selvedgeref01_Class.f
  repeat' first
      | (with_reducible exact ih0 _ _)
      | (with_reducible exact ih1 _ _ _)
      | (with_reducible exact LeO.refl _)
      | (with_reducible exact LeO.none _)
      | (with_reducible refine LeO.ite ?_ ?_)
      | (with_reducible refine LeO.bind ?_ (fun _ => ?_))
      | exact ih0 _ _
      | exact ih1 _ _ _
      | exact LeO.none _
      | refine LeO.ite ?_ ?_
      | refine LeO.bind ?_ (fun _ => ?_)
set_option maxHeartbeats 8000000 in
set_option maxRecDepth 100000 in
theorem selvedgeref01_Class.calls (k : Nat) (a0 : Int) (r : Int) (w : World) (h : selvedgeref01_Class.f k a0 = some r) :
    Calls Tryd.prog 11 #[.int .i32 a0] w fun e w' => e = .returned (.int .u8 r) ∧ Below w.heap.size w w' := by
  have HB := Aside0.mk (Below.refl w.heap.size w)
  have H : (if a0 ≥ 65 then (if a0 ≤ 90 then (selvedgeref01_Class.j0 k a0 true) else (if a0 ≥ 97 then (selvedgeref01_Class.j0 k a0 (decide (a0 ≤ 122))) else (selvedgeref01_Class.j0 k a0 false))) else (if a0 ≥ 97 then (selvedgeref01_Class.j0 k a0 (decide (a0 ≤ 122))) else (selvedgeref01_Class.j0 k a0 false))) = some r := h
  clear h
  have HC2 := Aside0.mk H
  clear H
  go_enter Tryd.func11, Tryd.ntmps11
  go_upto_region 1 with (fail)
  go_cut [18] (fun v18 wc => ∃ (kq : Nat) (x18_1 : Bool), v18 = .bool x18_1 ∧ Aside0 (selvedgeref01_Class.j0 kq a0 x18_1 = some r) ∧ Aside0 (kq ≤ k) ∧ Aside0 (Below w.heap.size w wc))
  case first =>
    have H := HC2.out
    clear HC2
    by_cases c3 : a0 ≥ 65
    · rw [if_pos c3] at H
      have c3b0 : decide (65 ≤ a0) = true := decide_eq_true c3
      clear c3
      (first | rw [c3b0] | (simp only [i64_w, i32_w]; rw [c3b0]) | skip)
      by_cases c4 : a0 ≤ 90
      · rw [if_pos c4] at H
        have c4b0 : decide (a0 ≤ 90) = true := decide_eq_true c4
        clear c4
        have H' := Aside0.mk H
        clear H
        go_wp2
        go_meet
        case rel => exact ⟨_, (true), (by first | rfl | (simp; done) | (simp [*]; done)), H', ⟨by first | omega | exact Nat.le_refl _⟩, ⟨by repeat (first | (with_reducible first | exact HB.out | apply below_alloc | apply pw_below_drewN | apply below_drew1) | exact HB.out)⟩⟩
      · rw [if_neg c4] at H
        have c4b0 : decide (a0 ≤ 90) = false := decide_eq_false c4
        clear c4
        by_cases c5 : a0 ≥ 97
        · rw [if_pos c5] at H
          have c5b0 : decide (97 ≤ a0) = true := decide_eq_true c5
          clear c5
          have H' := Aside0.mk H
          clear H
          go_wp2
          go_meet
          case rel => exact ⟨_, (decide (a0 ≤ 122)), (by first | rfl | (simp; done) | (simp [*]; done)), H', ⟨by first | omega | exact Nat.le_refl _⟩, ⟨by repeat (first | (with_reducible first | exact HB.out | apply below_alloc | apply pw_below_drewN | apply below_drew1) | exact HB.out)⟩⟩
        · rw [if_neg c5] at H
          have c5b0 : decide (97 ≤ a0) = false := decide_eq_false c5
          clear c5
          have H' := Aside0.mk H
          clear H
          go_wp2
          go_meet
          case rel => exact ⟨_, (false), (by first | rfl | (simp; done) | (simp [*]; done)), H', ⟨by first | omega | exact Nat.le_refl _⟩, ⟨by repeat (first | (with_reducible first | exact HB.out | apply below_alloc | apply pw_below_drewN | apply below_drew1) | exact HB.out)⟩⟩
    · rw [if_neg c3] at H
      have c3b0 : decide (65 ≤ a0) = false := decide_eq_false c3
      clear c3
      (first | rw [c3b0] | (simp only [i64_w, i32_w]; rw [c3b0]) | skip)
      by_cases c6 : a0 ≥ 97
      · rw [if_pos c6] at H
        have c6b0 : decide (97 ≤ a0) = true := decide_eq_true c6
        clear c6
        have H' := Aside0.mk H
        clear H
        go_wp2
        go_meet
        case rel => exact ⟨_, (decide (a0 ≤ 122)), (by first | rfl | (simp; done) | (simp [*]; done)), H', ⟨by first | omega | exact Nat.le_refl _⟩, ⟨by repeat (first | (with_reducible first | exact HB.out | apply below_alloc | apply pw_below_drewN | apply below_drew1) | exact HB.out)⟩⟩
      · rw [if_neg c6] at H
        have c6b0 : decide (97 ≤ a0) = false := decide_eq_false c6
        clear c6
        have H' := Aside0.mk H
        clear H
        go_wp2
        go_meet
        case rel => exact ⟨_, (false), (by first | rfl | (simp; done) | (simp [*]; done)), H', ⟨by first | omega | exact Nat.le_refl _⟩, ⟨by repeat (first | (with_reducible first | exact HB.out | apply below_alloc | apply pw_below_drewN | apply below_drew1) | exact HB.out)⟩⟩
  case rest =>
    clear HC2
    try clear c1
    try clear p2
    try clear c3
    try clear c3b0
    try clear c4
    try clear c4b0
    try clear c5
    try clear c5b0
    try clear c6
    try clear c6b0
    obtain ⟨kq, x18_1, rfl, HA, HJ1, HB⟩ := hcut
    cases kq with
    | zero => exact absurd HA.out (by simp [selvedgeref01_Class.j0])
    | succ kj1 =>
      have H := HA.out
      clear HA
      simp only [selvedgeref01_Class.j0] at H
      by_cases c7 : x18_1 = true
      · subst c7
        have H1 : (some 1) = some r := by rw [if_pos rfl] at H; exact H
        clear H
        have H := H1
        clear H1
        obtain rfl := Option.some.inj H
        go_wp2
        go_ret
        exact ⟨by first | rfl | (simp [errW_none, errW_some] <;> rfl) | (simp [*, errW_none, errW_some] <;> rfl), by repeat (first | (with_reducible first | exact HB.out | apply below_alloc | apply pw_below_drewN | apply below_drew1) | exact HB.out)⟩
      · replace c7 := Bool.eq_false_iff.mpr c7
        subst c7
        have H1 : ((selvedgeref01_Ranges.f).bind fun t101 => (selvedgeref01_Class.l0 kj1 a0 t101 0)) = some r := by rw [if_neg (show ¬ (false = true) by decide)] at H; exact H
        clear H
        have H := H1
        clear H1
        replace H := Option.bind_eq_some_iff.mp H
        obtain ⟨t101, A80, H⟩ := H
        replace H : (selvedgeref01_Class.l0 kj1 a0 t101 0) = some r := H
        have A8 := Aside0.mk A80
        clear A80
        have H' := Aside0.mk H
        clear H
        go_wp2_with (first | ((with_reducible refine gate_callee (f := 9) rfl ?_); refine goesL_ (some 19) rfl rfl Tryd.func9 (by kernel_rfl) rfl #[] rfl (by (try simp only [List.map_toArray, List.map_cons, List.map_nil]); first | done | rfl | (simp only [List.length_drop, List.length_take]; rfl)) ?_; (with_reducible refine (selvedgeref01_Ranges.calls  t101 _ A8.out).mono ?_); rintro e w9 ⟨v102, rfl, ho0, hb⟩; refine ⟨_, rfl, ?_⟩; have n0_ := Aside0.mk (Kd.R_lower ho0 (below_size (by repeat (first | (with_reducible first | exact HB.out | apply below_alloc | apply pw_below_drewN | apply below_drew1) | exact HB.out)))); have n1_ := Aside0.mk (below_step (by repeat (first | (with_reducible first | exact HB.out | apply below_alloc | apply pw_below_drewN | apply below_drew1) | exact HB.out)) hb); clear HB; have HO103 := n0_; have HB := n1_; clear n0_ n1_; (try clear hb); (try clear hb2); (try clear hk); (try clear hi); (try clear ho0)))
        go_loopg [4] kj1 (fun kq v4 w' => ∃ (x4_2 : Int), v4 = .int .i64 x4_2 ∧ Aside0 (selvedgeref01_Class.l0 kq a0 t101 x4_2 = some r) ∧ Aside0 (kq ≤ kj1) ∧ Aside0 (Kd.R k26 26 w' w.heap.size (fun _ => True) v102 t101) ∧ Aside0 (Below w.heap.size w w'))
        case atStart => exact ⟨(0), (by first | rfl | (simp; done) | (simp [*]; done)), H', ⟨Nat.le_refl _⟩, ⟨by (with_reducible repeat (first | apply Kd.R_alloc | apply Kd.R_drewN | apply Kd.R_drew)); exact HO103.out⟩, ⟨by repeat (first | (with_reducible first | exact HB.out | apply below_alloc | apply pw_below_drewN | apply below_drew1) | exact HB.out)⟩⟩
        case round =>
          clear H'
          try clear c1
          try clear p2
          try clear c3
          try clear c3b0
          try clear c4
          try clear c4b0
          try clear c5
          try clear c5b0
          try clear c6
          try clear c6b0
          try clear c7
          try clear c9
          try clear p2
          obtain ⟨x4_2, rfl, HA, HK2, HO_3, HB⟩ := hrel
          cases gk with
          | zero => exact absurd HA.out (by simp [selvedgeref01_Class.l0])
          | succ k2 =>
            have H := HA.out
            clear HA
            simp only [selvedgeref01_Class.l0] at H
            by_cases c10 : x4_2 < (t101.length : Int)
            · rw [if_pos c10] at H
              have c10b0 : decide (x4_2 < (t101.length : Int)) = true := decide_eq_true c10
              clear c10
              by_cases c11 : 0 ≤ x4_2
              · rw [if_pos c11] at H
                have c11b0 : decide (0 ≤ x4_2) = true := decide_eq_true c11
                clear c11
                by_cases c12 : a0 ≥ ((rd_T26 t101 x4_2).f0)
                · rw [if_pos c12] at H
                  have c12b0 : decide (((rd_T26 t101 x4_2).f0) ≤ a0) = true := decide_eq_true c12
                  clear c12
                  by_cases c13 : a0 ≤ ((rd_T26 t101 x4_2).f1)
                  · rw [if_pos c13] at H
                    have c13b0 : decide (a0 ≤ ((rd_T26 t101 x4_2).f1)) = true := decide_eq_true c13
                    clear c13
                    obtain rfl := Option.some.inj H
                    obtain ⟨Ao14, co14, eo14⟩ := Kd.R_slice HO_3.out
                    subst eo14
                    have p104 : 0 ≤ (x4_2 : Int) := of_decide_eq_true (by first | (with_reducible assumption) | assumption)
                    have q104 : x4_2 < (t101.length : Int) := of_decide_eq_true (by first | (with_reducible assumption) | assumption)
                    obtain ⟨ad104, e104, hx104_0, hx104_1, hx104_2⟩ := at_T26 (Kd.R_reads' HO_3.out).2.2 x4_2 p104 q104
                    cases e104
                    replace p104 := eq_true p104
                    replace q104 := eq_true q104
                    have p105 : 0 ≤ (x4_2 : Int) := of_decide_eq_true (by first | (with_reducible assumption) | assumption)
                    have q105 : x4_2 < (t101.length : Int) := of_decide_eq_true (by first | (with_reducible assumption) | assumption)
                    obtain ⟨ad105, e105, hx105_0, hx105_1, hx105_2⟩ := at_T26 (Kd.R_reads' HO_3.out).2.2 x4_2 p105 q105
                    obtain rfl : ad104 = ad105 := (by injection e105)
                    replace p105 := eq_true p105
                    replace q105 := eq_true q105
                    have p106 : 0 ≤ (x4_2 : Int) := of_decide_eq_true (by first | (with_reducible assumption) | assumption)
                    have q106 : x4_2 < (t101.length : Int) := of_decide_eq_true (by first | (with_reducible assumption) | assumption)
                    obtain ⟨ad106, e106, hx106_0, hx106_1, hx106_2⟩ := at_T26 (Kd.R_reads' HO_3.out).2.2 x4_2 p106 q106
                    obtain rfl : ad104 = ad106 := (by injection e106)
                    replace p106 := eq_true p106
                    replace q106 := eq_true q106
                    go_wp2
                    go_ret
                    exact ⟨by first | rfl | (simp [errW_none, errW_some] <;> rfl) | (simp [*, errW_none, errW_some] <;> rfl), by repeat (first | (with_reducible first | exact HB.out | apply below_alloc | apply pw_below_drewN | apply below_drew1) | exact HB.out)⟩
                  · rw [if_neg c13] at H
                    have c13b0 : decide (a0 ≤ ((rd_T26 t101 x4_2).f1)) = false := decide_eq_false c13
                    clear c13
                    have H' := Aside0.mk H
                    clear H
                    obtain ⟨Ao15, co15, eo15⟩ := Kd.R_slice HO_3.out
                    subst eo15
                    have p104 : 0 ≤ (x4_2 : Int) := of_decide_eq_true (by first | (with_reducible assumption) | assumption)
                    have q104 : x4_2 < (t101.length : Int) := of_decide_eq_true (by first | (with_reducible assumption) | assumption)
                    obtain ⟨ad104, e104, hx104_0, hx104_1, hx104_2⟩ := at_T26 (Kd.R_reads' HO_3.out).2.2 x4_2 p104 q104
                    cases e104
                    replace p104 := eq_true p104
                    replace q104 := eq_true q104
                    have p105 : 0 ≤ (x4_2 : Int) := of_decide_eq_true (by first | (with_reducible assumption) | assumption)
                    have q105 : x4_2 < (t101.length : Int) := of_decide_eq_true (by first | (with_reducible assumption) | assumption)
                    obtain ⟨ad105, e105, hx105_0, hx105_1, hx105_2⟩ := at_T26 (Kd.R_reads' HO_3.out).2.2 x4_2 p105 q105
                    obtain rfl : ad104 = ad105 := (by injection e105)
                    replace p105 := eq_true p105
                    replace q105 := eq_true q105
                    go_wp2
                    go_roundg k2
                    case measure => have := HJ1.out; have := HK2.out; omega
                    case rel => exact ⟨(wrap64 (x4_2 + 1)), (by first | rfl | (simp; done) | (simp [*]; done)), H', ⟨by have := HJ1.out; have := HK2.out; omega⟩, ⟨by (with_reducible repeat (first | apply Kd.R_alloc | apply Kd.R_drewN | apply Kd.R_drew)); exact HO_3.out⟩, ⟨by repeat (first | (with_reducible first | exact HB.out | apply below_alloc | apply pw_below_drewN | apply below_drew1) | exact HB.out)⟩⟩
                · rw [if_neg c12] at H
                  have c12b0 : decide (((rd_T26 t101 x4_2).f0) ≤ a0) = false := decide_eq_false c12
                  clear c12
                  have H' := Aside0.mk H
                  clear H
                  obtain ⟨Ao16, co16, eo16⟩ := Kd.R_slice HO_3.out
                  subst eo16
                  have p104 : 0 ≤ (x4_2 : Int) := of_decide_eq_true (by first | (with_reducible assumption) | assumption)
                  have q104 : x4_2 < (t101.length : Int) := of_decide_eq_true (by first | (with_reducible assumption) | assumption)
                  obtain ⟨ad104, e104, hx104_0, hx104_1, hx104_2⟩ := at_T26 (Kd.R_reads' HO_3.out).2.2 x4_2 p104 q104
                  cases e104
                  replace p104 := eq_true p104
                  replace q104 := eq_true q104
                  go_wp2
                  go_roundg k2
                  case measure => have := HJ1.out; have := HK2.out; omega
                  case rel => exact ⟨(wrap64 (x4_2 + 1)), (by first | rfl | (simp; done) | (simp [*]; done)), H', ⟨by have := HJ1.out; have := HK2.out; omega⟩, ⟨by (with_reducible repeat (first | apply Kd.R_alloc | apply Kd.R_drewN | apply Kd.R_drew)); exact HO_3.out⟩, ⟨by repeat (first | (with_reducible first | exact HB.out | apply below_alloc | apply pw_below_drewN | apply below_drew1) | exact HB.out)⟩⟩
              · rw [if_neg c11] at H
                exact absurd H (by simp)
            · rw [if_neg c10] at H
              have c10b0 : decide (x4_2 < (t101.length : Int)) = false := decide_eq_false c10
              clear c10
              obtain rfl := Option.some.inj H
              obtain ⟨Ao17, co17, eo17⟩ := Kd.R_slice HO_3.out
              subst eo17
              go_wp2
              go_ret
              exact ⟨by first | rfl | (simp [errW_none, errW_some] <;> rfl) | (simp [*, errW_none, errW_some] <;> rfl), by repeat (first | (with_reducible first | exact HB.out | apply below_alloc | apply pw_below_drewN | apply below_drew1) | exact HB.out)⟩

/-! ### props_Bracket: function 13 (by hand) -/
def bracketsV : Value := .agg (cells2 tabB).toArray
theorem brackets_at (k : Nat) (hk : k < 23) (w : World) : (Instr.index 46 bracketsV (.int .i64 k)).run Tryd.prog w = .ok (.agg #[.int .i32 (tabB.getD k (0, 0)).1, .int .i32 (tabB.getD k (0, 0)).2]) w := by
  have h := run_index_agg (P := Tryd.prog) (sz := 2) (cells2 tabB) .i64 (k : Int) Tryd.underlying46 (by rw [Tryd.underlying45]) (by kernel_rfl) (by omega) (by omega) w
  rw [cells2_seg tabB k (by omega) (by rw [tabB_len]; omega)] at h
  exact h
def props_Bracket.f (a0 : Int) : Option (Int × Bool × Bool) := some (brkOf a0)
set_option maxHeartbeats 1000000 in
set_option maxRecDepth 100000 in
theorem props_Bracket.calls (a0 : Int) (r1 : Int) (r2 r3 : Bool) (w : World) (h : props_Bracket.f a0 = some (r1, r2, r3)) (hG : LaidW w := by first | exact hG | exact HG.out | exact LaidW.below HG.out (by repeat (first | (with_reducible first | exact HB.out | apply below_alloc | apply pw_below_drewN | apply below_drew1) | exact HB.out))) :
    Calls Tryd.prog 13 #[.int .i32 a0] w fun e w' => e = .returned (.tuple #[.int .i32 r1, .bool r2, .bool r3]) ∧ Below w.heap.size w w' := by
  have h2 : brkOf a0 = (r1, r2, r3) := Option.some.inj h
  clear h
  have HR := Aside0.mk h2
  have HG := Aside0.mk hG
  clear h2 hG
  have hu := Tryd.underlying45
  go_enter Tryd.func13, Tryd.ntmps13
  go_wp2_with (refine wpList_load_laid rfl 46 _ rfl 0 rfl (cells2 tabB) _ HG.out.brackets bracketsV rfl Tryd.underlying46 rfl (by kernel_rfl) ?_)
  go_loopw [8] (fun i wr => ∃ k : Nat, i = .int .i64 k ∧ k ≤ 23 ∧ Aside0 (brkFrom a0 (tabB.drop k) = (r1, r2, r3)) ∧ Aside0 (Below w.heap.size w wr)) (fun i _ => 23 - (intOf i).toNat)
  case atStart => exact ⟨0, rfl, by omega, HR, ⟨Below.refl _ _⟩⟩
  case round =>
    clear HR
    obtain ⟨k, rfl, hk, HC, HB⟩ := hrel
    by_cases hlt : k < 23
    · obtain ⟨x, y, hidx, hcl⟩ : ∃ x y : Int, (∀ W, (Instr.index 46 bracketsV (.int .i64 k)).run Tryd.prog W = .ok (.agg #[.int .i32 x, .int .i32 y]) W) ∧ brkFrom a0 (tabB.drop k) = (if a0 = x ∨ a0 = y then (if y = 9002 then 12297 else y, decide (a0 = x), true) else brkFrom a0 (tabB.drop (k + 1))) :=
        ⟨_, _, brackets_at k hlt, brkFrom_drop a0 tabB k (by rw [tabB_len]; exact hlt)⟩
      rw [hcl] at HC
      clear hcl
      have hltb : decide ((k : Int) < 23) = true := by simp; omega
      by_cases h1 : a0 = x
      · have h3 := HC.out
        rw [if_pos (.inl h1), decide_eq_true h1] at h3
        clear HC
        have c1 : (a0 == x) = true := beq_iff_eq.mpr h1
        have c2 : (a0 != x) = false := bne_eq_false_iff_eq.mpr h1
        clear h1
        by_cases h9 : y = 9002
        · rw [if_pos h9] at h3
          simp only [Prod.mk.injEq] at h3
          obtain ⟨rfl, rfl, rfl⟩ := h3
          have c3 : (y == 9002) = true := beq_iff_eq.mpr h9
          clear h9
          go_wp2
          repeat (go_quiet (fail); try go_wp2)
          go_ret3
          exact ⟨rfl, by repeat (first | (with_reducible first | exact HB.out | apply below_alloc | apply pw_below_drewN | apply below_drew1) | exact HB.out)⟩
        · rw [if_neg h9] at h3
          simp only [Prod.mk.injEq] at h3
          obtain ⟨rfl, rfl, rfl⟩ := h3
          have c3 : (y == 9002) = false := beq_eq_false_iff_ne.mpr h9
          clear h9
          go_wp2
          repeat (go_quiet (fail); try go_wp2)
          go_ret3
          exact ⟨rfl, by repeat (first | (with_reducible first | exact HB.out | apply below_alloc | apply pw_below_drewN | apply below_drew1) | exact HB.out)⟩
      · have c1 : (a0 == x) = false := beq_eq_false_iff_ne.mpr h1
        have c2 : (a0 != x) = true := bne_iff_ne.mpr h1
        by_cases h4 : a0 = y
        · have h3 := HC.out
          rw [if_pos (.inr h4), decide_eq_false h1] at h3
          clear HC h1
          have c4 : (a0 != y) = false := bne_eq_false_iff_eq.mpr h4
          clear h4
          by_cases h9 : y = 9002
          · rw [if_pos h9] at h3
            simp only [Prod.mk.injEq] at h3
            obtain ⟨rfl, rfl, rfl⟩ := h3
            have c3 : (y == 9002) = true := beq_iff_eq.mpr h9
            clear h9
            go_wp2
            repeat (go_quiet (fail); try go_wp2)
            go_ret3
            exact ⟨rfl, by repeat (first | (with_reducible first | exact HB.out | apply below_alloc | apply pw_below_drewN | apply below_drew1) | exact HB.out)⟩
          · rw [if_neg h9] at h3
            simp only [Prod.mk.injEq] at h3
            obtain ⟨rfl, rfl, rfl⟩ := h3
            have c3 : (y == 9002) = false := beq_eq_false_iff_ne.mpr h9
            clear h9
            go_wp2
            repeat (go_quiet (fail); try go_wp2)
            go_ret3
            exact ⟨rfl, by repeat (first | (with_reducible first | exact HB.out | apply below_alloc | apply pw_below_drewN | apply below_drew1) | exact HB.out)⟩
        · rw [if_neg (fun h => h.elim h1 h4)] at HC
          have c4 : (a0 != y) = true := bne_iff_ne.mpr h4
          clear h1 h4
          go_wp2
          go_roundw
          case measure => simp [intOf]; omega
          case rel => exact ⟨k + 1, by go_num, by omega, HC, ⟨below_alloc HB.out _⟩⟩
    · obtain rfl : k = 23 := by omega
      have h3 : (0, false, false) = (r1, r2, r3) := HC.out
      simp only [Prod.mk.injEq] at h3
      obtain ⟨rfl, rfl, rfl⟩ := h3
      clear HC
      go_wp2
      go_ret3
      exact ⟨rfl, HB.out⟩

/-! ### props_other: function 22 -/
def props_other.l0 : Nat → Int → List (S45) → Int → Int → Option (Int × Bool)
  | 0, _, _, _, _ => none
  | k + 1, x1, x8, x9, x10 => if x10 < x9 then (if 0 ≤ x10 then (if x10 < (x8.length : Int) then (if x1 = ((rd_T45 x8 x10).f0) then (some ((rd_T45 x8 x10).f1, true)) else (if x1 = ((rd_T45 x8 x10).f1) then (some ((rd_T45 x8 x10).f0, true)) else (props_other.l0 k x1 x8 x9 (wrap64 (x10 + 1))))) else (none)) else (none)) else (some (x1, false))
def props_other.f (k : Nat) (l0 : List (S45)) (a1 : Int) : Option (Int × Bool) := props_other.l0 k a1 l0 (l0.length : Int) 0
theorem props_other.mono_l : ∀ k, (∀ y0 y1 y2 y3, LeO (props_other.l0 k y0 y1 y2 y3) (props_other.l0 (k + 1) y0 y1 y2 y3))
  | 0 => fun _ _ _ _ r h => by simp [props_other.l0] at h
  | k + 1 => by
    have ih0 := props_other.mono_l k
    · intro y0 y1 y2 y3
      unfold props_other.l0
      repeat' first
      | (with_reducible exact ih0 _ _ _ _)
      | (with_reducible exact LeO.refl _)
      | (with_reducible exact LeO.none _)
      | (with_reducible refine LeO.ite ?_ ?_)
      | (with_reducible refine LeO.bind ?_ (fun _ => ?_))
      | exact ih0 _ _ _ _
      | exact LeO.none _
      | refine LeO.ite ?_ ?_
      | refine LeO.bind ?_ (fun _ => ?_)
theorem props_other.mono : ∀ a0 a1 k, LeO (props_other.f k a0 a1) (props_other.f (k + 1) a0 a1) := by
  intro a0 a1 k
  have ih0 := props_other.mono_l k
  unfold props_other.f
  repeat' first
      | (with_reducible exact ih0 _ _ _ _)
      | (with_reducible exact LeO.refl _)
      | (with_reducible exact LeO.none _)
      | (with_reducible refine LeO.ite ?_ ?_)
      | (with_reducible refine LeO.bind ?_ (fun _ => ?_))
      | exact ih0 _ _ _ _
      | exact LeO.none _
      | refine LeO.ite ?_ ?_
      | refine LeO.bind ?_ (fun _ => ?_)
set_option maxHeartbeats 8000000 in
set_option maxRecDepth 100000 in
theorem props_other.calls (k : Nat) (A0 : Option Addr) (c0 : Nat) (l0 : List (S45)) (a1 : Int) (r1 : Int) (r2 : Bool) (w : World) (hr0 : Kd.C k45 w A0 l0.length l0) (hc0 : l0.length ≤ c0) (h : props_other.f k l0 a1 = some (r1, r2)) :
    Calls Tryd.prog 22 #[.slice A0 l0.length c0, .int .i32 a1] w fun e w' => e = .returned (.tuple #[.int .i32 r1, .bool r2]) ∧ Below w.heap.size w w' := by
  have hu45 := Tryd.underlying45
  have HR0 := Aside0.mk hr0
  have HC0 := Aside0.mk hc0
  clear hr0 hc0
  have HB := Aside0.mk (Below.refl w.heap.size w)
  have H : (props_other.l0 k a1 l0 (l0.length : Int) 0) = some (r1, r2) := h
  clear h
  have H' := Aside0.mk H
  clear H
  go_enter Tryd.func22, Tryd.ntmps22
  go_wp2
  go_loopg [10] k (fun kq v10 w' => ∃ (x10_1 : Int), v10 = .int .i64 x10_1 ∧ Aside0 (props_other.l0 kq a1 l0 (l0.length : Int) x10_1 = some (r1, r2)) ∧ Aside0 (kq ≤ k) ∧ Aside0 (Below w.heap.size w w'))
  case atStart => exact ⟨(0), (by first | rfl | (simp; done) | (simp [*]; done)), H', ⟨Nat.le_refl _⟩, ⟨by repeat (first | (with_reducible first | exact HB.out | apply below_alloc | apply pw_below_drewN | apply below_drew1) | exact HB.out)⟩⟩
  case round =>
    clear H'
    try clear c2
    try clear p2
    obtain ⟨x10_1, rfl, HA, HK1, HB⟩ := hrel
    cases gk with
    | zero => exact absurd HA.out (by simp [props_other.l0])
    | succ k1 =>
      have H := HA.out
      clear HA
      simp only [props_other.l0] at H
      by_cases c3 : x10_1 < (l0.length : Int)
      · rw [if_pos c3] at H
        have c3b0 : decide (x10_1 < (l0.length : Int)) = true := decide_eq_true c3
        clear c3
        by_cases c4 : 0 ≤ x10_1
        · rw [if_pos c4] at H
          have c4b0 : decide (0 ≤ x10_1) = true := decide_eq_true c4
          clear c4
          by_cases c5 : x10_1 < (l0.length : Int)
          · rw [if_pos c5] at H
            have c5b0 : decide (x10_1 < (l0.length : Int)) = true := decide_eq_true c5
            clear c5
            by_cases c6 : a1 = ((rd_T45 l0 x10_1).f0)
            · rw [if_pos c6] at H
              have c6b0 : (a1 == ((rd_T45 l0 x10_1).f0)) = true := beq_iff_eq.mpr c6
              have c6b1 : (a1 != ((rd_T45 l0 x10_1).f0)) = false := bne_eq_false_iff_eq.mpr c6
              clear c6
              simp only [Option.some.injEq, Prod.mk.injEq] at H
              obtain ⟨rfl, rfl⟩ := H
              have p107 : 0 ≤ (x10_1 : Int) := of_decide_eq_true (by first | (with_reducible assumption) | assumption)
              have q107 : x10_1 < (l0.length : Int) := of_decide_eq_true (by first | (with_reducible assumption) | assumption)
              obtain ⟨ad107, e107, hx107_0, hx107_1⟩ := at_T45 HR0.out x10_1 p107 q107
              cases e107
              replace hx107_0 := (HB.out.cell (World.block_lt_of_cell? w _ hx107_0)).trans hx107_0
              replace hx107_1 := (HB.out.cell (World.block_lt_of_cell? w _ hx107_1)).trans hx107_1
              replace p107 := eq_true p107
              replace q107 := eq_true q107
              go_wp2_with (first | ((with_reducible refine gate_dst (N := 7) rfl ?_); refine box_event ?hg (N := 7) ?hd (cs := #[.int .i32 0, .int .i32 0]) (t := 45) ?hr ?_; (case hd => rfl); (case hg => rfl); (case hr => first | (go_simp; done) | (go_simp; rfl)); intro gb108 hg w7 hbox hb; have n0_ := Aside0.mk (below_step (by repeat (first | (with_reducible first | exact HB.out | apply below_alloc | apply pw_below_drewN | apply below_drew1) | exact HB.out)) hb); have n1_ := Aside0.mk (hbox); have n2_ := Aside0.mk ((by rw [hg]; exact (below_size (by repeat (first | (with_reducible first | exact HB.out | apply below_alloc | apply pw_below_drewN | apply below_drew1) | exact HB.out))) : w.heap.size ≤ gb108)); have n3_ := Aside0.mk ((by rw [hg]; exact (below_size (by repeat (first | (with_reducible first | exact HB.out | apply below_alloc | apply pw_below_drewN | apply below_drew1) | exact HB.out))) : w.heap.size ≤ gb108)); clear HB; have HB := n0_; have BK108 := n1_; have GW108 := n2_; have GE108 := n3_; clear n0_ n1_ n2_ n3_; clear hb hbox hg; have hcz8_0 : w7.cell? ⟨gb108, 0, none⟩ = some (.int .i32 0) := (blk_cell BK108.out 0).trans rfl; have hcz8_1 : w7.cell? ⟨gb108, 1, none⟩ = some (.int .i32 0) := (blk_cell BK108.out 1).trans rfl; have hfz8_0 := blk_frozen BK108.out 0; have hfz8_1 := blk_frozen BK108.out 1))
              go_ret2
              exact ⟨by first | rfl | (simp [errW_none, errW_some] <;> rfl) | (simp [*, errW_none, errW_some] <;> rfl), by repeat (first | (with_reducible first | exact HB.out | apply below_alloc | apply pw_below_drewN | apply below_drew1 | refine below_set ?_ GE108.out) | exact HB.out)⟩
            · rw [if_neg c6] at H
              have c6b0 : (a1 == ((rd_T45 l0 x10_1).f0)) = false := beq_eq_false_iff_ne.mpr c6
              have c6b1 : (a1 != ((rd_T45 l0 x10_1).f0)) = true := bne_iff_ne.mpr c6
              by_cases c9 : a1 = ((rd_T45 l0 x10_1).f1)
              · rw [if_pos c9] at H
                have c9b0 : (a1 == ((rd_T45 l0 x10_1).f1)) = true := beq_iff_eq.mpr c9
                have c9b1 : (a1 != ((rd_T45 l0 x10_1).f1)) = false := bne_eq_false_iff_eq.mpr c9
                clear c9
                simp only [Option.some.injEq, Prod.mk.injEq] at H
                obtain ⟨rfl, rfl⟩ := H
                have p107 : 0 ≤ (x10_1 : Int) := of_decide_eq_true (by first | (with_reducible assumption) | assumption)
                have q107 : x10_1 < (l0.length : Int) := of_decide_eq_true (by first | (with_reducible assumption) | assumption)
                obtain ⟨ad107, e107, hx107_0, hx107_1⟩ := at_T45 HR0.out x10_1 p107 q107
                cases e107
                replace hx107_0 := (HB.out.cell (World.block_lt_of_cell? w _ hx107_0)).trans hx107_0
                replace hx107_1 := (HB.out.cell (World.block_lt_of_cell? w _ hx107_1)).trans hx107_1
                replace p107 := eq_true p107
                replace q107 := eq_true q107
                go_wp2_with (first | ((with_reducible refine gate_dst (N := 7) rfl ?_); refine box_event ?hg (N := 7) ?hd (cs := #[.int .i32 0, .int .i32 0]) (t := 45) ?hr ?_; (case hd => rfl); (case hg => rfl); (case hr => first | (go_simp; done) | (go_simp; rfl)); intro gb108 hg w10 hbox hb; have n0_ := Aside0.mk (below_step (by repeat (first | (with_reducible first | exact HB.out | apply below_alloc | apply pw_below_drewN | apply below_drew1) | exact HB.out)) hb); have n1_ := Aside0.mk (hbox); have n2_ := Aside0.mk ((by rw [hg]; exact (below_size (by repeat (first | (with_reducible first | exact HB.out | apply below_alloc | apply pw_below_drewN | apply below_drew1) | exact HB.out))) : w.heap.size ≤ gb108)); have n3_ := Aside0.mk ((by rw [hg]; exact (below_size (by repeat (first | (with_reducible first | exact HB.out | apply below_alloc | apply pw_below_drewN | apply below_drew1) | exact HB.out))) : w.heap.size ≤ gb108)); clear HB; have HB := n0_; have BK108 := n1_; have GW108 := n2_; have GE108 := n3_; clear n0_ n1_ n2_ n3_; clear hb hbox hg; have hcz11_0 : w10.cell? ⟨gb108, 0, none⟩ = some (.int .i32 0) := (blk_cell BK108.out 0).trans rfl; have hcz11_1 : w10.cell? ⟨gb108, 1, none⟩ = some (.int .i32 0) := (blk_cell BK108.out 1).trans rfl; have hfz11_0 := blk_frozen BK108.out 0; have hfz11_1 := blk_frozen BK108.out 1))
                go_ret2
                exact ⟨by first | rfl | (simp [errW_none, errW_some] <;> rfl) | (simp [*, errW_none, errW_some] <;> rfl), by repeat (first | (with_reducible first | exact HB.out | apply below_alloc | apply pw_below_drewN | apply below_drew1 | refine below_set ?_ GE108.out) | exact HB.out)⟩
              · rw [if_neg c9] at H
                have c9b0 : (a1 == ((rd_T45 l0 x10_1).f1)) = false := beq_eq_false_iff_ne.mpr c9
                have c9b1 : (a1 != ((rd_T45 l0 x10_1).f1)) = true := bne_iff_ne.mpr c9
                have H' := Aside0.mk H
                clear H
                have p107 : 0 ≤ (x10_1 : Int) := of_decide_eq_true (by first | (with_reducible assumption) | assumption)
                have q107 : x10_1 < (l0.length : Int) := of_decide_eq_true (by first | (with_reducible assumption) | assumption)
                obtain ⟨ad107, e107, hx107_0, hx107_1⟩ := at_T45 HR0.out x10_1 p107 q107
                cases e107
                replace hx107_0 := (HB.out.cell (World.block_lt_of_cell? w _ hx107_0)).trans hx107_0
                replace hx107_1 := (HB.out.cell (World.block_lt_of_cell? w _ hx107_1)).trans hx107_1
                replace p107 := eq_true p107
                replace q107 := eq_true q107
                go_wp2_with (first | ((with_reducible refine gate_dst (N := 7) rfl ?_); refine box_event ?hg (N := 7) ?hd (cs := #[.int .i32 0, .int .i32 0]) (t := 45) ?hr ?_; (case hd => rfl); (case hg => rfl); (case hr => first | (go_simp; done) | (go_simp; rfl)); intro gb108 hg w12 hbox hb; have n0_ := Aside0.mk (below_step (by repeat (first | (with_reducible first | exact HB.out | apply below_alloc | apply pw_below_drewN | apply below_drew1) | exact HB.out)) hb); have n1_ := Aside0.mk (hbox); have n2_ := Aside0.mk ((by rw [hg]; exact (below_size (by repeat (first | (with_reducible first | exact HB.out | apply below_alloc | apply pw_below_drewN | apply below_drew1) | exact HB.out))) : w.heap.size ≤ gb108)); have n3_ := Aside0.mk ((by rw [hg]; exact (below_size (by repeat (first | (with_reducible first | exact HB.out | apply below_alloc | apply pw_below_drewN | apply below_drew1) | exact HB.out))) : w.heap.size ≤ gb108)); clear HB; have HB := n0_; have BK108 := n1_; have GW108 := n2_; have GE108 := n3_; clear n0_ n1_ n2_ n3_; clear hb hbox hg; have hcz13_0 : w12.cell? ⟨gb108, 0, none⟩ = some (.int .i32 0) := (blk_cell BK108.out 0).trans rfl; have hcz13_1 : w12.cell? ⟨gb108, 1, none⟩ = some (.int .i32 0) := (blk_cell BK108.out 1).trans rfl; have hfz13_0 := blk_frozen BK108.out 0; have hfz13_1 := blk_frozen BK108.out 1))
                go_roundg k1
                case measure => have := HK1.out; omega
                case rel => exact ⟨(wrap64 (x10_1 + 1)), (by first | rfl | (simp; done) | (simp [*]; done)), H', ⟨by have := HK1.out; omega⟩, ⟨by repeat (first | (with_reducible first | exact HB.out | apply below_alloc | apply pw_below_drewN | apply below_drew1 | refine below_set ?_ GE108.out) | exact HB.out)⟩⟩
          · rw [if_neg c5] at H
            exact absurd H (by simp)
        · rw [if_neg c4] at H
          exact absurd H (by simp)
      · rw [if_neg c3] at H
        have c3b0 : decide (x10_1 < (l0.length : Int)) = false := decide_eq_false c3
        clear c3
        simp only [Option.some.injEq, Prod.mk.injEq] at H
        obtain ⟨rfl, rfl⟩ := H
        go_wp2
        go_ret2
        exact ⟨by first | rfl | (simp [errW_none, errW_some] <;> rfl) | (simp [*, errW_none, errW_some] <;> rfl), by repeat (first | (with_reducible first | exact HB.out | apply below_alloc | apply pw_below_drewN | apply below_drew1) | exact HB.out)⟩

/-! ### props_Mirror: function 15 (by hand) -/
def mkTwo (r : Int × Int) : S45 := ⟨r.1, r.2⟩
theorem rd_two (T : List (Int × Int)) (i : Nat) (h : i < T.length) : rd_T45 (T.map mkTwo) (i : Int) = mkTwo (T.getD i (0, 0)) := by
  unfold rd_T45
  rw [List.getD_eq_getElem?_getD, List.getElem?_map, List.getD_eq_getElem?_getD, Int.toNat_natCast, List.getElem?_eq_getElem h]
  rfl
theorem other_from (r : Int) (T : List (Int × Int)) (hT : T.length ≤ 1000) (d : Nat) : ∀ (i : Nat) (k : Nat), i ≤ T.length → T.length - i = d → d < k →
    props_other.l0 k r (T.map mkTwo) (T.length : Int) (i : Int) = some (match othFrom r (T.drop i) with | some m => (m, true) | none => (r, false)) := by
  induction d with
  | zero =>
    intro i k hi hd hk
    obtain ⟨k, rfl⟩ : ∃ m, k = m + 1 := ⟨k - 1, by omega⟩
    simp only [props_other.l0]
    rw [if_neg (by omega), List.drop_eq_nil_of_le (by omega)]
    rfl
  | succ d ih =>
    intro i k hi hd hk
    obtain ⟨k, rfl⟩ : ∃ m, k = m + 1 := ⟨k - 1, by omega⟩
    have hlt : i < T.length := by omega
    have hw : wrap64 ((i : Int) + 1) = ((i + 1 : Nat) : Int) := by unfold wrap64; omega
    have h := ih (i + 1) k (by omega) (by omega) (by omega)
    simp only [props_other.l0]
    rw [if_pos (by omega), if_pos (by omega), if_pos (by rw [List.length_map]; omega), rd_two T i hlt, hw, h, List.drop_eq_getElem_cons hlt, List.getD_eq_getElem?_getD, List.getElem?_eq_getElem hlt]
    simp only [Option.getD_some, mkTwo, othFrom]
    by_cases h1 : r = T[i].1
    · simp [h1]
    · by_cases h2 : r = T[i].2
      · have h3 : ¬ T[i].2 = T[i].1 := fun e => h1 (h2.trans e)
        simp [h2, h3]
      · simp [h1, h2]
theorem other_of (r : Int) (T : List (Int × Int)) (hT : T.length ≤ 1000) : props_other.f 1001 (T.map mkTwo) r = some (match othFrom r T with | some m => (m, true) | none => (r, false)) := by
  unfold props_other.f
  rw [List.length_map]
  exact other_from r T hT T.length 0 1001 (by omega) (by omega) (by omega)
def props_Mirror.f (a0 : Int) : Option (Int × Bool) := some (mirOf a0)
set_option maxHeartbeats 1000000 in
set_option maxRecDepth 100000 in
theorem props_Mirror.calls (a0 : Int) (r1 : Int) (r2 : Bool) (w : World) (h : props_Mirror.f a0 = some (r1, r2)) (hG : LaidW w := by first | exact hG | exact HG.out | exact LaidW.below HG.out (by repeat (first | (with_reducible first | exact HB.out | apply below_alloc | apply pw_below_drewN | apply below_drew1) | exact HB.out))) :
    Calls Tryd.prog 15 #[.int .i32 a0] w fun e w' => e = .returned (.tuple #[.int .i32 r1, .bool r2]) ∧ Below w.heap.size w w' := by
  have h2 : mirOf a0 = (r1, r2) := Option.some.inj h
  clear h
  have HR := Aside0.mk h2
  have HG := Aside0.mk hG
  clear h2 hG
  have ob := other_of a0 tabB (by rw [tabB_len]; decide)
  have om := other_of a0 tabM (by rw [tabM_len]; decide)
  have hB : Kd.C k45 w (some ⟨0, 0, none⟩) (tabB.map mkTwo).length (tabB.map mkTwo) := by
    rw [List.length_map]; exact C_of_laid mkTwo cs2 (fun _ => rfl) (fun x => k45_mk w (mkTwo x)) tabB HG.out.brackets (by rw [tabB_len]; decide)
  have hM : ∀ W, LaidW W → Kd.C k45 W (some ⟨1, 0, none⟩) (tabM.map mkTwo).length (tabM.map mkTwo) := fun W hW => by
    rw [List.length_map]; exact C_of_laid mkTwo cs2 (fun _ => rfl) (fun x => k45_mk W (mkTwo x)) tabM hW.mirrors (by rw [tabM_len]; decide)
  have lB : (tabB.map mkTwo).length = 23 := by rw [List.length_map]; exact tabB_len
  have lM : (tabM.map mkTwo).length = 7 := by rw [List.length_map]; exact tabM_len
  have c1 := fun (m : Int) (b : Bool) (hh : props_other.f 1001 (tabB.map mkTwo) a0 = some (m, b)) => props_other.calls 1001 (some ⟨0, 0, none⟩) 23 (tabB.map mkTwo) a0 m b w hB (by rw [lB]; decide) hh
  have c2 := fun (W : World) (hW : LaidW W) (m : Int) (b : Bool) (hh : props_other.f 1001 (tabM.map mkTwo) a0 = some (m, b)) => props_other.calls 1001 (some ⟨1, 0, none⟩) 7 (tabM.map mkTwo) a0 m b W (hM W hW) (by rw [lM]; decide) hh
  rw [lB] at c1
  rw [lM] at c2
  have C1 := Aside0.mk c1
  have C2 := Aside0.mk c2
  clear c1 c2 lB lM hB hM
  cases eb : othFrom a0 tabB with
  | some m =>
    rw [eb] at ob
    have hr := HR.out
    unfold mirOf at hr
    rw [eb] at hr
    simp only [Prod.mk.injEq] at hr
    obtain ⟨rfl, rfl⟩ := hr
    have OB := Aside0.mk ob
    clear ob om HR eb
    go_enter Tryd.func15, Tryd.ntmps15
    go_wp2_with (go_at_call 22; refine (C1.out _ _ OB.out).mono ?_; rintro e w1 ⟨rfl, hb⟩; have HB := Aside0.mk hb; clear hb)
    go_ret2
    exact ⟨rfl, HB.out⟩
  | none =>
    rw [eb] at ob
    have OB := Aside0.mk ob
    clear ob
    cases em : othFrom a0 tabM with
    | some m =>
      rw [em] at om
      have hr := HR.out
      unfold mirOf at hr
      rw [eb, em] at hr
      simp only [Prod.mk.injEq] at hr
      obtain ⟨rfl, rfl⟩ := hr
      have OM := Aside0.mk om
      clear om HR eb em
      go_enter Tryd.func15, Tryd.ntmps15
      go_wp2_with (first | (go_at_call 22; (with_reducible refine (C1.out _ _ OB.out).mono ?_); rintro e w1 ⟨rfl, hb⟩; have HB := Aside0.mk hb; clear hb) | (go_at_call 22; (with_reducible refine (C2.out _ (HG.out.below HB.out) _ _ OM.out).mono ?_); rintro e w2 ⟨rfl, hb⟩; have HB2 := Aside0.mk hb; clear hb))
      go_ret2
      exact ⟨rfl, below_step HB.out HB2.out⟩
    | none =>
      rw [em] at om
      have hr := HR.out
      unfold mirOf at hr
      rw [eb, em] at hr
      simp only [Prod.mk.injEq] at hr
      obtain ⟨rfl, rfl⟩ := hr
      have OM := Aside0.mk om
      clear om HR eb em
      go_enter Tryd.func15, Tryd.ntmps15
      go_wp2_with (first | (go_at_call 22; (with_reducible refine (C1.out _ _ OB.out).mono ?_); rintro e w1 ⟨rfl, hb⟩; have HB := Aside0.mk hb; clear hb) | (go_at_call 22; (with_reducible refine (C2.out _ (HG.out.below HB.out) _ _ OM.out).mono ?_); rintro e w2 ⟨rfl, hb⟩; have HB2 := Aside0.mk hb; clear hb))
      go_ret2
      exact ⟨rfl, below_step HB.out HB2.out⟩

/-! ### props_Space: function 17 -/
def props_Space.f (a0 : Int) : Option (Bool) := if a0 = 9 then (some true) else (if a0 = 10 then (some true) else (if a0 = 12 then (some true) else (if a0 = 13 then (some true) else (if a0 = 32 then (some true) else (some false)))))
set_option maxHeartbeats 8000000 in
set_option maxRecDepth 100000 in
theorem props_Space.calls (a0 : Int) (r : Bool) (w : World) (h : props_Space.f a0 = some r) :
    Calls Tryd.prog 17 #[.int .i32 a0] w fun e w' => e = .returned (.bool r) ∧ Drawn0 w w' := by
  have H : (if a0 = 9 then (some true) else (if a0 = 10 then (some true) else (if a0 = 12 then (some true) else (if a0 = 13 then (some true) else (if a0 = 32 then (some true) else (some false)))))) = some r := h
  clear h
  by_cases c2 : a0 = 9
  · rw [if_pos c2] at H
    have c2b0 : (a0 == 9) = true := beq_iff_eq.mpr c2
    have c2b1 : (a0 != 9) = false := bne_eq_false_iff_eq.mpr c2
    clear c2
    obtain rfl := Option.some.inj H
    go_enter Tryd.func17, Tryd.ntmps17
    go_wp2
    go_ret
    exact ⟨by first | rfl | (simp; done) | (simp [*]; done), by repeat (first | exact Drawn0.refl _ | apply Drawn0.step)⟩
  · rw [if_neg c2] at H
    have c2b0 : (a0 == 9) = false := beq_eq_false_iff_ne.mpr c2
    have c2b1 : (a0 != 9) = true := bne_iff_ne.mpr c2
    by_cases c3 : a0 = 10
    · rw [if_pos c3] at H
      have c3b0 : (a0 == 10) = true := beq_iff_eq.mpr c3
      have c3b1 : (a0 != 10) = false := bne_eq_false_iff_eq.mpr c3
      clear c3
      obtain rfl := Option.some.inj H
      go_enter Tryd.func17, Tryd.ntmps17
      go_wp2
      go_ret
      exact ⟨by first | rfl | (simp; done) | (simp [*]; done), by repeat (first | exact Drawn0.refl _ | apply Drawn0.step)⟩
    · rw [if_neg c3] at H
      have c3b0 : (a0 == 10) = false := beq_eq_false_iff_ne.mpr c3
      have c3b1 : (a0 != 10) = true := bne_iff_ne.mpr c3
      by_cases c4 : a0 = 12
      · rw [if_pos c4] at H
        have c4b0 : (a0 == 12) = true := beq_iff_eq.mpr c4
        have c4b1 : (a0 != 12) = false := bne_eq_false_iff_eq.mpr c4
        clear c4
        obtain rfl := Option.some.inj H
        go_enter Tryd.func17, Tryd.ntmps17
        go_wp2
        go_ret
        exact ⟨by first | rfl | (simp; done) | (simp [*]; done), by repeat (first | exact Drawn0.refl _ | apply Drawn0.step)⟩
      · rw [if_neg c4] at H
        have c4b0 : (a0 == 12) = false := beq_eq_false_iff_ne.mpr c4
        have c4b1 : (a0 != 12) = true := bne_iff_ne.mpr c4
        by_cases c5 : a0 = 13
        · rw [if_pos c5] at H
          have c5b0 : (a0 == 13) = true := beq_iff_eq.mpr c5
          have c5b1 : (a0 != 13) = false := bne_eq_false_iff_eq.mpr c5
          clear c5
          obtain rfl := Option.some.inj H
          go_enter Tryd.func17, Tryd.ntmps17
          go_wp2
          go_ret
          exact ⟨by first | rfl | (simp; done) | (simp [*]; done), by repeat (first | exact Drawn0.refl _ | apply Drawn0.step)⟩
        · rw [if_neg c5] at H
          have c5b0 : (a0 == 13) = false := beq_eq_false_iff_ne.mpr c5
          have c5b1 : (a0 != 13) = true := bne_iff_ne.mpr c5
          by_cases c6 : a0 = 32
          · rw [if_pos c6] at H
            have c6b0 : (a0 == 32) = true := beq_iff_eq.mpr c6
            have c6b1 : (a0 != 32) = false := bne_eq_false_iff_eq.mpr c6
            clear c6
            obtain rfl := Option.some.inj H
            go_enter Tryd.func17, Tryd.ntmps17
            go_wp2
            go_ret
            exact ⟨by first | rfl | (simp; done) | (simp [*]; done), by repeat (first | exact Drawn0.refl _ | apply Drawn0.step)⟩
          · rw [if_neg c6] at H
            have c6b0 : (a0 == 32) = false := beq_eq_false_iff_ne.mpr c6
            have c6b1 : (a0 != 32) = true := bne_iff_ne.mpr c6
            obtain rfl := Option.some.inj H
            go_enter Tryd.func17, Tryd.ntmps17
            go_wp2
            go_ret
            exact ⟨by first | rfl | (simp; done) | (simp [*]; done), by repeat (first | exact Drawn0.refl _ | apply Drawn0.step)⟩

end Go.Proofs.YtmhebfohlebaaaaDoor.P

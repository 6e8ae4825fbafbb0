import Derived.Test.YtgfkbijmchoolaaDoorSh
import Derived.Test.YtgfkbijmchoolaaDoorP0
namespace Go.Proofs.YtgfkbijmchoolaaDoor.P
open Go.Proofs.YtgfkbijmchoolaaDoorH Go.Proofs.YtgfkbijmchoolaaDoorSh Go.RowKit Go.Proofs.YtgfkbijmchoolaaDoorW.PrintWords Go.Proofs.YtgfkbijmchoolaaDoorW.PrintLast Go.Proofs.YtgfkbijmchoolaaDoorW.PrintMore
attribute [local go_sem] max2_int min2_int max_two min_two max_three min_three max_four min_four
set_option linter.unusedVariables false
set_option linter.unusedSimpArgs false
def slices_Max_uint8_uint8.l0 : Nat → List Int → Int → Int → Option (Int)
 | 0, _, _, _ => none
 | k + 1, x0, x3, x4 => if x4 < (x0.length : Int) then (if 0 ≤ x4 then (slices_Max_uint8_uint8.l0 k x0 (mx x3 (rd x0 x4)) (wrap64 (x4 + 1))) else (none)) else (some x3)
def slices_Max_uint8_uint8.f (k : Nat) (l0 : List Int) : Option (Int) := if (l0.length : Int) < 1 then (none) else (if 0 < (l0.length : Int) then (slices_Max_uint8_uint8.l0 k l0 (rd l0 0) 1) else (none))
theorem slices_Max_uint8_uint8.mono_l : ∀ k, (∀ y0 y1 y2, LeO (slices_Max_uint8_uint8.l0 k y0 y1 y2) (slices_Max_uint8_uint8.l0 (k + 1) y0 y1 y2))
 | 0 => fun _ _ _ r h => by simp [slices_Max_uint8_uint8.l0] at h
 | k + 1 => by
  have ih0 := slices_Max_uint8_uint8.mono_l k
  ·intro y0 y1 y2
   unfold slices_Max_uint8_uint8.l0
   repeat' first
   | (with_reducible exact ih0 _ _ _)
   | (with_reducible exact LeO.refl _)
   | (with_reducible exact LeO.none _)
   | (with_reducible refine LeO.ite ?_ ?_)
   | (with_reducible refine LeO.bind ?_ (fun _ => ?_))
   | exact ih0 _ _ _
   | exact LeO.none _
   | refine LeO.ite ?_ ?_
   | refine LeO.bind ?_ (fun _ => ?_)
theorem slices_Max_uint8_uint8.mono : ∀ a0 k, LeO (slices_Max_uint8_uint8.f k a0) (slices_Max_uint8_uint8.f (k + 1) a0) := by
 intro a0 k
 have ih0 := slices_Max_uint8_uint8.mono_l k
 unfold slices_Max_uint8_uint8.f
 repeat' first
   | (with_reducible exact ih0 _ _ _)
   | (with_reducible exact LeO.refl _)
   | (with_reducible exact LeO.none _)
   | (with_reducible refine LeO.ite ?_ ?_)
   | (with_reducible refine LeO.bind ?_ (fun _ => ?_))
   | exact ih0 _ _ _
   | exact LeO.none _
   | refine LeO.ite ?_ ?_
   | refine LeO.bind ?_ (fun _ => ?_)
set_option maxHeartbeats 80000000 in
set_option maxRecDepth 100000 in
theorem slices_Max_uint8_uint8.calls (k : Nat) (A0 : Option Addr) (c0 : Nat) (l0 : List Int) (r : Int) (w : World) (hr0 : Kd.C (Kd.int .u8) w A0 l0.length l0) (hc0 : l0.length ≤ c0) (h : slices_Max_uint8_uint8.f k l0 = some r) :
  Calls Tryd.prog 35 #[.slice A0 l0.length c0] w fun e w' => e = .returned (.int .u8 r) ∧ Below w.heap.size w w' := by
 have HR0 := Aside0.mk hr0; have HC0 := Aside0.mk hc0; clear hr0 hc0
 have HB := Aside0.mk (Below.refl w.heap.size w)
 have H : (if (l0.length : Int) < 1 then (none) else (if 0 < (l0.length : Int) then (slices_Max_uint8_uint8.l0 k l0 (rd l0 0) 1) else (none))) = some r := h
 clear h; by_cases c2 : (l0.length : Int) < 1
 ·rw [if_pos c2] at H
  exact absurd H (by simp)
 ·rw [if_neg c2] at H; have c2b0 : decide ((l0.length : Int) < 1) = false := decide_eq_false c2
  have c2b1 : decide (l0.length < 1) = false := decide_eq_false (by omega)
  clear c2; by_cases c3 : 0 < (l0.length : Int)
  ·rw [if_pos c3] at H; have c3b0 : decide (0 < (l0.length : Int)) = true := decide_eq_true c3
   have c3b1 : decide (0 < l0.length) = true := decide_eq_true (by omega)
   clear c3
   have H' := Aside0.mk H
   clear H
   have p101 : 0 ≤ (0 : Int) := (by omega)
   have q101 : 0 < (l0.length : Int) := of_decide_eq_true (by first | (with_reducible assumption) | assumption)
   obtain ⟨ad101, e101, hx101_0⟩ := Kd.at_int HR0.out 0 p101 q101
   cases e101
   have qi101 : (0 < l0.length) = True := eq_true (by omega)
   (try rw [show ((0 : Int)).toNat = 0 from rfl] at hx101_0)
   (try rw [Addr.add_zero'] at hx101_0)
   replace p101 := eq_true p101; replace q101 := eq_true q101
   go_enter Tryd.func35, Tryd.ntmps35
   go_wp2
   go_loopg [3, 4] k (fun kq v3 v4 w' => ∃ (x3_1 : Int) (x4_1 : Int), v3 = .int .u8 x3_1 ∧ v4 = .int .i64 x4_1 ∧ Aside0 (slices_Max_uint8_uint8.l0 kq l0 x3_1 x4_1 = some r) ∧ Aside0 (kq ≤ k) ∧ Aside0 (Below w.heap.size w w'))
   case atStart => exact ⟨(rd l0 0), (1), (by first | rfl | (simp; done) | (simp [*]; done)), (by first | rfl | (simp; done) | (simp [*]; done)), H', ⟨Nat.le_refl _⟩, ⟨BB HB⟩⟩
   case round =>
    clear H'
    (try clear p1); (try clear q1); (try clear hx1); (try clear qi1); (try clear c2); (try clear c2b0); (try clear c2b1); (try clear p2); (try clear c3); (try clear c3b0); (try clear c3b1); (try clear hx101_0); (try clear p101); (try clear q101)
    obtain ⟨x3_1, x4_1, rfl, rfl, HA, HK1, HB⟩ := hrel
    cases gk with
    | zero => exact absurd HA.out (by simp [slices_Max_uint8_uint8.l0])
    | succ k1 =>
     have H := HA.out
     clear HA
     simp only [slices_Max_uint8_uint8.l0] at H
     by_cases c4 : x4_1 < (l0.length : Int)
     ·rw [if_pos c4] at H; have c4b0 : decide (x4_1 < (l0.length : Int)) = true := decide_eq_true c4; clear c4; by_cases c5 : 0 ≤ x4_1
      ·rw [if_pos c5] at H; have c5b0 : decide (0 ≤ x4_1) = true := decide_eq_true c5; clear c5
       obtain ⟨ji6, hji6⟩ : ∃ j_ : Int, (mx x3_1 (rd l0 x4_1)) = j_ := ⟨_, rfl⟩
       replace H : (slices_Max_uint8_uint8.l0 k1 l0 ji6 (wrap64 (x4_1 + 1))) = some r := by first | (rw [hji6] at H; exact H) | (simp only [hji6] at H ⊢; exact H)
       have hji6_ : (if x3_1 < (rd l0 x4_1) then (rd l0 x4_1) else x3_1) = ji6 := hji6
       have H' := Aside0.mk H
       clear H
       have p102 : 0 ≤ (x4_1 : Int) := of_decide_eq_true (by first | (with_reducible assumption) | assumption)
       have q102 : x4_1 < (l0.length : Int) := of_decide_eq_true (by first | (with_reducible assumption) | assumption)
       obtain ⟨ad102, e102, hx102_0⟩ := Kd.at_int HR0.out x4_1 p102 q102
       obtain rfl : ad101 = ad102 := (by injection e102)
       replace hx102_0 := (HB.out.cell (World.block_lt_of_cell? w _ hx102_0)).trans hx102_0
       replace p102 := eq_true p102; replace q102 := eq_true q102
       go_wp2
       go_roundg k1
       case measure => have := HK1.out; omega
       case rel => exact ⟨(ji6), (wrap64 (x4_1 + 1)), (by first | rfl | (simp; done) | (simp only [← hji6] <;> (first | rfl | simp)) | (simp [*]; done)), (by first | rfl | (simp; done) | (simp [*]; done)), H', ⟨by have := HK1.out; omega⟩, ⟨BB HB⟩⟩
      ·rw [if_neg c5] at H
       exact absurd H (by simp)
     ·rw [if_neg c4] at H; have c4b0 : decide (x4_1 < (l0.length : Int)) = false := decide_eq_false c4; clear c4; obtain rfl := Option.some.inj H
      go_wp2
      go_ret
      exact ⟨FF, BB HB⟩
  ·rw [if_neg c3] at H
   exact absurd H (by simp)
def order_right.f (k : Nat) (l0 : List Int) : Option (Int) := if (l0.length : Int) > 65536 then (some 3) else (if (l0.length : Int) > 0 then ((slices_Max_uint8_uint8.f k l0).bind fun t103 => (if t103 > 126 then (some 2) else (some 0))) else (some 0))
theorem order_right.mono : ∀ a0 k, LeO (order_right.f k a0) (order_right.f (k + 1) a0) := by
 intro a0 k
 unfold order_right.f
 repeat' first
   | (with_reducible exact slices_Max_uint8_uint8.mono _ _)
   | (with_reducible exact LeO.refl _)
   | (with_reducible exact LeO.none _)
   | (with_reducible refine LeO.ite ?_ ?_)
   | (with_reducible refine LeO.bind ?_ (fun _ => ?_))
   | exact slices_Max_uint8_uint8.mono _ _
   | exact LeO.none _
   | refine LeO.ite ?_ ?_
   | refine LeO.bind ?_ (fun _ => ?_)
set_option maxHeartbeats 80000000 in
set_option maxRecDepth 100000 in
theorem order_right.calls (k : Nat) (A0 : Option Addr) (c0 : Nat) (l0 : List Int) (r : Int) (w : World) (hr0 : Kd.C (Kd.int .u8) w A0 l0.length l0) (hc0 : l0.length ≤ c0) (h : order_right.f k l0 = some r) :
  Calls Tryd.prog 25 #[.slice A0 l0.length c0] w fun e w' => e = .returned (.int .i64 r) ∧ Below w.heap.size w w' := by
 have HR0 := Aside0.mk hr0; have HC0 := Aside0.mk hc0; clear hr0 hc0
 have HB := Aside0.mk (Below.refl w.heap.size w)
 have H : (if (l0.length : Int) > 65536 then (some 3) else (if (l0.length : Int) > 0 then ((slices_Max_uint8_uint8.f k l0).bind fun t103 => (if t103 > 126 then (some 2) else (some 0))) else (some 0))) = some r := h
 clear h; by_cases c2 : (l0.length : Int) > 65536
 ·rw [if_pos c2] at H; have c2b0 : decide (65536 < (l0.length : Int)) = true := decide_eq_true c2
  have c2b1 : decide (65536 < l0.length) = true := decide_eq_true (by omega)
  clear c2; obtain rfl := Option.some.inj H
  go_enter Tryd.func25, Tryd.ntmps25
  go_wp2
  go_ret
  exact ⟨FF, BB HB⟩
 ·rw [if_neg c2] at H; have c2b0 : decide (65536 < (l0.length : Int)) = false := decide_eq_false c2
  have c2b1 : decide (65536 < l0.length) = false := decide_eq_false (by omega)
  clear c2; by_cases c3 : (l0.length : Int) > 0
  ·rw [if_pos c3] at H; have c3b0 : decide (0 < (l0.length : Int)) = true := decide_eq_true c3
   have c3b1 : decide (0 < l0.length) = true := decide_eq_true (by omega)
   clear c3; replace H := Option.bind_eq_some_iff.mp H; obtain ⟨t103, A40, H⟩ := H
   replace H : (if t103 > 126 then (some 2) else (some 0)) = some r := H
   have A4 := Aside0.mk A40; clear A40; by_cases c5 : t103 > 126
   ·rw [if_pos c5] at H; have c5b0 : decide (126 < t103) = true := decide_eq_true c5; clear c5; obtain rfl := Option.some.inj H
    go_enter Tryd.func25, Tryd.ntmps25
    go_wp2_with (first | (go_at_call 35; (with_reducible refine (slices_Max_uint8_uint8.calls k _ _ l0 t103 _ ?side1 ?side2 A4.out).mono ?_); (case side1 => repeat (first | exact HR0.out | (with_reducible refine Kd.C_alloc ?_ _) | (with_reducible refine Kd.C_drewN ?_ _) | (with_reducible refine Kd.C_drew ?_))); (case side2 => exact HC0.out); rintro e w6 ⟨rfl, hb⟩; have n0_ := Aside0.mk (below_step (BB HB) hb); clear HB; have HB := n0_; clear n0_; (try clear hb); (try clear hb2); (try clear hk); (try clear hi)))
    go_ret
    exact ⟨FF, BB HB⟩
   ·rw [if_neg c5] at H; have c5b0 : decide (126 < t103) = false := decide_eq_false c5; clear c5; obtain rfl := Option.some.inj H
    go_enter Tryd.func25, Tryd.ntmps25
    go_wp2_with (first | (go_at_call 35; (with_reducible refine (slices_Max_uint8_uint8.calls k _ _ l0 t103 _ ?side1 ?side2 A4.out).mono ?_); (case side1 => repeat (first | exact HR0.out | (with_reducible refine Kd.C_alloc ?_ _) | (with_reducible refine Kd.C_drewN ?_ _) | (with_reducible refine Kd.C_drew ?_))); (case side2 => exact HC0.out); rintro e w7 ⟨rfl, hb⟩; have n0_ := Aside0.mk (below_step (BB HB) hb); clear HB; have HB := n0_; clear n0_; (try clear hb); (try clear hb2); (try clear hk); (try clear hi)))
    go_ret
    exact ⟨FF, BB HB⟩
  ·rw [if_neg c3] at H; have c3b0 : decide (0 < (l0.length : Int)) = false := decide_eq_false c3
   have c3b1 : decide (0 < l0.length) = false := decide_eq_false (by omega)
   clear c3; obtain rfl := Option.some.inj H
   go_enter Tryd.func25, Tryd.ntmps25
   go_wp2
   go_ret
   exact ⟨FF, BB HB⟩
def slices_Clone_uint8_uint8.f (l0 : List Int) : Option (List Int) := if l0.length < 140737488355328 then some l0 else none
set_option maxHeartbeats 80000000 in
set_option maxRecDepth 100000 in
theorem slices_Clone_uint8_uint8.calls (A0 : Option Addr) (c0 : Nat) (l0 : List Int) (r : List Int) (w : World) (hr0 : Kd.C (Kd.int .u8) w A0 l0.length l0) (hc0 : l0.length ≤ c0) (h : slices_Clone_uint8_uint8.f l0 = some r) :
  Calls Tryd.prog 26 #[.slice A0 l0.length c0] w fun e w' => ∃ v0_ : Value, e = .returned (v0_) ∧ Kd.R (Kd.int .u8) 5 w' w.heap.size (fun _ => True) v0_ r ∧ Below w.heap.size w w' := by
 have h2 : l0.length < 140737488355328 ∧ l0 = r := by
  unfold slices_Clone_uint8_uint8.f at h
  split at h
  ·rename_i hl; exact ⟨hl, Option.some.inj h⟩
  ·cases h
 obtain ⟨hlim, rfl⟩ := h2
 clear h
 cases A0 with
 | none =>
  have hz : l0 = [] := by
   cases l0 with
   | nil => rfl
   | cons x l => obtain ⟨ad, e, _⟩ := hr0.2.2 (by simp); cases e
  subst hz
  clear hr0 hc0 hlim
  have heq := fun wx => Lib.run_eql_slice_nil (P := Tryd.prog) wx 23 5 none 0 c0 0 0 Tryd.underlying23
  go_enter Tryd.func26, Tryd.ntmps26
  go_wp2
  go_ret
  exact ⟨_, rfl, Kd.R_nil _ _ _ _ _, Below.refl _ _⟩
 | some ad =>
  have HR0 := Aside0.mk hr0; have LMc2 := Aside0.mk hlim; clear hr0 hc0 hlim
  have HB := Aside0.mk (Below.refl w.heap.size w)
  have heq := fun wx => Lib.run_eql_slice_nil (P := Tryd.prog) wx 23 5 (some ad) l0.length c0 0 0 Tryd.underlying23
  go_enter Tryd.func26, Tryd.ntmps26
  go_wp2_with (first | ((with_reducible refine gate_dst (N := 5) rfl ?_); refine Kd.R_lit (Kd.int .u8) _ 5 ?hg (N := 5) ?hd (xs := ([] : List Int)) (inner := []) (ok := fun _ => True) (okp := fun _ => True) ?hr ?hp (fun _ hk => hk) trivial (Below.refl _ _) (Nat.le_refl _) (by simp) ?_; (case hd => rfl); (case hg => rfl); (case hr => first | (go_simp; done) | (go_simp; rfl)); (case hp => exact (Reps.none _ _)); intro v102 w3 ho4 hb hg_ hnew_; clear hg_ hnew_; have n0_ := Aside0.mk (Kd.R_lower ho4 (below_size (BB HB))); have n1_ := Aside0.mk (below_step (BB HB) hb); clear HB; have HO103 := n0_; have HB := n1_; clear n0_ n1_; clear hb ho4) | ((with_reducible refine gate_builtin (b := .append) (xs := #[.tmp 5, .tmp 6]) rfl ?_); at_builtin; refine Kd.R_append_rows (Kd.int .u8) (w0 := w) w.heap.size rfl (.tmp 5) (.tmp 6) 23 5 (.int .u8 0) 1 rfl Tryd.underlying23 info5 rfl (by decide) (by omega) v102 [] l0 _ _ _ (fun _ => True) (fun _ => False) rfl rfl ?aO ?aR (fun _ _ h => h) (fun _ h => h.elim) ?aF ?aB ?aS ?aL ?_; (case aR => repeat (first | exact (Kd.C_below HR0.out HB.out) | (with_reducible refine Kd.C_alloc ?_ _) | (with_reducible refine Kd.C_drewN ?_ _) | (with_reducible refine Kd.C_drew ?_))); (case aB => exact (BB HB)); (case aF => exact (fun _ _ => trivial)); (case aO => exact (RR HO103)); (case aS => exact (below_size (BB HB))); (case aL => have := LMc2.out; simp only [List.length_nil]; omega); intro v105 w5 ho hb hg hat; rw [List.nil_append] at ho; have n0_ := Aside0.mk (hb); have n1_ := Aside0.mk (ho); clear HB; clear HO103; have HB := n0_; have HO106 := n1_; clear n0_ n1_; clear ho hb hg hat))
  go_ret
  exact ⟨_, by first | rfl | (simp; done) | (simp [*]; done), RR HO106, BB HB⟩
def spansV : Value := .agg (cells3 tabC).toArray
def spansZ : Array Value := (cells3 (List.replicate 146 (0, 0, 0))).toArray
theorem props_spans.build (x y c : Int) (w : World) : (Instr.build 54 #[(0, .int .i32 x), (1, .int .i32 y), (2, .int .u8 c)]).run Tryd.prog w = .ok (.agg #[.int .i32 x, .int .i32 y, .int .u8 c]) w := by kernel_rfl
set_option maxRecDepth 100000 in
theorem props_spans.calls (w : World) :
  Calls Tryd.prog 36 #[] w fun e w' => e = .returned spansV ∧ Below w.heap.size w w' := by
 go_enter Tryd.func36, Tryd.ntmps36
 go_step
 go_step
 refine wp_region_lit ?_
 refine cons_event (v := .pointer (some ⟨w.heap.size, 0, none⟩)) (w1 := w.alloc (.cells spansZ 55)) (d := some 0) (frame3 (.pointer (some ⟨w.heap.size, 0, none⟩)) [] (List.replicate 147 undef)) (by kernel_rfl) (by kernel_rfl) (by kernel_rfl) (by kernel_rfl) ?_
 go_step
 go_step
 go_step
 go_step
 refine wp_region_lit ?_
 refine wpList_take3 props_spans.build 146 1 tabC (frame3 (.pointer (some ⟨w.heap.size, 0, none⟩)) tabC [undef]) (by kernel_rfl) (by kernel_rfl) ?_
 refine drop_event (v := spansV) (w1 := w.alloc (.cells spansZ 55)) 146 (lt_of_ble (by kernel_rfl)) (d := some 147) (frame3 (.pointer (some ⟨w.heap.size, 0, none⟩)) tabC [spansV]) (by kernel_rfl) (by kernel_rfl) (by kernel_rfl) (by kernel_rfl) ?_
 refine drop_store (w := w.alloc (.cells spansZ 55)) 147 (lt_of_ble (by kernel_rfl)) (d := none) (frame3 (.pointer (some ⟨w.heap.size, 0, none⟩)) tabC [spansV]) (by kernel_rfl) 55 (.tmp 0) (.tmp 147) (by kernel_rfl) w.heap.size (cells3 tabC).toArray (by kernel_rfl) (by kernel_rfl)
  55 spansZ (heap_alloc_new _ _) (by kernel_rfl) (by kernel_rfl) (by kernel_rfl) (by kernel_rfl) (by kernel_rfl) ?_
 refine drop_end 148 (Nat.le_of_ble_eq_true (by kernel_rfl)) ?_
 go_step
 go_step
 go_step
 exact bodyPost_ret (v := spansV) (results_cell_row (p := 0) (ty := 55) rfl _ _ w.heap.size 55 (cells3 tabC).toArray (0, 0) _ (by kernel_rfl) (setRow_heap _ _ _ _ _ _ (heap_alloc_new _ _)) Tryd.underlying55 rfl (by kernel_rfl)) rfl ⟨rfl, below_setRow_new _ _ _ _⟩
theorem spans_at (k : Nat) (hk : k < 146) (w : World) : (Instr.index 55 spansV (.int .i64 k)).run Tryd.prog w = .ok (.agg #[.int .i32 (tabC.getD k (0, 0, 0)).1, .int .i32 (tabC.getD k (0, 0, 0)).2.1, .int .u8 (tabC.getD k (0, 0, 0)).2.2]) w := by
 have h := run_index_agg (P := Tryd.prog) (sz := 3) (cells3 tabC) .i64 (k : Int) Tryd.underlying55 (by rw [Tryd.underlying54]) (by kernel_rfl) (by omega) (by omega) w
 rw [cells3_seg tabC k (by omega) (by rw [tabC_len]; omega)] at h
 exact h
def props_Class.f (a0 : Int) : Option Int := some (clsOf a0)
set_option maxHeartbeats 1000000 in
set_option maxRecDepth 100000 in
theorem props_Class.calls (a0 : Int) (r : Int) (w : World) (h : props_Class.f a0 = some r) :
  Calls Tryd.prog 27 #[.int .i32 a0] w fun e w' => e = .returned (.int .u8 r) ∧ Below w.heap.size w w' := by
 have h2 : r = clsOf a0 := (Option.some.inj h).symm
 clear h; have HR := Aside0.mk h2; clear h2
 have hu := Tryd.underlying54
 go_enter Tryd.func27, Tryd.ntmps27
 go_wp2_with (go_at_call 36; refine (props_spans.calls _).mono ?_; rintro e w1 ⟨rfl, hb⟩; have HB := Aside0.mk hb; clear hb)
 go_loopw [6] (fun i wr => ∃ k : Nat, i = .int .i64 k ∧ k ≤ 146 ∧ Aside0 (clsFrom a0 (tabC.drop k) = r) ∧ Aside0 (Below w.heap.size w wr)) (fun i _ => 146 - (intOf i).toNat)
 case atStart => exact ⟨0, rfl, by omega, ⟨HR.out.symm⟩, HB⟩
 case round =>
  clear HB HR
  obtain ⟨k, rfl, hk, HC, HB⟩ := hrel
  by_cases hlt : k < 146
  ·obtain ⟨x, y, c, hidx, hcl⟩ : ∃ x y c : Int, (∀ W, (Instr.index 55 spansV (.int .i64 k)).run Tryd.prog W = .ok (.agg #[.int .i32 x, .int .i32 y, .int .u8 c]) W) ∧ clsFrom a0 (tabC.drop k) = (if a0 < x then 1 else if a0 ≤ y then c else clsFrom a0 (tabC.drop (k + 1))) :=
    ⟨_, _, _, spans_at k hlt, clsFrom_drop a0 tabC k (by rw [tabC_len]; exact hlt)⟩
   rw [hcl] at HC
   clear hcl
   have hltb : decide ((k : Int) < 146) = true := by simp; omega
   by_cases h1 : a0 < x
   ·obtain rfl : 1 = r := by have := HC.out; rwa [if_pos h1] at this
    clear HC
    go_wp2
    go_ret
    exact ⟨rfl, below_alloc HB.out _⟩
   ·rw [if_neg h1] at HC
    by_cases h2 : a0 ≤ y
    ·obtain rfl : c = r := by have := HC.out; rwa [if_pos h2] at this
     clear HC
     go_wp2
     go_ret
     exact ⟨rfl, below_alloc HB.out _⟩
    ·rw [if_neg h2] at HC
     go_wp2
     go_roundw
     case measure => simp [intOf]; omega
     case rel => exact ⟨k + 1, by go_num, by omega, HC, ⟨below_alloc HB.out _⟩⟩
  ·obtain rfl : k = 146 := by omega
   obtain rfl : 1 = r := HC.out
   clear HC
   go_wp2
   go_ret
   exact ⟨rfl, HB.out⟩
def order_blank.f (a0 : Int) : Option (Bool) := if a0 = 13 then (some true) else (if a0 = 22 then (some true) else (if a0 = 20 then (some true) else (if a0 = 21 then (some true) else (if a0 = 23 then (some true) else (if a0 = 10 then (some true) else (if a0 = 15 then (some true) else (if a0 = 16 then (some true) else (if a0 = 17 then (some true) else (if a0 = 18 then (some true) else (if a0 = 19 then (some true) else (some false)))))))))))
set_option maxHeartbeats 80000000 in
set_option maxRecDepth 100000 in
theorem order_blank.calls (a0 : Int) (r : Bool) (w : World) (h : order_blank.f a0 = some r) :
  Calls Tryd.prog 28 #[.int .u8 a0] w fun e w' => e = .returned (.bool r) ∧ Drawn0 w w' := by
 have H : (if a0 = 13 then (some true) else (if a0 = 22 then (some true) else (if a0 = 20 then (some true) else (if a0 = 21 then (some true) else (if a0 = 23 then (some true) else (if a0 = 10 then (some true) else (if a0 = 15 then (some true) else (if a0 = 16 then (some true) else (if a0 = 17 then (some true) else (if a0 = 18 then (some true) else (if a0 = 19 then (some true) else (some false)))))))))))) = some r := h
 clear h; by_cases c2 : a0 = 13
 ·rw [if_pos c2] at H; have c2b0 : (a0 == 13) = true := beq_iff_eq.mpr c2; have c2b1 : (a0 != 13) = false := bne_eq_false_iff_eq.mpr c2; clear c2; obtain rfl := Option.some.inj H
  go_enter Tryd.func28, Tryd.ntmps28
  go_wp2
  go_ret
  exact ⟨by first | rfl | (simp; done) | (simp [*]; done), by repeat (first | exact Drawn0.refl _ | apply Drawn0.step)⟩
 ·rw [if_neg c2] at H; have c2b0 : (a0 == 13) = false := beq_eq_false_iff_ne.mpr c2; have c2b1 : (a0 != 13) = true := bne_iff_ne.mpr c2; by_cases c3 : a0 = 22
  ·rw [if_pos c3] at H; have c3b0 : (a0 == 22) = true := beq_iff_eq.mpr c3; have c3b1 : (a0 != 22) = false := bne_eq_false_iff_eq.mpr c3; clear c3; obtain rfl := Option.some.inj H
   go_enter Tryd.func28, Tryd.ntmps28
   go_wp2
   go_ret
   exact ⟨by first | rfl | (simp; done) | (simp [*]; done), by repeat (first | exact Drawn0.refl _ | apply Drawn0.step)⟩
  ·rw [if_neg c3] at H; have c3b0 : (a0 == 22) = false := beq_eq_false_iff_ne.mpr c3; have c3b1 : (a0 != 22) = true := bne_iff_ne.mpr c3; by_cases c4 : a0 = 20
   ·rw [if_pos c4] at H; have c4b0 : (a0 == 20) = true := beq_iff_eq.mpr c4; have c4b1 : (a0 != 20) = false := bne_eq_false_iff_eq.mpr c4; clear c4; obtain rfl := Option.some.inj H
    go_enter Tryd.func28, Tryd.ntmps28
    go_wp2
    go_ret
    exact ⟨by first | rfl | (simp; done) | (simp [*]; done), by repeat (first | exact Drawn0.refl _ | apply Drawn0.step)⟩
   ·rw [if_neg c4] at H; have c4b0 : (a0 == 20) = false := beq_eq_false_iff_ne.mpr c4; have c4b1 : (a0 != 20) = true := bne_iff_ne.mpr c4; by_cases c5 : a0 = 21
    ·rw [if_pos c5] at H; have c5b0 : (a0 == 21) = true := beq_iff_eq.mpr c5; have c5b1 : (a0 != 21) = false := bne_eq_false_iff_eq.mpr c5; clear c5; obtain rfl := Option.some.inj H
     go_enter Tryd.func28, Tryd.ntmps28
     go_wp2
     go_ret
     exact ⟨by first | rfl | (simp; done) | (simp [*]; done), by repeat (first | exact Drawn0.refl _ | apply Drawn0.step)⟩
    ·rw [if_neg c5] at H; have c5b0 : (a0 == 21) = false := beq_eq_false_iff_ne.mpr c5; have c5b1 : (a0 != 21) = true := bne_iff_ne.mpr c5; by_cases c6 : a0 = 23
     ·rw [if_pos c6] at H; have c6b0 : (a0 == 23) = true := beq_iff_eq.mpr c6; have c6b1 : (a0 != 23) = false := bne_eq_false_iff_eq.mpr c6; clear c6; obtain rfl := Option.some.inj H
      go_enter Tryd.func28, Tryd.ntmps28
      go_wp2
      go_ret
      exact ⟨by first | rfl | (simp; done) | (simp [*]; done), by repeat (first | exact Drawn0.refl _ | apply Drawn0.step)⟩
     ·rw [if_neg c6] at H; have c6b0 : (a0 == 23) = false := beq_eq_false_iff_ne.mpr c6; have c6b1 : (a0 != 23) = true := bne_iff_ne.mpr c6; by_cases c7 : a0 = 10
      ·rw [if_pos c7] at H; have c7b0 : (a0 == 10) = true := beq_iff_eq.mpr c7; have c7b1 : (a0 != 10) = false := bne_eq_false_iff_eq.mpr c7; clear c7; obtain rfl := Option.some.inj H
       go_enter Tryd.func28, Tryd.ntmps28
       go_wp2
       go_ret
       exact ⟨by first | rfl | (simp; done) | (simp [*]; done), by repeat (first | exact Drawn0.refl _ | apply Drawn0.step)⟩
      ·rw [if_neg c7] at H; have c7b0 : (a0 == 10) = false := beq_eq_false_iff_ne.mpr c7; have c7b1 : (a0 != 10) = true := bne_iff_ne.mpr c7; by_cases c8 : a0 = 15
       ·rw [if_pos c8] at H; have c8b0 : (a0 == 15) = true := beq_iff_eq.mpr c8; have c8b1 : (a0 != 15) = false := bne_eq_false_iff_eq.mpr c8; clear c8; obtain rfl := Option.some.inj H
        go_enter Tryd.func28, Tryd.ntmps28
        go_wp2
        go_ret
        exact ⟨by first | rfl | (simp; done) | (simp [*]; done), by repeat (first | exact Drawn0.refl _ | apply Drawn0.step)⟩
       ·rw [if_neg c8] at H; have c8b0 : (a0 == 15) = false := beq_eq_false_iff_ne.mpr c8; have c8b1 : (a0 != 15) = true := bne_iff_ne.mpr c8; by_cases c9 : a0 = 16
        ·rw [if_pos c9] at H; have c9b0 : (a0 == 16) = true := beq_iff_eq.mpr c9; have c9b1 : (a0 != 16) = false := bne_eq_false_iff_eq.mpr c9; clear c9; obtain rfl := Option.some.inj H
         go_enter Tryd.func28, Tryd.ntmps28
         go_wp2
         go_ret
         exact ⟨by first | rfl | (simp; done) | (simp [*]; done), by repeat (first | exact Drawn0.refl _ | apply Drawn0.step)⟩
        ·rw [if_neg c9] at H; have c9b0 : (a0 == 16) = false := beq_eq_false_iff_ne.mpr c9; have c9b1 : (a0 != 16) = true := bne_iff_ne.mpr c9; by_cases c10 : a0 = 17
         ·rw [if_pos c10] at H; have c10b0 : (a0 == 17) = true := beq_iff_eq.mpr c10; have c10b1 : (a0 != 17) = false := bne_eq_false_iff_eq.mpr c10; clear c10; obtain rfl := Option.some.inj H
          go_enter Tryd.func28, Tryd.ntmps28
          go_wp2
          go_ret
          exact ⟨by first | rfl | (simp; done) | (simp [*]; done), by repeat (first | exact Drawn0.refl _ | apply Drawn0.step)⟩
         ·rw [if_neg c10] at H; have c10b0 : (a0 == 17) = false := beq_eq_false_iff_ne.mpr c10; have c10b1 : (a0 != 17) = true := bne_iff_ne.mpr c10; by_cases c11 : a0 = 18
          ·rw [if_pos c11] at H; have c11b0 : (a0 == 18) = true := beq_iff_eq.mpr c11; have c11b1 : (a0 != 18) = false := bne_eq_false_iff_eq.mpr c11; clear c11; obtain rfl := Option.some.inj H
           go_enter Tryd.func28, Tryd.ntmps28
           go_wp2
           go_ret
           exact ⟨by first | rfl | (simp; done) | (simp [*]; done), by repeat (first | exact Drawn0.refl _ | apply Drawn0.step)⟩
          ·rw [if_neg c11] at H; have c11b0 : (a0 == 18) = false := beq_eq_false_iff_ne.mpr c11; have c11b1 : (a0 != 18) = true := bne_iff_ne.mpr c11; by_cases c12 : a0 = 19
           ·rw [if_pos c12] at H; have c12b0 : (a0 == 19) = true := beq_iff_eq.mpr c12; have c12b1 : (a0 != 19) = false := bne_eq_false_iff_eq.mpr c12; clear c12; obtain rfl := Option.some.inj H
            go_enter Tryd.func28, Tryd.ntmps28
            go_wp2
            go_ret
            exact ⟨by first | rfl | (simp; done) | (simp [*]; done), by repeat (first | exact Drawn0.refl _ | apply Drawn0.step)⟩
           ·rw [if_neg c12] at H; have c12b0 : (a0 == 19) = false := beq_eq_false_iff_ne.mpr c12; have c12b1 : (a0 != 19) = true := bne_iff_ne.mpr c12; obtain rfl := Option.some.inj H
            go_enter Tryd.func28, Tryd.ntmps28
            go_wp2
            go_ret
            exact ⟨by first | rfl | (simp; done) | (simp [*]; done), by repeat (first | exact Drawn0.refl _ | apply Drawn0.step)⟩
end Go.Proofs.YtgfkbijmchoolaaDoor.P

import Derived.Test.YtgfkbijmchoolaaDoorSh
import Derived.Test.YtgfkbijmchoolaaDoorP0
import Derived.Test.YtgfkbijmchoolaaDoorP1
namespace Go.Proofs.YtgfkbijmchoolaaDoor.P
open Go.Proofs.YtgfkbijmchoolaaDoorH Go.Proofs.YtgfkbijmchoolaaDoorSh Go.RowKit Go.Proofs.YtgfkbijmchoolaaDoorW.PrintWords Go.Proofs.YtgfkbijmchoolaaDoorW.PrintLast Go.Proofs.YtgfkbijmchoolaaDoorW.PrintMore
attribute [local go_sem] max2_int min2_int max_two min_two max_three min_three max_four min_four
set_option linter.unusedVariables false
set_option linter.unusedSimpArgs false
mutual
def order_Reset.j0 : Nat → List Int → List Int → Int → Int → Int → Bool → Option (List Int × Int)
 | 0, _, _, _, _, _, _ => none
 | k + 1, x0, x1, x2, x3, x4, x47 => if x47 = true then (some (([] : List Int), 2)) else (if 0 ≤ x3 then (if x3 ≤ x4 then (if x4 ≤ (x1.length : Int) then ((slices_Clone_uint8_uint8.f ((x1.take (x4 : Int).toNat).drop (x3 : Int).toNat)).bind fun t106 => (order_Reset.l0 k x0 x2 x3 t106 true (wrap64 ((t106.length : Int) - 1)))) else (none)) else (none)) else (none))
def order_Reset.l0 : Nat → List Int → Int → Int → List Int → Bool → Int → Option (List Int × Int)
 | 0, _, _, _, _, _, _ => none
 | k + 1, x0, x2, x3, x12, x13, x14 => if x14 ≥ 0 then (if 0 ≤ (wrap64 (x3 + x14)) then (if (wrap64 (x3 + x14)) < (x0.length : Int) then ((props_Class.f (rd x0 (wrap64 (x3 + x14)))).bind fun t110 => (if t110 = 12 then (order_Reset.j2 k x0 x2 x3 x12 x13 x14 t110 (t110 == 12)) else (order_Reset.j2 k x0 x2 x3 x12 x13 x14 t110 (t110 == 11)))) else (none)) else (none)) else (some (x12, 0))
def order_Reset.j2 : Nat → List Int → Int → Int → List Int → Bool → Int → Int → Bool → Option (List Int × Int)
 | 0, _, _, _, _, _, _, _, _ => none
 | k + 1, x0, x2, x3, x12, x13, x14, x15, x68 => if x68 = true then (if 0 ≤ x14 then (if x14 < (x12.length : Int) then (order_Reset.l0 k x0 x2 x3 (x12.set (x14 : Int).toNat x2) true (wrap64 (x14 - 1))) else (none)) else (none)) else ((order_blank.f x15).bind fun t112 => (if t112 = true then (if x13 = true then (if 0 ≤ x14 then (if x14 < (x12.length : Int) then (order_Reset.l0 k x0 x2 x3 (x12.set (x14 : Int).toNat x2) x13 (wrap64 (x14 - 1))) else (none)) else (none)) else (order_Reset.l0 k x0 x2 x3 x12 x13 (wrap64 (x14 - 1)))) else (order_Reset.l0 k x0 x2 x3 x12 false (wrap64 (x14 - 1)))))
end
def order_Reset.f (k : Nat) (l0 : List Int) (l1 : List Int) (a2 : Int) (a3 : Int) (a4 : Int) : Option (List Int × Int) := if (l0.length : Int) > 65536 then (some (([] : List Int), 3)) else (if (l1.length : Int) = (l0.length : Int) then (if a2 > 1 then (order_Reset.j0 k l0 l1 a2 a3 a4 true) else ((order_right.f k l1).bind fun t104 => (if t104 = 0 then (if a3 < 0 then (order_Reset.j0 k l0 l1 a2 a3 a4 true) else (if a3 > a4 then (order_Reset.j0 k l0 l1 a2 a3 a4 true) else (order_Reset.j0 k l0 l1 a2 a3 a4 (decide (a4 > (l0.length : Int)))))) else (order_Reset.j0 k l0 l1 a2 a3 a4 true)))) else (order_Reset.j0 k l0 l1 a2 a3 a4 true))
theorem order_Reset.mono_l : ∀ k, (∀ y0 y1 y2 y3 y4 y5, LeO (order_Reset.j0 k y0 y1 y2 y3 y4 y5) (order_Reset.j0 (k + 1) y0 y1 y2 y3 y4 y5)) ∧ (∀ y0 y1 y2 y3 y4 y5, LeO (order_Reset.l0 k y0 y1 y2 y3 y4 y5) (order_Reset.l0 (k + 1) y0 y1 y2 y3 y4 y5)) ∧ (∀ y0 y1 y2 y3 y4 y5 y6 y7, LeO (order_Reset.j2 k y0 y1 y2 y3 y4 y5 y6 y7) (order_Reset.j2 (k + 1) y0 y1 y2 y3 y4 y5 y6 y7))
 | 0 => ⟨fun _ _ _ _ _ _ r h => by simp [order_Reset.j0] at h, fun _ _ _ _ _ _ r h => by simp [order_Reset.l0] at h, fun _ _ _ _ _ _ _ _ r h => by simp [order_Reset.j2] at h⟩
 | k + 1 => by
  obtain ⟨ih0, ih1, ih2⟩ := order_Reset.mono_l k
  refine ⟨?_, ?_, ?_⟩
  ·intro y0 y1 y2 y3 y4 y5
   unfold order_Reset.j0
   repeat' first
   | (with_reducible exact ih0 _ _ _ _ _ _)
   | (with_reducible exact ih1 _ _ _ _ _ _)
   | (with_reducible exact ih2 _ _ _ _ _ _ _ _)
   | (with_reducible exact order_right.mono _ _)
   | (with_reducible exact LeO.refl _)
   | (with_reducible exact LeO.none _)
   | (with_reducible refine LeO.ite ?_ ?_)
   | (with_reducible refine LeO.bind ?_ (fun _ => ?_))
   | exact ih0 _ _ _ _ _ _
   | exact ih1 _ _ _ _ _ _
   | exact ih2 _ _ _ _ _ _ _ _
   | exact order_right.mono _ _
   | exact LeO.none _
   | refine LeO.ite ?_ ?_
   | refine LeO.bind ?_ (fun _ => ?_)
  ·intro y0 y1 y2 y3 y4 y5
   unfold order_Reset.l0
   repeat' first
   | (with_reducible exact ih0 _ _ _ _ _ _)
   | (with_reducible exact ih1 _ _ _ _ _ _)
   | (with_reducible exact ih2 _ _ _ _ _ _ _ _)
   | (with_reducible exact order_right.mono _ _)
   | (with_reducible exact LeO.refl _)
   | (with_reducible exact LeO.none _)
   | (with_reducible refine LeO.ite ?_ ?_)
   | (with_reducible refine LeO.bind ?_ (fun _ => ?_))
   | exact ih0 _ _ _ _ _ _
   | exact ih1 _ _ _ _ _ _
   | exact ih2 _ _ _ _ _ _ _ _
   | exact order_right.mono _ _
   | exact LeO.none _
   | refine LeO.ite ?_ ?_
   | refine LeO.bind ?_ (fun _ => ?_)
  ·intro y0 y1 y2 y3 y4 y5 y6 y7
   unfold order_Reset.j2
   repeat' first
   | (with_reducible exact ih0 _ _ _ _ _ _)
   | (with_reducible exact ih1 _ _ _ _ _ _)
   | (with_reducible exact ih2 _ _ _ _ _ _ _ _)
   | (with_reducible exact order_right.mono _ _)
   | (with_reducible exact LeO.refl _)
   | (with_reducible exact LeO.none _)
   | (with_reducible refine LeO.ite ?_ ?_)
   | (with_reducible refine LeO.bind ?_ (fun _ => ?_))
   | exact ih0 _ _ _ _ _ _
   | exact ih1 _ _ _ _ _ _
   | exact ih2 _ _ _ _ _ _ _ _
   | exact order_right.mono _ _
   | exact LeO.none _
   | refine LeO.ite ?_ ?_
   | refine LeO.bind ?_ (fun _ => ?_)
theorem order_Reset.mono : ∀ a0 a1 a2 a3 a4 k, LeO (order_Reset.f k a0 a1 a2 a3 a4) (order_Reset.f (k + 1) a0 a1 a2 a3 a4) := by
 intro a0 a1 a2 a3 a4 k
 obtain ⟨ih0, ih1, ih2⟩ := order_Reset.mono_l k
 unfold order_Reset.f
 repeat' first
   | (with_reducible exact ih0 _ _ _ _ _ _)
   | (with_reducible exact ih1 _ _ _ _ _ _)
   | (with_reducible exact ih2 _ _ _ _ _ _ _ _)
   | (with_reducible exact order_right.mono _ _)
   | (with_reducible exact LeO.refl _)
   | (with_reducible exact LeO.none _)
   | (with_reducible refine LeO.ite ?_ ?_)
   | (with_reducible refine LeO.bind ?_ (fun _ => ?_))
   | exact ih0 _ _ _ _ _ _
   | exact ih1 _ _ _ _ _ _
   | exact ih2 _ _ _ _ _ _ _ _
   | exact order_right.mono _ _
   | exact LeO.none _
   | refine LeO.ite ?_ ?_
   | refine LeO.bind ?_ (fun _ => ?_)
set_option maxHeartbeats 80000000 in
set_option maxRecDepth 100000 in
theorem order_Reset.calls (k : Nat) (A0 : Option Addr) (c0 : Nat) (l0 : List Int) (A1 : Option Addr) (c1 : Nat) (l1 : List Int) (a2 : Int) (a3 : Int) (a4 : Int) (r1 : List Int) (r2 : Int) (w : World) (hr0 : Kd.C (Kd.int .i32) w A0 l0.length l0) (hc0 : l0.length ≤ c0) (hr1 : Kd.C (Kd.int .u8) w A1 l1.length l1) (hc1 : l1.length ≤ c1) (h : order_Reset.f k l0 l1 a2 a3 a4 = some (r1, r2)) :
  Calls Tryd.prog 12 #[.slice A0 l0.length c0, .slice A1 l1.length c1, .int .u8 a2, .int .i64 a3, .int .i64 a4] w fun e w' => ∃ v0_ : Value, e = .returned (.tuple #[v0_, .int .i64 r2]) ∧ Kd.R (Kd.int .u8) 5 w' w.heap.size (fun _ => True) v0_ r1 ∧ Below w.heap.size w w' := by
 have HR0 := Aside0.mk hr0; have HC0 := Aside0.mk hc0; clear hr0 hc0; have HR1 := Aside0.mk hr1; have HC1 := Aside0.mk hc1; clear hr1 hc1
 have HB := Aside0.mk (Below.refl w.heap.size w)
 have H : (if (l0.length : Int) > 65536 then (some (([] : List Int), 3)) else (if (l1.length : Int) = (l0.length : Int) then (if a2 > 1 then (order_Reset.j0 k l0 l1 a2 a3 a4 true) else ((order_right.f k l1).bind fun t104 => (if t104 = 0 then (if a3 < 0 then (order_Reset.j0 k l0 l1 a2 a3 a4 true) else (if a3 > a4 then (order_Reset.j0 k l0 l1 a2 a3 a4 true) else (order_Reset.j0 k l0 l1 a2 a3 a4 (decide (a4 > (l0.length : Int)))))) else (order_Reset.j0 k l0 l1 a2 a3 a4 true)))) else (order_Reset.j0 k l0 l1 a2 a3 a4 true))) = some (r1, r2) := h
 clear h; by_cases c6 : (l0.length : Int) > 65536
 ·rw [if_pos c6] at H; have c6b0 : decide (65536 < (l0.length : Int)) = true := decide_eq_true c6
  have c6b1 : decide (65536 < l0.length) = true := decide_eq_true (by omega)
  clear c6
  simp only [Option.some.injEq, Prod.mk.injEq] at H
  obtain ⟨rfl, rfl⟩ := H
  go_enter Tryd.func12, Tryd.ntmps12
  go_wp2
  go_ret2
  exact ⟨_, FF, by first | exact Kd.R_nil _ _ _ _ _ | exact Kd.N_nil _ _ _ _ _ | exact Kd.V_nil _ _ _ _ _ | exact Kd.Q_nil _ _ _ _ _ | exact Kd.S_nil _ _ _ _ _, BB HB⟩
 ·rw [if_neg c6] at H; have c6b0 : decide (65536 < (l0.length : Int)) = false := decide_eq_false c6
  have c6b1 : decide (65536 < l0.length) = false := decide_eq_false (by omega)
  clear c6; have HC7 := Aside0.mk H; clear H
  go_enter Tryd.func12, Tryd.ntmps12
  go_upto_region 3 with (fail)
  go_cut [47] (fun v47 wc => ∃ (kq : Nat) (x47_6 : Bool), v47 = .bool x47_6 ∧ Aside0 (order_Reset.j0 kq l0 l1 a2 a3 a4 x47_6 = some (r1, r2)) ∧ Aside0 (kq ≤ k) ∧ Aside0 (Below w.heap.size w wc))
  case first =>
   have H := HC7.out
   clear HC7; by_cases c8 : (l1.length : Int) = (l0.length : Int)
   ·rw [if_pos c8] at H; have c8b0 : ((l1.length : Int) == (l0.length : Int)) = true := beq_iff_eq.mpr c8; have c8b1 : ((l1.length : Int) != (l0.length : Int)) = false := bne_eq_false_iff_eq.mpr c8
    have c8b2 : (l1.length == l0.length) = true := by first | simpa using c8 | (simp at c8 ⊢; omega)
    clear c8
    (first | rw [c8b0] | (simp only [i64_w, i32_w]; rw [c8b0]) | skip)
    by_cases c9 : a2 > 1
    ·rw [if_pos c9] at H; have c9b0 : decide (1 < a2) = true := decide_eq_true c9; clear c9
     have H' := Aside0.mk H
     clear H
     go_wp2
     go_meet
     case rel => exact ⟨_, (true), (by first | rfl | (simp; done) | (simp [*]; done)), H', ⟨by first | omega | exact Nat.le_refl _⟩, ⟨BB HB⟩⟩
    ·rw [if_neg c9] at H; have c9b0 : decide (1 < a2) = false := decide_eq_false c9; clear c9; replace H := Option.bind_eq_some_iff.mp H; obtain ⟨t104, A100, H⟩ := H
     replace H : (if t104 = 0 then (if a3 < 0 then (order_Reset.j0 k l0 l1 a2 a3 a4 true) else (if a3 > a4 then (order_Reset.j0 k l0 l1 a2 a3 a4 true) else (order_Reset.j0 k l0 l1 a2 a3 a4 (decide (a4 > (l0.length : Int)))))) else (order_Reset.j0 k l0 l1 a2 a3 a4 true)) = some (r1, r2) := H
     have A10 := Aside0.mk A100; clear A100; by_cases c11 : t104 = 0
     ·rw [if_pos c11] at H; have c11b0 : (t104 == 0) = true := beq_iff_eq.mpr c11; have c11b1 : (t104 != 0) = false := bne_eq_false_iff_eq.mpr c11; clear c11; by_cases c12 : a3 < 0
      ·rw [if_pos c12] at H; have c12b0 : decide (a3 < 0) = true := decide_eq_true c12; clear c12
       have H' := Aside0.mk H
       clear H
       go_wp2_with (first | (go_at_call 25; (with_reducible refine (order_right.calls k _ _ l1 t104 _ ?side1 ?side2 A10.out).mono ?_); (case side1 => repeat (first | exact (Kd.C_below HR1.out HB.out) | (with_reducible refine Kd.C_alloc ?_ _) | (with_reducible refine Kd.C_drewN ?_ _) | (with_reducible refine Kd.C_drew ?_))); (case side2 => exact HC1.out); rintro e w13 ⟨rfl, hb⟩; have n0_ := Aside0.mk (below_step (BB HB) hb); clear HB; have HB := n0_; clear n0_; (try clear hb); (try clear hb2); (try clear hk); (try clear hi)))
       go_meet
       case rel => exact ⟨_, (true), (by first | rfl | (simp; done) | (simp [*]; done)), H', ⟨by first | omega | exact Nat.le_refl _⟩, ⟨BB HB⟩⟩
      ·rw [if_neg c12] at H; have c12b0 : decide (a3 < 0) = false := decide_eq_false c12; clear c12; by_cases c14 : a3 > a4
       ·rw [if_pos c14] at H; have c14b0 : decide (a4 < a3) = true := decide_eq_true c14; clear c14
        have H' := Aside0.mk H
        clear H
        go_wp2_with (first | (go_at_call 25; (with_reducible refine (order_right.calls k _ _ l1 t104 _ ?side1 ?side2 A10.out).mono ?_); (case side1 => repeat (first | exact (Kd.C_below HR1.out HB.out) | (with_reducible refine Kd.C_alloc ?_ _) | (with_reducible refine Kd.C_drewN ?_ _) | (with_reducible refine Kd.C_drew ?_))); (case side2 => exact HC1.out); rintro e w15 ⟨rfl, hb⟩; have n0_ := Aside0.mk (below_step (BB HB) hb); clear HB; have HB := n0_; clear n0_; (try clear hb); (try clear hb2); (try clear hk); (try clear hi)))
        go_meet
        case rel => exact ⟨_, (true), (by first | rfl | (simp; done) | (simp [*]; done)), H', ⟨by first | omega | exact Nat.le_refl _⟩, ⟨BB HB⟩⟩
       ·rw [if_neg c14] at H; have c14b0 : decide (a4 < a3) = false := decide_eq_false c14; clear c14
        have H' := Aside0.mk H
        clear H
        go_wp2_with (first | (go_at_call 25; (with_reducible refine (order_right.calls k _ _ l1 t104 _ ?side1 ?side2 A10.out).mono ?_); (case side1 => repeat (first | exact (Kd.C_below HR1.out HB.out) | (with_reducible refine Kd.C_alloc ?_ _) | (with_reducible refine Kd.C_drewN ?_ _) | (with_reducible refine Kd.C_drew ?_))); (case side2 => exact HC1.out); rintro e w16 ⟨rfl, hb⟩; have n0_ := Aside0.mk (below_step (BB HB) hb); clear HB; have HB := n0_; clear n0_; (try clear hb); (try clear hb2); (try clear hk); (try clear hi)))
        go_meet
        case rel => exact ⟨_, (decide (a4 > (l0.length : Int))), (by first | rfl | (simp; done) | (simp [*]; done)), H', ⟨by first | omega | exact Nat.le_refl _⟩, ⟨BB HB⟩⟩
     ·rw [if_neg c11] at H; have c11b0 : (t104 == 0) = false := beq_eq_false_iff_ne.mpr c11; have c11b1 : (t104 != 0) = true := bne_iff_ne.mpr c11
      have H' := Aside0.mk H
      clear H
      go_wp2_with (first | (go_at_call 25; (with_reducible refine (order_right.calls k _ _ l1 t104 _ ?side1 ?side2 A10.out).mono ?_); (case side1 => repeat (first | exact (Kd.C_below HR1.out HB.out) | (with_reducible refine Kd.C_alloc ?_ _) | (with_reducible refine Kd.C_drewN ?_ _) | (with_reducible refine Kd.C_drew ?_))); (case side2 => exact HC1.out); rintro e w17 ⟨rfl, hb⟩; have n0_ := Aside0.mk (below_step (BB HB) hb); clear HB; have HB := n0_; clear n0_; (try clear hb); (try clear hb2); (try clear hk); (try clear hi)))
      go_meet
      case rel => exact ⟨_, (true), (by first | rfl | (simp; done) | (simp [*]; done)), H', ⟨by first | omega | exact Nat.le_refl _⟩, ⟨BB HB⟩⟩
   ·rw [if_neg c8] at H; have c8b0 : ((l1.length : Int) == (l0.length : Int)) = false := beq_eq_false_iff_ne.mpr c8; have c8b1 : ((l1.length : Int) != (l0.length : Int)) = true := bne_iff_ne.mpr c8
    have c8b2 : (l1.length == l0.length) = false := by first | simpa using c8 | (simp at c8 ⊢; omega)
    (first | rw [c8b0] | (simp only [i64_w, i32_w]; rw [c8b0]) | skip)
    have H' := Aside0.mk H
    clear H
    go_wp2
    go_meet
    case rel => exact ⟨_, (true), (by first | rfl | (simp; done) | (simp [*]; done)), H', ⟨by first | omega | exact Nat.le_refl _⟩, ⟨BB HB⟩⟩
  case rest =>
   clear HC7; (try clear c1); (try clear p2); (try clear c6); (try clear c6b0); (try clear c6b1); (try clear c8); (try clear c8b0); (try clear c8b1); (try clear c8b2); (try clear c9); (try clear c9b0); (try clear c11); (try clear c11b0); (try clear c11b1); (try clear c12); (try clear c12b0); (try clear c14); (try clear c14b0)
   obtain ⟨kq, x47_6, rfl, HA, HJ6, HB⟩ := hcut
   cases kq with
   | zero => exact absurd HA.out (by simp [order_Reset.j0])
   | succ kj6 =>
    have H := HA.out
    clear HA
    simp only [order_Reset.j0] at H
    by_cases c18 : x47_6 = true
    ·subst c18
     have H1 : (some (([] : List Int), 2)) = some (r1, r2) := by rw [if_pos rfl] at H; exact H
     clear H
     have H := H1
     clear H1
     simp only [Option.some.injEq, Prod.mk.injEq] at H
     obtain ⟨rfl, rfl⟩ := H
     go_wp2
     go_ret2
     exact ⟨_, FF, by first | exact Kd.R_nil _ _ _ _ _ | exact Kd.N_nil _ _ _ _ _ | exact Kd.V_nil _ _ _ _ _ | exact Kd.Q_nil _ _ _ _ _ | exact Kd.S_nil _ _ _ _ _, BB HB⟩
    ·replace c18 := Bool.eq_false_iff.mpr c18
     subst c18
     have H1 : (if 0 ≤ a3 then (if a3 ≤ a4 then (if a4 ≤ (l1.length : Int) then ((slices_Clone_uint8_uint8.f ((l1.take (a4 : Int).toNat).drop (a3 : Int).toNat)).bind fun t106 => (order_Reset.l0 kj6 l0 a2 a3 t106 true (wrap64 ((t106.length : Int) - 1)))) else (none)) else (none)) else (none)) = some (r1, r2) := by rw [if_neg (show ¬ (false = true) by decide)] at H; exact H
     clear H
     have H := H1
     clear H1; by_cases c19 : 0 ≤ a3
     ·rw [if_pos c19] at H
      have c19b0 := eq_true c19
      have c19b1 : decide (0 ≤ a3) = true := decide_eq_true c19; clear c19; by_cases c20 : a3 ≤ a4
      ·rw [if_pos c20] at H
       have c20b0 := eq_true c20
       have c20b1 : decide (a3 ≤ a4) = true := decide_eq_true c20; clear c20; by_cases c21 : a4 ≤ (l1.length : Int)
       ·rw [if_pos c21] at H
        have c21b0 := eq_true c21
        have c21b1 : decide (a4 ≤ (l1.length : Int)) = true := decide_eq_true c21; clear c21; replace H := Option.bind_eq_some_iff.mp H; obtain ⟨t106, A220, H⟩ := H
        replace H : (order_Reset.l0 kj6 l0 a2 a3 t106 true (wrap64 ((t106.length : Int) - 1))) = some (r1, r2) := H
        have A22 := Aside0.mk A220; clear A220
        have H' := Aside0.mk H
        clear H
        obtain ⟨i023, hi023, _, hsz23, _⟩ := info_parts info5
        obtain ⟨A23, hcut23, hA23, hC23⟩ := print_mid3_of (P := Tryd.prog) (Value.int .u8) 0 23 5 .i64 .i64 Tryd.underlying23 hi023 hsz23 A1 c1 l1 a3 a4 (of_decide_eq_true (by first | (with_reducible assumption) | assumption)) (by first | omega | exact of_decide_eq_true (by first | (with_reducible assumption) | assumption)) (of_decide_eq_true (by first | (with_reducible assumption) | assumption)) HC1.out
        have HR105 := Aside0.mk (Kd.C_of_reads (h1 := fun _ => rfl) (hA23 _ (Kd.reads_of_C HR1.out)))
        have HC105 := Aside0.mk hC23; clear hA23 hC23 hi023 hsz23
        go_wp2_with (first | ((with_reducible refine gate_callee (f := 26) rfl ?_); refine goesL_ (some 53) rfl rfl Tryd.func26 (by kernel_rfl) rfl #[.slice A23 ((l1.take (a4 : Int).toNat).drop (a3 : Int).toNat).length (a4.toNat - a3.toNat)] rfl (by (try simp only [List.map_toArray, List.map_cons, List.map_nil]); first | done | (rw [show ((l1.take (a4 : Int).toNat).drop (a3 : Int).toNat).length = (a4.toNat - a3.toNat) from (by rw [List.length_drop, List.length_take]; have h_ : (a4 : Int) ≤ (l1.length : Int) := of_decide_eq_true (by first | (with_reducible assumption) | assumption); omega)] <;> rfl) | rfl | (simp only [List.length_drop, List.length_take]; rfl)) ?_; (with_reducible refine (slices_Clone_uint8_uint8.calls _ _ ((l1.take (a4 : Int).toNat).drop (a3 : Int).toNat) t106 _ ?side1 ?side2 A22.out).mono ?_); (case side1 => repeat (first | exact (Kd.C_below HR105.out HB.out) | (with_reducible refine Kd.C_alloc ?_ _) | (with_reducible refine Kd.C_drewN ?_ _) | (with_reducible refine Kd.C_drew ?_))); (case side2 => exact HC105.out); rintro e w24 ⟨v107, rfl, ho0, hb⟩; refine ⟨_, rfl, ?_⟩; have n0_ := Aside0.mk (Kd.R_lower ho0 (below_size (BB HB))); have n1_ := Aside0.mk (below_step (BB HB) hb); clear HB; have HO108 := n0_; have HB := n1_; clear n0_ n1_; (try clear hb); (try clear hb2); (try clear hk); (try clear hi); (try clear ho0); obtain ⟨Ao25, co25, eo25⟩ := Kd.R_slice HO108.out; subst eo25))
        go_loopg [13, 14] kj6 (fun kq v13 v14 w' => ∃ (x12_2 : List Int) (x13_2 : Bool) (x14_2 : Int), v13 = .bool x13_2 ∧ v14 = .int .i64 x14_2 ∧ Aside0 (order_Reset.l0 kq l0 a2 a3 x12_2 x13_2 x14_2 = some (r1, r2)) ∧ Aside0 (kq ≤ kj6) ∧ Aside0 (Kd.R (Kd.int .u8) 5 w' w.heap.size (fun _ => True) (.slice Ao25 t106.length co25) x12_2) ∧ Aside0 (Below w.heap.size w w'))
        case atStart => exact ⟨(t106), (true), (wrap64 ((t106.length : Int) - 1)), (by first | rfl | (simp; done) | (simp [*]; done)), (by first | rfl | (simp; done) | (simp [*]; done)), H', ⟨Nat.le_refl _⟩, ⟨RR HO108⟩, ⟨BB HB⟩⟩
        case round =>
         clear H'
         (try clear c1); (try clear c2); (try clear p2); (try clear c6); (try clear c6b0); (try clear c6b1); (try clear p6); (try clear c8); (try clear c8b0); (try clear c8b1); (try clear c8b2); (try clear c9); (try clear c9b0); (try clear c11); (try clear c11b0); (try clear c11b1); (try clear c12); (try clear c12b0); (try clear c14); (try clear c14b0); (try clear c18); (try clear c19); (try clear c19b0); (try clear c19b1); (try clear c20); (try clear c20b0); (try clear c20b1); (try clear c21); (try clear c21b0); (try clear c21b1); (try clear p2)
         obtain ⟨x12_2, x13_2, x14_2, rfl, rfl, HA, HK2, HO_12, HB⟩ := hrel
         have hl12_2 := (Kd.R_reads' HO_12.out).1
         rw [hl12_2] at HO_12
         (try simp only [hl12_2])
         cases gk with
         | zero => exact absurd HA.out (by simp [order_Reset.l0])
         | succ k2 =>
          have H := HA.out
          clear HA
          simp only [order_Reset.l0] at H
          by_cases c26 : x14_2 ≥ 0
          ·rw [if_pos c26] at H; have c26b0 : decide (0 ≤ x14_2) = true := decide_eq_true c26; clear c26
           obtain ⟨ji27, hji27⟩ : ∃ j_ : Int, (wrap64 (a3 + x14_2)) = j_ := ⟨_, rfl⟩
           replace H : (if 0 ≤ (ji27) then (if (ji27) < (l0.length : Int) then ((props_Class.f (rd l0 (ji27))).bind fun t110 => (if t110 = 12 then (order_Reset.j2 k2 l0 a2 a3 x12_2 x13_2 x14_2 t110 (t110 == 12)) else (order_Reset.j2 k2 l0 a2 a3 x12_2 x13_2 x14_2 t110 (t110 == 11)))) else (none)) else (none)) = some (r1, r2) := by first | (rw [hji27] at H; exact H) | (simp only [hji27] at H ⊢; exact H)
           have hji27w : (IntKind.i64.wrap (a3 + x14_2)) = ji27 := (i64_w _).trans hji27
           by_cases c28 : 0 ≤ (ji27)
           ·rw [if_pos c28] at H; have c28b0 : decide (0 ≤ (ji27)) = true := decide_eq_true c28; clear c28; by_cases c29 : (ji27) < (l0.length : Int)
            ·rw [if_pos c29] at H; have c29b0 : decide ((ji27) < (l0.length : Int)) = true := decide_eq_true c29; clear c29; replace H := Option.bind_eq_some_iff.mp H; obtain ⟨t110, A300, H⟩ := H
             replace H : (if t110 = 12 then (order_Reset.j2 k2 l0 a2 a3 x12_2 x13_2 x14_2 t110 (t110 == 12)) else (order_Reset.j2 k2 l0 a2 a3 x12_2 x13_2 x14_2 t110 (t110 == 11))) = some (r1, r2) := H
             have A30 := Aside0.mk A300; clear A300; have HC31 := Aside0.mk H; clear H
             have p109 : 0 ≤ ((ji27) : Int) := of_decide_eq_true (by first | (with_reducible assumption) | assumption)
             have q109 : (ji27) < (l0.length : Int) := of_decide_eq_true (by first | (with_reducible assumption) | assumption)
             obtain ⟨ad109, e109, hx109_0⟩ := Kd.at_int HR0.out (ji27) p109 q109
             cases e109
             replace hx109_0 := (HB.out.cell (World.block_lt_of_cell? w _ hx109_0)).trans hx109_0
             replace p109 := eq_true p109; replace q109 := eq_true q109
             go_upto_if 68 with (first | ((with_reducible refine gate_callee (f := 27) rfl ?_); refine goesL_ (some 67) rfl rfl Tryd.func27 (by kernel_rfl) rfl #[.int .i32 (rd l0 (ji27))] rfl (by (try simp only [List.map_toArray, List.map_cons, List.map_nil]); first | done | (simp only [hji27]; rfl) | rfl | (simp only [List.length_drop, List.length_take]; rfl)) ?_; (with_reducible refine (props_Class.calls (rd l0 (ji27)) t110 _ A30.out).mono ?_); rintro e w32 ⟨rfl, hb⟩; refine ⟨_, rfl, ?_⟩; have n0_ := Aside0.mk (Kd.R_below (RR HO_12) hb); have n1_ := Aside0.mk (below_step (BB HB) hb); clear HO_12; clear HB; have HO_12 := n0_; have HB := n1_; clear n0_ n1_; (try clear hb); (try clear hb2); (try clear hk); (try clear hi)))
             (try simp only [Act.put, List.setIfInBounds_toArray, List.set_cons_zero, List.set_cons_succ])
             go_cut [68] (fun v68 wc => ∃ (kq : Nat) (x68_30 : Bool), v68 = .bool x68_30 ∧ Aside0 (order_Reset.j2 kq l0 a2 a3 x12_2 x13_2 x14_2 t110 x68_30 = some (r1, r2)) ∧ Aside0 (kq ≤ k2) ∧ Aside0 (Kd.R (Kd.int .u8) 5 wc w.heap.size (fun _ => True) (.slice Ao25 x12_2.length co25) x12_2) ∧ Aside0 (Below w.heap.size w wc))
             case first =>
              have H := HC31.out
              clear HC31; by_cases c33 : t110 = 12
              ·rw [if_pos c33] at H; have c33b0 : (t110 == 12) = true := beq_iff_eq.mpr c33; have c33b1 : (t110 != 12) = false := bne_eq_false_iff_eq.mpr c33; clear c33
               (first | rw [c33b0] | (simp only [i64_w, i32_w]; rw [c33b0]) | skip)
               have H' := Aside0.mk H
               clear H
               go_wp2
               go_meet
               case rel => exact ⟨_, ((t110 == 12)), (by first | rfl | (simp; done) | (simp [*]; done)), H', ⟨by have := HJ6.out; have := HK2.out; first | omega | exact Nat.le_refl _⟩, ⟨by (try simp only [hl12_2]); exact RR HO_12⟩, ⟨BB HB⟩⟩
              ·rw [if_neg c33] at H; have c33b0 : (t110 == 12) = false := beq_eq_false_iff_ne.mpr c33; have c33b1 : (t110 != 12) = true := bne_iff_ne.mpr c33
               (first | rw [c33b0] | (simp only [i64_w, i32_w]; rw [c33b0]) | skip)
               have H' := Aside0.mk H
               clear H
               go_wp2
               go_meet
               case rel => exact ⟨_, ((t110 == 11)), (by first | rfl | (simp; done) | (simp [*]; done)), H', ⟨by have := HJ6.out; have := HK2.out; first | omega | exact Nat.le_refl _⟩, ⟨by (try simp only [hl12_2]); exact RR HO_12⟩, ⟨BB HB⟩⟩
             case rest =>
              clear HC31; (try clear c1); (try clear p1); (try clear q1); (try clear hx1); (try clear c2); (try clear p2); (try clear c3); (try clear c6); (try clear c6b0); (try clear c6b1); (try clear p6); (try clear c8); (try clear c8b0); (try clear c8b1); (try clear c8b2); (try clear c9); (try clear c9b0); (try clear p10); (try clear q10); (try clear hx10); (try clear c11); (try clear c11b0); (try clear c11b1); (try clear c12); (try clear c12b0); (try clear c14); (try clear c14b0); (try clear c18); (try clear c19); (try clear c19b0); (try clear c19b1); (try clear c20); (try clear c20b0); (try clear c20b1); (try clear c21); (try clear c21b0); (try clear c21b1); (try clear c26); (try clear c26b0); (try clear c27); (try clear c28); (try clear c28b0); (try clear c29); (try clear c29b0); (try clear c33); (try clear c33b0); (try clear c33b1); (try clear hx109_0); (try clear p109); (try clear p2); (try clear p6); (try clear q109)
              obtain ⟨kq, x68_30, rfl, HA, HJ30, HO_12, HB⟩ := hcut
              cases kq with
              | zero => exact absurd HA.out (by simp [order_Reset.j2])
              | succ kj30 =>
               have H := HA.out
               clear HA
               simp only [order_Reset.j2] at H
               by_cases c34 : x68_30 = true
               ·subst c34
                have H1 : (if 0 ≤ x14_2 then (if x14_2 < (x12_2.length : Int) then (order_Reset.l0 kj30 l0 a2 a3 (x12_2.set (x14_2 : Int).toNat a2) true (wrap64 (x14_2 - 1))) else (none)) else (none)) = some (r1, r2) := by rw [if_pos rfl] at H; exact H
                clear H
                have H := H1
                clear H1; by_cases c35 : 0 ≤ x14_2
                ·rw [if_pos c35] at H; have c35b0 : decide (0 ≤ x14_2) = true := decide_eq_true c35; clear c35; by_cases c36 : x14_2 < (x12_2.length : Int)
                 ·rw [if_pos c36] at H; have c36b0 : decide (x14_2 < (x12_2.length : Int)) = true := decide_eq_true c36; clear c36
                  obtain ⟨y111, hy111⟩ : ∃ y_ : List Int, y_ = (x12_2.set (x14_2 : Int).toNat a2) := ⟨_, rfl⟩
                  replace H : (order_Reset.l0 kj30 l0 a2 a3 y111 true (wrap64 (x14_2 - 1))) = some (r1, r2) := by first | (rw [hy111]; with_reducible exact H) | (have H2_ := (Option.bind_some _ _).symm.trans H; rw [hy111]; with_reducible exact H2_) | (have H2_ := (Option.bind_some _ _).symm.trans H; with_reducible exact H2_) | with_reducible exact H | (rw [hy111]; exact H) | exact H
                  have Ny111 := Aside0.mk hy111; clear hy111
                  have H' := Aside0.mk H
                  clear H
                  have p37 : 0 ≤ (x14_2 : Int) := of_decide_eq_true (by first | (with_reducible assumption) | assumption)
                  have q37 : (x14_2 : Int) < ((x12_2.length : Int) : Int) := of_decide_eq_true (by first | (with_reducible assumption) | assumption)
                  obtain ⟨go37, co37, eo37, gb37, gl37, cl37, HG37⟩ := Kd.R_form HO_12.out (by omega)
                  (first | cases eo37 | (injection eo37 with ea_ en_ ec_; (first | subst ea_ | (injection ea_ with ea_; subst ea_)); subst ec_; clear en_))
                  have GB37 := Aside0.mk gb37; have GG37 := Aside0.mk HG37; clear gb37 gl37 HG37
                  obtain ⟨hx37_0, hf37_0⟩ := Kd.R_celln 0 HO_12.out (x14_2 : Int) p37 q37
                  replace p37 := eq_true p37; replace q37 := eq_true q37
                  have HP38 := Kd.R_putg HO_12.out (x14_2 : Int) a2
                  go_wp2_with (first | ((with_reducible refine gate_store (t := 5) (p := 81) rfl ?_); refine store_event (t := 5) (p := 81) (v := ?vo_w39) (w1 := (wc.setCell ⟨go37, (x14_2 : Int).toNat, none⟩ (.int .u8 a2))) ?hg ?ho ?hn ?hr ?_; (case ho => rfl); (case hg => rfl); (case hn => rfl); (case hr => first | (go_simp; done) | (go_simp; rfl)); intro w39 hw; have hg : wc.grownBy w39 (some go37) := (by rw [hw]; exact HP38.2); have hp_ : Kd.R (Kd.int .u8) 5 w39 w.heap.size (fun _ => True) (.slice (some ⟨go37, 0, none⟩) x12_2.length co25) y111 := (by rw [hw, Ny111.out]; exact HP38.1); clear HP38; have n0_ := Aside0.mk (hp_); have n1_ := Aside0.mk ((by rw [hw]; exact below_set (HB.out) GB37.out : Below w.heap.size w w39)); clear HO_12; clear HB; have HO_12 := n0_; have HB := n1_; clear n0_ n1_; clear hg hw hp_))
                  (try simp only [← hl12_2])
                  go_roundg kj30
                  case measure => have := HJ6.out; have := HK2.out; have := HJ30.out; omega
                  case rel => exact ⟨(y111), (true), (wrap64 (x14_2 - 1)), (by first | rfl | (simp; done) | (simp [*]; done)), (by first | rfl | (simp; done) | (simp [*]; done)), H', ⟨by have := HJ6.out; have := HK2.out; have := HJ30.out; omega⟩, ⟨by (try simp only [hl12_2]); exact RR HO_12⟩, ⟨BB HB⟩⟩
                 ·rw [if_neg c36] at H
                  exact absurd H (by simp)
                ·rw [if_neg c35] at H
                 exact absurd H (by simp)
               ·replace c34 := Bool.eq_false_iff.mpr c34
                subst c34
                have H1 : ((order_blank.f t110).bind fun t112 => (if t112 = true then (if x13_2 = true then (if 0 ≤ x14_2 then (if x14_2 < (x12_2.length : Int) then (order_Reset.l0 kj30 l0 a2 a3 (x12_2.set (x14_2 : Int).toNat a2) x13_2 (wrap64 (x14_2 - 1))) else (none)) else (none)) else (order_Reset.l0 kj30 l0 a2 a3 x12_2 x13_2 (wrap64 (x14_2 - 1)))) else (order_Reset.l0 kj30 l0 a2 a3 x12_2 false (wrap64 (x14_2 - 1))))) = some (r1, r2) := by rw [if_neg (show ¬ (false = true) by decide)] at H; exact H
                clear H
                have H := H1
                clear H1; replace H := Option.bind_eq_some_iff.mp H; obtain ⟨t112, A400, H⟩ := H
                replace H : (if t112 = true then (if x13_2 = true then (if 0 ≤ x14_2 then (if x14_2 < (x12_2.length : Int) then (order_Reset.l0 kj30 l0 a2 a3 (x12_2.set (x14_2 : Int).toNat a2) x13_2 (wrap64 (x14_2 - 1))) else (none)) else (none)) else (order_Reset.l0 kj30 l0 a2 a3 x12_2 x13_2 (wrap64 (x14_2 - 1)))) else (order_Reset.l0 kj30 l0 a2 a3 x12_2 false (wrap64 (x14_2 - 1)))) = some (r1, r2) := H
                have A40 := Aside0.mk A400; clear A400; by_cases c41 : t112 = true
                ·subst c41
                 have H1 : (if x13_2 = true then (if 0 ≤ x14_2 then (if x14_2 < (x12_2.length : Int) then (order_Reset.l0 kj30 l0 a2 a3 (x12_2.set (x14_2 : Int).toNat a2) x13_2 (wrap64 (x14_2 - 1))) else (none)) else (none)) else (order_Reset.l0 kj30 l0 a2 a3 x12_2 x13_2 (wrap64 (x14_2 - 1)))) = some (r1, r2) := by rw [if_pos rfl] at H; exact H
                 clear H
                 have H := H1
                 clear H1; by_cases c42 : x13_2 = true
                 ·subst c42
                  have H1 : (if 0 ≤ x14_2 then (if x14_2 < (x12_2.length : Int) then (order_Reset.l0 kj30 l0 a2 a3 (x12_2.set (x14_2 : Int).toNat a2) true (wrap64 (x14_2 - 1))) else (none)) else (none)) = some (r1, r2) := by rw [if_pos rfl] at H; exact H
                  clear H
                  have H := H1
                  clear H1; by_cases c43 : 0 ≤ x14_2
                  ·rw [if_pos c43] at H; have c43b0 : decide (0 ≤ x14_2) = true := decide_eq_true c43; clear c43; by_cases c44 : x14_2 < (x12_2.length : Int)
                   ·rw [if_pos c44] at H; have c44b0 : decide (x14_2 < (x12_2.length : Int)) = true := decide_eq_true c44; clear c44
                    obtain ⟨y113, hy113⟩ : ∃ y_ : List Int, y_ = (x12_2.set (x14_2 : Int).toNat a2) := ⟨_, rfl⟩
                    replace H : (order_Reset.l0 kj30 l0 a2 a3 y113 true (wrap64 (x14_2 - 1))) = some (r1, r2) := by first | (rw [hy113]; with_reducible exact H) | (have H2_ := (Option.bind_some _ _).symm.trans H; rw [hy113]; with_reducible exact H2_) | (have H2_ := (Option.bind_some _ _).symm.trans H; with_reducible exact H2_) | with_reducible exact H | (rw [hy113]; exact H) | exact H
                    have Ny113 := Aside0.mk hy113; clear hy113
                    have H' := Aside0.mk H
                    clear H
                    go_wp2_with (first | ((with_reducible refine gate_callee (f := 28) rfl ?_); refine goesL_ (some 75) rfl rfl Tryd.func28 (by kernel_rfl) rfl #[.int .u8 t110] rfl (by (try simp only [List.map_toArray, List.map_cons, List.map_nil]); first | done | rfl | (simp only [List.length_drop, List.length_take]; rfl)) ?_; (with_reducible refine (order_blank.calls t110 true _ A40.out).mono ?_); rintro e w' ⟨rfl, ⟨nd, rfl⟩⟩; refine ⟨_, rfl, ?_⟩; (try (rw [drewN_self wc]; generalize hq_ : World.drewN wc _ = wc; have n0_ : Aside0 (Kd.R (Kd.int .u8) 5 wc w.heap.size (fun _ => True) (.slice Ao25 x12_2.length co25) x12_2) := ⟨by rw [← hq_]; exact (RR HO_12)⟩; have n1_ : Aside0 (Below w.heap.size w wc) := ⟨by rw [← hq_]; exact (BB HB)⟩; clear HO_12 HB hq_; have HO_12 := n0_; have HB := n1_; clear n0_ n1_)); have p45 : 0 ≤ (x14_2 : Int) := of_decide_eq_true (by first | (with_reducible assumption) | assumption); have q45 : (x14_2 : Int) < ((x12_2.length : Int) : Int) := of_decide_eq_true (by first | (with_reducible assumption) | assumption); obtain ⟨go45, co45, eo45, gb45, gl45, cl45, HG45⟩ := Kd.R_form HO_12.out (by omega); (first | cases eo45 | (injection eo45 with ea_ en_ ec_; (first | subst ea_ | (injection ea_ with ea_; subst ea_)); subst ec_; clear en_)); have GB45 := Aside0.mk gb45; have GG45 := Aside0.mk HG45; clear gb45 gl45 HG45; obtain ⟨hx45_0, hf45_0⟩ := Kd.R_celln 0 HO_12.out (x14_2 : Int) p45 q45; replace p45 := eq_true p45; replace q45 := eq_true q45; obtain ⟨hy46_, hz46_⟩ := Kd.R_celln 0 HO_12.out (x14_2 : Int) (of_decide_eq_true (by first | (with_reducible assumption) | assumption)) (of_decide_eq_true (by first | (with_reducible assumption) | assumption)); have HP46 := Kd.R_putg HO_12.out (x14_2 : Int) a2) | ((with_reducible refine gate_store (t := 5) (p := 81) rfl ?_); refine store_event (t := 5) (p := 81) (v := ?vo_w47) (w1 := (wc.setCell ⟨go45, (x14_2 : Int).toNat, none⟩ (.int .u8 a2))) ?hg ?ho ?hn ?hr ?_; (case ho => rfl); (case hg => rfl); (case hn => rfl); (case hr => first | (go_simp; done) | (go_simp; rfl)); intro w47 hw; have hg : wc.grownBy w47 (some go45) := (by rw [hw]; exact HP46.2); have hp_ : Kd.R (Kd.int .u8) 5 w47 w.heap.size (fun _ => True) (.slice (some ⟨go45, 0, none⟩) x12_2.length co25) y113 := (by rw [hw, Ny113.out]; exact HP46.1); clear HP46; have n0_ := Aside0.mk (hp_); have n1_ := Aside0.mk ((by rw [hw]; exact below_set (HB.out) GB45.out : Below w.heap.size w w47)); clear HO_12; clear HB; have HO_12 := n0_; have HB := n1_; clear n0_ n1_; clear hg hw hp_))
                    (try simp only [← hl12_2])
                    go_roundg kj30
                    case measure => have := HJ6.out; have := HK2.out; have := HJ30.out; omega
                    case rel => exact ⟨(y113), (true), (wrap64 (x14_2 - 1)), (by first | rfl | (simp; done) | (simp [*]; done)), (by first | rfl | (simp; done) | (simp [*]; done)), H', ⟨by have := HJ6.out; have := HK2.out; have := HJ30.out; omega⟩, ⟨by (try simp only [hl12_2]); exact RR HO_12⟩, ⟨BB HB⟩⟩
                   ·rw [if_neg c44] at H
                    exact absurd H (by simp)
                  ·rw [if_neg c43] at H
                   exact absurd H (by simp)
                 ·replace c42 := Bool.eq_false_iff.mpr c42
                  subst c42
                  have H1 : (order_Reset.l0 kj30 l0 a2 a3 x12_2 false (wrap64 (x14_2 - 1))) = some (r1, r2) := by rw [if_neg (show ¬ (false = true) by decide)] at H; exact H
                  clear H
                  have H := H1
                  clear H1
                  have H' := Aside0.mk H
                  clear H
                  go_wp2_with (first | ((with_reducible refine gate_callee (f := 28) rfl ?_); refine goesL_ (some 75) rfl rfl Tryd.func28 (by kernel_rfl) rfl #[.int .u8 t110] rfl (by (try simp only [List.map_toArray, List.map_cons, List.map_nil]); first | done | rfl | (simp only [List.length_drop, List.length_take]; rfl)) ?_; (with_reducible refine (order_blank.calls t110 true _ A40.out).mono ?_); rintro e w' ⟨rfl, ⟨nd, rfl⟩⟩; refine ⟨_, rfl, ?_⟩))
                  (try simp only [← hl12_2])
                  go_roundg kj30
                  case measure => have := HJ6.out; have := HK2.out; have := HJ30.out; omega
                  case rel => exact ⟨(x12_2), (false), (wrap64 (x14_2 - 1)), (by first | rfl | (simp; done) | (simp [*]; done)), (by first | rfl | (simp; done) | (simp [*]; done)), H', ⟨by have := HJ6.out; have := HK2.out; have := HJ30.out; omega⟩, ⟨by (try simp only [hl12_2]); exact RR HO_12⟩, ⟨BB HB⟩⟩
                ·replace c41 := Bool.eq_false_iff.mpr c41
                 subst c41
                 have H1 : (order_Reset.l0 kj30 l0 a2 a3 x12_2 false (wrap64 (x14_2 - 1))) = some (r1, r2) := by rw [if_neg (show ¬ (false = true) by decide)] at H; exact H
                 clear H
                 have H := H1
                 clear H1
                 have H' := Aside0.mk H
                 clear H
                 go_wp2_with (first | ((with_reducible refine gate_callee (f := 28) rfl ?_); refine goesL_ (some 75) rfl rfl Tryd.func28 (by kernel_rfl) rfl #[.int .u8 t110] rfl (by (try simp only [List.map_toArray, List.map_cons, List.map_nil]); first | done | rfl | (simp only [List.length_drop, List.length_take]; rfl)) ?_; (with_reducible refine (order_blank.calls t110 false _ A40.out).mono ?_); rintro e w' ⟨rfl, ⟨nd, rfl⟩⟩; refine ⟨_, rfl, ?_⟩))
                 (try simp only [← hl12_2])
                 go_roundg kj30
                 case measure => have := HJ6.out; have := HK2.out; have := HJ30.out; omega
                 case rel => exact ⟨(x12_2), (false), (wrap64 (x14_2 - 1)), (by first | rfl | (simp; done) | (simp [*]; done)), (by first | rfl | (simp; done) | (simp [*]; done)), H', ⟨by have := HJ6.out; have := HK2.out; have := HJ30.out; omega⟩, ⟨by (try simp only [hl12_2]); exact RR HO_12⟩, ⟨BB HB⟩⟩
            ·rw [if_neg c29] at H
             exact absurd H (by simp)
           ·rw [if_neg c28] at H
            exact absurd H (by simp)
          ·rw [if_neg c26] at H; have c26b0 : decide (0 ≤ x14_2) = false := decide_eq_false c26; clear c26
           simp only [Option.some.injEq, Prod.mk.injEq] at H
           obtain ⟨rfl, rfl⟩ := H
           go_wp2
           go_ret2
           exact ⟨_, FF, RR HO_12, BB HB⟩
       ·rw [if_neg c21] at H
        exact absurd H (by simp)
      ·rw [if_neg c20] at H
       exact absurd H (by simp)
     ·rw [if_neg c19] at H
      exact absurd H (by simp)
def selvedgelaw20_sameLevels.f (l0 : List Int) (l1 : List Int) : Option (Bool) := some ((strOfNums l0).toList == (strOfNums l1).toList)
set_option maxHeartbeats 80000000 in
set_option maxRecDepth 100000 in
theorem selvedgelaw20_sameLevels.calls (A0 : Option Addr) (c0 : Nat) (l0 : List Int) (A1 : Option Addr) (c1 : Nat) (l1 : List Int) (r : Bool) (w : World) (hr0 : Kd.C (Kd.int .u8) w A0 l0.length l0) (hc0 : l0.length ≤ c0) (hr1 : Kd.C (Kd.int .u8) w A1 l1.length l1) (hc1 : l1.length ≤ c1) (h : selvedgelaw20_sameLevels.f l0 l1 = some r) :
  Calls Tryd.prog 14 #[.slice A0 l0.length c0, .slice A1 l1.length c1] w fun e w' => e = .returned (.bool r) ∧ Drawn0 w w' := by
 have HR0 := Aside0.mk hr0; have HC0 := Aside0.mk hc0; clear hr0 hc0; have HR1 := Aside0.mk hr1; have HC1 := Aside0.mk hc1; clear hr1 hc1
 have H : (some ((strOfNums l0).toList == (strOfNums l1).toList)) = some r := h
 clear h; obtain rfl := Option.some.inj H
 have hcv3 := Kd.C_string (P := Tryd.prog) (A := A0) (c := c0) Tryd.underlying23 Tryd.underlying5 Tryd.underlying9 HR0.out
 have hcv4 := Kd.C_string (P := Tryd.prog) (A := A1) (c := c1) Tryd.underlying23 Tryd.underlying5 Tryd.underlying9 HR1.out
 go_enter Tryd.func14, Tryd.ntmps14
 go_wp2
 go_ret
 exact ⟨by first | rfl | (simp; done) | (simp [*]; done), by repeat (first | exact Drawn0.refl _ | apply Drawn0.step)⟩
def revPart (xs : List Int) (lo hi : Nat) : List Int := xs.take lo ++ ((xs.drop lo).take (hi - lo)).reverse ++ xs.drop hi
theorem revPart_none (xs : List Int) (lo hi : Nat) (h : hi ≤ lo + 1) (hl : lo ≤ hi) : revPart xs lo hi = xs := by
 unfold revPart
 rcases Nat.eq_or_lt_of_le hl with h1 | h1
 ·subst h1
  simp
 ·obtain rfl : hi = lo + 1 := by omega
  rw [Nat.add_sub_cancel_left]
  have h2 : ((xs.drop lo).take 1).reverse = (xs.drop lo).take 1 := by
   cases xs.drop lo <;> simp
  rw [h2, List.append_assoc, show xs.drop (lo + 1) = (xs.drop lo).drop 1 by rw [List.drop_drop], List.take_append_drop, List.take_append_drop]
theorem revPart_get (xs : List Int) (lo hi : Nat) (hl : lo ≤ hi) (hh : hi ≤ xs.length) (i : Nat) : (revPart xs lo hi)[i]? = if lo ≤ i ∧ i < hi then xs[lo + hi - 1 - i]? else xs[i]? := by
 unfold revPart
 by_cases h1 : i < lo
 ·rw [if_neg (by omega), List.append_assoc, List.getElem?_append_left (by rw [List.length_take]; omega), List.getElem?_take, if_pos h1]
 ·by_cases h2 : i < hi
  ·rw [if_pos (by omega), List.append_assoc, List.getElem?_append_right (by rw [List.length_take]; omega), List.getElem?_append_left (by rw [List.length_take, List.length_reverse, List.length_take, List.length_drop]; omega),
    List.getElem?_reverse (by rw [List.length_take, List.length_take, List.length_drop]; omega), List.getElem?_take, if_pos (by rw [List.length_take, List.length_take, List.length_drop]; omega), List.getElem?_drop]
   congr 1
   rw [List.length_take, List.length_take, List.length_drop]
   omega
  ·rw [if_neg (by omega), List.getElem?_append_right (by simp; omega), List.getElem?_drop]
   congr 1
   simp
   omega
theorem revPart_step (xs : List Int) (p q : Nat) (h : p < q) (hq : q < xs.length) : revPart ((xs.set p (xs.getD q 0)).set q (xs.getD p 0)) (p + 1) q = revPart xs p (q + 1) := by
 apply List.ext_getElem?
 intro i
 rw [revPart_get _ _ _ (by omega) (by simp; omega), revPart_get _ _ _ (by omega) (by omega)]
 have hp : p < xs.length := by omega
 by_cases h1 : p + 1 ≤ i ∧ i < q
 ·rw [if_pos h1, if_pos (by omega), List.getElem?_set_ne (by omega), List.getElem?_set_ne (by omega)]
  congr 1
  omega
 ·rw [if_neg h1]
  by_cases h2 : i = p
  ·subst h2
   rw [if_pos (by omega), List.getElem?_set_ne (by omega), List.getElem?_set_self hp, List.getD_eq_getElem?_getD, List.getElem?_eq_getElem hq, show i + (q + 1) - 1 - i = q by omega, List.getElem?_eq_getElem hq]
   rfl
  ·by_cases h3 : i = q
   ·subst h3
    rw [if_pos (by omega), List.getElem?_set_self (by simpa using hq), List.getD_eq_getElem?_getD, List.getElem?_eq_getElem hp, show p + (i + 1) - 1 - i = p by omega, List.getElem?_eq_getElem hp]
    rfl
   ·rw [if_neg (by omega), List.getElem?_set_ne (Ne.symm h3), List.getElem?_set_ne (Ne.symm h2)]
theorem length_revPart (xs : List Int) (lo hi : Nat) (hl : lo ≤ hi) (hh : hi ≤ xs.length) : (revPart xs lo hi).length = xs.length := by
 unfold revPart
 simp
 omega
def slices_Reverse_int_int.T3 : Bool × List (List Nat × List Nat) := (true, [([], []), ([], []), ([], []), ([], []), ([], []), ([], []), ([4, 5], [4, 5]), ([6], [6]), ([], []), ([], []), ([8, 9], [8, 9]), ([10], [10]), ([0, 1, 0, 1, 4, 5, 6, 7, 11], [0, 1]), ([12, 7, 0, 1, 4, 5, 6, 7, 11], [7, 12]), ([2, 3, 0, 1, 2, 3, 4, 5, 6, 7, 8, 9, 10, 11, 12, 13], [2, 3]), ([14, 11, 13, 0, 1, 2, 3, 4, 5, 6, 7, 8, 9, 10, 11, 12, 13], [11, 14])])
def slices_Reverse_int_int.B3 : List Nat := [0, 0, 0, 0, 0, 0, 48, 112, 0, 0, 768, 1792, 4083, 8179, 16383, 32767]
theorem slices_Reverse_int_int.tab3 : rtab .any (opsOf Tryd.f32 3) = slices_Reverse_int_int.T3 := by kernel_rfl
theorem slices_Reverse_int_int.bits3 : waitsOk slices_Reverse_int_int.T3.2 slices_Reverse_int_int.B3 = true := by kernel_rfl
set_option maxHeartbeats 80000000 in
set_option maxRecDepth 100000 in
theorem slices_Reverse_int_int.part (w : World) (base : Nat) (ok : Nat → Prop) (g cap : Nat) (xs : List Int) (lo n c : Nat) (hR : Kd.R (Kd.int .i64) 3 w base ok (.slice (some ⟨g, 0, none⟩) xs.length cap) xs) (hl : lo + n ≤ xs.length) (hm : xs.length ≤ 9223372036854775807) :
  Calls Tryd.prog 32 #[.slice (some ⟨g, lo, none⟩) n c] w fun e w' => e = .returned (.tuple #[]) ∧ Kd.R (Kd.int .i64) 3 w' base ok (.slice (some ⟨g, 0, none⟩) xs.length cap) (revPart xs lo (lo + n)) ∧ w.grownBy w' (some g) := by
 have HO0 := Aside0.mk hR; have HL := Aside0.mk hl; have HM := Aside0.mk hm
 have HW := Aside0.mk (grown_of_below (Below.refl _ w) (some g))
 clear hR hl hm
 go_enter Tryd.func32, Tryd.ntmps32
 go_wp2
 go_loopg [2, 3] n (fun kq v2 v3 w' => ∃ (ys : List Int) (i : Nat) (j : Int), v2 = .int .i64 (i : Int) ∧ v3 = .int .i64 j ∧ Aside0 ((kq : Int) = j + 1 - i) ∧ Aside0 ((i : Int) + j + 1 = n ∧ (i : Int) ≤ j + 1 ∧ ys.length = xs.length ∧ revPart ys (lo + i) (lo + (j + 1).toNat) = revPart xs lo (lo + n)) ∧ Aside0 (Kd.R (Kd.int .i64) 3 w' base ok (.slice (some ⟨g, 0, none⟩) xs.length cap) ys) ∧ Aside0 (w.grownBy w' (some g)))
 case atStart =>
  have e : wrap64 ((n : Int) - 1) = (n : Int) - 1 := by have := HL.out; have := HM.out; unfold wrap64; omega
  exact ⟨xs, 0, (n : Int) - 1, rfl, by rw [e], ⟨by omega⟩, ⟨by omega, by omega, rfl, by rw [Nat.add_zero, show ((n : Int) - 1 + 1).toNat = n by omega]⟩, HO0, HW⟩
 case round =>
  clear HO0 HW
  obtain ⟨ys, i, j, rfl, rfl, HK, HA, HO, HW⟩ := hrel
  have HE : Aside0 (lo + n ≤ xs.length ∧ xs.length ≤ 9223372036854775807) := ⟨HL.out, HM.out⟩
  by_cases hij : (i : Int) < j
  ·obtain ⟨J, rfl⟩ : ∃ J : Nat, j = (J : Int) := ⟨j.toNat, by omega⟩
   have hiN : i < n := by have := HA.out.1; omega
   have hJN : J < n := by have := HA.out.1; omega
   have HB : Aside0 (i < n ∧ J < n ∧ i < J) := ⟨hiN, hJN, by omega⟩
   have c0 : decide (i < J) = true := decide_eq_true (by omega)
   have f1 : wrap64 ((i : Int) + 1) = (i : Int) + 1 := by have := HE.out; unfold wrap64; omega
   have f2 : wrap64 ((J : Int) - 1) = (J : Int) - 1 := by have := HE.out; unfold wrap64; omega
   have hmi : lo + i < xs.length := by have := HE.out; omega
   have hmJ : lo + J < xs.length := by have := HE.out; omega
   have HM2 : Aside0 (lo + i < xs.length ∧ lo + J < xs.length) := ⟨hmi, hmJ⟩
   clear hmi hmJ hij
   try go_wp2
   have n0_ := Aside0.mk (Kd.R_drew HO.out)
   clear HO
   have HO := n0_
   clear n0_
   obtain ⟨a, ea⟩ : ∃ a, a = ys.getD (lo + J) 0 := ⟨_, rfl⟩
   obtain ⟨b, eb⟩ : ∃ b, b = ys.getD (lo + i) 0 := ⟨_, rfl⟩
   have hxJ := Kd.R_celln 0 HO.out ((lo + J : Nat) : Int) (by omega) (by have := HM2.out; omega)
   have hxi := Kd.R_celln 0 HO.out ((lo + i : Nat) : Int) (by omega) (by have := HM2.out; omega)
   have HP1 := Kd.R_putg HO.out ((lo + i : Nat) : Int) a
   have HP2 := Kd.R_putg HP1.1 ((lo + J : Nat) : Int) b
   obtain ⟨hyc, hyJ⟩ := Kd.R_celln 0 HP1.1 ((lo + J : Nat) : Int) (by omega) (by have := HM2.out; omega)
   have hg1 : w.grownBy wr.drew (some g) := ⟨HW.out.os, HW.out.tape, HW.out.output, HW.out.size, HW.out.block⟩
   have HG := Aside0.mk (hg1.trans (HP1.2.trans HP2.2))
   have HQ := Aside0.mk HP2.1
   clear HP1 HP2 hg1
   rw [Int.toNat_natCast] at hxJ hxi
   simp only [Int.toNat_natCast] at hyJ hyc
   simp only [Int.toNat_natCast] at HG HQ
   have e1 : rdOf 0 ys ((lo + J : Nat) : Int) = a := by rw [ea]; unfold rdOf; rw [Int.toNat_natCast]
   have e2 : rdOf 0 ys ((lo + i : Nat) : Int) = b := by rw [eb]; unfold rdOf; rw [Int.toNat_natCast]
   rw [e1] at hxJ
   rw [e2] at hxi
   have EAB : Aside0 (a = ys.getD (lo + J) 0 ∧ b = ys.getD (lo + i) 0) := ⟨ea, eb⟩
   clear ea eb e1 e2
   obtain ⟨hx1, hf1⟩ := hxJ
   obtain ⟨hx2, hf2⟩ := hxi
   refine start_ (n := 16) (S := fun w' => w'.cell? ⟨g, lo + J, none⟩ = some (.int .i64 a) ∧ w'.cell? ⟨g, lo + i, none⟩ = some (.int .i64 b)) (ds := [13, 15]) #[false, false, false, false, false, false, false, false, false, false, false, false, false, false, false, false] (by kernel_rfl) rfl rfl ⟨hx1, hx2⟩ (fun hHeld => ?_); refine with_tabW slices_Reverse_int_int.tab3 slices_Reverse_int_int.bits3 (fun HT_ HW_ => ?_)
   generalize wr.drew = w10 at HO HG HQ hf1 hf2 hyJ hyc hx1 hx2 hHeld ⊢
   refine pure_ (i := 0) (N := some 14) (v := ?_) (a' := ?_) #[true, false, false, false, false, false, false, false, false, false, false, false, false, false, false, false] rfl rfl (any_of HT_.out (by kernel_rfl)) (fun _ _ _ h => h) (Or.inl ⟨by rfl, ?_⟩) ?_ ?_
   rotate_left
   ·intro w'
    go_simp
    with_reducible rfl
   rotate_left
   ·simp only [Act.put, List.setIfInBounds_toArray, List.set_cons_zero, List.set_cons_succ, i64_w, i32_w]
    rfl
   refine pure_ (i := 1) (N := some 15) (v := ?_) (a' := ?_) #[true, true, false, false, false, false, false, false, false, false, false, false, false, false, false, false] rfl rfl (any_of HT_.out (by kernel_rfl)) (fun _ _ _ h => h) (Or.inl ⟨by rfl, ?_⟩) ?_ ?_
   rotate_left
   ·intro w'
    go_simp
    with_reducible rfl
   rotate_left
   ·simp only [Act.put, List.setIfInBounds_toArray, List.set_cons_zero, List.set_cons_succ, i64_w, i32_w]
    rfl
   refine pure_ (i := 2) (N := some 16) (v := ?_) (a' := ?_) #[true, true, true, false, false, false, false, false, false, false, false, false, false, false, false, false] rfl rfl (any_of HT_.out (by kernel_rfl)) (fun _ _ _ h => h) (Or.inl ⟨by rfl, ?_⟩) ?_ ?_
   rotate_left
   ·intro w'
    go_simp
    with_reducible rfl
   rotate_left
   ·simp only [Act.put, List.setIfInBounds_toArray, List.set_cons_zero, List.set_cons_succ, i64_w, i32_w]
    rfl
   refine pure_ (i := 3) (N := some 17) (v := ?_) (a' := ?_) #[true, true, true, true, false, false, false, false, false, false, false, false, false, false, false, false] rfl rfl (any_of HT_.out (by kernel_rfl)) (fun _ _ _ h => h) (Or.inl ⟨by rfl, ?_⟩) ?_ ?_
   rotate_left
   ·intro w'
    go_simp
    with_reducible rfl
   rotate_left
   ·simp only [Act.put, List.setIfInBounds_toArray, List.set_cons_zero, List.set_cons_succ, i64_w, i32_w]
    rfl
   refine pure_ (i := 4) (N := some 18) (v := ?_) (a' := ?_) #[true, true, true, true, true, false, false, false, false, false, false, false, false, false, false, false] rfl rfl (any_of HT_.out (by kernel_rfl)) (fun _ _ _ h => h) (Or.inl ⟨by rfl, ?_⟩) ?_ ?_
   rotate_left
   ·intro w'
    go_simp
    with_reducible rfl
   rotate_left
   ·simp only [Act.put, List.setIfInBounds_toArray, List.set_cons_zero, List.set_cons_succ, i64_w, i32_w]
    rfl
   refine pure_ (i := 5) (N := some 19) (v := ?_) (a' := ?_) #[true, true, true, true, true, true, false, false, false, false, false, false, false, false, false, false] rfl rfl (any_of HT_.out (by kernel_rfl)) (fun _ _ _ h => h) (Or.inl ⟨by rfl, ?_⟩) ?_ ?_
   rotate_left
   ·intro w'
    go_simp
    with_reducible rfl
   rotate_left
   ·simp only [Act.put, List.setIfInBounds_toArray, List.set_cons_zero, List.set_cons_succ, i64_w, i32_w]
    rfl
   refine pure_ (i := 6) (N := some 20) (v := ?_) (a' := ?_) #[true, true, true, true, true, true, true, false, false, false, false, false, false, false, false, false] rfl rfl (any_of HT_.out (by kernel_rfl)) (fun _ _ _ h => h) (Or.inl ⟨by rfl, ?_⟩) ?_ ?_
   rotate_left
   ·intro w'
    go_simp
    with_reducible rfl
   rotate_left
   ·simp only [Act.put, List.setIfInBounds_toArray, List.set_cons_zero, List.set_cons_succ, i64_w, i32_w]
    rfl
   refine pure_ (i := 8) (N := some 22) (v := ?_) (a' := ?_) #[true, true, true, true, true, true, true, false, true, false, false, false, false, false, false, false] rfl rfl (any_of HT_.out (by kernel_rfl)) (fun _ _ _ h => h) (Or.inl ⟨by rfl, ?_⟩) ?_ ?_
   rotate_left
   ·intro w'
    go_simp
    with_reducible rfl
   rotate_left
   ·simp only [Act.put, List.setIfInBounds_toArray, List.set_cons_zero, List.set_cons_succ, i64_w, i32_w]
    rfl
   refine pure_ (i := 9) (N := some 23) (v := ?_) (a' := ?_) #[true, true, true, true, true, true, true, false, true, true, false, false, false, false, false, false] rfl rfl (any_of HT_.out (by kernel_rfl)) (fun _ _ _ h => h) (Or.inl ⟨by rfl, ?_⟩) ?_ ?_
   rotate_left
   ·intro w'
    go_simp
    with_reducible rfl
   rotate_left
   ·simp only [Act.put, List.setIfInBounds_toArray, List.set_cons_zero, List.set_cons_succ, i64_w, i32_w]
    rfl
   refine pure_ (i := 10) (N := some 24) (v := ?_) (a' := ?_) #[true, true, true, true, true, true, true, false, true, true, true, false, false, false, false, false] rfl rfl (any_of HT_.out (by kernel_rfl)) (fun _ _ _ h => h) (Or.inl ⟨by rfl, ?_⟩) ?_ ?_
   rotate_left
   ·intro w'
    go_simp
    with_reducible rfl
   rotate_left
   ·simp only [Act.put, List.setIfInBounds_toArray, List.set_cons_zero, List.set_cons_succ, i64_w, i32_w]
    rfl
   refine take_ (i := 7) (N := some 21) (v := ?_) (a' := ?_) #[true, true, true, true, true, true, true, true, true, true, true, false, false, false, false, false] rfl rfl (take_ofW HT_.out HW_.out (by kernel_rfl)) (fun _ _ _ h => h) (Or.inl ⟨by rfl, ?_⟩) hHeld ?_ ?_
   rotate_left
   ·rintro w' ⟨s0, s1⟩
    go_simp
    with_reducible rfl
   rotate_left
   ·simp only [Act.put, List.setIfInBounds_toArray, List.set_cons_zero, List.set_cons_succ, i64_w, i32_w]
    rfl
   refine take_ (i := 11) (N := some 25) (v := ?_) (a' := ?_) #[true, true, true, true, true, true, true, true, true, true, true, true, false, false, false, false] rfl rfl (take_ofW HT_.out HW_.out (by kernel_rfl)) (fun _ _ _ h => h) (Or.inl ⟨by rfl, ?_⟩) hHeld ?_ ?_
   rotate_left
   ·rintro w' ⟨s0, s1⟩
    go_simp
    with_reducible rfl
   rotate_left
   ·simp only [Act.put, List.setIfInBounds_toArray, List.set_cons_zero, List.set_cons_succ, i64_w, i32_w]
    rfl
   refine pure_ (i := 12) (N := some 26) (v := ?_) (a' := ?_) #[true, true, true, true, true, true, true, true, true, true, true, true, true, false, false, false] rfl rfl (any_of HT_.out (by kernel_rfl)) (fun _ _ _ h => h) (Or.inl ⟨by rfl, ?_⟩) ?_ ?_
   rotate_left
   ·intro w'
    go_simp
    with_reducible rfl
   rotate_left
   ·simp only [Act.put, List.setIfInBounds_toArray, List.set_cons_zero, List.set_cons_succ, i64_w, i32_w]
    rfl
   refine last_ (i := 13) (N := none) #[true, true, true, true, true, true, true, true, true, true, true, true, true, true, false, false] rfl rfl (one_of HT_.out (by kernel_rfl)) (by decide) (fun K hK => ?_)
   refine skip_ (w1 := ?_) (by rfl) rfl ?_ ?_
   rotate_left
   ·go_simp
    rfl
   refine hK.out _ _ ?_
   clear hK K
   refine pure_ (i := 14) (N := some 27) (v := ?_) (a' := ?_) #[true, true, true, true, true, true, true, true, true, true, true, true, true, true, true, false] rfl rfl (any_of HT_.out (by kernel_rfl)) (fun _ _ _ h => h) (Or.inl ⟨by rfl, ?_⟩) ?_ ?_
   rotate_left
   ·intro w'
    go_simp
    with_reducible rfl
   rotate_left
   ·simp only [Act.put, List.setIfInBounds_toArray, List.set_cons_zero, List.set_cons_succ, i64_w, i32_w]
    rfl
   refine last_ (i := 15) (N := none) #[true, true, true, true, true, true, true, true, true, true, true, true, true, true, true, true] rfl rfl (one_of HT_.out (by kernel_rfl)) (by decide) (fun K hK => ?_)
   refine skip_ (w1 := ?_) (by rfl) rfl ?_ ?_
   rotate_left
   ·go_simp
    rfl
   refine hK.out _ _ ?_
   clear hK K
   refine done_ (done_of HT_.out (by kernel_rfl)) ?_
   try go_wp2
   go_roundg (J - (i + 1))
   case measure => have := HK.out; have := HB.out; omega
   case rel =>
    have A1 := HA.out
    have A2 := HM2.out
    have A3 := HB.out
    refine ⟨(ys.set (lo + i) a).set (lo + J) b, i + 1, (J : Int) - 1, by first | (rw [f1]; go_num) | go_num, by first | rw [f2] | rfl, ⟨by omega⟩, ⟨by omega, by omega, by simp; exact A1.2.2.1, ?_⟩, HQ, HG⟩
    rw [← A1.2.2.2, EAB.out.1, EAB.out.2, show lo + (i + 1) = lo + i + 1 by omega, show lo + ((J : Int) - 1 + 1).toNat = lo + J by omega, show lo + ((J : Int) + 1).toNat = lo + J + 1 by omega]
    exact revPart_step ys (lo + i) (lo + J) (by omega) (by rw [A1.2.2.1]; omega)
  ·have A1 := HA.out
   have e := revPart_none ys (lo + i) (lo + (j + 1).toNat) (by omega) (by omega)
   have HR := HO.out
   rw [← e, A1.2.2.2] at HR
   have HF := Aside0.mk HR; clear HR e A1 HA HO HL HM HE
   have c0 : decide ((i : Int) < j) = false := decide_eq_false hij
   clear hij
   go_wp2
   first | go_end0 | ((try simp only [Exit.inBlock, Exit.then]); refine bodyPost_ret (results_none rfl _ _ _) rfl ?_)
   exact ⟨rfl, HF.out, HW.out⟩
set_option maxHeartbeats 80000000 in
theorem slices_Reverse_int_int.part0 (w : World) (A : Option Addr) (c : Nat) :
  Calls Tryd.prog 32 #[.slice A 0 c] w fun e w' => e = .returned (.tuple #[]) ∧ w = w' := by
 go_enter Tryd.func32, Tryd.ntmps32
 go_wp2
 refine wp_loop_rounds 1 ?_
 rw [rounds_succ]
 go_wp2
 first | go_end0 | ((try simp only [Exit.inBlock, Exit.then]); refine bodyPost_ret (results_none rfl _ _ _) rfl ?_)
 exact ⟨rfl, rfl⟩
theorem slices_Reverse_int_int.any (w : World) (base : Nat) (ok : Nat → Prop) (A : Option Addr) (N cap : Nat) (xs : List Int) (a b : Int) (hR : Kd.R (Kd.int .i64) 3 w base ok (.slice A N cap) xs) (h0 : 0 ≤ a) (h1 : a ≤ b) (h2 : b ≤ (N : Int))
  (A' : Option Addr) (hA : A' = (if b.toNat = a.toNat then A else A.map (·.add (a.toNat * 1)))) (n : Nat) (hn : n = b.toNat - a.toNat) :
  Calls Tryd.prog 32 #[.slice A' n n] w fun e w' => e = .returned (.tuple #[]) ∧ Kd.R (Kd.int .i64) 3 w' base ok (.slice A N cap) (revPart xs a.toNat b.toNat) ∧ w.grownBy w' (Value.slice A N cap).ownBlock := by
 obtain ⟨rfl, _, hC⟩ := Kd.R_reads' hR
 have hm := Kd.C_max hC
 by_cases hab : a.toNat = b.toNat
 ·obtain rfl : n = 0 := by omega
  refine (slices_Reverse_int_int.part0 w A' 0).mono ?_
  rintro e w' ⟨rfl, rfl⟩
  rw [revPart_none xs a.toNat b.toNat (by omega) (by omega)]
  exact ⟨rfl, hR, World.grownBy.refl _ _⟩
 ·obtain ⟨g, cap', he, _, _, _⟩ := Kd.R_form hR (by omega)
  injection he with he1 he2 he3
  subst he1 he3
  rw [if_neg (fun e => hab e.symm)] at hA
  have hA2 : A' = some ⟨g, a.toNat, none⟩ := by rw [hA, Option.map_some, add_plain, Nat.mul_one]
  subst hA2
  refine (slices_Reverse_int_int.part w base ok g cap xs a.toNat n n hR (by omega) hm).mono ?_
  rintro e w' ⟨rfl, h3, h4⟩
  rw [show a.toNat + n = b.toNat by omega] at h3
  exact ⟨rfl, h3, by simpa [Value.ownBlock] using h4⟩
end Go.Proofs.YtgfkbijmchoolaaDoor.P

import Derived.Test.YtgfkbijmchoolaaDoorSh
import Derived.Test.YtgfkbijmchoolaaDoorP0
import Derived.Test.YtgfkbijmchoolaaDoorP5
namespace Go.Proofs.YtgfkbijmchoolaaDoor.P
open Go.Proofs.YtgfkbijmchoolaaDoorH Go.Proofs.YtgfkbijmchoolaaDoorSh Go.RowKit Go.Proofs.YtgfkbijmchoolaaDoorW.PrintWords Go.Proofs.YtgfkbijmchoolaaDoorW.PrintLast Go.Proofs.YtgfkbijmchoolaaDoorW.PrintMore
attribute [local go_sem] max2_int min2_int max_two min_two max_three min_three max_four min_four
set_option linter.unusedVariables false
set_option linter.unusedSimpArgs false
mutual
def selvedgeref20_Reset.j0 : Nat → List Int → List Int → Int → Int → Int → Bool → Option (List Int × Int)
 | 0, _, _, _, _, _, _ => none
 | k + 1, x0, x1, x2, x3, x4, x47 => if x47 = true then (some (([] : List Int), 2)) else (selvedgeref20_Reset.l0 k x0 x1 x2 x4 ([] : List Int) x3)
def selvedgeref20_Reset.l0 : Nat → List Int → List Int → Int → Int → List Int → Int → Option (List Int × Int)
 | 0, _, _, _, _, _, _ => none
 | k + 1, x0, x1, x2, x4, x12, x13 => if x13 < x4 then (selvedgeref20_Reset.l1 k x0 x1 x2 x4 x12 x13 x13) else (some (x12, 0))
def selvedgeref20_Reset.j3 : Nat → List Int → List Int → Int → Int → List Int → Int → Int → Option (List Int × Int)
 | 0, _, _, _, _, _, _, _ => none
 | k + 1, x0, x1, x2, x4, x12, x13, x14 => if 0 ≤ x13 then (if x13 < (x1.length : Int) then (if x14 = x4 then (if x12.length < 140737488355328 then (selvedgeref20_Reset.l0 k x0 x1 x2 x4 (x12 ++ [x2]) (wrap64 (x13 + 1))) else (none)) else (if 0 ≤ x14 then (if x14 < (x0.length : Int) then ((selvedgeref01_Class.f k (rd x0 x14)).bind fun t189 => (if t189 = 12 then (if x12.length < 140737488355328 then (selvedgeref20_Reset.l0 k x0 x1 x2 x4 (x12 ++ [x2]) (wrap64 (x13 + 1))) else (none)) else ((selvedgeref01_Class.f k (rd x0 x14)).bind fun t194 => (if t194 = 11 then (if x12.length < 140737488355328 then (selvedgeref20_Reset.l0 k x0 x1 x2 x4 (x12 ++ [x2]) (wrap64 (x13 + 1))) else (none)) else (if x12.length < 140737488355328 then (selvedgeref20_Reset.l0 k x0 x1 x2 x4 (x12 ++ [rd x1 x13]) (wrap64 (x13 + 1))) else (none)))))) else (none)) else (none))) else (none)) else (none)
def selvedgeref20_Reset.l1 : Nat → List Int → List Int → Int → Int → List Int → Int → Int → Option (List Int × Int)
 | 0, _, _, _, _, _, _, _ => none
 | k + 1, x0, x1, x2, x4, x12, x13, x14 => if x14 < x4 then (if 0 ≤ x14 then (if x14 < (x0.length : Int) then ((selvedgeref01_Class.f k (rd x0 x14)).bind fun t182 => ((selvedgeref20_blank.f t182).bind fun t183 => (if t183 = true then (selvedgeref20_Reset.l1 k x0 x1 x2 x4 x12 x13 (wrap64 (x14 + 1))) else (selvedgeref20_Reset.j3 k x0 x1 x2 x4 x12 x13 x14)))) else (none)) else (none)) else (selvedgeref20_Reset.j3 k x0 x1 x2 x4 x12 x13 x14)
end
def selvedgeref20_Reset.f (k : Nat) (l0 : List Int) (l1 : List Int) (a2 : Int) (a3 : Int) (a4 : Int) : Option (List Int × Int) := if (l0.length : Int) > 65536 then (some (([] : List Int), 3)) else (if (l1.length : Int) = (l0.length : Int) then (if a2 > 1 then (selvedgeref20_Reset.j0 k l0 l1 a2 a3 a4 true) else ((selvedgeref20_right.f k l1).bind fun t180 => (if t180 = 0 then (if a3 < 0 then (selvedgeref20_Reset.j0 k l0 l1 a2 a3 a4 true) else (if a4 < a3 then (selvedgeref20_Reset.j0 k l0 l1 a2 a3 a4 true) else (selvedgeref20_Reset.j0 k l0 l1 a2 a3 a4 (decide (a4 > (l0.length : Int)))))) else (selvedgeref20_Reset.j0 k l0 l1 a2 a3 a4 true)))) else (selvedgeref20_Reset.j0 k l0 l1 a2 a3 a4 true))
theorem selvedgeref20_Reset.mono_l : ∀ k, (∀ y0 y1 y2 y3 y4 y5, LeO (selvedgeref20_Reset.j0 k y0 y1 y2 y3 y4 y5) (selvedgeref20_Reset.j0 (k + 1) y0 y1 y2 y3 y4 y5)) ∧ (∀ y0 y1 y2 y3 y4 y5, LeO (selvedgeref20_Reset.l0 k y0 y1 y2 y3 y4 y5) (selvedgeref20_Reset.l0 (k + 1) y0 y1 y2 y3 y4 y5)) ∧ (∀ y0 y1 y2 y3 y4 y5 y6, LeO (selvedgeref20_Reset.j3 k y0 y1 y2 y3 y4 y5 y6) (selvedgeref20_Reset.j3 (k + 1) y0 y1 y2 y3 y4 y5 y6)) ∧ (∀ y0 y1 y2 y3 y4 y5 y6, LeO (selvedgeref20_Reset.l1 k y0 y1 y2 y3 y4 y5 y6) (selvedgeref20_Reset.l1 (k + 1) y0 y1 y2 y3 y4 y5 y6))
 | 0 => ⟨fun _ _ _ _ _ _ r h => by simp [selvedgeref20_Reset.j0] at h, fun _ _ _ _ _ _ r h => by simp [selvedgeref20_Reset.l0] at h, fun _ _ _ _ _ _ _ r h => by simp [selvedgeref20_Reset.j3] at h, fun _ _ _ _ _ _ _ r h => by simp [selvedgeref20_Reset.l1] at h⟩
 | k + 1 => by
  obtain ⟨ih0, ih1, ih2, ih3⟩ := selvedgeref20_Reset.mono_l k
  refine ⟨?_, ?_, ?_, ?_⟩
  ·intro y0 y1 y2 y3 y4 y5
   unfold selvedgeref20_Reset.j0
   repeat' first
   | (with_reducible exact ih0 _ _ _ _ _ _)
   | (with_reducible exact ih1 _ _ _ _ _ _)
   | (with_reducible exact ih2 _ _ _ _ _ _ _)
   | (with_reducible exact ih3 _ _ _ _ _ _ _)
   | (with_reducible exact selvedgeref01_Class.mono _ _)
   | (with_reducible exact selvedgeref20_right.mono _ _)
   | (with_reducible exact LeO.refl _)
   | (with_reducible exact LeO.none _)
   | (with_reducible refine LeO.ite ?_ ?_)
   | (with_reducible refine LeO.bind ?_ (fun _ => ?_))
   | exact ih0 _ _ _ _ _ _
   | exact ih1 _ _ _ _ _ _
   | exact ih2 _ _ _ _ _ _ _
   | exact ih3 _ _ _ _ _ _ _
   | exact selvedgeref01_Class.mono _ _
   | exact selvedgeref20_right.mono _ _
   | exact LeO.none _
   | refine LeO.ite ?_ ?_
   | refine LeO.bind ?_ (fun _ => ?_)
  ·intro y0 y1 y2 y3 y4 y5
   unfold selvedgeref20_Reset.l0
   repeat' first
   | (with_reducible exact ih0 _ _ _ _ _ _)
   | (with_reducible exact ih1 _ _ _ _ _ _)
   | (with_reducible exact ih2 _ _ _ _ _ _ _)
   | (with_reducible exact ih3 _ _ _ _ _ _ _)
   | (with_reducible exact selvedgeref01_Class.mono _ _)
   | (with_reducible exact selvedgeref20_right.mono _ _)
   | (with_reducible exact LeO.refl _)
   | (with_reducible exact LeO.none _)
   | (with_reducible refine LeO.ite ?_ ?_)
   | (with_reducible refine LeO.bind ?_ (fun _ => ?_))
   | exact ih0 _ _ _ _ _ _
   | exact ih1 _ _ _ _ _ _
   | exact ih2 _ _ _ _ _ _ _
   | exact ih3 _ _ _ _ _ _ _
   | exact selvedgeref01_Class.mono _ _
   | exact selvedgeref20_right.mono _ _
   | exact LeO.none _
   | refine LeO.ite ?_ ?_
   | refine LeO.bind ?_ (fun _ => ?_)
  ·intro y0 y1 y2 y3 y4 y5 y6
   unfold selvedgeref20_Reset.j3
   repeat' first
   | (with_reducible exact ih0 _ _ _ _ _ _)
   | (with_reducible exact ih1 _ _ _ _ _ _)
   | (with_reducible exact ih2 _ _ _ _ _ _ _)
   | (with_reducible exact ih3 _ _ _ _ _ _ _)
   | (with_reducible exact selvedgeref01_Class.mono _ _)
   | (with_reducible exact selvedgeref20_right.mono _ _)
   | (with_reducible exact LeO.refl _)
   | (with_reducible exact LeO.none _)
   | (with_reducible refine LeO.ite ?_ ?_)
   | (with_reducible refine LeO.bind ?_ (fun _ => ?_))
   | exact ih0 _ _ _ _ _ _
   | exact ih1 _ _ _ _ _ _
   | exact ih2 _ _ _ _ _ _ _
   | exact ih3 _ _ _ _ _ _ _
   | exact selvedgeref01_Class.mono _ _
   | exact selvedgeref20_right.mono _ _
   | exact LeO.none _
   | refine LeO.ite ?_ ?_
   | refine LeO.bind ?_ (fun _ => ?_)
  ·intro y0 y1 y2 y3 y4 y5 y6
   unfold selvedgeref20_Reset.l1
   repeat' first
   | (with_reducible exact ih0 _ _ _ _ _ _)
   | (with_reducible exact ih1 _ _ _ _ _ _)
   | (with_reducible exact ih2 _ _ _ _ _ _ _)
   | (with_reducible exact ih3 _ _ _ _ _ _ _)
   | (with_reducible exact selvedgeref01_Class.mono _ _)
   | (with_reducible exact selvedgeref20_right.mono _ _)
   | (with_reducible exact LeO.refl _)
   | (with_reducible exact LeO.none _)
   | (with_reducible refine LeO.ite ?_ ?_)
   | (with_reducible refine LeO.bind ?_ (fun _ => ?_))
   | exact ih0 _ _ _ _ _ _
   | exact ih1 _ _ _ _ _ _
   | exact ih2 _ _ _ _ _ _ _
   | exact ih3 _ _ _ _ _ _ _
   | exact selvedgeref01_Class.mono _ _
   | exact selvedgeref20_right.mono _ _
   | exact LeO.none _
   | refine LeO.ite ?_ ?_
   | refine LeO.bind ?_ (fun _ => ?_)
theorem selvedgeref20_Reset.mono : ∀ a0 a1 a2 a3 a4 k, LeO (selvedgeref20_Reset.f k a0 a1 a2 a3 a4) (selvedgeref20_Reset.f (k + 1) a0 a1 a2 a3 a4) := by
 intro a0 a1 a2 a3 a4 k
 obtain ⟨ih0, ih1, ih2, ih3⟩ := selvedgeref20_Reset.mono_l k
 unfold selvedgeref20_Reset.f
 repeat' first
   | (with_reducible exact ih0 _ _ _ _ _ _)
   | (with_reducible exact ih1 _ _ _ _ _ _)
   | (with_reducible exact ih2 _ _ _ _ _ _ _)
   | (with_reducible exact ih3 _ _ _ _ _ _ _)
   | (with_reducible exact selvedgeref01_Class.mono _ _)
   | (with_reducible exact selvedgeref20_right.mono _ _)
   | (with_reducible exact LeO.refl _)
   | (with_reducible exact LeO.none _)
   | (with_reducible refine LeO.ite ?_ ?_)
   | (with_reducible refine LeO.bind ?_ (fun _ => ?_))
   | exact ih0 _ _ _ _ _ _
   | exact ih1 _ _ _ _ _ _
   | exact ih2 _ _ _ _ _ _ _
   | exact ih3 _ _ _ _ _ _ _
   | exact selvedgeref01_Class.mono _ _
   | exact selvedgeref20_right.mono _ _
   | exact LeO.none _
   | refine LeO.ite ?_ ?_
   | refine LeO.bind ?_ (fun _ => ?_)
set_option maxHeartbeats 80000000 in
set_option maxRecDepth 100000 in
theorem selvedgeref20_Reset.calls (k : Nat) (A0 : Option Addr) (c0 : Nat) (l0 : List Int) (A1 : Option Addr) (c1 : Nat) (l1 : List Int) (a2 : Int) (a3 : Int) (a4 : Int) (r1 : List Int) (r2 : Int) (w : World) (hr0 : Kd.C (Kd.int .i32) w A0 l0.length l0) (hc0 : l0.length ≤ c0) (hr1 : Kd.C (Kd.int .u8) w A1 l1.length l1) (hc1 : l1.length ≤ c1) (h : selvedgeref20_Reset.f k l0 l1 a2 a3 a4 = some (r1, r2)) :
  Calls Tryd.prog 13 #[.slice A0 l0.length c0, .slice A1 l1.length c1, .int .u8 a2, .int .i64 a3, .int .i64 a4] w fun e w' => ∃ v0_ : Value, e = .returned (.tuple #[v0_, .int .i64 r2]) ∧ Kd.R (Kd.int .u8) 5 w' w.heap.size (fun _ => True) v0_ r1 ∧ Below w.heap.size w w' := by
 have HR0 := Aside0.mk hr0; have HC0 := Aside0.mk hc0; clear hr0 hc0; have HR1 := Aside0.mk hr1; have HC1 := Aside0.mk hc1; clear hr1 hc1
 have HB := Aside0.mk (Below.refl w.heap.size w)
 have H : (if (l0.length : Int) > 65536 then (some (([] : List Int), 3)) else (if (l1.length : Int) = (l0.length : Int) then (if a2 > 1 then (selvedgeref20_Reset.j0 k l0 l1 a2 a3 a4 true) else ((selvedgeref20_right.f k l1).bind fun t180 => (if t180 = 0 then (if a3 < 0 then (selvedgeref20_Reset.j0 k l0 l1 a2 a3 a4 true) else (if a4 < a3 then (selvedgeref20_Reset.j0 k l0 l1 a2 a3 a4 true) else (selvedgeref20_Reset.j0 k l0 l1 a2 a3 a4 (decide (a4 > (l0.length : Int)))))) else (selvedgeref20_Reset.j0 k l0 l1 a2 a3 a4 true)))) else (selvedgeref20_Reset.j0 k l0 l1 a2 a3 a4 true))) = some (r1, r2) := h
 clear h; by_cases c6 : (l0.length : Int) > 65536
 ·rw [if_pos c6] at H; have c6b0 : decide (65536 < (l0.length : Int)) = true := decide_eq_true c6
  have c6b1 : decide (65536 < l0.length) = true := decide_eq_true (by omega)
  clear c6
  simp only [Option.some.injEq, Prod.mk.injEq] at H
  obtain ⟨rfl, rfl⟩ := H
  go_enter Tryd.func13, Tryd.ntmps13
  go_wp2
  go_ret2
  exact ⟨_, FF, by first | exact Kd.R_nil _ _ _ _ _ | exact Kd.N_nil _ _ _ _ _ | exact Kd.V_nil _ _ _ _ _ | exact Kd.Q_nil _ _ _ _ _ | exact Kd.S_nil _ _ _ _ _, BB HB⟩
 ·rw [if_neg c6] at H; have c6b0 : decide (65536 < (l0.length : Int)) = false := decide_eq_false c6
  have c6b1 : decide (65536 < l0.length) = false := decide_eq_false (by omega)
  clear c6; have HC7 := Aside0.mk H; clear H
  go_enter Tryd.func13, Tryd.ntmps13
  go_upto_region 3 with (fail)
  go_cut [47] (fun v47 wc => ∃ (kq : Nat) (x47_6 : Bool), v47 = .bool x47_6 ∧ Aside0 (selvedgeref20_Reset.j0 kq l0 l1 a2 a3 a4 x47_6 = some (r1, r2)) ∧ Aside0 (kq ≤ k) ∧ Aside0 (Below w.heap.size w wc))
  case first =>
   have H := HC7.out
   clear HC7; by_cases c8 : (l1.length : Int) = (l0.length : Int)
   ·rw [if_pos c8] at H; have c8b0 : ((l1.length : Int) == (l0.length : Int)) = true := beq_iff_eq.mpr c8; have c8b1 : ((l1.length : Int) != (l0.length : Int)) = false := bne_eq_false_iff_eq.mpr c8
    have c8b2 : (l1.length == l0.length) = true := by first | simpa using c8 | (simp at c8 ⊢; omega)
    clear c8
    (first | rw [c8b0] | (simp only [i64_w, i32_w]; rw [c8b0]) | skip)
    by_cases c9 : a2 > 1
    ·rw [if_pos c9] at H; have c9b0 : decide (1 < a2) = true := decide_eq_true c9; clear c9
     have H' := Aside0.mk H
     clear H
     go_wp2
     go_meet
     case rel => exact ⟨_, (true), (by first | rfl | (simp; done) | (simp [*]; done)), H', ⟨by first | omega | exact Nat.le_refl _⟩, ⟨BB HB⟩⟩
    ·rw [if_neg c9] at H; have c9b0 : decide (1 < a2) = false := decide_eq_false c9; clear c9; replace H := Option.bind_eq_some_iff.mp H; obtain ⟨t180, A100, H⟩ := H
     replace H : (if t180 = 0 then (if a3 < 0 then (selvedgeref20_Reset.j0 k l0 l1 a2 a3 a4 true) else (if a4 < a3 then (selvedgeref20_Reset.j0 k l0 l1 a2 a3 a4 true) else (selvedgeref20_Reset.j0 k l0 l1 a2 a3 a4 (decide (a4 > (l0.length : Int)))))) else (selvedgeref20_Reset.j0 k l0 l1 a2 a3 a4 true)) = some (r1, r2) := H
     have A10 := Aside0.mk A100; clear A100; by_cases c11 : t180 = 0
     ·rw [if_pos c11] at H; have c11b0 : (t180 == 0) = true := beq_iff_eq.mpr c11; have c11b1 : (t180 != 0) = false := bne_eq_false_iff_eq.mpr c11; clear c11; by_cases c12 : a3 < 0
      ·rw [if_pos c12] at H; have c12b0 : decide (a3 < 0) = true := decide_eq_true c12; clear c12
       have H' := Aside0.mk H
       clear H
       go_wp2_with (first | (go_at_call 29; (with_reducible refine (selvedgeref20_right.calls k _ _ l1 t180 _ ?side1 ?side2 A10.out).mono ?_); (case side1 => repeat (first | exact (Kd.C_below HR1.out HB.out) | (with_reducible refine Kd.C_alloc ?_ _) | (with_reducible refine Kd.C_drewN ?_ _) | (with_reducible refine Kd.C_drew ?_))); (case side2 => exact HC1.out); rintro e w' ⟨rfl, ⟨nd, rfl⟩⟩))
       go_meet
       case rel => exact ⟨_, (true), (by first | rfl | (simp; done) | (simp [*]; done)), H', ⟨by first | omega | exact Nat.le_refl _⟩, ⟨BB HB⟩⟩
      ·rw [if_neg c12] at H; have c12b0 : decide (a3 < 0) = false := decide_eq_false c12; clear c12; by_cases c13 : a4 < a3
       ·rw [if_pos c13] at H; have c13b0 : decide (a4 < a3) = true := decide_eq_true c13; clear c13
        have H' := Aside0.mk H
        clear H
        go_wp2_with (first | (go_at_call 29; (with_reducible refine (selvedgeref20_right.calls k _ _ l1 t180 _ ?side1 ?side2 A10.out).mono ?_); (case side1 => repeat (first | exact (Kd.C_below HR1.out HB.out) | (with_reducible refine Kd.C_alloc ?_ _) | (with_reducible refine Kd.C_drewN ?_ _) | (with_reducible refine Kd.C_drew ?_))); (case side2 => exact HC1.out); rintro e w' ⟨rfl, ⟨nd, rfl⟩⟩))
        go_meet
        case rel => exact ⟨_, (true), (by first | rfl | (simp; done) | (simp [*]; done)), H', ⟨by first | omega | exact Nat.le_refl _⟩, ⟨BB HB⟩⟩
       ·rw [if_neg c13] at H; have c13b0 : decide (a4 < a3) = false := decide_eq_false c13; clear c13
        have H' := Aside0.mk H
        clear H
        go_wp2_with (first | (go_at_call 29; (with_reducible refine (selvedgeref20_right.calls k _ _ l1 t180 _ ?side1 ?side2 A10.out).mono ?_); (case side1 => repeat (first | exact (Kd.C_below HR1.out HB.out) | (with_reducible refine Kd.C_alloc ?_ _) | (with_reducible refine Kd.C_drewN ?_ _) | (with_reducible refine Kd.C_drew ?_))); (case side2 => exact HC1.out); rintro e w' ⟨rfl, ⟨nd, rfl⟩⟩))
        go_meet
        case rel => exact ⟨_, (decide (a4 > (l0.length : Int))), (by first | rfl | (simp; done) | (simp [*]; done)), H', ⟨by first | omega | exact Nat.le_refl _⟩, ⟨BB HB⟩⟩
     ·rw [if_neg c11] at H; have c11b0 : (t180 == 0) = false := beq_eq_false_iff_ne.mpr c11; have c11b1 : (t180 != 0) = true := bne_iff_ne.mpr c11
      have H' := Aside0.mk H
      clear H
      go_wp2_with (first | (go_at_call 29; (with_reducible refine (selvedgeref20_right.calls k _ _ l1 t180 _ ?side1 ?side2 A10.out).mono ?_); (case side1 => repeat (first | exact (Kd.C_below HR1.out HB.out) | (with_reducible refine Kd.C_alloc ?_ _) | (with_reducible refine Kd.C_drewN ?_ _) | (with_reducible refine Kd.C_drew ?_))); (case side2 => exact HC1.out); rintro e w' ⟨rfl, ⟨nd, rfl⟩⟩))
      go_meet
      case rel => exact ⟨_, (true), (by first | rfl | (simp; done) | (simp [*]; done)), H', ⟨by first | omega | exact Nat.le_refl _⟩, ⟨BB HB⟩⟩
   ·rw [if_neg c8] at H; have c8b0 : ((l1.length : Int) == (l0.length : Int)) = false := beq_eq_false_iff_ne.mpr c8; have c8b1 : ((l1.length : Int) != (l0.length : Int)) = true := bne_iff_ne.mpr c8
    have c8b2 : (l1.length == l0.length) = false := by first | simpa using c8 | (simp at c8 ⊢; omega)
    (first | rw [c8b0] | (simp only [i64_w, i32_w]; rw [c8b0]) | skip)
    have H' := Aside0.mk H
    clear H
    go_wp2
    go_meet
    case rel => exact ⟨_, (true), (by first | rfl | (simp; done) | (simp [*]; done)), H', ⟨by first | omega | exact Nat.le_refl _⟩, ⟨BB HB⟩⟩
  case rest =>
   clear HC7; (try clear c1); (try clear p2); (try clear c6); (try clear c6b0); (try clear c6b1); (try clear c8); (try clear c8b0); (try clear c8b1); (try clear c8b2); (try clear c9); (try clear c9b0); (try clear c11); (try clear c11b0); (try clear c11b1); (try clear c12); (try clear c12b0); (try clear c13); (try clear c13b0)
   obtain ⟨kq, x47_6, rfl, HA, HJ6, HB⟩ := hcut
   cases kq with
   | zero => exact absurd HA.out (by simp [selvedgeref20_Reset.j0])
   | succ kj6 =>
    have H := HA.out
    clear HA
    simp only [selvedgeref20_Reset.j0] at H
    by_cases c14 : x47_6 = true
    ·subst c14
     have H1 : (some (([] : List Int), 2)) = some (r1, r2) := by rw [if_pos rfl] at H; exact H
     clear H
     have H := H1
     clear H1
     simp only [Option.some.injEq, Prod.mk.injEq] at H
     obtain ⟨rfl, rfl⟩ := H
     go_wp2
     go_ret2
     exact ⟨_, FF, by first | exact Kd.R_nil _ _ _ _ _ | exact Kd.N_nil _ _ _ _ _ | exact Kd.V_nil _ _ _ _ _ | exact Kd.Q_nil _ _ _ _ _ | exact Kd.S_nil _ _ _ _ _, BB HB⟩
    ·replace c14 := Bool.eq_false_iff.mpr c14
     subst c14
     have H1 : (selvedgeref20_Reset.l0 kj6 l0 l1 a2 a4 ([] : List Int) a3) = some (r1, r2) := by rw [if_neg (show ¬ (false = true) by decide)] at H; exact H
     clear H
     have H := H1
     clear H1
     have H' := Aside0.mk H
     clear H
     go_wp2
     go_loopg [12, 13] kj6 (fun kq v12 v13 w' => ∃ (x12_2 : List Int) (x13_2 : Int), v13 = .int .i64 x13_2 ∧ Aside0 (selvedgeref20_Reset.l0 kq l0 l1 a2 a4 x12_2 x13_2 = some (r1, r2)) ∧ Aside0 (kq ≤ kj6) ∧ Aside0 (Kd.R (Kd.int .u8) 5 w' w.heap.size (fun _ => True) v12 x12_2) ∧ Aside0 (Below w.heap.size w w'))
     case atStart => exact ⟨(([] : List Int)), (a3), (by first | rfl | (simp; done) | (simp [*]; done)), H', ⟨Nat.le_refl _⟩, ⟨by first | exact Kd.R_nil _ _ _ _ _ | exact Kd.N_nil _ _ _ _ _ | exact Kd.V_nil _ _ _ _ _ | exact Kd.Q_nil _ _ _ _ _ | exact Kd.S_nil _ _ _ _ _⟩, ⟨BB HB⟩⟩
     case round =>
      clear H'
      (try clear c1); (try clear p2); (try clear c6); (try clear c6b0); (try clear c6b1); (try clear c8); (try clear c8b0); (try clear c8b1); (try clear c8b2); (try clear c9); (try clear c9b0); (try clear c11); (try clear c11b0); (try clear c11b1); (try clear c12); (try clear c12b0); (try clear c13); (try clear c13b0); (try clear c14); (try clear p2)
      obtain ⟨x12_2, x13_2, rfl, HA, HK2, HO_12, HB⟩ := hrel
      cases gk with
      | zero => exact absurd HA.out (by simp [selvedgeref20_Reset.l0])
      | succ k2 =>
       have H := HA.out
       clear HA
       simp only [selvedgeref20_Reset.l0] at H
       by_cases c15 : x13_2 < a4
       ·rw [if_pos c15] at H; have c15b0 : decide (x13_2 < a4) = true := decide_eq_true c15; clear c15; have HC16 := Aside0.mk H; clear H
        go_upto_block 2 with (fail)
        go_cut [14] (fun v14 wc => ∃ (kq : Nat) (x14_15 : Int), v14 = .int .i64 x14_15 ∧ Aside0 (selvedgeref20_Reset.j3 kq l0 l1 a2 a4 x12_2 x13_2 x14_15 = some (r1, r2)) ∧ Aside0 (kq ≤ k2) ∧ Aside0 (Kd.R (Kd.int .u8) 5 wc w.heap.size (fun _ => True) u12 x12_2) ∧ Aside0 (Below w.heap.size w wc))
        case first =>
         have H := HC16.out
         clear HC16
         have H' := Aside0.mk H
         clear H
         go_wp2
         go_loopg [14] k2 (fun kq v14 w' => ∃ (x14_3 : Int), v14 = .int .i64 x14_3 ∧ Aside0 (selvedgeref20_Reset.l1 kq l0 l1 a2 a4 x12_2 x13_2 x14_3 = some (r1, r2)) ∧ Aside0 (kq ≤ k2) ∧ Aside0 (Kd.R (Kd.int .u8) 5 w' w.heap.size (fun _ => True) u12 x12_2) ∧ Aside0 (Below w.heap.size w w'))
         case atStart => exact ⟨(x13_2), (by first | rfl | (simp; done) | (simp [*]; done)), H', ⟨Nat.le_refl _⟩, ⟨RR HO_12⟩, ⟨BB HB⟩⟩
         case round =>
          clear H'
          (try clear c1); (try clear p2); (try clear c6); (try clear c6b0); (try clear c6b1); (try clear c8); (try clear c8b0); (try clear c8b1); (try clear c8b2); (try clear c9); (try clear c9b0); (try clear c11); (try clear c11b0); (try clear c11b1); (try clear c12); (try clear c12b0); (try clear c13); (try clear c13b0); (try clear c14); (try clear c15); (try clear c15b0); (try clear p2)
          obtain ⟨x14_3, rfl, HA, HK3, HO_12, HB⟩ := hrel
          cases gk with
          | zero => exact absurd HA.out (by simp [selvedgeref20_Reset.l1])
          | succ k3 =>
           have H := HA.out
           clear HA
           simp only [selvedgeref20_Reset.l1] at H
           by_cases c17 : x14_3 < a4
           ·rw [if_pos c17] at H; have c17b0 : decide (x14_3 < a4) = true := decide_eq_true c17; clear c17
            (first | rw [c17b0] | (simp only [i64_w, i32_w]; rw [c17b0]) | skip)
            by_cases c18 : 0 ≤ x14_3
            ·rw [if_pos c18] at H; have c18b0 : decide (0 ≤ x14_3) = true := decide_eq_true c18; clear c18; by_cases c19 : x14_3 < (l0.length : Int)
             ·rw [if_pos c19] at H; have c19b0 : decide (x14_3 < (l0.length : Int)) = true := decide_eq_true c19; clear c19; replace H := Option.bind_eq_some_iff.mp H; obtain ⟨t182, A200, H⟩ := H
              replace H : ((selvedgeref20_blank.f t182).bind fun t183 => (if t183 = true then (selvedgeref20_Reset.l1 k3 l0 l1 a2 a4 x12_2 x13_2 (wrap64 (x14_3 + 1))) else (selvedgeref20_Reset.j3 k3 l0 l1 a2 a4 x12_2 x13_2 x14_3))) = some (r1, r2) := H
              have A20 := Aside0.mk A200; clear A200; replace H := Option.bind_eq_some_iff.mp H; obtain ⟨t183, A210, H⟩ := H
              replace H : (if t183 = true then (selvedgeref20_Reset.l1 k3 l0 l1 a2 a4 x12_2 x13_2 (wrap64 (x14_3 + 1))) else (selvedgeref20_Reset.j3 k3 l0 l1 a2 a4 x12_2 x13_2 x14_3)) = some (r1, r2) := H
              have A21 := Aside0.mk A210; clear A210; by_cases c22 : t183 = true
              ·subst c22
               have H1 : (selvedgeref20_Reset.l1 k3 l0 l1 a2 a4 x12_2 x13_2 (wrap64 (x14_3 + 1))) = some (r1, r2) := by rw [if_pos rfl] at H; exact H
               clear H
               have H := H1
               clear H1
               have H' := Aside0.mk H
               clear H
               have p181 : 0 ≤ (x14_3 : Int) := of_decide_eq_true (by first | (with_reducible assumption) | assumption)
               have q181 : x14_3 < (l0.length : Int) := of_decide_eq_true (by first | (with_reducible assumption) | assumption)
               obtain ⟨ad181, e181, hx181_0⟩ := Kd.at_int HR0.out x14_3 p181 q181
               cases e181
               replace hx181_0 := (HB.out.cell (World.block_lt_of_cell? w _ hx181_0)).trans hx181_0
               replace p181 := eq_true p181; replace q181 := eq_true q181
               go_wp2_with (first | (go_at_call 31; (with_reducible refine (selvedgeref01_Class.calls k3 (rd l0 x14_3) t182 _ A20.out).mono ?_); rintro e w23 ⟨rfl, hb⟩; have n0_ := Aside0.mk (Kd.R_below (RR HO_12) hb); have n1_ := Aside0.mk (below_step (BB HB) hb); clear HO_12; clear HB; have HO_12 := n0_; have HB := n1_; clear n0_ n1_; (try clear hb); (try clear hb2); (try clear hk); (try clear hi)) | (go_at_call 30; (with_reducible refine (selvedgeref20_blank.calls t182 true _ A21.out).mono ?_); rintro e w' ⟨rfl, ⟨nd, rfl⟩⟩))
               go_roundg k3
               case measure => have := HJ6.out; have := HK2.out; have := HK3.out; omega
               case rel => exact ⟨(wrap64 (x14_3 + 1)), (by first | rfl | (simp; done) | (simp [*]; done)), H', ⟨by have := HJ6.out; have := HK2.out; have := HK3.out; omega⟩, ⟨RR HO_12⟩, ⟨BB HB⟩⟩
              ·replace c22 := Bool.eq_false_iff.mpr c22
               subst c22
               have H1 : (selvedgeref20_Reset.j3 k3 l0 l1 a2 a4 x12_2 x13_2 x14_3) = some (r1, r2) := by rw [if_neg (show ¬ (false = true) by decide)] at H; exact H
               clear H
               have H := H1
               clear H1
               have H' := Aside0.mk H
               clear H
               have p181 : 0 ≤ (x14_3 : Int) := of_decide_eq_true (by first | (with_reducible assumption) | assumption)
               have q181 : x14_3 < (l0.length : Int) := of_decide_eq_true (by first | (with_reducible assumption) | assumption)
               obtain ⟨ad181, e181, hx181_0⟩ := Kd.at_int HR0.out x14_3 p181 q181
               cases e181
               replace hx181_0 := (HB.out.cell (World.block_lt_of_cell? w _ hx181_0)).trans hx181_0
               replace p181 := eq_true p181; replace q181 := eq_true q181
               go_wp2_with (first | (go_at_call 31; (with_reducible refine (selvedgeref01_Class.calls k3 (rd l0 x14_3) t182 _ A20.out).mono ?_); rintro e w24 ⟨rfl, hb⟩; have n0_ := Aside0.mk (Kd.R_below (RR HO_12) hb); have n1_ := Aside0.mk (below_step (BB HB) hb); clear HO_12; clear HB; have HO_12 := n0_; have HB := n1_; clear n0_ n1_; (try clear hb); (try clear hb2); (try clear hk); (try clear hi)) | (go_at_call 30; (with_reducible refine (selvedgeref20_blank.calls t182 false _ A21.out).mono ?_); rintro e w' ⟨rfl, ⟨nd, rfl⟩⟩))
               go_meet
               case rel => exact ⟨_, (x14_3), (by first | rfl | (simp; done) | (simp [*]; done)), H', ⟨by have := HJ6.out; have := HK2.out; have := HK3.out; first | omega | exact Nat.le_refl _⟩, ⟨RR HO_12⟩, ⟨BB HB⟩⟩
             ·rw [if_neg c19] at H
              exact absurd H (by simp)
            ·rw [if_neg c18] at H
             exact absurd H (by simp)
           ·rw [if_neg c17] at H; have c17b0 : decide (x14_3 < a4) = false := decide_eq_false c17; clear c17
            (first | rw [c17b0] | (simp only [i64_w, i32_w]; rw [c17b0]) | skip)
            have H' := Aside0.mk H
            clear H
            go_wp2
            go_meet
            case rel => exact ⟨_, (x14_3), (by first | rfl | (simp; done) | (simp [*]; done)), H', ⟨by have := HJ6.out; have := HK2.out; have := HK3.out; first | omega | exact Nat.le_refl _⟩, ⟨RR HO_12⟩, ⟨BB HB⟩⟩
        case rest =>
         clear HC16; (try clear c1); (try clear p1); (try clear q1); (try clear hx1); (try clear c2); (try clear p2); (try clear c6); (try clear c6b0); (try clear c6b1); (try clear p6); (try clear c8); (try clear c8b0); (try clear c8b1); (try clear c8b2); (try clear c9); (try clear c9b0); (try clear c11); (try clear c11b0); (try clear c11b1); (try clear c12); (try clear c12b0); (try clear c13); (try clear c13b0); (try clear c14); (try clear c15); (try clear c15b0); (try clear c17); (try clear c17b0); (try clear c18); (try clear c18b0); (try clear p18); (try clear q18); (try clear hx18); (try clear c19); (try clear c19b0); (try clear c22); (try clear hx181_0); (try clear p181); (try clear p2); (try clear q181)
         obtain ⟨kq, x14_15, rfl, HA, HJ15, HO_12, HB⟩ := hcut
         cases kq with
         | zero => exact absurd HA.out (by simp [selvedgeref20_Reset.j3])
         | succ kj15 =>
          have H := HA.out
          clear HA
          simp only [selvedgeref20_Reset.j3] at H
          by_cases c25 : 0 ≤ x13_2
          ·rw [if_pos c25] at H; have c25b0 : decide (0 ≤ x13_2) = true := decide_eq_true c25; clear c25; by_cases c26 : x13_2 < (l1.length : Int)
           ·rw [if_pos c26] at H; have c26b0 : decide (x13_2 < (l1.length : Int)) = true := decide_eq_true c26; clear c26; by_cases c27 : x14_15 = a4
            ·rw [if_pos c27] at H; have c27b0 : (x14_15 == a4) = true := beq_iff_eq.mpr c27; have c27b1 : (x14_15 != a4) = false := bne_eq_false_iff_eq.mpr c27; clear c27; by_cases c28 : x12_2.length < 140737488355328
             ·rw [if_pos c28] at H; have LMc28 := Aside0.mk c28; clear c28
              obtain ⟨y185, hy185⟩ : ∃ y_ : List Int, y_ = (x12_2 ++ [a2]) := ⟨_, rfl⟩
              replace H : (selvedgeref20_Reset.l0 kj15 l0 l1 a2 a4 y185 (wrap64 (x13_2 + 1))) = some (r1, r2) := by first | (rw [hy185]; with_reducible exact H) | (have H2_ := (Option.bind_some _ _).symm.trans H; rw [hy185]; with_reducible exact H2_) | (have H2_ := (Option.bind_some _ _).symm.trans H; with_reducible exact H2_) | with_reducible exact H | (rw [hy185]; exact H) | exact H
              have Ny185 := Aside0.mk hy185; clear hy185
              have H' := Aside0.mk H
              clear H
              have p184 : 0 ≤ (x13_2 : Int) := of_decide_eq_true (by first | (with_reducible assumption) | assumption)
              have q184 : x13_2 < (l1.length : Int) := of_decide_eq_true (by first | (with_reducible assumption) | assumption)
              obtain ⟨ad184, e184, hx184_0⟩ := Kd.at_int HR1.out x13_2 p184 q184
              cases e184
              replace hx184_0 := (HB.out.cell (World.block_lt_of_cell? w _ hx184_0)).trans hx184_0
              replace p184 := eq_true p184; replace q184 := eq_true q184
              go_wp2_with (first | ((with_reducible refine gate_builtin (b := .append) (xs := #[.tmp 92, .tmp 94]) rfl ?_); (try (refine gate_guard (by rfl) ?_; dsimp only)); at_builtin; refine Kd.R_append (Kd.int .u8) (w0 := w) w.heap.size rfl (.tmp 92) (.tmp 94) 23 5 (.int .u8 0) 1 rfl Tryd.underlying23 info5 rfl (by decide) (by omega) u12 x12_2 a2 [.int .u8 a2] (fun _ => True) (fun _ => False) rfl rfl ?aP (fun _ hk => hk.elim) ?aF ?aO ?aB ?aS ?aL ?_; (case aP => exact rfl); (case aB => exact (BB HB)); (case aF => exact (fun _ _ => trivial)); (case aO => exact (RR HO_12)); (case aS => exact (below_size (BB HB))); (case aL => have := LMc28.out; omega); intro v186 w29 ho hb hg hat; rw [← Ny185.out] at ho; have n0_ := Aside0.mk (hb); have n1_ := Aside0.mk (ho); clear HB; clear HO_12; have HB := n0_; have HO187 := n1_; clear n0_ n1_; clear ho hb hg hat))
              go_roundg kj15
              case measure => have := HJ6.out; have := HK2.out; have := HJ15.out; omega
              case rel => exact ⟨(y185), (wrap64 (x13_2 + 1)), (by first | rfl | (simp; done) | (simp [*]; done)), H', ⟨by have := HJ6.out; have := HK2.out; have := HJ15.out; omega⟩, ⟨RR HO187⟩, ⟨BB HB⟩⟩
             ·rw [if_neg c28] at H
              exact absurd H (by simp)
            ·rw [if_neg c27] at H; have c27b0 : (x14_15 == a4) = false := beq_eq_false_iff_ne.mpr c27; have c27b1 : (x14_15 != a4) = true := bne_iff_ne.mpr c27; by_cases c30 : 0 ≤ x14_15
             ·rw [if_pos c30] at H; have c30b0 : decide (0 ≤ x14_15) = true := decide_eq_true c30; clear c30; by_cases c31 : x14_15 < (l0.length : Int)
              ·rw [if_pos c31] at H; have c31b0 : decide (x14_15 < (l0.length : Int)) = true := decide_eq_true c31; clear c31; replace H := Option.bind_eq_some_iff.mp H; obtain ⟨t189, A320, H⟩ := H
               replace H : (if t189 = 12 then (if x12_2.length < 140737488355328 then (selvedgeref20_Reset.l0 kj15 l0 l1 a2 a4 (x12_2 ++ [a2]) (wrap64 (x13_2 + 1))) else (none)) else ((selvedgeref01_Class.f kj15 (rd l0 x14_15)).bind fun t194 => (if t194 = 11 then (if x12_2.length < 140737488355328 then (selvedgeref20_Reset.l0 kj15 l0 l1 a2 a4 (x12_2 ++ [a2]) (wrap64 (x13_2 + 1))) else (none)) else (if x12_2.length < 140737488355328 then (selvedgeref20_Reset.l0 kj15 l0 l1 a2 a4 (x12_2 ++ [rd l1 x13_2]) (wrap64 (x13_2 + 1))) else (none))))) = some (r1, r2) := H
               have A32 := Aside0.mk A320; clear A320; by_cases c33 : t189 = 12
               ·rw [if_pos c33] at H; have c33b0 : (t189 == 12) = true := beq_iff_eq.mpr c33; have c33b1 : (t189 != 12) = false := bne_eq_false_iff_eq.mpr c33; clear c33; by_cases c34 : x12_2.length < 140737488355328
                ·rw [if_pos c34] at H; have LMc34 := Aside0.mk c34; clear c34
                 obtain ⟨y190, hy190⟩ : ∃ y_ : List Int, y_ = (x12_2 ++ [a2]) := ⟨_, rfl⟩
                 replace H : (selvedgeref20_Reset.l0 kj15 l0 l1 a2 a4 y190 (wrap64 (x13_2 + 1))) = some (r1, r2) := by first | (rw [hy190]; with_reducible exact H) | (have H2_ := (Option.bind_some _ _).symm.trans H; rw [hy190]; with_reducible exact H2_) | (have H2_ := (Option.bind_some _ _).symm.trans H; with_reducible exact H2_) | with_reducible exact H | (rw [hy190]; exact H) | exact H
                 have Ny190 := Aside0.mk hy190; clear hy190
                 have H' := Aside0.mk H
                 clear H
                 have p184 : 0 ≤ (x13_2 : Int) := of_decide_eq_true (by first | (with_reducible assumption) | assumption)
                 have q184 : x13_2 < (l1.length : Int) := of_decide_eq_true (by first | (with_reducible assumption) | assumption)
                 obtain ⟨ad184, e184, hx184_0⟩ := Kd.at_int HR1.out x13_2 p184 q184
                 cases e184
                 replace hx184_0 := (HB.out.cell (World.block_lt_of_cell? w _ hx184_0)).trans hx184_0
                 replace p184 := eq_true p184; replace q184 := eq_true q184
                 have p188 : 0 ≤ (x14_15 : Int) := of_decide_eq_true (by first | (with_reducible assumption) | assumption)
                 have q188 : x14_15 < (l0.length : Int) := of_decide_eq_true (by first | (with_reducible assumption) | assumption)
                 obtain ⟨ad188, e188, hx188_0⟩ := Kd.at_int HR0.out x14_15 p188 q188
                 cases e188
                 replace hx188_0 := (HB.out.cell (World.block_lt_of_cell? w _ hx188_0)).trans hx188_0
                 replace p188 := eq_true p188; replace q188 := eq_true q188
                 go_wp2_with (first | (go_at_call 31; (with_reducible refine (selvedgeref01_Class.calls kj15 (rd l0 x14_15) t189 _ A32.out).mono ?_); rintro e w35 ⟨rfl, hb⟩; have n0_ := Aside0.mk (Kd.R_below (RR HO_12) hb); have n1_ := Aside0.mk (below_step (BB HB) hb); clear HO_12; clear HB; have HO_12 := n0_; have HB := n1_; clear n0_ n1_; (try clear hb); (try clear hb2); (try clear hk); (try clear hi)) | ((with_reducible refine gate_builtin (b := .append) (xs := #[.tmp 92, .tmp 94]) rfl ?_); (try (refine gate_guard (by rfl) ?_; dsimp only)); at_builtin; refine Kd.R_append (Kd.int .u8) (w0 := w) w.heap.size rfl (.tmp 92) (.tmp 94) 23 5 (.int .u8 0) 1 rfl Tryd.underlying23 info5 rfl (by decide) (by omega) u12 x12_2 a2 [.int .u8 a2] (fun _ => True) (fun _ => False) rfl rfl ?aP (fun _ hk => hk.elim) ?aF ?aO ?aB ?aS ?aL ?_; (case aP => exact rfl); (case aB => exact (BB HB)); (case aF => exact (fun _ _ => trivial)); (case aO => exact (RR HO_12)); (case aS => exact (below_size (BB HB))); (case aL => have := LMc34.out; omega); intro v191 w36 ho hb hg hat; rw [← Ny190.out] at ho; have n0_ := Aside0.mk (hb); have n1_ := Aside0.mk (ho); clear HB; clear HO_12; have HB := n0_; have HO192 := n1_; clear n0_ n1_; clear ho hb hg hat))
                 go_roundg kj15
                 case measure => have := HJ6.out; have := HK2.out; have := HJ15.out; omega
                 case rel => exact ⟨(y190), (wrap64 (x13_2 + 1)), (by first | rfl | (simp; done) | (simp [*]; done)), H', ⟨by have := HJ6.out; have := HK2.out; have := HJ15.out; omega⟩, ⟨RR HO192⟩, ⟨BB HB⟩⟩
                ·rw [if_neg c34] at H
                 exact absurd H (by simp)
               ·rw [if_neg c33] at H; have c33b0 : (t189 == 12) = false := beq_eq_false_iff_ne.mpr c33; have c33b1 : (t189 != 12) = true := bne_iff_ne.mpr c33; replace H := Option.bind_eq_some_iff.mp H; obtain ⟨t194, A370, H⟩ := H
                replace H : (if t194 = 11 then (if x12_2.length < 140737488355328 then (selvedgeref20_Reset.l0 kj15 l0 l1 a2 a4 (x12_2 ++ [a2]) (wrap64 (x13_2 + 1))) else (none)) else (if x12_2.length < 140737488355328 then (selvedgeref20_Reset.l0 kj15 l0 l1 a2 a4 (x12_2 ++ [rd l1 x13_2]) (wrap64 (x13_2 + 1))) else (none))) = some (r1, r2) := H
                have A37 := Aside0.mk A370; clear A370
                have Et194 : Aside0 (t194 = t189) := Aside0.mk (Option.some.inj (A37.out.symm.trans A32.out))
                by_cases c38 : t194 = 11
                ·rw [if_pos c38] at H; have c38b0 : (t194 == 11) = true := beq_iff_eq.mpr c38
                 have c38b0q : (t189 == 11) = true := by rw [← Et194.out]; exact c38b0
                 have c38b1 : (t194 != 11) = false := bne_eq_false_iff_eq.mpr c38
                 have c38b1q : (t189 != 11) = false := by rw [← Et194.out]; exact c38b1
                 clear c38; by_cases c39 : x12_2.length < 140737488355328
                 ·rw [if_pos c39] at H; have LMc39 := Aside0.mk c39; clear c39
                  obtain ⟨y195, hy195⟩ : ∃ y_ : List Int, y_ = (x12_2 ++ [a2]) := ⟨_, rfl⟩
                  replace H : (selvedgeref20_Reset.l0 kj15 l0 l1 a2 a4 y195 (wrap64 (x13_2 + 1))) = some (r1, r2) := by first | (rw [hy195]; with_reducible exact H) | (have H2_ := (Option.bind_some _ _).symm.trans H; rw [hy195]; with_reducible exact H2_) | (have H2_ := (Option.bind_some _ _).symm.trans H; with_reducible exact H2_) | with_reducible exact H | (rw [hy195]; exact H) | exact H
                  have Ny195 := Aside0.mk hy195; clear hy195
                  have H' := Aside0.mk H
                  clear H
                  have p184 : 0 ≤ (x13_2 : Int) := of_decide_eq_true (by first | (with_reducible assumption) | assumption)
                  have q184 : x13_2 < (l1.length : Int) := of_decide_eq_true (by first | (with_reducible assumption) | assumption)
                  obtain ⟨ad184, e184, hx184_0⟩ := Kd.at_int HR1.out x13_2 p184 q184
                  cases e184
                  replace hx184_0 := (HB.out.cell (World.block_lt_of_cell? w _ hx184_0)).trans hx184_0
                  replace p184 := eq_true p184; replace q184 := eq_true q184
                  have p188 : 0 ≤ (x14_15 : Int) := of_decide_eq_true (by first | (with_reducible assumption) | assumption)
                  have q188 : x14_15 < (l0.length : Int) := of_decide_eq_true (by first | (with_reducible assumption) | assumption)
                  obtain ⟨ad188, e188, hx188_0⟩ := Kd.at_int HR0.out x14_15 p188 q188
                  cases e188
                  replace hx188_0 := (HB.out.cell (World.block_lt_of_cell? w _ hx188_0)).trans hx188_0
                  replace p188 := eq_true p188; replace q188 := eq_true q188
                  go_wp2_with (first | (go_at_call 31; (with_reducible refine (selvedgeref01_Class.calls kj15 (rd l0 x14_15) t189 _ A32.out).mono ?_); rintro e w40 ⟨rfl, hb⟩; have n0_ := Aside0.mk (Kd.R_below (RR HO_12) hb); have n1_ := Aside0.mk (below_step (BB HB) hb); clear HO_12; clear HB; have HO_12 := n0_; have HB := n1_; clear n0_ n1_; (try clear hb); (try clear hb2); (try clear hk); (try clear hi); have p193 : 0 ≤ (x14_15 : Int) := of_decide_eq_true (by first | (with_reducible assumption) | assumption); have q193 : x14_15 < (l0.length : Int) := of_decide_eq_true (by first | (with_reducible assumption) | assumption); obtain ⟨ad193, e193, hx193_0⟩ := Kd.at_int HR0.out x14_15 p193 q193; obtain rfl : ad188 = ad193 := (by injection e193); replace hx193_0 := (HB.out.cell (World.block_lt_of_cell? w _ hx193_0)).trans hx193_0; replace p193 := eq_true p193; replace q193 := eq_true q193) | (go_at_call 31; (with_reducible refine (selvedgeref01_Class.calls kj15 (rd l0 x14_15) t194 _ A37.out).mono ?_); rintro e w41 ⟨rfl, hb⟩; have n0_ := Aside0.mk (Kd.R_below (RR HO_12) hb); have n1_ := Aside0.mk (below_step (BB HB) hb); clear HO_12; clear HB; have HO_12 := n0_; have HB := n1_; clear n0_ n1_; (try clear hb); (try clear hb2); (try clear hk); (try clear hi)) | ((with_reducible refine gate_builtin (b := .append) (xs := #[.tmp 92, .tmp 94]) rfl ?_); (try (refine gate_guard (by rfl) ?_; dsimp only)); at_builtin; refine Kd.R_append (Kd.int .u8) (w0 := w) w.heap.size rfl (.tmp 92) (.tmp 94) 23 5 (.int .u8 0) 1 rfl Tryd.underlying23 info5 rfl (by decide) (by omega) u12 x12_2 a2 [.int .u8 a2] (fun _ => True) (fun _ => False) rfl rfl ?aP (fun _ hk => hk.elim) ?aF ?aO ?aB ?aS ?aL ?_; (case aP => exact rfl); (case aB => exact (BB HB)); (case aF => exact (fun _ _ => trivial)); (case aO => exact (RR HO_12)); (case aS => exact (below_size (BB HB))); (case aL => have := LMc39.out; omega); intro v196 w42 ho hb hg hat; rw [← Ny195.out] at ho; have n0_ := Aside0.mk (hb); have n1_ := Aside0.mk (ho); clear HB; clear HO_12; have HB := n0_; have HO197 := n1_; clear n0_ n1_; clear ho hb hg hat))
                  go_roundg kj15
                  case measure => have := HJ6.out; have := HK2.out; have := HJ15.out; omega
                  case rel => exact ⟨(y195), (wrap64 (x13_2 + 1)), (by first | rfl | (simp; done) | (simp [*]; done)), H', ⟨by have := HJ6.out; have := HK2.out; have := HJ15.out; omega⟩, ⟨RR HO197⟩, ⟨BB HB⟩⟩
                 ·rw [if_neg c39] at H
                  exact absurd H (by simp)
                ·rw [if_neg c38] at H; have c38b0 : (t194 == 11) = false := beq_eq_false_iff_ne.mpr c38
                 have c38b0q : (t189 == 11) = false := by rw [← Et194.out]; exact c38b0
                 have c38b1 : (t194 != 11) = true := bne_iff_ne.mpr c38
                 have c38b1q : (t189 != 11) = true := by rw [← Et194.out]; exact c38b1
                 by_cases c43 : x12_2.length < 140737488355328
                 ·rw [if_pos c43] at H; have LMc43 := Aside0.mk c43; clear c43
                  obtain ⟨y198, hy198⟩ : ∃ y_ : List Int, y_ = (x12_2 ++ [rd l1 x13_2]) := ⟨_, rfl⟩
                  replace H : (selvedgeref20_Reset.l0 kj15 l0 l1 a2 a4 y198 (wrap64 (x13_2 + 1))) = some (r1, r2) := by first | (rw [hy198]; with_reducible exact H) | (have H2_ := (Option.bind_some _ _).symm.trans H; rw [hy198]; with_reducible exact H2_) | (have H2_ := (Option.bind_some _ _).symm.trans H; with_reducible exact H2_) | with_reducible exact H | (rw [hy198]; exact H) | exact H
                  have Ny198 := Aside0.mk hy198; clear hy198
                  have H' := Aside0.mk H
                  clear H
                  have p184 : 0 ≤ (x13_2 : Int) := of_decide_eq_true (by first | (with_reducible assumption) | assumption)
                  have q184 : x13_2 < (l1.length : Int) := of_decide_eq_true (by first | (with_reducible assumption) | assumption)
                  obtain ⟨ad184, e184, hx184_0⟩ := Kd.at_int HR1.out x13_2 p184 q184
                  cases e184
                  replace hx184_0 := (HB.out.cell (World.block_lt_of_cell? w _ hx184_0)).trans hx184_0
                  replace p184 := eq_true p184; replace q184 := eq_true q184
                  have p188 : 0 ≤ (x14_15 : Int) := of_decide_eq_true (by first | (with_reducible assumption) | assumption)
                  have q188 : x14_15 < (l0.length : Int) := of_decide_eq_true (by first | (with_reducible assumption) | assumption)
                  obtain ⟨ad188, e188, hx188_0⟩ := Kd.at_int HR0.out x14_15 p188 q188
                  cases e188
                  replace hx188_0 := (HB.out.cell (World.block_lt_of_cell? w _ hx188_0)).trans hx188_0
                  replace p188 := eq_true p188; replace q188 := eq_true q188
                  go_wp2_with (first | (go_at_call 31; (with_reducible refine (selvedgeref01_Class.calls kj15 (rd l0 x14_15) t189 _ A32.out).mono ?_); rintro e w44 ⟨rfl, hb⟩; have n0_ := Aside0.mk (Kd.R_below (RR HO_12) hb); have n1_ := Aside0.mk (below_step (BB HB) hb); clear HO_12; clear HB; have HO_12 := n0_; have HB := n1_; clear n0_ n1_; (try clear hb); (try clear hb2); (try clear hk); (try clear hi); have p193 : 0 ≤ (x14_15 : Int) := of_decide_eq_true (by first | (with_reducible assumption) | assumption); have q193 : x14_15 < (l0.length : Int) := of_decide_eq_true (by first | (with_reducible assumption) | assumption); obtain ⟨ad193, e193, hx193_0⟩ := Kd.at_int HR0.out x14_15 p193 q193; obtain rfl : ad188 = ad193 := (by injection e193); replace hx193_0 := (HB.out.cell (World.block_lt_of_cell? w _ hx193_0)).trans hx193_0; replace p193 := eq_true p193; replace q193 := eq_true q193) | (go_at_call 31; (with_reducible refine (selvedgeref01_Class.calls kj15 (rd l0 x14_15) t194 _ A37.out).mono ?_); rintro e w45 ⟨rfl, hb⟩; have n0_ := Aside0.mk (Kd.R_below (RR HO_12) hb); have n1_ := Aside0.mk (below_step (BB HB) hb); clear HO_12; clear HB; have HO_12 := n0_; have HB := n1_; clear n0_ n1_; (try clear hb); (try clear hb2); (try clear hk); (try clear hi)) | ((with_reducible refine gate_builtin (b := .append) (xs := #[.tmp 92, .tmp 94]) rfl ?_); (try (refine gate_guard (by rfl) ?_; dsimp only)); at_builtin; refine Kd.R_append (Kd.int .u8) (w0 := w) w.heap.size rfl (.tmp 92) (.tmp 94) 23 5 (.int .u8 0) 1 rfl Tryd.underlying23 info5 rfl (by decide) (by omega) u12 x12_2 (rd l1 x13_2) [.int .u8 (rd l1 x13_2)] (fun _ => True) (fun _ => False) rfl rfl ?aP (fun _ hk => hk.elim) ?aF ?aO ?aB ?aS ?aL ?_; (case aP => exact rfl); (case aB => exact (BB HB)); (case aF => exact (fun _ _ => trivial)); (case aO => exact (RR HO_12)); (case aS => exact (below_size (BB HB))); (case aL => have := LMc43.out; omega); intro v199 w46 ho hb hg hat; rw [← Ny198.out] at ho; have n0_ := Aside0.mk (hb); have n1_ := Aside0.mk (ho); clear HB; clear HO_12; have HB := n0_; have HO200 := n1_; clear n0_ n1_; clear ho hb hg hat))
                  go_roundg kj15
                  case measure => have := HJ6.out; have := HK2.out; have := HJ15.out; omega
                  case rel => exact ⟨(y198), (wrap64 (x13_2 + 1)), (by first | rfl | (simp; done) | (simp [*]; done)), H', ⟨by have := HJ6.out; have := HK2.out; have := HJ15.out; omega⟩, ⟨RR HO200⟩, ⟨BB HB⟩⟩
                 ·rw [if_neg c43] at H
                  exact absurd H (by simp)
              ·rw [if_neg c31] at H
               exact absurd H (by simp)
             ·rw [if_neg c30] at H
              exact absurd H (by simp)
           ·rw [if_neg c26] at H
            exact absurd H (by simp)
          ·rw [if_neg c25] at H
           exact absurd H (by simp)
       ·rw [if_neg c15] at H; have c15b0 : decide (x13_2 < a4) = false := decide_eq_false c15; clear c15
        simp only [Option.some.injEq, Prod.mk.injEq] at H
        obtain ⟨rfl, rfl⟩ := H
        go_wp2
        go_ret2
        exact ⟨_, FF, RR HO_12, BB HB⟩
end Go.Proofs.YtgfkbijmchoolaaDoor.P

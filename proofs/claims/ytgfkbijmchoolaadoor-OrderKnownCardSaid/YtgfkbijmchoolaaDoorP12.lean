import Derived.Test.YtgfkbijmchoolaaDoorSh
import Derived.Test.YtgfkbijmchoolaaDoorP0
import Derived.Test.YtgfkbijmchoolaaDoorP5
namespace Go.Proofs.YtgfkbijmchoolaaDoor.P
open Go.Proofs.YtgfkbijmchoolaaDoorH Go.Proofs.YtgfkbijmchoolaaDoorSh Go.RowKit Go.Proofs.YtgfkbijmchoolaaDoorW.PrintWords Go.Proofs.YtgfkbijmchoolaaDoorW.PrintLast Go.Proofs.YtgfkbijmchoolaaDoorW.PrintMore
attribute [local go_sem] max2_int min2_int max_two min_two max_three min_three max_four min_four
set_option linter.unusedVariables false
set_option linter.unusedSimpArgs false
mutual
def selvedgeref20_Visual.l0 : Nat → List Int → List Int → Int → Option (List Int × Int)
 | 0, _, _, _ => none
 | k + 1, x0, x5, x6 => if x6 < (x5.length : Int) then (if 0 ≤ x6 then (selvedgeref20_Visual.l0 k x0 (x5.set (x6 : Int).toNat x6) (wrap64 (x6 + 1))) else (none)) else (selvedgeref20_Visual.l1 k x0 x5 126)
def selvedgeref20_Visual.l1 : Nat → List Int → List Int → Int → Option (List Int × Int)
 | 0, _, _, _ => none
 | k + 1, x0, x5, x7 => if x7 ≥ 1 then (selvedgeref20_Visual.l2 k x0 x5 x7 false 0) else (some (x5, 0))
def selvedgeref20_Visual.l2 : Nat → List Int → List Int → Int → Bool → Int → Option (List Int × Int)
 | 0, _, _, _, _, _ => none
 | k + 1, x0, x5, x7, x8, x9 => if x9 < (x0.length : Int) then (if x8 = true then (selvedgeref20_Visual.l2 k x0 x5 x7 true (wrap64 (x9 + 1))) else (if 0 ≤ x9 then (if (wrap64 (rd x0 x9)) ≤ x7 then (selvedgeref20_Visual.l2 k x0 x5 x7 ((Int.tmod (rd x0 x9) 2) == 1) (wrap64 (x9 + 1))) else (selvedgeref20_Visual.l2 k x0 x5 x7 false (wrap64 (x9 + 1)))) else (none))) else (selvedgeref20_Visual.l3 k x0 x5 x7 x8 0)
def selvedgeref20_Visual.l3 : Nat → List Int → List Int → Int → Bool → Int → Option (List Int × Int)
 | 0, _, _, _, _, _ => none
 | k + 1, x0, x5, x7, x8, x10 => if x10 < (x5.length : Int) then (selvedgeref20_Visual.j4 k x0 x5 x7 x8 x10 x8) else (selvedgeref20_Visual.j4 k x0 x5 x7 x8 x10 false)
def selvedgeref20_Visual.j4 : Nat → List Int → List Int → Int → Bool → Int → Bool → Option (List Int × Int)
 | 0, _, _, _, _, _, _ => none
 | k + 1, x0, x5, x7, x8, x10, x68 => if x68 = true then (selvedgeref20_Visual.l4 k x0 x5 x7 x8 x10 x10) else (selvedgeref20_Visual.l1 k x0 x5 (wrap64 (x7 - 1)))
def selvedgeref20_Visual.j6 : Nat → List Int → List Int → Int → Bool → Int → Int → Option (List Int × Int)
 | 0, _, _, _, _, _, _ => none
 | k + 1, x0, x5, x7, x8, x10, x11 => selvedgeref20_Visual.l5 k x0 x5 x7 x8 x10 x11 x10 (wrap64 (x11 - 1))
def selvedgeref20_Visual.l5 : Nat → List Int → List Int → Int → Bool → Int → Int → Int → Int → Option (List Int × Int)
 | 0, _, _, _, _, _, _, _, _ => none
 | k + 1, x0, x5, x7, x8, x10, x11, x12, x13 => if x12 < x13 then (if 0 ≤ x12 then (if x12 < (x5.length : Int) then (if 0 ≤ x13 then (if x13 < (x5.length : Int) then (selvedgeref20_Visual.l5 k x0 ((x5.set (x12 : Int).toNat (rd x5 x13)).set (x13 : Int).toNat (rd x5 x12)) x7 x8 x10 x11 (wrap64 (x12 + 1)) (wrap64 (x13 - 1))) else (none)) else (none)) else (none)) else (none)) else (if x11 > x10 then (selvedgeref20_Visual.l3 k x0 x5 x7 x8 (wrap64 ((wrap64 (x11 - 1)) + 1))) else (selvedgeref20_Visual.l3 k x0 x5 x7 x8 (wrap64 (x10 + 1))))
def selvedgeref20_Visual.l4 : Nat → List Int → List Int → Int → Bool → Int → Int → Option (List Int × Int)
 | 0, _, _, _, _, _, _ => none
 | k + 1, x0, x5, x7, x8, x10, x11 => if x11 < (x5.length : Int) then (if 0 ≤ x11 then (if 0 ≤ (rd x5 x11) then (if (rd x5 x11) < (x0.length : Int) then (if (wrap64 (rd x0 (rd x5 x11))) ≥ x7 then (selvedgeref20_Visual.l4 k x0 x5 x7 x8 x10 (wrap64 (x11 + 1))) else (selvedgeref20_Visual.j6 k x0 x5 x7 x8 x10 x11)) else (none)) else (none)) else (none)) else (selvedgeref20_Visual.j6 k x0 x5 x7 x8 x10 x11)
end
def selvedgeref20_Visual.f (k : Nat) (l0 : List Int) : Option (List Int × Int) := (selvedgeref20_right.f k l0).bind fun t314 => (if t314 = 0 then (if 0 ≤ (l0.length : Int) then (if ((l0.length : Int) : Int).toNat ≤ 35184372088832 then (selvedgeref20_Visual.l0 k l0 (List.replicate ((l0.length : Int) : Int).toNat 0) 0) else (none)) else (none)) else (some (([] : List Int), t314)))
theorem selvedgeref20_Visual.mono_l : ∀ k, (∀ y0 y1 y2, LeO (selvedgeref20_Visual.l0 k y0 y1 y2) (selvedgeref20_Visual.l0 (k + 1) y0 y1 y2)) ∧ (∀ y0 y1 y2, LeO (selvedgeref20_Visual.l1 k y0 y1 y2) (selvedgeref20_Visual.l1 (k + 1) y0 y1 y2)) ∧ (∀ y0 y1 y2 y3 y4, LeO (selvedgeref20_Visual.l2 k y0 y1 y2 y3 y4) (selvedgeref20_Visual.l2 (k + 1) y0 y1 y2 y3 y4)) ∧ (∀ y0 y1 y2 y3 y4, LeO (selvedgeref20_Visual.l3 k y0 y1 y2 y3 y4) (selvedgeref20_Visual.l3 (k + 1) y0 y1 y2 y3 y4)) ∧ (∀ y0 y1 y2 y3 y4 y5, LeO (selvedgeref20_Visual.j4 k y0 y1 y2 y3 y4 y5) (selvedgeref20_Visual.j4 (k + 1) y0 y1 y2 y3 y4 y5)) ∧ (∀ y0 y1 y2 y3 y4 y5, LeO (selvedgeref20_Visual.j6 k y0 y1 y2 y3 y4 y5) (selvedgeref20_Visual.j6 (k + 1) y0 y1 y2 y3 y4 y5)) ∧ (∀ y0 y1 y2 y3 y4 y5 y6 y7, LeO (selvedgeref20_Visual.l5 k y0 y1 y2 y3 y4 y5 y6 y7) (selvedgeref20_Visual.l5 (k + 1) y0 y1 y2 y3 y4 y5 y6 y7)) ∧ (∀ y0 y1 y2 y3 y4 y5, LeO (selvedgeref20_Visual.l4 k y0 y1 y2 y3 y4 y5) (selvedgeref20_Visual.l4 (k + 1) y0 y1 y2 y3 y4 y5))
 | 0 => ⟨fun _ _ _ r h => by simp [selvedgeref20_Visual.l0] at h, fun _ _ _ r h => by simp [selvedgeref20_Visual.l1] at h, fun _ _ _ _ _ r h => by simp [selvedgeref20_Visual.l2] at h, fun _ _ _ _ _ r h => by simp [selvedgeref20_Visual.l3] at h, fun _ _ _ _ _ _ r h => by simp [selvedgeref20_Visual.j4] at h, fun _ _ _ _ _ _ r h => by simp [selvedgeref20_Visual.j6] at h, fun _ _ _ _ _ _ _ _ r h => by simp [selvedgeref20_Visual.l5] at h, fun _ _ _ _ _ _ r h => by simp [selvedgeref20_Visual.l4] at h⟩
 | k + 1 => by
  obtain ⟨ih0, ih1, ih2, ih3, ih4, ih5, ih6, ih7⟩ := selvedgeref20_Visual.mono_l k
  refine ⟨?_, ?_, ?_, ?_, ?_, ?_, ?_, ?_⟩
  ·intro y0 y1 y2
   unfold selvedgeref20_Visual.l0
   repeat' first
   | (with_reducible exact ih0 _ _ _)
   | (with_reducible exact ih1 _ _ _)
   | (with_reducible exact ih2 _ _ _ _ _)
   | (with_reducible exact ih3 _ _ _ _ _)
   | (with_reducible exact ih4 _ _ _ _ _ _)
   | (with_reducible exact ih5 _ _ _ _ _ _)
   | (with_reducible exact ih6 _ _ _ _ _ _ _ _)
   | (with_reducible exact ih7 _ _ _ _ _ _)
   | (with_reducible exact selvedgeref20_right.mono _ _)
   | (with_reducible exact LeO.refl _)
   | (with_reducible exact LeO.none _)
   | (with_reducible refine LeO.ite ?_ ?_)
   | (with_reducible refine LeO.bind ?_ (fun _ => ?_))
   | exact ih0 _ _ _
   | exact ih1 _ _ _
   | exact ih2 _ _ _ _ _
   | exact ih3 _ _ _ _ _
   | exact ih4 _ _ _ _ _ _
   | exact ih5 _ _ _ _ _ _
   | exact ih6 _ _ _ _ _ _ _ _
   | exact ih7 _ _ _ _ _ _
   | exact selvedgeref20_right.mono _ _
   | exact LeO.none _
   | refine LeO.ite ?_ ?_
   | refine LeO.bind ?_ (fun _ => ?_)
  ·intro y0 y1 y2
   unfold selvedgeref20_Visual.l1
   repeat' first
   | (with_reducible exact ih0 _ _ _)
   | (with_reducible exact ih1 _ _ _)
   | (with_reducible exact ih2 _ _ _ _ _)
   | (with_reducible exact ih3 _ _ _ _ _)
   | (with_reducible exact ih4 _ _ _ _ _ _)
   | (with_reducible exact ih5 _ _ _ _ _ _)
   | (with_reducible exact ih6 _ _ _ _ _ _ _ _)
   | (with_reducible exact ih7 _ _ _ _ _ _)
   | (with_reducible exact selvedgeref20_right.mono _ _)
   | (with_reducible exact LeO.refl _)
   | (with_reducible exact LeO.none _)
   | (with_reducible refine LeO.ite ?_ ?_)
   | (with_reducible refine LeO.bind ?_ (fun _ => ?_))
   | exact ih0 _ _ _
   | exact ih1 _ _ _
   | exact ih2 _ _ _ _ _
   | exact ih3 _ _ _ _ _
   | exact ih4 _ _ _ _ _ _
   | exact ih5 _ _ _ _ _ _
   | exact ih6 _ _ _ _ _ _ _ _
   | exact ih7 _ _ _ _ _ _
   | exact selvedgeref20_right.mono _ _
   | exact LeO.none _
   | refine LeO.ite ?_ ?_
   | refine LeO.bind ?_ (fun _ => ?_)
  ·intro y0 y1 y2 y3 y4
   unfold selvedgeref20_Visual.l2
   repeat' first
   | (with_reducible exact ih0 _ _ _)
   | (with_reducible exact ih1 _ _ _)
   | (with_reducible exact ih2 _ _ _ _ _)
   | (with_reducible exact ih3 _ _ _ _ _)
   | (with_reducible exact ih4 _ _ _ _ _ _)
   | (with_reducible exact ih5 _ _ _ _ _ _)
   | (with_reducible exact ih6 _ _ _ _ _ _ _ _)
   | (with_reducible exact ih7 _ _ _ _ _ _)
   | (with_reducible exact selvedgeref20_right.mono _ _)
   | (with_reducible exact LeO.refl _)
   | (with_reducible exact LeO.none _)
   | (with_reducible refine LeO.ite ?_ ?_)
   | (with_reducible refine LeO.bind ?_ (fun _ => ?_))
   | exact ih0 _ _ _
   | exact ih1 _ _ _
   | exact ih2 _ _ _ _ _
   | exact ih3 _ _ _ _ _
   | exact ih4 _ _ _ _ _ _
   | exact ih5 _ _ _ _ _ _
   | exact ih6 _ _ _ _ _ _ _ _
   | exact ih7 _ _ _ _ _ _
   | exact selvedgeref20_right.mono _ _
   | exact LeO.none _
   | refine LeO.ite ?_ ?_
   | refine LeO.bind ?_ (fun _ => ?_)
  ·intro y0 y1 y2 y3 y4
   unfold selvedgeref20_Visual.l3
   repeat' first
   | (with_reducible exact ih0 _ _ _)
   | (with_reducible exact ih1 _ _ _)
   | (with_reducible exact ih2 _ _ _ _ _)
   | (with_reducible exact ih3 _ _ _ _ _)
   | (with_reducible exact ih4 _ _ _ _ _ _)
   | (with_reducible exact ih5 _ _ _ _ _ _)
   | (with_reducible exact ih6 _ _ _ _ _ _ _ _)
   | (with_reducible exact ih7 _ _ _ _ _ _)
   | (with_reducible exact selvedgeref20_right.mono _ _)
   | (with_reducible exact LeO.refl _)
   | (with_reducible exact LeO.none _)
   | (with_reducible refine LeO.ite ?_ ?_)
   | (with_reducible refine LeO.bind ?_ (fun _ => ?_))
   | exact ih0 _ _ _
   | exact ih1 _ _ _
   | exact ih2 _ _ _ _ _
   | exact ih3 _ _ _ _ _
   | exact ih4 _ _ _ _ _ _
   | exact ih5 _ _ _ _ _ _
   | exact ih6 _ _ _ _ _ _ _ _
   | exact ih7 _ _ _ _ _ _
   | exact selvedgeref20_right.mono _ _
   | exact LeO.none _
   | refine LeO.ite ?_ ?_
   | refine LeO.bind ?_ (fun _ => ?_)
  ·intro y0 y1 y2 y3 y4 y5
   unfold selvedgeref20_Visual.j4
   repeat' first
   | (with_reducible exact ih0 _ _ _)
   | (with_reducible exact ih1 _ _ _)
   | (with_reducible exact ih2 _ _ _ _ _)
   | (with_reducible exact ih3 _ _ _ _ _)
   | (with_reducible exact ih4 _ _ _ _ _ _)
   | (with_reducible exact ih5 _ _ _ _ _ _)
   | (with_reducible exact ih6 _ _ _ _ _ _ _ _)
   | (with_reducible exact ih7 _ _ _ _ _ _)
   | (with_reducible exact selvedgeref20_right.mono _ _)
   | (with_reducible exact LeO.refl _)
   | (with_reducible exact LeO.none _)
   | (with_reducible refine LeO.ite ?_ ?_)
   | (with_reducible refine LeO.bind ?_ (fun _ => ?_))
   | exact ih0 _ _ _
   | exact ih1 _ _ _
   | exact ih2 _ _ _ _ _
   | exact ih3 _ _ _ _ _
   | exact ih4 _ _ _ _ _ _
   | exact ih5 _ _ _ _ _ _
   | exact ih6 _ _ _ _ _ _ _ _
   | exact ih7 _ _ _ _ _ _
   | exact selvedgeref20_right.mono _ _
   | exact LeO.none _
   | refine LeO.ite ?_ ?_
   | refine LeO.bind ?_ (fun _ => ?_)
  ·intro y0 y1 y2 y3 y4 y5
   unfold selvedgeref20_Visual.j6
   repeat' first
   | (with_reducible exact ih0 _ _ _)
   | (with_reducible exact ih1 _ _ _)
   | (with_reducible exact ih2 _ _ _ _ _)
   | (with_reducible exact ih3 _ _ _ _ _)
   | (with_reducible exact ih4 _ _ _ _ _ _)
   | (with_reducible exact ih5 _ _ _ _ _ _)
   | (with_reducible exact ih6 _ _ _ _ _ _ _ _)
   | (with_reducible exact ih7 _ _ _ _ _ _)
   | (with_reducible exact selvedgeref20_right.mono _ _)
   | (with_reducible exact LeO.refl _)
   | (with_reducible exact LeO.none _)
   | (with_reducible refine LeO.ite ?_ ?_)
   | (with_reducible refine LeO.bind ?_ (fun _ => ?_))
   | exact ih0 _ _ _
   | exact ih1 _ _ _
   | exact ih2 _ _ _ _ _
   | exact ih3 _ _ _ _ _
   | exact ih4 _ _ _ _ _ _
   | exact ih5 _ _ _ _ _ _
   | exact ih6 _ _ _ _ _ _ _ _
   | exact ih7 _ _ _ _ _ _
   | exact selvedgeref20_right.mono _ _
   | exact LeO.none _
   | refine LeO.ite ?_ ?_
   | refine LeO.bind ?_ (fun _ => ?_)
  ·intro y0 y1 y2 y3 y4 y5 y6 y7
   unfold selvedgeref20_Visual.l5
   repeat' first
   | (with_reducible exact ih0 _ _ _)
   | (with_reducible exact ih1 _ _ _)
   | (with_reducible exact ih2 _ _ _ _ _)
   | (with_reducible exact ih3 _ _ _ _ _)
   | (with_reducible exact ih4 _ _ _ _ _ _)
   | (with_reducible exact ih5 _ _ _ _ _ _)
   | (with_reducible exact ih6 _ _ _ _ _ _ _ _)
   | (with_reducible exact ih7 _ _ _ _ _ _)
   | (with_reducible exact selvedgeref20_right.mono _ _)
   | (with_reducible exact LeO.refl _)
   | (with_reducible exact LeO.none _)
   | (with_reducible refine LeO.ite ?_ ?_)
   | (with_reducible refine LeO.bind ?_ (fun _ => ?_))
   | exact ih0 _ _ _
   | exact ih1 _ _ _
   | exact ih2 _ _ _ _ _
   | exact ih3 _ _ _ _ _
   | exact ih4 _ _ _ _ _ _
   | exact ih5 _ _ _ _ _ _
   | exact ih6 _ _ _ _ _ _ _ _
   | exact ih7 _ _ _ _ _ _
   | exact selvedgeref20_right.mono _ _
   | exact LeO.none _
   | refine LeO.ite ?_ ?_
   | refine LeO.bind ?_ (fun _ => ?_)
  ·intro y0 y1 y2 y3 y4 y5
   unfold selvedgeref20_Visual.l4
   repeat' first
   | (with_reducible exact ih0 _ _ _)
   | (with_reducible exact ih1 _ _ _)
   | (with_reducible exact ih2 _ _ _ _ _)
   | (with_reducible exact ih3 _ _ _ _ _)
   | (with_reducible exact ih4 _ _ _ _ _ _)
   | (with_reducible exact ih5 _ _ _ _ _ _)
   | (with_reducible exact ih6 _ _ _ _ _ _ _ _)
   | (with_reducible exact ih7 _ _ _ _ _ _)
   | (with_reducible exact selvedgeref20_right.mono _ _)
   | (with_reducible exact LeO.refl _)
   | (with_reducible exact LeO.none _)
   | (with_reducible refine LeO.ite ?_ ?_)
   | (with_reducible refine LeO.bind ?_ (fun _ => ?_))
   | exact ih0 _ _ _
   | exact ih1 _ _ _
   | exact ih2 _ _ _ _ _
   | exact ih3 _ _ _ _ _
   | exact ih4 _ _ _ _ _ _
   | exact ih5 _ _ _ _ _ _
   | exact ih6 _ _ _ _ _ _ _ _
   | exact ih7 _ _ _ _ _ _
   | exact selvedgeref20_right.mono _ _
   | exact LeO.none _
   | refine LeO.ite ?_ ?_
   | refine LeO.bind ?_ (fun _ => ?_)
theorem selvedgeref20_Visual.mono : ∀ a0 k, LeO (selvedgeref20_Visual.f k a0) (selvedgeref20_Visual.f (k + 1) a0) := by
 intro a0 k
 obtain ⟨ih0, ih1, ih2, ih3, ih4, ih5, ih6, ih7⟩ := selvedgeref20_Visual.mono_l k
 unfold selvedgeref20_Visual.f
 repeat' first
   | (with_reducible exact ih0 _ _ _)
   | (with_reducible exact ih1 _ _ _)
   | (with_reducible exact ih2 _ _ _ _ _)
   | (with_reducible exact ih3 _ _ _ _ _)
   | (with_reducible exact ih4 _ _ _ _ _ _)
   | (with_reducible exact ih5 _ _ _ _ _ _)
   | (with_reducible exact ih6 _ _ _ _ _ _ _ _)
   | (with_reducible exact ih7 _ _ _ _ _ _)
   | (with_reducible exact selvedgeref20_right.mono _ _)
   | (with_reducible exact LeO.refl _)
   | (with_reducible exact LeO.none _)
   | (with_reducible refine LeO.ite ?_ ?_)
   | (with_reducible refine LeO.bind ?_ (fun _ => ?_))
   | exact ih0 _ _ _
   | exact ih1 _ _ _
   | exact ih2 _ _ _ _ _
   | exact ih3 _ _ _ _ _
   | exact ih4 _ _ _ _ _ _
   | exact ih5 _ _ _ _ _ _
   | exact ih6 _ _ _ _ _ _ _ _
   | exact ih7 _ _ _ _ _ _
   | exact selvedgeref20_right.mono _ _
   | exact LeO.none _
   | refine LeO.ite ?_ ?_
   | refine LeO.bind ?_ (fun _ => ?_)
set_option maxHeartbeats 80000000 in
set_option maxRecDepth 100000 in
theorem selvedgeref20_Visual.calls (k : Nat) (A0 : Option Addr) (c0 : Nat) (l0 : List Int) (r1 : List Int) (r2 : Int) (w : World) (hr0 : Kd.C (Kd.int .u8) w A0 l0.length l0) (hc0 : l0.length ≤ c0) (h : selvedgeref20_Visual.f k l0 = some (r1, r2)) :
  Calls Tryd.prog 20 #[.slice A0 l0.length c0] w fun e w' => ∃ v0_ : Value, e = .returned (.tuple #[v0_, .int .i64 r2]) ∧ Kd.R (Kd.int .i64) 3 w' w.heap.size (fun _ => True) v0_ r1 ∧ Below w.heap.size w w' := by
 have HR0 := Aside0.mk hr0; have HC0 := Aside0.mk hc0; clear hr0 hc0
 have HB := Aside0.mk (Below.refl w.heap.size w)
 have H : ((selvedgeref20_right.f k l0).bind fun t314 => (if t314 = 0 then (if 0 ≤ (l0.length : Int) then (if ((l0.length : Int) : Int).toNat ≤ 35184372088832 then (selvedgeref20_Visual.l0 k l0 (List.replicate ((l0.length : Int) : Int).toNat 0) 0) else (none)) else (none)) else (some (([] : List Int), t314)))) = some (r1, r2) := h
 clear h; replace H := Option.bind_eq_some_iff.mp H; obtain ⟨t314, A20, H⟩ := H
 replace H : (if t314 = 0 then (if 0 ≤ (l0.length : Int) then (if ((l0.length : Int) : Int).toNat ≤ 35184372088832 then (selvedgeref20_Visual.l0 k l0 (List.replicate ((l0.length : Int) : Int).toNat 0) 0) else (none)) else (none)) else (some (([] : List Int), t314))) = some (r1, r2) := H
 have A2 := Aside0.mk A20; clear A20; by_cases c3 : t314 = 0
 ·rw [if_pos c3] at H; have c3b0 : (t314 == 0) = true := beq_iff_eq.mpr c3; have c3b1 : (t314 != 0) = false := bne_eq_false_iff_eq.mpr c3; clear c3; by_cases c4 : 0 ≤ (l0.length : Int)
  ·rw [if_pos c4] at H
   have c4b0 := eq_true c4
   have c4b1 : decide (0 ≤ (l0.length : Int)) = true := decide_eq_true c4; clear c4; by_cases c5 : ((l0.length : Int) : Int).toNat ≤ 35184372088832
   ·rw [if_pos c5] at H
    have c5b0 := eq_true c5
    have c5b1 : decide (((l0.length : Int) : Int).toNat ≤ 35184372088832) = true := decide_eq_true c5; clear c5
    obtain ⟨y315, hy315⟩ : ∃ y_ : List Int, y_ = (List.replicate ((l0.length : Int) : Int).toNat 0) := ⟨_, rfl⟩
    replace H : (selvedgeref20_Visual.l0 k l0 y315 0) = some (r1, r2) := by first | (rw [hy315]; with_reducible exact H) | (have H2_ := (Option.bind_some _ _).symm.trans H; rw [hy315]; with_reducible exact H2_) | (have H2_ := (Option.bind_some _ _).symm.trans H; with_reducible exact H2_) | with_reducible exact H | (rw [hy315]; exact H) | exact H
    have Ny315 := Aside0.mk hy315; clear hy315
    have H' := Aside0.mk H
    clear H
    go_enter Tryd.func20, Tryd.ntmps20
    go_wp2_with (first | (go_at_call 29; (with_reducible refine (selvedgeref20_right.calls k _ _ l0 t314 _ ?side1 ?side2 A2.out).mono ?_); (case side1 => repeat (first | exact HR0.out | (with_reducible refine Kd.C_alloc ?_ _) | (with_reducible refine Kd.C_drewN ?_ _) | (with_reducible refine Kd.C_drew ?_))); (case side2 => exact HC0.out); rintro e w' ⟨rfl, ⟨nd, rfl⟩⟩; (try first | exact ⟨rfl, _, World.drewN_drewN _ _ _⟩ | exact ⟨rfl, _, Eq.trans (World.drewN_drewN _ _ _) (congrArg (World.drewN _) (Nat.add_assoc _ _ _))⟩)) | ((with_reducible refine gate_dst (N := 23) rfl ?_); refine Kd.R_make (Kd.int .i64) _ 3 rfl (N := 23) rfl 30 _ _ rfl (l0.length : Int) rfl rfl Tryd.underlying30 (.int .i64 0) 8 info3 rfl (by decide) (by omega) 0 (ok := fun _ => True) (okp := fun _ => True) rfl (fun _ hk => hk) trivial (of_decide_eq_true (by first | (with_reducible assumption) | assumption)) (Nat.le_trans (Nat.mul_le_mul_right _ (of_decide_eq_true (by first | (with_reducible assumption) | assumption) : (l0.length : Int).toNat ≤ 35184372088832)) (by omega)) (Below.refl _ _) (Nat.le_refl _) ?_; intro v316 w6 ho7 hb hg_ hnew_; clear hg_ hnew_; (first | rw [← Ny315.out] at ho7 | (simp only [Int.reduceToNat] at ho7; rw [← Ny315.out] at ho7)); have n0_ := Aside0.mk (Kd.R_lower ho7 (below_size (BB HB))); have n1_ := Aside0.mk (below_step (BB HB) hb); clear HB; have HO317 := n0_; have HB := n1_; clear n0_ n1_; clear hb ho7))
    repeat (go_quiet (first | (go_at_call 29; (with_reducible refine (selvedgeref20_right.calls k _ _ l0 t314 _ ?side1 ?side2 A2.out).mono ?_); (case side1 => repeat (first | exact HR0.out | (with_reducible refine Kd.C_alloc ?_ _) | (with_reducible refine Kd.C_drewN ?_ _) | (with_reducible refine Kd.C_drew ?_))); (case side2 => exact HC0.out); rintro e w' ⟨rfl, ⟨nd, rfl⟩⟩; (try first | exact ⟨rfl, _, World.drewN_drewN _ _ _⟩ | exact ⟨rfl, _, Eq.trans (World.drewN_drewN _ _ _) (congrArg (World.drewN _) (Nat.add_assoc _ _ _))⟩)) | ((with_reducible refine gate_dst (N := 23) rfl ?_); refine Kd.R_make (Kd.int .i64) _ 3 rfl (N := 23) rfl 30 _ _ rfl (l0.length : Int) rfl rfl Tryd.underlying30 (.int .i64 0) 8 info3 rfl (by decide) (by omega) 0 (ok := fun _ => True) (okp := fun _ => True) rfl (fun _ hk => hk) trivial (of_decide_eq_true (by first | (with_reducible assumption) | assumption)) (Nat.le_trans (Nat.mul_le_mul_right _ (of_decide_eq_true (by first | (with_reducible assumption) | assumption) : (l0.length : Int).toNat ≤ 35184372088832)) (by omega)) (Below.refl _ _) (Nat.le_refl _) ?_; intro v316 w6 ho7 hb hg_ hnew_; clear hg_ hnew_; (first | rw [← Ny315.out] at ho7 | (simp only [Int.reduceToNat] at ho7; rw [← Ny315.out] at ho7)); have n0_ := Aside0.mk (Kd.R_lower ho7 (below_size (BB HB))); have n1_ := Aside0.mk (below_step (BB HB) hb); clear HB; have HO317 := n0_; have HB := n1_; clear n0_ n1_; clear hb ho7)); try go_wp2_with (first | (go_at_call 29; (with_reducible refine (selvedgeref20_right.calls k _ _ l0 t314 _ ?side1 ?side2 A2.out).mono ?_); (case side1 => repeat (first | exact HR0.out | (with_reducible refine Kd.C_alloc ?_ _) | (with_reducible refine Kd.C_drewN ?_ _) | (with_reducible refine Kd.C_drew ?_))); (case side2 => exact HC0.out); rintro e w' ⟨rfl, ⟨nd, rfl⟩⟩; (try first | exact ⟨rfl, _, World.drewN_drewN _ _ _⟩ | exact ⟨rfl, _, Eq.trans (World.drewN_drewN _ _ _) (congrArg (World.drewN _) (Nat.add_assoc _ _ _))⟩)) | ((with_reducible refine gate_dst (N := 23) rfl ?_); refine Kd.R_make (Kd.int .i64) _ 3 rfl (N := 23) rfl 30 _ _ rfl (l0.length : Int) rfl rfl Tryd.underlying30 (.int .i64 0) 8 info3 rfl (by decide) (by omega) 0 (ok := fun _ => True) (okp := fun _ => True) rfl (fun _ hk => hk) trivial (of_decide_eq_true (by first | (with_reducible assumption) | assumption)) (Nat.le_trans (Nat.mul_le_mul_right _ (of_decide_eq_true (by first | (with_reducible assumption) | assumption) : (l0.length : Int).toNat ≤ 35184372088832)) (by omega)) (Below.refl _ _) (Nat.le_refl _) ?_; intro v316 w6 ho7 hb hg_ hnew_; clear hg_ hnew_; (first | rw [← Ny315.out] at ho7 | (simp only [Int.reduceToNat] at ho7; rw [← Ny315.out] at ho7)); have n0_ := Aside0.mk (Kd.R_lower ho7 (below_size (BB HB))); have n1_ := Aside0.mk (below_step (BB HB) hb); clear HB; have HO317 := n0_; have HB := n1_; clear n0_ n1_; clear hb ho7)))
    go_loopg [6] k (fun kq v6 w' => ∃ (x5_1 : List Int) (x6_1 : Int), v6 = .int .i64 x6_1 ∧ Aside0 (selvedgeref20_Visual.l0 kq l0 x5_1 x6_1 = some (r1, r2)) ∧ Aside0 (kq ≤ k) ∧ Aside0 (Kd.R (Kd.int .i64) 3 w' w.heap.size (fun _ => True) v316 x5_1) ∧ Aside0 (Below w.heap.size w w'))
    case atStart => exact ⟨(y315), (0), (by first | rfl | (simp; done) | (simp [*]; done)), H', ⟨Nat.le_refl _⟩, ⟨RR HO317⟩, ⟨BB HB⟩⟩
    case round =>
     clear H'
     (try clear c2); (try clear p2); (try clear c3); (try clear c3b0); (try clear c3b1); (try clear c4); (try clear c4b0); (try clear c4b1); (try clear c5); (try clear c5b0); (try clear c5b1)
     obtain ⟨x5_1, x6_1, rfl, HA, HK1, HO_5, HB⟩ := hrel
     cases gk with
     | zero => exact absurd HA.out (by simp [selvedgeref20_Visual.l0])
     | succ k1 =>
      have H := HA.out
      clear HA
      simp only [selvedgeref20_Visual.l0] at H
      by_cases c8 : x6_1 < (x5_1.length : Int)
      ·rw [if_pos c8] at H; have c8b0 : decide (x6_1 < (x5_1.length : Int)) = true := decide_eq_true c8; clear c8; by_cases c9 : 0 ≤ x6_1
       ·rw [if_pos c9] at H; have c9b0 : decide (0 ≤ x6_1) = true := decide_eq_true c9; clear c9
        obtain ⟨y318, hy318⟩ : ∃ y_ : List Int, y_ = (x5_1.set (x6_1 : Int).toNat x6_1) := ⟨_, rfl⟩
        replace H : (selvedgeref20_Visual.l0 k1 l0 y318 (wrap64 (x6_1 + 1))) = some (r1, r2) := by first | (rw [hy318]; with_reducible exact H) | (have H2_ := (Option.bind_some _ _).symm.trans H; rw [hy318]; with_reducible exact H2_) | (have H2_ := (Option.bind_some _ _).symm.trans H; with_reducible exact H2_) | with_reducible exact H | (rw [hy318]; exact H) | exact H
        have Ny318 := Aside0.mk hy318; clear hy318
        have H' := Aside0.mk H
        clear H
        obtain ⟨Ao11, co11, eo11⟩ := Kd.R_slice HO_5.out
        subst eo11
        have p10 : 0 ≤ (x6_1 : Int) := of_decide_eq_true (by first | (with_reducible assumption) | assumption)
        have q10 : (x6_1 : Int) < ((x5_1.length : Int) : Int) := of_decide_eq_true (by first | (with_reducible assumption) | assumption)
        obtain ⟨go10, co10, eo10, gb10, gl10, cl10, HG10⟩ := Kd.R_form HO_5.out (by omega)
        (first | cases eo10 | (injection eo10 with ea_ en_ ec_; (first | subst ea_ | (injection ea_ with ea_; subst ea_)); subst ec_; clear en_))
        have GB10 := Aside0.mk gb10; have GG10 := Aside0.mk HG10; clear gb10 gl10 HG10
        obtain ⟨hx10_0, hf10_0⟩ := Kd.R_celln 0 HO_5.out (x6_1 : Int) p10 q10
        replace p10 := eq_true p10; replace q10 := eq_true q10
        have HP12 := Kd.R_putg HO_5.out (x6_1 : Int) x6_1
        go_wp2_with (first | ((with_reducible refine gate_store (t := 3) (p := 33) rfl ?_); (try (rw [drewN_self wr]; generalize hq_ : World.drewN wr _ = wr; have n0_ := Aside0.mk (Kd.R_at hq_ HO_5.out); have n1_ := Aside0.mk (below_at hq_ HB.out); clear hq_ HO_5 HB; have HO_5 := n0_; have HB := n1_; clear n0_ n1_; (try (obtain ⟨hy12_, hz12_⟩ := Kd.R_celln 0 HO_5.out (x6_1 : Int) (of_decide_eq_true (by first | (with_reducible assumption) | assumption)) (of_decide_eq_true (by first | (with_reducible assumption) | assumption)))); (try (have HP12 := Kd.R_putg HO_5.out (x6_1 : Int) x6_1)))); refine store_event (t := 3) (p := 33) (v := ?vo_w13) (w1 := (wr.setCell ⟨go10, (x6_1 : Int).toNat, none⟩ (.int .i64 x6_1))) ?hg ?ho ?hn ?hr ?_; (case ho => rfl); (case hg => rfl); (case hn => rfl); (case hr => first | (go_simp; done) | (go_simp; rfl)); intro w13 hw; have hg : wr.grownBy w13 (some go10) := (by rw [hw]; exact HP12.2); have hp_ : Kd.R (Kd.int .i64) 3 w13 w.heap.size (fun _ => True) (.slice (some ⟨go10, 0, none⟩) x5_1.length co11) y318 := (by rw [hw, Ny318.out]; exact HP12.1); clear HP12; have n0_ := Aside0.mk (hp_); have n1_ := Aside0.mk ((by rw [hw]; exact below_set (HB.out) GB10.out : Below w.heap.size w w13)); clear HO_5; clear HB; have HO_5 := n0_; have HB := n1_; clear n0_ n1_; clear hg hw hp_))
        repeat (go_quiet (first | ((with_reducible refine gate_store (t := 3) (p := 33) rfl ?_); (try (rw [drewN_self wr]; generalize hq_ : World.drewN wr _ = wr; have n0_ := Aside0.mk (Kd.R_at hq_ HO_5.out); have n1_ := Aside0.mk (below_at hq_ HB.out); clear hq_ HO_5 HB; have HO_5 := n0_; have HB := n1_; clear n0_ n1_; (try (obtain ⟨hy12_, hz12_⟩ := Kd.R_celln 0 HO_5.out (x6_1 : Int) (of_decide_eq_true (by first | (with_reducible assumption) | assumption)) (of_decide_eq_true (by first | (with_reducible assumption) | assumption)))); (try (have HP12 := Kd.R_putg HO_5.out (x6_1 : Int) x6_1)))); refine store_event (t := 3) (p := 33) (v := ?vo_w13) (w1 := (wr.setCell ⟨go10, (x6_1 : Int).toNat, none⟩ (.int .i64 x6_1))) ?hg ?ho ?hn ?hr ?_; (case ho => rfl); (case hg => rfl); (case hn => rfl); (case hr => first | (go_simp; done) | (go_simp; rfl)); intro w13 hw; have hg : wr.grownBy w13 (some go10) := (by rw [hw]; exact HP12.2); have hp_ : Kd.R (Kd.int .i64) 3 w13 w.heap.size (fun _ => True) (.slice (some ⟨go10, 0, none⟩) x5_1.length co11) y318 := (by rw [hw, Ny318.out]; exact HP12.1); clear HP12; have n0_ := Aside0.mk (hp_); have n1_ := Aside0.mk ((by rw [hw]; exact below_set (HB.out) GB10.out : Below w.heap.size w w13)); clear HO_5; clear HB; have HO_5 := n0_; have HB := n1_; clear n0_ n1_; clear hg hw hp_)); try go_wp2_with (first | ((with_reducible refine gate_store (t := 3) (p := 33) rfl ?_); (try (rw [drewN_self wr]; generalize hq_ : World.drewN wr _ = wr; have n0_ := Aside0.mk (Kd.R_at hq_ HO_5.out); have n1_ := Aside0.mk (below_at hq_ HB.out); clear hq_ HO_5 HB; have HO_5 := n0_; have HB := n1_; clear n0_ n1_; (try (obtain ⟨hy12_, hz12_⟩ := Kd.R_celln 0 HO_5.out (x6_1 : Int) (of_decide_eq_true (by first | (with_reducible assumption) | assumption)) (of_decide_eq_true (by first | (with_reducible assumption) | assumption)))); (try (have HP12 := Kd.R_putg HO_5.out (x6_1 : Int) x6_1)))); refine store_event (t := 3) (p := 33) (v := ?vo_w13) (w1 := (wr.setCell ⟨go10, (x6_1 : Int).toNat, none⟩ (.int .i64 x6_1))) ?hg ?ho ?hn ?hr ?_; (case ho => rfl); (case hg => rfl); (case hn => rfl); (case hr => first | (go_simp; done) | (go_simp; rfl)); intro w13 hw; have hg : wr.grownBy w13 (some go10) := (by rw [hw]; exact HP12.2); have hp_ : Kd.R (Kd.int .i64) 3 w13 w.heap.size (fun _ => True) (.slice (some ⟨go10, 0, none⟩) x5_1.length co11) y318 := (by rw [hw, Ny318.out]; exact HP12.1); clear HP12; have n0_ := Aside0.mk (hp_); have n1_ := Aside0.mk ((by rw [hw]; exact below_set (HB.out) GB10.out : Below w.heap.size w w13)); clear HO_5; clear HB; have HO_5 := n0_; have HB := n1_; clear n0_ n1_; clear hg hw hp_)))
        go_roundg k1
        case measure => have := HK1.out; omega
        case rel => exact ⟨(y318), (wrap64 (x6_1 + 1)), (by first | rfl | (simp; done) | (simp [*]; done)), H', ⟨by have := HK1.out; omega⟩, ⟨RR HO_5⟩, ⟨BB HB⟩⟩
       ·rw [if_neg c9] at H
        exact absurd H (by simp)
      ·rw [if_neg c8] at H; have c8b0 : decide (x6_1 < (x5_1.length : Int)) = false := decide_eq_false c8; clear c8
       have H' := Aside0.mk H
       clear H
       obtain ⟨Ao14, co14, eo14⟩ := Kd.R_slice HO_5.out
       subst eo14
       go_wp2
       repeat (go_quiet (fail); try go_wp2)
       go_loopg [7] k1 (fun kq v7 w' => ∃ (x5_2 : List Int) (x7_2 : Int), v7 = .int .i64 x7_2 ∧ Aside0 (selvedgeref20_Visual.l1 kq l0 x5_2 x7_2 = some (r1, r2)) ∧ Aside0 (kq ≤ k1) ∧ Aside0 (Kd.R (Kd.int .i64) 3 w' w.heap.size (fun _ => True) (.slice Ao14 x5_1.length co14) x5_2) ∧ Aside0 (Below w.heap.size w w'))
       case atStart => exact ⟨(x5_1), (126), (by first | rfl | (simp; done) | (simp [*]; done)), H', ⟨Nat.le_refl _⟩, ⟨RR HO_5⟩, ⟨BB HB⟩⟩
       case round =>
        clear H'
        (try clear p1); (try clear q1); (try clear hx1); (try clear hf1); (try clear c2); (try clear p2); (try clear c3); (try clear c3b0); (try clear c3b1); (try clear c4); (try clear c4b0); (try clear c4b1); (try clear c5); (try clear c5b0); (try clear c5b1); (try clear p6); (try clear c8); (try clear c8b0); (try clear c9); (try clear c9b0); (try clear p10); (try clear q10); (try clear hx10); (try clear hf10); (try clear hx10_0); (try clear p10); (try clear p2); (try clear q10)
        obtain ⟨x5_2, x7_2, rfl, HA, HK2, HO_5, HB⟩ := hrel
        have hl5_2 := (Kd.R_reads' HO_5.out).1
        rw [hl5_2] at HO_5
        (try simp only [hl5_2])
        cases gk with
        | zero => exact absurd HA.out (by simp [selvedgeref20_Visual.l1])
        | succ k2 =>
         have H := HA.out
         clear HA
         simp only [selvedgeref20_Visual.l1] at H
         by_cases c15 : x7_2 ≥ 1
         ·rw [if_pos c15] at H; have c15b0 : decide (1 ≤ x7_2) = true := decide_eq_true c15; clear c15
          have H' := Aside0.mk H
          clear H
          go_wp2
          repeat (go_quiet (fail); try go_wp2)
          go_loopg [8, 9] k2 (fun kq v8 v9 w' => ∃ (x8_3 : Bool) (x9_3 : Int), v8 = .bool x8_3 ∧ v9 = .int .i64 x9_3 ∧ Aside0 (selvedgeref20_Visual.l2 kq l0 x5_2 x7_2 x8_3 x9_3 = some (r1, r2)) ∧ Aside0 (kq ≤ k2) ∧ Aside0 (Kd.R (Kd.int .i64) 3 w' w.heap.size (fun _ => True) (.slice Ao14 x5_2.length co14) x5_2) ∧ Aside0 (Below w.heap.size w w'))
          case atStart => exact ⟨(false), (0), (by first | rfl | (simp; done) | (simp [*]; done)), (by first | rfl | (simp; done) | (simp [*]; done)), H', ⟨Nat.le_refl _⟩, ⟨by (try simp only [hl5_2]); exact RR HO_5⟩, ⟨BB HB⟩⟩
          case round =>
           clear H'
           (try clear c1); (try clear p1); (try clear q1); (try clear hx1); (try clear hf1); (try clear c2); (try clear p2); (try clear c3); (try clear c3b0); (try clear c3b1); (try clear c4); (try clear c4b0); (try clear c4b1); (try clear c5); (try clear c5b0); (try clear c5b1); (try clear p6); (try clear c8); (try clear c8b0); (try clear c9); (try clear c9b0); (try clear p10); (try clear q10); (try clear hx10); (try clear hf10); (try clear c15); (try clear c15b0); (try clear hx10_0); (try clear p1); (try clear p10); (try clear p2); (try clear p6); (try clear q1); (try clear q10)
           obtain ⟨x8_3, x9_3, rfl, rfl, HA, HK3, HO_5, HB⟩ := hrel
           cases gk with
           | zero => exact absurd HA.out (by simp [selvedgeref20_Visual.l2])
           | succ k3 =>
            have H := HA.out
            clear HA
            simp only [selvedgeref20_Visual.l2] at H
            by_cases c16 : x9_3 < (l0.length : Int)
            ·rw [if_pos c16] at H; have c16b0 : decide (x9_3 < (l0.length : Int)) = true := decide_eq_true c16; clear c16; by_cases c17 : x8_3 = true
             ·subst c17
              have H1 : (selvedgeref20_Visual.l2 k3 l0 x5_2 x7_2 true (wrap64 (x9_3 + 1))) = some (r1, r2) := by rw [if_pos rfl] at H; exact H
              clear H
              have H := H1
              clear H1
              have H' := Aside0.mk H
              clear H
              go_wp2
              repeat (go_quiet (fail); try go_wp2)
              go_roundg k3
              case measure => have := HK1.out; have := HK2.out; have := HK3.out; omega
              case rel => exact ⟨(true), (wrap64 (x9_3 + 1)), (by first | rfl | (simp; done) | (simp [*]; done)), (by first | rfl | (simp; done) | (simp [*]; done)), H', ⟨by have := HK1.out; have := HK2.out; have := HK3.out; omega⟩, ⟨by (try simp only [hl5_2]); exact RR HO_5⟩, ⟨BB HB⟩⟩
             ·replace c17 := Bool.eq_false_iff.mpr c17
              subst c17
              have H1 : (if 0 ≤ x9_3 then (if (wrap64 (rd l0 x9_3)) ≤ x7_2 then (selvedgeref20_Visual.l2 k3 l0 x5_2 x7_2 ((Int.tmod (rd l0 x9_3) 2) == 1) (wrap64 (x9_3 + 1))) else (selvedgeref20_Visual.l2 k3 l0 x5_2 x7_2 false (wrap64 (x9_3 + 1)))) else (none)) = some (r1, r2) := by rw [if_neg (show ¬ (false = true) by decide)] at H; exact H
              clear H
              have H := H1
              clear H1; by_cases c18 : 0 ≤ x9_3
              ·rw [if_pos c18] at H; have c18b0 : decide (0 ≤ x9_3) = true := decide_eq_true c18; clear c18; by_cases c19 : (wrap64 (rd l0 x9_3)) ≤ x7_2
               ·rw [if_pos c19] at H; have c19b0 : decide ((wrap64 (rd l0 x9_3)) ≤ x7_2) = true := decide_eq_true c19; clear c19
                have H' := Aside0.mk H
                clear H
                have p319 : 0 ≤ (x9_3 : Int) := of_decide_eq_true (by first | (with_reducible assumption) | assumption)
                have q319 : x9_3 < (l0.length : Int) := of_decide_eq_true (by first | (with_reducible assumption) | assumption)
                obtain ⟨ad319, e319, hx319_0⟩ := Kd.at_int HR0.out x9_3 p319 q319
                cases e319
                replace hx319_0 := (HB.out.cell (World.block_lt_of_cell? w _ hx319_0)).trans hx319_0
                replace p319 := eq_true p319; replace q319 := eq_true q319
                have p320 : 0 ≤ (x9_3 : Int) := of_decide_eq_true (by first | (with_reducible assumption) | assumption)
                have q320 : x9_3 < (l0.length : Int) := of_decide_eq_true (by first | (with_reducible assumption) | assumption)
                obtain ⟨ad320, e320, hx320_0⟩ := Kd.at_int HR0.out x9_3 p320 q320
                obtain rfl : ad319 = ad320 := (by injection e320)
                replace hx320_0 := (HB.out.cell (World.block_lt_of_cell? w _ hx320_0)).trans hx320_0
                replace p320 := eq_true p320; replace q320 := eq_true q320
                go_wp2
                repeat (go_quiet (fail); try go_wp2)
                go_roundg k3
                case measure => have := HK1.out; have := HK2.out; have := HK3.out; omega
                case rel => exact ⟨(((Int.tmod (rd l0 x9_3) 2) == 1)), (wrap64 (x9_3 + 1)), (by first | rfl | (simp; done) | (simp [*]; done)), (by first | rfl | (simp; done) | (simp [*]; done)), H', ⟨by have := HK1.out; have := HK2.out; have := HK3.out; omega⟩, ⟨by (try simp only [hl5_2]); exact RR HO_5⟩, ⟨BB HB⟩⟩
               ·rw [if_neg c19] at H; have c19b0 : decide ((wrap64 (rd l0 x9_3)) ≤ x7_2) = false := decide_eq_false c19; clear c19
                have H' := Aside0.mk H
                clear H
                have p319 : 0 ≤ (x9_3 : Int) := of_decide_eq_true (by first | (with_reducible assumption) | assumption)
                have q319 : x9_3 < (l0.length : Int) := of_decide_eq_true (by first | (with_reducible assumption) | assumption)
                obtain ⟨ad319, e319, hx319_0⟩ := Kd.at_int HR0.out x9_3 p319 q319
                cases e319
                replace hx319_0 := (HB.out.cell (World.block_lt_of_cell? w _ hx319_0)).trans hx319_0
                replace p319 := eq_true p319; replace q319 := eq_true q319
                go_wp2
                repeat (go_quiet (fail); try go_wp2)
                go_roundg k3
                case measure => have := HK1.out; have := HK2.out; have := HK3.out; omega
                case rel => exact ⟨(false), (wrap64 (x9_3 + 1)), (by first | rfl | (simp; done) | (simp [*]; done)), (by first | rfl | (simp; done) | (simp [*]; done)), H', ⟨by have := HK1.out; have := HK2.out; have := HK3.out; omega⟩, ⟨by (try simp only [hl5_2]); exact RR HO_5⟩, ⟨BB HB⟩⟩
              ·rw [if_neg c18] at H
               exact absurd H (by simp)
            ·rw [if_neg c16] at H; have c16b0 : decide (x9_3 < (l0.length : Int)) = false := decide_eq_false c16; clear c16
             have H' := Aside0.mk H
             clear H
             go_wp2
             repeat (go_quiet (fail); try go_wp2)
             go_loopg [10] k3 (fun kq v10 w' => ∃ (x5_4 : List Int) (x10_4 : Int), v10 = .int .i64 x10_4 ∧ Aside0 (selvedgeref20_Visual.l3 kq l0 x5_4 x7_2 x8_3 x10_4 = some (r1, r2)) ∧ Aside0 (kq ≤ k3) ∧ Aside0 (Kd.R (Kd.int .i64) 3 w' w.heap.size (fun _ => True) (.slice Ao14 x5_2.length co14) x5_4) ∧ Aside0 (Below w.heap.size w w'))
             case atStart => exact ⟨(x5_2), (0), (by first | rfl | (simp; done) | (simp [*]; done)), H', ⟨Nat.le_refl _⟩, ⟨by (try simp only [hl5_2]); exact RR HO_5⟩, ⟨BB HB⟩⟩
             case round =>
              clear H'
              (try clear c1); (try clear p1); (try clear q1); (try clear hx1); (try clear hf1); (try clear c2); (try clear p2); (try clear c3); (try clear c3b0); (try clear c3b1); (try clear p3); (try clear q3); (try clear hx3); (try clear c4); (try clear c4b0); (try clear c4b1); (try clear c5); (try clear c5b0); (try clear c5b1); (try clear p6); (try clear c8); (try clear c8b0); (try clear c9); (try clear c9b0); (try clear p10); (try clear q10); (try clear hx10); (try clear hf10); (try clear c15); (try clear c15b0); (try clear c16); (try clear c16b0); (try clear c17); (try clear c18); (try clear c18b0); (try clear c19); (try clear c19b0); (try clear hx10_0); (try clear hx319_0); (try clear hx320_0); (try clear p1); (try clear p10); (try clear p2); (try clear p319); (try clear p320); (try clear p6); (try clear q1); (try clear q10); (try clear q319); (try clear q320)
              obtain ⟨x5_4, x10_4, rfl, HA, HK4, HO_5, HB⟩ := hrel
              have hl5_4 := (Kd.R_reads' HO_5.out).1
              rw [hl5_4] at HO_5
              (try simp only [hl5_4])
              cases gk with
              | zero => exact absurd HA.out (by simp [selvedgeref20_Visual.l3])
              | succ k4 =>
               have H := HA.out
               clear HA
               simp only [selvedgeref20_Visual.l3] at H
               have HC20 := Aside0.mk H; clear H
               go_upto_region 18 with (fail)
               repeat (go_quiet (fail); go_upto_region 18 with (fail))
               go_cut [68] (fun v68 wc => ∃ (kq : Nat) (x68_19 : Bool), v68 = .bool x68_19 ∧ Aside0 (selvedgeref20_Visual.j4 kq l0 x5_4 x7_2 x8_3 x10_4 x68_19 = some (r1, r2)) ∧ Aside0 (kq ≤ k4) ∧ Aside0 (Kd.R (Kd.int .i64) 3 wc w.heap.size (fun _ => True) (.slice Ao14 x5_4.length co14) x5_4) ∧ Aside0 (Below w.heap.size w wc))
               case first =>
                have H := HC20.out
                clear HC20; by_cases c21 : x10_4 < (x5_4.length : Int)
                ·rw [if_pos c21] at H; have c21b0 : decide (x10_4 < (x5_4.length : Int)) = true := decide_eq_true c21; clear c21
                 (first | rw [c21b0] | (simp only [i64_w, i32_w]; rw [c21b0]) | skip)
                 have H' := Aside0.mk H
                 clear H
                 go_wp2
                 repeat (go_quiet (fail); try go_wp2)
                 go_meet
                 case rel => exact ⟨_, (x8_3), (by first | rfl | (simp; done) | (simp [*]; done)), H', ⟨by have := HK1.out; have := HK2.out; have := HK3.out; have := HK4.out; first | omega | exact Nat.le_refl _⟩, ⟨by (try simp only [hl5_2]); (try simp only [hl5_4]); exact RR HO_5⟩, ⟨BB HB⟩⟩
                ·rw [if_neg c21] at H; have c21b0 : decide (x10_4 < (x5_4.length : Int)) = false := decide_eq_false c21; clear c21
                 (first | rw [c21b0] | (simp only [i64_w, i32_w]; rw [c21b0]) | skip)
                 have H' := Aside0.mk H
                 clear H
                 go_wp2
                 repeat (go_quiet (fail); try go_wp2)
                 go_meet
                 case rel => exact ⟨_, (false), (by first | rfl | (simp; done) | (simp [*]; done)), H', ⟨by have := HK1.out; have := HK2.out; have := HK3.out; have := HK4.out; first | omega | exact Nat.le_refl _⟩, ⟨by (try simp only [hl5_2]); (try simp only [hl5_4]); exact RR HO_5⟩, ⟨BB HB⟩⟩
               case rest =>
                clear HC20; (try clear c1); (try clear p1); (try clear q1); (try clear hx1); (try clear hf1); (try clear c2); (try clear p2); (try clear c3); (try clear c3b0); (try clear c3b1); (try clear p3); (try clear q3); (try clear hx3); (try clear c4); (try clear c4b0); (try clear c4b1); (try clear c5); (try clear c5b0); (try clear c5b1); (try clear p6); (try clear c8); (try clear c8b0); (try clear c9); (try clear c9b0); (try clear p10); (try clear q10); (try clear hx10); (try clear hf10); (try clear c15); (try clear c15b0); (try clear c16); (try clear c16b0); (try clear c17); (try clear c18); (try clear c18b0); (try clear c19); (try clear c19b0); (try clear c20); (try clear c21); (try clear c21b0); (try clear hx10_0); (try clear hx319_0); (try clear hx320_0); (try clear p1); (try clear p10); (try clear p2); (try clear p3); (try clear p319); (try clear p320); (try clear p6); (try clear q1); (try clear q10); (try clear q3); (try clear q319); (try clear q320)
                obtain ⟨kq, x68_19, rfl, HA, HJ19, HO_5, HB⟩ := hcut
                cases kq with
                | zero => exact absurd HA.out (by simp [selvedgeref20_Visual.j4])
                | succ kj19 =>
                 have H := HA.out
                 clear HA
                 simp only [selvedgeref20_Visual.j4] at H
                 by_cases c22 : x68_19 = true
                 ·subst c22
                  have H1 : (selvedgeref20_Visual.l4 kj19 l0 x5_4 x7_2 x8_3 x10_4 x10_4) = some (r1, r2) := by rw [if_pos rfl] at H; exact H
                  clear H
                  have H := H1
                  clear H1; have HC23 := Aside0.mk H; clear H
                  go_upto_block 8 with (fail)
                  repeat (go_quiet (fail); go_upto_block 8 with (fail))
                  go_cut [11] (fun v11 wc => ∃ (kq : Nat) (x11_22 : Int), v11 = .int .i64 x11_22 ∧ Aside0 (selvedgeref20_Visual.j6 kq l0 x5_4 x7_2 x8_3 x10_4 x11_22 = some (r1, r2)) ∧ Aside0 (kq ≤ kj19) ∧ Aside0 (Kd.R (Kd.int .i64) 3 wc w.heap.size (fun _ => True) (.slice Ao14 x5_4.length co14) x5_4) ∧ Aside0 (Below w.heap.size w wc))
                  case first =>
                   have H := HC23.out
                   clear HC23
                   have H' := Aside0.mk H
                   clear H
                   go_wp2
                   repeat (go_quiet (fail); try go_wp2)
                   go_loopg [11] kj19 (fun kq v11 w' => ∃ (x11_6 : Int), v11 = .int .i64 x11_6 ∧ Aside0 (selvedgeref20_Visual.l4 kq l0 x5_4 x7_2 x8_3 x10_4 x11_6 = some (r1, r2)) ∧ Aside0 (kq ≤ kj19) ∧ Aside0 (Kd.R (Kd.int .i64) 3 w' w.heap.size (fun _ => True) (.slice Ao14 x5_4.length co14) x5_4) ∧ Aside0 (Below w.heap.size w w'))
                   case atStart => exact ⟨(x10_4), (by first | rfl | (simp; done) | (simp [*]; done)), H', ⟨Nat.le_refl _⟩, ⟨by (try simp only [hl5_2]); (try simp only [hl5_4]); exact RR HO_5⟩, ⟨BB HB⟩⟩
                   case round =>
                    clear H'
                    (try clear c1); (try clear p1); (try clear q1); (try clear hx1); (try clear hf1); (try clear c2); (try clear p2); (try clear c3); (try clear c3b0); (try clear c3b1); (try clear p3); (try clear q3); (try clear hx3); (try clear c4); (try clear c4b0); (try clear c4b1); (try clear c5); (try clear c5b0); (try clear c5b1); (try clear p6); (try clear c8); (try clear c8b0); (try clear c9); (try clear c9b0); (try clear p10); (try clear q10); (try clear hx10); (try clear hf10); (try clear c15); (try clear c15b0); (try clear c16); (try clear c16b0); (try clear c17); (try clear c18); (try clear c18b0); (try clear c19); (try clear c19b0); (try clear c20); (try clear c21); (try clear c21b0); (try clear c22); (try clear hx10_0); (try clear hx319_0); (try clear hx320_0); (try clear p1); (try clear p10); (try clear p2); (try clear p3); (try clear p319); (try clear p320); (try clear p6); (try clear q1); (try clear q10); (try clear q3); (try clear q319); (try clear q320)
                    obtain ⟨x11_6, rfl, HA, HK6, HO_5, HB⟩ := hrel
                    cases gk with
                    | zero => exact absurd HA.out (by simp [selvedgeref20_Visual.l4])
                    | succ k6 =>
                     have H := HA.out
                     clear HA
                     simp only [selvedgeref20_Visual.l4] at H
                     by_cases c24 : x11_6 < (x5_4.length : Int)
                     ·rw [if_pos c24] at H; have c24b0 : decide (x11_6 < (x5_4.length : Int)) = true := decide_eq_true c24; clear c24
                      (first | rw [c24b0] | (simp only [i64_w, i32_w]; rw [c24b0]) | skip)
                      by_cases c25 : 0 ≤ x11_6
                      ·rw [if_pos c25] at H; have c25b0 : decide (0 ≤ x11_6) = true := decide_eq_true c25; clear c25; by_cases c26 : 0 ≤ (rd x5_4 x11_6)
                       ·rw [if_pos c26] at H; have c26b0 : decide (0 ≤ (rd x5_4 x11_6)) = true := decide_eq_true c26; clear c26; by_cases c27 : (rd x5_4 x11_6) < (l0.length : Int)
                        ·rw [if_pos c27] at H; have c27b0 : decide ((rd x5_4 x11_6) < (l0.length : Int)) = true := decide_eq_true c27; clear c27; by_cases c28 : (wrap64 (rd l0 (rd x5_4 x11_6))) ≥ x7_2
                         ·rw [if_pos c28] at H; have c28b0 : decide (x7_2 ≤ (wrap64 (rd l0 (rd x5_4 x11_6)))) = true := decide_eq_true c28; clear c28
                          have H' := Aside0.mk H
                          clear H
                          have p321 : 0 ≤ (x11_6 : Int) := of_decide_eq_true (by first | (with_reducible assumption) | assumption)
                          have q321 : x11_6 < (x5_4.length : Int) := of_decide_eq_true (by first | (with_reducible assumption) | assumption)
                          obtain ⟨ad321, e321, hx321_0⟩ := Kd.at_int (Kd.R_reads' HO_5.out).2.2 x11_6 p321 q321
                          cases e321
                          replace p321 := eq_true p321; replace q321 := eq_true q321
                          have p322 : 0 ≤ ((rd x5_4 x11_6) : Int) := of_decide_eq_true (by first | (with_reducible assumption) | assumption)
                          have q322 : (rd x5_4 x11_6) < (l0.length : Int) := of_decide_eq_true (by first | (with_reducible assumption) | assumption)
                          obtain ⟨ad322, e322, hx322_0⟩ := Kd.at_int HR0.out (rd x5_4 x11_6) p322 q322
                          cases e322
                          replace hx322_0 := (HB.out.cell (World.block_lt_of_cell? w _ hx322_0)).trans hx322_0
                          replace p322 := eq_true p322; replace q322 := eq_true q322
                          go_wp2
                          repeat (go_quiet (fail); try go_wp2)
                          go_roundg k6
                          case measure => have := HK1.out; have := HK2.out; have := HK3.out; have := HK4.out; have := HJ19.out; have := HK6.out; omega
                          case rel => exact ⟨(wrap64 (x11_6 + 1)), (by first | rfl | (simp; done) | (simp [*]; done)), H', ⟨by have := HK1.out; have := HK2.out; have := HK3.out; have := HK4.out; have := HJ19.out; have := HK6.out; omega⟩, ⟨by (try simp only [hl5_2]); (try simp only [hl5_4]); exact RR HO_5⟩, ⟨BB HB⟩⟩
                         ·rw [if_neg c28] at H; have c28b0 : decide (x7_2 ≤ (wrap64 (rd l0 (rd x5_4 x11_6)))) = false := decide_eq_false c28; clear c28
                          have H' := Aside0.mk H
                          clear H
                          have p321 : 0 ≤ (x11_6 : Int) := of_decide_eq_true (by first | (with_reducible assumption) | assumption)
                          have q321 : x11_6 < (x5_4.length : Int) := of_decide_eq_true (by first | (with_reducible assumption) | assumption)
                          obtain ⟨ad321, e321, hx321_0⟩ := Kd.at_int (Kd.R_reads' HO_5.out).2.2 x11_6 p321 q321
                          cases e321
                          replace p321 := eq_true p321; replace q321 := eq_true q321
                          have p322 : 0 ≤ ((rd x5_4 x11_6) : Int) := of_decide_eq_true (by first | (with_reducible assumption) | assumption)
                          have q322 : (rd x5_4 x11_6) < (l0.length : Int) := of_decide_eq_true (by first | (with_reducible assumption) | assumption)
                          obtain ⟨ad322, e322, hx322_0⟩ := Kd.at_int HR0.out (rd x5_4 x11_6) p322 q322
                          cases e322
                          replace hx322_0 := (HB.out.cell (World.block_lt_of_cell? w _ hx322_0)).trans hx322_0
                          replace p322 := eq_true p322; replace q322 := eq_true q322
                          go_wp2
                          repeat (go_quiet (fail); try go_wp2)
                          go_meet
                          case rel => exact ⟨_, (x11_6), (by first | rfl | (simp; done) | (simp [*]; done)), H', ⟨by have := HK1.out; have := HK2.out; have := HK3.out; have := HK4.out; have := HJ19.out; have := HK6.out; first | omega | exact Nat.le_refl _⟩, ⟨by (try simp only [hl5_2]); (try simp only [hl5_4]); exact RR HO_5⟩, ⟨BB HB⟩⟩
                        ·rw [if_neg c27] at H
                         exact absurd H (by simp)
                       ·rw [if_neg c26] at H
                        exact absurd H (by simp)
                      ·rw [if_neg c25] at H
                       exact absurd H (by simp)
                     ·rw [if_neg c24] at H; have c24b0 : decide (x11_6 < (x5_4.length : Int)) = false := decide_eq_false c24; clear c24
                      (first | rw [c24b0] | (simp only [i64_w, i32_w]; rw [c24b0]) | skip)
                      have H' := Aside0.mk H
                      clear H
                      go_wp2
                      repeat (go_quiet (fail); try go_wp2)
                      go_meet
                      case rel => exact ⟨_, (x11_6), (by first | rfl | (simp; done) | (simp [*]; done)), H', ⟨by have := HK1.out; have := HK2.out; have := HK3.out; have := HK4.out; have := HJ19.out; have := HK6.out; first | omega | exact Nat.le_refl _⟩, ⟨by (try simp only [hl5_2]); (try simp only [hl5_4]); exact RR HO_5⟩, ⟨BB HB⟩⟩
                  case rest =>
                   clear HC23; (try clear c1); (try clear p1); (try clear q1); (try clear hx1); (try clear hf1); (try clear c2); (try clear p2); (try clear c3); (try clear c3b0); (try clear c3b1); (try clear p3); (try clear q3); (try clear hx3); (try clear c4); (try clear c4b0); (try clear c4b1); (try clear c5); (try clear c5b0); (try clear c5b1); (try clear p6); (try clear c8); (try clear c8b0); (try clear c9); (try clear c9b0); (try clear p10); (try clear q10); (try clear hx10); (try clear hf10); (try clear c15); (try clear c15b0); (try clear c16); (try clear c16b0); (try clear c17); (try clear c18); (try clear c18b0); (try clear c19); (try clear c19b0); (try clear c20); (try clear c21); (try clear c21b0); (try clear c22); (try clear c24); (try clear c24b0); (try clear c25); (try clear c25b0); (try clear c26); (try clear c26b0); (try clear c27); (try clear c27b0); (try clear c28); (try clear c28b0); (try clear hx10_0); (try clear hx319_0); (try clear hx320_0); (try clear hx321_0); (try clear hx322_0); (try clear p1); (try clear p10); (try clear p2); (try clear p3); (try clear p319); (try clear p320); (try clear p321); (try clear p322); (try clear p6); (try clear q1); (try clear q10); (try clear q3); (try clear q319); (try clear q320); (try clear q321); (try clear q322)
                   obtain ⟨kq, x11_22, rfl, HA, HJ22, HO_5, HB⟩ := hcut
                   cases kq with
                   | zero => exact absurd HA.out (by simp [selvedgeref20_Visual.j6])
                   | succ kj22 =>
                    have H := HA.out
                    clear HA
                    simp only [selvedgeref20_Visual.j6] at H
                    have H' := Aside0.mk H
                    clear H
                    go_wp2
                    repeat (go_quiet (fail); try go_wp2)
                    go_loopg [12, 13] kj22 (fun kq v12 v13 w' => ∃ (x5_7 : List Int) (x12_7 : Int) (x13_7 : Int), v12 = .int .i64 x12_7 ∧ v13 = .int .i64 x13_7 ∧ Aside0 (selvedgeref20_Visual.l5 kq l0 x5_7 x7_2 x8_3 x10_4 x11_22 x12_7 x13_7 = some (r1, r2)) ∧ Aside0 (kq ≤ kj22) ∧ Aside0 (Kd.R (Kd.int .i64) 3 w' w.heap.size (fun _ => True) (.slice Ao14 x5_4.length co14) x5_7) ∧ Aside0 (Below w.heap.size w w'))
                    case atStart => exact ⟨(x5_4), (x10_4), (wrap64 (x11_22 - 1)), (by first | rfl | (simp; done) | (simp [*]; done)), (by first | rfl | (simp; done) | (simp [*]; done)), H', ⟨Nat.le_refl _⟩, ⟨by (try simp only [hl5_2]); (try simp only [hl5_4]); exact RR HO_5⟩, ⟨BB HB⟩⟩
                    case round =>
                     clear H'
                     (try clear c1); (try clear p1); (try clear q1); (try clear hx1); (try clear hf1); (try clear c2); (try clear p2); (try clear c3); (try clear c3b0); (try clear c3b1); (try clear p3); (try clear q3); (try clear hx3); (try clear c4); (try clear c4b0); (try clear c4b1); (try clear c5); (try clear c5b0); (try clear c5b1); (try clear p6); (try clear c8); (try clear c8b0); (try clear c9); (try clear c9b0); (try clear p10); (try clear q10); (try clear hx10); (try clear hf10); (try clear c15); (try clear c15b0); (try clear c16); (try clear c16b0); (try clear c17); (try clear c18); (try clear c18b0); (try clear c19); (try clear c19b0); (try clear c20); (try clear c21); (try clear c21b0); (try clear c22); (try clear c24); (try clear c24b0); (try clear c25); (try clear c25b0); (try clear c26); (try clear c26b0); (try clear c27); (try clear c27b0); (try clear c28); (try clear c28b0); (try clear hx10_0); (try clear hx319_0); (try clear hx320_0); (try clear hx321_0); (try clear hx322_0); (try clear p1); (try clear p10); (try clear p2); (try clear p3); (try clear p319); (try clear p320); (try clear p321); (try clear p322); (try clear p6); (try clear q1); (try clear q10); (try clear q3); (try clear q319); (try clear q320); (try clear q321); (try clear q322)
                     obtain ⟨x5_7, x12_7, x13_7, rfl, rfl, HA, HK7, HO_5, HB⟩ := hrel
                     have hl5_7 := (Kd.R_reads' HO_5.out).1
                     rw [hl5_7] at HO_5
                     (try simp only [hl5_7])
                     cases gk with
                     | zero => exact absurd HA.out (by simp [selvedgeref20_Visual.l5])
                     | succ k7 =>
                      have H := HA.out
                      clear HA
                      simp only [selvedgeref20_Visual.l5] at H
                      by_cases c29 : x12_7 < x13_7
                      ·rw [if_pos c29] at H; have c29b0 : decide (x12_7 < x13_7) = true := decide_eq_true c29; clear c29; by_cases c30 : 0 ≤ x12_7
                       ·rw [if_pos c30] at H; have c30b0 : decide (0 ≤ x12_7) = true := decide_eq_true c30; clear c30; by_cases c31 : x12_7 < (x5_7.length : Int)
                        ·rw [if_pos c31] at H; have c31b0 : decide (x12_7 < (x5_7.length : Int)) = true := decide_eq_true c31; clear c31; by_cases c32 : 0 ≤ x13_7
                         ·rw [if_pos c32] at H; have c32b0 : decide (0 ≤ x13_7) = true := decide_eq_true c32; clear c32; by_cases c33 : x13_7 < (x5_7.length : Int)
                          ·rw [if_pos c33] at H; have c33b0 : decide (x13_7 < (x5_7.length : Int)) = true := decide_eq_true c33; clear c33
                           obtain ⟨y325, hy325⟩ : ∃ y_ : List Int, y_ = (x5_7.set (x12_7 : Int).toNat (rd x5_7 x13_7)) := ⟨_, rfl⟩
                           replace H : (selvedgeref20_Visual.l5 k7 l0 (y325.set (x13_7 : Int).toNat (rd x5_7 x12_7)) x7_2 x8_3 x10_4 x11_22 (wrap64 (x12_7 + 1)) (wrap64 (x13_7 - 1))) = some (r1, r2) := by first | (rw [hy325]; with_reducible exact H) | (have H2_ := (Option.bind_some _ _).symm.trans H; rw [hy325]; with_reducible exact H2_) | (have H2_ := (Option.bind_some _ _).symm.trans H; with_reducible exact H2_) | with_reducible exact H | (rw [hy325]; exact H) | exact H
                           have Ny325 := Aside0.mk hy325; clear hy325
                           obtain ⟨y326, hy326⟩ : ∃ y_ : List Int, y_ = (y325.set (x13_7 : Int).toNat (rd x5_7 x12_7)) := ⟨_, rfl⟩
                           replace H : (selvedgeref20_Visual.l5 k7 l0 y326 x7_2 x8_3 x10_4 x11_22 (wrap64 (x12_7 + 1)) (wrap64 (x13_7 - 1))) = some (r1, r2) := by first | (rw [hy326]; with_reducible exact H) | (have H2_ := (Option.bind_some _ _).symm.trans H; rw [hy326]; with_reducible exact H2_) | (have H2_ := (Option.bind_some _ _).symm.trans H; with_reducible exact H2_) | with_reducible exact H | (rw [hy326]; exact H) | exact H
                           have Ny326 := Aside0.mk hy326; clear hy326
                           have H' := Aside0.mk H
                           clear H
                           have p323 : 0 ≤ (x12_7 : Int) := of_decide_eq_true (by first | (with_reducible assumption) | assumption)
                           have q323 : x12_7 < (x5_7.length : Int) := of_decide_eq_true (by first | (with_reducible assumption) | assumption)
                           obtain ⟨ad323, e323, hx323_0⟩ := Kd.at_int (Kd.R_reads' HO_5.out).2.2 x12_7 p323 q323
                           cases e323
                           replace p323 := eq_true p323; replace q323 := eq_true q323
                           have p324 : 0 ≤ (x13_7 : Int) := of_decide_eq_true (by first | (with_reducible assumption) | assumption)
                           have q324 : x13_7 < (x5_7.length : Int) := of_decide_eq_true (by first | (with_reducible assumption) | assumption)
                           obtain ⟨ad324, e324, hx324_0⟩ := Kd.at_int (Kd.R_reads' HO_5.out).2.2 x13_7 p324 q324
                           obtain rfl : ad323 = ad324 := (by injection e324)
                           replace p324 := eq_true p324; replace q324 := eq_true q324
                           have p34 : 0 ≤ (x12_7 : Int) := of_decide_eq_true (by first | (with_reducible assumption) | assumption)
                           have q34 : (x12_7 : Int) < ((x5_7.length : Int) : Int) := of_decide_eq_true (by first | (with_reducible assumption) | assumption)
                           obtain ⟨go34, co34, eo34, gb34, gl34, cl34, HG34⟩ := Kd.R_form HO_5.out (by omega)
                           (first | cases eo34 | (injection eo34 with ea_ en_ ec_; (first | subst ea_ | (injection ea_ with ea_; subst ea_)); subst ec_; clear en_))
                           have GB34 := Aside0.mk gb34; have GG34 := Aside0.mk HG34; clear gb34 gl34 HG34
                           (first | simp only [add_plain] at hx323_0 | skip)
                           (first | simp only [add_plain] at hx324_0 | skip)
                           obtain ⟨hx34_0, hf34_0⟩ := Kd.R_celln 0 HO_5.out (x12_7 : Int) p34 q34
                           replace p34 := eq_true p34; replace q34 := eq_true q34
                           have HP36 := Kd.R_putg HO_5.out (x12_7 : Int) (rd x5_7 x13_7)
                           go_wp2_with (first | ((with_reducible refine gate_store (t := 3) (p := 107) rfl ?_); (try (rw [drewN_self wr]; generalize hq_ : World.drewN wr _ = wr; have n0_ := Aside0.mk (Kd.R_at hq_ HO_5.out); have n1_ := Aside0.mk (below_at hq_ HB.out); clear hq_ HO_5 HB; have HO_5 := n0_; have HB := n1_; clear n0_ n1_; (try (obtain ⟨hy36_, hz36_⟩ := Kd.R_celln 0 HO_5.out (x12_7 : Int) (of_decide_eq_true (by first | (with_reducible assumption) | assumption)) (of_decide_eq_true (by first | (with_reducible assumption) | assumption)))); (try (have HP36 := Kd.R_putg HO_5.out (x12_7 : Int) (rd x5_7 x13_7))))); refine store_event (t := 3) (p := 107) (v := ?vo_w37) (w1 := (wr.setCell ⟨go34, (x12_7 : Int).toNat, none⟩ (.int .i64 (rd x5_7 x13_7)))) ?hg ?ho ?hn ?hr ?_; (case ho => rfl); (case hg => rfl); (case hn => rfl); (case hr => first | (go_simp; done) | (go_simp; rfl)); intro w37 hw; have hg : wr.grownBy w37 (some go34) := (by rw [hw]; exact HP36.2); have hp_ : Kd.R (Kd.int .i64) 3 w37 w.heap.size (fun _ => True) (.slice (some ⟨go34, 0, none⟩) x5_7.length co14) y325 := (by rw [hw, Ny325.out]; exact HP36.1); clear HP36; have n0_ := Aside0.mk (hp_); have n1_ := Aside0.mk ((by rw [hw]; exact below_set (HB.out) GB34.out : Below w.heap.size w w37)); clear HO_5; clear HB; have HO_5 := n0_; have HB := n1_; clear n0_ n1_; clear hg hw hp_; have p35 : 0 ≤ (x13_7 : Int) := of_decide_eq_true (by first | (with_reducible assumption) | assumption); have q35 : (x13_7 : Int) < ((x5_7.length : Int) : Int) := of_decide_eq_true (by first | (with_reducible assumption) | assumption); obtain ⟨hx35_0, hf35_0⟩ := Kd.R_celln 0 HO_5.out (x13_7 : Int) p35 q35; replace p35 := eq_true p35; replace q35 := eq_true q35; obtain ⟨hy38_, hz38_⟩ := Kd.R_celln 0 HO_5.out (x13_7 : Int) (of_decide_eq_true (by first | (with_reducible assumption) | assumption)) (of_decide_eq_true (by first | (with_reducible assumption) | assumption)); have HP38 := Kd.R_putg HO_5.out (x13_7 : Int) (rd x5_7 x12_7)) | ((with_reducible refine gate_store (t := 3) (p := 111) rfl ?_); (try (rw [drewN_self w37]; generalize hq_ : World.drewN w37 _ = w37; have n0_ := Aside0.mk (Kd.R_at hq_ HO_5.out); have n1_ := Aside0.mk (below_at hq_ HB.out); clear hq_ HO_5 HB; have HO_5 := n0_; have HB := n1_; clear n0_ n1_; (try (obtain ⟨hy38_, hz38_⟩ := Kd.R_celln 0 HO_5.out (x13_7 : Int) (of_decide_eq_true (by first | (with_reducible assumption) | assumption)) (of_decide_eq_true (by first | (with_reducible assumption) | assumption)))); (try (have HP38 := Kd.R_putg HO_5.out (x13_7 : Int) (rd x5_7 x12_7))))); refine store_event (t := 3) (p := 111) (v := ?vo_w39) (w1 := (w37.setCell ⟨go34, (x13_7 : Int).toNat, none⟩ (.int .i64 (rd x5_7 x12_7)))) ?hg ?ho ?hn ?hr ?_; (case ho => rfl); (case hg => rfl); (case hn => rfl); (case hr => first | (go_simp; done) | (go_simp; rfl)); intro w39 hw; have hg : w37.grownBy w39 (some go34) := (by rw [hw]; exact HP38.2); have hp_ : Kd.R (Kd.int .i64) 3 w39 w.heap.size (fun _ => True) (.slice (some ⟨go34, 0, none⟩) x5_7.length co14) y326 := (by rw [hw, Ny326.out]; exact HP38.1); clear HP38; have n0_ := Aside0.mk (hp_); have n1_ := Aside0.mk ((by rw [hw]; exact below_set (HB.out) GB34.out : Below w.heap.size w w39)); clear HO_5; clear HB; have HO_5 := n0_; have HB := n1_; clear n0_ n1_; clear hg hw hp_))
                           repeat (go_quiet (first | ((with_reducible refine gate_store (t := 3) (p := 107) rfl ?_); (try (rw [drewN_self wr]; generalize hq_ : World.drewN wr _ = wr; have n0_ := Aside0.mk (Kd.R_at hq_ HO_5.out); have n1_ := Aside0.mk (below_at hq_ HB.out); clear hq_ HO_5 HB; have HO_5 := n0_; have HB := n1_; clear n0_ n1_; (try (obtain ⟨hy36_, hz36_⟩ := Kd.R_celln 0 HO_5.out (x12_7 : Int) (of_decide_eq_true (by first | (with_reducible assumption) | assumption)) (of_decide_eq_true (by first | (with_reducible assumption) | assumption)))); (try (have HP36 := Kd.R_putg HO_5.out (x12_7 : Int) (rd x5_7 x13_7))))); refine store_event (t := 3) (p := 107) (v := ?vo_w37) (w1 := (wr.setCell ⟨go34, (x12_7 : Int).toNat, none⟩ (.int .i64 (rd x5_7 x13_7)))) ?hg ?ho ?hn ?hr ?_; (case ho => rfl); (case hg => rfl); (case hn => rfl); (case hr => first | (go_simp; done) | (go_simp; rfl)); intro w37 hw; have hg : wr.grownBy w37 (some go34) := (by rw [hw]; exact HP36.2); have hp_ : Kd.R (Kd.int .i64) 3 w37 w.heap.size (fun _ => True) (.slice (some ⟨go34, 0, none⟩) x5_7.length co14) y325 := (by rw [hw, Ny325.out]; exact HP36.1); clear HP36; have n0_ := Aside0.mk (hp_); have n1_ := Aside0.mk ((by rw [hw]; exact below_set (HB.out) GB34.out : Below w.heap.size w w37)); clear HO_5; clear HB; have HO_5 := n0_; have HB := n1_; clear n0_ n1_; clear hg hw hp_; have p35 : 0 ≤ (x13_7 : Int) := of_decide_eq_true (by first | (with_reducible assumption) | assumption); have q35 : (x13_7 : Int) < ((x5_7.length : Int) : Int) := of_decide_eq_true (by first | (with_reducible assumption) | assumption); obtain ⟨hx35_0, hf35_0⟩ := Kd.R_celln 0 HO_5.out (x13_7 : Int) p35 q35; replace p35 := eq_true p35; replace q35 := eq_true q35; obtain ⟨hy38_, hz38_⟩ := Kd.R_celln 0 HO_5.out (x13_7 : Int) (of_decide_eq_true (by first | (with_reducible assumption) | assumption)) (of_decide_eq_true (by first | (with_reducible assumption) | assumption)); have HP38 := Kd.R_putg HO_5.out (x13_7 : Int) (rd x5_7 x12_7)) | ((with_reducible refine gate_store (t := 3) (p := 111) rfl ?_); (try (rw [drewN_self w37]; generalize hq_ : World.drewN w37 _ = w37; have n0_ := Aside0.mk (Kd.R_at hq_ HO_5.out); have n1_ := Aside0.mk (below_at hq_ HB.out); clear hq_ HO_5 HB; have HO_5 := n0_; have HB := n1_; clear n0_ n1_; (try (obtain ⟨hy38_, hz38_⟩ := Kd.R_celln 0 HO_5.out (x13_7 : Int) (of_decide_eq_true (by first | (with_reducible assumption) | assumption)) (of_decide_eq_true (by first | (with_reducible assumption) | assumption)))); (try (have HP38 := Kd.R_putg HO_5.out (x13_7 : Int) (rd x5_7 x12_7))))); refine store_event (t := 3) (p := 111) (v := ?vo_w39) (w1 := (w37.setCell ⟨go34, (x13_7 : Int).toNat, none⟩ (.int .i64 (rd x5_7 x12_7)))) ?hg ?ho ?hn ?hr ?_; (case ho => rfl); (case hg => rfl); (case hn => rfl); (case hr => first | (go_simp; done) | (go_simp; rfl)); intro w39 hw; have hg : w37.grownBy w39 (some go34) := (by rw [hw]; exact HP38.2); have hp_ : Kd.R (Kd.int .i64) 3 w39 w.heap.size (fun _ => True) (.slice (some ⟨go34, 0, none⟩) x5_7.length co14) y326 := (by rw [hw, Ny326.out]; exact HP38.1); clear HP38; have n0_ := Aside0.mk (hp_); have n1_ := Aside0.mk ((by rw [hw]; exact below_set (HB.out) GB34.out : Below w.heap.size w w39)); clear HO_5; clear HB; have HO_5 := n0_; have HB := n1_; clear n0_ n1_; clear hg hw hp_)); try go_wp2_with (first | ((with_reducible refine gate_store (t := 3) (p := 107) rfl ?_); (try (rw [drewN_self wr]; generalize hq_ : World.drewN wr _ = wr; have n0_ := Aside0.mk (Kd.R_at hq_ HO_5.out); have n1_ := Aside0.mk (below_at hq_ HB.out); clear hq_ HO_5 HB; have HO_5 := n0_; have HB := n1_; clear n0_ n1_; (try (obtain ⟨hy36_, hz36_⟩ := Kd.R_celln 0 HO_5.out (x12_7 : Int) (of_decide_eq_true (by first | (with_reducible assumption) | assumption)) (of_decide_eq_true (by first | (with_reducible assumption) | assumption)))); (try (have HP36 := Kd.R_putg HO_5.out (x12_7 : Int) (rd x5_7 x13_7))))); refine store_event (t := 3) (p := 107) (v := ?vo_w37) (w1 := (wr.setCell ⟨go34, (x12_7 : Int).toNat, none⟩ (.int .i64 (rd x5_7 x13_7)))) ?hg ?ho ?hn ?hr ?_; (case ho => rfl); (case hg => rfl); (case hn => rfl); (case hr => first | (go_simp; done) | (go_simp; rfl)); intro w37 hw; have hg : wr.grownBy w37 (some go34) := (by rw [hw]; exact HP36.2); have hp_ : Kd.R (Kd.int .i64) 3 w37 w.heap.size (fun _ => True) (.slice (some ⟨go34, 0, none⟩) x5_7.length co14) y325 := (by rw [hw, Ny325.out]; exact HP36.1); clear HP36; have n0_ := Aside0.mk (hp_); have n1_ := Aside0.mk ((by rw [hw]; exact below_set (HB.out) GB34.out : Below w.heap.size w w37)); clear HO_5; clear HB; have HO_5 := n0_; have HB := n1_; clear n0_ n1_; clear hg hw hp_; have p35 : 0 ≤ (x13_7 : Int) := of_decide_eq_true (by first | (with_reducible assumption) | assumption); have q35 : (x13_7 : Int) < ((x5_7.length : Int) : Int) := of_decide_eq_true (by first | (with_reducible assumption) | assumption); obtain ⟨hx35_0, hf35_0⟩ := Kd.R_celln 0 HO_5.out (x13_7 : Int) p35 q35; replace p35 := eq_true p35; replace q35 := eq_true q35; obtain ⟨hy38_, hz38_⟩ := Kd.R_celln 0 HO_5.out (x13_7 : Int) (of_decide_eq_true (by first | (with_reducible assumption) | assumption)) (of_decide_eq_true (by first | (with_reducible assumption) | assumption)); have HP38 := Kd.R_putg HO_5.out (x13_7 : Int) (rd x5_7 x12_7)) | ((with_reducible refine gate_store (t := 3) (p := 111) rfl ?_); (try (rw [drewN_self w37]; generalize hq_ : World.drewN w37 _ = w37; have n0_ := Aside0.mk (Kd.R_at hq_ HO_5.out); have n1_ := Aside0.mk (below_at hq_ HB.out); clear hq_ HO_5 HB; have HO_5 := n0_; have HB := n1_; clear n0_ n1_; (try (obtain ⟨hy38_, hz38_⟩ := Kd.R_celln 0 HO_5.out (x13_7 : Int) (of_decide_eq_true (by first | (with_reducible assumption) | assumption)) (of_decide_eq_true (by first | (with_reducible assumption) | assumption)))); (try (have HP38 := Kd.R_putg HO_5.out (x13_7 : Int) (rd x5_7 x12_7))))); refine store_event (t := 3) (p := 111) (v := ?vo_w39) (w1 := (w37.setCell ⟨go34, (x13_7 : Int).toNat, none⟩ (.int .i64 (rd x5_7 x12_7)))) ?hg ?ho ?hn ?hr ?_; (case ho => rfl); (case hg => rfl); (case hn => rfl); (case hr => first | (go_simp; done) | (go_simp; rfl)); intro w39 hw; have hg : w37.grownBy w39 (some go34) := (by rw [hw]; exact HP38.2); have hp_ : Kd.R (Kd.int .i64) 3 w39 w.heap.size (fun _ => True) (.slice (some ⟨go34, 0, none⟩) x5_7.length co14) y326 := (by rw [hw, Ny326.out]; exact HP38.1); clear HP38; have n0_ := Aside0.mk (hp_); have n1_ := Aside0.mk ((by rw [hw]; exact below_set (HB.out) GB34.out : Below w.heap.size w w39)); clear HO_5; clear HB; have HO_5 := n0_; have HB := n1_; clear n0_ n1_; clear hg hw hp_)))
                           (try simp only [← hl5_7])
                           go_roundg k7
                           case measure => have := HK1.out; have := HK2.out; have := HK3.out; have := HK4.out; have := HJ19.out; have := HJ22.out; have := HK7.out; omega
                           case rel => exact ⟨(y326), (wrap64 (x12_7 + 1)), (wrap64 (x13_7 - 1)), (by first | rfl | (simp; done) | (simp [*]; done)), (by first | rfl | (simp; done) | (simp [*]; done)), H', ⟨by have := HK1.out; have := HK2.out; have := HK3.out; have := HK4.out; have := HJ19.out; have := HJ22.out; have := HK7.out; omega⟩, ⟨by (try simp only [hl5_2]); (try simp only [hl5_4]); (try simp only [hl5_7]); exact RR HO_5⟩, ⟨BB HB⟩⟩
                          ·rw [if_neg c33] at H
                           exact absurd H (by simp)
                         ·rw [if_neg c32] at H
                          exact absurd H (by simp)
                        ·rw [if_neg c31] at H
                         exact absurd H (by simp)
                       ·rw [if_neg c30] at H
                        exact absurd H (by simp)
                      ·rw [if_neg c29] at H; have c29b0 : decide (x12_7 < x13_7) = false := decide_eq_false c29; clear c29; by_cases c40 : x11_22 > x10_4
                       ·rw [if_pos c40] at H; have c40b0 : decide (x10_4 < x11_22) = true := decide_eq_true c40; clear c40
                        have H' := Aside0.mk H
                        clear H
                        go_wp2
                        repeat (go_quiet (fail); try go_wp2)
                        (try simp only [← hl5_4, ← hl5_7])
                        go_roundg k7
                        case measure => have := HK1.out; have := HK2.out; have := HK3.out; have := HK4.out; have := HJ19.out; have := HJ22.out; have := HK7.out; omega
                        case rel => exact ⟨(x5_7), (wrap64 ((wrap64 (x11_22 - 1)) + 1)), (by first | rfl | (simp; done) | (simp [*]; done)), H', ⟨by have := HK1.out; have := HK2.out; have := HK3.out; have := HK4.out; have := HJ19.out; have := HJ22.out; have := HK7.out; omega⟩, ⟨by (try simp only [hl5_2]); (try simp only [hl5_4]); (try simp only [hl5_7]); exact RR HO_5⟩, ⟨BB HB⟩⟩
                       ·rw [if_neg c40] at H; have c40b0 : decide (x10_4 < x11_22) = false := decide_eq_false c40; clear c40
                        have H' := Aside0.mk H
                        clear H
                        go_wp2
                        repeat (go_quiet (fail); try go_wp2)
                        (try simp only [← hl5_4, ← hl5_7])
                        go_roundg k7
                        case measure => have := HK1.out; have := HK2.out; have := HK3.out; have := HK4.out; have := HJ19.out; have := HJ22.out; have := HK7.out; omega
                        case rel => exact ⟨(x5_7), (wrap64 (x10_4 + 1)), (by first | rfl | (simp; done) | (simp [*]; done)), H', ⟨by have := HK1.out; have := HK2.out; have := HK3.out; have := HK4.out; have := HJ19.out; have := HJ22.out; have := HK7.out; omega⟩, ⟨by (try simp only [hl5_2]); (try simp only [hl5_4]); (try simp only [hl5_7]); exact RR HO_5⟩, ⟨BB HB⟩⟩
                 ·replace c22 := Bool.eq_false_iff.mpr c22
                  subst c22
                  have H1 : (selvedgeref20_Visual.l1 kj19 l0 x5_4 (wrap64 (x7_2 - 1))) = some (r1, r2) := by rw [if_neg (show ¬ (false = true) by decide)] at H; exact H
                  clear H
                  have H := H1
                  clear H1
                  have H' := Aside0.mk H
                  clear H
                  go_wp2
                  repeat (go_quiet (fail); try go_wp2)
                  (try simp only [← hl5_2, ← hl5_4])
                  go_roundg kj19
                  case measure => have := HK1.out; have := HK2.out; have := HK3.out; have := HK4.out; have := HJ19.out; omega
                  case rel => exact ⟨(x5_4), (wrap64 (x7_2 - 1)), (by first | rfl | (simp; done) | (simp [*]; done)), H', ⟨by have := HK1.out; have := HK2.out; have := HK3.out; have := HK4.out; have := HJ19.out; omega⟩, ⟨by (try simp only [hl5_2]); (try simp only [hl5_4]); exact RR HO_5⟩, ⟨BB HB⟩⟩
         ·rw [if_neg c15] at H; have c15b0 : decide (1 ≤ x7_2) = false := decide_eq_false c15; clear c15
          simp only [Option.some.injEq, Prod.mk.injEq] at H
          obtain ⟨rfl, rfl⟩ := H
          go_wp2
          repeat (go_quiet (fail); try go_wp2)
          go_ret2
          exact ⟨_, FF, RR HO_5, BB HB⟩
   ·rw [if_neg c5] at H
    exact absurd H (by simp)
  ·rw [if_neg c4] at H
   exact absurd H (by simp)
 ·rw [if_neg c3] at H; have c3b0 : (t314 == 0) = false := beq_eq_false_iff_ne.mpr c3; have c3b1 : (t314 != 0) = true := bne_iff_ne.mpr c3
  simp only [Option.some.injEq, Prod.mk.injEq] at H
  obtain ⟨rfl, rfl⟩ := H
  go_enter Tryd.func20, Tryd.ntmps20
  go_wp2_with (first | (go_at_call 29; (with_reducible refine (selvedgeref20_right.calls k _ _ l0 t314 _ ?side1 ?side2 A2.out).mono ?_); (case side1 => repeat (first | exact HR0.out | (with_reducible refine Kd.C_alloc ?_ _) | (with_reducible refine Kd.C_drewN ?_ _) | (with_reducible refine Kd.C_drew ?_))); (case side2 => exact HC0.out); rintro e w' ⟨rfl, ⟨nd, rfl⟩⟩; (try first | exact ⟨rfl, _, World.drewN_drewN _ _ _⟩ | exact ⟨rfl, _, Eq.trans (World.drewN_drewN _ _ _) (congrArg (World.drewN _) (Nat.add_assoc _ _ _))⟩)))
  repeat (go_quiet (first | (go_at_call 29; (with_reducible refine (selvedgeref20_right.calls k _ _ l0 t314 _ ?side1 ?side2 A2.out).mono ?_); (case side1 => repeat (first | exact HR0.out | (with_reducible refine Kd.C_alloc ?_ _) | (with_reducible refine Kd.C_drewN ?_ _) | (with_reducible refine Kd.C_drew ?_))); (case side2 => exact HC0.out); rintro e w' ⟨rfl, ⟨nd, rfl⟩⟩; (try first | exact ⟨rfl, _, World.drewN_drewN _ _ _⟩ | exact ⟨rfl, _, Eq.trans (World.drewN_drewN _ _ _) (congrArg (World.drewN _) (Nat.add_assoc _ _ _))⟩))); try go_wp2_with (first | (go_at_call 29; (with_reducible refine (selvedgeref20_right.calls k _ _ l0 t314 _ ?side1 ?side2 A2.out).mono ?_); (case side1 => repeat (first | exact HR0.out | (with_reducible refine Kd.C_alloc ?_ _) | (with_reducible refine Kd.C_drewN ?_ _) | (with_reducible refine Kd.C_drew ?_))); (case side2 => exact HC0.out); rintro e w' ⟨rfl, ⟨nd, rfl⟩⟩; (try first | exact ⟨rfl, _, World.drewN_drewN _ _ _⟩ | exact ⟨rfl, _, Eq.trans (World.drewN_drewN _ _ _) (congrArg (World.drewN _) (Nat.add_assoc _ _ _))⟩))))
  go_ret2
  exact ⟨_, FF, by first | exact Kd.R_nil _ _ _ _ _ | exact Kd.N_nil _ _ _ _ _ | exact Kd.V_nil _ _ _ _ _ | exact Kd.Q_nil _ _ _ _ _ | exact Kd.S_nil _ _ _ _ _, BB HB⟩
end Go.Proofs.YtgfkbijmchoolaaDoor.P

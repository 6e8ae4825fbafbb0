import Derived.Test.YtgfkbijmchoolaaDoorSh
import Derived.Test.YtgfkbijmchoolaaDoorP0
import Derived.Test.YtgfkbijmchoolaaDoorP3
import Derived.Test.YtgfkbijmchoolaaDoorP4
import Derived.Test.YtgfkbijmchoolaaDoorP5
namespace Go.Proofs.YtgfkbijmchoolaaDoor.P
open Go.Proofs.YtgfkbijmchoolaaDoorH Go.Proofs.YtgfkbijmchoolaaDoorSh Go.RowKit Go.Proofs.YtgfkbijmchoolaaDoorW.PrintWords Go.Proofs.YtgfkbijmchoolaaDoorW.PrintLast Go.Proofs.YtgfkbijmchoolaaDoorW.PrintMore
attribute [local go_sem] max2_int min2_int max_two min_two max_three min_three max_four min_four
set_option linter.unusedVariables false
set_option linter.unusedSimpArgs false
mutual
def selvedgelaw20_OrderTurns.l0 : Nat → List Int → List Int → Int → Option (Bool)
 | 0, _, _, _ => none
 | k + 1, x0, x3, x4 => if x4 < (x0.length : Int) then (if 0 ≤ x4 then (if (rd x0 x4) > 124 then ((selvedgelaw20_works.f k).bind fun t220 => (some t220)) else (if x3.length < 140737488355328 then (selvedgelaw20_OrderTurns.l0 k x0 (x3 ++ [((rd x0 x4) + 2) % 256]) (wrap64 (x4 + 1))) else (none))) else (none)) else ((order_Visual.f k x0).bind fun bt225 => ((order_Visual.f k x3).bind fun bt229 => ((order_Logical.f k bt225.1).bind fun bt233 => (if bt225.2 = 0 then (if bt229.2 = 0 then (if bt233.2 = 0 then (if (bt225.1.length : Int) = (x0.length : Int) then ((selvedgekit_SameInts.f k bt225.1 bt229.1).bind fun t237 => (selvedgelaw20_OrderTurns.j1 k x0 bt225.1 bt233.1 (!t237))) else (selvedgelaw20_OrderTurns.j1 k x0 bt225.1 bt233.1 true)) else (selvedgelaw20_OrderTurns.j1 k x0 bt225.1 bt233.1 true)) else (selvedgelaw20_OrderTurns.j1 k x0 bt225.1 bt233.1 true)) else (selvedgelaw20_OrderTurns.j1 k x0 bt225.1 bt233.1 true)))))
def selvedgelaw20_OrderTurns.j1 : Nat → List Int → List Int → List Int → Bool → Option (Bool)
 | 0, _, _, _, _ => none
 | k + 1, x0, x5, x9, x75 => if x75 = true then (some false) else (selvedgelaw20_OrderTurns.l1 k x0 x5 x9 0)
def selvedgelaw20_OrderTurns.l1 : Nat → List Int → List Int → List Int → Int → Option (Bool)
 | 0, _, _, _, _ => none
 | k + 1, x0, x5, x9, x11 => if x11 < (x5.length : Int) then (if 0 ≤ x11 then (if 0 ≤ (rd x5 x11) then (if (rd x5 x11) < (x9.length : Int) then (if (rd x9 (rd x5 x11)) = x11 then (selvedgelaw20_OrderTurns.l1 k x0 x5 x9 (wrap64 (x11 + 1))) else (some false)) else (none)) else (none)) else (none)) else (selvedgelaw20_OrderTurns.l2 k x0 x9 1)
def selvedgelaw20_OrderTurns.l2 : Nat → List Int → List Int → Int → Option (Bool)
 | 0, _, _, _ => none
 | k + 1, x0, x9, x12 => if x12 < (x0.length : Int) then (if 0 ≤ x12 then (if (Int.tmod (rd x0 x12) 2) = 1 then (if 0 ≤ (wrap64 (x12 - 1)) then (if (wrap64 (x12 - 1)) < (x0.length : Int) then (if (rd x0 x12) = (rd x0 (wrap64 (x12 - 1))) then (if x12 < (x9.length : Int) then (if (wrap64 (x12 - 1)) < (x9.length : Int) then (if (rd x9 x12) = (wrap64 ((rd x9 (wrap64 (x12 - 1))) + (-1))) then (selvedgelaw20_OrderTurns.l2 k x0 x9 (wrap64 (x12 + 1))) else (some false)) else (none)) else (none)) else (selvedgelaw20_OrderTurns.l2 k x0 x9 (wrap64 (x12 + 1)))) else (none)) else (none)) else (if 0 ≤ (wrap64 (x12 - 1)) then (if (wrap64 (x12 - 1)) < (x0.length : Int) then (if (rd x0 x12) = (rd x0 (wrap64 (x12 - 1))) then (if x12 < (x9.length : Int) then (if (wrap64 (x12 - 1)) < (x9.length : Int) then (if (rd x9 x12) = (wrap64 ((rd x9 (wrap64 (x12 - 1))) + 1)) then (selvedgelaw20_OrderTurns.l2 k x0 x9 (wrap64 (x12 + 1))) else (some false)) else (none)) else (none)) else (selvedgelaw20_OrderTurns.l2 k x0 x9 (wrap64 (x12 + 1)))) else (none)) else (none))) else (none)) else ((selvedgelaw20_works.f k).bind fun t240 => (some t240))
end
def selvedgelaw20_OrderTurns.f (k : Nat) (l0 : List Int) : Option (Bool) := if (l0.length : Int) > 600 then ((selvedgelaw20_works.f k).bind fun t218 => (some t218)) else (selvedgelaw20_OrderTurns.l0 k l0 ([] : List Int) 0)
theorem selvedgelaw20_OrderTurns.mono_l : ∀ k, (∀ y0 y1 y2, LeO (selvedgelaw20_OrderTurns.l0 k y0 y1 y2) (selvedgelaw20_OrderTurns.l0 (k + 1) y0 y1 y2)) ∧ (∀ y0 y1 y2 y3, LeO (selvedgelaw20_OrderTurns.j1 k y0 y1 y2 y3) (selvedgelaw20_OrderTurns.j1 (k + 1) y0 y1 y2 y3)) ∧ (∀ y0 y1 y2 y3, LeO (selvedgelaw20_OrderTurns.l1 k y0 y1 y2 y3) (selvedgelaw20_OrderTurns.l1 (k + 1) y0 y1 y2 y3)) ∧ (∀ y0 y1 y2, LeO (selvedgelaw20_OrderTurns.l2 k y0 y1 y2) (selvedgelaw20_OrderTurns.l2 (k + 1) y0 y1 y2))
 | 0 => ⟨fun _ _ _ r h => by simp [selvedgelaw20_OrderTurns.l0] at h, fun _ _ _ _ r h => by simp [selvedgelaw20_OrderTurns.j1] at h, fun _ _ _ _ r h => by simp [selvedgelaw20_OrderTurns.l1] at h, fun _ _ _ r h => by simp [selvedgelaw20_OrderTurns.l2] at h⟩
 | k + 1 => by
  obtain ⟨ih0, ih1, ih2, ih3⟩ := selvedgelaw20_OrderTurns.mono_l k
  refine ⟨?_, ?_, ?_, ?_⟩
  ·intro y0 y1 y2
   unfold selvedgelaw20_OrderTurns.l0
   repeat' first
   | (with_reducible exact ih0 _ _ _)
   | (with_reducible exact ih1 _ _ _ _)
   | (with_reducible exact ih2 _ _ _ _)
   | (with_reducible exact ih3 _ _ _)
   | (with_reducible exact order_Logical.mono _ _)
   | (with_reducible exact order_Visual.mono _ _)
   | (with_reducible exact selvedgekit_SameInts.mono _ _ _)
   | (with_reducible exact selvedgelaw20_works.mono _)
   | (with_reducible exact LeO.refl _)
   | (with_reducible exact LeO.none _)
   | (with_reducible refine LeO.ite ?_ ?_)
   | (with_reducible refine LeO.bind ?_ (fun _ => ?_))
   | exact ih0 _ _ _
   | exact ih1 _ _ _ _
   | exact ih2 _ _ _ _
   | exact ih3 _ _ _
   | exact order_Logical.mono _ _
   | exact order_Visual.mono _ _
   | exact selvedgekit_SameInts.mono _ _ _
   | exact selvedgelaw20_works.mono _
   | exact LeO.none _
   | refine LeO.ite ?_ ?_
   | refine LeO.bind ?_ (fun _ => ?_)
  ·intro y0 y1 y2 y3
   unfold selvedgelaw20_OrderTurns.j1
   repeat' first
   | (with_reducible exact ih0 _ _ _)
   | (with_reducible exact ih1 _ _ _ _)
   | (with_reducible exact ih2 _ _ _ _)
   | (with_reducible exact ih3 _ _ _)
   | (with_reducible exact order_Logical.mono _ _)
   | (with_reducible exact order_Visual.mono _ _)
   | (with_reducible exact selvedgekit_SameInts.mono _ _ _)
   | (with_reducible exact selvedgelaw20_works.mono _)
   | (with_reducible exact LeO.refl _)
   | (with_reducible exact LeO.none _)
   | (with_reducible refine LeO.ite ?_ ?_)
   | (with_reducible refine LeO.bind ?_ (fun _ => ?_))
   | exact ih0 _ _ _
   | exact ih1 _ _ _ _
   | exact ih2 _ _ _ _
   | exact ih3 _ _ _
   | exact order_Logical.mono _ _
   | exact order_Visual.mono _ _
   | exact selvedgekit_SameInts.mono _ _ _
   | exact selvedgelaw20_works.mono _
   | exact LeO.none _
   | refine LeO.ite ?_ ?_
   | refine LeO.bind ?_ (fun _ => ?_)
  ·intro y0 y1 y2 y3
   unfold selvedgelaw20_OrderTurns.l1
   repeat' first
   | (with_reducible exact ih0 _ _ _)
   | (with_reducible exact ih1 _ _ _ _)
   | (with_reducible exact ih2 _ _ _ _)
   | (with_reducible exact ih3 _ _ _)
   | (with_reducible exact order_Logical.mono _ _)
   | (with_reducible exact order_Visual.mono _ _)
   | (with_reducible exact selvedgekit_SameInts.mono _ _ _)
   | (with_reducible exact selvedgelaw20_works.mono _)
   | (with_reducible exact LeO.refl _)
   | (with_reducible exact LeO.none _)
   | (with_reducible refine LeO.ite ?_ ?_)
   | (with_reducible refine LeO.bind ?_ (fun _ => ?_))
   | exact ih0 _ _ _
   | exact ih1 _ _ _ _
   | exact ih2 _ _ _ _
   | exact ih3 _ _ _
   | exact order_Logical.mono _ _
   | exact order_Visual.mono _ _
   | exact selvedgekit_SameInts.mono _ _ _
   | exact selvedgelaw20_works.mono _
   | exact LeO.none _
   | refine LeO.ite ?_ ?_
   | refine LeO.bind ?_ (fun _ => ?_)
  ·intro y0 y1 y2
   unfold selvedgelaw20_OrderTurns.l2
   repeat' first
   | (with_reducible exact ih0 _ _ _)
   | (with_reducible exact ih1 _ _ _ _)
   | (with_reducible exact ih2 _ _ _ _)
   | (with_reducible exact ih3 _ _ _)
   | (with_reducible exact order_Logical.mono _ _)
   | (with_reducible exact order_Visual.mono _ _)
   | (with_reducible exact selvedgekit_SameInts.mono _ _ _)
   | (with_reducible exact selvedgelaw20_works.mono _)
   | (with_reducible exact LeO.refl _)
   | (with_reducible exact LeO.none _)
   | (with_reducible refine LeO.ite ?_ ?_)
   | (with_reducible refine LeO.bind ?_ (fun _ => ?_))
   | exact ih0 _ _ _
   | exact ih1 _ _ _ _
   | exact ih2 _ _ _ _
   | exact ih3 _ _ _
   | exact order_Logical.mono _ _
   | exact order_Visual.mono _ _
   | exact selvedgekit_SameInts.mono _ _ _
   | exact selvedgelaw20_works.mono _
   | exact LeO.none _
   | refine LeO.ite ?_ ?_
   | refine LeO.bind ?_ (fun _ => ?_)
theorem selvedgelaw20_OrderTurns.mono : ∀ a0 k, LeO (selvedgelaw20_OrderTurns.f k a0) (selvedgelaw20_OrderTurns.f (k + 1) a0) := by
 intro a0 k
 obtain ⟨ih0, ih1, ih2, ih3⟩ := selvedgelaw20_OrderTurns.mono_l k
 unfold selvedgelaw20_OrderTurns.f
 repeat' first
   | (with_reducible exact ih0 _ _ _)
   | (with_reducible exact ih1 _ _ _ _)
   | (with_reducible exact ih2 _ _ _ _)
   | (with_reducible exact ih3 _ _ _)
   | (with_reducible exact order_Logical.mono _ _)
   | (with_reducible exact order_Visual.mono _ _)
   | (with_reducible exact selvedgekit_SameInts.mono _ _ _)
   | (with_reducible exact selvedgelaw20_works.mono _)
   | (with_reducible exact LeO.refl _)
   | (with_reducible exact LeO.none _)
   | (with_reducible refine LeO.ite ?_ ?_)
   | (with_reducible refine LeO.bind ?_ (fun _ => ?_))
   | exact ih0 _ _ _
   | exact ih1 _ _ _ _
   | exact ih2 _ _ _ _
   | exact ih3 _ _ _
   | exact order_Logical.mono _ _
   | exact order_Visual.mono _ _
   | exact selvedgekit_SameInts.mono _ _ _
   | exact selvedgelaw20_works.mono _
   | exact LeO.none _
   | refine LeO.ite ?_ ?_
   | refine LeO.bind ?_ (fun _ => ?_)
set_option maxHeartbeats 80000000 in
set_option maxRecDepth 100000 in
theorem selvedgelaw20_OrderTurns.calls (k : Nat) (A0 : Option Addr) (c0 : Nat) (l0 : List Int) (r : Bool) (w : World) (hr0 : Kd.C (Kd.int .u8) w A0 l0.length l0) (hc0 : l0.length ≤ c0) (h : selvedgelaw20_OrderTurns.f k l0 = some r) (hG : LaidW w := by first | exact hG | exact HG.out | exact LaidW.below HG.out (BB HB)) :
  Calls Tryd.prog 4 #[.slice A0 l0.length c0] w fun e w' => e = .returned (.bool r) ∧ Below w.heap.size w w' := by
 have HG := Aside0.mk hG; clear hG; have HR0 := Aside0.mk hr0; have HC0 := Aside0.mk hc0; clear hr0 hc0
 have HB := Aside0.mk (Below.refl w.heap.size w)
 have H : (if (l0.length : Int) > 600 then ((selvedgelaw20_works.f k).bind fun t218 => (some t218)) else (selvedgelaw20_OrderTurns.l0 k l0 ([] : List Int) 0)) = some r := h
 clear h; by_cases c2 : (l0.length : Int) > 600
 ·rw [if_pos c2] at H; have c2b0 : decide (600 < (l0.length : Int)) = true := decide_eq_true c2
  have c2b1 : decide (600 < l0.length) = true := decide_eq_true (by omega)
  clear c2; replace H := Option.bind_eq_some_iff.mp H; obtain ⟨t218, A30, H⟩ := H
  replace H : (some t218) = some r := H
  have A3 := Aside0.mk A30; clear A30; obtain rfl := Option.some.inj H
  go_enter Tryd.func4, Tryd.ntmps4
  go_wp2_with (first | (go_at_call 11; (with_reducible refine (selvedgelaw20_works.calls k  t218 _ A3.out).mono ?_); rintro e w4 ⟨rfl, hb⟩; have n0_ := Aside0.mk (below_step (BB HB) hb); clear HB; have HB := n0_; clear n0_; (try clear hb); (try clear hb2); (try clear hk); (try clear hi)))
  repeat (go_quiet (first | (go_at_call 11; (with_reducible refine (selvedgelaw20_works.calls k  t218 _ A3.out).mono ?_); rintro e w4 ⟨rfl, hb⟩; have n0_ := Aside0.mk (below_step (BB HB) hb); clear HB; have HB := n0_; clear n0_; (try clear hb); (try clear hb2); (try clear hk); (try clear hi))); try go_wp2_with (first | (go_at_call 11; (with_reducible refine (selvedgelaw20_works.calls k  t218 _ A3.out).mono ?_); rintro e w4 ⟨rfl, hb⟩; have n0_ := Aside0.mk (below_step (BB HB) hb); clear HB; have HB := n0_; clear n0_; (try clear hb); (try clear hb2); (try clear hk); (try clear hi))))
  go_ret
  exact ⟨FF, BB HB⟩
 ·rw [if_neg c2] at H; have c2b0 : decide (600 < (l0.length : Int)) = false := decide_eq_false c2
  have c2b1 : decide (600 < l0.length) = false := decide_eq_false (by omega)
  clear c2
  have H' := Aside0.mk H
  clear H
  go_enter Tryd.func4, Tryd.ntmps4
  go_wp2
  repeat (go_quiet (fail); try go_wp2)
  go_loopg [3, 4] k (fun kq v3 v4 w' => ∃ (x3_1 : List Int) (x4_1 : Int), v4 = .int .i64 x4_1 ∧ Aside0 (selvedgelaw20_OrderTurns.l0 kq l0 x3_1 x4_1 = some r) ∧ Aside0 (kq ≤ k) ∧ Aside0 (Kd.R (Kd.int .u8) 5 w' w.heap.size (fun _ => True) v3 x3_1) ∧ Aside0 (Below w.heap.size w w'))
  case atStart => exact ⟨(([] : List Int)), (0), (by first | rfl | (simp; done) | (simp [*]; done)), H', ⟨Nat.le_refl _⟩, ⟨by first | exact Kd.R_nil _ _ _ _ _ | exact Kd.N_nil _ _ _ _ _ | exact Kd.V_nil _ _ _ _ _ | exact Kd.Q_nil _ _ _ _ _ | exact Kd.S_nil _ _ _ _ _⟩, ⟨BB HB⟩⟩
  case round =>
   clear H'
   (try clear c2); (try clear c2b0); (try clear c2b1); (try clear p2); (try clear c4)
   obtain ⟨x3_1, x4_1, rfl, HA, HK1, HO_3, HB⟩ := hrel
   cases gk with
   | zero => exact absurd HA.out (by simp [selvedgelaw20_OrderTurns.l0])
   | succ k1 =>
    have H := HA.out
    clear HA
    simp only [selvedgelaw20_OrderTurns.l0] at H
    by_cases c5 : x4_1 < (l0.length : Int)
    ·rw [if_pos c5] at H; have c5b0 : decide (x4_1 < (l0.length : Int)) = true := decide_eq_true c5; clear c5; by_cases c6 : 0 ≤ x4_1
     ·rw [if_pos c6] at H; have c6b0 : decide (0 ≤ x4_1) = true := decide_eq_true c6; clear c6; by_cases c7 : (rd l0 x4_1) > 124
      ·rw [if_pos c7] at H; have c7b0 : decide (124 < (rd l0 x4_1)) = true := decide_eq_true c7; clear c7; replace H := Option.bind_eq_some_iff.mp H; obtain ⟨t220, A80, H⟩ := H
       replace H : (some t220) = some r := H
       have A8 := Aside0.mk A80; clear A80; obtain rfl := Option.some.inj H
       have p219 : 0 ≤ (x4_1 : Int) := of_decide_eq_true (by first | (with_reducible assumption) | assumption)
       have q219 : x4_1 < (l0.length : Int) := of_decide_eq_true (by first | (with_reducible assumption) | assumption)
       obtain ⟨ad219, e219, hx219_0⟩ := Kd.at_int HR0.out x4_1 p219 q219
       cases e219
       replace hx219_0 := (HB.out.cell (World.block_lt_of_cell? w _ hx219_0)).trans hx219_0
       replace p219 := eq_true p219; replace q219 := eq_true q219
       go_wp2_with (first | (go_at_call 11; (with_reducible refine (selvedgelaw20_works.calls k1  t220 _ A8.out).mono ?_); rintro e w9 ⟨rfl, hb⟩; have n0_ := Aside0.mk (Kd.R_below (RR HO_3) hb); have n1_ := Aside0.mk (below_step (BB HB) hb); clear HO_3; clear HB; have HO_3 := n0_; have HB := n1_; clear n0_ n1_; (try clear hb); (try clear hb2); (try clear hk); (try clear hi)))
       repeat (go_quiet (first | (go_at_call 11; (with_reducible refine (selvedgelaw20_works.calls k1  t220 _ A8.out).mono ?_); rintro e w9 ⟨rfl, hb⟩; have n0_ := Aside0.mk (Kd.R_below (RR HO_3) hb); have n1_ := Aside0.mk (below_step (BB HB) hb); clear HO_3; clear HB; have HO_3 := n0_; have HB := n1_; clear n0_ n1_; (try clear hb); (try clear hb2); (try clear hk); (try clear hi))); try go_wp2_with (first | (go_at_call 11; (with_reducible refine (selvedgelaw20_works.calls k1  t220 _ A8.out).mono ?_); rintro e w9 ⟨rfl, hb⟩; have n0_ := Aside0.mk (Kd.R_below (RR HO_3) hb); have n1_ := Aside0.mk (below_step (BB HB) hb); clear HO_3; clear HB; have HO_3 := n0_; have HB := n1_; clear n0_ n1_; (try clear hb); (try clear hb2); (try clear hk); (try clear hi))))
       go_ret
       exact ⟨FF, BB HB⟩
      ·rw [if_neg c7] at H; have c7b0 : decide (124 < (rd l0 x4_1)) = false := decide_eq_false c7; clear c7; by_cases c10 : x3_1.length < 140737488355328
       ·rw [if_pos c10] at H; have LMc10 := Aside0.mk c10; clear c10
        obtain ⟨y222, hy222⟩ : ∃ y_ : List Int, y_ = (x3_1 ++ [((rd l0 x4_1) + 2) % 256]) := ⟨_, rfl⟩
        replace H : (selvedgelaw20_OrderTurns.l0 k1 l0 y222 (wrap64 (x4_1 + 1))) = some r := by first | (rw [hy222]; with_reducible exact H) | (have H2_ := (Option.bind_some _ _).symm.trans H; rw [hy222]; with_reducible exact H2_) | (have H2_ := (Option.bind_some _ _).symm.trans H; with_reducible exact H2_) | with_reducible exact H | (rw [hy222]; exact H) | exact H
        have Ny222 := Aside0.mk hy222; clear hy222
        have H' := Aside0.mk H
        clear H
        have p219 : 0 ≤ (x4_1 : Int) := of_decide_eq_true (by first | (with_reducible assumption) | assumption)
        have q219 : x4_1 < (l0.length : Int) := of_decide_eq_true (by first | (with_reducible assumption) | assumption)
        obtain ⟨ad219, e219, hx219_0⟩ := Kd.at_int HR0.out x4_1 p219 q219
        cases e219
        replace hx219_0 := (HB.out.cell (World.block_lt_of_cell? w _ hx219_0)).trans hx219_0
        replace p219 := eq_true p219; replace q219 := eq_true q219
        have p221 : 0 ≤ (x4_1 : Int) := of_decide_eq_true (by first | (with_reducible assumption) | assumption)
        have q221 : x4_1 < (l0.length : Int) := of_decide_eq_true (by first | (with_reducible assumption) | assumption)
        obtain ⟨ad221, e221, hx221_0⟩ := Kd.at_int HR0.out x4_1 p221 q221
        obtain rfl : ad219 = ad221 := (by injection e221)
        replace hx221_0 := (HB.out.cell (World.block_lt_of_cell? w _ hx221_0)).trans hx221_0
        replace p221 := eq_true p221; replace q221 := eq_true q221
        go_wp2_with (first | ((with_reducible refine gate_builtin (b := .append) (xs := #[.tmp 30, .tmp 36]) rfl ?_); (try (refine gate_guard (by rfl) ?_; dsimp only)); at_builtin; refine Kd.R_append (Kd.int .u8) (w0 := w) w.heap.size rfl (.tmp 30) (.tmp 36) 23 5 (.int .u8 0) 1 rfl Tryd.underlying23 info5 rfl (by decide) (by omega) u3 x3_1 (((rd l0 x4_1) + 2) % 256) [.int .u8 (((rd l0 x4_1) + 2) % 256)] (fun _ => True) (fun _ => False) rfl rfl ?aP (fun _ hk => hk.elim) ?aF ?aO ?aB ?aS ?aL ?_; (case aP => exact rfl); (case aB => exact (BB HB)); (case aF => exact (fun _ _ => trivial)); (case aO => exact (RR HO_3)); (case aS => exact (below_size (BB HB))); (case aL => have := LMc10.out; omega); intro v223 w11 ho hb hg hat; rw [← Ny222.out] at ho; have n0_ := Aside0.mk (hb); have n1_ := Aside0.mk (ho); clear HB; clear HO_3; have HB := n0_; have HO224 := n1_; clear n0_ n1_; clear ho hb hg hat))
        repeat (go_quiet (first | ((with_reducible refine gate_builtin (b := .append) (xs := #[.tmp 30, .tmp 36]) rfl ?_); (try (refine gate_guard (by rfl) ?_; dsimp only)); at_builtin; refine Kd.R_append (Kd.int .u8) (w0 := w) w.heap.size rfl (.tmp 30) (.tmp 36) 23 5 (.int .u8 0) 1 rfl Tryd.underlying23 info5 rfl (by decide) (by omega) u3 x3_1 (((rd l0 x4_1) + 2) % 256) [.int .u8 (((rd l0 x4_1) + 2) % 256)] (fun _ => True) (fun _ => False) rfl rfl ?aP (fun _ hk => hk.elim) ?aF ?aO ?aB ?aS ?aL ?_; (case aP => exact rfl); (case aB => exact (BB HB)); (case aF => exact (fun _ _ => trivial)); (case aO => exact (RR HO_3)); (case aS => exact (below_size (BB HB))); (case aL => have := LMc10.out; omega); intro v223 w11 ho hb hg hat; rw [← Ny222.out] at ho; have n0_ := Aside0.mk (hb); have n1_ := Aside0.mk (ho); clear HB; clear HO_3; have HB := n0_; have HO224 := n1_; clear n0_ n1_; clear ho hb hg hat)); try go_wp2_with (first | ((with_reducible refine gate_builtin (b := .append) (xs := #[.tmp 30, .tmp 36]) rfl ?_); (try (refine gate_guard (by rfl) ?_; dsimp only)); at_builtin; refine Kd.R_append (Kd.int .u8) (w0 := w) w.heap.size rfl (.tmp 30) (.tmp 36) 23 5 (.int .u8 0) 1 rfl Tryd.underlying23 info5 rfl (by decide) (by omega) u3 x3_1 (((rd l0 x4_1) + 2) % 256) [.int .u8 (((rd l0 x4_1) + 2) % 256)] (fun _ => True) (fun _ => False) rfl rfl ?aP (fun _ hk => hk.elim) ?aF ?aO ?aB ?aS ?aL ?_; (case aP => exact rfl); (case aB => exact (BB HB)); (case aF => exact (fun _ _ => trivial)); (case aO => exact (RR HO_3)); (case aS => exact (below_size (BB HB))); (case aL => have := LMc10.out; omega); intro v223 w11 ho hb hg hat; rw [← Ny222.out] at ho; have n0_ := Aside0.mk (hb); have n1_ := Aside0.mk (ho); clear HB; clear HO_3; have HB := n0_; have HO224 := n1_; clear n0_ n1_; clear ho hb hg hat)))
        go_roundg k1
        case measure => have := HK1.out; omega
        case rel => exact ⟨(y222), (wrap64 (x4_1 + 1)), (by first | rfl | (simp; done) | (simp [*]; done)), H', ⟨by have := HK1.out; omega⟩, ⟨RR HO224⟩, ⟨BB HB⟩⟩
       ·rw [if_neg c10] at H
        exact absurd H (by simp)
     ·rw [if_neg c6] at H
      exact absurd H (by simp)
    ·rw [if_neg c5] at H; have c5b0 : decide (x4_1 < (l0.length : Int)) = false := decide_eq_false c5; clear c5; replace H := Option.bind_eq_some_iff.mp H
     obtain ⟨⟨t225, t226⟩, A120, H⟩ := H
     replace H : ((order_Visual.f k1 x3_1).bind fun bt229 => ((order_Logical.f k1 t225).bind fun bt233 => (if t226 = 0 then (if bt229.2 = 0 then (if bt233.2 = 0 then (if (t225.length : Int) = (l0.length : Int) then ((selvedgekit_SameInts.f k1 t225 bt229.1).bind fun t237 => (selvedgelaw20_OrderTurns.j1 k1 l0 t225 bt233.1 (!t237))) else (selvedgelaw20_OrderTurns.j1 k1 l0 t225 bt233.1 true)) else (selvedgelaw20_OrderTurns.j1 k1 l0 t225 bt233.1 true)) else (selvedgelaw20_OrderTurns.j1 k1 l0 t225 bt233.1 true)) else (selvedgelaw20_OrderTurns.j1 k1 l0 t225 bt233.1 true)))) = some r := H
     have A12 := Aside0.mk A120; clear A120; replace H := Option.bind_eq_some_iff.mp H
     obtain ⟨⟨t229, t230⟩, A130, H⟩ := H
     replace H : ((order_Logical.f k1 t225).bind fun bt233 => (if t226 = 0 then (if t230 = 0 then (if bt233.2 = 0 then (if (t225.length : Int) = (l0.length : Int) then ((selvedgekit_SameInts.f k1 t225 t229).bind fun t237 => (selvedgelaw20_OrderTurns.j1 k1 l0 t225 bt233.1 (!t237))) else (selvedgelaw20_OrderTurns.j1 k1 l0 t225 bt233.1 true)) else (selvedgelaw20_OrderTurns.j1 k1 l0 t225 bt233.1 true)) else (selvedgelaw20_OrderTurns.j1 k1 l0 t225 bt233.1 true)) else (selvedgelaw20_OrderTurns.j1 k1 l0 t225 bt233.1 true))) = some r := H
     have A13 := Aside0.mk A130; clear A130; replace H := Option.bind_eq_some_iff.mp H
     obtain ⟨⟨t233, t234⟩, A140, H⟩ := H
     replace H : (if t226 = 0 then (if t230 = 0 then (if t234 = 0 then (if (t225.length : Int) = (l0.length : Int) then ((selvedgekit_SameInts.f k1 t225 t229).bind fun t237 => (selvedgelaw20_OrderTurns.j1 k1 l0 t225 t233 (!t237))) else (selvedgelaw20_OrderTurns.j1 k1 l0 t225 t233 true)) else (selvedgelaw20_OrderTurns.j1 k1 l0 t225 t233 true)) else (selvedgelaw20_OrderTurns.j1 k1 l0 t225 t233 true)) else (selvedgelaw20_OrderTurns.j1 k1 l0 t225 t233 true)) = some r := H
     have A14 := Aside0.mk A140; clear A140; have HC15 := Aside0.mk H; clear H
     go_upto_region 13 with (first | (go_at_call 15; (with_reducible refine (order_Visual.calls k1 _ _ l0 t225 t226 _ ?side1 ?side2 A12.out).mono ?_); (case side1 => repeat (first | exact (Kd.C_below HR0.out HB.out) | (with_reducible refine Kd.C_alloc ?_ _) | (with_reducible refine Kd.C_drewN ?_ _) | (with_reducible refine Kd.C_drew ?_))); (case side2 => exact HC0.out); rintro e w16 ⟨v227, rfl, ho0, hb⟩; have n0_ := Aside0.mk (Kd.R_below (RR HO_3) hb); have n1_ := Aside0.mk (Kd.R_lower ho0 (below_size (BB HB))); have n2_ := Aside0.mk (below_step (BB HB) hb); clear HO_3; clear HB; have HO_3 := n0_; have HO228 := n1_; have HB := n2_; clear n0_ n1_ n2_; (try clear hb); (try clear hb2); (try clear hk); (try clear hi); (try clear ho0); obtain ⟨Ao17, co17, eo17⟩ := Kd.R_slice HO_3.out; subst eo17) | (go_at_call 15; (with_reducible refine (order_Visual.calls k1 _ _ x3_1 t229 t230 _ ?side1 ?side2 A13.out).mono ?_); (case side1 => repeat (first | exact (Kd.R_reads' HO_3.out).2.2 | (with_reducible refine Kd.C_alloc ?_ _) | (with_reducible refine Kd.C_drewN ?_ _) | (with_reducible refine Kd.C_drew ?_))); (case side2 => exact (Kd.R_reads' HO_3.out).2.1); rintro e w18 ⟨v231, rfl, ho0, hb⟩; have n0_ := Aside0.mk (Kd.R_below (RR HO_3) hb); have n1_ := Aside0.mk (Kd.R_elder' (RR HO228) (Kd.R_base ho0) hb); have n2_ := Aside0.mk (Kd.R_lower (Kd.R_new' ho0 (Kd.R_lt (RR HO228))) (below_size (BB HB))); have n3_ := Aside0.mk (below_step (BB HB) hb); clear HO_3; clear HO228; clear HB; have HO_3 := n0_; have HO228 := n1_; have HO232 := n2_; have HB := n3_; clear n0_ n1_ n2_ n3_; (try clear hb); (try clear hb2); (try clear hk); (try clear hi); (try clear ho0); obtain ⟨Ao19, co19, eo19⟩ := Kd.R_slice HO228.out; subst eo19) | (go_at_call 16; (with_reducible refine (order_Logical.calls k1 _ _ t225 t233 t234 _ ?side1 ?side2 A14.out).mono ?_); (case side1 => repeat (first | exact (Kd.R_reads' HO228.out).2.2 | (with_reducible refine Kd.C_alloc ?_ _) | (with_reducible refine Kd.C_drewN ?_ _) | (with_reducible refine Kd.C_drew ?_))); (case side2 => exact (Kd.R_reads' HO228.out).2.1); rintro e w20 ⟨v235, rfl, ho0, hb⟩; have n0_ := Aside0.mk (Kd.R_below (RR HO_3) hb); have n1_ := Aside0.mk (Kd.R_elder' (RR HO228) (Kd.R_base ho0) hb); have n2_ := Aside0.mk (Kd.R_elder' (RR HO232) (Kd.R_base ho0) hb); have n3_ := Aside0.mk (Kd.R_lower (Kd.R_new' (Kd.R_new' ho0 (Kd.R_lt (RR HO228))) (Kd.R_lt (RR HO232))) (below_size (BB HB))); have n4_ := Aside0.mk (below_step (BB HB) hb); clear HO_3; clear HO228; clear HO232; clear HB; have HO_3 := n0_; have HO228 := n1_; have HO232 := n2_; have HO236 := n3_; have HB := n4_; clear n0_ n1_ n2_ n3_ n4_; (try clear hb); (try clear hb2); (try clear hk); (try clear hi); (try clear ho0)))
     repeat (go_quiet (first | (go_at_call 15; (with_reducible refine (order_Visual.calls k1 _ _ l0 t225 t226 _ ?side1 ?side2 A12.out).mono ?_); (case side1 => repeat (first | exact (Kd.C_below HR0.out HB.out) | (with_reducible refine Kd.C_alloc ?_ _) | (with_reducible refine Kd.C_drewN ?_ _) | (with_reducible refine Kd.C_drew ?_))); (case side2 => exact HC0.out); rintro e w16 ⟨v227, rfl, ho0, hb⟩; have n0_ := Aside0.mk (Kd.R_below (RR HO_3) hb); have n1_ := Aside0.mk (Kd.R_lower ho0 (below_size (BB HB))); have n2_ := Aside0.mk (below_step (BB HB) hb); clear HO_3; clear HB; have HO_3 := n0_; have HO228 := n1_; have HB := n2_; clear n0_ n1_ n2_; (try clear hb); (try clear hb2); (try clear hk); (try clear hi); (try clear ho0); obtain ⟨Ao17, co17, eo17⟩ := Kd.R_slice HO_3.out; subst eo17) | (go_at_call 15; (with_reducible refine (order_Visual.calls k1 _ _ x3_1 t229 t230 _ ?side1 ?side2 A13.out).mono ?_); (case side1 => repeat (first | exact (Kd.R_reads' HO_3.out).2.2 | (with_reducible refine Kd.C_alloc ?_ _) | (with_reducible refine Kd.C_drewN ?_ _) | (with_reducible refine Kd.C_drew ?_))); (case side2 => exact (Kd.R_reads' HO_3.out).2.1); rintro e w18 ⟨v231, rfl, ho0, hb⟩; have n0_ := Aside0.mk (Kd.R_below (RR HO_3) hb); have n1_ := Aside0.mk (Kd.R_elder' (RR HO228) (Kd.R_base ho0) hb); have n2_ := Aside0.mk (Kd.R_lower (Kd.R_new' ho0 (Kd.R_lt (RR HO228))) (below_size (BB HB))); have n3_ := Aside0.mk (below_step (BB HB) hb); clear HO_3; clear HO228; clear HB; have HO_3 := n0_; have HO228 := n1_; have HO232 := n2_; have HB := n3_; clear n0_ n1_ n2_ n3_; (try clear hb); (try clear hb2); (try clear hk); (try clear hi); (try clear ho0); obtain ⟨Ao19, co19, eo19⟩ := Kd.R_slice HO228.out; subst eo19) | (go_at_call 16; (with_reducible refine (order_Logical.calls k1 _ _ t225 t233 t234 _ ?side1 ?side2 A14.out).mono ?_); (case side1 => repeat (first | exact (Kd.R_reads' HO228.out).2.2 | (with_reducible refine Kd.C_alloc ?_ _) | (with_reducible refine Kd.C_drewN ?_ _) | (with_reducible refine Kd.C_drew ?_))); (case side2 => exact (Kd.R_reads' HO228.out).2.1); rintro e w20 ⟨v235, rfl, ho0, hb⟩; have n0_ := Aside0.mk (Kd.R_below (RR HO_3) hb); have n1_ := Aside0.mk (Kd.R_elder' (RR HO228) (Kd.R_base ho0) hb); have n2_ := Aside0.mk (Kd.R_elder' (RR HO232) (Kd.R_base ho0) hb); have n3_ := Aside0.mk (Kd.R_lower (Kd.R_new' (Kd.R_new' ho0 (Kd.R_lt (RR HO228))) (Kd.R_lt (RR HO232))) (below_size (BB HB))); have n4_ := Aside0.mk (below_step (BB HB) hb); clear HO_3; clear HO228; clear HO232; clear HB; have HO_3 := n0_; have HO228 := n1_; have HO232 := n2_; have HO236 := n3_; have HB := n4_; clear n0_ n1_ n2_ n3_ n4_; (try clear hb); (try clear hb2); (try clear hk); (try clear hi); (try clear ho0))); go_upto_region 13 with (first | (go_at_call 15; (with_reducible refine (order_Visual.calls k1 _ _ l0 t225 t226 _ ?side1 ?side2 A12.out).mono ?_); (case side1 => repeat (first | exact (Kd.C_below HR0.out HB.out) | (with_reducible refine Kd.C_alloc ?_ _) | (with_reducible refine Kd.C_drewN ?_ _) | (with_reducible refine Kd.C_drew ?_))); (case side2 => exact HC0.out); rintro e w16 ⟨v227, rfl, ho0, hb⟩; have n0_ := Aside0.mk (Kd.R_below (RR HO_3) hb); have n1_ := Aside0.mk (Kd.R_lower ho0 (below_size (BB HB))); have n2_ := Aside0.mk (below_step (BB HB) hb); clear HO_3; clear HB; have HO_3 := n0_; have HO228 := n1_; have HB := n2_; clear n0_ n1_ n2_; (try clear hb); (try clear hb2); (try clear hk); (try clear hi); (try clear ho0); obtain ⟨Ao17, co17, eo17⟩ := Kd.R_slice HO_3.out; subst eo17) | (go_at_call 15; (with_reducible refine (order_Visual.calls k1 _ _ x3_1 t229 t230 _ ?side1 ?side2 A13.out).mono ?_); (case side1 => repeat (first | exact (Kd.R_reads' HO_3.out).2.2 | (with_reducible refine Kd.C_alloc ?_ _) | (with_reducible refine Kd.C_drewN ?_ _) | (with_reducible refine Kd.C_drew ?_))); (case side2 => exact (Kd.R_reads' HO_3.out).2.1); rintro e w18 ⟨v231, rfl, ho0, hb⟩; have n0_ := Aside0.mk (Kd.R_below (RR HO_3) hb); have n1_ := Aside0.mk (Kd.R_elder' (RR HO228) (Kd.R_base ho0) hb); have n2_ := Aside0.mk (Kd.R_lower (Kd.R_new' ho0 (Kd.R_lt (RR HO228))) (below_size (BB HB))); have n3_ := Aside0.mk (below_step (BB HB) hb); clear HO_3; clear HO228; clear HB; have HO_3 := n0_; have HO228 := n1_; have HO232 := n2_; have HB := n3_; clear n0_ n1_ n2_ n3_; (try clear hb); (try clear hb2); (try clear hk); (try clear hi); (try clear ho0); obtain ⟨Ao19, co19, eo19⟩ := Kd.R_slice HO228.out; subst eo19) | (go_at_call 16; (with_reducible refine (order_Logical.calls k1 _ _ t225 t233 t234 _ ?side1 ?side2 A14.out).mono ?_); (case side1 => repeat (first | exact (Kd.R_reads' HO228.out).2.2 | (with_reducible refine Kd.C_alloc ?_ _) | (with_reducible refine Kd.C_drewN ?_ _) | (with_reducible refine Kd.C_drew ?_))); (case side2 => exact (Kd.R_reads' HO228.out).2.1); rintro e w20 ⟨v235, rfl, ho0, hb⟩; have n0_ := Aside0.mk (Kd.R_below (RR HO_3) hb); have n1_ := Aside0.mk (Kd.R_elder' (RR HO228) (Kd.R_base ho0) hb); have n2_ := Aside0.mk (Kd.R_elder' (RR HO232) (Kd.R_base ho0) hb); have n3_ := Aside0.mk (Kd.R_lower (Kd.R_new' (Kd.R_new' ho0 (Kd.R_lt (RR HO228))) (Kd.R_lt (RR HO232))) (below_size (BB HB))); have n4_ := Aside0.mk (below_step (BB HB) hb); clear HO_3; clear HO228; clear HO232; clear HB; have HO_3 := n0_; have HO228 := n1_; have HO232 := n2_; have HO236 := n3_; have HB := n4_; clear n0_ n1_ n2_ n3_ n4_; (try clear hb); (try clear hb2); (try clear hk); (try clear hi); (try clear ho0))))
     (try simp only [Act.put, List.setIfInBounds_toArray, List.set_cons_zero, List.set_cons_succ])
     go_cut [75] (fun v75 wc => ∃ (kq : Nat) (x75_14 : Bool), v75 = .bool x75_14 ∧ Aside0 (selvedgelaw20_OrderTurns.j1 kq l0 t225 t233 x75_14 = some r) ∧ Aside0 (kq ≤ k1) ∧ Aside0 (Kd.R (Kd.int .i64) 3 wc w.heap.size (fun k_ => some k_ ≠ (v235 : Value).ownBlock) (.slice Ao19 t225.length co19) t225) ∧ Aside0 (Kd.R (Kd.int .i64) 3 wc w.heap.size (fun k_ => some k_ ≠ ((.slice Ao19 t225.length co19) : Value).ownBlock) v235 t233) ∧ Aside0 (Below w.heap.size w wc))
     case first =>
      have H := HC15.out
      clear HC15; by_cases c21 : t226 = 0
      ·rw [if_pos c21] at H; have c21b0 : (t226 == 0) = true := beq_iff_eq.mpr c21; have c21b1 : (t226 != 0) = false := bne_eq_false_iff_eq.mpr c21; clear c21
       (first | rw [c21b0] | (simp only [i64_w, i32_w]; rw [c21b0]) | skip)
       by_cases c22 : t230 = 0
       ·rw [if_pos c22] at H; have c22b0 : (t230 == 0) = true := beq_iff_eq.mpr c22; have c22b1 : (t230 != 0) = false := bne_eq_false_iff_eq.mpr c22; clear c22; by_cases c23 : t234 = 0
        ·rw [if_pos c23] at H; have c23b0 : (t234 == 0) = true := beq_iff_eq.mpr c23; have c23b1 : (t234 != 0) = false := bne_eq_false_iff_eq.mpr c23; clear c23; by_cases c24 : (t225.length : Int) = (l0.length : Int)
         ·rw [if_pos c24] at H; have c24b0 : ((t225.length : Int) == (l0.length : Int)) = true := beq_iff_eq.mpr c24; have c24b1 : ((t225.length : Int) != (l0.length : Int)) = false := bne_eq_false_iff_eq.mpr c24
          have c24b2 : (t225.length == l0.length) = true := by first | simpa using c24 | (simp at c24 ⊢; omega)
          clear c24; replace H := Option.bind_eq_some_iff.mp H; obtain ⟨t237, A250, H⟩ := H
          replace H : (selvedgelaw20_OrderTurns.j1 k1 l0 t225 t233 (!t237)) = some r := H
          have A25 := Aside0.mk A250; clear A250
          have H' := Aside0.mk H
          clear H
          obtain ⟨Ao26, co26, eo26⟩ := Kd.R_slice HO232.out
          subst eo26
          go_wp2_with (first | (go_at_call 17; (with_reducible refine (selvedgekit_SameInts.calls k1 _ _ t225 _ _ t229 t237 _ ?side1 ?side2 ?side3 ?side4 A25.out).mono ?_); (case side1 => repeat (first | exact (Kd.R_reads' HO228.out).2.2 | (with_reducible refine Kd.C_alloc ?_ _) | (with_reducible refine Kd.C_drewN ?_ _) | (with_reducible refine Kd.C_drew ?_))); (case side2 => exact (Kd.R_reads' HO228.out).2.1); (case side3 => repeat (first | exact (Kd.R_reads' HO232.out).2.2 | (with_reducible refine Kd.C_alloc ?_ _) | (with_reducible refine Kd.C_drewN ?_ _) | (with_reducible refine Kd.C_drew ?_))); (case side4 => exact (Kd.R_reads' HO232.out).2.1); rintro e w' ⟨rfl, ⟨nd, rfl⟩⟩; (try first | exact ⟨rfl, _, World.drewN_drewN _ _ _⟩ | exact ⟨rfl, _, Eq.trans (World.drewN_drewN _ _ _) (congrArg (World.drewN _) (Nat.add_assoc _ _ _))⟩)))
          repeat (go_quiet (first | (go_at_call 17; (with_reducible refine (selvedgekit_SameInts.calls k1 _ _ t225 _ _ t229 t237 _ ?side1 ?side2 ?side3 ?side4 A25.out).mono ?_); (case side1 => repeat (first | exact (Kd.R_reads' HO228.out).2.2 | (with_reducible refine Kd.C_alloc ?_ _) | (with_reducible refine Kd.C_drewN ?_ _) | (with_reducible refine Kd.C_drew ?_))); (case side2 => exact (Kd.R_reads' HO228.out).2.1); (case side3 => repeat (first | exact (Kd.R_reads' HO232.out).2.2 | (with_reducible refine Kd.C_alloc ?_ _) | (with_reducible refine Kd.C_drewN ?_ _) | (with_reducible refine Kd.C_drew ?_))); (case side4 => exact (Kd.R_reads' HO232.out).2.1); rintro e w' ⟨rfl, ⟨nd, rfl⟩⟩; (try first | exact ⟨rfl, _, World.drewN_drewN _ _ _⟩ | exact ⟨rfl, _, Eq.trans (World.drewN_drewN _ _ _) (congrArg (World.drewN _) (Nat.add_assoc _ _ _))⟩))); try go_wp2_with (first | (go_at_call 17; (with_reducible refine (selvedgekit_SameInts.calls k1 _ _ t225 _ _ t229 t237 _ ?side1 ?side2 ?side3 ?side4 A25.out).mono ?_); (case side1 => repeat (first | exact (Kd.R_reads' HO228.out).2.2 | (with_reducible refine Kd.C_alloc ?_ _) | (with_reducible refine Kd.C_drewN ?_ _) | (with_reducible refine Kd.C_drew ?_))); (case side2 => exact (Kd.R_reads' HO228.out).2.1); (case side3 => repeat (first | exact (Kd.R_reads' HO232.out).2.2 | (with_reducible refine Kd.C_alloc ?_ _) | (with_reducible refine Kd.C_drewN ?_ _) | (with_reducible refine Kd.C_drew ?_))); (case side4 => exact (Kd.R_reads' HO232.out).2.1); rintro e w' ⟨rfl, ⟨nd, rfl⟩⟩; (try first | exact ⟨rfl, _, World.drewN_drewN _ _ _⟩ | exact ⟨rfl, _, Eq.trans (World.drewN_drewN _ _ _) (congrArg (World.drewN _) (Nat.add_assoc _ _ _))⟩))))
          go_meet
          case rel => exact ⟨_, (!t237), (by first | rfl | (simp; done) | (simp [*]; done)), H', ⟨by have := HK1.out; first | omega | exact Nat.le_refl _⟩, ⟨by (with_reducible repeat (first | apply Kd.R_alloc | apply Kd.R_drewN | apply Kd.R_drew)); exact Kd.R_mono HO228.out (fun _ hk => hk.2)⟩, ⟨by (with_reducible repeat (first | apply Kd.R_alloc | apply Kd.R_drewN | apply Kd.R_drew)); exact Kd.R_mono HO236.out (fun _ hk => hk.1.2)⟩, ⟨BB HB⟩⟩
         ·rw [if_neg c24] at H; have c24b0 : ((t225.length : Int) == (l0.length : Int)) = false := beq_eq_false_iff_ne.mpr c24; have c24b1 : ((t225.length : Int) != (l0.length : Int)) = true := bne_iff_ne.mpr c24
          have c24b2 : (t225.length == l0.length) = false := by first | simpa using c24 | (simp at c24 ⊢; omega)
          have H' := Aside0.mk H
          clear H
          go_wp2
          repeat (go_quiet (fail); try go_wp2)
          go_meet
          case rel => exact ⟨_, (true), (by first | rfl | (simp; done) | (simp [*]; done)), H', ⟨by have := HK1.out; first | omega | exact Nat.le_refl _⟩, ⟨by (with_reducible repeat (first | apply Kd.R_alloc | apply Kd.R_drewN | apply Kd.R_drew)); exact Kd.R_mono HO228.out (fun _ hk => hk.2)⟩, ⟨by (with_reducible repeat (first | apply Kd.R_alloc | apply Kd.R_drewN | apply Kd.R_drew)); exact Kd.R_mono HO236.out (fun _ hk => hk.1.2)⟩, ⟨BB HB⟩⟩
        ·rw [if_neg c23] at H; have c23b0 : (t234 == 0) = false := beq_eq_false_iff_ne.mpr c23; have c23b1 : (t234 != 0) = true := bne_iff_ne.mpr c23
         have H' := Aside0.mk H
         clear H
         go_wp2
         repeat (go_quiet (fail); try go_wp2)
         go_meet
         case rel => exact ⟨_, (true), (by first | rfl | (simp; done) | (simp [*]; done)), H', ⟨by have := HK1.out; first | omega | exact Nat.le_refl _⟩, ⟨by (with_reducible repeat (first | apply Kd.R_alloc | apply Kd.R_drewN | apply Kd.R_drew)); exact Kd.R_mono HO228.out (fun _ hk => hk.2)⟩, ⟨by (with_reducible repeat (first | apply Kd.R_alloc | apply Kd.R_drewN | apply Kd.R_drew)); exact Kd.R_mono HO236.out (fun _ hk => hk.1.2)⟩, ⟨BB HB⟩⟩
       ·rw [if_neg c22] at H; have c22b0 : (t230 == 0) = false := beq_eq_false_iff_ne.mpr c22; have c22b1 : (t230 != 0) = true := bne_iff_ne.mpr c22
        have H' := Aside0.mk H
        clear H
        go_wp2
        repeat (go_quiet (fail); try go_wp2)
        go_meet
        case rel => exact ⟨_, (true), (by first | rfl | (simp; done) | (simp [*]; done)), H', ⟨by have := HK1.out; first | omega | exact Nat.le_refl _⟩, ⟨by (with_reducible repeat (first | apply Kd.R_alloc | apply Kd.R_drewN | apply Kd.R_drew)); exact Kd.R_mono HO228.out (fun _ hk => hk.2)⟩, ⟨by (with_reducible repeat (first | apply Kd.R_alloc | apply Kd.R_drewN | apply Kd.R_drew)); exact Kd.R_mono HO236.out (fun _ hk => hk.1.2)⟩, ⟨BB HB⟩⟩
      ·rw [if_neg c21] at H; have c21b0 : (t226 == 0) = false := beq_eq_false_iff_ne.mpr c21; have c21b1 : (t226 != 0) = true := bne_iff_ne.mpr c21
       (first | rw [c21b0] | (simp only [i64_w, i32_w]; rw [c21b0]) | skip)
       have H' := Aside0.mk H
       clear H
       go_wp2
       repeat (go_quiet (fail); try go_wp2)
       go_meet
       case rel => exact ⟨_, (true), (by first | rfl | (simp; done) | (simp [*]; done)), H', ⟨by have := HK1.out; first | omega | exact Nat.le_refl _⟩, ⟨by (with_reducible repeat (first | apply Kd.R_alloc | apply Kd.R_drewN | apply Kd.R_drew)); exact Kd.R_mono HO228.out (fun _ hk => hk.2)⟩, ⟨by (with_reducible repeat (first | apply Kd.R_alloc | apply Kd.R_drewN | apply Kd.R_drew)); exact Kd.R_mono HO236.out (fun _ hk => hk.1.2)⟩, ⟨BB HB⟩⟩
     case rest =>
      clear HC15; (try clear c1); (try clear c2); (try clear c2b0); (try clear c2b1); (try clear p2); (try clear q2); (try clear hx2); (try clear c4); (try clear c5); (try clear c5b0); (try clear c6); (try clear c6b0); (try clear p6); (try clear c7); (try clear c7b0); (try clear c10); (try clear c21); (try clear c21b0); (try clear c21b1); (try clear p21); (try clear q21); (try clear hx21); (try clear c22); (try clear c22b0); (try clear c22b1); (try clear p22); (try clear q22); (try clear hx22); (try clear c23); (try clear c23b0); (try clear c23b1); (try clear c24); (try clear c24b0); (try clear c24b1); (try clear c24b2); (try clear hx219_0); (try clear hx221_0); (try clear p2); (try clear p219); (try clear p221); (try clear q219); (try clear q221)
      obtain ⟨kq, x75_14, rfl, HA, HJ14, HO_5, HO_9, HB⟩ := hcut
      cases kq with
      | zero => exact absurd HA.out (by simp [selvedgelaw20_OrderTurns.j1])
      | succ kj14 =>
       have H := HA.out
       clear HA
       simp only [selvedgelaw20_OrderTurns.j1] at H
       by_cases c27 : x75_14 = true
       ·subst c27
        have H1 : (some false) = some r := by rw [if_pos rfl] at H; exact H
        clear H
        have H := H1
        clear H1; obtain rfl := Option.some.inj H
        go_wp2
        repeat (go_quiet (fail); try go_wp2)
        go_ret
        exact ⟨FF, BB HB⟩
       ·replace c27 := Bool.eq_false_iff.mpr c27
        subst c27
        have H1 : (selvedgelaw20_OrderTurns.l1 kj14 l0 t225 t233 0) = some r := by rw [if_neg (show ¬ (false = true) by decide)] at H; exact H
        clear H
        have H := H1
        clear H1
        have H' := Aside0.mk H
        clear H
        go_wp2
        repeat (go_quiet (fail); try go_wp2)
        go_loopg [11] kj14 (fun kq v11 w' => ∃ (x11_3 : Int), v11 = .int .i64 x11_3 ∧ Aside0 (selvedgelaw20_OrderTurns.l1 kq l0 t225 t233 x11_3 = some r) ∧ Aside0 (kq ≤ kj14) ∧ Aside0 (Kd.R (Kd.int .i64) 3 w' w.heap.size (fun k_ => some k_ ≠ (v235 : Value).ownBlock) (.slice Ao19 t225.length co19) t225) ∧ Aside0 (Kd.R (Kd.int .i64) 3 w' w.heap.size (fun k_ => some k_ ≠ ((.slice Ao19 t225.length co19) : Value).ownBlock) v235 t233) ∧ Aside0 (Below w.heap.size w w'))
        case atStart => exact ⟨(0), (by first | rfl | (simp; done) | (simp [*]; done)), H', ⟨Nat.le_refl _⟩, ⟨RR HO_5⟩, ⟨RR HO_9⟩, ⟨BB HB⟩⟩
        case round =>
         clear H'
         (try clear c1); (try clear c2); (try clear c2b0); (try clear c2b1); (try clear p2); (try clear q2); (try clear hx2); (try clear c4); (try clear c5); (try clear c5b0); (try clear c6); (try clear c6b0); (try clear p6); (try clear c7); (try clear c7b0); (try clear c10); (try clear c21); (try clear c21b0); (try clear c21b1); (try clear p21); (try clear q21); (try clear hx21); (try clear c22); (try clear c22b0); (try clear c22b1); (try clear p22); (try clear q22); (try clear hx22); (try clear c23); (try clear c23b0); (try clear c23b1); (try clear c24); (try clear c24b0); (try clear c24b1); (try clear c24b2); (try clear c27); (try clear hx219_0); (try clear hx221_0); (try clear p2); (try clear p21); (try clear p219); (try clear p22); (try clear p221); (try clear p6); (try clear q2); (try clear q21); (try clear q219); (try clear q22); (try clear q221)
         obtain ⟨x11_3, rfl, HA, HK3, HO_5, HO_9, HB⟩ := hrel
         cases gk with
         | zero => exact absurd HA.out (by simp [selvedgelaw20_OrderTurns.l1])
         | succ k3 =>
          have H := HA.out
          clear HA
          simp only [selvedgelaw20_OrderTurns.l1] at H
          by_cases c28 : x11_3 < (t225.length : Int)
          ·rw [if_pos c28] at H; have c28b0 : decide (x11_3 < (t225.length : Int)) = true := decide_eq_true c28; clear c28; by_cases c29 : 0 ≤ x11_3
           ·rw [if_pos c29] at H; have c29b0 : decide (0 ≤ x11_3) = true := decide_eq_true c29; clear c29; by_cases c30 : 0 ≤ (rd t225 x11_3)
            ·rw [if_pos c30] at H; have c30b0 : decide (0 ≤ (rd t225 x11_3)) = true := decide_eq_true c30; clear c30; by_cases c31 : (rd t225 x11_3) < (t233.length : Int)
             ·rw [if_pos c31] at H; have c31b0 : decide ((rd t225 x11_3) < (t233.length : Int)) = true := decide_eq_true c31; clear c31; by_cases c32 : (rd t233 (rd t225 x11_3)) = x11_3
              ·rw [if_pos c32] at H; have c32b0 : ((rd t233 (rd t225 x11_3)) == x11_3) = true := beq_iff_eq.mpr c32; have c32b1 : ((rd t233 (rd t225 x11_3)) != x11_3) = false := bne_eq_false_iff_eq.mpr c32; clear c32
               have H' := Aside0.mk H
               clear H
               have p238 : 0 ≤ (x11_3 : Int) := of_decide_eq_true (by first | (with_reducible assumption) | assumption)
               have q238 : x11_3 < (t225.length : Int) := of_decide_eq_true (by first | (with_reducible assumption) | assumption)
               obtain ⟨ad238, e238, hx238_0⟩ := Kd.at_int (Kd.R_reads' HO_5.out).2.2 x11_3 p238 q238
               cases e238
               replace p238 := eq_true p238; replace q238 := eq_true q238
               obtain ⟨Ao33, co33, eo33⟩ := Kd.R_slice HO_9.out
               subst eo33
               have p239 : 0 ≤ ((rd t225 x11_3) : Int) := of_decide_eq_true (by first | (with_reducible assumption) | assumption)
               have q239 : (rd t225 x11_3) < (t233.length : Int) := of_decide_eq_true (by first | (with_reducible assumption) | assumption)
               obtain ⟨ad239, e239, hx239_0⟩ := Kd.at_int (Kd.R_reads' HO_9.out).2.2 (rd t225 x11_3) p239 q239
               cases e239
               replace p239 := eq_true p239; replace q239 := eq_true q239
               go_wp2
               repeat (go_quiet (fail); try go_wp2)
               go_roundg k3
               case measure => have := HK1.out; have := HJ14.out; have := HK3.out; omega
               case rel => exact ⟨(wrap64 (x11_3 + 1)), (by first | rfl | (simp; done) | (simp [*]; done)), H', ⟨by have := HK1.out; have := HJ14.out; have := HK3.out; omega⟩, ⟨RR HO_5⟩, ⟨RR HO_9⟩, ⟨BB HB⟩⟩
              ·rw [if_neg c32] at H; have c32b0 : ((rd t233 (rd t225 x11_3)) == x11_3) = false := beq_eq_false_iff_ne.mpr c32; have c32b1 : ((rd t233 (rd t225 x11_3)) != x11_3) = true := bne_iff_ne.mpr c32; obtain rfl := Option.some.inj H
               have p238 : 0 ≤ (x11_3 : Int) := of_decide_eq_true (by first | (with_reducible assumption) | assumption)
               have q238 : x11_3 < (t225.length : Int) := of_decide_eq_true (by first | (with_reducible assumption) | assumption)
               obtain ⟨ad238, e238, hx238_0⟩ := Kd.at_int (Kd.R_reads' HO_5.out).2.2 x11_3 p238 q238
               cases e238
               replace p238 := eq_true p238; replace q238 := eq_true q238
               obtain ⟨Ao34, co34, eo34⟩ := Kd.R_slice HO_9.out
               subst eo34
               have p239 : 0 ≤ ((rd t225 x11_3) : Int) := of_decide_eq_true (by first | (with_reducible assumption) | assumption)
               have q239 : (rd t225 x11_3) < (t233.length : Int) := of_decide_eq_true (by first | (with_reducible assumption) | assumption)
               obtain ⟨ad239, e239, hx239_0⟩ := Kd.at_int (Kd.R_reads' HO_9.out).2.2 (rd t225 x11_3) p239 q239
               cases e239
               replace p239 := eq_true p239; replace q239 := eq_true q239
               go_wp2
               repeat (go_quiet (fail); try go_wp2)
               go_ret
               exact ⟨FF, BB HB⟩
             ·rw [if_neg c31] at H
              exact absurd H (by simp)
            ·rw [if_neg c30] at H
             exact absurd H (by simp)
           ·rw [if_neg c29] at H
            exact absurd H (by simp)
          ·rw [if_neg c28] at H; have c28b0 : decide (x11_3 < (t225.length : Int)) = false := decide_eq_false c28; clear c28
           have H' := Aside0.mk H
           clear H
           go_wp2
           repeat (go_quiet (fail); try go_wp2)
           go_loopg [12] k3 (fun kq v12 w' => ∃ (x12_4 : Int), v12 = .int .i64 x12_4 ∧ Aside0 (selvedgelaw20_OrderTurns.l2 kq l0 t233 x12_4 = some r) ∧ Aside0 (kq ≤ k3) ∧ Aside0 (Kd.R (Kd.int .i64) 3 w' w.heap.size (fun _ => True) v235 t233) ∧ Aside0 (Below w.heap.size w w'))
           case atStart => exact ⟨(1), (by first | rfl | (simp; done) | (simp [*]; done)), H', ⟨Nat.le_refl _⟩, ⟨by (with_reducible repeat (first | apply Kd.R_alloc | apply Kd.R_drewN | apply Kd.R_drew)); exact Kd.R_mono HO_9.out (fun _ hk => trivial)⟩, ⟨BB HB⟩⟩
           case round =>
            clear H'
            (try clear c1); (try clear c2); (try clear c2b0); (try clear c2b1); (try clear p2); (try clear q2); (try clear hx2); (try clear c3); (try clear c4); (try clear c5); (try clear c5b0); (try clear c6); (try clear c6b0); (try clear p6); (try clear c7); (try clear c7b0); (try clear c10); (try clear c21); (try clear c21b0); (try clear c21b1); (try clear p21); (try clear q21); (try clear hx21); (try clear c22); (try clear c22b0); (try clear c22b1); (try clear p22); (try clear q22); (try clear hx22); (try clear c23); (try clear c23b0); (try clear c23b1); (try clear p23); (try clear q23); (try clear hx23); (try clear c24); (try clear c24b0); (try clear c24b1); (try clear c24b2); (try clear c27); (try clear c28); (try clear c28b0); (try clear c29); (try clear c29b0); (try clear c30); (try clear c30b0); (try clear c31); (try clear c31b0); (try clear c32); (try clear c32b0); (try clear c32b1); (try clear hx219_0); (try clear hx221_0); (try clear hx238_0); (try clear hx239_0); (try clear p2); (try clear p21); (try clear p219); (try clear p22); (try clear p221); (try clear p238); (try clear p239); (try clear p6); (try clear q2); (try clear q21); (try clear q219); (try clear q22); (try clear q221); (try clear q238); (try clear q239)
            obtain ⟨x12_4, rfl, HA, HK4, HO_9, HB⟩ := hrel
            cases gk with
            | zero => exact absurd HA.out (by simp [selvedgelaw20_OrderTurns.l2])
            | succ k4 =>
             have H := HA.out
             clear HA
             simp only [selvedgelaw20_OrderTurns.l2] at H
             by_cases c35 : x12_4 < (l0.length : Int)
             ·rw [if_pos c35] at H; have c35b0 : decide (x12_4 < (l0.length : Int)) = true := decide_eq_true c35; clear c35; by_cases c36 : 0 ≤ x12_4
              ·rw [if_pos c36] at H; have c36b0 : decide (0 ≤ x12_4) = true := decide_eq_true c36; clear c36; by_cases c37 : (Int.tmod (rd l0 x12_4) 2) = 1
               ·rw [if_pos c37] at H; have c37b0 : ((Int.tmod (rd l0 x12_4) 2) == 1) = true := beq_iff_eq.mpr c37; have c37b1 : ((Int.tmod (rd l0 x12_4) 2) != 1) = false := bne_eq_false_iff_eq.mpr c37; clear c37
                obtain ⟨ji38, hji38⟩ : ∃ j_ : Int, (wrap64 (x12_4 - 1)) = j_ := ⟨_, rfl⟩
                replace H : (if 0 ≤ (ji38) then (if (ji38) < (l0.length : Int) then (if (rd l0 x12_4) = (rd l0 (ji38)) then (if x12_4 < (t233.length : Int) then (if (ji38) < (t233.length : Int) then (if (rd t233 x12_4) = (wrap64 ((rd t233 (ji38)) + (-1))) then (selvedgelaw20_OrderTurns.l2 k4 l0 t233 (wrap64 (x12_4 + 1))) else (some false)) else (none)) else (none)) else (selvedgelaw20_OrderTurns.l2 k4 l0 t233 (wrap64 (x12_4 + 1)))) else (none)) else (none)) = some r := by first | (rw [hji38] at H; exact H) | (simp only [hji38] at H ⊢; exact H)
                have hji38w : (IntKind.i64.wrap (x12_4 - 1)) = ji38 := (i64_w _).trans hji38
                by_cases c39 : 0 ≤ (ji38)
                ·rw [if_pos c39] at H; have c39b0 : decide (0 ≤ (ji38)) = true := decide_eq_true c39; clear c39; by_cases c40 : (ji38) < (l0.length : Int)
                 ·rw [if_pos c40] at H; have c40b0 : decide ((ji38) < (l0.length : Int)) = true := decide_eq_true c40; clear c40; by_cases c41 : (rd l0 x12_4) = (rd l0 (ji38))
                  ·rw [if_pos c41] at H; have c41b0 : ((rd l0 x12_4) == (rd l0 (ji38))) = true := beq_iff_eq.mpr c41; have c41b1 : ((rd l0 x12_4) != (rd l0 (ji38))) = false := bne_eq_false_iff_eq.mpr c41; clear c41; by_cases c42 : x12_4 < (t233.length : Int)
                   ·rw [if_pos c42] at H; have c42b0 : decide (x12_4 < (t233.length : Int)) = true := decide_eq_true c42; clear c42; by_cases c43 : (ji38) < (t233.length : Int)
                    ·rw [if_pos c43] at H; have c43b0 : decide ((ji38) < (t233.length : Int)) = true := decide_eq_true c43; clear c43; by_cases c44 : (rd t233 x12_4) = (wrap64 ((rd t233 (ji38)) + (-1)))
                     ·rw [if_pos c44] at H; have c44b0 : ((rd t233 x12_4) == (wrap64 ((rd t233 (ji38)) + (-1)))) = true := beq_iff_eq.mpr c44; have c44b1 : ((rd t233 x12_4) != (wrap64 ((rd t233 (ji38)) + (-1)))) = false := bne_eq_false_iff_eq.mpr c44; clear c44
                      have H' := Aside0.mk H
                      clear H
                      have p241 : 0 ≤ (x12_4 : Int) := of_decide_eq_true (by first | (with_reducible assumption) | assumption)
                      have q241 : x12_4 < (l0.length : Int) := of_decide_eq_true (by first | (with_reducible assumption) | assumption)
                      obtain ⟨ad241, e241, hx241_0⟩ := Kd.at_int HR0.out x12_4 p241 q241
                      cases e241
                      replace hx241_0 := (HB.out.cell (World.block_lt_of_cell? w _ hx241_0)).trans hx241_0
                      replace p241 := eq_true p241; replace q241 := eq_true q241
                      have p242 : 0 ≤ (x12_4 : Int) := of_decide_eq_true (by first | (with_reducible assumption) | assumption)
                      have q242 : x12_4 < (l0.length : Int) := of_decide_eq_true (by first | (with_reducible assumption) | assumption)
                      obtain ⟨ad242, e242, hx242_0⟩ := Kd.at_int HR0.out x12_4 p242 q242
                      obtain rfl : ad241 = ad242 := (by injection e242)
                      replace hx242_0 := (HB.out.cell (World.block_lt_of_cell? w _ hx242_0)).trans hx242_0
                      replace p242 := eq_true p242; replace q242 := eq_true q242
                      have p243 : 0 ≤ ((ji38) : Int) := of_decide_eq_true (by first | (with_reducible assumption) | assumption)
                      have q243 : (ji38) < (l0.length : Int) := of_decide_eq_true (by first | (with_reducible assumption) | assumption)
                      obtain ⟨ad243, e243, hx243_0⟩ := Kd.at_int HR0.out (ji38) p243 q243
                      obtain rfl : ad241 = ad243 := (by injection e243)
                      replace hx243_0 := (HB.out.cell (World.block_lt_of_cell? w _ hx243_0)).trans hx243_0
                      replace p243 := eq_true p243; replace q243 := eq_true q243
                      obtain ⟨Ao45, co45, eo45⟩ := Kd.R_slice HO_9.out
                      subst eo45
                      have p244 : 0 ≤ (x12_4 : Int) := of_decide_eq_true (by first | (with_reducible assumption) | assumption)
                      have q244 : x12_4 < (t233.length : Int) := of_decide_eq_true (by first | (with_reducible assumption) | assumption)
                      obtain ⟨ad244, e244, hx244_0⟩ := Kd.at_int (Kd.R_reads' HO_9.out).2.2 x12_4 p244 q244
                      cases e244
                      replace p244 := eq_true p244; replace q244 := eq_true q244
                      have p245 : 0 ≤ ((ji38) : Int) := of_decide_eq_true (by first | (with_reducible assumption) | assumption)
                      have q245 : (ji38) < (t233.length : Int) := of_decide_eq_true (by first | (with_reducible assumption) | assumption)
                      obtain ⟨ad245, e245, hx245_0⟩ := Kd.at_int (Kd.R_reads' HO_9.out).2.2 (ji38) p245 q245
                      obtain rfl : ad244 = ad245 := (by injection e245)
                      replace p245 := eq_true p245; replace q245 := eq_true q245
                      go_wp2
                      repeat (go_quiet (fail); try go_wp2)
                      go_roundg k4
                      case measure => have := HK1.out; have := HJ14.out; have := HK3.out; have := HK4.out; omega
                      case rel => exact ⟨(wrap64 (x12_4 + 1)), (by first | rfl | (simp; done) | (simp [*]; done)), H', ⟨by have := HK1.out; have := HJ14.out; have := HK3.out; have := HK4.out; omega⟩, ⟨RR HO_9⟩, ⟨BB HB⟩⟩
                     ·rw [if_neg c44] at H; have c44b0 : ((rd t233 x12_4) == (wrap64 ((rd t233 (ji38)) + (-1)))) = false := beq_eq_false_iff_ne.mpr c44; have c44b1 : ((rd t233 x12_4) != (wrap64 ((rd t233 (ji38)) + (-1)))) = true := bne_iff_ne.mpr c44; obtain rfl := Option.some.inj H
                      have p241 : 0 ≤ (x12_4 : Int) := of_decide_eq_true (by first | (with_reducible assumption) | assumption)
                      have q241 : x12_4 < (l0.length : Int) := of_decide_eq_true (by first | (with_reducible assumption) | assumption)
                      obtain ⟨ad241, e241, hx241_0⟩ := Kd.at_int HR0.out x12_4 p241 q241
                      cases e241
                      replace hx241_0 := (HB.out.cell (World.block_lt_of_cell? w _ hx241_0)).trans hx241_0
                      replace p241 := eq_true p241; replace q241 := eq_true q241
                      have p242 : 0 ≤ (x12_4 : Int) := of_decide_eq_true (by first | (with_reducible assumption) | assumption)
                      have q242 : x12_4 < (l0.length : Int) := of_decide_eq_true (by first | (with_reducible assumption) | assumption)
                      obtain ⟨ad242, e242, hx242_0⟩ := Kd.at_int HR0.out x12_4 p242 q242
                      obtain rfl : ad241 = ad242 := (by injection e242)
                      replace hx242_0 := (HB.out.cell (World.block_lt_of_cell? w _ hx242_0)).trans hx242_0
                      replace p242 := eq_true p242; replace q242 := eq_true q242
                      have p243 : 0 ≤ ((ji38) : Int) := of_decide_eq_true (by first | (with_reducible assumption) | assumption)
                      have q243 : (ji38) < (l0.length : Int) := of_decide_eq_true (by first | (with_reducible assumption) | assumption)
                      obtain ⟨ad243, e243, hx243_0⟩ := Kd.at_int HR0.out (ji38) p243 q243
                      obtain rfl : ad241 = ad243 := (by injection e243)
                      replace hx243_0 := (HB.out.cell (World.block_lt_of_cell? w _ hx243_0)).trans hx243_0
                      replace p243 := eq_true p243; replace q243 := eq_true q243
                      obtain ⟨Ao46, co46, eo46⟩ := Kd.R_slice HO_9.out
                      subst eo46
                      have p244 : 0 ≤ (x12_4 : Int) := of_decide_eq_true (by first | (with_reducible assumption) | assumption)
                      have q244 : x12_4 < (t233.length : Int) := of_decide_eq_true (by first | (with_reducible assumption) | assumption)
                      obtain ⟨ad244, e244, hx244_0⟩ := Kd.at_int (Kd.R_reads' HO_9.out).2.2 x12_4 p244 q244
                      cases e244
                      replace p244 := eq_true p244; replace q244 := eq_true q244
                      have p245 : 0 ≤ ((ji38) : Int) := of_decide_eq_true (by first | (with_reducible assumption) | assumption)
                      have q245 : (ji38) < (t233.length : Int) := of_decide_eq_true (by first | (with_reducible assumption) | assumption)
                      obtain ⟨ad245, e245, hx245_0⟩ := Kd.at_int (Kd.R_reads' HO_9.out).2.2 (ji38) p245 q245
                      obtain rfl : ad244 = ad245 := (by injection e245)
                      replace p245 := eq_true p245; replace q245 := eq_true q245
                      go_wp2
                      repeat (go_quiet (fail); try go_wp2)
                      go_ret
                      exact ⟨by first | rfl | (simp [errW_none, errW_some] <;> rfl) | (simp only [← hji38]; first | rfl | (simp [errW_none, errW_some] <;> rfl)) | (simp [*, errW_none, errW_some] <;> rfl), BB HB⟩
                    ·rw [if_neg c43] at H
                     exact absurd H (by simp)
                   ·rw [if_neg c42] at H
                    exact absurd H (by simp)
                  ·rw [if_neg c41] at H; have c41b0 : ((rd l0 x12_4) == (rd l0 (ji38))) = false := beq_eq_false_iff_ne.mpr c41; have c41b1 : ((rd l0 x12_4) != (rd l0 (ji38))) = true := bne_iff_ne.mpr c41
                   have H' := Aside0.mk H
                   clear H
                   have p241 : 0 ≤ (x12_4 : Int) := of_decide_eq_true (by first | (with_reducible assumption) | assumption)
                   have q241 : x12_4 < (l0.length : Int) := of_decide_eq_true (by first | (with_reducible assumption) | assumption)
                   obtain ⟨ad241, e241, hx241_0⟩ := Kd.at_int HR0.out x12_4 p241 q241
                   cases e241
                   replace hx241_0 := (HB.out.cell (World.block_lt_of_cell? w _ hx241_0)).trans hx241_0
                   replace p241 := eq_true p241; replace q241 := eq_true q241
                   have p242 : 0 ≤ (x12_4 : Int) := of_decide_eq_true (by first | (with_reducible assumption) | assumption)
                   have q242 : x12_4 < (l0.length : Int) := of_decide_eq_true (by first | (with_reducible assumption) | assumption)
                   obtain ⟨ad242, e242, hx242_0⟩ := Kd.at_int HR0.out x12_4 p242 q242
                   obtain rfl : ad241 = ad242 := (by injection e242)
                   replace hx242_0 := (HB.out.cell (World.block_lt_of_cell? w _ hx242_0)).trans hx242_0
                   replace p242 := eq_true p242; replace q242 := eq_true q242
                   have p243 : 0 ≤ ((ji38) : Int) := of_decide_eq_true (by first | (with_reducible assumption) | assumption)
                   have q243 : (ji38) < (l0.length : Int) := of_decide_eq_true (by first | (with_reducible assumption) | assumption)
                   obtain ⟨ad243, e243, hx243_0⟩ := Kd.at_int HR0.out (ji38) p243 q243
                   obtain rfl : ad241 = ad243 := (by injection e243)
                   replace hx243_0 := (HB.out.cell (World.block_lt_of_cell? w _ hx243_0)).trans hx243_0
                   replace p243 := eq_true p243; replace q243 := eq_true q243
                   go_wp2
                   repeat (go_quiet (fail); try go_wp2)
                   go_roundg k4
                   case measure => have := HK1.out; have := HJ14.out; have := HK3.out; have := HK4.out; omega
                   case rel => exact ⟨(wrap64 (x12_4 + 1)), (by first | rfl | (simp; done) | (simp [*]; done)), H', ⟨by have := HK1.out; have := HJ14.out; have := HK3.out; have := HK4.out; omega⟩, ⟨RR HO_9⟩, ⟨BB HB⟩⟩
                 ·rw [if_neg c40] at H
                  exact absurd H (by simp)
                ·rw [if_neg c39] at H
                 exact absurd H (by simp)
               ·rw [if_neg c37] at H; have c37b0 : ((Int.tmod (rd l0 x12_4) 2) == 1) = false := beq_eq_false_iff_ne.mpr c37; have c37b1 : ((Int.tmod (rd l0 x12_4) 2) != 1) = true := bne_iff_ne.mpr c37
                obtain ⟨ji47, hji47⟩ : ∃ j_ : Int, (wrap64 (x12_4 - 1)) = j_ := ⟨_, rfl⟩
                replace H : (if 0 ≤ (ji47) then (if (ji47) < (l0.length : Int) then (if (rd l0 x12_4) = (rd l0 (ji47)) then (if x12_4 < (t233.length : Int) then (if (ji47) < (t233.length : Int) then (if (rd t233 x12_4) = (wrap64 ((rd t233 (ji47)) + 1)) then (selvedgelaw20_OrderTurns.l2 k4 l0 t233 (wrap64 (x12_4 + 1))) else (some false)) else (none)) else (none)) else (selvedgelaw20_OrderTurns.l2 k4 l0 t233 (wrap64 (x12_4 + 1)))) else (none)) else (none)) = some r := by first | (rw [hji47] at H; exact H) | (simp only [hji47] at H ⊢; exact H)
                have hji47w : (IntKind.i64.wrap (x12_4 - 1)) = ji47 := (i64_w _).trans hji47
                by_cases c48 : 0 ≤ (ji47)
                ·rw [if_pos c48] at H; have c48b0 : decide (0 ≤ (ji47)) = true := decide_eq_true c48; clear c48; by_cases c49 : (ji47) < (l0.length : Int)
                 ·rw [if_pos c49] at H; have c49b0 : decide ((ji47) < (l0.length : Int)) = true := decide_eq_true c49; clear c49; by_cases c50 : (rd l0 x12_4) = (rd l0 (ji47))
                  ·rw [if_pos c50] at H; have c50b0 : ((rd l0 x12_4) == (rd l0 (ji47))) = true := beq_iff_eq.mpr c50; have c50b1 : ((rd l0 x12_4) != (rd l0 (ji47))) = false := bne_eq_false_iff_eq.mpr c50; clear c50; by_cases c51 : x12_4 < (t233.length : Int)
                   ·rw [if_pos c51] at H; have c51b0 : decide (x12_4 < (t233.length : Int)) = true := decide_eq_true c51; clear c51; by_cases c52 : (ji47) < (t233.length : Int)
                    ·rw [if_pos c52] at H; have c52b0 : decide ((ji47) < (t233.length : Int)) = true := decide_eq_true c52; clear c52; by_cases c53 : (rd t233 x12_4) = (wrap64 ((rd t233 (ji47)) + 1))
                     ·rw [if_pos c53] at H; have c53b0 : ((rd t233 x12_4) == (wrap64 ((rd t233 (ji47)) + 1))) = true := beq_iff_eq.mpr c53; have c53b1 : ((rd t233 x12_4) != (wrap64 ((rd t233 (ji47)) + 1))) = false := bne_eq_false_iff_eq.mpr c53; clear c53
                      have H' := Aside0.mk H
                      clear H
                      have p241 : 0 ≤ (x12_4 : Int) := of_decide_eq_true (by first | (with_reducible assumption) | assumption)
                      have q241 : x12_4 < (l0.length : Int) := of_decide_eq_true (by first | (with_reducible assumption) | assumption)
                      obtain ⟨ad241, e241, hx241_0⟩ := Kd.at_int HR0.out x12_4 p241 q241
                      cases e241
                      replace hx241_0 := (HB.out.cell (World.block_lt_of_cell? w _ hx241_0)).trans hx241_0
                      replace p241 := eq_true p241; replace q241 := eq_true q241
                      have p246 : 0 ≤ (x12_4 : Int) := of_decide_eq_true (by first | (with_reducible assumption) | assumption)
                      have q246 : x12_4 < (l0.length : Int) := of_decide_eq_true (by first | (with_reducible assumption) | assumption)
                      obtain ⟨ad246, e246, hx246_0⟩ := Kd.at_int HR0.out x12_4 p246 q246
                      obtain rfl : ad241 = ad246 := (by injection e246)
                      replace hx246_0 := (HB.out.cell (World.block_lt_of_cell? w _ hx246_0)).trans hx246_0
                      replace p246 := eq_true p246; replace q246 := eq_true q246
                      have p247 : 0 ≤ ((ji47) : Int) := of_decide_eq_true (by first | (with_reducible assumption) | assumption)
                      have q247 : (ji47) < (l0.length : Int) := of_decide_eq_true (by first | (with_reducible assumption) | assumption)
                      obtain ⟨ad247, e247, hx247_0⟩ := Kd.at_int HR0.out (ji47) p247 q247
                      obtain rfl : ad241 = ad247 := (by injection e247)
                      replace hx247_0 := (HB.out.cell (World.block_lt_of_cell? w _ hx247_0)).trans hx247_0
                      replace p247 := eq_true p247; replace q247 := eq_true q247
                      obtain ⟨Ao54, co54, eo54⟩ := Kd.R_slice HO_9.out
                      subst eo54
                      have p248 : 0 ≤ (x12_4 : Int) := of_decide_eq_true (by first | (with_reducible assumption) | assumption)
                      have q248 : x12_4 < (t233.length : Int) := of_decide_eq_true (by first | (with_reducible assumption) | assumption)
                      obtain ⟨ad248, e248, hx248_0⟩ := Kd.at_int (Kd.R_reads' HO_9.out).2.2 x12_4 p248 q248
                      cases e248
                      replace p248 := eq_true p248; replace q248 := eq_true q248
                      have p249 : 0 ≤ ((ji47) : Int) := of_decide_eq_true (by first | (with_reducible assumption) | assumption)
                      have q249 : (ji47) < (t233.length : Int) := of_decide_eq_true (by first | (with_reducible assumption) | assumption)
                      obtain ⟨ad249, e249, hx249_0⟩ := Kd.at_int (Kd.R_reads' HO_9.out).2.2 (ji47) p249 q249
                      obtain rfl : ad248 = ad249 := (by injection e249)
                      replace p249 := eq_true p249; replace q249 := eq_true q249
                      go_wp2
                      repeat (go_quiet (fail); try go_wp2)
                      go_roundg k4
                      case measure => have := HK1.out; have := HJ14.out; have := HK3.out; have := HK4.out; omega
                      case rel => exact ⟨(wrap64 (x12_4 + 1)), (by first | rfl | (simp; done) | (simp [*]; done)), H', ⟨by have := HK1.out; have := HJ14.out; have := HK3.out; have := HK4.out; omega⟩, ⟨RR HO_9⟩, ⟨BB HB⟩⟩
                     ·rw [if_neg c53] at H; have c53b0 : ((rd t233 x12_4) == (wrap64 ((rd t233 (ji47)) + 1))) = false := beq_eq_false_iff_ne.mpr c53; have c53b1 : ((rd t233 x12_4) != (wrap64 ((rd t233 (ji47)) + 1))) = true := bne_iff_ne.mpr c53; obtain rfl := Option.some.inj H
                      have p241 : 0 ≤ (x12_4 : Int) := of_decide_eq_true (by first | (with_reducible assumption) | assumption)
                      have q241 : x12_4 < (l0.length : Int) := of_decide_eq_true (by first | (with_reducible assumption) | assumption)
                      obtain ⟨ad241, e241, hx241_0⟩ := Kd.at_int HR0.out x12_4 p241 q241
                      cases e241
                      replace hx241_0 := (HB.out.cell (World.block_lt_of_cell? w _ hx241_0)).trans hx241_0
                      replace p241 := eq_true p241; replace q241 := eq_true q241
                      have p246 : 0 ≤ (x12_4 : Int) := of_decide_eq_true (by first | (with_reducible assumption) | assumption)
                      have q246 : x12_4 < (l0.length : Int) := of_decide_eq_true (by first | (with_reducible assumption) | assumption)
                      obtain ⟨ad246, e246, hx246_0⟩ := Kd.at_int HR0.out x12_4 p246 q246
                      obtain rfl : ad241 = ad246 := (by injection e246)
                      replace hx246_0 := (HB.out.cell (World.block_lt_of_cell? w _ hx246_0)).trans hx246_0
                      replace p246 := eq_true p246; replace q246 := eq_true q246
                      have p247 : 0 ≤ ((ji47) : Int) := of_decide_eq_true (by first | (with_reducible assumption) | assumption)
                      have q247 : (ji47) < (l0.length : Int) := of_decide_eq_true (by first | (with_reducible assumption) | assumption)
                      obtain ⟨ad247, e247, hx247_0⟩ := Kd.at_int HR0.out (ji47) p247 q247
                      obtain rfl : ad241 = ad247 := (by injection e247)
                      replace hx247_0 := (HB.out.cell (World.block_lt_of_cell? w _ hx247_0)).trans hx247_0
                      replace p247 := eq_true p247; replace q247 := eq_true q247
                      obtain ⟨Ao55, co55, eo55⟩ := Kd.R_slice HO_9.out
                      subst eo55
                      have p248 : 0 ≤ (x12_4 : Int) := of_decide_eq_true (by first | (with_reducible assumption) | assumption)
                      have q248 : x12_4 < (t233.length : Int) := of_decide_eq_true (by first | (with_reducible assumption) | assumption)
                      obtain ⟨ad248, e248, hx248_0⟩ := Kd.at_int (Kd.R_reads' HO_9.out).2.2 x12_4 p248 q248
                      cases e248
                      replace p248 := eq_true p248; replace q248 := eq_true q248
                      have p249 : 0 ≤ ((ji47) : Int) := of_decide_eq_true (by first | (with_reducible assumption) | assumption)
                      have q249 : (ji47) < (t233.length : Int) := of_decide_eq_true (by first | (with_reducible assumption) | assumption)
                      obtain ⟨ad249, e249, hx249_0⟩ := Kd.at_int (Kd.R_reads' HO_9.out).2.2 (ji47) p249 q249
                      obtain rfl : ad248 = ad249 := (by injection e249)
                      replace p249 := eq_true p249; replace q249 := eq_true q249
                      go_wp2
                      repeat (go_quiet (fail); try go_wp2)
                      go_ret
                      exact ⟨by first | rfl | (simp [errW_none, errW_some] <;> rfl) | (simp only [← hji47]; first | rfl | (simp [errW_none, errW_some] <;> rfl)) | (simp [*, errW_none, errW_some] <;> rfl), BB HB⟩
                    ·rw [if_neg c52] at H
                     exact absurd H (by simp)
                   ·rw [if_neg c51] at H
                    exact absurd H (by simp)
                  ·rw [if_neg c50] at H; have c50b0 : ((rd l0 x12_4) == (rd l0 (ji47))) = false := beq_eq_false_iff_ne.mpr c50; have c50b1 : ((rd l0 x12_4) != (rd l0 (ji47))) = true := bne_iff_ne.mpr c50
                   have H' := Aside0.mk H
                   clear H
                   have p241 : 0 ≤ (x12_4 : Int) := of_decide_eq_true (by first | (with_reducible assumption) | assumption)
                   have q241 : x12_4 < (l0.length : Int) := of_decide_eq_true (by first | (with_reducible assumption) | assumption)
                   obtain ⟨ad241, e241, hx241_0⟩ := Kd.at_int HR0.out x12_4 p241 q241
                   cases e241
                   replace hx241_0 := (HB.out.cell (World.block_lt_of_cell? w _ hx241_0)).trans hx241_0
                   replace p241 := eq_true p241; replace q241 := eq_true q241
                   have p246 : 0 ≤ (x12_4 : Int) := of_decide_eq_true (by first | (with_reducible assumption) | assumption)
                   have q246 : x12_4 < (l0.length : Int) := of_decide_eq_true (by first | (with_reducible assumption) | assumption)
                   obtain ⟨ad246, e246, hx246_0⟩ := Kd.at_int HR0.out x12_4 p246 q246
                   obtain rfl : ad241 = ad246 := (by injection e246)
                   replace hx246_0 := (HB.out.cell (World.block_lt_of_cell? w _ hx246_0)).trans hx246_0
                   replace p246 := eq_true p246; replace q246 := eq_true q246
                   have p247 : 0 ≤ ((ji47) : Int) := of_decide_eq_true (by first | (with_reducible assumption) | assumption)
                   have q247 : (ji47) < (l0.length : Int) := of_decide_eq_true (by first | (with_reducible assumption) | assumption)
                   obtain ⟨ad247, e247, hx247_0⟩ := Kd.at_int HR0.out (ji47) p247 q247
                   obtain rfl : ad241 = ad247 := (by injection e247)
                   replace hx247_0 := (HB.out.cell (World.block_lt_of_cell? w _ hx247_0)).trans hx247_0
                   replace p247 := eq_true p247; replace q247 := eq_true q247
                   go_wp2
                   repeat (go_quiet (fail); try go_wp2)
                   go_roundg k4
                   case measure => have := HK1.out; have := HJ14.out; have := HK3.out; have := HK4.out; omega
                   case rel => exact ⟨(wrap64 (x12_4 + 1)), (by first | rfl | (simp; done) | (simp [*]; done)), H', ⟨by have := HK1.out; have := HJ14.out; have := HK3.out; have := HK4.out; omega⟩, ⟨RR HO_9⟩, ⟨BB HB⟩⟩
                 ·rw [if_neg c49] at H
                  exact absurd H (by simp)
                ·rw [if_neg c48] at H
                 exact absurd H (by simp)
              ·rw [if_neg c36] at H
               exact absurd H (by simp)
             ·rw [if_neg c35] at H; have c35b0 : decide (x12_4 < (l0.length : Int)) = false := decide_eq_false c35; clear c35; replace H := Option.bind_eq_some_iff.mp H; obtain ⟨t240, A560, H⟩ := H
              replace H : (some t240) = some r := H
              have A56 := Aside0.mk A560; clear A560; obtain rfl := Option.some.inj H
              go_wp2_with (first | (go_at_call 11; (with_reducible refine (selvedgelaw20_works.calls k4  t240 _ A56.out).mono ?_); rintro e w57 ⟨rfl, hb⟩; have n0_ := Aside0.mk (Kd.R_below (RR HO_9) hb); have n1_ := Aside0.mk (below_step (BB HB) hb); clear HO_9; clear HB; have HO_9 := n0_; have HB := n1_; clear n0_ n1_; (try clear hb); (try clear hb2); (try clear hk); (try clear hi)))
              repeat (go_quiet (first | (go_at_call 11; (with_reducible refine (selvedgelaw20_works.calls k4  t240 _ A56.out).mono ?_); rintro e w57 ⟨rfl, hb⟩; have n0_ := Aside0.mk (Kd.R_below (RR HO_9) hb); have n1_ := Aside0.mk (below_step (BB HB) hb); clear HO_9; clear HB; have HO_9 := n0_; have HB := n1_; clear n0_ n1_; (try clear hb); (try clear hb2); (try clear hk); (try clear hi))); try go_wp2_with (first | (go_at_call 11; (with_reducible refine (selvedgelaw20_works.calls k4  t240 _ A56.out).mono ?_); rintro e w57 ⟨rfl, hb⟩; have n0_ := Aside0.mk (Kd.R_below (RR HO_9) hb); have n1_ := Aside0.mk (below_step (BB HB) hb); clear HO_9; clear HB; have HO_9 := n0_; have HB := n1_; clear n0_ n1_; (try clear hb); (try clear hb2); (try clear hk); (try clear hi))))
              go_ret
              exact ⟨FF, BB HB⟩
def selvedgelaw20_OrderTurns.Pure : Prop := ∀ (l0 : List Int), l0.length ≤ maxLen → l0.length * 1 ≤ 140737488351232 → (∀ x ∈ l0, (Lit.int .u8 x).wf = true) → ∃ k, selvedgelaw20_OrderTurns.f k l0 = some true
theorem selvedgelaw20_OrderTurns.walk (P : selvedgelaw20_OrderTurns.Pure) (a0 : Option Addr) (len0 cap0 : Nat) (z0 : List Int) (w : World) (w0 : (a0 = none ∧ len0 = 0 ∧ cap0 = 0 ∧ z0 = []) ∨ ∃ x, a0 = some x ∧ len0 ≤ cap0 ∧ cap0 ≤ maxLen ∧ z0.length = cap0 ∧ (∀ i, i < z0.length → w.cell? (x.add i) = some (.int .u8 (z0.getD i 0))) ∧ ∀ n ∈ z0, (Lit.int .u8 n).wf = true) (y0 : len0 * 1 ≤ 140737488351232) (hG : LaidW w) :
  Calls Tryd.prog 4 #[.slice a0 len0 cap0] w fun e w' => e = .returned (.bool true) ∧ Below w.heap.size w w' := by
 obtain ⟨l0, rfl, hr0, hm0, hw0, hc0⟩ := ReadsInt.ofRowC w0
 obtain ⟨k, h⟩ := P l0 hm0 y0 hw0
 refine (selvedgelaw20_OrderTurns.calls k _ _ l0 true w (Kd.C_of_reads (d := (0 : Int)) (h1 := fun _ => rfl) hr0) hc0 h).mono ?_
 rintro e w' ⟨rfl, hd⟩
 exact ⟨rfl, hd⟩
end Go.Proofs.YtgfkbijmchoolaaDoor.P

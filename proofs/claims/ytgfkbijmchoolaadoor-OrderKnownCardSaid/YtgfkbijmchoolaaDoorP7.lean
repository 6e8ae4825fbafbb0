import Derived.Test.YtgfkbijmchoolaaDoorSh
import Derived.Test.YtgfkbijmchoolaaDoorP0
import Derived.Test.YtgfkbijmchoolaaDoorP2
import Derived.Test.YtgfkbijmchoolaaDoorP5
import Derived.Test.YtgfkbijmchoolaaDoorP6
namespace Go.Proofs.YtgfkbijmchoolaaDoor.P
open Go.Proofs.YtgfkbijmchoolaaDoorH Go.Proofs.YtgfkbijmchoolaaDoorSh Go.RowKit Go.Proofs.YtgfkbijmchoolaaDoorW.PrintWords Go.Proofs.YtgfkbijmchoolaaDoorW.PrintLast Go.Proofs.YtgfkbijmchoolaaDoorW.PrintMore
attribute [local go_sem] max2_int min2_int max_two min_two max_three min_three max_four min_four
set_option linter.unusedVariables false
set_option linter.unusedSimpArgs false
mutual
def selvedgelaw20_OrderResets.j0 : Nat → List Int → List Int → Int → Int → Int → Bool → Option (Bool)
 | 0, _, _, _, _, _, _ => none
 | k + 1, x0, x1, x2, x3, x4, x36 => if x36 = true then ((selvedgelaw20_works.f k).bind fun t201 => (some t201)) else (if ([] : List Int).length + x1.length < 140737488355328 then ((some (([] : List Int) ++ x1 : List Int)).bind fun y202 => ((order_Reset.f k x0 y202 x2 x3 x4).bind fun bt205 => ((selvedgeref20_Reset.f k x0 x1 x2 x3 x4).bind fun bt209 => (if bt205.2 = bt209.2 then ((selvedgelaw20_sameLevels.f bt205.1 bt209.1).bind fun t213 => (if t213 = true then ((selvedgelaw20_sameLevels.f y202 x1).bind fun t214 => (selvedgelaw20_OrderResets.j1 k x1 y202 bt205.1 (!t214))) else (selvedgelaw20_OrderResets.j1 k x1 y202 bt205.1 true))) else (selvedgelaw20_OrderResets.j1 k x1 y202 bt205.1 true))))) else (none))
def selvedgelaw20_OrderResets.j1 : Nat → List Int → List Int → List Int → Bool → Option (Bool)
 | 0, _, _, _, _ => none
 | k + 1, x1, x11, x12, x73 => if x73 = true then (some false) else (selvedgelaw20_OrderResets.l0 k x1 x11 x12 0)
def selvedgelaw20_OrderResets.l0 : Nat → List Int → List Int → List Int → Int → Option (Bool)
 | 0, _, _, _, _ => none
 | k + 1, x1, x11, x12, x16 => if x16 < (x12.length : Int) then (if 0 ≤ x16 then (selvedgelaw20_OrderResets.l0 k x1 x11 (x12.set (x16 : Int).toNat 99) (wrap64 (x16 + 1))) else (none)) else ((selvedgelaw20_sameLevels.f x11 x1).bind fun t216 => (if t216 = true then ((selvedgelaw20_works.f k).bind fun t217 => (some t217)) else (some false)))
end
def selvedgelaw20_OrderResets.f (k : Nat) (l0 : List Int) (l1 : List Int) (a2 : Int) (a3 : Int) (a4 : Int) : Option (Bool) := if (l0.length : Int) > 2000 then (if (l0.length : Int) ≤ 65536 then (selvedgelaw20_OrderResets.j0 k l0 l1 a2 a3 a4 true) else (if (l1.length : Int) > 2000 then (selvedgelaw20_OrderResets.j0 k l0 l1 a2 a3 a4 ((l1.length : Int) != (l0.length : Int))) else (selvedgelaw20_OrderResets.j0 k l0 l1 a2 a3 a4 false))) else (if (l1.length : Int) > 2000 then (selvedgelaw20_OrderResets.j0 k l0 l1 a2 a3 a4 ((l1.length : Int) != (l0.length : Int))) else (selvedgelaw20_OrderResets.j0 k l0 l1 a2 a3 a4 false))
theorem selvedgelaw20_OrderResets.mono_l : ∀ k, (∀ y0 y1 y2 y3 y4 y5, LeO (selvedgelaw20_OrderResets.j0 k y0 y1 y2 y3 y4 y5) (selvedgelaw20_OrderResets.j0 (k + 1) y0 y1 y2 y3 y4 y5)) ∧ (∀ y0 y1 y2 y3, LeO (selvedgelaw20_OrderResets.j1 k y0 y1 y2 y3) (selvedgelaw20_OrderResets.j1 (k + 1) y0 y1 y2 y3)) ∧ (∀ y0 y1 y2 y3, LeO (selvedgelaw20_OrderResets.l0 k y0 y1 y2 y3) (selvedgelaw20_OrderResets.l0 (k + 1) y0 y1 y2 y3))
 | 0 => ⟨fun _ _ _ _ _ _ r h => by simp [selvedgelaw20_OrderResets.j0] at h, fun _ _ _ _ r h => by simp [selvedgelaw20_OrderResets.j1] at h, fun _ _ _ _ r h => by simp [selvedgelaw20_OrderResets.l0] at h⟩
 | k + 1 => by
  obtain ⟨ih0, ih1, ih2⟩ := selvedgelaw20_OrderResets.mono_l k
  refine ⟨?_, ?_, ?_⟩
  ·intro y0 y1 y2 y3 y4 y5
   unfold selvedgelaw20_OrderResets.j0
   repeat' first
   | (with_reducible exact ih0 _ _ _ _ _ _)
   | (with_reducible exact ih1 _ _ _ _)
   | (with_reducible exact ih2 _ _ _ _)
   | (with_reducible exact order_Reset.mono _ _ _ _ _ _)
   | (with_reducible exact selvedgelaw20_works.mono _)
   | (with_reducible exact selvedgeref20_Reset.mono _ _ _ _ _ _)
   | (with_reducible exact LeO.refl _)
   | (with_reducible exact LeO.none _)
   | (with_reducible refine LeO.ite ?_ ?_)
   | (with_reducible refine LeO.bind ?_ (fun _ => ?_))
   | exact ih0 _ _ _ _ _ _
   | exact ih1 _ _ _ _
   | exact ih2 _ _ _ _
   | exact order_Reset.mono _ _ _ _ _ _
   | exact selvedgelaw20_works.mono _
   | exact selvedgeref20_Reset.mono _ _ _ _ _ _
   | exact LeO.none _
   | refine LeO.ite ?_ ?_
   | refine LeO.bind ?_ (fun _ => ?_)
  ·intro y0 y1 y2 y3
   unfold selvedgelaw20_OrderResets.j1
   repeat' first
   | (with_reducible exact ih0 _ _ _ _ _ _)
   | (with_reducible exact ih1 _ _ _ _)
   | (with_reducible exact ih2 _ _ _ _)
   | (with_reducible exact order_Reset.mono _ _ _ _ _ _)
   | (with_reducible exact selvedgelaw20_works.mono _)
   | (with_reducible exact selvedgeref20_Reset.mono _ _ _ _ _ _)
   | (with_reducible exact LeO.refl _)
   | (with_reducible exact LeO.none _)
   | (with_reducible refine LeO.ite ?_ ?_)
   | (with_reducible refine LeO.bind ?_ (fun _ => ?_))
   | exact ih0 _ _ _ _ _ _
   | exact ih1 _ _ _ _
   | exact ih2 _ _ _ _
   | exact order_Reset.mono _ _ _ _ _ _
   | exact selvedgelaw20_works.mono _
   | exact selvedgeref20_Reset.mono _ _ _ _ _ _
   | exact LeO.none _
   | refine LeO.ite ?_ ?_
   | refine LeO.bind ?_ (fun _ => ?_)
  ·intro y0 y1 y2 y3
   unfold selvedgelaw20_OrderResets.l0
   repeat' first
   | (with_reducible exact ih0 _ _ _ _ _ _)
   | (with_reducible exact ih1 _ _ _ _)
   | (with_reducible exact ih2 _ _ _ _)
   | (with_reducible exact order_Reset.mono _ _ _ _ _ _)
   | (with_reducible exact selvedgelaw20_works.mono _)
   | (with_reducible exact selvedgeref20_Reset.mono _ _ _ _ _ _)
   | (with_reducible exact LeO.refl _)
   | (with_reducible exact LeO.none _)
   | (with_reducible refine LeO.ite ?_ ?_)
   | (with_reducible refine LeO.bind ?_ (fun _ => ?_))
   | exact ih0 _ _ _ _ _ _
   | exact ih1 _ _ _ _
   | exact ih2 _ _ _ _
   | exact order_Reset.mono _ _ _ _ _ _
   | exact selvedgelaw20_works.mono _
   | exact selvedgeref20_Reset.mono _ _ _ _ _ _
   | exact LeO.none _
   | refine LeO.ite ?_ ?_
   | refine LeO.bind ?_ (fun _ => ?_)
theorem selvedgelaw20_OrderResets.mono : ∀ a0 a1 a2 a3 a4 k, LeO (selvedgelaw20_OrderResets.f k a0 a1 a2 a3 a4) (selvedgelaw20_OrderResets.f (k + 1) a0 a1 a2 a3 a4) := by
 intro a0 a1 a2 a3 a4 k
 obtain ⟨ih0, ih1, ih2⟩ := selvedgelaw20_OrderResets.mono_l k
 unfold selvedgelaw20_OrderResets.f
 repeat' first
   | (with_reducible exact ih0 _ _ _ _ _ _)
   | (with_reducible exact ih1 _ _ _ _)
   | (with_reducible exact ih2 _ _ _ _)
   | (with_reducible exact order_Reset.mono _ _ _ _ _ _)
   | (with_reducible exact selvedgelaw20_works.mono _)
   | (with_reducible exact selvedgeref20_Reset.mono _ _ _ _ _ _)
   | (with_reducible exact LeO.refl _)
   | (with_reducible exact LeO.none _)
   | (with_reducible refine LeO.ite ?_ ?_)
   | (with_reducible refine LeO.bind ?_ (fun _ => ?_))
   | exact ih0 _ _ _ _ _ _
   | exact ih1 _ _ _ _
   | exact ih2 _ _ _ _
   | exact order_Reset.mono _ _ _ _ _ _
   | exact selvedgelaw20_works.mono _
   | exact selvedgeref20_Reset.mono _ _ _ _ _ _
   | exact LeO.none _
   | refine LeO.ite ?_ ?_
   | refine LeO.bind ?_ (fun _ => ?_)
set_option maxHeartbeats 80000000 in
set_option maxRecDepth 100000 in
theorem selvedgelaw20_OrderResets.calls (k : Nat) (A0 : Option Addr) (c0 : Nat) (l0 : List Int) (A1 : Option Addr) (c1 : Nat) (l1 : List Int) (a2 : Int) (a3 : Int) (a4 : Int) (r : Bool) (w : World) (hr0 : Kd.C (Kd.int .i32) w A0 l0.length l0) (hc0 : l0.length ≤ c0) (hr1 : Kd.C (Kd.int .u8) w A1 l1.length l1) (hc1 : l1.length ≤ c1) (h : selvedgelaw20_OrderResets.f k l0 l1 a2 a3 a4 = some r) (hG : LaidW w := by first | exact hG | exact HG.out | exact LaidW.below HG.out (BB HB)) :
  Calls Tryd.prog 3 #[.slice A0 l0.length c0, .slice A1 l1.length c1, .int .u8 a2, .int .i64 a3, .int .i64 a4] w fun e w' => e = .returned (.bool r) ∧ Below w.heap.size w w' := by
 have HG := Aside0.mk hG; clear hG; have HR0 := Aside0.mk hr0; have HC0 := Aside0.mk hc0; clear hr0 hc0; have HR1 := Aside0.mk hr1; have HC1 := Aside0.mk hc1; clear hr1 hc1
 have HB := Aside0.mk (Below.refl w.heap.size w)
 have H : (if (l0.length : Int) > 2000 then (if (l0.length : Int) ≤ 65536 then (selvedgelaw20_OrderResets.j0 k l0 l1 a2 a3 a4 true) else (if (l1.length : Int) > 2000 then (selvedgelaw20_OrderResets.j0 k l0 l1 a2 a3 a4 ((l1.length : Int) != (l0.length : Int))) else (selvedgelaw20_OrderResets.j0 k l0 l1 a2 a3 a4 false))) else (if (l1.length : Int) > 2000 then (selvedgelaw20_OrderResets.j0 k l0 l1 a2 a3 a4 ((l1.length : Int) != (l0.length : Int))) else (selvedgelaw20_OrderResets.j0 k l0 l1 a2 a3 a4 false))) = some r := h
 clear h; have HC6 := Aside0.mk H; clear H
 go_enter Tryd.func3, Tryd.ntmps3
 go_upto_region 1 with (fail)
 go_cut [36] (fun v36 wc => ∃ (kq : Nat) (x36_5 : Bool), v36 = .bool x36_5 ∧ Aside0 (selvedgelaw20_OrderResets.j0 kq l0 l1 a2 a3 a4 x36_5 = some r) ∧ Aside0 (kq ≤ k) ∧ Aside0 (Below w.heap.size w wc))
 case first =>
  have H := HC6.out
  clear HC6; by_cases c7 : (l0.length : Int) > 2000
  ·rw [if_pos c7] at H; have c7b0 : decide (2000 < (l0.length : Int)) = true := decide_eq_true c7
   have c7b1 : decide (2000 < l0.length) = true := decide_eq_true (by omega)
   clear c7
   (first | rw [c7b0] | (simp only [i64_w, i32_w]; rw [c7b0]) | skip)
   by_cases c8 : (l0.length : Int) ≤ 65536
   ·rw [if_pos c8] at H; have c8b0 : decide ((l0.length : Int) ≤ 65536) = true := decide_eq_true c8
    have c8b1 : decide (l0.length ≤ 65536) = true := decide_eq_true (by omega)
    clear c8
    have H' := Aside0.mk H
    clear H
    go_wp2
    go_meet
    case rel => exact ⟨_, (true), (by first | rfl | (simp; done) | (simp [*]; done)), H', ⟨by first | omega | exact Nat.le_refl _⟩, ⟨BB HB⟩⟩
   ·rw [if_neg c8] at H; have c8b0 : decide ((l0.length : Int) ≤ 65536) = false := decide_eq_false c8
    have c8b1 : decide (l0.length ≤ 65536) = false := decide_eq_false (by omega)
    clear c8; by_cases c9 : (l1.length : Int) > 2000
    ·rw [if_pos c9] at H; have c9b0 : decide (2000 < (l1.length : Int)) = true := decide_eq_true c9
     have c9b1 : decide (2000 < l1.length) = true := decide_eq_true (by omega)
     clear c9
     have H' := Aside0.mk H
     clear H
     go_wp2
     go_meet
     case rel => exact ⟨_, (((l1.length : Int) != (l0.length : Int))), (by first | rfl | (simp; done) | (simp [*]; done)), H', ⟨by first | omega | exact Nat.le_refl _⟩, ⟨BB HB⟩⟩
    ·rw [if_neg c9] at H; have c9b0 : decide (2000 < (l1.length : Int)) = false := decide_eq_false c9
     have c9b1 : decide (2000 < l1.length) = false := decide_eq_false (by omega)
     clear c9
     have H' := Aside0.mk H
     clear H
     go_wp2
     go_meet
     case rel => exact ⟨_, (false), (by first | rfl | (simp; done) | (simp [*]; done)), H', ⟨by first | omega | exact Nat.le_refl _⟩, ⟨BB HB⟩⟩
  ·rw [if_neg c7] at H; have c7b0 : decide (2000 < (l0.length : Int)) = false := decide_eq_false c7
   have c7b1 : decide (2000 < l0.length) = false := decide_eq_false (by omega)
   clear c7
   (first | rw [c7b0] | (simp only [i64_w, i32_w]; rw [c7b0]) | skip)
   by_cases c10 : (l1.length : Int) > 2000
   ·rw [if_pos c10] at H; have c10b0 : decide (2000 < (l1.length : Int)) = true := decide_eq_true c10
    have c10b1 : decide (2000 < l1.length) = true := decide_eq_true (by omega)
    clear c10
    have H' := Aside0.mk H
    clear H
    go_wp2
    go_meet
    case rel => exact ⟨_, (((l1.length : Int) != (l0.length : Int))), (by first | rfl | (simp; done) | (simp [*]; done)), H', ⟨by first | omega | exact Nat.le_refl _⟩, ⟨BB HB⟩⟩
   ·rw [if_neg c10] at H; have c10b0 : decide (2000 < (l1.length : Int)) = false := decide_eq_false c10
    have c10b1 : decide (2000 < l1.length) = false := decide_eq_false (by omega)
    clear c10
    have H' := Aside0.mk H
    clear H
    go_wp2
    go_meet
    case rel => exact ⟨_, (false), (by first | rfl | (simp; done) | (simp [*]; done)), H', ⟨by first | omega | exact Nat.le_refl _⟩, ⟨BB HB⟩⟩
 case rest =>
  clear HC6; (try clear c1); (try clear p2); (try clear c3); (try clear c7); (try clear c7b0); (try clear c7b1); (try clear c8); (try clear c8b0); (try clear c8b1); (try clear c9); (try clear c9b0); (try clear c9b1); (try clear c10); (try clear c10b0); (try clear c10b1)
  obtain ⟨kq, x36_5, rfl, HA, HJ5, HB⟩ := hcut
  cases kq with
  | zero => exact absurd HA.out (by simp [selvedgelaw20_OrderResets.j0])
  | succ kj5 =>
   have H := HA.out
   clear HA
   simp only [selvedgelaw20_OrderResets.j0] at H
   by_cases c11 : x36_5 = true
   ·subst c11
    have H1 : ((selvedgelaw20_works.f kj5).bind fun t201 => (some t201)) = some r := by rw [if_pos rfl] at H; exact H
    clear H
    have H := H1
    clear H1; replace H := Option.bind_eq_some_iff.mp H; obtain ⟨t201, A120, H⟩ := H
    replace H : (some t201) = some r := H
    have A12 := Aside0.mk A120; clear A120; obtain rfl := Option.some.inj H
    go_wp2_with (first | ((with_reducible refine gate_callee (f := 11) rfl ?_); refine goesL_ (some 37) rfl rfl Tryd.func11 (by kernel_rfl) rfl #[] rfl (by (try simp only [List.map_toArray, List.map_cons, List.map_nil]); first | done | rfl | (simp only [List.length_drop, List.length_take]; rfl)) ?_; (with_reducible refine (selvedgelaw20_works.calls kj5  t201 _ A12.out).mono ?_); rintro e w13 ⟨rfl, hb⟩; refine ⟨_, rfl, ?_⟩; have n0_ := Aside0.mk (below_step (BB HB) hb); clear HB; have HB := n0_; clear n0_; (try clear hb); (try clear hb2); (try clear hk); (try clear hi)))
    go_ret
    exact ⟨FF, BB HB⟩
   ·replace c11 := Bool.eq_false_iff.mpr c11
    subst c11
    have H1 : (if ([] : List Int).length + l1.length < 140737488355328 then ((some (([] : List Int) ++ l1 : List Int)).bind fun y202 => ((order_Reset.f kj5 l0 y202 a2 a3 a4).bind fun bt205 => ((selvedgeref20_Reset.f kj5 l0 l1 a2 a3 a4).bind fun bt209 => (if bt205.2 = bt209.2 then ((selvedgelaw20_sameLevels.f bt205.1 bt209.1).bind fun t213 => (if t213 = true then ((selvedgelaw20_sameLevels.f y202 l1).bind fun t214 => (selvedgelaw20_OrderResets.j1 kj5 l1 y202 bt205.1 (!t214))) else (selvedgelaw20_OrderResets.j1 kj5 l1 y202 bt205.1 true))) else (selvedgelaw20_OrderResets.j1 kj5 l1 y202 bt205.1 true))))) else (none)) = some r := by rw [if_neg (show ¬ (false = true) by decide)] at H; exact H
    clear H
    have H := H1
    clear H1; by_cases c14 : ([] : List Int).length + l1.length < 140737488355328
    ·rw [if_pos c14] at H; have LMc14 := Aside0.mk c14; clear c14
     obtain ⟨y202, hy202⟩ : ∃ y_ : List Int, y_ = (([] : List Int) ++ l1) := ⟨_, rfl⟩
     replace H : ((order_Reset.f kj5 l0 y202 a2 a3 a4).bind fun bt205 => ((selvedgeref20_Reset.f kj5 l0 l1 a2 a3 a4).bind fun bt209 => (if bt205.2 = bt209.2 then ((selvedgelaw20_sameLevels.f bt205.1 bt209.1).bind fun t213 => (if t213 = true then ((selvedgelaw20_sameLevels.f y202 l1).bind fun t214 => (selvedgelaw20_OrderResets.j1 kj5 l1 y202 bt205.1 (!t214))) else (selvedgelaw20_OrderResets.j1 kj5 l1 y202 bt205.1 true))) else (selvedgelaw20_OrderResets.j1 kj5 l1 y202 bt205.1 true)))) = some r := by first | (rw [hy202]; with_reducible exact H) | (have H2_ := (Option.bind_some _ _).symm.trans H; rw [hy202]; with_reducible exact H2_) | (have H2_ := (Option.bind_some _ _).symm.trans H; with_reducible exact H2_) | with_reducible exact H | (rw [hy202]; exact H) | exact H
     have Ny202 := Aside0.mk hy202; clear hy202; replace H := Option.bind_eq_some_iff.mp H
     obtain ⟨⟨t205, t206⟩, A150, H⟩ := H
     replace H : ((selvedgeref20_Reset.f kj5 l0 l1 a2 a3 a4).bind fun bt209 => (if t206 = bt209.2 then ((selvedgelaw20_sameLevels.f t205 bt209.1).bind fun t213 => (if t213 = true then ((selvedgelaw20_sameLevels.f y202 l1).bind fun t214 => (selvedgelaw20_OrderResets.j1 kj5 l1 y202 t205 (!t214))) else (selvedgelaw20_OrderResets.j1 kj5 l1 y202 t205 true))) else (selvedgelaw20_OrderResets.j1 kj5 l1 y202 t205 true))) = some r := H
     have A15 := Aside0.mk A150; clear A150; replace H := Option.bind_eq_some_iff.mp H
     obtain ⟨⟨t209, t210⟩, A160, H⟩ := H
     replace H : (if t206 = t210 then ((selvedgelaw20_sameLevels.f t205 t209).bind fun t213 => (if t213 = true then ((selvedgelaw20_sameLevels.f y202 l1).bind fun t214 => (selvedgelaw20_OrderResets.j1 kj5 l1 y202 t205 (!t214))) else (selvedgelaw20_OrderResets.j1 kj5 l1 y202 t205 true))) else (selvedgelaw20_OrderResets.j1 kj5 l1 y202 t205 true)) = some r := H
     have A16 := Aside0.mk A160; clear A160; have HC17 := Aside0.mk H; clear H
     go_upto_region 7 with (first | ((with_reducible refine gate_builtin (b := .append) (xs := #[.tmp 38, .tmp 39]) rfl ?_); (try (refine gate_guard (by rfl) ?_; dsimp only)); at_builtin; refine Kd.R_append_rows (Kd.int .u8) (w0 := w) w.heap.size rfl (.tmp 38) (.tmp 39) 23 5 (.int .u8 0) 1 rfl Tryd.underlying23 info5 rfl (by decide) (by omega) (.slice none 0 0) ([] : List Int) l1 _ _ _ (fun _ => True) (fun _ => False) rfl rfl ?aO ?aR (fun _ _ h => h) (fun _ h => h.elim) ?aF ?aB ?aS ?aL ?_; (case aR => repeat (first | exact (Kd.C_below HR1.out HB.out) | (with_reducible refine Kd.C_alloc ?_ _) | (with_reducible refine Kd.C_drewN ?_ _) | (with_reducible refine Kd.C_drew ?_))); (case aB => exact (BB HB)); (case aF => exact (fun _ _ => trivial)); (case aO => exact ((Kd.R_nil _ _ _ _ (fun _ => True)))); (case aS => exact (below_size (BB HB))); (case aL => have := LMc14.out; omega); intro v203 w18 ho hb hg hat; rw [← Ny202.out] at ho; have n0_ := Aside0.mk (hb); have n1_ := Aside0.mk (ho); clear HB; have HB := n0_; have HO204 := n1_; clear n0_ n1_; clear ho hb hg hat; obtain ⟨Ao19, co19, eo19⟩ := Kd.R_slice HO204.out; subst eo19) | ((with_reducible refine gate_callee (f := 12) rfl ?_); refine goesL_ (some 47) rfl rfl Tryd.func12 (by kernel_rfl) rfl #[.slice A0 l0.length c0, .slice Ao19 y202.length co19, .int .u8 a2, .int .i64 a3, .int .i64 a4] rfl (by (try simp only [List.map_toArray, List.map_cons, List.map_nil]); first | done | rfl | (simp only [List.length_drop, List.length_take]; rfl)) ?_; (with_reducible refine (order_Reset.calls kj5 _ _ l0 _ _ y202 a2 a3 a4 t205 t206 _ ?side1 ?side2 ?side3 ?side4 A15.out).mono ?_); (case side1 => repeat (first | exact (Kd.C_below HR0.out HB.out) | (with_reducible refine Kd.C_alloc ?_ _) | (with_reducible refine Kd.C_drewN ?_ _) | (with_reducible refine Kd.C_drew ?_))); (case side2 => exact HC0.out); (case side3 => repeat (first | exact (Kd.R_reads' HO204.out).2.2 | (with_reducible refine Kd.C_alloc ?_ _) | (with_reducible refine Kd.C_drewN ?_ _) | (with_reducible refine Kd.C_drew ?_))); (case side4 => exact (Kd.R_reads' HO204.out).2.1); rintro e w20 ⟨v207, rfl, ho0, hb⟩; refine ⟨_, rfl, ?_⟩; have n0_ := Aside0.mk (Kd.R_elder' (RR HO204) (Kd.R_base ho0) hb); have n1_ := Aside0.mk (Kd.R_lower (Kd.R_new' ho0 (Kd.R_lt (RR HO204))) (below_size (BB HB))); have n2_ := Aside0.mk (below_step (BB HB) hb); clear HO204; clear HB; have HO204 := n0_; have HO208 := n1_; have HB := n2_; clear n0_ n1_ n2_; (try clear hb); (try clear hb2); (try clear hk); (try clear hi); (try clear ho0)) | ((with_reducible refine gate_callee (f := 13) rfl ?_); refine goesL_ (some 56) rfl rfl Tryd.func13 (by kernel_rfl) rfl #[.slice A0 l0.length c0, .slice A1 l1.length c1, .int .u8 a2, .int .i64 a3, .int .i64 a4] rfl (by (try simp only [List.map_toArray, List.map_cons, List.map_nil]); first | done | rfl | (simp only [List.length_drop, List.length_take]; rfl)) ?_; (with_reducible refine (selvedgeref20_Reset.calls kj5 _ _ l0 _ _ l1 a2 a3 a4 t209 t210 _ ?side1 ?side2 ?side3 ?side4 A16.out).mono ?_); (case side1 => repeat (first | exact (Kd.C_below HR0.out HB.out) | (with_reducible refine Kd.C_alloc ?_ _) | (with_reducible refine Kd.C_drewN ?_ _) | (with_reducible refine Kd.C_drew ?_))); (case side2 => exact HC0.out); (case side3 => repeat (first | exact (Kd.C_below HR1.out HB.out) | (with_reducible refine Kd.C_alloc ?_ _) | (with_reducible refine Kd.C_drewN ?_ _) | (with_reducible refine Kd.C_drew ?_))); (case side4 => exact HC1.out); rintro e w21 ⟨v211, rfl, ho0, hb⟩; refine ⟨_, rfl, ?_⟩; have n0_ := Aside0.mk (Kd.R_elder' (RR HO204) (Kd.R_base ho0) hb); have n1_ := Aside0.mk (Kd.R_elder' (RR HO208) (Kd.R_base ho0) hb); have n2_ := Aside0.mk (Kd.R_lower (Kd.R_new' (Kd.R_new' ho0 (Kd.R_lt (RR HO204))) (Kd.R_lt (RR HO208))) (below_size (BB HB))); have n3_ := Aside0.mk (below_step (BB HB) hb); clear HO204; clear HO208; clear HB; have HO204 := n0_; have HO208 := n1_; have HO212 := n2_; have HB := n3_; clear n0_ n1_ n2_ n3_; (try clear hb); (try clear hb2); (try clear hk); (try clear hi); (try clear ho0)))
     (try simp only [Act.put, List.setIfInBounds_toArray, List.set_cons_zero, List.set_cons_succ])
     go_cut [73] (fun v73 wc => ∃ (kq : Nat) (x73_16 : Bool), v73 = .bool x73_16 ∧ Aside0 (selvedgelaw20_OrderResets.j1 kq l1 y202 t205 x73_16 = some r) ∧ Aside0 (kq ≤ kj5) ∧ Aside0 (Kd.R (Kd.int .u8) 5 wc w.heap.size (fun k_ => some k_ ≠ (v207 : Value).ownBlock) (.slice Ao19 y202.length co19) y202) ∧ Aside0 (Kd.R (Kd.int .u8) 5 wc w.heap.size (fun k_ => some k_ ≠ ((.slice Ao19 y202.length co19) : Value).ownBlock) v207 t205) ∧ Aside0 (Below w.heap.size w wc))
     case first =>
      have H := HC17.out
      clear HC17; by_cases c22 : t206 = t210
      ·rw [if_pos c22] at H; have c22b0 : (t206 == t210) = true := beq_iff_eq.mpr c22; have c22b1 : (t206 != t210) = false := bne_eq_false_iff_eq.mpr c22; clear c22
       (first | rw [c22b0] | (simp only [i64_w, i32_w]; rw [c22b0]) | skip)
       replace H := Option.bind_eq_some_iff.mp H; obtain ⟨t213, A230, H⟩ := H
       replace H : (if t213 = true then ((selvedgelaw20_sameLevels.f y202 l1).bind fun t214 => (selvedgelaw20_OrderResets.j1 kj5 l1 y202 t205 (!t214))) else (selvedgelaw20_OrderResets.j1 kj5 l1 y202 t205 true)) = some r := H
       have A23 := Aside0.mk A230; clear A230; by_cases c24 : t213 = true
       ·subst c24
        have H1 : ((selvedgelaw20_sameLevels.f y202 l1).bind fun t214 => (selvedgelaw20_OrderResets.j1 kj5 l1 y202 t205 (!t214))) = some r := by rw [if_pos rfl] at H; exact H
        clear H
        have H := H1
        clear H1; replace H := Option.bind_eq_some_iff.mp H; obtain ⟨t214, A250, H⟩ := H
        replace H : (selvedgelaw20_OrderResets.j1 kj5 l1 y202 t205 (!t214)) = some r := H
        have A25 := Aside0.mk A250; clear A250
        have H' := Aside0.mk H
        clear H
        obtain ⟨Ao26, co26, eo26⟩ := Kd.R_slice HO208.out
        subst eo26
        obtain ⟨Ao27, co27, eo27⟩ := Kd.R_slice HO212.out
        subst eo27
        go_wp2_with (first | (go_at_call 14; (with_reducible refine (selvedgelaw20_sameLevels.calls _ _ t205 _ _ t209 true _ ?side1 ?side2 ?side3 ?side4 A23.out).mono ?_); (case side1 => repeat (first | exact (Kd.R_reads' HO208.out).2.2 | (with_reducible refine Kd.C_alloc ?_ _) | (with_reducible refine Kd.C_drewN ?_ _) | (with_reducible refine Kd.C_drew ?_))); (case side2 => exact (Kd.R_reads' HO208.out).2.1); (case side3 => repeat (first | exact (Kd.R_reads' HO212.out).2.2 | (with_reducible refine Kd.C_alloc ?_ _) | (with_reducible refine Kd.C_drewN ?_ _) | (with_reducible refine Kd.C_drew ?_))); (case side4 => exact (Kd.R_reads' HO212.out).2.1); rintro e w' ⟨rfl, ⟨nd, rfl⟩⟩) | (go_at_call 14; (with_reducible refine (selvedgelaw20_sameLevels.calls _ _ y202 _ _ l1 t214 _ ?side1 ?side2 ?side3 ?side4 A25.out).mono ?_); (case side1 => repeat (first | exact (Kd.R_reads' HO204.out).2.2 | (with_reducible refine Kd.C_alloc ?_ _) | (with_reducible refine Kd.C_drewN ?_ _) | (with_reducible refine Kd.C_drew ?_))); (case side2 => exact (Kd.R_reads' HO204.out).2.1); (case side3 => repeat (first | exact (Kd.C_below HR1.out (BB HB)) | (with_reducible refine Kd.C_alloc ?_ _) | (with_reducible refine Kd.C_drewN ?_ _) | (with_reducible refine Kd.C_drew ?_))); (case side4 => exact HC1.out); rintro e w' ⟨rfl, ⟨nd, rfl⟩⟩))
        go_meet
        case rel => exact ⟨_, (!t214), (by first | rfl | (simp; done) | (simp [*]; done)), H', ⟨by have := HJ5.out; first | omega | exact Nat.le_refl _⟩, ⟨by (with_reducible repeat (first | apply Kd.R_alloc | apply Kd.R_drewN | apply Kd.R_drew)); exact Kd.R_mono HO204.out (fun _ hk => hk.1.2)⟩, ⟨by (with_reducible repeat (first | apply Kd.R_alloc | apply Kd.R_drewN | apply Kd.R_drew)); exact Kd.R_mono HO208.out (fun _ hk => hk.1.2)⟩, ⟨BB HB⟩⟩
       ·replace c24 := Bool.eq_false_iff.mpr c24
        subst c24
        have H1 : (selvedgelaw20_OrderResets.j1 kj5 l1 y202 t205 true) = some r := by rw [if_neg (show ¬ (false = true) by decide)] at H; exact H
        clear H
        have H := H1
        clear H1
        have H' := Aside0.mk H
        clear H
        obtain ⟨Ao28, co28, eo28⟩ := Kd.R_slice HO208.out
        subst eo28
        obtain ⟨Ao29, co29, eo29⟩ := Kd.R_slice HO212.out
        subst eo29
        go_wp2_with (first | (go_at_call 14; (with_reducible refine (selvedgelaw20_sameLevels.calls _ _ t205 _ _ t209 false _ ?side1 ?side2 ?side3 ?side4 A23.out).mono ?_); (case side1 => repeat (first | exact (Kd.R_reads' HO208.out).2.2 | (with_reducible refine Kd.C_alloc ?_ _) | (with_reducible refine Kd.C_drewN ?_ _) | (with_reducible refine Kd.C_drew ?_))); (case side2 => exact (Kd.R_reads' HO208.out).2.1); (case side3 => repeat (first | exact (Kd.R_reads' HO212.out).2.2 | (with_reducible refine Kd.C_alloc ?_ _) | (with_reducible refine Kd.C_drewN ?_ _) | (with_reducible refine Kd.C_drew ?_))); (case side4 => exact (Kd.R_reads' HO212.out).2.1); rintro e w' ⟨rfl, ⟨nd, rfl⟩⟩))
        go_meet
        case rel => exact ⟨_, (true), (by first | rfl | (simp; done) | (simp [*]; done)), H', ⟨by have := HJ5.out; first | omega | exact Nat.le_refl _⟩, ⟨by (with_reducible repeat (first | apply Kd.R_alloc | apply Kd.R_drewN | apply Kd.R_drew)); exact Kd.R_mono HO204.out (fun _ hk => hk.1.2)⟩, ⟨by (with_reducible repeat (first | apply Kd.R_alloc | apply Kd.R_drewN | apply Kd.R_drew)); exact Kd.R_mono HO208.out (fun _ hk => hk.1.2)⟩, ⟨BB HB⟩⟩
      ·rw [if_neg c22] at H; have c22b0 : (t206 == t210) = false := beq_eq_false_iff_ne.mpr c22; have c22b1 : (t206 != t210) = true := bne_iff_ne.mpr c22
       (first | rw [c22b0] | (simp only [i64_w, i32_w]; rw [c22b0]) | skip)
       have H' := Aside0.mk H
       clear H
       go_wp2
       go_meet
       case rel => exact ⟨_, (true), (by first | rfl | (simp; done) | (simp [*]; done)), H', ⟨by have := HJ5.out; first | omega | exact Nat.le_refl _⟩, ⟨by (with_reducible repeat (first | apply Kd.R_alloc | apply Kd.R_drewN | apply Kd.R_drew)); exact Kd.R_mono HO204.out (fun _ hk => hk.1.2)⟩, ⟨by (with_reducible repeat (first | apply Kd.R_alloc | apply Kd.R_drewN | apply Kd.R_drew)); exact Kd.R_mono HO208.out (fun _ hk => hk.1.2)⟩, ⟨BB HB⟩⟩
     case rest =>
      clear HC17; (try clear c1); (try clear c2); (try clear p2); (try clear c3); (try clear c7); (try clear c7b0); (try clear c7b1); (try clear c8); (try clear c8b0); (try clear c8b1); (try clear c9); (try clear c9b0); (try clear c9b1); (try clear c10); (try clear c10b0); (try clear c10b1); (try clear c11); (try clear c12); (try clear c13); (try clear c14); (try clear c22); (try clear c22b0); (try clear c22b1); (try clear c24); (try clear p2)
      obtain ⟨kq, x73_16, rfl, HA, HJ16, HO_11, HO_12, HB⟩ := hcut
      cases kq with
      | zero => exact absurd HA.out (by simp [selvedgelaw20_OrderResets.j1])
      | succ kj16 =>
       have H := HA.out
       clear HA
       simp only [selvedgelaw20_OrderResets.j1] at H
       by_cases c30 : x73_16 = true
       ·subst c30
        have H1 : (some false) = some r := by rw [if_pos rfl] at H; exact H
        clear H
        have H := H1
        clear H1; obtain rfl := Option.some.inj H
        go_wp2
        go_ret
        exact ⟨FF, BB HB⟩
       ·replace c30 := Bool.eq_false_iff.mpr c30
        subst c30
        have H1 : (selvedgelaw20_OrderResets.l0 kj16 l1 y202 t205 0) = some r := by rw [if_neg (show ¬ (false = true) by decide)] at H; exact H
        clear H
        have H := H1
        clear H1
        have H' := Aside0.mk H
        clear H
        go_wp2
        go_loopg [16] kj16 (fun kq v16 w' => ∃ (x12_3 : List Int) (x16_3 : Int), v16 = .int .i64 x16_3 ∧ Aside0 (selvedgelaw20_OrderResets.l0 kq l1 y202 x12_3 x16_3 = some r) ∧ Aside0 (kq ≤ kj16) ∧ Aside0 (Kd.R (Kd.int .u8) 5 w' w.heap.size (fun k_ => some k_ ≠ (v207 : Value).ownBlock) (.slice Ao19 y202.length co19) y202) ∧ Aside0 (Kd.R (Kd.int .u8) 5 w' w.heap.size (fun k_ => some k_ ≠ ((.slice Ao19 y202.length co19) : Value).ownBlock) v207 x12_3) ∧ Aside0 (Below w.heap.size w w'))
        case atStart => exact ⟨(t205), (0), (by first | rfl | (simp; done) | (simp [*]; done)), H', ⟨Nat.le_refl _⟩, ⟨RR HO_11⟩, ⟨RR HO_12⟩, ⟨BB HB⟩⟩
        case round =>
         clear H'
         (try clear c1); (try clear c2); (try clear p2); (try clear c3); (try clear c7); (try clear c7b0); (try clear c7b1); (try clear c8); (try clear c8b0); (try clear c8b1); (try clear c9); (try clear c9b0); (try clear c9b1); (try clear c10); (try clear c10b0); (try clear c10b1); (try clear c11); (try clear c12); (try clear c13); (try clear c14); (try clear c22); (try clear c22b0); (try clear c22b1); (try clear c24); (try clear c30); (try clear p2)
         obtain ⟨x12_3, x16_3, rfl, HA, HK3, HO_11, HO_12, HB⟩ := hrel
         cases gk with
         | zero => exact absurd HA.out (by simp [selvedgelaw20_OrderResets.l0])
         | succ k3 =>
          have H := HA.out
          clear HA
          simp only [selvedgelaw20_OrderResets.l0] at H
          by_cases c31 : x16_3 < (x12_3.length : Int)
          ·rw [if_pos c31] at H; have c31b0 : decide (x16_3 < (x12_3.length : Int)) = true := decide_eq_true c31; clear c31; by_cases c32 : 0 ≤ x16_3
           ·rw [if_pos c32] at H; have c32b0 : decide (0 ≤ x16_3) = true := decide_eq_true c32; clear c32
            obtain ⟨y215, hy215⟩ : ∃ y_ : List Int, y_ = (x12_3.set (x16_3 : Int).toNat 99) := ⟨_, rfl⟩
            replace H : (selvedgelaw20_OrderResets.l0 k3 l1 y202 y215 (wrap64 (x16_3 + 1))) = some r := by first | (rw [hy215]; with_reducible exact H) | (have H2_ := (Option.bind_some _ _).symm.trans H; rw [hy215]; with_reducible exact H2_) | (have H2_ := (Option.bind_some _ _).symm.trans H; with_reducible exact H2_) | with_reducible exact H | (rw [hy215]; exact H) | exact H
            have Ny215 := Aside0.mk hy215; clear hy215
            have H' := Aside0.mk H
            clear H
            obtain ⟨Ao34, co34, eo34⟩ := Kd.R_slice HO_12.out
            subst eo34
            have p33 : 0 ≤ (x16_3 : Int) := of_decide_eq_true (by first | (with_reducible assumption) | assumption)
            have q33 : (x16_3 : Int) < ((x12_3.length : Int) : Int) := of_decide_eq_true (by first | (with_reducible assumption) | assumption)
            obtain ⟨go33, co33, eo33, gb33, gl33, cl33, HG33⟩ := Kd.R_form HO_12.out (by omega)
            (first | cases eo33 | (injection eo33 with ea_ en_ ec_; (first | subst ea_ | (injection ea_ with ea_; subst ea_)); subst ec_; clear en_))
            have GB33 := Aside0.mk gb33; have GG33 := Aside0.mk HG33; clear gb33 gl33 HG33
            obtain ⟨hx33_0, hf33_0⟩ := Kd.R_celln 0 HO_12.out (x16_3 : Int) p33 q33
            replace p33 := eq_true p33; replace q33 := eq_true q33
            have HP35 := Kd.R_putg HO_12.out (x16_3 : Int) 99
            go_wp2_with (first | ((with_reducible refine gate_store (t := 5) (p := 82) rfl ?_); refine store_event (t := 5) (p := 82) (v := ?vo_w36) (w1 := (wr.setCell ⟨go33, (x16_3 : Int).toNat, none⟩ (.int .u8 99))) ?hg ?ho ?hn ?hr ?_; (case ho => rfl); (case hg => rfl); (case hn => rfl); (case hr => first | (go_simp; done) | (go_simp; rfl)); intro w36 hw; have hg : wr.grownBy w36 (some go33) := (by rw [hw]; exact HP35.2); have hp_ : Kd.R (Kd.int .u8) 5 w36 w.heap.size (fun k_ => some k_ ≠ (.slice Ao19 y202.length co19 : Value).ownBlock) (.slice (some ⟨go33, 0, none⟩) x12_3.length co34) y215 := (by rw [hw, Ny215.out]; exact HP35.1); clear HP35; have n0_ := Aside0.mk (Kd.R_after (v := (.slice (some ⟨go33, 0, none⟩) x12_3.length co34)) (v1 := (.slice (some ⟨go33, 0, none⟩) x12_3.length co34)) (ok := (fun _ => True)) (by (with_reducible repeat (first | apply Kd.R_alloc | apply Kd.R_drewN | apply Kd.R_drew)); exact Kd.R_mono HO_11.out (fun _ hk => ⟨trivial, hk⟩)) hg (.inl rfl)); have n1_ := Aside0.mk (hp_); have n2_ := Aside0.mk ((by rw [hw]; exact below_set (HB.out) GB33.out : Below w.heap.size w w36)); clear HO_11; clear HO_12; clear HB; have HO_11 := n0_; have HO_12 := n1_; have HB := n2_; clear n0_ n1_ n2_; clear hg hw hp_))
            go_roundg k3
            case measure => have := HJ5.out; have := HJ16.out; have := HK3.out; omega
            case rel => exact ⟨(y215), (wrap64 (x16_3 + 1)), (by first | rfl | (simp; done) | (simp [*]; done)), H', ⟨by have := HJ5.out; have := HJ16.out; have := HK3.out; omega⟩, ⟨by (with_reducible repeat (first | apply Kd.R_alloc | apply Kd.R_drewN | apply Kd.R_drew)); exact Kd.R_mono HO_11.out (fun _ hk => hk.2)⟩, ⟨RR HO_12⟩, ⟨BB HB⟩⟩
           ·rw [if_neg c32] at H
            exact absurd H (by simp)
          ·rw [if_neg c31] at H; have c31b0 : decide (x16_3 < (x12_3.length : Int)) = false := decide_eq_false c31; clear c31; replace H := Option.bind_eq_some_iff.mp H; obtain ⟨t216, A370, H⟩ := H
           replace H : (if t216 = true then ((selvedgelaw20_works.f k3).bind fun t217 => (some t217)) else (some false)) = some r := H
           have A37 := Aside0.mk A370; clear A370; by_cases c38 : t216 = true
           ·subst c38
            have H1 : ((selvedgelaw20_works.f k3).bind fun t217 => (some t217)) = some r := by rw [if_pos rfl] at H; exact H
            clear H
            have H := H1
            clear H1; replace H := Option.bind_eq_some_iff.mp H; obtain ⟨t217, A390, H⟩ := H
            replace H : (some t217) = some r := H
            have A39 := Aside0.mk A390; clear A390; obtain rfl := Option.some.inj H
            obtain ⟨Ao40, co40, eo40⟩ := Kd.R_slice HO_12.out
            subst eo40
            go_wp2_with (first | ((with_reducible refine gate_callee (f := 14) rfl ?_); refine goesL_ (some 85) rfl rfl Tryd.func14 (by kernel_rfl) rfl #[.slice Ao19 y202.length co19, .slice A1 l1.length c1] rfl (by (try simp only [List.map_toArray, List.map_cons, List.map_nil]); first | done | rfl | (simp only [List.length_drop, List.length_take]; rfl)) ?_; (with_reducible refine (selvedgelaw20_sameLevels.calls _ _ y202 _ _ l1 true _ ?side1 ?side2 ?side3 ?side4 A37.out).mono ?_); (case side1 => repeat (first | exact (Kd.R_reads' HO_11.out).2.2 | (with_reducible refine Kd.C_alloc ?_ _) | (with_reducible refine Kd.C_drewN ?_ _) | (with_reducible refine Kd.C_drew ?_))); (case side2 => exact (Kd.R_reads' HO_11.out).2.1); (case side3 => repeat (first | exact (Kd.C_below HR1.out HB.out) | (with_reducible refine Kd.C_alloc ?_ _) | (with_reducible refine Kd.C_drewN ?_ _) | (with_reducible refine Kd.C_drew ?_))); (case side4 => exact HC1.out); rintro e w' ⟨rfl, ⟨nd, rfl⟩⟩; refine ⟨_, rfl, ?_⟩) | (go_at_call 11; (with_reducible refine (selvedgelaw20_works.calls k3  t217 _ A39.out).mono ?_); rintro e w41 ⟨rfl, hb⟩; have n0_ := Aside0.mk (Kd.R_below (RR HO_11) hb); have n1_ := Aside0.mk (Kd.R_below (RR HO_12) hb); have n2_ := Aside0.mk (below_step (BB HB) hb); clear HO_11; clear HO_12; clear HB; have HO_11 := n0_; have HO_12 := n1_; have HB := n2_; clear n0_ n1_ n2_; (try clear hb); (try clear hb2); (try clear hk); (try clear hi)))
            go_ret
            exact ⟨FF, BB HB⟩
           ·replace c38 := Bool.eq_false_iff.mpr c38
            subst c38
            have H1 : (some false) = some r := by rw [if_neg (show ¬ (false = true) by decide)] at H; exact H
            clear H
            have H := H1
            clear H1; obtain rfl := Option.some.inj H
            obtain ⟨Ao42, co42, eo42⟩ := Kd.R_slice HO_12.out
            subst eo42
            go_wp2_with (first | ((with_reducible refine gate_callee (f := 14) rfl ?_); refine goesL_ (some 85) rfl rfl Tryd.func14 (by kernel_rfl) rfl #[.slice Ao19 y202.length co19, .slice A1 l1.length c1] rfl (by (try simp only [List.map_toArray, List.map_cons, List.map_nil]); first | done | rfl | (simp only [List.length_drop, List.length_take]; rfl)) ?_; (with_reducible refine (selvedgelaw20_sameLevels.calls _ _ y202 _ _ l1 false _ ?side1 ?side2 ?side3 ?side4 A37.out).mono ?_); (case side1 => repeat (first | exact (Kd.R_reads' HO_11.out).2.2 | (with_reducible refine Kd.C_alloc ?_ _) | (with_reducible refine Kd.C_drewN ?_ _) | (with_reducible refine Kd.C_drew ?_))); (case side2 => exact (Kd.R_reads' HO_11.out).2.1); (case side3 => repeat (first | exact (Kd.C_below HR1.out HB.out) | (with_reducible refine Kd.C_alloc ?_ _) | (with_reducible refine Kd.C_drewN ?_ _) | (with_reducible refine Kd.C_drew ?_))); (case side4 => exact HC1.out); rintro e w' ⟨rfl, ⟨nd, rfl⟩⟩; refine ⟨_, rfl, ?_⟩))
            go_ret
            exact ⟨FF, BB HB⟩
    ·rw [if_neg c14] at H
     exact absurd H (by simp)
def selvedgelaw20_OrderResets.Pure : Prop := ∀ (l0 : List Int) (l1 : List Int) (a2 : Int) (a3 : Int) (a4 : Int), l0.length ≤ maxLen → l0.length * 4 ≤ 140737488351232 → (∀ x ∈ l0, (Lit.int .i32 x).wf = true) → l1.length ≤ maxLen → l1.length * 1 ≤ 140737488351232 → (∀ x ∈ l1, (Lit.int .u8 x).wf = true) → (Lit.int .u8 a2).wf = true → (Lit.int .i64 a3).wf = true → (Lit.int .i64 a4).wf = true → ∃ k, selvedgelaw20_OrderResets.f k l0 l1 a2 a3 a4 = some true
theorem selvedgelaw20_OrderResets.walk (P : selvedgelaw20_OrderResets.Pure) (a0 : Option Addr) (len0 cap0 : Nat) (z0 : List Int) (a1 : Option Addr) (len1 cap1 : Nat) (z1 : List Int) (a2 : Int) (a3 : Int) (a4 : Int) (w : World) (w0 : (a0 = none ∧ len0 = 0 ∧ cap0 = 0 ∧ z0 = []) ∨ ∃ x, a0 = some x ∧ len0 ≤ cap0 ∧ cap0 ≤ maxLen ∧ z0.length = cap0 ∧ (∀ i, i < z0.length → w.cell? (x.add i) = some (.int .i32 (z0.getD i 0))) ∧ ∀ n ∈ z0, (Lit.int .i32 n).wf = true) (y0 : len0 * 4 ≤ 140737488351232) (w1 : (a1 = none ∧ len1 = 0 ∧ cap1 = 0 ∧ z1 = []) ∨ ∃ x, a1 = some x ∧ len1 ≤ cap1 ∧ cap1 ≤ maxLen ∧ z1.length = cap1 ∧ (∀ i, i < z1.length → w.cell? (x.add i) = some (.int .u8 (z1.getD i 0))) ∧ ∀ n ∈ z1, (Lit.int .u8 n).wf = true) (y1 : len1 * 1 ≤ 140737488351232) (w2 : (Lit.int .u8 a2).wf = true) (w3 : (Lit.int .i64 a3).wf = true) (w4 : (Lit.int .i64 a4).wf = true) (hG : LaidW w) :
  Calls Tryd.prog 3 #[.slice a0 len0 cap0, .slice a1 len1 cap1, .int .u8 a2, .int .i64 a3, .int .i64 a4] w fun e w' => e = .returned (.bool true) ∧ Below w.heap.size w w' := by
 obtain ⟨l0, rfl, hr0, hm0, hw0, hc0⟩ := ReadsInt.ofRowC w0
 obtain ⟨l1, rfl, hr1, hm1, hw1, hc1⟩ := ReadsInt.ofRowC w1
 obtain ⟨k, h⟩ := P l0 l1 a2 a3 a4 hm0 y0 hw0 hm1 y1 hw1 w2 w3 w4
 refine (selvedgelaw20_OrderResets.calls k _ _ l0 _ _ l1 a2 a3 a4 true w (Kd.C_of_reads (d := (0 : Int)) (h1 := fun _ => rfl) hr0) hc0 (Kd.C_of_reads (d := (0 : Int)) (h1 := fun _ => rfl) hr1) hc1 h).mono ?_
 rintro e w' ⟨rfl, hd⟩
 exact ⟨rfl, hd⟩
end Go.Proofs.YtgfkbijmchoolaaDoor.P

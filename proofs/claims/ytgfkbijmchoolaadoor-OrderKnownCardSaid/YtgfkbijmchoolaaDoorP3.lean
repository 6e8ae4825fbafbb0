import Derived.Test.YtgfkbijmchoolaaDoorSh
import Derived.Test.YtgfkbijmchoolaaDoorP0
import Derived.Test.YtgfkbijmchoolaaDoorP1
import Derived.Test.YtgfkbijmchoolaaDoorP2
namespace Go.Proofs.YtgfkbijmchoolaaDoor.P
open Go.Proofs.YtgfkbijmchoolaaDoorH Go.Proofs.YtgfkbijmchoolaaDoorSh Go.RowKit Go.Proofs.YtgfkbijmchoolaaDoorW.PrintWords Go.Proofs.YtgfkbijmchoolaaDoorW.PrintLast Go.Proofs.YtgfkbijmchoolaaDoorW.PrintMore
attribute [local go_sem] max2_int min2_int max_two min_two max_three min_three max_four min_four
set_option linter.unusedVariables false
set_option linter.unusedSimpArgs false
mutual
def order_Visual.l0 : Nat → List Int → List Int → Int → Int → Int → Int → Option (List Int × Int)
 | 0, _, _, _, _, _, _ => none
 | k + 1, x0, x5, x6, x7, x21, x22 => if x22 < x21 then (if 0 ≤ x22 then (if x22 < (x5.length : Int) then ((some (x5.set (x22 : Int).toNat x22 : List Int)).bind fun y118 => (if x22 < (x0.length : Int) then (if (Int.tmod (rd x0 x22) 2) = 1 then (order_Visual.l0 k x0 y118 (mx x6 (rd x0 x22)) (mn x7 (rd x0 x22)) x21 (wrap64 (x22 + 1))) else (order_Visual.l0 k x0 y118 (mx x6 (rd x0 x22)) x7 x21 (wrap64 (x22 + 1)))) else (none))) else (none)) else (none)) else (order_Visual.l1 k x0 x5 x7 x6)
def order_Visual.l1 : Nat → List Int → List Int → Int → Int → Option (List Int × Int)
 | 0, _, _, _, _ => none
 | k + 1, x0, x5, x7, x9 => if x9 ≥ x7 then (order_Visual.l2 k x0 x5 x7 x9 0) else (some (x5, 0))
def order_Visual.l2 : Nat → List Int → List Int → Int → Int → Int → Option (List Int × Int)
 | 0, _, _, _, _, _ => none
 | k + 1, x0, x5, x7, x9, x10 => if x10 < (x0.length : Int) then (order_Visual.l3 k x0 x5 x7 x9 x10 x10) else (order_Visual.l1 k x0 x5 x7 ((x9 - 1) % 256))
def order_Visual.l3 : Nat → List Int → List Int → Int → Int → Int → Int → Option (List Int × Int)
 | 0, _, _, _, _, _, _ => none
 | k + 1, x0, x5, x7, x9, x10, x11 => if x11 < (x0.length : Int) then (if 0 ≤ x11 then (if (rd x0 x11) ≥ x9 then (order_Visual.l3 k x0 x5 x7 x9 x10 (wrap64 (x11 + 1))) else (if 0 ≤ x10 then (if x10 ≤ x11 then (if x11 ≤ (x5.length : Int) then (order_Visual.l2 k x0 (revPart x5 (x10 : Int).toNat (x11 : Int).toNat) x7 x9 (wrap64 (x11 + 1))) else (none)) else (none)) else (none))) else (none)) else (if 0 ≤ x10 then (if x10 ≤ x11 then (if x11 ≤ (x5.length : Int) then (order_Visual.l2 k x0 (revPart x5 (x10 : Int).toNat (x11 : Int).toNat) x7 x9 (wrap64 (x11 + 1))) else (none)) else (none)) else (none))
end
def order_Visual.f (k : Nat) (l0 : List Int) : Option (List Int × Int) := (order_right.f k l0).bind fun t114 => (if t114 = 0 then (if 0 ≤ (l0.length : Int) then (if ((l0.length : Int) : Int).toNat ≤ 35184372088832 then ((some (List.replicate ((l0.length : Int) : Int).toNat 0 : List Int)).bind fun y115 => (order_Visual.l0 k l0 y115 0 127 (y115.length : Int) 0)) else (none)) else (none)) else (some (([] : List Int), t114)))
theorem order_Visual.mono_l : ∀ k, (∀ y0 y1 y2 y3 y4 y5, LeO (order_Visual.l0 k y0 y1 y2 y3 y4 y5) (order_Visual.l0 (k + 1) y0 y1 y2 y3 y4 y5)) ∧ (∀ y0 y1 y2 y3, LeO (order_Visual.l1 k y0 y1 y2 y3) (order_Visual.l1 (k + 1) y0 y1 y2 y3)) ∧ (∀ y0 y1 y2 y3 y4, LeO (order_Visual.l2 k y0 y1 y2 y3 y4) (order_Visual.l2 (k + 1) y0 y1 y2 y3 y4)) ∧ (∀ y0 y1 y2 y3 y4 y5, LeO (order_Visual.l3 k y0 y1 y2 y3 y4 y5) (order_Visual.l3 (k + 1) y0 y1 y2 y3 y4 y5))
 | 0 => ⟨fun _ _ _ _ _ _ r h => by simp [order_Visual.l0] at h, fun _ _ _ _ r h => by simp [order_Visual.l1] at h, fun _ _ _ _ _ r h => by simp [order_Visual.l2] at h, fun _ _ _ _ _ _ r h => by simp [order_Visual.l3] at h⟩
 | k + 1 => by
  obtain ⟨ih0, ih1, ih2, ih3⟩ := order_Visual.mono_l k
  refine ⟨?_, ?_, ?_, ?_⟩
  ·intro y0 y1 y2 y3 y4 y5
   unfold order_Visual.l0
   repeat' first
   | (with_reducible exact ih0 _ _ _ _ _ _)
   | (with_reducible exact ih1 _ _ _ _)
   | (with_reducible exact ih2 _ _ _ _ _)
   | (with_reducible exact ih3 _ _ _ _ _ _)
   | (with_reducible exact order_right.mono _ _)
   | (with_reducible exact LeO.refl _)
   | (with_reducible exact LeO.none _)
   | (with_reducible refine LeO.ite ?_ ?_)
   | (with_reducible refine LeO.bind ?_ (fun _ => ?_))
   | exact ih0 _ _ _ _ _ _
   | exact ih1 _ _ _ _
   | exact ih2 _ _ _ _ _
   | exact ih3 _ _ _ _ _ _
   | exact order_right.mono _ _
   | exact LeO.none _
   | refine LeO.ite ?_ ?_
   | refine LeO.bind ?_ (fun _ => ?_)
  ·intro y0 y1 y2 y3
   unfold order_Visual.l1
   repeat' first
   | (with_reducible exact ih0 _ _ _ _ _ _)
   | (with_reducible exact ih1 _ _ _ _)
   | (with_reducible exact ih2 _ _ _ _ _)
   | (with_reducible exact ih3 _ _ _ _ _ _)
   | (with_reducible exact order_right.mono _ _)
   | (with_reducible exact LeO.refl _)
   | (with_reducible exact LeO.none _)
   | (with_reducible refine LeO.ite ?_ ?_)
   | (with_reducible refine LeO.bind ?_ (fun _ => ?_))
   | exact ih0 _ _ _ _ _ _
   | exact ih1 _ _ _ _
   | exact ih2 _ _ _ _ _
   | exact ih3 _ _ _ _ _ _
   | exact order_right.mono _ _
   | exact LeO.none _
   | refine LeO.ite ?_ ?_
   | refine LeO.bind ?_ (fun _ => ?_)
  ·intro y0 y1 y2 y3 y4
   unfold order_Visual.l2
   repeat' first
   | (with_reducible exact ih0 _ _ _ _ _ _)
   | (with_reducible exact ih1 _ _ _ _)
   | (with_reducible exact ih2 _ _ _ _ _)
   | (with_reducible exact ih3 _ _ _ _ _ _)
   | (with_reducible exact order_right.mono _ _)
   | (with_reducible exact LeO.refl _)
   | (with_reducible exact LeO.none _)
   | (with_reducible refine LeO.ite ?_ ?_)
   | (with_reducible refine LeO.bind ?_ (fun _ => ?_))
   | exact ih0 _ _ _ _ _ _
   | exact ih1 _ _ _ _
   | exact ih2 _ _ _ _ _
   | exact ih3 _ _ _ _ _ _
   | exact order_right.mono _ _
   | exact LeO.none _
   | refine LeO.ite ?_ ?_
   | refine LeO.bind ?_ (fun _ => ?_)
  ·intro y0 y1 y2 y3 y4 y5
   unfold order_Visual.l3
   repeat' first
   | (with_reducible exact ih0 _ _ _ _ _ _)
   | (with_reducible exact ih1 _ _ _ _)
   | (with_reducible exact ih2 _ _ _ _ _)
   | (with_reducible exact ih3 _ _ _ _ _ _)
   | (with_reducible exact order_right.mono _ _)
   | (with_reducible exact LeO.refl _)
   | (with_reducible exact LeO.none _)
   | (with_reducible refine LeO.ite ?_ ?_)
   | (with_reducible refine LeO.bind ?_ (fun _ => ?_))
   | exact ih0 _ _ _ _ _ _
   | exact ih1 _ _ _ _
   | exact ih2 _ _ _ _ _
   | exact ih3 _ _ _ _ _ _
   | exact order_right.mono _ _
   | exact LeO.none _
   | refine LeO.ite ?_ ?_
   | refine LeO.bind ?_ (fun _ => ?_)
theorem order_Visual.mono : ∀ a0 k, LeO (order_Visual.f k a0) (order_Visual.f (k + 1) a0) := by
 intro a0 k
 obtain ⟨ih0, ih1, ih2, ih3⟩ := order_Visual.mono_l k
 unfold order_Visual.f
 repeat' first
   | (with_reducible exact ih0 _ _ _ _ _ _)
   | (with_reducible exact ih1 _ _ _ _)
   | (with_reducible exact ih2 _ _ _ _ _)
   | (with_reducible exact ih3 _ _ _ _ _ _)
   | (with_reducible exact order_right.mono _ _)
   | (with_reducible exact LeO.refl _)
   | (with_reducible exact LeO.none _)
   | (with_reducible refine LeO.ite ?_ ?_)
   | (with_reducible refine LeO.bind ?_ (fun _ => ?_))
   | exact ih0 _ _ _ _ _ _
   | exact ih1 _ _ _ _
   | exact ih2 _ _ _ _ _
   | exact ih3 _ _ _ _ _ _
   | exact order_right.mono _ _
   | exact LeO.none _
   | refine LeO.ite ?_ ?_
   | refine LeO.bind ?_ (fun _ => ?_)
set_option maxHeartbeats 80000000 in
set_option maxRecDepth 100000 in
theorem order_Visual.calls (k : Nat) (A0 : Option Addr) (c0 : Nat) (l0 : List Int) (r1 : List Int) (r2 : Int) (w : World) (hr0 : Kd.C (Kd.int .u8) w A0 l0.length l0) (hc0 : l0.length ≤ c0) (h : order_Visual.f k l0 = some (r1, r2)) :
  Calls Tryd.prog 15 #[.slice A0 l0.length c0] w fun e w' => ∃ v0_ : Value, e = .returned (.tuple #[v0_, .int .i64 r2]) ∧ Kd.R (Kd.int .i64) 3 w' w.heap.size (fun _ => True) v0_ r1 ∧ Below w.heap.size w w' := by
 have HR0 := Aside0.mk hr0; have HC0 := Aside0.mk hc0; clear hr0 hc0
 have HB := Aside0.mk (Below.refl w.heap.size w)
 have H : ((order_right.f k l0).bind fun t114 => (if t114 = 0 then (if 0 ≤ (l0.length : Int) then (if ((l0.length : Int) : Int).toNat ≤ 35184372088832 then ((some (List.replicate ((l0.length : Int) : Int).toNat 0 : List Int)).bind fun y115 => (order_Visual.l0 k l0 y115 0 127 (y115.length : Int) 0)) else (none)) else (none)) else (some (([] : List Int), t114)))) = some (r1, r2) := h
 clear h; replace H := Option.bind_eq_some_iff.mp H; obtain ⟨t114, A20, H⟩ := H
 replace H : (if t114 = 0 then (if 0 ≤ (l0.length : Int) then (if ((l0.length : Int) : Int).toNat ≤ 35184372088832 then ((some (List.replicate ((l0.length : Int) : Int).toNat 0 : List Int)).bind fun y115 => (order_Visual.l0 k l0 y115 0 127 (y115.length : Int) 0)) else (none)) else (none)) else (some (([] : List Int), t114))) = some (r1, r2) := H
 have A2 := Aside0.mk A20; clear A20; by_cases c3 : t114 = 0
 ·rw [if_pos c3] at H; have c3b0 : (t114 == 0) = true := beq_iff_eq.mpr c3; have c3b1 : (t114 != 0) = false := bne_eq_false_iff_eq.mpr c3; clear c3; by_cases c4 : 0 ≤ (l0.length : Int)
  ·rw [if_pos c4] at H
   have c4b0 := eq_true c4
   have c4b1 : decide (0 ≤ (l0.length : Int)) = true := decide_eq_true c4; clear c4; by_cases c5 : ((l0.length : Int) : Int).toNat ≤ 35184372088832
   ·rw [if_pos c5] at H
    have c5b0 := eq_true c5
    have c5b1 : decide (((l0.length : Int) : Int).toNat ≤ 35184372088832) = true := decide_eq_true c5; clear c5
    obtain ⟨y115, hy115⟩ : ∃ y_ : List Int, y_ = (List.replicate ((l0.length : Int) : Int).toNat 0) := ⟨_, rfl⟩
    replace H : (order_Visual.l0 k l0 y115 0 127 (y115.length : Int) 0) = some (r1, r2) := by first | (rw [hy115]; with_reducible exact H) | (have H2_ := (Option.bind_some _ _).symm.trans H; rw [hy115]; with_reducible exact H2_) | (have H2_ := (Option.bind_some _ _).symm.trans H; with_reducible exact H2_) | with_reducible exact H | (rw [hy115]; exact H) | exact H
    have Ny115 := Aside0.mk hy115; clear hy115
    have H' := Aside0.mk H
    clear H
    go_enter Tryd.func15, Tryd.ntmps15
    go_wp2_with (first | ((with_reducible refine gate_callee (f := 25) rfl ?_); refine goesL_ (some 13) rfl rfl Tryd.func25 (by kernel_rfl) rfl #[.slice A0 l0.length c0] rfl (by (try simp only [List.map_toArray, List.map_cons, List.map_nil]); first | done | rfl | (simp only [List.length_drop, List.length_take]; rfl)) ?_; (with_reducible refine (order_right.calls k _ _ l0 t114 _ ?side1 ?side2 A2.out).mono ?_); (case side1 => repeat (first | exact HR0.out | (with_reducible refine Kd.C_alloc ?_ _) | (with_reducible refine Kd.C_drewN ?_ _) | (with_reducible refine Kd.C_drew ?_))); (case side2 => exact HC0.out); rintro e w6 ⟨rfl, hb⟩; refine ⟨_, rfl, ?_⟩; have n0_ := Aside0.mk (below_step (BB HB) hb); clear HB; have HB := n0_; clear n0_; (try clear hb); (try clear hb2); (try clear hk); (try clear hi)) | ((with_reducible refine gate_dst (N := 19) rfl ?_); refine Kd.R_make (Kd.int .i64) _ 3 rfl (N := 19) rfl 30 _ _ rfl (l0.length : Int) rfl rfl Tryd.underlying30 (.int .i64 0) 8 info3 rfl (by decide) (by omega) 0 (ok := fun _ => True) (okp := fun _ => True) rfl (fun _ hk => hk) trivial (of_decide_eq_true (by first | (with_reducible assumption) | assumption)) (Nat.le_trans (Nat.mul_le_mul_right _ (of_decide_eq_true (by first | (with_reducible assumption) | assumption) : (l0.length : Int).toNat ≤ 35184372088832)) (by omega)) (Below.refl _ _) (Nat.le_refl _) ?_; intro v116 w7 ho8 hb hg_ hnew_; clear hg_ hnew_; (first | rw [← Ny115.out] at ho8 | (simp only [Int.reduceToNat] at ho8; rw [← Ny115.out] at ho8)); have n0_ := Aside0.mk (Kd.R_lower ho8 (below_size (BB HB))); have n1_ := Aside0.mk (below_step (BB HB) hb); clear HB; have HO117 := n0_; have HB := n1_; clear n0_ n1_; clear hb ho8; obtain ⟨Ao9, co9, eo9⟩ := Kd.R_slice HO117.out; subst eo9))
    go_loopg [6, 7, 22] k (fun kq v6 v7 v22 w' => ∃ (x5_1 : List Int) (x6_1 : Int) (x7_1 : Int) (x22_1 : Int), v6 = .int .u8 x6_1 ∧ v7 = .int .u8 x7_1 ∧ v22 = .int .i64 x22_1 ∧ Aside0 (order_Visual.l0 kq l0 x5_1 x6_1 x7_1 (y115.length : Int) x22_1 = some (r1, r2)) ∧ Aside0 (kq ≤ k) ∧ Aside0 (Kd.R (Kd.int .i64) 3 w' w.heap.size (fun _ => True) (.slice Ao9 y115.length co9) x5_1) ∧ Aside0 (Below w.heap.size w w'))
    case atStart => exact ⟨(y115), (0), (127), (0), (by first | rfl | (simp; done) | (simp [*]; done)), (by first | rfl | (simp; done) | (simp [*]; done)), (by first | rfl | (simp; done) | (simp [*]; done)), H', ⟨Nat.le_refl _⟩, ⟨RR HO117⟩, ⟨BB HB⟩⟩
    case round =>
     clear H'
     (try clear c1); (try clear c2); (try clear p2); (try clear c3); (try clear c3b0); (try clear c3b1); (try clear c4); (try clear c4b0); (try clear c4b1); (try clear c5); (try clear c5b0); (try clear c5b1)
     obtain ⟨x5_1, x6_1, x7_1, x22_1, rfl, rfl, rfl, HA, HK1, HO_5, HB⟩ := hrel
     have hl5_1 := (Kd.R_reads' HO_5.out).1
     rw [hl5_1] at HO_5
     (try simp only [hl5_1])
     cases gk with
     | zero => exact absurd HA.out (by simp [order_Visual.l0])
     | succ k1 =>
      have H := HA.out
      clear HA
      simp only [order_Visual.l0] at H
      by_cases c10 : x22_1 < (y115.length : Int)
      ·rw [if_pos c10] at H; have c10b0 : decide (x22_1 < (y115.length : Int)) = true := decide_eq_true c10
       (try (have c10b0q := c10b0; simp only [hl5_1] at c10b0q))
       clear c10; by_cases c11 : 0 ≤ x22_1
       ·rw [if_pos c11] at H; have c11b0 : decide (0 ≤ x22_1) = true := decide_eq_true c11; clear c11; by_cases c12 : x22_1 < (x5_1.length : Int)
        ·rw [if_pos c12] at H; have c12b0 : decide (x22_1 < (x5_1.length : Int)) = true := decide_eq_true c12; clear c12
         obtain ⟨y118, hy118⟩ : ∃ y_ : List Int, y_ = (x5_1.set (x22_1 : Int).toNat x22_1) := ⟨_, rfl⟩
         replace H : (if x22_1 < (l0.length : Int) then (if (Int.tmod (rd l0 x22_1) 2) = 1 then (order_Visual.l0 k1 l0 y118 (mx x6_1 (rd l0 x22_1)) (mn x7_1 (rd l0 x22_1)) (y115.length : Int) (wrap64 (x22_1 + 1))) else (order_Visual.l0 k1 l0 y118 (mx x6_1 (rd l0 x22_1)) x7_1 (y115.length : Int) (wrap64 (x22_1 + 1)))) else (none)) = some (r1, r2) := by first | (rw [hy118]; with_reducible exact H) | (have H2_ := (Option.bind_some _ _).symm.trans H; rw [hy118]; with_reducible exact H2_) | (have H2_ := (Option.bind_some _ _).symm.trans H; with_reducible exact H2_) | with_reducible exact H | (rw [hy118]; exact H) | exact H
         have Ny118 := Aside0.mk hy118; clear hy118; by_cases c14 : x22_1 < (l0.length : Int)
         ·rw [if_pos c14] at H; have c14b0 : decide (x22_1 < (l0.length : Int)) = true := decide_eq_true c14; clear c14
          obtain ⟨ji15, hji15⟩ : ∃ j_ : Int, (mx x6_1 (rd l0 x22_1)) = j_ := ⟨_, rfl⟩
          replace H : (if (Int.tmod (rd l0 x22_1) 2) = 1 then (order_Visual.l0 k1 l0 y118 ji15 (mn x7_1 (rd l0 x22_1)) (y115.length : Int) (wrap64 (x22_1 + 1))) else (order_Visual.l0 k1 l0 y118 ji15 x7_1 (y115.length : Int) (wrap64 (x22_1 + 1)))) = some (r1, r2) := by first | (rw [hji15] at H; exact H) | (simp only [hji15] at H ⊢; exact H)
          have hji15_ : (if x6_1 < (rd l0 x22_1) then (rd l0 x22_1) else x6_1) = ji15 := hji15
          by_cases c16 : (Int.tmod (rd l0 x22_1) 2) = 1
          ·rw [if_pos c16] at H; have c16b0 : ((Int.tmod (rd l0 x22_1) 2) == 1) = true := beq_iff_eq.mpr c16; have c16b1 : ((Int.tmod (rd l0 x22_1) 2) != 1) = false := bne_eq_false_iff_eq.mpr c16; clear c16
           obtain ⟨ji17, hji17⟩ : ∃ j_ : Int, (mn x7_1 (rd l0 x22_1)) = j_ := ⟨_, rfl⟩
           replace H : (order_Visual.l0 k1 l0 y118 ji15 ji17 (y115.length : Int) (wrap64 (x22_1 + 1))) = some (r1, r2) := by first | (rw [hji17] at H; exact H) | (simp only [hji17] at H ⊢; exact H)
           have hji17_ : (if (rd l0 x22_1) < x7_1 then (rd l0 x22_1) else x7_1) = ji17 := hji17
           have H' := Aside0.mk H
           clear H
           have p13 : 0 ≤ (x22_1 : Int) := of_decide_eq_true (by first | (with_reducible assumption) | assumption)
           have q13 : (x22_1 : Int) < ((x5_1.length : Int) : Int) := of_decide_eq_true (by first | (with_reducible assumption) | assumption)
           obtain ⟨go13, co13, eo13, gb13, gl13, cl13, HG13⟩ := Kd.R_form HO_5.out (by omega)
           (first | cases eo13 | (injection eo13 with ea_ en_ ec_; (first | subst ea_ | (injection ea_ with ea_; subst ea_)); subst ec_; clear en_))
           have GB13 := Aside0.mk gb13; have GG13 := Aside0.mk HG13; clear gb13 gl13 HG13
           obtain ⟨hx13_0, hf13_0⟩ := Kd.R_celln 0 HO_5.out (x22_1 : Int) p13 q13
           replace p13 := eq_true p13; replace q13 := eq_true q13
           have HP18 := Kd.R_putg HO_5.out (x22_1 : Int) x22_1
           go_wp2_with (first | ((with_reducible refine gate_store (t := 3) (p := 28) rfl ?_); refine store_event (t := 3) (p := 28) (v := ?vo_w19) (w1 := (wr.setCell ⟨go13, (x22_1 : Int).toNat, none⟩ (.int .i64 x22_1))) ?hg ?ho ?hn ?hr ?_; (case ho => rfl); (case hg => rfl); (case hn => rfl); (case hr => first | (go_simp; done) | (go_simp; rfl)); intro w19 hw; have hg : wr.grownBy w19 (some go13) := (by rw [hw]; exact HP18.2); have hp_ : Kd.R (Kd.int .i64) 3 w19 w.heap.size (fun _ => True) (.slice (some ⟨go13, 0, none⟩) x5_1.length co9) y118 := (by rw [hw, Ny118.out]; exact HP18.1); clear HP18; have n0_ := Aside0.mk (hp_); have n1_ := Aside0.mk ((by rw [hw]; exact below_set (HB.out) GB13.out : Below w.heap.size w w19)); clear HO_5; clear HB; have HO_5 := n0_; have HB := n1_; clear n0_ n1_; clear hg hw hp_; have p119 : 0 ≤ (x22_1 : Int) := of_decide_eq_true (by first | (with_reducible assumption) | assumption); have q119 : x22_1 < (l0.length : Int) := of_decide_eq_true (by first | (with_reducible assumption) | assumption); obtain ⟨ad119, e119, hx119_0⟩ := Kd.at_int HR0.out x22_1 p119 q119; cases e119; replace hx119_0 := (HB.out.cell (World.block_lt_of_cell? w _ hx119_0)).trans hx119_0; replace p119 := eq_true p119; replace q119 := eq_true q119; have p120 : 0 ≤ (x22_1 : Int) := of_decide_eq_true (by first | (with_reducible assumption) | assumption); have q120 : x22_1 < (l0.length : Int) := of_decide_eq_true (by first | (with_reducible assumption) | assumption); obtain ⟨ad120, e120, hx120_0⟩ := Kd.at_int HR0.out x22_1 p120 q120; obtain rfl : ad119 = ad120 := (by injection e120); replace hx120_0 := (HB.out.cell (World.block_lt_of_cell? w _ hx120_0)).trans hx120_0; replace p120 := eq_true p120; replace q120 := eq_true q120; have p121 : 0 ≤ (x22_1 : Int) := of_decide_eq_true (by first | (with_reducible assumption) | assumption); have q121 : x22_1 < (l0.length : Int) := of_decide_eq_true (by first | (with_reducible assumption) | assumption); obtain ⟨ad121, e121, hx121_0⟩ := Kd.at_int HR0.out x22_1 p121 q121; obtain rfl : ad119 = ad121 := (by injection e121); replace hx121_0 := (HB.out.cell (World.block_lt_of_cell? w _ hx121_0)).trans hx121_0; replace p121 := eq_true p121; replace q121 := eq_true q121))
           (try simp only [← hl5_1])
           go_roundg k1
           case measure => have := HK1.out; omega
           case rel => exact ⟨(y118), (ji15), (ji17), (wrap64 (x22_1 + 1)), (by first | rfl | (simp; done) | (simp only [← hji15] <;> (first | rfl | simp)) | (simp [*]; done)), (by first | rfl | (simp; done) | (simp only [← hji17] <;> (first | rfl | simp)) | (simp [*]; done)), (by first | rfl | (simp; done) | (simp [*]; done)), H', ⟨by have := HK1.out; omega⟩, ⟨by (try simp only [hl5_1]); exact RR HO_5⟩, ⟨BB HB⟩⟩
          ·rw [if_neg c16] at H; have c16b0 : ((Int.tmod (rd l0 x22_1) 2) == 1) = false := beq_eq_false_iff_ne.mpr c16; have c16b1 : ((Int.tmod (rd l0 x22_1) 2) != 1) = true := bne_iff_ne.mpr c16
           have H' := Aside0.mk H
           clear H
           have p13 : 0 ≤ (x22_1 : Int) := of_decide_eq_true (by first | (with_reducible assumption) | assumption)
           have q13 : (x22_1 : Int) < ((x5_1.length : Int) : Int) := of_decide_eq_true (by first | (with_reducible assumption) | assumption)
           obtain ⟨go13, co13, eo13, gb13, gl13, cl13, HG13⟩ := Kd.R_form HO_5.out (by omega)
           (first | cases eo13 | (injection eo13 with ea_ en_ ec_; (first | subst ea_ | (injection ea_ with ea_; subst ea_)); subst ec_; clear en_))
           have GB13 := Aside0.mk gb13; have GG13 := Aside0.mk HG13; clear gb13 gl13 HG13
           obtain ⟨hx13_0, hf13_0⟩ := Kd.R_celln 0 HO_5.out (x22_1 : Int) p13 q13
           replace p13 := eq_true p13; replace q13 := eq_true q13
           have HP20 := Kd.R_putg HO_5.out (x22_1 : Int) x22_1
           go_wp2_with (first | ((with_reducible refine gate_store (t := 3) (p := 28) rfl ?_); refine store_event (t := 3) (p := 28) (v := ?vo_w21) (w1 := (wr.setCell ⟨go13, (x22_1 : Int).toNat, none⟩ (.int .i64 x22_1))) ?hg ?ho ?hn ?hr ?_; (case ho => rfl); (case hg => rfl); (case hn => rfl); (case hr => first | (go_simp; done) | (go_simp; rfl)); intro w21 hw; have hg : wr.grownBy w21 (some go13) := (by rw [hw]; exact HP20.2); have hp_ : Kd.R (Kd.int .i64) 3 w21 w.heap.size (fun _ => True) (.slice (some ⟨go13, 0, none⟩) x5_1.length co9) y118 := (by rw [hw, Ny118.out]; exact HP20.1); clear HP20; have n0_ := Aside0.mk (hp_); have n1_ := Aside0.mk ((by rw [hw]; exact below_set (HB.out) GB13.out : Below w.heap.size w w21)); clear HO_5; clear HB; have HO_5 := n0_; have HB := n1_; clear n0_ n1_; clear hg hw hp_; have p119 : 0 ≤ (x22_1 : Int) := of_decide_eq_true (by first | (with_reducible assumption) | assumption); have q119 : x22_1 < (l0.length : Int) := of_decide_eq_true (by first | (with_reducible assumption) | assumption); obtain ⟨ad119, e119, hx119_0⟩ := Kd.at_int HR0.out x22_1 p119 q119; cases e119; replace hx119_0 := (HB.out.cell (World.block_lt_of_cell? w _ hx119_0)).trans hx119_0; replace p119 := eq_true p119; replace q119 := eq_true q119; have p120 : 0 ≤ (x22_1 : Int) := of_decide_eq_true (by first | (with_reducible assumption) | assumption); have q120 : x22_1 < (l0.length : Int) := of_decide_eq_true (by first | (with_reducible assumption) | assumption); obtain ⟨ad120, e120, hx120_0⟩ := Kd.at_int HR0.out x22_1 p120 q120; obtain rfl : ad119 = ad120 := (by injection e120); replace hx120_0 := (HB.out.cell (World.block_lt_of_cell? w _ hx120_0)).trans hx120_0; replace p120 := eq_true p120; replace q120 := eq_true q120))
           (try simp only [← hl5_1])
           go_roundg k1
           case measure => have := HK1.out; omega
           case rel => exact ⟨(y118), (ji15), (x7_1), (wrap64 (x22_1 + 1)), (by first | rfl | (simp; done) | (simp only [← hji15] <;> (first | rfl | simp)) | (simp [*]; done)), (by first | rfl | (simp; done) | (simp [*]; done)), (by first | rfl | (simp; done) | (simp [*]; done)), H', ⟨by have := HK1.out; omega⟩, ⟨by (try simp only [hl5_1]); exact RR HO_5⟩, ⟨BB HB⟩⟩
         ·rw [if_neg c14] at H
          exact absurd H (by simp)
        ·rw [if_neg c12] at H
         exact absurd H (by simp)
       ·rw [if_neg c11] at H
        exact absurd H (by simp)
      ·rw [if_neg c10] at H; have c10b0 : decide (x22_1 < (y115.length : Int)) = false := decide_eq_false c10
       (try (have c10b0q := c10b0; simp only [hl5_1] at c10b0q))
       clear c10
       have H' := Aside0.mk H
       clear H
       go_wp2
       go_loopg [9] k1 (fun kq v9 w' => ∃ (x5_2 : List Int) (x9_2 : Int), v9 = .int .u8 x9_2 ∧ Aside0 (order_Visual.l1 kq l0 x5_2 x7_1 x9_2 = some (r1, r2)) ∧ Aside0 (kq ≤ k1) ∧ Aside0 (Kd.R (Kd.int .i64) 3 w' w.heap.size (fun _ => True) (.slice Ao9 x5_1.length co9) x5_2) ∧ Aside0 (Below w.heap.size w w'))
       case atStart => exact ⟨(x5_1), (x6_1), (by first | rfl | (simp; done) | (simp [*]; done)), H', ⟨Nat.le_refl _⟩, ⟨by (try simp only [hl5_1]); exact RR HO_5⟩, ⟨BB HB⟩⟩
       case round =>
        clear H'
        (try clear c1); (try clear p1); (try clear q1); (try clear hx1); (try clear hf1); (try clear c2); (try clear p2); (try clear c3); (try clear c3b0); (try clear c3b1); (try clear c4); (try clear c4b0); (try clear c4b1); (try clear c5); (try clear c5b0); (try clear c5b1); (try clear p6); (try clear c10); (try clear c10b0); (try clear c11); (try clear c11b0); (try clear p11); (try clear q11); (try clear hx11); (try clear c12); (try clear c12b0); (try clear p12); (try clear q12); (try clear hx12); (try clear p13); (try clear q13); (try clear hx13); (try clear hf13); (try clear c14); (try clear c14b0); (try clear c15); (try clear c16); (try clear c16b0); (try clear c16b1); (try clear hx119_0); (try clear hx120_0); (try clear hx121_0); (try clear hx13_0); (try clear p119); (try clear p120); (try clear p121); (try clear p13); (try clear p2); (try clear q119); (try clear q120); (try clear q121); (try clear q13)
        obtain ⟨x5_2, x9_2, rfl, HA, HK2, HO_5, HB⟩ := hrel
        have hl5_2 := (Kd.R_reads' HO_5.out).1
        rw [hl5_2] at HO_5
        (try simp only [hl5_2])
        cases gk with
        | zero => exact absurd HA.out (by simp [order_Visual.l1])
        | succ k2 =>
         have H := HA.out
         clear HA
         simp only [order_Visual.l1] at H
         by_cases c22 : x9_2 ≥ x7_1
         ·rw [if_pos c22] at H; have c22b0 : decide (x7_1 ≤ x9_2) = true := decide_eq_true c22; clear c22
          have H' := Aside0.mk H
          clear H
          go_wp2
          go_loopg [10] k2 (fun kq v10 w' => ∃ (x5_3 : List Int) (x10_3 : Int), v10 = .int .i64 x10_3 ∧ Aside0 (order_Visual.l2 kq l0 x5_3 x7_1 x9_2 x10_3 = some (r1, r2)) ∧ Aside0 (kq ≤ k2) ∧ Aside0 (Kd.R (Kd.int .i64) 3 w' w.heap.size (fun _ => True) (.slice Ao9 x5_2.length co9) x5_3) ∧ Aside0 (Below w.heap.size w w'))
          case atStart => exact ⟨(x5_2), (0), (by first | rfl | (simp; done) | (simp [*]; done)), H', ⟨Nat.le_refl _⟩, ⟨by (try simp only [hl5_1]); (try simp only [hl5_2]); exact RR HO_5⟩, ⟨BB HB⟩⟩
          case round =>
           clear H'
           (try clear c1); (try clear p1); (try clear q1); (try clear hx1); (try clear hf1); (try clear c2); (try clear p2); (try clear c3); (try clear c3b0); (try clear c3b1); (try clear c4); (try clear c4b0); (try clear c4b1); (try clear c5); (try clear c5b0); (try clear c5b1); (try clear p6); (try clear c10); (try clear c10b0); (try clear c11); (try clear c11b0); (try clear p11); (try clear q11); (try clear hx11); (try clear c12); (try clear c12b0); (try clear p12); (try clear q12); (try clear hx12); (try clear p13); (try clear q13); (try clear hx13); (try clear hf13); (try clear c14); (try clear c14b0); (try clear c15); (try clear c16); (try clear c16b0); (try clear c16b1); (try clear c22); (try clear c22b0); (try clear hx119_0); (try clear hx120_0); (try clear hx121_0); (try clear hx13_0); (try clear p1); (try clear p11); (try clear p119); (try clear p12); (try clear p120); (try clear p121); (try clear p13); (try clear p2); (try clear p6); (try clear q1); (try clear q11); (try clear q119); (try clear q12); (try clear q120); (try clear q121); (try clear q13)
           obtain ⟨x5_3, x10_3, rfl, HA, HK3, HO_5, HB⟩ := hrel
           have hl5_3 := (Kd.R_reads' HO_5.out).1
           rw [hl5_3] at HO_5
           (try simp only [hl5_3])
           cases gk with
           | zero => exact absurd HA.out (by simp [order_Visual.l2])
           | succ k3 =>
            have H := HA.out
            clear HA
            simp only [order_Visual.l2] at H
            by_cases c23 : x10_3 < (l0.length : Int)
            ·rw [if_pos c23] at H; have c23b0 : decide (x10_3 < (l0.length : Int)) = true := decide_eq_true c23; clear c23
             have H' := Aside0.mk H
             clear H
             go_wp2
             go_loopg [11] k3 (fun kq v11 w' => ∃ (x11_4 : Int), v11 = .int .i64 x11_4 ∧ Aside0 (order_Visual.l3 kq l0 x5_3 x7_1 x9_2 x10_3 x11_4 = some (r1, r2)) ∧ Aside0 (kq ≤ k3) ∧ Aside0 (Kd.R (Kd.int .i64) 3 w' w.heap.size (fun _ => True) (.slice Ao9 x5_3.length co9) x5_3) ∧ Aside0 (Below w.heap.size w w'))
             case atStart => exact ⟨(x10_3), (by first | rfl | (simp; done) | (simp [*]; done)), H', ⟨Nat.le_refl _⟩, ⟨by (try simp only [hl5_1]); (try simp only [hl5_2]); (try simp only [hl5_3]); exact RR HO_5⟩, ⟨BB HB⟩⟩
             case round =>
              clear H'
              (try clear c1); (try clear p1); (try clear q1); (try clear hx1); (try clear hf1); (try clear c2); (try clear p2); (try clear c3); (try clear c3b0); (try clear c3b1); (try clear c4); (try clear c4b0); (try clear c4b1); (try clear c5); (try clear c5b0); (try clear c5b1); (try clear p6); (try clear c10); (try clear c10b0); (try clear c11); (try clear c11b0); (try clear p11); (try clear q11); (try clear hx11); (try clear c12); (try clear c12b0); (try clear p12); (try clear q12); (try clear hx12); (try clear p13); (try clear q13); (try clear hx13); (try clear hf13); (try clear c14); (try clear c14b0); (try clear c15); (try clear c16); (try clear c16b0); (try clear c16b1); (try clear c22); (try clear c22b0); (try clear c23); (try clear c23b0); (try clear hx119_0); (try clear hx120_0); (try clear hx121_0); (try clear hx13_0); (try clear p1); (try clear p11); (try clear p119); (try clear p12); (try clear p120); (try clear p121); (try clear p13); (try clear p2); (try clear p6); (try clear q1); (try clear q11); (try clear q119); (try clear q12); (try clear q120); (try clear q121); (try clear q13)
              obtain ⟨x11_4, rfl, HA, HK4, HO_5, HB⟩ := hrel
              cases gk with
              | zero => exact absurd HA.out (by simp [order_Visual.l3])
              | succ k4 =>
               have H := HA.out
               clear HA
               simp only [order_Visual.l3] at H
               by_cases c24 : x11_4 < (l0.length : Int)
               ·rw [if_pos c24] at H; have c24b0 : decide (x11_4 < (l0.length : Int)) = true := decide_eq_true c24; clear c24; by_cases c25 : 0 ≤ x11_4
                ·rw [if_pos c25] at H; have c25b0 : decide (0 ≤ x11_4) = true := decide_eq_true c25; clear c25; by_cases c26 : (rd l0 x11_4) ≥ x9_2
                 ·rw [if_pos c26] at H; have c26b0 : decide (x9_2 ≤ (rd l0 x11_4)) = true := decide_eq_true c26; clear c26
                  have H' := Aside0.mk H
                  clear H
                  have p122 : 0 ≤ (x11_4 : Int) := of_decide_eq_true (by first | (with_reducible assumption) | assumption)
                  have q122 : x11_4 < (l0.length : Int) := of_decide_eq_true (by first | (with_reducible assumption) | assumption)
                  obtain ⟨ad122, e122, hx122_0⟩ := Kd.at_int HR0.out x11_4 p122 q122
                  cases e122
                  replace hx122_0 := (HB.out.cell (World.block_lt_of_cell? w _ hx122_0)).trans hx122_0
                  replace p122 := eq_true p122; replace q122 := eq_true q122
                  go_wp2
                  go_roundg k4
                  case measure => have := HK1.out; have := HK2.out; have := HK3.out; have := HK4.out; omega
                  case rel => exact ⟨(wrap64 (x11_4 + 1)), (by first | rfl | (simp; done) | (simp [*]; done)), H', ⟨by have := HK1.out; have := HK2.out; have := HK3.out; have := HK4.out; omega⟩, ⟨by (try simp only [hl5_1]); (try simp only [hl5_2]); (try simp only [hl5_3]); exact RR HO_5⟩, ⟨BB HB⟩⟩
                 ·rw [if_neg c26] at H; have c26b0 : decide (x9_2 ≤ (rd l0 x11_4)) = false := decide_eq_false c26; clear c26; by_cases c27 : 0 ≤ x10_3
                  ·rw [if_pos c27] at H
                   have c27b0 := eq_true c27
                   have c27b1 : decide (0 ≤ x10_3) = true := decide_eq_true c27; clear c27; by_cases c28 : x10_3 ≤ x11_4
                   ·rw [if_pos c28] at H
                    have c28b0 := eq_true c28
                    have c28b1 : decide (x10_3 ≤ x11_4) = true := decide_eq_true c28; clear c28; by_cases c29 : x11_4 ≤ (x5_3.length : Int)
                    ·rw [if_pos c29] at H
                     have c29b0 := eq_true c29
                     have c29b1 : decide (x11_4 ≤ (x5_3.length : Int)) = true := decide_eq_true c29; clear c29
                     obtain ⟨y123, hy123⟩ : ∃ y_ : List Int, y_ = (revPart x5_3 (x10_3 : Int).toNat (x11_4 : Int).toNat) := ⟨_, rfl⟩
                     replace H : (order_Visual.l2 k4 l0 y123 x7_1 x9_2 (wrap64 (x11_4 + 1))) = some (r1, r2) := by first | (rw [hy123]; with_reducible exact H) | (have H2_ := (Option.bind_some _ _).symm.trans H; rw [hy123]; with_reducible exact H2_) | (have H2_ := (Option.bind_some _ _).symm.trans H; with_reducible exact H2_) | with_reducible exact H | (rw [hy123]; exact H) | exact H
                     have Ny123 := Aside0.mk hy123; clear hy123
                     have H' := Aside0.mk H
                     clear H
                     have p122 : 0 ≤ (x11_4 : Int) := of_decide_eq_true (by first | (with_reducible assumption) | assumption)
                     have q122 : x11_4 < (l0.length : Int) := of_decide_eq_true (by first | (with_reducible assumption) | assumption)
                     obtain ⟨ad122, e122, hx122_0⟩ := Kd.at_int HR0.out x11_4 p122 q122
                     cases e122
                     replace hx122_0 := (HB.out.cell (World.block_lt_of_cell? w _ hx122_0)).trans hx122_0
                     replace p122 := eq_true p122; replace q122 := eq_true q122
                     have qa30 : 0 ≤ (x10_3 : Int) := of_decide_eq_true (by first | (with_reducible assumption) | assumption)
                     have qb30 : (x10_3 : Int) ≤ (x11_4 : Int) := of_decide_eq_true (by first | (with_reducible assumption) | assumption)
                     have qc30 : (x11_4 : Int) ≤ ((x5_3.length : Int) : Int) := of_decide_eq_true (by first | (with_reducible assumption) | assumption)
                     obtain ⟨i030, hi030, _, hsz30, _⟩ := info_parts info3
                     have hn30 := Kd.R_reads' HO_5.out
                     have hcut30 := cut_mid3 (P := Tryd.prog) 30 3 .i64 .i64 .i64 Tryd.underlying30 hi030 1 hsz30 Ao9 x5_3.length co9 x10_3 x11_4 qa30 qb30 (by first | exact qc30 | (have e_ := hn30.1; omega)) hn30.2.1
                     obtain ⟨A30, hA30⟩ : ∃ A1, A1 = (if (x11_4 : Int).toNat = (x10_3 : Int).toNat then Ao9 else (Ao9 : Option Addr).map (·.add ((x10_3 : Int).toNat * 1))) := ⟨_, rfl⟩
                     obtain ⟨n30, hN30⟩ : ∃ n1, n1 = (x11_4 : Int).toNat - (x10_3 : Int).toNat := ⟨_, rfl⟩
                     rw [← hA30, ← hN30] at hcut30
                     have HRV30 := Aside0.mk (slices_Reverse_int_int.any _ _ _ Ao9 x5_3.length co9 x5_3 x10_3 x11_4 HO_5.out qa30 qb30 (by first | exact qc30 | (have e_ := hn30.1; omega)) A30 hA30 n30 hN30)
                     clear hn30 hi030 hsz30 qa30 qb30 qc30 hA30 hN30
                     go_wp2_with (first | (go_at_call 32; (with_reducible refine HRV30.out.mono ?_); rintro e w31 ⟨rfl, hp_, hg⟩; rw [← Ny123.out] at hp_; clear HRV30; have n0_ := Aside0.mk (hp_); have n1_ := Aside0.mk ((pw_below_grown HB.out _ (below_size HB.out) hg (Kd.R_base HO_5.out) : Below w.heap.size w w31)); clear HO_5; clear HB; have HO_5 := n0_; have HB := n1_; clear n0_ n1_; clear hg hp_))
                     (try simp only [← hl5_3])
                     go_roundg k4
                     case measure => have := HK1.out; have := HK2.out; have := HK3.out; have := HK4.out; omega
                     case rel => exact ⟨(y123), (wrap64 (x11_4 + 1)), (by first | rfl | (simp; done) | (simp [*]; done)), H', ⟨by have := HK1.out; have := HK2.out; have := HK3.out; have := HK4.out; omega⟩, ⟨by (try simp only [hl5_1]); (try simp only [hl5_2]); (try simp only [hl5_3]); exact RR HO_5⟩, ⟨BB HB⟩⟩
                    ·rw [if_neg c29] at H
                     exact absurd H (by simp)
                   ·rw [if_neg c28] at H
                    exact absurd H (by simp)
                  ·rw [if_neg c27] at H
                   exact absurd H (by simp)
                ·rw [if_neg c25] at H
                 exact absurd H (by simp)
               ·rw [if_neg c24] at H; have c24b0 : decide (x11_4 < (l0.length : Int)) = false := decide_eq_false c24; clear c24; by_cases c32 : 0 ≤ x10_3
                ·rw [if_pos c32] at H
                 have c32b0 := eq_true c32
                 have c32b1 : decide (0 ≤ x10_3) = true := decide_eq_true c32; clear c32; by_cases c33 : x10_3 ≤ x11_4
                 ·rw [if_pos c33] at H
                  have c33b0 := eq_true c33
                  have c33b1 : decide (x10_3 ≤ x11_4) = true := decide_eq_true c33; clear c33; by_cases c34 : x11_4 ≤ (x5_3.length : Int)
                  ·rw [if_pos c34] at H
                   have c34b0 := eq_true c34
                   have c34b1 : decide (x11_4 ≤ (x5_3.length : Int)) = true := decide_eq_true c34; clear c34
                   obtain ⟨y124, hy124⟩ : ∃ y_ : List Int, y_ = (revPart x5_3 (x10_3 : Int).toNat (x11_4 : Int).toNat) := ⟨_, rfl⟩
                   replace H : (order_Visual.l2 k4 l0 y124 x7_1 x9_2 (wrap64 (x11_4 + 1))) = some (r1, r2) := by first | (rw [hy124]; with_reducible exact H) | (have H2_ := (Option.bind_some _ _).symm.trans H; rw [hy124]; with_reducible exact H2_) | (have H2_ := (Option.bind_some _ _).symm.trans H; with_reducible exact H2_) | with_reducible exact H | (rw [hy124]; exact H) | exact H
                   have Ny124 := Aside0.mk hy124; clear hy124
                   have H' := Aside0.mk H
                   clear H
                   have qa35 : 0 ≤ (x10_3 : Int) := of_decide_eq_true (by first | (with_reducible assumption) | assumption)
                   have qb35 : (x10_3 : Int) ≤ (x11_4 : Int) := of_decide_eq_true (by first | (with_reducible assumption) | assumption)
                   have qc35 : (x11_4 : Int) ≤ ((x5_3.length : Int) : Int) := of_decide_eq_true (by first | (with_reducible assumption) | assumption)
                   obtain ⟨i035, hi035, _, hsz35, _⟩ := info_parts info3
                   have hn35 := Kd.R_reads' HO_5.out
                   have hcut35 := cut_mid3 (P := Tryd.prog) 30 3 .i64 .i64 .i64 Tryd.underlying30 hi035 1 hsz35 Ao9 x5_3.length co9 x10_3 x11_4 qa35 qb35 (by first | exact qc35 | (have e_ := hn35.1; omega)) hn35.2.1
                   obtain ⟨A35, hA35⟩ : ∃ A1, A1 = (if (x11_4 : Int).toNat = (x10_3 : Int).toNat then Ao9 else (Ao9 : Option Addr).map (·.add ((x10_3 : Int).toNat * 1))) := ⟨_, rfl⟩
                   obtain ⟨n35, hN35⟩ : ∃ n1, n1 = (x11_4 : Int).toNat - (x10_3 : Int).toNat := ⟨_, rfl⟩
                   rw [← hA35, ← hN35] at hcut35
                   have HRV35 := Aside0.mk (slices_Reverse_int_int.any _ _ _ Ao9 x5_3.length co9 x5_3 x10_3 x11_4 HO_5.out qa35 qb35 (by first | exact qc35 | (have e_ := hn35.1; omega)) A35 hA35 n35 hN35)
                   clear hn35 hi035 hsz35 qa35 qb35 qc35 hA35 hN35
                   go_wp2_with (first | (go_at_call 32; (with_reducible refine HRV35.out.mono ?_); rintro e w36 ⟨rfl, hp_, hg⟩; rw [← Ny124.out] at hp_; clear HRV35; have n0_ := Aside0.mk (hp_); have n1_ := Aside0.mk ((pw_below_grown HB.out _ (below_size HB.out) hg (Kd.R_base HO_5.out) : Below w.heap.size w w36)); clear HO_5; clear HB; have HO_5 := n0_; have HB := n1_; clear n0_ n1_; clear hg hp_))
                   (try simp only [← hl5_3])
                   go_roundg k4
                   case measure => have := HK1.out; have := HK2.out; have := HK3.out; have := HK4.out; omega
                   case rel => exact ⟨(y124), (wrap64 (x11_4 + 1)), (by first | rfl | (simp; done) | (simp [*]; done)), H', ⟨by have := HK1.out; have := HK2.out; have := HK3.out; have := HK4.out; omega⟩, ⟨by (try simp only [hl5_1]); (try simp only [hl5_2]); (try simp only [hl5_3]); exact RR HO_5⟩, ⟨BB HB⟩⟩
                  ·rw [if_neg c34] at H
                   exact absurd H (by simp)
                 ·rw [if_neg c33] at H
                  exact absurd H (by simp)
                ·rw [if_neg c32] at H
                 exact absurd H (by simp)
            ·rw [if_neg c23] at H; have c23b0 : decide (x10_3 < (l0.length : Int)) = false := decide_eq_false c23; clear c23
             have H' := Aside0.mk H
             clear H
             go_wp2
             (try simp only [← hl5_2, ← hl5_3])
             go_roundg k3
             case measure => have := HK1.out; have := HK2.out; have := HK3.out; omega
             case rel => exact ⟨(x5_3), ((x9_2 - 1) % 256), (by first | rfl | (simp; done) | (simp [*]; done)), H', ⟨by have := HK1.out; have := HK2.out; have := HK3.out; omega⟩, ⟨by (try simp only [hl5_1]); (try simp only [hl5_2]); (try simp only [hl5_3]); exact RR HO_5⟩, ⟨BB HB⟩⟩
         ·rw [if_neg c22] at H; have c22b0 : decide (x7_1 ≤ x9_2) = false := decide_eq_false c22; clear c22
          simp only [Option.some.injEq, Prod.mk.injEq] at H
          obtain ⟨rfl, rfl⟩ := H
          go_wp2
          go_ret2
          exact ⟨_, FF, RR HO_5, BB HB⟩
   ·rw [if_neg c5] at H
    exact absurd H (by simp)
  ·rw [if_neg c4] at H
   exact absurd H (by simp)
 ·rw [if_neg c3] at H; have c3b0 : (t114 == 0) = false := beq_eq_false_iff_ne.mpr c3; have c3b1 : (t114 != 0) = true := bne_iff_ne.mpr c3
  simp only [Option.some.injEq, Prod.mk.injEq] at H
  obtain ⟨rfl, rfl⟩ := H
  go_enter Tryd.func15, Tryd.ntmps15
  go_wp2_with (first | ((with_reducible refine gate_callee (f := 25) rfl ?_); refine goesL_ (some 13) rfl rfl Tryd.func25 (by kernel_rfl) rfl #[.slice A0 l0.length c0] rfl (by (try simp only [List.map_toArray, List.map_cons, List.map_nil]); first | done | rfl | (simp only [List.length_drop, List.length_take]; rfl)) ?_; (with_reducible refine (order_right.calls k _ _ l0 t114 _ ?side1 ?side2 A2.out).mono ?_); (case side1 => repeat (first | exact HR0.out | (with_reducible refine Kd.C_alloc ?_ _) | (with_reducible refine Kd.C_drewN ?_ _) | (with_reducible refine Kd.C_drew ?_))); (case side2 => exact HC0.out); rintro e w37 ⟨rfl, hb⟩; refine ⟨_, rfl, ?_⟩; have n0_ := Aside0.mk (below_step (BB HB) hb); clear HB; have HB := n0_; clear n0_; (try clear hb); (try clear hb2); (try clear hk); (try clear hi)))
  go_ret2
  exact ⟨_, FF, by first | exact Kd.R_nil _ _ _ _ _ | exact Kd.N_nil _ _ _ _ _ | exact Kd.V_nil _ _ _ _ _ | exact Kd.Q_nil _ _ _ _ _ | exact Kd.S_nil _ _ _ _ _, BB HB⟩
end Go.Proofs.YtgfkbijmchoolaaDoor.P
